/- The plain law: what the functions compute answers as the statement says. -/
import Derived.Test.YtihjlmgakpgkeaaDoorERipenReward
import Derived.Test.YtihjlmgakpgkeaaDoorVArgs
namespace Go.Proofs.YtihjlmgakpgkeaaDoor.RipenReward
open Go Go.Proofs.YtihjlmgakpgkeaaDoor.V
set_option linter.unusedVariables false
set_option maxRecDepth 20000
def wf_si (x:K_si):Prop:=x.f0.size≤140737488351232∧(Lit.int .i64 x.f1).wf=true
theorem un_si {bs:List B} (h:Sh.okL [.str,.int .i64] bs):∃x:K_si,bs=[(.val (.string x.f0)),(.val (.int .i64 x.f1))]∧wf_si x:=by
  obtain⟨b0,m0,rfl,o0,h0⟩:=h
  obtain⟨x0,rfl,w0⟩:∃z:ByteArray,b0=.val (.string z)∧z.size≤140737488351232:=by
    cases b0 with
    |val v=>cases v<;>first | exact⟨_,rfl,o0⟩ | exact o0.elim
    |sl r=>exact o0.elim
  obtain⟨b1,m1,rfl,o1,h1⟩:=h0
  obtain⟨x1,rfl,w1⟩:∃z:Int,b1=.val (.int .i64 z)∧(Lit.int .i64 z).wf=true:=by
    cases b1 with
    |val v=>
      cases v<;>first | exact o1.elim |(obtain⟨rfl,w⟩:=o1; exact⟨_,rfl,w⟩)
    |sl r=>exact o1.elim
  obtain rfl:=h1
  exact⟨⟨x0,x1⟩,rfl,⟨w0,w1⟩⟩
theorem os_wf_si (x:K_si) (w:wf_si x):os_si x:=w.1
theorem uns_si:∀ {rows:List (List B)},(∀r∈rows,Sh.okL [.str,.int .i64] r)→∃z:List K_si,rows=z.map b_si∧∀u∈z,wf_si u
  |[],_=>⟨[],rfl,fun u h=>(by cases h)⟩
  |r::rows,h=>by
    obtain⟨x,e,w⟩:=un_si (h r (List.mem_cons_self ..))
    obtain⟨z,rfl,hz⟩:=uns_si (fun r hr=>h r (List.mem_cons_of_mem _ hr))
    refine⟨x::z,by rw[e]; rfl,fun u hu=>?_⟩
    rcases List.mem_cons.1 hu with rfl | hu
    · exact w
    · exact hz u hu
def wf_R (x:K_R):Prop:=(Lit.int .i64 x.f0).wf=true∧(Lit.int .i64 x.f1).wf=true∧(Lit.int .i64 x.f2).wf=true∧(x.f3.length*24≤140737488351232∧∀z∈x.f3,wf_si z)∧(Lit.int .i64 x.f4).wf=true
theorem un_R {bs:List B} (h:Sh.okL [.int .i64,.int .i64,.int .i64,.sl [.str,.int .i64] 24,.int .i64] bs):∃x:K_R,bs=[(.val (.int .i64 x.f0)),(.val (.int .i64 x.f1)),(.val (.int .i64 x.f2)),(.sl (List.map b_si x.f3)),(.val (.int .i64 x.f4))]∧wf_R x:=by
  obtain⟨b0,m0,rfl,o0,h0⟩:=h
  obtain⟨x0,rfl,w0⟩:∃z:Int,b0=.val (.int .i64 z)∧(Lit.int .i64 z).wf=true:=by
    cases b0 with
    |val v=>
      cases v<;>first | exact o0.elim |(obtain⟨rfl,w⟩:=o0; exact⟨_,rfl,w⟩)
    |sl r=>exact o0.elim
  obtain⟨b1,m1,rfl,o1,h1⟩:=h0
  obtain⟨x1,rfl,w1⟩:∃z:Int,b1=.val (.int .i64 z)∧(Lit.int .i64 z).wf=true:=by
    cases b1 with
    |val v=>
      cases v<;>first | exact o1.elim |(obtain⟨rfl,w⟩:=o1; exact⟨_,rfl,w⟩)
    |sl r=>exact o1.elim
  obtain⟨b2,m2,rfl,o2,h2⟩:=h1
  obtain⟨x2,rfl,w2⟩:∃z:Int,b2=.val (.int .i64 z)∧(Lit.int .i64 z).wf=true:=by
    cases b2 with
    |val v=>
      cases v<;>first | exact o2.elim |(obtain⟨rfl,w⟩:=o2; exact⟨_,rfl,w⟩)
    |sl r=>exact o2.elim
  obtain⟨b3,m3,rfl,o3,h3⟩:=h2
  obtain⟨x3,rfl,w3⟩:∃z:(List K_si),b3=.sl (z.map b_si)∧z.length*24≤140737488351232∧∀u∈z,wf_si u:=by
    cases b3 with
    |val v=>cases v<;>exact o3.elim
    |sl r=>
      obtain⟨z,rfl,hz⟩:=uns_si o3.2
      exact⟨z,rfl,by simpa using o3.1,hz⟩
  obtain⟨b4,m4,rfl,o4,h4⟩:=h3
  obtain⟨x4,rfl,w4⟩:∃z:Int,b4=.val (.int .i64 z)∧(Lit.int .i64 z).wf=true:=by
    cases b4 with
    |val v=>
      cases v<;>first | exact o4.elim |(obtain⟨rfl,w⟩:=o4; exact⟨_,rfl,w⟩)
    |sl r=>exact o4.elim
  obtain rfl:=h4
  exact⟨⟨x0,x1,x2,x3,x4⟩,rfl,⟨w0,w1,w2,w3,w4⟩⟩
theorem ok_wf_R (x:K_R) (w:wf_R x):ok_R x:=w.2.2.2.1.1
theorem os_wf_R (x:K_R) (w:wf_R x):os_R x:=⟨w.2.2.2.1.1,fun z hz=>os_wf_si z (w.2.2.2.1.2 z hz)⟩
theorem uns_R:∀ {rows:List (List B)},(∀r∈rows,Sh.okL [.int .i64,.int .i64,.int .i64,.sl [.str,.int .i64] 24,.int .i64] r)→∃z:List K_R,rows=z.map b_R∧∀u∈z,wf_R u
  |[],_=>⟨[],rfl,fun u h=>(by cases h)⟩
  |r::rows,h=>by
    obtain⟨x,e,w⟩:=un_R (h r (List.mem_cons_self ..))
    obtain⟨z,rfl,hz⟩:=uns_R (fun r hr=>h r (List.mem_cons_of_mem _ hr))
    refine⟨x::z,by rw[e]; rfl,fun u hu=>?_⟩
    rcases List.mem_cons.1 hu with rfl | hu
    · exact w
    · exact hz u hu
def wf_B (x:K_B):Prop:=(Lit.int .i64 x.f0).wf=true∧(Lit.int .i64 x.f1).wf=true∧(x.f2.length*24≤140737488351232∧∀z∈x.f2,wf_si z)∧(x.f3.length*56≤140737488351232∧∀z∈x.f3,wf_R z)∧(x.f4.length*24≤140737488351232∧∀z∈x.f4,wf_si z)∧(Lit.int .i64 x.f5).wf=true∧(Lit.int .i64 x.f6).wf=true∧(Lit.int .i64 x.f7).wf=true
theorem un_B {bs:List B} (h:Sh.okL [.int .i64,.int .i64,.sl [.str,.int .i64] 24,.sl [.int .i64,.int .i64,.int .i64,.sl [.str,.int .i64] 24,.int .i64] 56,.sl [.str,.int .i64] 24,.int .i64,.int .i64,.int .i64] bs):∃x:K_B,bs=[(.val (.int .i64 x.f0)),(.val (.int .i64 x.f1)),(.sl (List.map b_si x.f2)),(.sl (List.map b_R x.f3)),(.sl (List.map b_si x.f4)),(.val (.int .i64 x.f5)),(.val (.int .i64 x.f6)),(.val (.int .i64 x.f7))]∧wf_B x:=by
  obtain⟨b0,m0,rfl,o0,h0⟩:=h
  obtain⟨x0,rfl,w0⟩:∃z:Int,b0=.val (.int .i64 z)∧(Lit.int .i64 z).wf=true:=by
    cases b0 with
    |val v=>
      cases v<;>first | exact o0.elim |(obtain⟨rfl,w⟩:=o0; exact⟨_,rfl,w⟩)
    |sl r=>exact o0.elim
  obtain⟨b1,m1,rfl,o1,h1⟩:=h0
  obtain⟨x1,rfl,w1⟩:∃z:Int,b1=.val (.int .i64 z)∧(Lit.int .i64 z).wf=true:=by
    cases b1 with
    |val v=>
      cases v<;>first | exact o1.elim |(obtain⟨rfl,w⟩:=o1; exact⟨_,rfl,w⟩)
    |sl r=>exact o1.elim
  obtain⟨b2,m2,rfl,o2,h2⟩:=h1
  obtain⟨x2,rfl,w2⟩:∃z:(List K_si),b2=.sl (z.map b_si)∧z.length*24≤140737488351232∧∀u∈z,wf_si u:=by
    cases b2 with
    |val v=>cases v<;>exact o2.elim
    |sl r=>
      obtain⟨z,rfl,hz⟩:=uns_si o2.2
      exact⟨z,rfl,by simpa using o2.1,hz⟩
  obtain⟨b3,m3,rfl,o3,h3⟩:=h2
  obtain⟨x3,rfl,w3⟩:∃z:(List K_R),b3=.sl (z.map b_R)∧z.length*56≤140737488351232∧∀u∈z,wf_R u:=by
    cases b3 with
    |val v=>cases v<;>exact o3.elim
    |sl r=>
      obtain⟨z,rfl,hz⟩:=uns_R o3.2
      exact⟨z,rfl,by simpa using o3.1,hz⟩
  obtain⟨b4,m4,rfl,o4,h4⟩:=h3
  obtain⟨x4,rfl,w4⟩:∃z:(List K_si),b4=.sl (z.map b_si)∧z.length*24≤140737488351232∧∀u∈z,wf_si u:=by
    cases b4 with
    |val v=>cases v<;>exact o4.elim
    |sl r=>
      obtain⟨z,rfl,hz⟩:=uns_si o4.2
      exact⟨z,rfl,by simpa using o4.1,hz⟩
  obtain⟨b5,m5,rfl,o5,h5⟩:=h4
  obtain⟨x5,rfl,w5⟩:∃z:Int,b5=.val (.int .i64 z)∧(Lit.int .i64 z).wf=true:=by
    cases b5 with
    |val v=>
      cases v<;>first | exact o5.elim |(obtain⟨rfl,w⟩:=o5; exact⟨_,rfl,w⟩)
    |sl r=>exact o5.elim
  obtain⟨b6,m6,rfl,o6,h6⟩:=h5
  obtain⟨x6,rfl,w6⟩:∃z:Int,b6=.val (.int .i64 z)∧(Lit.int .i64 z).wf=true:=by
    cases b6 with
    |val v=>
      cases v<;>first | exact o6.elim |(obtain⟨rfl,w⟩:=o6; exact⟨_,rfl,w⟩)
    |sl r=>exact o6.elim
  obtain⟨b7,m7,rfl,o7,h7⟩:=h6
  obtain⟨x7,rfl,w7⟩:∃z:Int,b7=.val (.int .i64 z)∧(Lit.int .i64 z).wf=true:=by
    cases b7 with
    |val v=>
      cases v<;>first | exact o7.elim |(obtain⟨rfl,w⟩:=o7; exact⟨_,rfl,w⟩)
    |sl r=>exact o7.elim
  obtain rfl:=h7
  exact⟨⟨x0,x1,x2,x3,x4,x5,x6,x7⟩,rfl,⟨w0,w1,w2,w3,w4,w5,w6,w7⟩⟩
theorem ok_wf_B (x:K_B) (w:wf_B x):ok_B x:=⟨w.2.2.1.1,w.2.2.2.1.1,fun z hz=>ok_wf_R z (w.2.2.2.1.2 z hz),w.2.2.2.2.1.1⟩
theorem os_wf_B (x:K_B) (w:wf_B x):os_B x:=⟨w.2.2.1.1,fun z hz=>os_wf_si z (w.2.2.1.2 z hz),w.2.2.2.1.1,fun z hz=>os_wf_R z (w.2.2.2.1.2 z hz),w.2.2.2.2.1.1,fun z hz=>os_wf_si z (w.2.2.2.2.1.2 z hz)⟩
theorem uns_B:∀ {rows:List (List B)},(∀r∈rows,Sh.okL [.int .i64,.int .i64,.sl [.str,.int .i64] 24,.sl [.int .i64,.int .i64,.int .i64,.sl [.str,.int .i64] 24,.int .i64] 56,.sl [.str,.int .i64] 24,.int .i64,.int .i64,.int .i64] r)→∃z:List K_B,rows=z.map b_B∧∀u∈z,wf_B u
  |[],_=>⟨[],rfl,fun u h=>(by cases h)⟩
  |r::rows,h=>by
    obtain⟨x,e,w⟩:=un_B (h r (List.mem_cons_self ..))
    obtain⟨z,rfl,hz⟩:=uns_B (fun r hr=>h r (List.mem_cons_of_mem _ hr))
    refine⟨x::z,by rw[e]; rfl,fun u hu=>?_⟩
    rcases List.mem_cons.1 hu with rfl | hu
    · exact w
    · exact hz u hu
def wf_i (x:Int):Prop:=(Lit.int .i64 x).wf=true
theorem un_i {bs:List B} (h:Sh.okL [.int .i64] bs):∃x:Int,bs=[(.val (.int .i64 x))]∧wf_i x:=by
  obtain⟨b0,m0,rfl,o0,h0⟩:=h
  obtain⟨x0,rfl,w0⟩:∃z:Int,b0=.val (.int .i64 z)∧(Lit.int .i64 z).wf=true:=by
    cases b0 with
    |val v=>
      cases v<;>first | exact o0.elim |(obtain⟨rfl,w⟩:=o0; exact⟨_,rfl,w⟩)
    |sl r=>exact o0.elim
  obtain rfl:=h0
  exact⟨x0,rfl,w0⟩
theorem uns_i:∀ {rows:List (List B)},(∀r∈rows,Sh.okL [.int .i64] r)→∃z:List Int,rows=z.map b_i∧∀u∈z,wf_i u
  |[],_=>⟨[],rfl,fun u h=>(by cases h)⟩
  |r::rows,h=>by
    obtain⟨x,e,w⟩:=un_i (h r (List.mem_cons_self ..))
    obtain⟨z,rfl,hz⟩:=uns_i (fun r hr=>h r (List.mem_cons_of_mem _ hr))
    refine⟨x::z,by rw[e]; rfl,fun u hu=>?_⟩
    rcases List.mem_cons.1 hu with rfl | hu
    · exact w
    · exact hz u hu
theorem in_iff (a b c:Int):m45 a b c=true↔b≤a∧a≤c:=by
  unfold m45; split<;>simp_all<;>omega
theorem l1In_iff (a b c:Int):m105 a b c=true↔b≤a∧a≤c:=by
  unfold m105; split<;>simp_all<;>omega
theorem in_eq (a b c:Int):m45 a b c=m105 a b c:=by
  rw[Bool.eq_iff_iff,in_iff,l1In_iff]

theorem letter_iff (c:Int):m140 c=true↔(97≤c∧c≤122)∨(65≤c∧c≤90)∨(48≤c∧c≤57):=by
  unfold m140
  (repeat' split)<;>simp_all<;>omega
def signs:ByteArray:=⟨#[97,98,99,100,101,102,103,104,105,106,107,108,109,110,111,112,113,114,115,116,117,118,119,120,121,122,65,66,67,68,69,70,71,72,73,74,75,76,77,78,79,80,81,82,83,84,85,86,87,88,89,90,48,49,50,51,52,53,54,55,56,57]⟩
theorem signs_iff (b:UInt8):signs.data.toList.contains b=m140 (b.toNat:Int):=by
  have key:∀n:Fin 256,signs.data.toList.contains (UInt8.ofNat n.val)=m140 ((UInt8.ofNat n.val).toNat:Int):=by decide+kernel
  have:=key ⟨b.toNat,b.toNat_lt⟩
  simpa using this
theorem dw_bad {p:UInt8→Bool} {b:UInt8} (hp:p b=false):∀ {l:List UInt8},b∈l→b∈l.dropWhile p
  |x::l,h=>by
    simp only[List.dropWhile]
    cases hx:p x with
    |true=>
      rcases List.mem_cons.1 h with rfl | h
      · rw[hp] at hx; cases hx
      · exact dw_bad hp h
    |false=>exact h
theorem dw_nil {p:UInt8→Bool}:∀ {l:List UInt8},(∀b∈l,p b=true)→l.dropWhile p=[]
  |[],_=>rfl
  |x::l,h=>by
    simp only[List.dropWhile,h x (List.mem_cons_self ..)]
    exact dw_nil fun b hb=>h b (List.mem_cons_of_mem _ hb)
theorem trim_nil (l cs:List UInt8):Lib.trimS l cs=[]↔∀b∈l,cs.contains b=true:=by
  unfold Lib.trimS Lib.trimLeftS Lib.trimRightS
  constructor
  · intro h b hb
    cases hc:cs.contains b with
    |true=>rfl
    |false=>
      have h1:=dw_bad (p:=(cs.contains ·)) hc (List.mem_reverse.2 hb)
      have h2:=dw_bad (p:=(cs.contains ·)) hc (List.mem_reverse.2 h1)
      rw[h] at h2; cases h2
  · intro h
    rw[dw_nil (p:=(cs.contains ·)) (l:=l.reverse) fun b hb=>h b (List.mem_reverse.1 hb)]
    rfl
theorem byteAt_nat (s:ByteArray) (i:Nat) (h:i < s.size):byteAt s (i:Int)=((s.data.toList[i]'(by simpa using h)).toNat:Int):=by
  unfold byteAt
  rw[Int.toNat_natCast,List.getElem?_eq_getElem (by simpa using h)]
  rfl
theorem arg_loop (s:ByteArray):∀(n i:Nat),i+n=s.size→(r115_0 s n (i:Int)=.k1∧∃b∈s.data.toList.drop i,m140 (b.toNat:Int)=false)∨(∃w b,r115_0 s n (i:Int)=.k0 w b∧∀b∈s.data.toList.drop i,m140 (b.toNat:Int)=true)
  | 0, i, h => .inr ⟨_, _, rfl, fun b hb => by
      rw[List.drop_eq_nil_of_le (by show s.data.toList.length≤i; rw[Array.length_toList]; have:s.data.size=s.size:=rfl; omega)] at hb; cases hb⟩
  |n+1,i,h=>by
    have hi:i < s.size:=by omega
    have hl:i < s.data.toList.length:=by simpa using hi
    rw[List.drop_eq_getElem_cons hl]
    generalize hx:s.data.toList[i]=x
    simp only[r115_0]
    rw[byteAt_nat s i hi,hx]
    by_cases hc:m140 (x.toNat:Int)=true
    · rw[if_neg (by simp[hc])]
      have ih:=arg_loop s n (i+1) (by omega)
      rw[show ((i:Int)+1)=((i+1:Nat):Int) by omega]
      rcases ih with⟨h1,b,h2,h3⟩ |⟨w,b,h1,h2⟩
      · exact .inl ⟨h1,b,List.mem_cons_of_mem _ h2,h3⟩
      · refine .inr ⟨w,b,h1,fun c hcm=>?_⟩
        rcases List.mem_cons.1 hcm with rfl | hcm
        · exact hc
        · exact h2 c hcm
    · have hf:m140 (x.toNat:Int)=false:=by simpa using hc
      rw[if_pos (by simp[hf])]
      exact .inl ⟨rfl,_,List.mem_cons_self ..,hf⟩
theorem arg_eq (s:ByteArray):m119 s=m115 s:=by
  have ht:((trimB s signs).toList==(⟨#[]⟩:ByteArray).toList)=decide (∀b∈s.data.toList,m140 (b.toNat:Int)=true):=by
    rw[ba_eq,Bool.eq_iff_iff,decide_eq_true_eq,decide_eq_true_eq]
    have:trimB s signs=⟨#[]⟩↔Lib.trimS s.data.toList signs.data.toList=[]:=by
      unfold trimB
      constructor
      · intro h; injection h with h; simpa using congrArg Array.toList h
      · intro h; rw[h]
    rw[this,trim_nil]
    constructor
    · intro h b hb; rw[← signs_iff]; exact h b hb
    · intro h b hb; rw[signs_iff]; exact h b hb
  have hl:=arg_loop s s.size 0 (by omega)
  rw[List.drop_zero] at hl
  unfold m119 m115
  rw[show (⟨#[97,98,99,100,101,102,103,104,105,106,107,108,109,110,111,112,113,114,115,116,117,118,119,120,121,122,65,66,67,68,69,70,71,72,73,74,75,76,77,78,79,80,81,82,83,84,85,86,87,88,89,90,48,49,50,51,52,53,54,55,56,57]⟩:ByteArray)=signs from rfl,ht]
  rw[Int.toNat_natCast,show (0:Int)=((0:Nat):Int) from rfl]
  rcases hl with⟨h1,b,h2,h3⟩ |⟨w,b,h1,h2⟩
  · rw[h1]
    have:¬∀b∈s.data.toList,m140 (b.toNat:Int)=true:=fun h=>by rw[h b h2] at h3; cases h3
    rw[decide_eq_false this]
    simp only[]
    split<;>rfl
  · rw[h1,decide_eq_true h2]
    simp only[]
    cases decide ((s.size:Int)≤12)<;>rfl

theorem one_eq (x:K_si):m102 x=(if(!(m71 x.f0))=true then 5 else if(!(m45 x.f1 1 9999))=true then 3 else 0):=by
  unfold m102 m71
  rw[in_eq,arg_eq]
  generalize (x.f0.toList==(⟨#[]⟩:ByteArray).toList)=A
  generalize m115 x.f0=B
  cases A<;>cases B<;>rfl
theorem window_loop (a b:List K_si):∀(l:List K_si) (i j:Int),(match r55_0 a l i with | .k0 .. =>(0:Int) | .k1=>5 | .k2=>3)=(match r96_0 b l j with | .k0 .. =>0 | .k1 w=>w)
  |[],i,j=>rfl
  |x::l,i,j=>by
    have ih:=window_loop a b l (i+1) (j+1)
    simp only[r55_0,r96_0,one_eq]
    by_cases h1:(!(m71 x.f0))=true
    · simp[h1]
    · by_cases h2:(!(m45 x.f1 1 9999))=true
      · simp[h1,h2]
      · simp only[if_neg h1,if_neg h2]; simpa using ih
theorem window_eq (a:List K_si):m55 a=m96 a:=by
  unfold m55 m96
  split
  · rfl
  · exact window_loop a a a 0 0

def fidx {α:Type} (p:α→Bool):List α→Option Nat
  |[]=>none
  |x::l=>if p x=true then some 0 else(fidx p l).map (· +1)
theorem fidx_at {α:Type} {p:α→Bool}:∀ {l:List α} {i:Nat} {x:α},l[i]?=some x→p x=true→(fidx p (l.take i)=none∧fidx p l=some i)∨(∃k,fidx p (l.take i)=some k∧fidx p l=some k∧k < i)
  |y::l,0,x,h,hp=>by
    simp only[List.getElem?_cons_zero,Option.some.injEq] at h
    subst h
    exact .inl ⟨rfl,by simp[fidx,hp]⟩
  |y::l,i+1,x,h,hp=>by
    simp only[List.getElem?_cons_succ] at h
    simp only[List.take_succ_cons,fidx]
    by_cases hy:p y=true
    · exact .inr ⟨0,by simp[hy],by simp[hy],by omega⟩
    · rcases fidx_at h hp with⟨h1,h2⟩ |⟨k,h1,h2,h3⟩
      · exact .inl ⟨by simp[hy,h1],by simp[hy,h2]⟩
      · exact .inr ⟨k+1,by simp[hy,h1],by simp[hy,h2],by omega⟩
theorem at_fidx (a:List K_si) (w:ByteArray):∀(l:List K_si) (i:Int),(match r60_0 a w l i with | .k0 .. =>(-1:Int) | .k1 z=>z)=(match fidx (fun x:K_si=>x.f0.toList==w.toList) l with | none=>(-1:Int) | some p=>i+p)
  |[],i=>rfl
  |x::l,i=>by
    have ih:=at_fidx a w l (i+1)
    simp only[r60_0,fidx]
    by_cases h:(x.f0.toList==w.toList)=true
    · simp only[if_pos h]; simp
    · simp only[if_neg h]
      rw[ih]
      cases fidx (fun x:K_si=>x.f0.toList==w.toList) l with
      |none=>rfl
      |some p=>show (i+1+(p:Int))=i+((p+1:Nat):Int); omega
theorem ixw_fidx (a:List K_si) (w:ByteArray):∀(l:List K_si) (i:Int),(match r1009200_0 a w l i with | .k0 .. =>(-1:Int) | .k1 z=>z)=(match fidx (fun x:K_si=>x.f0.toList==w.toList) l with | none=>(-1:Int) | some p=>i+p)
  |[],i=>rfl
  |x::l,i=>by
    have ih:=ixw_fidx a w l (i+1)
    simp only[r1009200_0,fidx]
    by_cases h:(x.f0.toList==w.toList)=true
    · simp only[if_pos h]; simp
    · simp only[if_neg h]
      rw[ih]
      cases fidx (fun x:K_si=>x.f0.toList==w.toList) l with
      |none=>rfl
      |some p=>show (i+1+(p:Int))=i+((p+1:Nat):Int); omega
theorem atw_eq (a:List K_si) (w:ByteArray):m60 a w=(match fidx (fun x:K_si=>x.f0.toList==w.toList) a with | none=>(-1:Int) | some p=>(p:Int)):=by
  unfold m60
  refine(at_fidx a w a 0).trans ?_
  cases fidx (fun x:K_si=>x.f0.toList==w.toList) a<;>simp
theorem ixw_eq (a:List K_si) (w:ByteArray):m1009200 a w=(match fidx (fun x:K_si=>x.f0.toList==w.toList) a with | none=>(-1:Int) | some p=>(p:Int)):=by
  unfold m1009200
  refine(ixw_fidx a w a 0).trans ?_
  cases fidx (fun x:K_si=>x.f0.toList==w.toList) a<;>simp
theorem find_fidx (a:List K_R) (w:Int):∀(l:List K_R) (i:Int),(match r124_0 a w l i with | .k0 .. =>(-1:Int) | .k1 z=>z)=(match fidx (fun x:K_R=>x.f0==w) l with | none=>(-1:Int) | some p=>i+p)
  |[],i=>rfl
  |x::l,i=>by
    have ih:=find_fidx a w l (i+1)
    simp only[r124_0,fidx]
    by_cases h:(x.f0==w)=true
    · simp only[if_pos h]; simp
    · simp only[if_neg h]
      rw[ih]
      cases fidx (fun x:K_R=>x.f0==w) l with
      |none=>rfl
      |some p=>show (i+1+(p:Int))=i+((p+1:Nat):Int); omega
theorem ixr_fidx (a:List K_R) (w:Int):∀(l:List K_R) (i:Int),(match r1012800_0 a w l i with | .k0 .. =>(-1:Int) | .k1 z=>z)=(match fidx (fun x:K_R=>x.f0==w) l with | none=>(-1:Int) | some p=>i+p)
  |[],i=>rfl
  |x::l,i=>by
    have ih:=ixr_fidx a w l (i+1)
    simp only[r1012800_0,fidx]
    by_cases h:(x.f0==w)=true
    · simp only[if_pos h]; simp
    · simp only[if_neg h]
      rw[ih]
      cases fidx (fun x:K_R=>x.f0==w) l with
      |none=>rfl
      |some p=>show (i+1+(p:Int))=i+((p+1:Nat):Int); omega
theorem findr_eq (a:List K_R) (w:Int):m124 a w=(match fidx (fun x:K_R=>x.f0==w) a with | none=>(-1:Int) | some p=>(p:Int)):=by
  unfold m124
  refine(find_fidx a w a 0).trans ?_
  cases fidx (fun x:K_R=>x.f0==w) a<;>simp
theorem ixr_eq (a:List K_R) (w:Int):m1012800 a w=m124 a w:=by
  rw[findr_eq]
  unfold m1012800
  refine(ixr_fidx a w a 0).trans ?_
  cases fidx (fun x:K_R=>x.f0==w) a<;>simp
theorem atix_eq (a:List K_si) (w:ByteArray):m1009200 a w=m60 a w:=by
  rw[atw_eq,ixw_eq]
theorem in_same (a b c:Int):m45 a b c=m105 a b c:=rfl
theorem worker_eq (s:ByteArray):m71 s=(!(s.toList==(⟨#[]⟩:ByteArray).toList) && m115 s):=by
  unfold m71
  rw[arg_eq]
  generalize (s.toList==(⟨#[]⟩:ByteArray).toList)=A
  generalize m115 s=B
  cases A<;>cases B<;>rfl
theorem owed_loop (a:List K_si):∀(l:List K_si) (i:Nat),a.drop i=l→(match r57_0 a l i with | .k0 .. =>true | .k1=>false)=(match r98_0 a l i with | .k0 .. =>true | .k1=>false)
  |[],i,_=>rfl
  |x::l,i,h=>by
    have hx:a[i]?=some x:=by
      have:=congrArg (fun z=>z[0]?) h
      simpa using this
    have hd:a.drop (i+1)=l:=by rw[← List.drop_drop,h]; rfl
    have ih:=owed_loop a l (i+1) hd
    have hk:decide (m1009200 (List.take i a) x.f0≥0)=(m60 a x.f0 !=(i:Int)):=by
      rw[ixw_eq,atw_eq]
      rcases fidx_at (p:=fun y:K_si=>y.f0.toList==x.f0.toList) hx (by simp) with⟨j1,j2⟩ |⟨k,j1,j2,j3⟩
      · rw[j1,j2]; simp
      · rw[j1,j2]
        have h1:((k:Int)≥0):=by omega
        have h2:¬(k:Int)=(i:Int):=by omega
        simp only[h1,decide_true]
        simp[h2]
    simp only[r57_0,r98_0,worker_eq,in_same,Int.toNat_natCast,hk]
    generalize (x.f0.toList==(⟨#[]⟩:ByteArray).toList)=A
    generalize m115 x.f0=B
    generalize m105 x.f1 0 1000000=C
    generalize (m60 a x.f0 !=(i:Int))=K
    cases A<;>cases B<;>cases C<;>cases K<;>first | rfl | exact ih
theorem owed_eq (a:List K_si) (n:Int):m57 a n=(m98 a && decide ((a.length:Int)≤n)):=by
  have h:(match r57_0 a a 0 with | .k0 .. =>true | .k1=>false)=(match r98_0 a a 0 with | .k0 .. =>true | .k1=>false):=owed_loop a a 0 rfl
  unfold m57 m98
  rw[List.length_map]
  revert h
  generalize r57_0 a a 0=P
  generalize r98_0 a a 0=Q
  intro h
  cases P<;>cases Q<;>simp_all
theorem sum_loop (a b:List K_si):∀(l:List K_si) (i j v:Int),(match r58_0 a l i v with | .k0 w _ _=>w)=(match r99_0 b l j v with | .k0 w _ _=>w)
  |[],_,_,_=>rfl
  |x::l,i,j,v=>by simp only[r58_0,r99_0]; exact sum_loop a b l _ _ _
theorem sum_eq (a:List K_si):m58 a=m99 a:=sum_loop a a a 0 0 0
theorem tots_loop (a b:List K_R) (ripe:Bool):∀(l:List K_R) (i j v:Int),(match r59_0 a (if ripe then 2 else 0) l i v with | .k0 w _ _=>w)=(match r100_0 b ripe l j v with | .k0 w _ _=>w)
  |[],_,_,_=>rfl
  |x::l,i,j,v=>by
    have ih:=tots_loop a b ripe l (i+1) (j+1)
    simp only[r59_0,r100_0]
    cases ripe with
    |false=>simp only[Bool.not_false,if_true,if_neg Bool.false_ne_true] at ih⊢; rw[if_pos (by rfl)]; exact ih _
    |true=>
      simp only[if_true] at ih⊢
      rw[if_neg (show¬(((2:Int)==0)=true) by decide),if_neg (show¬((!true)=true) by decide)]
      split
      · exact ih _
      · exact ih _
theorem tots_ripe (a:List K_R):m59 a 2=m100 a true:=tots_loop a a true a 0 0 0
theorem tots_all (a:List K_R):m59 a 0=m100 a false:=tots_loop a a false a 0 0 0
theorem reward_eq (a:List K_R) (x:K_R) (i:Nat) (h:a[i]?=some x):m56 x (List.take i a)=m97 a (i:Int):=by
  have hg:∀d,List.getD a i d=x:=fun d=>by rw[List.getD_eq_getElem?_getD,h]; rfl
  unfold m56 m97
  simp only[Int.toNat_natCast,hg,in_same,owed_eq,sum_eq,ixr_eq,List.length_map]
  by_cases h1:(x.f3.length:Int)≤12
  · have h2:¬(x.f3.length:Int) > 12:=by omega
    simp[h1,h2]
  · have h2:(x.f3.length:Int) > 12:=by omega
    simp[h1,h2]
theorem rewards_loop (a0:K_B):∀(l:List K_R) (i:Nat),a0.f3.drop i=l→(∃x y u v,r13_0 a0 l i=.k0 x y∧r51_0 a0 l i=.k0 u v)∨(∃w,r13_0 a0 l i=.k1 w∧r51_0 a0 l i=.k1 w)
  |[],i,_=>.inl ⟨_,_,_,_,rfl,rfl⟩
  |x::l,i,h=>by
    have hx:a0.f3[i]?=some x:=by
      have:=congrArg (fun z=>z[0]?) h
      simpa using this
    have hd:a0.f3.drop (i+1)=l:=by rw[← List.drop_drop,h]; rfl
    have ih:=rewards_loop a0 l (i+1) hd
    simp only[r13_0,r51_0,Int.toNat_natCast,reward_eq a0.f3 x i hx]
    by_cases hc:((m97 a0.f3 (i:Int)) !=0)=true
    · simp only[if_pos hc]; exact .inr ⟨_,rfl,rfl⟩
    · simp only[if_neg hc]; exact ih
theorem ledger_eq (a0:K_B):m13 a0=m51 a0:=by
  unfold m13 m51 m95 m54
  simp only[in_same,window_eq,owed_eq,sum_eq,tots_ripe,tots_all,List.length_map]
  by_cases h0:m105 a0.f0 1 12=true
  · by_cases h1:m105 a0.f1 0 1000=true
    · by_cases h2:m105 a0.f5 0 1000000=true
      · by_cases h3:m105 a0.f6 0 1000000=true
        · by_cases h4:m105 a0.f7 0 1000000=true
          · simp only[h0,h1,h2,h3,h4,if_true,Bool.not_true,if_neg Bool.false_ne_true]
            by_cases h8:(a0.f4.length:Int) > 8
            · simp only[h8,decide_true,if_true]
            · have h9:(a0.f4.length:Int)≤8:=by omega
              simp only[h9,decide_true,Bool.and_true]
              rcases rewards_loop a0 a0.f3 0 rfl with⟨x,y,u,v,j1,j2⟩ |⟨w,j1,j2⟩
              · rw[show ((0:Nat):Int)=0 from rfl] at j1 j2
                rw[j1,j2]
              · rw[show ((0:Nat):Int)=0 from rfl] at j1 j2
                rw[j1,j2]
          · simp[h0,h1,h2,h3,h4]
        · simp[h0,h1,h2,h3]
      · simp[h0,h1,h2]
    · simp[h0,h1]
  · simp[h0]

theorem fidx_none {α:Type} {p:α→Bool}:∀ {l:List α},(∀y∈l,p y=false)→fidx p l=none
  |[],_=>rfl
  |x::l,h=>by
    have hx:=h x (List.mem_cons_self ..)
    simp[fidx,hx,fidx_none (l:=l) fun y hy=>h y (List.mem_cons_of_mem _ hy)]
theorem fidx_get {α:Type} {p:α→Bool}:∀ {l:List α} {k:Nat},fidx p l=some k→∃x,l[k]?=some x∧p x=true
  |x::l,k,h=>by
    simp only[fidx] at h
    by_cases hx:p x=true
    · rw[if_pos hx] at h; injection h with h; subst h; exact⟨x,rfl,hx⟩
    · rw[if_neg hx] at h
      cases hq:fidx p l with
      |none=>rw[hq] at h; cases h
      |some q=>
        rw[hq] at h; injection h with h; subst h
        obtain⟨y,h1,h2⟩:=fidx_get hq
        exact⟨y,by simpa using h1,h2⟩
theorem parts_loop (a:List K_si):∀(l:List K_si) (i:Nat),(match r98_0 a l i with | .k0 .. =>true | .k1=>false)=true→∀(j:Nat) (x:K_si),l[j]?=some x→m105 x.f1 0 1000000=true∧m60 a x.f0=((i+j:Nat):Int)
  |[],_,_,j,x,h=>by simp at h
  |y::l,i,h,j,x,hx=>by
    have ih:=parts_loop a l (i+1)
    simp only[r98_0] at h
    by_cases c1:(y.f0.toList==(⟨#[]⟩:ByteArray).toList)=true
    · rw[if_pos c1] at h; cases h
    rw[if_neg c1] at h
    by_cases c2:(!(m115 y.f0))=true
    · rw[if_pos c2] at h; cases h
    rw[if_neg c2] at h
    by_cases c3:(!(m105 y.f1 0 1000000))=true
    · rw[if_pos c3] at h; cases h
    rw[if_neg c3] at h
    by_cases c4:((m60 a y.f0) !=(i:Int))=true
    · rw[if_pos c4] at h; cases h
    rw[if_neg c4] at h
    cases j with
    |zero=>
      simp only[List.getElem?_cons_zero,Option.some.injEq] at hx
      subst hx
      refine⟨by simpa using c3,?_⟩
      simpa using c4
    |succ j=>
      simp only[List.getElem?_cons_succ] at hx
      obtain⟨q1,q2⟩:=ih h j x hx
      exact⟨q1,by rw[q2]; congr 1; omega⟩
theorem l1in {a b c:Int} (h:m105 a b c=true):b≤a∧a≤c:=by
  unfold m105 at h
  split at h<;>simp_all
theorem parts_ok {a:List K_si} (h:m98 a=true) {j:Nat} {x:K_si} (hx:a[j]?=some x):0≤x.f1∧x.f1≤1000000∧fidx (fun y:K_si=>y.f0.toList==x.f0.toList) a=some j:=by
  obtain⟨h1,h2⟩:=parts_loop a a 0 h j x hx
  obtain⟨h3,h4⟩:=l1in h1
  refine⟨h3,h4,?_⟩
  rw[atw_eq] at h2
  cases hq:fidx (fun y:K_si=>y.f0.toList==x.f0.toList) a with
  |none=>rw[hq] at h2; simp at h2
  |some q=>rw[hq] at h2; simp at h2; exact congrArg some (by omega)
theorem rew_ne (a0:K_B):∀(l:List K_R) (i:Int) (w:Int),r51_0 a0 l i=.k1 w→w≠0
  |[],i,w,h=>by simp[r51_0] at h
  |x::l,i,w,h=>by
    simp only[r51_0] at h
    split at h
    · rename_i h1; injection h with h; subst h; simpa using h1
    · exact rew_ne a0 l (i+1) w h
theorem rew_zero (a0:K_B):∀(l:List K_R) (i:Nat) (u v),r51_0 a0 l i=.k0 u v→∀j:Nat,j < l.length→m97 a0.f3 ((i+j:Nat):Int)=0
  |x::l,i,u,v,h,j,hj=>by
    simp only[r51_0] at h
    split at h
    · cases h
    · rename_i h1
      cases j with
      |zero=>simpa using h1
      |succ j=>
        have:=rew_zero a0 l (i+1) u v h j (by simpa using hj)
        rw[← this]; congr 1; omega
structure Sound (a0:K_B):Prop where
  ranges:m95 a0=true
  window:m96 a0.f2=0
  winlen:(a0.f2.length:Int)≤a0.f0
  rewlen:a0.f3.length≤6
  duelen:a0.f4.length≤8
  rewards:∀j:Nat,j < a0.f3.length→m97 a0.f3 (j:Int)=0
  dues:m98 a0.f4=true
  sums:IntKind.wrap .i64 (IntKind.wrap .i64 (m99 a0.f4+a0.f6)+a0.f5)=IntKind.wrap .i64 (m100 a0.f3 true+a0.f7)
  all:m105 (m100 a0.f3 false) 0 1000000=true
theorem sound {a0:K_B} (h:m51 a0=0):Sound a0:=by
  unfold m51 at h
  split at h
  · cases h
  rename_i h1
  split at h
  · rename_i h2; rw[h] at h2; simp at h2
  rename_i h2
  split at h
  · cases h
  rename_i h3
  split at h
  · cases h
  rename_i h4
  split at h
  · cases h
  rename_i h5
  simp only[List.length_map,decide_eq_true_eq] at h3 h4 h5
  cases hr:r51_0 a0 a0.f3 0 with
  |k1 w=>rw[hr] at h; exact absurd h (rew_ne a0 _ _ _ hr)
  |k0 u v=>
    rw[hr] at h
    simp only[] at h
    split at h
    · cases h
    rename_i h6
    split at h
    · cases h
    rename_i h7
    split at h
    · cases h
    rename_i h8
    refine⟨by simpa using h1,by simpa using h2,by omega,by omega,by omega,fun j hj=>?_,by simpa using h6,by simpa using h7,by simpa using h8⟩
    have:=rew_zero a0 a0.f3 0 u v hr j hj
    simpa using this

theorem str_le {x:K_si} {v:Int} (hx:x.f0.size≤140737488351232) (h0:0≤v) (h1:v≤1099511627776):m122 x v≤v:=by
  unfold m122
  rw[wrap64 (by omega)]
  split<;>omega
theorem strs_loop (a:List K_si):∀(l:List K_si) (i v:Int),(∀z∈l,z.f0.size≤140737488351232)→0≤v→v≤1099511627776→(match r76_0 a l i v with | .k0 w _ _=>w | .k1=>(-1:Int))≤v
  |[],_,_,_,_,_=>Int.le_refl _
  |x::l,i,v,hs,h0,h1=>by
    have hx:=str_le (v:=v) (hs x (List.mem_cons_self ..)) h0 h1
    simp only[r76_0]
    by_cases hc:(decide (m122 x v < 0))=true
    · rw[if_pos hc]; show (-1:Int)≤v; omega
    · rw[if_neg hc]
      simp only[decide_eq_true_eq] at hc
      have ih:=strs_loop a l (i+1) (m122 x v) (fun z hz=>hs z (List.mem_cons_of_mem _ hz)) (by omega) (by omega)
      omega
theorem list_le {a:List K_si} {v:Int} (hs:∀z∈a,z.f0.size≤140737488351232) (hl:a.length*24≤140737488351232) (h0:0≤v) (h1:v≤1099511627776):m76 a v+a.length≤v∨m76 a v < 0:=by
  unfold m76
  rw[List.length_map,wrap64 (by omega)]
  by_cases hc:(decide (v - (a.length:Int) < 0))=true
  · rw[if_pos hc]; right; omega
  · rw[if_neg hc]
    simp only[decide_eq_true_eq] at hc
    have hf:∀z:Int,z≤v - (a.length:Int)→z+a.length≤v:=fun z hz=>by omega
    exact .inl (hf _ (strs_loop a a 0 (v - (a.length:Int)) hs (by omega) (by omega)))
theorem rew_le {x:K_R} {v:Int} (hs:os_R x) (h0:0≤v) (h1:v≤1099511627776):m123 x v+x.f3.length≤v∨m123 x v < 0:=by
  unfold m123
  by_cases hc:(decide (m76 x.f3 v < 0))=true
  · rw[if_pos hc]; right; omega
  · rw[if_neg hc]; exact list_le (fun z hz=>hs.2 z hz) hs.1 h0 h1
theorem rews_loop (a:List K_R):∀(l:List K_R) (i v:Int),(∀z∈l,os_R z)→0≤v→v≤1099511627776→(match r77_0 a l i v with | .k0 w _ _=>w | .k1=>(-1:Int))+((l.map fun x=>x.f3.length).sum:Nat)≤v∨(match r77_0 a l i v with | .k0 w _ _=>w | .k1=>(-1:Int)) < 0
  |[],_,_,_,_,_=>.inl (by simp[r77_0])
  |x::l,i,v,hs,h0,h1=>by
    have hx:=rew_le (v:=v) (hs x (List.mem_cons_self ..)) h0 h1
    simp only[r77_0,List.map_cons,List.sum_cons]
    by_cases hc:(decide (m123 x v < 0))=true
    · rw[if_pos hc]; right; show (-1:Int) < 0; omega
    · rw[if_neg hc]
      simp only[decide_eq_true_eq] at hc
      have ih:=rews_loop a l (i+1) (m123 x v) (fun z hz=>hs z (List.mem_cons_of_mem _ hz)) (by omega) (by omega)
      omega
theorem rewlist_le {a:List K_R} {v:Int} (hs:∀z∈a,os_R z) (hl:a.length*56≤140737488351232) (h0:0≤v) (h1:v≤1099511627776):m77 a v+a.length+((a.map fun x=>x.f3.length).sum:Nat)≤v∨m77 a v < 0:=by
  unfold m77
  rw[List.length_map,wrap64 (by omega)]
  by_cases hc:(decide (v - (a.length:Int) < 0))=true
  · rw[if_pos hc]; right; omega
  · rw[if_neg hc]
    simp only[decide_eq_true_eq] at hc
    have hf:∀z:Int,z+((a.map fun x=>x.f3.length).sum:Nat)≤v - (a.length:Int)→z+a.length+((a.map fun x=>x.f3.length).sum:Nat)≤v:=fun z hz=>by omega
    rcases rews_loop a a 0 (v - (a.length:Int)) hs (by omega) (by omega) with h | h
    · exact .inl (hf _ h)
    · exact .inr h
theorem ledger_le {a0:K_B} (hs:os_B a0) (h:¬(decide (m29 a0 1048576 < 0))=true):a0.f2.length+a0.f3.length+(a0.f3.map fun x=>x.f3.length).sum+a0.f4.length≤1048576:=by
  simp only[decide_eq_true_eq] at h
  unfold m29 at h
  obtain⟨s1,s2,s3,s4,s5,s6⟩:=hs
  have h1:=list_le (v:=1048576) (fun z hz=>s2 z hz) s1 (by omega) (by omega)
  split at h
  · omega
  rename_i c1
  simp only[decide_eq_true_eq] at c1
  have h2:=rewlist_le (v:=m76 a0.f2 1048576) s4 s3 (by omega) (by omega)
  split at h
  · omega
  rename_i c2
  simp only[decide_eq_true_eq] at c2
  have h3:=list_le (v:=m77 a0.f3 (m76 a0.f2 1048576)) (fun z hz=>s6 z hz) s5 (by omega) (by omega)
  split at h
  · omega
  · omega
theorem wt_rews:∀l:List K_R,(List.map wt_R l).sum=4*l.length+2*(l.map fun x=>x.f3.length).sum
  |[]=>rfl
  |x::l=>by
    simp only[List.map_cons,List.sum_cons,wt_rews l,wt_R,wts_si,List.length_cons]; omega
theorem wt_ledger_le {a0:K_B} (hs:os_B a0) (h:¬(decide (m29 a0 1048576 < 0))=true):wt_B a0≤10000000:=by
  have:=ledger_le hs h
  simp only[wt_B,wts_si,wt_rews]; omega
theorem sum_set {α:Type} (f:α→Nat) (x:α):∀(l:List α) (i:Nat),((l.set i x).map f).sum≤(l.map f).sum+f x
  |[],_=>by simp
  |y::l,0=>by simp only[List.set_cons_zero,List.map_cons,List.sum_cons]; omega
  |y::l,i+1=>by
    have:=sum_set f x l i
    simp only[List.set_cons_succ,List.map_cons,List.sum_cons]; omega
theorem sum_getD {α:Type} (f:α→Nat) (d:α):∀(l:List α) (i:Nat),f (l.getD i d)≤(l.map f).sum+f d
  |[],_=>by simp
  |y::l,0=>by simp only[List.getD_cons_zero,List.map_cons,List.sum_cons]; omega
  |y::l,i+1=>by
    have:=sum_getD f d l i
    simp only[List.getD_cons_succ,List.map_cons,List.sum_cons]; omega

theorem ranges_ok {a0:K_B} (h:m95 a0=true):m105 a0.f7 0 1000000=true:=by
  unfold m95 at h
  simp only[Bool.if_false_right,Bool.and_eq_true] at h
  (repeat' split at h)<;>simp_all
theorem set12 {l:List K_R} {i:Nat} {x:K_R} (h:∀z∈l,z.f3.length≤12) (hx:x.f3.length≤12):∀z∈l.set i x,z.f3.length≤12:=by
  intro z hz
  rcases List.mem_or_eq_of_mem_set hz with hz | rfl
  · exact h z hz
  · exact hx
theorem app12 {l:List K_R} {x:K_R} (h:∀z∈l,z.f3.length≤12) (hx:x.f3.length≤12):∀z∈l++ [x],z.f3.length≤12:=by
  intro z hz
  rcases List.mem_append.1 hz with hz | hz
  · exact h z hz
  · cases List.mem_singleton.1 hz; exact hx
theorem sum12:∀ {l:List K_R},(∀z∈l,z.f3.length≤12)→(l.map fun x=>x.f3.length).sum≤12*l.length
  |[],_=>by simp
  |x::l,h=>by
    have h1:=h x (List.mem_cons_self ..)
    have h2:=sum12 (l:=l) fun z hz=>h z (List.mem_cons_of_mem _ hz)
    simp only[List.map_cons,List.sum_cons,List.length_cons]; omega
theorem wt_res {r:K_C} (h1:r.f4.length≤1000) (h2:r.f5.length≤1000) (h3:∀z∈r.f5,z.f3.length≤12) (h4:r.f6.length≤1000):wt_C r≤1000000:=by
  have:=sum12 h3
  simp only[wt_C,wts_si,wt_rews]; omega

theorem fidx_map {α β:Type} (p:β→Bool) (f:α→β):∀(l:List α),fidx (fun x=>p (f x)) l=fidx p (l.map f)
  |[]=>rfl
  |x::l=>by simp only[fidx,List.map_cons,fidx_map p f l]
theorem fidx_app {α:Type} (p:α→Bool):∀(a b:List α),fidx p (a++b)=(match fidx p a with | some k=>some k | none=>(fidx p b).map (· +a.length))
  |[],b=>by simp[fidx]
  |x::a,b=>by
    simp only[List.cons_append,fidx,fidx_app p a b]
    split
    · rfl
    · cases fidx p a with
      |some k=>rfl
      |none=>
        cases fidx p b with
        |none=>rfl
        |some k=>simp; omega
def Names (ns:List ByteArray):Prop:=∀(j:Nat) (s:ByteArray),ns[j]?=some s→(¬(s.toList==(⟨#[]⟩:ByteArray).toList)=true∧m115 s=true)∧fidx (fun t:ByteArray=>t.toList==s.toList) ns=some j
theorem names_app {ns:List ByteArray} {s:ByteArray} (h:Names ns) (h1:¬(s.toList==(⟨#[]⟩:ByteArray).toList)=true) (h2:m115 s=true) (h3:fidx (fun t:ByteArray=>t.toList==s.toList) ns=none):Names (ns++ [s]):=by
  intro j t hj
  by_cases c:j < ns.length
  · rw[List.getElem?_append_left c] at hj
    obtain⟨q1,q2⟩:=h j t hj
    exact⟨q1,by rw[fidx_app,q2]⟩
  · rw[List.getElem?_append_right (by omega)] at hj
    have hj0:j - ns.length=0:=by
      cases h0:j - ns.length with
      |zero=>rfl
      |succ n=>rw[h0] at hj; simp at hj
    rw[hj0] at hj
    simp only[List.getElem?_cons_zero,Option.some.injEq] at hj
    subst hj
    refine⟨⟨h1,h2⟩,?_⟩
    rw[fidx_app,h3]
    simp[fidx]<;>omega
theorem pl_iff (a:List K_si):∀(l:List K_si) (i:Nat),(match r98_0 a l i with | .k0 .. =>true | .k1=>false)=true↔∀(j:Nat) (x:K_si),l[j]?=some x→(¬(x.f0.toList==(⟨#[]⟩:ByteArray).toList)=true∧m115 x.f0=true)∧m105 x.f1 0 1000000=true∧m60 a x.f0=((i+j:Nat):Int)
  |[],i=>⟨fun _ j x h=>by simp at h,fun _=>rfl⟩
  |y::l,i=>by
    have ih:=pl_iff a l (i+1)
    simp only[r98_0]
    by_cases c1:(y.f0.toList==(⟨#[]⟩:ByteArray).toList)=true
    · rw[if_pos c1]
      exact⟨fun h=>(by cases h),fun h=>absurd c1 (h 0 y rfl).1.1⟩
    rw[if_neg c1]
    by_cases c2:(!(m115 y.f0))=true
    · rw[if_pos c2]
      refine⟨fun h=>(by cases h),fun h=>?_⟩
      rw[(h 0 y rfl).1.2] at c2; cases c2
    rw[if_neg c2]
    by_cases c3:(!(m105 y.f1 0 1000000))=true
    · rw[if_pos c3]
      refine⟨fun h=>(by cases h),fun h=>?_⟩
      rw[(h 0 y rfl).2.1] at c3; cases c3
    rw[if_neg c3]
    by_cases c4:((m60 a y.f0) !=(i:Int))=true
    · rw[if_pos c4]
      refine⟨fun h=>(by cases h),fun h=>?_⟩
      rw[(h 0 y rfl).2.2] at c4; simp at c4
    rw[if_neg c4]
    refine ih.trans ⟨fun h j x hx=>?_,fun h j x hx=>?_⟩
    · cases j with
      |zero=>
        simp only[List.getElem?_cons_zero,Option.some.injEq] at hx
        subst hx
        exact⟨⟨c1,by simpa using c2⟩,by simpa using c3,by simpa using c4⟩
      |succ j=>
        obtain⟨q1,q2,q3⟩:=h j x (by simpa using hx)
        exact⟨q1,q2,by rw[q3]; congr 1; omega⟩
    · obtain⟨q1,q2,q3⟩:=h (j+1) x (by simpa using hx)
      exact⟨q1,q2,by rw[q3]; congr 1; omega⟩
theorem parts_iff (a:List K_si):m98 a=true↔Names (a.map K_si.f0)∧∀x∈a,m105 x.f1 0 1000000=true:=by
  have h:=pl_iff a a 0
  have e:m98 a=(match r98_0 a a 0 with | .k0 .. =>true | .k1=>false):=rfl
  rw[e]
  refine h.trans ⟨fun h=>⟨fun j s hj=>?_,fun x hx=>?_⟩,fun h j x hx=>?_⟩
  · rw[List.getElem?_map] at hj
    cases hx:a[j]? with
    |none=>rw[hx] at hj; cases hj
    |some x=>
      rw[hx] at hj
      simp only[Option.map_some,Option.some.injEq] at hj
      subst hj
      obtain⟨q1,q2,q3⟩:=h j x hx
      refine⟨q1,?_⟩
      rw[atw_eq,fidx_map (fun t:ByteArray=>t.toList==x.f0.toList) K_si.f0] at q3
      cases hq:fidx (fun t:ByteArray=>t.toList==x.f0.toList) (a.map K_si.f0) with
      |none=>rw[hq] at q3; simp at q3<;>omega
      |some q=>rw[hq] at q3; simp at q3; exact congrArg some (by omega)
  · obtain⟨j,hj⟩:=List.getElem?_of_mem hx
    exact(h j x hj).2.1
  · obtain⟨q1,q2⟩:=h.1 j x.f0 (by rw[List.getElem?_map,hx]; rfl)
    refine⟨q1,h.2 x (List.mem_of_getElem? hx),?_⟩
    rw[atw_eq,fidx_map (fun t:ByteArray=>t.toList==x.f0.toList) K_si.f0,q2]
    simp

def addl:List K_si→List K_si→List K_si
  |[],v=>v
  |x::l,v=>if(decide ((m60 v x.f0)≥0))=true then addl l (List.set v (Int.toNat (m60 v x.f0)) (K_si.mk ((List.getD v (Int.toNat (m60 v x.f0)) (K_si.mk (⟨#[]⟩:ByteArray) 0)).f0) (IntKind.wrap .i64 (((List.getD v (Int.toNat (m60 v x.f0)) (K_si.mk (⟨#[]⟩:ByteArray) 0)).f1)+x.f1)))) else addl l (v++ [x])
theorem add_s (a:List K_si):∀(l:List K_si) (i:Int) (v:List K_si),∃j b,r125_0 a l i v=.k0 (addl l v) j b
  |[],i,v=>⟨_,_,rfl⟩
  |x::l,i,v=>by
    simp only[r125_0,addl]
    split
    · exact add_s a l _ _
    · exact add_s a l _ _
theorem add_i (a:K_B) (c:Nat):∀(l:List K_si) (i:Int) (v:List K_si),∃j b,r83_0 a c l i v=.k0 (addl l v) j b
  |[],i,v=>⟨_,_,rfl⟩
  |x::l,i,v=>by
    simp only[r83_0,addl,atix_eq]
    split
    · exact add_i a c l _ _
    · exact add_i a c l _ _
theorem add_names:∀(l v:List K_si),(∀x∈l,¬(x.f0.toList==(⟨#[]⟩:ByteArray).toList)=true∧m115 x.f0=true)→Names (v.map K_si.f0)→Names ((addl l v).map K_si.f0)
  |[],v,_,hv=>hv
  |x::l,v,hl,hv=>by
    have hl':∀x∈l,¬(x.f0.toList==(⟨#[]⟩:ByteArray).toList)=true∧m115 x.f0=true:=fun z hz=>hl z (List.mem_cons_of_mem _ hz)
    have hx:=hl x (List.mem_cons_self ..)
    simp only[addl]
    split
    · refine add_names l _ hl' ?_
      rw[List.map_set]
      have:(v.map K_si.f0).set (Int.toNat (m60 v x.f0)) ((List.getD v (Int.toNat (m60 v x.f0)) (K_si.mk (⟨#[]⟩:ByteArray) 0)).f0)=v.map K_si.f0:=by
        generalize Int.toNat (m60 v x.f0)=n
        apply List.ext_getElem?
        intro k
        rw[List.getElem?_set]
        split
        · rename_i e; subst e
          rw[List.length_map]
          split
          · rename_i h; rw[List.getElem?_map,List.getD_eq_getElem?_getD,List.getElem?_eq_getElem h]; rfl
          · rename_i h; rw[List.getElem?_eq_none (by simp; omega)]
        · rfl
      simp only[] at this⊢
      rw[this]; exact hv
    · rename_i h
      refine add_names l _ hl' ?_
      rw[List.map_append]
      refine names_app hv hx.1 hx.2 ?_
      rw[atw_eq,fidx_map (fun t:ByteArray=>t.toList==x.f0.toList) K_si.f0] at h
      cases hq:fidx (fun t:ByteArray=>t.toList==x.f0.toList) (v.map K_si.f0) with
      |none=>rfl
      |some q=>rw[hq] at h; simp at h<;>omega
theorem amt_all (c:List K_si):∀(l:List K_si) (i:Int),(match r125_1 c l i with | .k0 .. =>true | .k1=>false)=true↔∀x∈l,m105 x.f1 0 1000000=true
  |[],i=>⟨fun _ x h=>(by cases h),fun _=>rfl⟩
  |y::l,i=>by
    have ih:=amt_all c l (i+1)
    simp only[r125_1]
    by_cases h:(!(m105 y.f1 0 1000000))=true
    · rw[if_pos h]
      refine⟨fun h=>(by cases h),fun h2=>?_⟩
      rw[h2 y (List.mem_cons_self ..)] at h; cases h
    · rw[if_neg h]
      refine ih.trans ⟨fun h2 x hx=>?_,fun h2 x hx=>h2 x (List.mem_cons_of_mem _ hx)⟩
      rcases List.mem_cons.1 hx with rfl | hx
      · simpa using h
      · exact h2 x hx
theorem rew_parts {a:List K_R} {i:Int} (h:m97 a i=0):m98 (List.getD a (Int.toNat i) (K_R.mk 0 0 0 [] 0)).f3=true:=by
  unfold m97 at h
  by_cases c:m98 (List.getD a (Int.toNat i) (K_R.mk 0 0 0 [] 0)).f3=true
  · exact c
  · exfalso
    have c:m98 (List.getD a (Int.toNat i) (K_R.mk 0 0 0 [] 0)).f3=false:=by simpa using c
    simp only[c,Bool.not_false,if_true] at h
    (repeat' split at h)<;>simp at h
/-- The dues with a reward's parts,as both sides have them. -/
theorem add_code (d p:List K_si) (hd:m98 d=true) (hp:m98 p=true):
    m125_1 d p=(if((addl p d).length:Int) > 8 then 10 else if m57 (addl p d) 8=true then 0 else 7)∧(m125_1 d p=0→m125_0 d p=addl p d):=by
  obtain⟨j,b,e⟩:=add_s p p 0 d
  have hn := add_names p d (fun x hx => by
    obtain⟨j,hj⟩:=List.getElem?_of_mem hx
    exact(((parts_iff p).1 hp).1 j x.f0 (by rw[List.getElem?_map,hj]; rfl)).1) ((parts_iff d).1 hd).1
  unfold m125_1 m125_0
  rw[List.nil_append,e]
  simp only[List.length_map,decide_eq_true_eq]
  by_cases h8:((addl p d).length:Int) > 8
  · rw[if_pos h8,if_pos h8]; exact⟨rfl,fun h=>by cases h⟩
  rw[if_neg h8,if_neg h8,if_neg h8]
  have hk:m57 (addl p d) 8=(match r125_1 (addl p d) (addl p d) 0 with | .k0 .. =>true | .k1=>false):=by
    rw[owed_eq]
    have h9:((addl p d).length:Int)≤8:=by omega
    simp only[h9,decide_true,Bool.and_true]
    rw[Bool.eq_iff_iff,parts_iff,amt_all]
    exact⟨fun h=>h.2,fun h=>⟨hn,h⟩⟩
  rw[hk]
  cases r125_1 (addl p d) (addl p d) 0 with
  |k0 u v=>exact⟨rfl,fun _=>rfl⟩
  |k1=>exact⟨rfl,fun h=>by cases h⟩
theorem ripen_eq (a0:K_B) (w:Int):m1004200 a0 w=m30 a0 w:=by
  unfold m1004200 m30
  rw[ledger_eq]
  by_cases h:(m51 a0 !=0)=true
  · rw[if_pos h,if_pos h]
  · rw[if_neg h,if_neg h]
    have hs:=sound (a0:=a0) (by simpa using h)
    simp only[cp91]
    unfold m1008100 o1008100_0 m78
    simp only[cp103,ixr_eq,Nat.zero_add]
    have hix:=ix124 a0.f3 w
    generalize m124 a0.f3 w=p at*
    by_cases c1:(decide (p < 0))=true
    · simp[c1]
    simp only[decide_eq_true_eq] at c1
    have hrw:=hs.rewards (Int.toNat p) (by have:=hix.2; omega)
    have hpp:=rew_parts hrw
    rw[Int.toNat_natCast] at hpp
    obtain⟨k1,k2⟩:=add_code a0.f4 _ hs.dues hpp
    have d1:(decide (p < 0))=false:=by simp; omega
    simp only[d1,if_neg Bool.false_ne_true]
    unfold m83 o83_0
    obtain⟨j,b,e⟩:=add_i a0 (Int.toNat p) (List.getD a0.f3 (Int.toNat p) (K_R.mk 0 0 0 [] 0)).f3 0 a0.f4
    simp only[e,in_same]
    generalize hg:List.getD a0.f3 (Int.toNat p) (K_R.mk 0 0 0 [] 0)=g at*
    by_cases c2:(g.f4 !=1)=true
    · simp only[if_pos c2]; rfl
    simp only[if_neg c2,List.length_map,decide_eq_true_eq]
    rw[k1]
    by_cases c3:((addl g.f3 a0.f4).length:Int) > 8
    · simp[c3]
    simp only[if_neg c3] at k1⊢
    by_cases c4:m57 (addl g.f3 a0.f4) 8=true
    · rw[if_pos c4] at k1
      rw[k2 k1]
      by_cases c5:(!(m105 (IntKind.wrap .i64 (a0.f6+g.f2)) 0 1000000))=true
      · simp[c4,c5]
      · simp[c4,c5]
    · have c4':m57 (addl g.f3 a0.f4) 8=false:=by simpa using c4
      by_cases c5:(!(m105 (IntKind.wrap .i64 (a0.f6+g.f2)) 0 1000000))=true
      · simp[c4',c5]
      · simp[c4',c5]

theorem fine (a0:K_B) (w:Int):(m1004200 a0 w).f4.length≤1000∧(m1004200 a0 w).f5.length≤1000∧(∀z∈(m1004200 a0 w).f5,z.f3.length≤12)∧(m1004200 a0 w).f6.length≤1000:=by
  unfold m1004200
  split
  · simp
  · rename_i h
    obtain⟨q1,q2,q3,q4⟩:=fs13 h
    simp only[cp91]
    split
    · simp
    · unfold o1008100_0
      (repeat' split)<;>refine⟨?_,?_,?_,?_⟩<;>first |(simp only[]; omega) | exact q3 |(simp only[rpw]; omega) |(simp only[rpl]; omega) | exact rpr q3 _ | exact Nat.le_trans (m:=8) (rp8 a0 _ q4) (by decide)
theorem pure (a0:K_B) (a1:Int) (w0:wf_B a0) (w1:wf_i a1):m5 a0 a1=true:=by
  unfold m5
  by_cases hz:(decide (m29 a0 1048576 < 0))=true
  · rw[if_pos hz]
  have hw:=wt_ledger_le (os_wf_B a0 w0) hz
  have hm0:=mh35 a0 1 (by omega) (by omega)
  have hm := mh36 (m1004200 a0 a1) 1 (by omega) (by
    have q:=fine a0 a1
    have:=wt_res q.1 q.2.1 q.2.2.1 q.2.2.2
    omega)
  simp only[← ripen_eq,eqd33,eqd34,hm.1]
  (repeat' split)<;>(first | rfl |(simp_all; done) |(simp only[decide_eq_true_eq] at*; omega))

end Go.Proofs.YtihjlmgakpgkeaaDoor.RipenReward
