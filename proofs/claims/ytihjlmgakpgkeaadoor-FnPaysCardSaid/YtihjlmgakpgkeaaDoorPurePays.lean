/- The plain law: what the functions compute answers as the statement says. -/
import Derived.Test.YtihjlmgakpgkeaaDoorEPays
import Derived.Test.YtihjlmgakpgkeaaDoorVArgs
namespace Go.Proofs.YtihjlmgakpgkeaaDoor.Pays
open Go Go.Proofs.YtihjlmgakpgkeaaDoor.V
set_option linter.unusedVariables false
set_option maxRecDepth 20000
def wf_y (x:Int):Prop:=(Lit.int .u8 x).wf=true
theorem un_y {bs:List B} (h:Sh.okL [.int .u8] bs):∃x:Int,bs=[(.val (.int .u8 x))]∧wf_y x:=by
  obtain⟨b0,m0,rfl,o0,h0⟩:=h
  obtain⟨x0,rfl,w0⟩:∃z:Int,b0=.val (.int .u8 z)∧(Lit.int .u8 z).wf=true:=by
    cases b0 with
    |val v=>
      cases v<;>first | exact o0.elim |(obtain⟨rfl,w⟩:=o0; exact⟨_,rfl,w⟩)
    |sl r=>exact o0.elim
  obtain rfl:=h0
  exact⟨x0,rfl,w0⟩
theorem uns_y:∀ {rows:List (List B)},(∀r∈rows,Sh.okL [.int .u8] r)→∃z:List Int,rows=z.map b_y∧∀u∈z,wf_y u
  |[],_=>⟨[],rfl,fun u h=>(by cases h)⟩
  |r::rows,h=>by
    obtain⟨x,e,w⟩:=un_y (h r (List.mem_cons_self ..))
    obtain⟨z,rfl,hz⟩:=uns_y (fun r hr=>h r (List.mem_cons_of_mem _ hr))
    refine⟨x::z,by rw[e]; rfl,fun u hu=>?_⟩
    rcases List.mem_cons.1 hu with rfl | hu
    · exact w
    · exact hz u hu
def wf_LyE (x:(List Int)):Prop:=(x.length*1≤140737488351232∧∀z∈x,wf_y z)
theorem un_LyE {bs:List B} (h:Sh.okL [.sl [.int .u8] 1] bs):∃x:(List Int),bs=[(.sl (List.map b_y x))]∧wf_LyE x:=by
  obtain⟨b0,m0,rfl,o0,h0⟩:=h
  obtain⟨x0,rfl,w0⟩:∃z:(List Int),b0=.sl (z.map b_y)∧z.length*1≤140737488351232∧∀u∈z,wf_y u:=by
    cases b0 with
    |val v=>cases v<;>exact o0.elim
    |sl r=>
      obtain⟨z,rfl,hz⟩:=uns_y o0.2
      exact⟨z,rfl,by simpa using o0.1,hz⟩
  obtain rfl:=h0
  exact⟨x0,rfl,w0⟩
theorem ok_wf_LyE (x:(List Int)) (w:wf_LyE x):ok_LyE x:=w.1
theorem os_wf_LyE (x:(List Int)) (w:wf_LyE x):os_LyE x:=w.1
theorem uns_LyE:∀ {rows:List (List B)},(∀r∈rows,Sh.okL [.sl [.int .u8] 1] r)→∃z:List (List Int),rows=z.map b_LyE∧∀u∈z,wf_LyE u
  |[],_=>⟨[],rfl,fun u h=>(by cases h)⟩
  |r::rows,h=>by
    obtain⟨x,e,w⟩:=un_LyE (h r (List.mem_cons_self ..))
    obtain⟨z,rfl,hz⟩:=uns_LyE (fun r hr=>h r (List.mem_cons_of_mem _ hr))
    refine⟨x::z,by rw[e]; rfl,fun u hu=>?_⟩
    rcases List.mem_cons.1 hu with rfl | hu
    · exact w
    · exact hz u hu
theorem in_iff (a b c:Int):m45 a b c=true↔b≤a∧a≤c:=by
  unfold m45; split<;>simp_all<;>omega
theorem l1In_iff (a b c:Int):m105 a b c=true↔b≤a∧a≤c:=by
  unfold m105; split<;>simp_all<;>omega
theorem in_eq (a b c:Int):m45 a b c=m105 a b c:=by
  rw[Bool.eq_iff_iff,in_iff,l1In_iff]

theorem letter_iff (c:Int):m140 c=true↔(97≤c∧c≤122)∨(65≤c∧c≤90)∨(48≤c∧c≤57):=by
  unfold m140
  (repeat' split)<;>simp_all<;>omega
def signs:ByteArray:=⟨#[97,98,99,100,101,102,103,104,105,106,107,108,109,110,111,112,113,114,115,116,117,118,119,120,121,122,65,66,67,68,69,70,71,72,73,74,75,76,77,78,79,80,81,82,83,84,85,86,87,88,89,90,48,49,50,51,52,53,54,55,56,57]⟩
theorem signs_iff (b:UInt8):signs.data.toList.contains b=m140 (b.toNat:Int):=by
  have key:∀n:Fin 256,signs.data.toList.contains (UInt8.ofNat n.val)=m140 ((UInt8.ofNat n.val).toNat:Int):=by decide+kernel
  have:=key ⟨b.toNat,b.toNat_lt⟩
  simpa using this
theorem dw_bad {p:UInt8→Bool} {b:UInt8} (hp:p b=false):∀ {l:List UInt8},b∈l→b∈l.dropWhile p
  |x::l,h=>by
    simp only[List.dropWhile]
    cases hx:p x with
    |true=>
      rcases List.mem_cons.1 h with rfl | h
      · rw[hp] at hx; cases hx
      · exact dw_bad hp h
    |false=>exact h
theorem dw_nil {p:UInt8→Bool}:∀ {l:List UInt8},(∀b∈l,p b=true)→l.dropWhile p=[]
  |[],_=>rfl
  |x::l,h=>by
    simp only[List.dropWhile,h x (List.mem_cons_self ..)]
    exact dw_nil fun b hb=>h b (List.mem_cons_of_mem _ hb)
theorem trim_nil (l cs:List UInt8):Lib.trimS l cs=[]↔∀b∈l,cs.contains b=true:=by
  unfold Lib.trimS Lib.trimLeftS Lib.trimRightS
  constructor
  · intro h b hb
    cases hc:cs.contains b with
    |true=>rfl
    |false=>
      have h1:=dw_bad (p:=(cs.contains ·)) hc (List.mem_reverse.2 hb)
      have h2:=dw_bad (p:=(cs.contains ·)) hc (List.mem_reverse.2 h1)
      rw[h] at h2; cases h2
  · intro h
    rw[dw_nil (p:=(cs.contains ·)) (l:=l.reverse) fun b hb=>h b (List.mem_reverse.1 hb)]
    rfl
theorem byteAt_nat (s:ByteArray) (i:Nat) (h:i < s.size):byteAt s (i:Int)=((s.data.toList[i]'(by simpa using h)).toNat:Int):=by
  unfold byteAt
  rw[Int.toNat_natCast,List.getElem?_eq_getElem (by simpa using h)]
  rfl
theorem arg_loop (s:ByteArray):∀(n i:Nat),i+n=s.size→(r115_0 s n (i:Int)=.k1∧∃b∈s.data.toList.drop i,m140 (b.toNat:Int)=false)∨(∃w b,r115_0 s n (i:Int)=.k0 w b∧∀b∈s.data.toList.drop i,m140 (b.toNat:Int)=true)
  | 0, i, h => .inr ⟨_, _, rfl, fun b hb => by
      rw[List.drop_eq_nil_of_le (by show s.data.toList.length≤i; rw[Array.length_toList]; have:s.data.size=s.size:=rfl; omega)] at hb; cases hb⟩
  |n+1,i,h=>by
    have hi:i < s.size:=by omega
    have hl:i < s.data.toList.length:=by simpa using hi
    rw[List.drop_eq_getElem_cons hl]
    generalize hx:s.data.toList[i]=x
    simp only[r115_0]
    rw[byteAt_nat s i hi,hx]
    by_cases hc:m140 (x.toNat:Int)=true
    · rw[if_neg (by simp[hc])]
      have ih:=arg_loop s n (i+1) (by omega)
      rw[show ((i:Int)+1)=((i+1:Nat):Int) by omega]
      rcases ih with⟨h1,b,h2,h3⟩ |⟨w,b,h1,h2⟩
      · exact .inl ⟨h1,b,List.mem_cons_of_mem _ h2,h3⟩
      · refine .inr ⟨w,b,h1,fun c hcm=>?_⟩
        rcases List.mem_cons.1 hcm with rfl | hcm
        · exact hc
        · exact h2 c hcm
    · have hf:m140 (x.toNat:Int)=false:=by simpa using hc
      rw[if_pos (by simp[hf])]
      exact .inl ⟨rfl,_,List.mem_cons_self ..,hf⟩
theorem arg_eq (s:ByteArray):m119 s=m115 s:=by
  have ht:((trimB s signs).toList==(⟨#[]⟩:ByteArray).toList)=decide (∀b∈s.data.toList,m140 (b.toNat:Int)=true):=by
    rw[ba_eq,Bool.eq_iff_iff,decide_eq_true_eq,decide_eq_true_eq]
    have:trimB s signs=⟨#[]⟩↔Lib.trimS s.data.toList signs.data.toList=[]:=by
      unfold trimB
      constructor
      · intro h; injection h with h; simpa using congrArg Array.toList h
      · intro h; rw[h]
    rw[this,trim_nil]
    constructor
    · intro h b hb; rw[← signs_iff]; exact h b hb
    · intro h b hb; rw[signs_iff]; exact h b hb
  have hl:=arg_loop s s.size 0 (by omega)
  rw[List.drop_zero] at hl
  unfold m119 m115
  rw[show (⟨#[97,98,99,100,101,102,103,104,105,106,107,108,109,110,111,112,113,114,115,116,117,118,119,120,121,122,65,66,67,68,69,70,71,72,73,74,75,76,77,78,79,80,81,82,83,84,85,86,87,88,89,90,48,49,50,51,52,53,54,55,56,57]⟩:ByteArray)=signs from rfl,ht]
  rw[Int.toNat_natCast,show (0:Int)=((0:Nat):Int) from rfl]
  rcases hl with⟨h1,b,h2,h3⟩ |⟨w,b,h1,h2⟩
  · rw[h1]
    have:¬∀b∈s.data.toList,m140 (b.toNat:Int)=true:=fun h=>by rw[h b h2] at h3; cases h3
    rw[decide_eq_false this]
    simp only[]
    split<;>rfl
  · rw[h1,decide_eq_true h2]
    simp only[]
    cases decide ((s.size:Int)≤12)<;>rfl

theorem one_eq (x:K_si):m102 x=(if(!(m71 x.f0))=true then 5 else if(!(m45 x.f1 1 9999))=true then 3 else 0):=by
  unfold m102 m71
  rw[in_eq,arg_eq]
  generalize (x.f0.toList==(⟨#[]⟩:ByteArray).toList)=A
  generalize m115 x.f0=B
  cases A<;>cases B<;>rfl
theorem window_loop (a b:List K_si):∀(l:List K_si) (i j:Int),(match r55_0 a l i with | .k0 .. =>(0:Int) | .k1=>5 | .k2=>3)=(match r96_0 b l j with | .k0 .. =>0 | .k1 w=>w)
  |[],i,j=>rfl
  |x::l,i,j=>by
    have ih:=window_loop a b l (i+1) (j+1)
    simp only[r55_0,r96_0,one_eq]
    by_cases h1:(!(m71 x.f0))=true
    · simp[h1]
    · by_cases h2:(!(m45 x.f1 1 9999))=true
      · simp[h1,h2]
      · simp only[if_neg h1,if_neg h2]; simpa using ih
theorem window_eq (a:List K_si):m55 a=m96 a:=by
  unfold m55 m96
  split
  · rfl
  · exact window_loop a a a 0 0

def fidx {α:Type} (p:α→Bool):List α→Option Nat
  |[]=>none
  |x::l=>if p x=true then some 0 else(fidx p l).map (· +1)
theorem fidx_at {α:Type} {p:α→Bool}:∀ {l:List α} {i:Nat} {x:α},l[i]?=some x→p x=true→(fidx p (l.take i)=none∧fidx p l=some i)∨(∃k,fidx p (l.take i)=some k∧fidx p l=some k∧k < i)
  |y::l,0,x,h,hp=>by
    simp only[List.getElem?_cons_zero,Option.some.injEq] at h
    subst h
    exact .inl ⟨rfl,by simp[fidx,hp]⟩
  |y::l,i+1,x,h,hp=>by
    simp only[List.getElem?_cons_succ] at h
    simp only[List.take_succ_cons,fidx]
    by_cases hy:p y=true
    · exact .inr ⟨0,by simp[hy],by simp[hy],by omega⟩
    · rcases fidx_at h hp with⟨h1,h2⟩ |⟨k,h1,h2,h3⟩
      · exact .inl ⟨by simp[hy,h1],by simp[hy,h2]⟩
      · exact .inr ⟨k+1,by simp[hy,h1],by simp[hy,h2],by omega⟩
theorem at_fidx (a:List K_si) (w:ByteArray):∀(l:List K_si) (i:Int),(match r60_0 a w l i with | .k0 .. =>(-1:Int) | .k1 z=>z)=(match fidx (fun x:K_si=>x.f0.toList==w.toList) l with | none=>(-1:Int) | some p=>i+p)
  |[],i=>rfl
  |x::l,i=>by
    have ih:=at_fidx a w l (i+1)
    simp only[r60_0,fidx]
    by_cases h:(x.f0.toList==w.toList)=true
    · simp only[if_pos h]; simp
    · simp only[if_neg h]
      rw[ih]
      cases fidx (fun x:K_si=>x.f0.toList==w.toList) l with
      |none=>rfl
      |some p=>show (i+1+(p:Int))=i+((p+1:Nat):Int); omega
theorem ixw_fidx (a:List K_si) (w:ByteArray):∀(l:List K_si) (i:Int),(match r1009200_0 a w l i with | .k0 .. =>(-1:Int) | .k1 z=>z)=(match fidx (fun x:K_si=>x.f0.toList==w.toList) l with | none=>(-1:Int) | some p=>i+p)
  |[],i=>rfl
  |x::l,i=>by
    have ih:=ixw_fidx a w l (i+1)
    simp only[r1009200_0,fidx]
    by_cases h:(x.f0.toList==w.toList)=true
    · simp only[if_pos h]; simp
    · simp only[if_neg h]
      rw[ih]
      cases fidx (fun x:K_si=>x.f0.toList==w.toList) l with
      |none=>rfl
      |some p=>show (i+1+(p:Int))=i+((p+1:Nat):Int); omega
theorem atw_eq (a:List K_si) (w:ByteArray):m60 a w=(match fidx (fun x:K_si=>x.f0.toList==w.toList) a with | none=>(-1:Int) | some p=>(p:Int)):=by
  unfold m60
  refine(at_fidx a w a 0).trans ?_
  cases fidx (fun x:K_si=>x.f0.toList==w.toList) a<;>simp
theorem ixw_eq (a:List K_si) (w:ByteArray):m1009200 a w=(match fidx (fun x:K_si=>x.f0.toList==w.toList) a with | none=>(-1:Int) | some p=>(p:Int)):=by
  unfold m1009200
  refine(ixw_fidx a w a 0).trans ?_
  cases fidx (fun x:K_si=>x.f0.toList==w.toList) a<;>simp
theorem find_fidx (a:List K_R) (w:Int):∀(l:List K_R) (i:Int),(match r124_0 a w l i with | .k0 .. =>(-1:Int) | .k1 z=>z)=(match fidx (fun x:K_R=>x.f0==w) l with | none=>(-1:Int) | some p=>i+p)
  |[],i=>rfl
  |x::l,i=>by
    have ih:=find_fidx a w l (i+1)
    simp only[r124_0,fidx]
    by_cases h:(x.f0==w)=true
    · simp only[if_pos h]; simp
    · simp only[if_neg h]
      rw[ih]
      cases fidx (fun x:K_R=>x.f0==w) l with
      |none=>rfl
      |some p=>show (i+1+(p:Int))=i+((p+1:Nat):Int); omega
theorem ixr_fidx (a:List K_R) (w:Int):∀(l:List K_R) (i:Int),(match r1012800_0 a w l i with | .k0 .. =>(-1:Int) | .k1 z=>z)=(match fidx (fun x:K_R=>x.f0==w) l with | none=>(-1:Int) | some p=>i+p)
  |[],i=>rfl
  |x::l,i=>by
    have ih:=ixr_fidx a w l (i+1)
    simp only[r1012800_0,fidx]
    by_cases h:(x.f0==w)=true
    · simp only[if_pos h]; simp
    · simp only[if_neg h]
      rw[ih]
      cases fidx (fun x:K_R=>x.f0==w) l with
      |none=>rfl
      |some p=>show (i+1+(p:Int))=i+((p+1:Nat):Int); omega
theorem findr_eq (a:List K_R) (w:Int):m124 a w=(match fidx (fun x:K_R=>x.f0==w) a with | none=>(-1:Int) | some p=>(p:Int)):=by
  unfold m124
  refine(find_fidx a w a 0).trans ?_
  cases fidx (fun x:K_R=>x.f0==w) a<;>simp
theorem ixr_eq (a:List K_R) (w:Int):m1012800 a w=m124 a w:=by
  rw[findr_eq]
  unfold m1012800
  refine(ixr_fidx a w a 0).trans ?_
  cases fidx (fun x:K_R=>x.f0==w) a<;>simp
theorem atix_eq (a:List K_si) (w:ByteArray):m1009200 a w=m60 a w:=by
  rw[atw_eq,ixw_eq]
theorem in_same (a b c:Int):m45 a b c=m105 a b c:=rfl
theorem worker_eq (s:ByteArray):m71 s=(!(s.toList==(⟨#[]⟩:ByteArray).toList) && m115 s):=by
  unfold m71
  rw[arg_eq]
  generalize (s.toList==(⟨#[]⟩:ByteArray).toList)=A
  generalize m115 s=B
  cases A<;>cases B<;>rfl
theorem owed_loop (a:List K_si):∀(l:List K_si) (i:Nat),a.drop i=l→(match r57_0 a l i with | .k0 .. =>true | .k1=>false)=(match r98_0 a l i with | .k0 .. =>true | .k1=>false)
  |[],i,_=>rfl
  |x::l,i,h=>by
    have hx:a[i]?=some x:=by
      have:=congrArg (fun z=>z[0]?) h
      simpa using this
    have hd:a.drop (i+1)=l:=by rw[← List.drop_drop,h]; rfl
    have ih:=owed_loop a l (i+1) hd
    have hk:decide (m1009200 (List.take i a) x.f0≥0)=(m60 a x.f0 !=(i:Int)):=by
      rw[ixw_eq,atw_eq]
      rcases fidx_at (p:=fun y:K_si=>y.f0.toList==x.f0.toList) hx (by simp) with⟨j1,j2⟩ |⟨k,j1,j2,j3⟩
      · rw[j1,j2]; simp
      · rw[j1,j2]
        have h1:((k:Int)≥0):=by omega
        have h2:¬(k:Int)=(i:Int):=by omega
        simp only[h1,decide_true]
        simp[h2]
    simp only[r57_0,r98_0,worker_eq,in_same,Int.toNat_natCast,hk]
    generalize (x.f0.toList==(⟨#[]⟩:ByteArray).toList)=A
    generalize m115 x.f0=B
    generalize m105 x.f1 0 1000000=C
    generalize (m60 a x.f0 !=(i:Int))=K
    cases A<;>cases B<;>cases C<;>cases K<;>first | rfl | exact ih
theorem owed_eq (a:List K_si) (n:Int):m57 a n=(m98 a && decide ((a.length:Int)≤n)):=by
  have h:(match r57_0 a a 0 with | .k0 .. =>true | .k1=>false)=(match r98_0 a a 0 with | .k0 .. =>true | .k1=>false):=owed_loop a a 0 rfl
  unfold m57 m98
  rw[List.length_map]
  revert h
  generalize r57_0 a a 0=P
  generalize r98_0 a a 0=Q
  intro h
  cases P<;>cases Q<;>simp_all
theorem sum_loop (a b:List K_si):∀(l:List K_si) (i j v:Int),(match r58_0 a l i v with | .k0 w _ _=>w)=(match r99_0 b l j v with | .k0 w _ _=>w)
  |[],_,_,_=>rfl
  |x::l,i,j,v=>by simp only[r58_0,r99_0]; exact sum_loop a b l _ _ _
theorem sum_eq (a:List K_si):m58 a=m99 a:=sum_loop a a a 0 0 0
theorem tots_loop (a b:List K_R) (ripe:Bool):∀(l:List K_R) (i j v:Int),(match r59_0 a (if ripe then 2 else 0) l i v with | .k0 w _ _=>w)=(match r100_0 b ripe l j v with | .k0 w _ _=>w)
  |[],_,_,_=>rfl
  |x::l,i,j,v=>by
    have ih:=tots_loop a b ripe l (i+1) (j+1)
    simp only[r59_0,r100_0]
    cases ripe with
    |false=>simp only[Bool.not_false,if_true,if_neg Bool.false_ne_true] at ih⊢; rw[if_pos (by rfl)]; exact ih _
    |true=>
      simp only[if_true] at ih⊢
      rw[if_neg (show¬(((2:Int)==0)=true) by decide),if_neg (show¬((!true)=true) by decide)]
      split
      · exact ih _
      · exact ih _
theorem tots_ripe (a:List K_R):m59 a 2=m100 a true:=tots_loop a a true a 0 0 0
theorem tots_all (a:List K_R):m59 a 0=m100 a false:=tots_loop a a false a 0 0 0
theorem reward_eq (a:List K_R) (x:K_R) (i:Nat) (h:a[i]?=some x):m56 x (List.take i a)=m97 a (i:Int):=by
  have hg:∀d,List.getD a i d=x:=fun d=>by rw[List.getD_eq_getElem?_getD,h]; rfl
  unfold m56 m97
  simp only[Int.toNat_natCast,hg,in_same,owed_eq,sum_eq,ixr_eq,List.length_map]
  by_cases h1:(x.f3.length:Int)≤12
  · have h2:¬(x.f3.length:Int) > 12:=by omega
    simp[h1,h2]
  · have h2:(x.f3.length:Int) > 12:=by omega
    simp[h1,h2]
theorem rewards_loop (a0:K_B):∀(l:List K_R) (i:Nat),a0.f3.drop i=l→(∃x y u v,r13_0 a0 l i=.k0 x y∧r51_0 a0 l i=.k0 u v)∨(∃w,r13_0 a0 l i=.k1 w∧r51_0 a0 l i=.k1 w)
  |[],i,_=>.inl ⟨_,_,_,_,rfl,rfl⟩
  |x::l,i,h=>by
    have hx:a0.f3[i]?=some x:=by
      have:=congrArg (fun z=>z[0]?) h
      simpa using this
    have hd:a0.f3.drop (i+1)=l:=by rw[← List.drop_drop,h]; rfl
    have ih:=rewards_loop a0 l (i+1) hd
    simp only[r13_0,r51_0,Int.toNat_natCast,reward_eq a0.f3 x i hx]
    by_cases hc:((m97 a0.f3 (i:Int)) !=0)=true
    · simp only[if_pos hc]; exact .inr ⟨_,rfl,rfl⟩
    · simp only[if_neg hc]; exact ih
theorem ledger_eq (a0:K_B):m13 a0=m51 a0:=by
  unfold m13 m51 m95 m54
  simp only[in_same,window_eq,owed_eq,sum_eq,tots_ripe,tots_all,List.length_map]
  by_cases h0:m105 a0.f0 1 12=true
  · by_cases h1:m105 a0.f1 0 1000=true
    · by_cases h2:m105 a0.f5 0 1000000=true
      · by_cases h3:m105 a0.f6 0 1000000=true
        · by_cases h4:m105 a0.f7 0 1000000=true
          · simp only[h0,h1,h2,h3,h4,if_true,Bool.not_true,if_neg Bool.false_ne_true]
            by_cases h8:(a0.f4.length:Int) > 8
            · simp only[h8,decide_true,if_true]
            · have h9:(a0.f4.length:Int)≤8:=by omega
              simp only[h9,decide_true,Bool.and_true]
              rcases rewards_loop a0 a0.f3 0 rfl with⟨x,y,u,v,j1,j2⟩ |⟨w,j1,j2⟩
              · rw[show ((0:Nat):Int)=0 from rfl] at j1 j2
                rw[j1,j2]
              · rw[show ((0:Nat):Int)=0 from rfl] at j1 j2
                rw[j1,j2]
          · simp[h0,h1,h2,h3,h4]
        · simp[h0,h1,h2,h3]
      · simp[h0,h1,h2]
    · simp[h0,h1]
  · simp[h0]

theorem fidx_none {α:Type} {p:α→Bool}:∀ {l:List α},(∀y∈l,p y=false)→fidx p l=none
  |[],_=>rfl
  |x::l,h=>by
    have hx:=h x (List.mem_cons_self ..)
    simp[fidx,hx,fidx_none (l:=l) fun y hy=>h y (List.mem_cons_of_mem _ hy)]
theorem fidx_get {α:Type} {p:α→Bool}:∀ {l:List α} {k:Nat},fidx p l=some k→∃x,l[k]?=some x∧p x=true
  |x::l,k,h=>by
    simp only[fidx] at h
    by_cases hx:p x=true
    · rw[if_pos hx] at h; injection h with h; subst h; exact⟨x,rfl,hx⟩
    · rw[if_neg hx] at h
      cases hq:fidx p l with
      |none=>rw[hq] at h; cases h
      |some q=>
        rw[hq] at h; injection h with h; subst h
        obtain⟨y,h1,h2⟩:=fidx_get hq
        exact⟨y,by simpa using h1,h2⟩
theorem parts_loop (a:List K_si):∀(l:List K_si) (i:Nat),(match r98_0 a l i with | .k0 .. =>true | .k1=>false)=true→∀(j:Nat) (x:K_si),l[j]?=some x→m105 x.f1 0 1000000=true∧m60 a x.f0=((i+j:Nat):Int)
  |[],_,_,j,x,h=>by simp at h
  |y::l,i,h,j,x,hx=>by
    have ih:=parts_loop a l (i+1)
    simp only[r98_0] at h
    by_cases c1:(y.f0.toList==(⟨#[]⟩:ByteArray).toList)=true
    · rw[if_pos c1] at h; cases h
    rw[if_neg c1] at h
    by_cases c2:(!(m115 y.f0))=true
    · rw[if_pos c2] at h; cases h
    rw[if_neg c2] at h
    by_cases c3:(!(m105 y.f1 0 1000000))=true
    · rw[if_pos c3] at h; cases h
    rw[if_neg c3] at h
    by_cases c4:((m60 a y.f0) !=(i:Int))=true
    · rw[if_pos c4] at h; cases h
    rw[if_neg c4] at h
    cases j with
    |zero=>
      simp only[List.getElem?_cons_zero,Option.some.injEq] at hx
      subst hx
      refine⟨by simpa using c3,?_⟩
      simpa using c4
    |succ j=>
      simp only[List.getElem?_cons_succ] at hx
      obtain⟨q1,q2⟩:=ih h j x hx
      exact⟨q1,by rw[q2]; congr 1; omega⟩
theorem l1in {a b c:Int} (h:m105 a b c=true):b≤a∧a≤c:=by
  unfold m105 at h
  split at h<;>simp_all
theorem parts_ok {a:List K_si} (h:m98 a=true) {j:Nat} {x:K_si} (hx:a[j]?=some x):0≤x.f1∧x.f1≤1000000∧fidx (fun y:K_si=>y.f0.toList==x.f0.toList) a=some j:=by
  obtain⟨h1,h2⟩:=parts_loop a a 0 h j x hx
  obtain⟨h3,h4⟩:=l1in h1
  refine⟨h3,h4,?_⟩
  rw[atw_eq] at h2
  cases hq:fidx (fun y:K_si=>y.f0.toList==x.f0.toList) a with
  |none=>rw[hq] at h2; simp at h2
  |some q=>rw[hq] at h2; simp at h2; exact congrArg some (by omega)
theorem rew_ne (a0:K_B):∀(l:List K_R) (i:Int) (w:Int),r51_0 a0 l i=.k1 w→w≠0
  |[],i,w,h=>by simp[r51_0] at h
  |x::l,i,w,h=>by
    simp only[r51_0] at h
    split at h
    · rename_i h1; injection h with h; subst h; simpa using h1
    · exact rew_ne a0 l (i+1) w h
theorem rew_zero (a0:K_B):∀(l:List K_R) (i:Nat) (u v),r51_0 a0 l i=.k0 u v→∀j:Nat,j < l.length→m97 a0.f3 ((i+j:Nat):Int)=0
  |x::l,i,u,v,h,j,hj=>by
    simp only[r51_0] at h
    split at h
    · cases h
    · rename_i h1
      cases j with
      |zero=>simpa using h1
      |succ j=>
        have:=rew_zero a0 l (i+1) u v h j (by simpa using hj)
        rw[← this]; congr 1; omega
structure Sound (a0:K_B):Prop where
  ranges:m95 a0=true
  window:m96 a0.f2=0
  winlen:(a0.f2.length:Int)≤a0.f0
  rewlen:a0.f3.length≤6
  duelen:a0.f4.length≤8
  rewards:∀j:Nat,j < a0.f3.length→m97 a0.f3 (j:Int)=0
  dues:m98 a0.f4=true
  sums:IntKind.wrap .i64 (IntKind.wrap .i64 (m99 a0.f4+a0.f6)+a0.f5)=IntKind.wrap .i64 (m100 a0.f3 true+a0.f7)
  all:m105 (m100 a0.f3 false) 0 1000000=true
theorem sound {a0:K_B} (h:m51 a0=0):Sound a0:=by
  unfold m51 at h
  split at h
  · cases h
  rename_i h1
  split at h
  · rename_i h2; rw[h] at h2; simp at h2
  rename_i h2
  split at h
  · cases h
  rename_i h3
  split at h
  · cases h
  rename_i h4
  split at h
  · cases h
  rename_i h5
  simp only[List.length_map,decide_eq_true_eq] at h3 h4 h5
  cases hr:r51_0 a0 a0.f3 0 with
  |k1 w=>rw[hr] at h; exact absurd h (rew_ne a0 _ _ _ hr)
  |k0 u v=>
    rw[hr] at h
    simp only[] at h
    split at h
    · cases h
    rename_i h6
    split at h
    · cases h
    rename_i h7
    split at h
    · cases h
    rename_i h8
    refine⟨by simpa using h1,by simpa using h2,by omega,by omega,by omega,fun j hj=>?_,by simpa using h6,by simpa using h7,by simpa using h8⟩
    have:=rew_zero a0 a0.f3 0 u v hr j hj
    simpa using this

def asum (w:ByteArray):Int→List K_si→Int
  |v,[]=>v
  |v,x::l=>if(x.f0.toList==w.toList)=true then asum w (IntKind.wrap .i64 (v+x.f1)) l else asum w v l
theorem amt_loop (a:List K_si) (w:ByteArray):∀(l:List K_si) (i v:Int),(match r44_0 a w l i v with | .k0 z _ _=>z)=asum w v l
  |[],_,_=>rfl
  |x::l,i,v=>by
    simp only[r44_0,asum]
    split
    · exact amt_loop a w l (i+1) _
    · exact amt_loop a w l (i+1) _
theorem asum_none {w:ByteArray}:∀ {l:List K_si} {v:Int},fidx (fun x:K_si=>x.f0.toList==w.toList) l=none→asum w v l=v
  |[],_,_=>rfl
  |x::l,v,h=>by
    simp only[fidx] at h
    by_cases hx:(x.f0.toList==w.toList)=true
    · rw[if_pos hx] at h; cases h
    · rw[if_neg hx] at h
      simp only[asum,if_neg hx]
      exact asum_none (by simpa using h)
theorem asum_some {w:ByteArray}:∀ {l:List K_si} {v:Int} {k:Nat} {x:K_si},fidx (fun x:K_si=>x.f0.toList==w.toList) l=some k→l[k]?=some x→(∀j y,l[j]?=some y→(y.f0.toList==w.toList)=true→j=k)→asum w v l=IntKind.wrap .i64 (v+x.f1)
  |y::l,v,k,x,h,hx,hu=>by
    simp only[fidx] at h
    by_cases hy:(y.f0.toList==w.toList)=true
    · rw[if_pos hy] at h; injection h with h; subst h
      simp only[List.getElem?_cons_zero,Option.some.injEq] at hx
      subst hx
      simp only[asum,if_pos hy]
      refine asum_none (fidx_none fun z hz=>?_)
      obtain⟨j,hj⟩:=List.getElem?_of_mem hz
      cases hc:(z.f0.toList==w.toList) with
      |false=>rfl
      |true=>have:=hu (j+1) z (by simpa using hj) hc; omega
    · rw[if_neg hy] at h
      cases hq:fidx (fun x:K_si=>x.f0.toList==w.toList) l with
      |none=>rw[hq] at h; cases h
      |some q=>
        rw[hq] at h; injection h with h; subst h
        simp only[asum,if_neg hy]
        refine asum_some hq (by simpa using hx) fun j z hj hz=>?_
        have:=hu (j+1) z (by simpa using hj) hz
        simpa using this
theorem amt_eq {a:List K_si} (w:ByteArray) (h:m98 a=true):m44 a w=(match fidx (fun x:K_si=>x.f0.toList==w.toList) a with | none=>0 | some k=>(List.getD a k (K_si.mk (⟨#[]⟩:ByteArray) 0)).f1):=by
  have h0:m44 a w=asum w 0 a:=amt_loop a w a 0 0
  rw[h0]
  cases hq:fidx (fun x:K_si=>x.f0.toList==w.toList) a with
  |none=>exact asum_none hq
  |some k=>
    obtain⟨x,hx,hw⟩:=fidx_get hq
    have hp:=parts_ok h hx
    rw[asum_some hq hx fun j y hj hy=>?_,wrap64 (by omega)]
    · simp only[List.getD_eq_getElem?_getD,hx]; simp
    · have hp2:=(parts_ok h hj).2.2
      have he:y.f0.toList=w.toList:=by simpa using hy
      rw[he] at hp2
      rw[hp2] at hq
      injection hq

theorem win1 (a:K_si):m96 [a]=m102 a:=by
  unfold m96
  simp only[r96_0,List.map_cons,List.map_nil,List.length_cons,List.length_nil]
  by_cases h:(m102 a !=0)=true
  · simp[h]
  · simp only[if_neg h]
    simp only[bne_iff_ne,ne_eq,Decidable.not_not] at h
    simp[h]
theorem push_is (a:List K_si) (b:K_si) (c:Int):m50 a b c=(if((m96 a) !=0)=true then(K_iLsiE.mk (m96 a) []) else if((m102 b) !=0)=true then(K_iLsiE.mk (m102 b) []) else if(!(m105 c 1 12))=true then(K_iLsiE.mk 3 []) else K_iLsiE.mk 0 (m104 a b c)):=by
  unfold m50
  rw[window_eq,window_eq,win1,in_eq]
  split
  · rfl
  · split
    · rfl
    · split
      · rfl
      · have q1:=len12_96 a (by assumption)
        have q2:=jn105 (a:=c) (b:=1) (c:=12) (by assumption)
        rw[push_104 a b c (by omega)]
        have h:Int.toNat (vmax (((a.length+1:Nat):Int) - c) 0)=a.length+1 - c.toNat:=by unfold vmax; split<;>omega
        congr 1
        simp only[List.length_map,List.length_append,List.length_cons,List.length_nil,List.length_take,List.length_drop,Nat.sub_zero,Nat.min_self,Nat.zero_add]
        rw[wrap64 (by omega),h]
        rw[List.take_of_length_le (by simp only[List.length_drop,List.length_append,List.length_cons,List.length_nil]; omega)]

theorem fidx_map {α β:Type} (p:β→Bool) (f:α→β):∀(l:List α),fidx (fun x=>p (f x)) l=fidx p (l.map f)
  |[]=>rfl
  |x::l=>by simp only[fidx,List.map_cons,fidx_map p f l]
theorem fidx_app {α:Type} (p:α→Bool):∀(a b:List α),fidx p (a++b)=(match fidx p a with | some k=>some k | none=>(fidx p b).map (· +a.length))
  |[],b=>by simp[fidx]
  |x::a,b=>by
    simp only[List.cons_append,fidx,fidx_app p a b]
    split
    · rfl
    · cases fidx p a with
      |some k=>rfl
      |none=>
        cases fidx p b with
        |none=>rfl
        |some k=>simp; omega
def Names (ns:List ByteArray):Prop:=∀(j:Nat) (s:ByteArray),ns[j]?=some s→(¬(s.toList==(⟨#[]⟩:ByteArray).toList)=true∧m115 s=true)∧fidx (fun t:ByteArray=>t.toList==s.toList) ns=some j
theorem names_app {ns:List ByteArray} {s:ByteArray} (h:Names ns) (h1:¬(s.toList==(⟨#[]⟩:ByteArray).toList)=true) (h2:m115 s=true) (h3:fidx (fun t:ByteArray=>t.toList==s.toList) ns=none):Names (ns++ [s]):=by
  intro j t hj
  by_cases c:j < ns.length
  · rw[List.getElem?_append_left c] at hj
    obtain⟨q1,q2⟩:=h j t hj
    exact⟨q1,by rw[fidx_app,q2]⟩
  · rw[List.getElem?_append_right (by omega)] at hj
    have hj0:j - ns.length=0:=by
      cases h0:j - ns.length with
      |zero=>rfl
      |succ n=>rw[h0] at hj; simp at hj
    rw[hj0] at hj
    simp only[List.getElem?_cons_zero,Option.some.injEq] at hj
    subst hj
    refine⟨⟨h1,h2⟩,?_⟩
    rw[fidx_app,h3]
    simp[fidx]<;>omega
theorem pl_iff (a:List K_si):∀(l:List K_si) (i:Nat),(match r98_0 a l i with | .k0 .. =>true | .k1=>false)=true↔∀(j:Nat) (x:K_si),l[j]?=some x→(¬(x.f0.toList==(⟨#[]⟩:ByteArray).toList)=true∧m115 x.f0=true)∧m105 x.f1 0 1000000=true∧m60 a x.f0=((i+j:Nat):Int)
  |[],i=>⟨fun _ j x h=>by simp at h,fun _=>rfl⟩
  |y::l,i=>by
    have ih:=pl_iff a l (i+1)
    simp only[r98_0]
    by_cases c1:(y.f0.toList==(⟨#[]⟩:ByteArray).toList)=true
    · rw[if_pos c1]
      exact⟨fun h=>(by cases h),fun h=>absurd c1 (h 0 y rfl).1.1⟩
    rw[if_neg c1]
    by_cases c2:(!(m115 y.f0))=true
    · rw[if_pos c2]
      refine⟨fun h=>(by cases h),fun h=>?_⟩
      rw[(h 0 y rfl).1.2] at c2; cases c2
    rw[if_neg c2]
    by_cases c3:(!(m105 y.f1 0 1000000))=true
    · rw[if_pos c3]
      refine⟨fun h=>(by cases h),fun h=>?_⟩
      rw[(h 0 y rfl).2.1] at c3; cases c3
    rw[if_neg c3]
    by_cases c4:((m60 a y.f0) !=(i:Int))=true
    · rw[if_pos c4]
      refine⟨fun h=>(by cases h),fun h=>?_⟩
      rw[(h 0 y rfl).2.2] at c4; simp at c4
    rw[if_neg c4]
    refine ih.trans ⟨fun h j x hx=>?_,fun h j x hx=>?_⟩
    · cases j with
      |zero=>
        simp only[List.getElem?_cons_zero,Option.some.injEq] at hx
        subst hx
        exact⟨⟨c1,by simpa using c2⟩,by simpa using c3,by simpa using c4⟩
      |succ j=>
        obtain⟨q1,q2,q3⟩:=h j x (by simpa using hx)
        exact⟨q1,q2,by rw[q3]; congr 1; omega⟩
    · obtain⟨q1,q2,q3⟩:=h (j+1) x (by simpa using hx)
      exact⟨q1,q2,by rw[q3]; congr 1; omega⟩
theorem parts_iff (a:List K_si):m98 a=true↔Names (a.map K_si.f0)∧∀x∈a,m105 x.f1 0 1000000=true:=by
  have h:=pl_iff a a 0
  have e:m98 a=(match r98_0 a a 0 with | .k0 .. =>true | .k1=>false):=rfl
  rw[e]
  refine h.trans ⟨fun h=>⟨fun j s hj=>?_,fun x hx=>?_⟩,fun h j x hx=>?_⟩
  · rw[List.getElem?_map] at hj
    cases hx:a[j]? with
    |none=>rw[hx] at hj; cases hj
    |some x=>
      rw[hx] at hj
      simp only[Option.map_some,Option.some.injEq] at hj
      subst hj
      obtain⟨q1,q2,q3⟩:=h j x hx
      refine⟨q1,?_⟩
      rw[atw_eq,fidx_map (fun t:ByteArray=>t.toList==x.f0.toList) K_si.f0] at q3
      cases hq:fidx (fun t:ByteArray=>t.toList==x.f0.toList) (a.map K_si.f0) with
      |none=>rw[hq] at q3; simp at q3<;>omega
      |some q=>rw[hq] at q3; simp at q3; exact congrArg some (by omega)
  · obtain⟨j,hj⟩:=List.getElem?_of_mem hx
    exact(h j x hj).2.1
  · obtain⟨q1,q2⟩:=h.1 j x.f0 (by rw[List.getElem?_map,hx]; rfl)
    refine⟨q1,h.2 x (List.mem_of_getElem? hx),?_⟩
    rw[atw_eq,fidx_map (fun t:ByteArray=>t.toList==x.f0.toList) K_si.f0,q2]
    simp

theorem f13_loop (a:List K_si):∀(l:List K_si) (i:Int),(match r96_0 a l i with | .k0 .. =>(0:Int) | .k1 w=>w)=0↔∀z∈l,m102 z=0
  |[],i=>⟨fun _ z h=>(by cases h),fun _=>rfl⟩
  |y::l,i=>by
    have ih:=f13_loop a l (i+1)
    simp only[r96_0]
    by_cases h:((m102 y) !=0)=true
    · simp only[if_pos h]
      refine⟨fun e=>?_,fun e=>?_⟩
      · rw[e] at h; simp at h
      · rw[e y (List.mem_cons_self ..)] at h; simp at h
    · simp only[if_neg h]
      refine ih.trans ⟨fun e z hz=>?_,fun e z hz=>e z (List.mem_cons_of_mem _ hz)⟩
      rcases List.mem_cons.1 hz with rfl | hz
      · simpa using h
      · exact e z hz
theorem f13_iff (a:List K_si):m96 a=0↔a.length≤12∧∀z∈a,m102 z=0:=by
  unfold m96
  simp only[List.length_map,decide_eq_true_eq]
  by_cases h:(a.length:Int) > 12
  · rw[if_pos h]; exact⟨fun e=>(by cases e),fun e=>(by have:=e.1; omega)⟩
  · rw[if_neg h]
    exact(f13_loop a a 0).trans ⟨fun e=>⟨by omega,e⟩,fun e=>e.2⟩
def isum:List K_si→Int
  |[]=>0
  |x::l=>x.f1+isum l
theorem isum_set:∀ {l:List K_si} {p:Nat} {x y:K_si},l[p]?=some x→isum (l.set p y)=isum l - x.f1+y.f1
  |z::l,0,x,y,h=>by simp at h; subst h; simp only[List.set_cons_zero,isum]; omega
  |z::l,p+1,x,y,h=>by
    have:=isum_set (l:=l) (y:=y) (by simpa using h:l[p]?=some x)
    simp only[List.set_cons_succ,isum,this]; omega
theorem isum_bd:∀ {l:List K_si},(∀z∈l,0≤z.f1∧z.f1≤1000000)→0≤isum l∧isum l≤1000000*(l.length:Int)
  |[],_=>by simp[isum]
  |x::l,h=>by
    have h1:=h x (List.mem_cons_self ..)
    have h2:=isum_bd (l:=l) fun z hz=>h z (List.mem_cons_of_mem _ hz)
    simp only[isum,List.length_cons]; omega
theorem tot_val (a:List K_si):∀(l:List K_si) (i v:Int),(∀z∈l,0≤z.f1∧z.f1≤1000000)→0≤v→v+1000000*(l.length:Int)≤9000000000→∃j b,r99_0 a l i v=.k0 (v+isum l) j b
  |[],i,v,_,_,_=>⟨_,_,by simp only[r99_0,isum,Int.add_zero]; rfl⟩
  |x::l,i,v,h,h0,hb=>by
    have h1:=h x (List.mem_cons_self ..)
    simp only[List.length_cons] at hb
    simp only[r99_0,isum]
    rw[wrap64 (by omega)]
    obtain⟨j,b,e⟩:=tot_val a l (i+1) (v+x.f1) (fun z hz=>h z (List.mem_cons_of_mem _ hz)) (by omega) (by omega)
    exact⟨j,b,by rw[e,Int.add_assoc]⟩
theorem tot_is {l:List K_si} (h:∀z∈l,0≤z.f1∧z.f1≤1000000) (hl:l.length≤1000):m99 l=isum l:=by
  obtain⟨j,b,e⟩:=tot_val l l 0 0 h (by omega) (by omega)
  unfold m99
  rw[e]; simp only[]; omega
theorem lw_val (a:K_B):∀(l:List K_si) (i v:Int),(∀z∈l,0≤z.f1∧z.f1≤1000000)→0≤v→v+1000000*(l.length:Int)≤9000000000→∃j b,r14_0 a l i v=.k0 (v+isum l) j b
  |[],i,v,_,_,_=>⟨_,_,by simp only[r14_0,isum,Int.add_zero]; rfl⟩
  |x::l,i,v,h,h0,hb=>by
    have h1:=h x (List.mem_cons_self ..)
    simp only[List.length_cons] at hb
    simp only[r14_0,isum]
    rw[wrap64 (by omega)]
    obtain⟨j,b,e⟩:=lw_val a l (i+1) (v+x.f1) (fun z hz=>h z (List.mem_cons_of_mem _ hz)) (by omega) (by omega)
    exact⟨j,b,by rw[e,Int.add_assoc]⟩
theorem lw_is {a:K_B} (h:∀z∈a.f4,0≤z.f1∧z.f1≤1000000) (hl:a.f4.length≤1000):m14 a=isum a.f4:=by
  obtain⟨j,b,e⟩:=lw_val a a.f4 0 0 h (by omega) (by omega)
  unfold m14
  rw[e]; simp only[]; omega
theorem rew_k0 (a0:K_B):∀(l:List K_R) (i:Nat),(∀j:Nat,j < l.length→m97 a0.f3 ((i+j:Nat):Int)=0)→∃u v,r51_0 a0 l i=.k0 u v
  |[],i,_=>⟨_,_,rfl⟩
  |x::l,i,h=>by
    simp only[r51_0]
    rw[if_neg (by have:=h 0 (by simp); rw[Nat.add_zero] at this; rw[this]; decide)]
    exact rew_k0 a0 l (i+1) fun j hj=>by
      have:=h (j+1) (by simpa using hj)
      rw[← this]; congr 1; omega
theorem fault_of {a0:K_B} (h:Sound a0):m51 a0=0:=by
  obtain⟨h1,h2,h3,h4,h5,h6,h7,h8,h9⟩:=h
  unfold m51
  obtain⟨u,v,e⟩:=rew_k0 a0 a0.f3 0 (fun j hj=>by rw[Nat.zero_add]; exact h6 j hj)
  rw[show ((0:Nat):Int)=0 from rfl] at e
  simp only[h1,h2,h7,h8,h9,e,List.length_map]
  have c1:¬(a0.f2.length:Int) > a0.f0:=by omega
  have c2:¬(a0.f3.length:Int) > 6:=by omega
  have c3:¬(a0.f4.length:Int) > 8:=by omega
  simp[c1,c2,c3]
theorem dues_bd {a0:K_B} (h:Sound a0):∀z∈a0.f4,0≤z.f1∧z.f1≤1000000:=fun z hz=>by
  obtain⟨j,hj⟩:=List.getElem?_of_mem hz
  have:=parts_ok h.dues hj
  exact⟨this.1,this.2.1⟩
theorem ranges_all {a0:K_B} (h:m95 a0=true):(1≤a0.f0∧a0.f0≤12)∧(0≤a0.f1∧a0.f1≤1000)∧(0≤a0.f5∧a0.f5≤1000000)∧(0≤a0.f6∧a0.f6≤1000000)∧(0≤a0.f7∧a0.f7≤1000000):=by
  unfold m95 at h
  (repeat' split at h)<;>first |(cases h; done) | exact⟨l1in (by assumption),l1in (by assumption),l1in (by assumption),l1in (by assumption),l1in (by assumption)⟩ | exact⟨l1in (by assumption),l1in (by assumption),l1in (by assumption),l1in (by assumption),l1in h⟩
theorem in_l1 {a b c:Int} (h1:b≤a) (h2:a≤c):m105 a b c=true:=by
  unfold m105
  have d1:a≥b:=h1
  simp[d1,h2]
theorem ranges_of {a0:K_B} (h0:1≤a0.f0∧a0.f0≤12) (h1:0≤a0.f1∧a0.f1≤1000) (h2:0≤a0.f5∧a0.f5≤1000000) (h3:0≤a0.f6∧a0.f6≤1000000) (h4:0≤a0.f7∧a0.f7≤1000000):m95 a0=true:=by
  unfold m95
  simp only[in_l1 h0.1 h0.2,in_l1 h1.1 h1.2,in_l1 h2.1 h2.2,in_l1 h3.1 h3.2,in_l1 h4.1 h4.2,if_true]

theorem due_eq (a0:K_B) (w:ByteArray):m15 a0 w=m16 a0 w:=by
  unfold m15 m16
  rw[ledger_eq]
  by_cases h:(m51 a0 !=0)=true
  · rw[if_pos h,if_pos h]
  · rw[if_neg h,if_neg h]
    have hs:=sound (a0:=a0) (by simpa using h)
    rw[amt_eq w hs.dues,atw_eq]
    cases fidx (fun x:K_si=>x.f0.toList==w.toList) a0.f4 with
    |none=>simp
    |some p=>simp only[Int.toNat_natCast]; rw[if_neg (by simp)]
theorem pay_eq (a0:K_B) (w:ByteArray) (n:Int):m1004200 a0 w n=m17 a0 w n:=by
  unfold m1004200 m17
  rw[ledger_eq]
  by_cases h:(m51 a0 !=0)=true
  · rw[if_pos h,if_pos h]
  · rw[if_neg h,if_neg h]
    have hs:=sound (a0:=a0) (by simpa using h)
    simp only[cp91]
    unfold m1004300 o1004300_0 m61
    simp only[cp103,in_same,atix_eq]
    rw[amt_eq w hs.dues,atw_eq]
    cases hq:fidx (fun x:K_si=>x.f0.toList==w.toList) a0.f4 with
    |none=>simp
    |some p=>
      simp only[Int.toNat_natCast]
      have c1:¬(decide ((p:Int) < 0))=true:=by simp
      rw[if_neg c1]
      by_cases c2:((List.getD a0.f4 p (K_si.mk (⟨#[]⟩:ByteArray) 0)).f1==0)=true
      · simp only[if_pos c2]; rfl
      by_cases c3:(!(m105 n 1 (List.getD a0.f4 p (K_si.mk (⟨#[]⟩:ByteArray) 0)).f1))=true
      · simp only[if_neg c2,c3,if_true]; rfl
      by_cases c4:(!(m105 (IntKind.wrap .i64 (a0.f5+n)) 0 1000000))=true
      · simp only[if_neg c2,Bool.eq_false_iff.2 c3,c4,if_true,if_neg Bool.false_ne_true]; rfl
      · simp only[if_neg c2,Bool.eq_false_iff.2 c3,Bool.eq_false_iff.2 c4,if_neg Bool.false_ne_true]; rfl
theorem range0 {a0:K_B} (h:m95 a0=true):m105 a0.f0 1 12=true:=by
  unfold m95 at h
  by_cases d:m105 a0.f0 1 12=true
  · exact d
  · rw[if_neg d] at h; cases h
theorem credit_eq (a0:K_B) (w:K_si):m1004201 a0 w.f0 w.f1=m12 a0 w:=by
  unfold m1004201 m12
  rw[ledger_eq]
  by_cases h:(m51 a0 !=0)=true
  · rw[if_pos h,if_pos h]
  · rw[if_neg h,if_neg h]
    have hs:=sound (a0:=a0) (by simpa using h)
    have hr:=range0 hs.ranges
    have hw:¬((m96 a0.f2) !=0)=true:=by rw[hs.window]; decide
    have hi:¬(!(m105 a0.f0 1 12))=true:=by rw[hr]; decide
    simp only[cp91]
    unfold m1004900 o1004900_0 m53
    have he:m50 a0.f2 (K_si.mk w.f0 w.f1) a0.f0=(if((m102 w) !=0)=true then(K_iLsiE.mk (m102 w) []) else K_iLsiE.mk 0 (m104 a0.f2 w a0.f0)):=by
      rw[show K_si.mk w.f0 w.f1=w from rfl,push_is,if_neg hw,if_neg hi]
    simp only[cp103,he]
    by_cases c:((m102 w) !=0)=true
    · simp only[if_pos c]
    · simp only[if_neg c]; rfl
theorem credit_ok {x:K_B} {w:K_si} (hc:(m12 x w).f0=0):Sound x∧m102 w=0∧m12 x w=K_C.mk 0 0 x.f0 x.f1 (List.drop (x.f2.length+1 - x.f0.toNat) (x.f2++ [w])) x.f3 x.f4 x.f5 x.f6 x.f7:=by
  unfold m12 at hc⊢
  by_cases h:(m51 x !=0)=true
  · simp only[if_pos h] at hc
    rw[show m51 x=0 from hc] at h; simp at h
  · simp only[if_neg h] at hc⊢
    have hs:=sound (a0:=x) (by simpa using h)
    unfold m53 at hc⊢
    by_cases c:((m102 w) !=0)=true
    · simp only[if_pos c] at hc
      rw[hc] at c; simp at c
    · simp only[if_neg c,cp103]
      have hr:=(ranges_all hs.ranges).1
      rw[push_104 _ _ _ (by omega)]
      exact⟨hs,by simpa using c,rfl⟩
theorem pay_ok {l:K_B} {w:ByteArray} {n:Int} (hc:(m17 l w n).f0=0):Sound l∧∃p x,fidx (fun y:K_si=>y.f0.toList==w.toList) l.f4=some p∧l.f4[p]?=some x∧1≤n∧n≤x.f1∧0≤l.f5+n∧l.f5+n≤1000000∧m17 l w n=K_C.mk 0 0 l.f0 l.f1 l.f2 l.f3 (l.f4.set p (K_si.mk x.f0 (x.f1 - n))) (l.f5+n) l.f6 l.f7:=by
  unfold m17 at hc⊢
  by_cases h:(m51 l !=0)=true
  · simp only[if_pos h] at hc
    rw[show m51 l=0 from hc] at h; simp at h
  · simp only[if_neg h] at hc⊢
    have hs:=sound (a0:=l) (by simpa using h)
    have hr:=ranges_all hs.ranges
    refine⟨hs,?_⟩
    unfold m61 at hc⊢
    simp only[cp103] at hc⊢
    rw[atw_eq] at hc⊢
    cases hq:fidx (fun y:K_si=>y.f0.toList==w.toList) l.f4 with
    |none=>rw[hq] at hc; simp at hc
    |some p=>
      rw[hq] at hc
      obtain⟨x,hx,hxw⟩:=fidx_get hq
      have hg:List.getD l.f4 p (K_si.mk (⟨#[]⟩:ByteArray) 0)=x:=by rw[List.getD_eq_getElem?_getD,hx]; rfl
      have hxb:=parts_ok hs.dues hx
      simp only[Int.toNat_natCast,hg] at hc⊢
      have c1:¬(decide ((p:Int) < 0))=true:=by simp
      simp only[if_neg c1] at hc⊢
      by_cases c2:(x.f1==0)=true
      · simp only[if_pos c2] at hc; simp at hc
      simp only[if_neg c2] at hc⊢
      by_cases c3:(!(m105 n 1 x.f1))=true
      · simp only[if_pos c3] at hc; simp at hc
      simp only[if_neg c3] at hc⊢
      have q3:=l1in (show m105 n 1 x.f1=true by simpa using c3)
      have e5:IntKind.wrap .i64 (l.f5+n)=l.f5+n:=wrap64 (by omega)
      rw[e5] at hc⊢
      by_cases c4:(!(m105 (l.f5+n) 0 1000000))=true
      · simp only[if_pos c4] at hc; simp at hc
      have q4:=l1in (show m105 (l.f5+n) 0 1000000=true by simpa using c4)
      refine⟨p,x,rfl,hx,q3.1,q3.2,q4.1,q4.2,?_⟩
      rw[if_neg c4,wrap64 (by omega)]
theorem last_is (a:List K_si) (w:K_si) (k:Nat) (hk:1≤k):∃m,(List.drop (a.length+1 - k) (a++ [w])).length=m+1∧List.getD (List.drop (a.length+1 - k) (a++ [w])) m (K_si.mk (⟨#[]⟩:ByteArray) 0)=w:=by
  refine⟨a.length - (a.length+1 - k),by simp only[List.length_drop,List.length_append,List.length_cons,List.length_nil]; omega,?_⟩
  rw[List.getD_eq_getElem?_getD,List.getElem?_drop,show a.length+1 - k+(a.length - (a.length+1 - k))=a.length by omega,List.getElem?_append_right (Nat.le_refl _)]
  simp
theorem credit_sound {x:K_B} {w:K_si} (hs:Sound x) (hw:m102 w=0):Sound (K_B.mk x.f0 x.f1 (List.drop (x.f2.length+1 - x.f0.toNat) (x.f2++ [w])) x.f3 x.f4 x.f5 x.f6 x.f7):=by
  obtain⟨h1,h2,h3,h4,h5,h6,h7,h8,h9⟩:=hs
  have hr:=ranges_all h1
  obtain⟨w1,w2⟩:=(f13_iff _).1 h2
  refine⟨ranges_of hr.1 hr.2.1 hr.2.2.1 hr.2.2.2.1 hr.2.2.2.2,(f13_iff _).2 ⟨?_,fun z hz=>?_⟩,?_,h4,h5,h6,h7,h8,h9⟩
  · simp only[List.length_drop,List.length_append,List.length_cons,List.length_nil]; omega
  · rcases List.mem_append.1 (List.mem_of_mem_drop hz) with hz | hz
    · exact w2 z hz
    · rw[List.mem_singleton.1 hz]; exact hw
  · simp only[List.length_drop,List.length_append,List.length_cons,List.length_nil]; omega
theorem names_set {a:List K_si} {p:Nat} {x:K_si} (hx:a[p]?=some x) (v:Int):(a.set p (K_si.mk x.f0 v)).map K_si.f0=a.map K_si.f0:=by
  rw[List.map_set]
  apply List.ext_getElem?
  intro k
  rw[List.getElem?_set]
  split
  · rename_i e; subst e
    rw[List.length_map]
    split
    · rw[List.getElem?_map,hx]; rfl
    · rename_i h; rw[List.getElem?_eq_none (by simp; omega)]
  · rfl
theorem pay_sound {l:K_B} {p:Nat} {x:K_si} {n:Int} (hs:Sound l) (hx:l.f4[p]?=some x) (h1n:1≤n) (hn:n≤x.f1) (g1:0≤l.f5+n) (g2:l.f5+n≤1000000):Sound (K_B.mk l.f0 l.f1 l.f2 l.f3 (l.f4.set p (K_si.mk x.f0 (x.f1 - n))) (l.f5+n) l.f6 l.f7)∧isum (l.f4.set p (K_si.mk x.f0 (x.f1 - n)))=isum l.f4 - n:=by
  have hbd:=dues_bd hs
  have hxb:=hbd x (List.mem_of_getElem? hx)
  obtain⟨h1,h2,h3,h4,h5,h6,h7,h8,h9⟩:=hs
  have hr:=ranges_all h1
  have hsum:isum (l.f4.set p (K_si.mk x.f0 (x.f1 - n)))=isum l.f4 - n:=by rw[isum_set hx]; simp only[]; omega
  have hp:=(parts_iff _).1 h7
  have hbd2:∀z∈l.f4.set p (K_si.mk x.f0 (x.f1 - n)),0≤z.f1∧z.f1≤1000000:=fun z hz=>by
    rcases List.mem_or_eq_of_mem_set hz with hz | rfl
    · exact hbd z hz
    · simp only[]; omega
  refine⟨⟨ranges_of hr.1 hr.2.1 ⟨g1,g2⟩ hr.2.2.2.1 hr.2.2.2.2,h2,h3,h4,by simp only[List.length_set]; exact h5,h6,(parts_iff _).2 ⟨by simp only[]; rw[names_set hx]; exact hp.1,fun z hz=>in_l1 (hbd2 z hz).1 (hbd2 z hz).2⟩,?_,h9⟩,hsum⟩
  simp only[]
  rw[← h8,tot_is hbd2 (by rw[List.length_set]; omega),tot_is hbd (by omega),hsum]
  have b:=isum_bd hbd
  have b2:=isum_bd hbd2
  rw[hsum,List.length_set] at b2
  rw[wrap64 (x:=isum l.f4 - n+l.f6) (by omega),wrap64 (x:=isum l.f4+l.f6) (by omega)]
  congr 1; omega
theorem due_val {a:K_B} (hs:Sound a) (w:ByteArray) {p:Nat} {x:K_si} (hq:fidx (fun y:K_si=>y.f0.toList==w.toList) a.f4=some p) (hx:a.f4[p]?=some x):(m16 a w).f1=x.f1:=by
  unfold m16
  rw[if_neg (by rw[fault_of hs]; decide),atw_eq,hq]
  simp only[Int.toNat_natCast]
  rw[if_neg (by simp),List.getD_eq_getElem?_getD,hx]; rfl
theorem pure (a0:(List Int)) (w0:wf_LyE a0):m3 a0=true:=by
  unfold m3
  by_cases hb:m6 a0=true
  · rw[if_pos hb]
  rw[if_neg hb]
  simp only[credit_eq,due_eq,pay_eq,bne_self_eq_false,if_neg Bool.false_ne_true]
  generalize m9_0 a0=x
  generalize m9_1 a0=w
  generalize m7_0 a0=l
  generalize m7_1 a0=v
  generalize m7_2 a0=n
  by_cases P:((m17 l v n).f0 !=0)=true
  · simp only[if_pos P,beq_self_eq_true]
    by_cases C:((m12 x w).f0==0)=true
    · obtain⟨hs,hw1,he⟩:=credit_ok (show (m12 x w).f0=0 by simpa using C)
      have hr:=(ranges_all hs.ranges).1
      have hf:=fault_of (credit_sound hs hw1)
      obtain⟨k,e1,e2⟩:=last_is x.f2 w x.f0.toNat (by omega)
      have hkb:k≤100000:=by
        have:=(credit_sound hs hw1).winlen
        simp only[] at this
        omega
      have hlw:m14 (K_B.mk x.f0 x.f1 (List.drop (x.f2.length+1 - x.f0.toNat) (x.f2++ [w])) x.f3 x.f4 x.f5 x.f6 x.f7)=m14 x:=by
        rw[lw_is (dues_bd (credit_sound hs hw1)) (by have:=hs.duelen; simp only[]; omega),lw_is (dues_bd hs) (by have:=hs.duelen; omega)]
      have hk0:¬((((k+1:Nat):Int)==0)=true):=by simp; omega
      have hk1:Int.toNat (IntKind.wrap .i64 (((k+1:Nat):Int) - 1))=k:=by rw[wrap64 (by omega)]; omega
      simp only[he,ledger_eq,hf,hlw,List.length_map,e1,hk1,e2,if_neg hk0,bne_self_eq_false,beq_self_eq_true,Bool.and_self,Bool.not_true,if_true,if_neg Bool.false_ne_true]
    · simp only[if_neg C]
  · obtain⟨hs,p,z,hq,hz,g1,g2,g3,g4,he⟩:=pay_ok (show (m17 l v n).f0=0 by simpa using P)
    obtain⟨hs2,hsum⟩:=pay_sound hs hz g1 g2 g3 g4
    have hf:=fault_of hs2
    have hzb:=dues_bd hs z (List.mem_of_getElem? hz)
    have hd1:=due_val hs v hq hz
    have hpl:p < l.f4.length:=(List.getElem?_eq_some_iff.1 hz).1
    have hd2 := due_val hs2 v (p := p) (x := K_si.mk z.f0 (z.f1 - n)) (by
      simp only[]
      rw[fidx_map (fun t:ByteArray=>t.toList==v.toList) K_si.f0,names_set hz,← fidx_map (fun t:ByteArray=>t.toList==v.toList) K_si.f0]; exact hq) (by simp only[]; rw[List.getElem?_set_self hpl])
    have hb:=isum_bd (dues_bd hs)
    have hl8:=hs.duelen
    have hlw1:=lw_is (dues_bd hs2) (by simp only[List.length_set]; omega)
    have hlw2:=lw_is (dues_bd hs) (by omega)
    simp only[] at hlw1 hd2
    rw[hsum] at hlw1
    have e1:decide (n≥1)=true:=by simp; omega
    have e2:decide (n≤z.f1)=true:=by simp; omega
    have e3:IntKind.wrap .i64 (z.f1 - n)=z.f1 - n:=wrap64 (by omega)
    have e4:IntKind.wrap .i64 (l.f5+n)=l.f5+n:=wrap64 (by omega)
    have e5:IntKind.wrap .i64 (isum l.f4 - n)=isum l.f4 - n:=wrap64 (by omega)
    simp only[he,ledger_eq,hf,hd1,hd2,hlw1,hlw2,e1,e2,e3,e4,e5,bne_self_eq_false,beq_self_eq_true,if_true,if_neg Bool.false_ne_true,if_neg P]
    by_cases C:((m12 x w).f0==0)=true
    · obtain⟨hs,hw1,he⟩:=credit_ok (show (m12 x w).f0=0 by simpa using C)
      have hr:=(ranges_all hs.ranges).1
      have hf:=fault_of (credit_sound hs hw1)
      obtain⟨k,e1,e2⟩:=last_is x.f2 w x.f0.toNat (by omega)
      have hkb:k≤100000:=by
        have:=(credit_sound hs hw1).winlen
        simp only[] at this
        omega
      have hlw:m14 (K_B.mk x.f0 x.f1 (List.drop (x.f2.length+1 - x.f0.toNat) (x.f2++ [w])) x.f3 x.f4 x.f5 x.f6 x.f7)=m14 x:=by
        rw[lw_is (dues_bd (credit_sound hs hw1)) (by have:=hs.duelen; simp only[]; omega),lw_is (dues_bd hs) (by have:=hs.duelen; omega)]
      have hk0:¬((((k+1:Nat):Int)==0)=true):=by simp; omega
      have hk1:Int.toNat (IntKind.wrap .i64 (((k+1:Nat):Int) - 1))=k:=by rw[wrap64 (by omega)]; omega
      simp only[he,ledger_eq,hf,hlw,List.length_map,e1,hk1,e2,if_neg hk0,bne_self_eq_false,beq_self_eq_true,Bool.and_self,Bool.not_true,if_true,if_neg Bool.false_ne_true]
    · simp only[if_neg C]

end Go.Proofs.YtihjlmgakpgkeaaDoor.Pays
