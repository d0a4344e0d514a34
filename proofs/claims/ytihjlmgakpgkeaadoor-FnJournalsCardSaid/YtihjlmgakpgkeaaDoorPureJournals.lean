/- The plain law: what the functions compute answers as the statement says. -/
import Derived.Test.YtihjlmgakpgkeaaDoorEJournals
import Derived.Test.YtihjlmgakpgkeaaDoorVArgs
namespace Go.Proofs.YtihjlmgakpgkeaaDoor.Journals
open Go Go.Proofs.YtihjlmgakpgkeaaDoor.V
set_option linter.unusedVariables false
set_option maxRecDepth 20000
def wf_y (x:Int):Prop:=(Lit.int .u8 x).wf=true
theorem un_y {bs:List B} (h:Sh.okL [.int .u8] bs):∃x:Int,bs=[(.val (.int .u8 x))]∧wf_y x:=by
  obtain⟨b0,m0,rfl,o0,h0⟩:=h
  obtain⟨x0,rfl,w0⟩:∃z:Int,b0=.val (.int .u8 z)∧(Lit.int .u8 z).wf=true:=by
    cases b0 with
    |val v=>
      cases v<;>first | exact o0.elim |(obtain⟨rfl,w⟩:=o0; exact⟨_,rfl,w⟩)
    |sl r=>exact o0.elim
  obtain rfl:=h0
  exact⟨x0,rfl,w0⟩
theorem uns_y:∀ {rows:List (List B)},(∀r∈rows,Sh.okL [.int .u8] r)→∃z:List Int,rows=z.map b_y∧∀u∈z,wf_y u
  |[],_=>⟨[],rfl,fun u h=>(by cases h)⟩
  |r::rows,h=>by
    obtain⟨x,e,w⟩:=un_y (h r (List.mem_cons_self ..))
    obtain⟨z,rfl,hz⟩:=uns_y (fun r hr=>h r (List.mem_cons_of_mem _ hr))
    refine⟨x::z,by rw[e]; rfl,fun u hu=>?_⟩
    rcases List.mem_cons.1 hu with rfl | hu
    · exact w
    · exact hz u hu
def wf_LyE (x:(List Int)):Prop:=(x.length*1≤140737488351232∧∀z∈x,wf_y z)
theorem un_LyE {bs:List B} (h:Sh.okL [.sl [.int .u8] 1] bs):∃x:(List Int),bs=[(.sl (List.map b_y x))]∧wf_LyE x:=by
  obtain⟨b0,m0,rfl,o0,h0⟩:=h
  obtain⟨x0,rfl,w0⟩:∃z:(List Int),b0=.sl (z.map b_y)∧z.length*1≤140737488351232∧∀u∈z,wf_y u:=by
    cases b0 with
    |val v=>cases v<;>exact o0.elim
    |sl r=>
      obtain⟨z,rfl,hz⟩:=uns_y o0.2
      exact⟨z,rfl,by simpa using o0.1,hz⟩
  obtain rfl:=h0
  exact⟨x0,rfl,w0⟩
theorem in_iff (a b c:Int):m45 a b c=true↔b≤a∧a≤c:=by
  unfold m45; split<;>simp_all<;>omega
theorem l1In_iff (a b c:Int):m105 a b c=true↔b≤a∧a≤c:=by
  unfold m105; split<;>simp_all<;>omega
theorem in_eq (a b c:Int):m45 a b c=m105 a b c:=by
  rw[Bool.eq_iff_iff,in_iff,l1In_iff]

def signs:ByteArray:=⟨#[97,98,99,100,101,102,103,104,105,106,107,108,109,110,111,112,113,114,115,116,117,118,119,120,121,122,65,66,67,68,69,70,71,72,73,74,75,76,77,78,79,80,81,82,83,84,85,86,87,88,89,90,48,49,50,51,52,53,54,55,56,57]⟩
theorem signs_iff (b:UInt8):signs.data.toList.contains b=m140 (b.toNat:Int):=by
  have key:∀n:Fin 256,signs.data.toList.contains (UInt8.ofNat n.val)=m140 ((UInt8.ofNat n.val).toNat:Int):=by decide+kernel
  have:=key ⟨b.toNat,b.toNat_lt⟩
  simpa using this
theorem dw_bad {p:UInt8→Bool} {b:UInt8} (hp:p b=false):∀ {l:List UInt8},b∈l→b∈l.dropWhile p
  |x::l,h=>by
    simp only[List.dropWhile]
    cases hx:p x with
    |true=>
      rcases List.mem_cons.1 h with rfl | h
      · rw[hp] at hx; cases hx
      · exact dw_bad hp h
    |false=>exact h
theorem dw_nil {p:UInt8→Bool}:∀ {l:List UInt8},(∀b∈l,p b=true)→l.dropWhile p=[]
  |[],_=>rfl
  |x::l,h=>by
    simp only[List.dropWhile,h x (List.mem_cons_self ..)]
    exact dw_nil fun b hb=>h b (List.mem_cons_of_mem _ hb)
theorem trim_nil (l cs:List UInt8):Lib.trimS l cs=[]↔∀b∈l,cs.contains b=true:=by
  unfold Lib.trimS Lib.trimLeftS Lib.trimRightS
  constructor
  · intro h b hb
    cases hc:cs.contains b with
    |true=>rfl
    |false=>
      have h1:=dw_bad (p:=(cs.contains ·)) hc (List.mem_reverse.2 hb)
      have h2:=dw_bad (p:=(cs.contains ·)) hc (List.mem_reverse.2 h1)
      rw[h] at h2; cases h2
  · intro h
    rw[dw_nil (p:=(cs.contains ·)) (l:=l.reverse) fun b hb=>h b (List.mem_reverse.1 hb)]
    rfl
theorem byteAt_nat (s:ByteArray) (i:Nat) (h:i < s.size):byteAt s (i:Int)=((s.data.toList[i]'(by simpa using h)).toNat:Int):=by
  unfold byteAt
  rw[Int.toNat_natCast,List.getElem?_eq_getElem (by simpa using h)]
  rfl
theorem arg_loop (s:ByteArray):∀(n i:Nat),i+n=s.size→(r115_0 s n (i:Int)=.k1∧∃b∈s.data.toList.drop i,m140 (b.toNat:Int)=false)∨(∃w b,r115_0 s n (i:Int)=.k0 w b∧∀b∈s.data.toList.drop i,m140 (b.toNat:Int)=true)
  | 0, i, h => .inr ⟨_, _, rfl, fun b hb => by
      rw[List.drop_eq_nil_of_le (by show s.data.toList.length≤i; rw[Array.length_toList]; have:s.data.size=s.size:=rfl; omega)] at hb; cases hb⟩
  |n+1,i,h=>by
    have hi:i < s.size:=by omega
    have hl:i < s.data.toList.length:=by simpa using hi
    rw[List.drop_eq_getElem_cons hl]
    generalize hx:s.data.toList[i]=x
    simp only[r115_0]
    rw[byteAt_nat s i hi,hx]
    by_cases hc:m140 (x.toNat:Int)=true
    · rw[if_neg (by simp[hc])]
      have ih:=arg_loop s n (i+1) (by omega)
      rw[show ((i:Int)+1)=((i+1:Nat):Int) by omega]
      rcases ih with⟨h1,b,h2,h3⟩ |⟨w,b,h1,h2⟩
      · exact .inl ⟨h1,b,List.mem_cons_of_mem _ h2,h3⟩
      · refine .inr ⟨w,b,h1,fun c hcm=>?_⟩
        rcases List.mem_cons.1 hcm with rfl | hcm
        · exact hc
        · exact h2 c hcm
    · have hf:m140 (x.toNat:Int)=false:=by simpa using hc
      rw[if_pos (by simp[hf])]
      exact .inl ⟨rfl,_,List.mem_cons_self ..,hf⟩
theorem arg_eq (s:ByteArray):m119 s=m115 s:=by
  have ht:((trimB s signs).toList==(⟨#[]⟩:ByteArray).toList)=decide (∀b∈s.data.toList,m140 (b.toNat:Int)=true):=by
    rw[ba_eq,Bool.eq_iff_iff,decide_eq_true_eq,decide_eq_true_eq]
    have:trimB s signs=⟨#[]⟩↔Lib.trimS s.data.toList signs.data.toList=[]:=by
      unfold trimB
      constructor
      · intro h; injection h with h; simpa using congrArg Array.toList h
      · intro h; rw[h]
    rw[this,trim_nil]
    constructor
    · intro h b hb; rw[← signs_iff]; exact h b hb
    · intro h b hb; rw[signs_iff]; exact h b hb
  have hl:=arg_loop s s.size 0 (by omega)
  rw[List.drop_zero] at hl
  unfold m119 m115
  rw[show (⟨#[97,98,99,100,101,102,103,104,105,106,107,108,109,110,111,112,113,114,115,116,117,118,119,120,121,122,65,66,67,68,69,70,71,72,73,74,75,76,77,78,79,80,81,82,83,84,85,86,87,88,89,90,48,49,50,51,52,53,54,55,56,57]⟩:ByteArray)=signs from rfl,ht]
  rw[Int.toNat_natCast,show (0:Int)=((0:Nat):Int) from rfl]
  rcases hl with⟨h1,b,h2,h3⟩ |⟨w,b,h1,h2⟩
  · rw[h1]
    have:¬∀b∈s.data.toList,m140 (b.toNat:Int)=true:=fun h=>by rw[h b h2] at h3; cases h3
    rw[decide_eq_false this]
    simp only[]
    split<;>rfl
  · rw[h1,decide_eq_true h2]
    simp only[]
    cases decide ((s.size:Int)≤12)<;>rfl

theorem in_dec (a b c:Int):m45 a b c=decide (b≤a∧a≤c):=by
  rw[Bool.eq_iff_iff,in_iff,decide_eq_true_eq]
theorem l1In_dec (a b c:Int):m105 a b c=decide (b≤a∧a≤c):=by
  rw[Bool.eq_iff_iff,l1In_iff,decide_eq_true_eq]
theorem entry_eq (a:K_isii):m24 a=m69 a:=by
  unfold m24 m69 m114_0 m114_1 m114_2 m71
  simp only[in_dec,l1In_dec,arg_eq]
  generalize (a.f1.toList==(⟨#[]⟩:ByteArray).toList)=A
  generalize m115 a.f1=B
  generalize a.f0=k
  generalize a.f2=i
  generalize a.f3=n
  by_cases h1:k=1
  · subst h1
    cases A<;>cases B<;>simp<;>(repeat' split)<;>first | rfl | omega
  · by_cases h5:k=5
    · subst h5
      cases A<;>cases B<;>simp<;>(repeat' split)<;>first | rfl | omega
    · by_cases h2:k=2
      · subst h2
        cases A<;>cases B<;>simp<;>(repeat' split)<;>first | rfl | omega
      · cases A<;>cases B<;>simp[h1,h5,h2]<;>(repeat' split)<;>first | rfl | omega

theorem wrap8 (x:Int):IntKind.wrap .u8 x=x % 256:=by simp[IntKind.wrap,IntKind.bits,IntKind.signed]
theorem fd8 (x:Int):Int.fdiv x (2 ^(min (Int.toNat 8) (IntKind.bits .i64)))=x / 256:=by
  rw[show (2 ^(min (Int.toNat 8) (IntKind.bits .i64)):Int)=256 from rfl]; exact Int.fdiv_eq_ediv_of_nonneg _ (by decide)
theorem fd16 (x:Int):Int.fdiv x (2 ^(min (Int.toNat 16) (IntKind.bits .i64)))=x / 65536:=by
  rw[show (2 ^(min (Int.toNat 16) (IntKind.bits .i64)):Int)=65536 from rfl]; exact Int.fdiv_eq_ediv_of_nonneg _ (by decide)
theorem fd24 (x:Int):Int.fdiv x (2 ^(min (Int.toNat 24) (IntKind.bits .i64)))=x / 16777216:=by
  rw[show (2 ^(min (Int.toNat 24) (IntKind.bits .i64)):Int)=16777216 from rfl]; exact Int.fdiv_eq_ediv_of_nonneg _ (by decide)
theorem four_is (a:Int):m117 a=[a / 16777216 % 256,a / 65536 % 256,a / 256 % 256,a % 256]:=by
  unfold m117
  simp only[fd8,fd16,fd24,wrap8]
theorem high4_is (a:Int):m112 a 4=[a / 256 / 256 / 256 % 256,a / 256 / 256 % 256,a / 256 % 256,a % 256]:=by
  have h:m112 a 4=[IntKind.wrap .u8 (Int.fdiv (Int.fdiv (Int.fdiv a (2 ^(min (Int.toNat 8) (IntKind.bits .i64)))) (2 ^(min (Int.toNat 8) (IntKind.bits .i64)))) (2 ^(min (Int.toNat 8) (IntKind.bits .i64)))),IntKind.wrap .u8 (Int.fdiv (Int.fdiv a (2 ^(min (Int.toNat 8) (IntKind.bits .i64)))) (2 ^(min (Int.toNat 8) (IntKind.bits .i64)))),IntKind.wrap .u8 (Int.fdiv a (2 ^(min (Int.toNat 8) (IntKind.bits .i64)))),IntKind.wrap .u8 a]:=by kernel_rfl
  rw[h]
  simp only[fd8,wrap8]
theorem high2_is (a:Int):m112 a 2=[a / 256 % 256,a % 256]:=by
  have h:m112 a 2=[IntKind.wrap .u8 (Int.fdiv a (2 ^(min (Int.toNat 8) (IntKind.bits .i64)))),IntKind.wrap .u8 a]:=by kernel_rfl
  rw[h]
  simp only[fd8,wrap8]
theorem high4_eq (a:Int):m112 a 4=m117 a:=by
  rw[high4_is,four_is]
  have h1:a / 256 / 256 / 256=a / 16777216:=by omega
  have h2:a / 256 / 256=a / 65536:=by omega
  rw[h1,h2]
theorem sum_loop (a b:List Int):∀(l:List Int) (i j v:Int),(match r113_0 a l i v with | .k0 w .. =>w)=(match r118_0 b l j v with | .k0 w .. =>w)
  |[],i,j,v=>rfl
  |x::l,i,j,v=>by
    simp only[r113_0,r118_0]
    rw[Int.mul_comm 33 v]
    exact sum_loop a b l (i+1) (j+1) _
theorem sum_eq (a:List Int):m113 a=m118 a:=by
  unfold m113 m118
  exact sum_loop a a a 0 0 5381
def Bs (l:List Int):Prop:=∀z∈l,(0:Int)≤z∧z≤255
theorem Bs.append {l m:List Int} (h:Bs l) (k:Bs m):Bs (l++m):=fun z hz=>by
  rcases List.mem_append.1 hz with hz | hz
  · exact h z hz
  · exact k z hz
theorem Bs_str (s:ByteArray):Bs (strInts s):=fun z hz=>by
  obtain⟨b,_,rfl⟩:=List.mem_map.1 hz
  have:=b.toNat_lt
  omega
theorem Bs_four (a:Int):Bs (m117 a):=by
  rw[four_is]
  intro z hz
  simp only[List.mem_cons,List.not_mem_nil,or_false] at hz
  rcases hz with rfl | rfl | rfl | rfl<;>omega
theorem sum_range (a:List Int):∀(l:List Int) (i v:Int),Bs l→0≤v→v≤2147483646→0≤(match r118_0 a l i v with | .k0 w .. =>w)∧(match r118_0 a l i v with | .k0 w .. =>w)≤2147483646
  |[],i,v,_,h1,h2=>⟨h1,h2⟩
  |x::l,i,v,hb,h1,h2=>by
    have hx:=hb x (List.mem_cons_self ..)
    simp only[r118_0]
    rw[wrap64 (x:=v*33) (by omega),wrap64 (x:=x) (by omega),wrap64 (x:=v*33+x) (by omega),wrap64 (x:=v*33+x+1) (by omega)]
    have e1:=Int.tmod_nonneg (a:=v*33+x+1) 2147483647 (by omega)
    have e2:=Int.tmod_lt_of_pos (v*33+x+1) (show (0:Int) < 2147483647 by omega)
    exact sum_range a l (i+1) _ (fun z hz=>hb z (List.mem_cons_of_mem _ hz)) e1 (by omega)
theorem sum_ok {a:List Int} (h:Bs a):0≤m118 a∧m118 a≤2147483646:=by
  unfold m118
  exact sum_range a a 0 5381 h (by omega) (by omega)
/-- An entry's body. -/
def bodyOf (a:K_isii):List Int:=((([IntKind.wrap .u8 a.f0,IntKind.wrap .u8 ((ByteArray.size a.f1:Int))]++strInts a.f1)++m117 a.f2)++m117 a.f3)
theorem Bs_body (a:K_isii):Bs (bodyOf a):=by
  unfold bodyOf
  refine Bs.append (Bs.append (Bs.append ?_ (Bs_str _)) (Bs_four _)) (Bs_four _)
  intro z hz
  simp only[List.mem_cons,List.not_mem_nil,or_false,wrap8] at hz
  rcases hz with rfl | rfl<;>omega
theorem body_len (a:K_isii):List.length (bodyOf a)=ByteArray.size a.f1+10:=by
  unfold bodyOf
  simp only[List.length_append,List.length_cons,List.length_nil,strInts_len,four_len]; omega
theorem spec_pack (a:K_isii):m70 a=([((ByteArray.size a.f1:Int)+10) % 256]++bodyOf a)++ [m118 (bodyOf a) / 256 % 256,m118 (bodyOf a) % 256]:=by
  unfold m70
  simp only[fd8]
  rw[wrap8 (m118 _),wrap8 (m118 _ / 256)]
  show _=([((ByteArray.size a.f1:Int)+10) % 256]++bodyOf a)++_
  unfold bodyOf
  congr 2
  rw[wrap8]
  simp only[List.length_append,List.length_cons,List.length_nil,List.length_take,List.length_drop,List.length_map,byteRows_len,strInts_len,four_len]
  congr 2
  omega
theorem pack_eq (a:K_isii) (h:ByteArray.size a.f1≤1000):m68 a=m70 a:=by
  have hc:m67 [[(IntKind.wrap .u8 (a.f0)),(IntKind.wrap .u8 ((ByteArray.size a.f1:Int)))],(strInts a.f1),(m112 a.f2 4),(m112 a.f3 4)]=bodyOf a:=by
    rw[concat_is _ (by simp only[List.flatten_cons,List.flatten_nil,List.append_nil,List.length_append,List.length_cons,List.length_nil,strInts_len,high4]; omega),high4_eq,high4_eq]
    unfold bodyOf
    simp only[List.flatten_cons,List.flatten_nil,List.append_nil,List.append_assoc]
  have hl:=body_len a
  unfold m68
  rw[hc,concat_is _ (by simp only[List.flatten_cons,List.flatten_nil,List.append_nil,List.length_append,List.length_cons,List.length_nil,high2,hl]; omega),sum_eq,high2_is,spec_pack]
  obtain⟨h1,h2⟩:=sum_ok (Bs_body a)
  rw[Int.tmod_eq_emod_of_nonneg h1,List.length_map,hl,wrap8]
  have e1:m118 (bodyOf a) % 65536 / 256 % 256=m118 (bodyOf a) / 256 % 256:=by omega
  have e2:m118 (bodyOf a) % 65536 % 256=m118 (bodyOf a) % 256:=by omega
  rw[e1,e2]
  simp only[List.flatten_cons,List.flatten_nil,List.append_nil,List.append_assoc]
  rfl

theorem or8 {v x:Int} (hv:0≤v) (hv2:v≤16777216) (hx:0≤x∧x≤255):bitsV .or .i64 (IntKind.wrap .i64 (v*2 ^(min (Int.toNat 8) (IntKind.bits .i64)))) (IntKind.wrap .i64 x)=v*256+x:=by
  obtain⟨n,rfl⟩:=Int.eq_ofNat_of_zero_le hv
  obtain⟨m,rfl⟩:=Int.eq_ofNat_of_zero_le hx.1
  rw[show (2 ^(min (Int.toNat 8) (IntKind.bits .i64)):Int)=256 from rfl,wrap64 (by omega),wrap64 (by omega)]
  show IntKind.wrap .i64 (((BitVec.ofInt 64 ((n:Int)*256) ||| BitVec.ofInt 64 (m:Int)).toNat:Nat):Int)=_
  rw[BitVec.toNat_or,BitVec.toNat_ofInt,BitVec.toNat_ofInt]
  have e1:(((n:Int)*256) %((2 ^ 64:Nat):Int)).toNat=2 ^ 8*n:=by omega
  have e2:((m:Int) %((2 ^ 64:Nat):Int)).toNat=m:=by omega
  rw[e1,e2,← Nat.two_pow_add_eq_or_of_lt (by omega) n,wrap64 (by omega)]
  omega
def four4 (l:List Int):Int:=((List.getD l 0 0*256+List.getD l 1 0)*256+List.getD l 2 0)*256+List.getD l 3 0
theorem num_s {l:List Int} (hb:∀z∈l,(0:Int)≤z∧z≤255):m142 l=four4 l:=by
  have g0:=gb hb 0
  have g1:=gb hb 1
  have g2:=gb hb 2
  have g3:=gb hb 3
  unfold m142 four4
  generalize List.getD l 0 0=a at*
  generalize List.getD l 1 0=b at*
  generalize List.getD l 2 0=c at*
  generalize List.getD l 3 0=d at*
  rw[show (2 ^(min (Int.toNat 24) (IntKind.bits .i64)):Int)=16777216 from rfl,show (2 ^(min (Int.toNat 16) (IntKind.bits .i64)):Int)=65536 from rfl,show (2 ^(min (Int.toNat 8) (IntKind.bits .i64)):Int)=256 from rfl]
  rw[wrap64 (x:=a) (by omega),wrap64 (x:=b) (by omega),wrap64 (x:=c) (by omega),wrap64 (x:=d) (by omega),wrap64 (x:=a*16777216) (by omega),wrap64 (x:=b*65536) (by omega),wrap64 (x:=c*256) (by omega),wrap64 (x:=a*16777216+b*65536) (by omega),wrap64 (x:=a*16777216+b*65536+c*256) (by omega),wrap64 (by omega)]
  omega
theorem num_i {l:List Int} (hb:∀z∈l,(0:Int)≤z∧z≤255) (h4:l.length=4):m108 l=four4 l:=by
  match l,h4 with
  |[a,b,c,d],_=>
    have g0:=hb a (by simp)
    have g1:=hb b (by simp)
    have g2:=hb c (by simp)
    have g3:=hb d (by simp)
    unfold m108 four4
    simp only[r108_0]
    rw[or8 (v:=0) (by omega) (by omega) g0,or8 (by omega) (by omega) g1,or8 (by omega) (by omega) g2,or8 (by omega) (by omega) g3]
    simp
theorem four4_take (l:List Int) (n:Nat) (h:4≤n):four4 (List.take n l)=four4 l:=by
  unfold four4
  have:∀i,i < 4→List.getD (List.take n l) i 0=List.getD l i 0:=fun i hi=>by
    rw[List.getD_eq_getElem?_getD,List.getD_eq_getElem?_getD,List.getElem?_take,if_pos (by omega)]
  rw[this 0 (by omega),this 1 (by omega),this 2 (by omega),this 3 (by omega)]
theorem rd_eq (a0:List Int) (hb:∀z∈a0,(0:Int)≤z∧z≤255):m63_2 a0=m121_1 a0∧(m121_1 a0=true→m63_0 a0=m121_0 a0∧m63_1 a0=(List.length (m70 (m121_0 a0)):Int)):=by
  obtain⟨g0,g1,e0,e1,e2,e3,e4,e5,e6,e7,e8,e9⟩:=nums a0 hb
  unfold m63_2 m63_1 m63_0 m121_1 m121_0
  simp only[List.length_map,List.length_take,List.length_drop]
  have hbd:=gtd hb (Int.toNat (IntKind.wrap .i64 (1+(IntKind.wrap .i64 ((List.getD a0 0 0))))) - Int.toNat 1) 1
  have hlen:List.length (List.take (Int.toNat (IntKind.wrap .i64 (1+(IntKind.wrap .i64 ((List.getD a0 0 0))))) - Int.toNat 1) (List.drop 1 a0))=min (Int.toNat (List.getD a0 0 0)) (a0.length - 1):=by
    rw[List.length_take,List.length_drop,e1]; omega
  have hmin:min (Int.toNat (IntKind.wrap .i64 (1+(IntKind.wrap .i64 ((List.getD a0 0 0))))) - Int.toNat 1) (a0.length - 1)=min (Int.toNat (List.getD a0 0 0)) (a0.length - 1):=by
    rw[e1]; omega
  rw[hmin]
  generalize List.take (Int.toNat (IntKind.wrap .i64 (1+(IntKind.wrap .i64 ((List.getD a0 0 0))))) - Int.toNat 1) (List.drop 1 a0)=B at*
  generalize IntKind.wrap .i64 (IntKind.wrap .i64 (1+(IntKind.wrap .i64 ((List.getD a0 0 0))))+2)=w2 at*
  generalize IntKind.wrap .i64 ((IntKind.wrap .i64 ((List.getD a0 0 0)))+3)=w3 at*
  generalize IntKind.wrap .i64 (IntKind.wrap .i64 (2+(IntKind.wrap .i64 ((List.getD B 1 0))))+8)=w6 at*
  generalize IntKind.wrap .i64 (IntKind.wrap .i64 (2+(IntKind.wrap .i64 ((List.getD B 1 0))))+4)=w7 at*
  generalize IntKind.wrap .i64 (6+(IntKind.wrap .i64 ((List.getD B 1 0))))=w8 at*
  generalize IntKind.wrap .i64 (10+(IntKind.wrap .i64 ((List.getD B 1 0))))=w9 at*
  generalize IntKind.wrap .i64 (2+(IntKind.wrap .i64 ((List.getD B 1 0))))=w5 at*
  generalize IntKind.wrap .i64 (List.getD a0 0 0)=wd at*
  by_cases c0:a0.length=0
  · rw[if_pos (by first |(simp only[beq_iff_eq]; omega) |(simp only[decide_eq_true_eq]; omega) |(simp only[bne_iff_ne,ne_eq]; omega)),if_pos (by first |(simp only[beq_iff_eq]; omega) |(simp only[decide_eq_true_eq]; omega) |(simp only[bne_iff_ne,ne_eq]; omega))]
    exact⟨rfl,fun h=>by cases h⟩
  have p0:¬(((a0.length:Int)==0))=true:=(by first |(simp only[beq_iff_eq]; omega) |(simp only[decide_eq_true_eq]; omega) |(simp only[bne_iff_ne,ne_eq]; omega))
  have s0:¬(decide ((a0.length:Int) < 1))=true:=(by first |(simp only[beq_iff_eq]; omega) |(simp only[decide_eq_true_eq]; omega) |(simp only[bne_iff_ne,ne_eq]; omega))
  simp only[if_neg p0,if_neg s0]
  by_cases c1:(a0.length:Int) < 3+List.getD a0 0 0
  · rw[if_pos (by first |(simp only[beq_iff_eq]; omega) |(simp only[decide_eq_true_eq]; omega) |(simp only[bne_iff_ne,ne_eq]; omega)),if_pos (by first |(simp only[beq_iff_eq]; omega) |(simp only[decide_eq_true_eq]; omega) |(simp only[bne_iff_ne,ne_eq]; omega))]
    exact⟨rfl,fun h=>by cases h⟩
  have p1:¬(decide ((a0.length:Int) < w2))=true:=(by first |(simp only[beq_iff_eq]; omega) |(simp only[decide_eq_true_eq]; omega) |(simp only[bne_iff_ne,ne_eq]; omega))
  have s1:¬(decide ((a0.length:Int) < w3))=true:=(by first |(simp only[beq_iff_eq]; omega) |(simp only[decide_eq_true_eq]; omega) |(simp only[bne_iff_ne,ne_eq]; omega))
  simp only[if_neg p1,if_neg s1]
  by_cases c2:List.getD a0 0 0 < 10
  · rw[if_pos (by first |(simp only[beq_iff_eq]; omega) |(simp only[decide_eq_true_eq]; omega) |(simp only[bne_iff_ne,ne_eq]; omega)),if_pos (by first |(simp only[beq_iff_eq]; omega) |(simp only[decide_eq_true_eq]; omega) |(simp only[bne_iff_ne,ne_eq]; omega))]
    exact⟨rfl,fun h=>by cases h⟩
  have p2:¬(decide (wd < 10))=true:=(by first |(simp only[beq_iff_eq]; omega) |(simp only[decide_eq_true_eq]; omega) |(simp only[bne_iff_ne,ne_eq]; omega))
  have s2:¬(decide (List.getD a0 0 0 < 10))=true:=(by first |(simp only[beq_iff_eq]; omega) |(simp only[decide_eq_true_eq]; omega) |(simp only[bne_iff_ne,ne_eq]; omega))
  simp only[if_neg p2,if_neg s2]
  by_cases c3n:¬List.getD a0 0 0=10+List.getD B 1 0
  · rw[if_pos (by first |(simp only[beq_iff_eq]; omega) |(simp only[decide_eq_true_eq]; omega) |(simp only[bne_iff_ne,ne_eq]; omega)),if_pos (by first |(simp only[beq_iff_eq]; omega) |(simp only[decide_eq_true_eq]; omega) |(simp only[bne_iff_ne,ne_eq]; omega))]
    exact⟨rfl,fun h=>by cases h⟩
  have c3:=Classical.not_not.1 c3n
  have p3:¬((wd !=w6))=true:=(by first |(simp only[beq_iff_eq]; omega) |(simp only[decide_eq_true_eq]; omega) |(simp only[bne_iff_ne,ne_eq]; omega))
  have s3:¬(((min (Int.toNat (List.getD a0 0 0)) (a0.length - 1):Nat):Int) !=w9)=true:=(by first |(simp only[beq_iff_eq]; omega) |(simp only[decide_eq_true_eq]; omega) |(simp only[bne_iff_ne,ne_eq]; omega))
  simp only[if_neg p3,if_neg s3]
  have q1:m108 (List.take (Int.toNat w7 - Int.toNat w5) (List.drop (Int.toNat w5) B))=m142 (List.drop (Int.toNat w5) B):=by
    rw[num_i (gtd hbd _ _) (by rw[List.length_take,List.length_drop,hlen]; omega),num_s (gdr hbd _),four4_take _ _ (by omega)]
  have q2:m108 (List.drop (Int.toNat w7) B)=m142 (List.drop (Int.toNat w8) B):=by
    rw[num_i (gdr hbd _) (by rw[List.length_drop,hlen]; omega),num_s (gdr hbd _),e7,e8]
  rw[q1,q2,entry_eq]
  have hsz:ByteArray.size (bytesOf (List.take (Int.toNat w5 - Int.toNat 2) (List.drop 2 B)))=Int.toNat (List.getD B 1 0):=by
    rw[bo_size,List.length_take,List.length_drop,hlen]; omega
  generalize hE:K_isii.mk (IntKind.wrap .i64 (List.getD B 0 0)) (bytesOf (List.take (Int.toNat w5 - Int.toNat 2) (List.drop 2 B))) (m142 (List.drop (Int.toNat w5) B)) (m142 (List.drop (Int.toNat w8) B))=E
  have hE1:ByteArray.size E.f1=Int.toNat (List.getD B 1 0):=by rw[← hE]; exact hsz
  rw[pack_eq E (by omega)]
  have hpl:=pack_exact E
  by_cases c4:(m69 E !=0)=true
  · simp only[if_pos c4]
    exact⟨trivial,fun h=>by cases h⟩
  simp only[if_neg c4]
  have hw2:Int.toNat w2=List.length (m70 E):=by omega
  rw[hw2,Int.toNat_natCast]
  have hz0:(Int.toNat 0)=0:=rfl
  simp only[ba_eq]
  by_cases c5:bytesOf (m70 E)=bytesOf (List.take (List.length (m70 E)) a0)
  · rw[if_neg (by simp[c5]),if_neg (by simp[c5]),if_neg (by simp[c5])]
    refine⟨by simp[← c5],fun _=>⟨rfl,?_⟩⟩
    omega
  · rw[if_pos (by simp; exact c5)]
    refine⟨by simp; exact fun h=>c5 h.symm,fun h=>?_⟩
    simp only[decide_eq_true_eq] at h
    exact absurd h.symm c5
theorem read_loop (a0:List Int) (hb:∀z∈a0,(0:Int)≤z∧z≤255) (hl:a0.length≤1200):∀(n at_:Nat) (o:List K_isii),at_≤a0.length→∃u o',r19_0 n (at_:Int) o (List.drop at_ a0)=.k0 u o'∧r75_0 a0 n o (at_:Int)=.k0 o' u
  |0,at_,o,_=>⟨_,_,rfl,rfl⟩
  |n+1,at_,o,h=>by
    obtain⟨h1,h2⟩:=rd_eq (List.drop at_ a0) (gdr hb _)
    simp only[r19_0,r75_0,Int.toNat_natCast]
    rw[h1]
    by_cases c:(!(m121_1 (List.drop at_ a0)))=true
    · rw[if_pos c,if_pos c]
      exact⟨_,_,rfl,rfl⟩
    · rw[if_neg c,if_neg c]
      have c':m121_1 (List.drop at_ a0)=true:=by simpa using c
      obtain⟨e1,e2⟩:=h2 c'
      obtain⟨q1,q2,q3⟩:=rd_ok (gdr hb _) c'
      rw[List.length_drop] at q2
      rw[e1,e2,List.length_map,List.drop_drop,Int.toNat_natCast,wrap64 (by omega),← Int.natCast_add]
      exact read_loop a0 hb hl n _ _ (by omega)

theorem disk_eq (a:K_LyEi):m66 a=m73 a:=by
  unfold m66 m73
  rw[in_eq]
theorem si_bo:∀ {l:List Int},Bs l→strInts (bytesOf l)=l:=by
  intro l h
  unfold strInts bytesOf
  simp only[List.map_map]
  induction l with
  |nil=>rfl
  |cons x l ih=>
    have hx:=h x (List.mem_cons_self ..)
    have:=ih (fun z hz=>h z (List.mem_cons_of_mem _ hz))
    rw[List.map_cons,this]
    congr 1
    show (((UInt8.ofNat x.toNat).toNat:Nat):Int)=x
    rw[UInt8.toNat_ofNat']
    omega
theorem bo_si (s:ByteArray):bytesOf (strInts s)=s:=by
  unfold strInts bytesOf
  rw[List.map_map]
  have:((fun n:Int=>UInt8.ofNat n.toNat)∘fun b:UInt8=>(b.toNat:Int))=id:=by
    funext b; simp
  rw[this,List.map_id]
theorem bo_inj {l m:List Int} (h:Bs l) (k:Bs m) (e:bytesOf l=bytesOf m):l=m:=by
  rw[← si_bo h,← si_bo k,e]
theorem bo_app (l m:List Int):bytesOf l++bytesOf m=bytesOf (l++m):=by
  apply ByteArray.ext
  simp[bytesOf]
theorem ite_g {c:Prop} [Decidable c] {a b v:Int} {p:Prop} (h1:c→a=v→p) (h2:¬c→b=v→p):(if c then a else b)=v→p:=by
  intro h
  by_cases k:c
  · rw[if_pos k] at h; exact h1 k h
  · rw[if_neg k] at h; exact h2 k h
set_option maxHeartbeats 2000000 in
theorem fault_parts {e:K_isii} (h:m69 e=0):(1≤e.f0∧e.f0≤5)∧ByteArray.size e.f1≤12∧(0≤e.f2∧e.f2≤2147483646)∧(0≤e.f3∧e.f3≤1000000):=by
  refine⟨?_,fault_len69 (by simp[h]),?_⟩
  · unfold m69 at h
    by_cases c:(!(m105 e.f0 1 5))=true
    · rw[if_pos c] at h; cases h
    · exact jn105 c
  · revert h
    unfold m69
    (repeat' (with_reducible (refine ite_g (fun _=>?_) (fun _=>?_))))<;>intro h<;>first
      |(exact absurd h (by decide))
      |exact⟨jn105 (by assumption),jn105 (by assumption)⟩
theorem four4_four {x:Int} (h0:0≤x) (h1:x≤4294967295) (l:List Int):four4 (m117 x++l)=x:=by
  rw[four_is]
  unfold four4
  show ((x / 16777216 % 256*256+x / 65536 % 256)*256+x / 256 % 256)*256+x % 256=x
  omega
theorem rd_pack (e:K_isii) (rest:List Int) (hr:Bs rest) (hf:m69 e=0):m121_1 (m70 e++rest)=true∧m121_0 (m70 e++rest)=e:=by
  obtain⟨⟨k1,k2⟩,hw,⟨i1,i2⟩,a1,a2⟩:=fault_parts hf
  have hb:Bs (m70 e++rest):=Bs.append (pk_b e) hr
  have hbb:=Bs_body e
  have hl:=body_len e
  have hpl:=pack_exact e
  have hd:List.getD (m70 e++rest) 0 0=(ByteArray.size e.f1:Int)+10:=by
    rw[spec_pack]
    show ((ByteArray.size e.f1:Int)+10) % 256=_
    omega
  have hd1:List.drop 1 (m70 e++rest)=bodyOf e++([m118 (bodyOf e) / 256 % 256,m118 (bodyOf e) % 256]++rest):=by
    rw[spec_pack]
    simp
  have htk:List.take (List.length (m70 e)) (m70 e++rest)=m70 e:=List.take_left
  have hlen:List.length (m70 e++rest)=ByteArray.size e.f1+13+List.length rest:=by rw[List.length_append,hpl]
  have t5:Int.toNat (2+(ByteArray.size e.f1:Int))=2+ByteArray.size e.f1:=by omega
  have t8:Int.toNat (6+(ByteArray.size e.f1:Int))=6+ByteArray.size e.f1:=by omega
  have t9:Int.toNat (2+(ByteArray.size e.f1:Int)) - Int.toNat 2=ByteArray.size e.f1:=by omega
  have f4:¬(((ByteArray.size e.f1+10:Nat):Int) !=10+(ByteArray.size e.f1:Int))=true:=by simp only[bne_iff_ne,ne_eq]; omega
  have f2':¬((ByteArray.size e.f1+13+List.length rest:Nat):Int) < 3+((ByteArray.size e.f1:Int)+10):=by omega
  have t1:Int.toNat (1+((ByteArray.size e.f1:Int)+10)) - Int.toNat 1=ByteArray.size e.f1+10:=by omega
  have c0:IntKind.wrap .i64 e.f0=e.f0:=wrap64 (by omega)
  have hb0:List.getD (bodyOf e) 0 0=e.f0:=by
    unfold bodyOf
    show IntKind.wrap .u8 e.f0=_
    rw[wrap8]; omega
  have hb1:List.getD (bodyOf e) 1 0=(ByteArray.size e.f1:Int):=by
    unfold bodyOf
    show IntKind.wrap .u8 (ByteArray.size e.f1:Int)=_
    rw[wrap8]; omega
  have hbd:bodyOf e=[IntKind.wrap .u8 e.f0,IntKind.wrap .u8 (ByteArray.size e.f1:Int)]++(strInts e.f1++(m117 e.f2++m117 e.f3)):=by
    unfold bodyOf; simp only[List.append_assoc]
  have hs2:List.take (ByteArray.size e.f1) (List.drop 2 (bodyOf e))=strInts e.f1:=by
    rw[hbd]
    show List.take (ByteArray.size e.f1) (strInts e.f1++(m117 e.f2++m117 e.f3))=_
    rw[List.take_append_of_le_length (by rw[strInts_len]; omega),List.take_of_length_le (by rw[strInts_len]; omega)]
  have hn2:List.drop (2+ByteArray.size e.f1) (bodyOf e)=m117 e.f2++m117 e.f3:=by
    rw[hbd,← List.drop_drop]
    show List.drop (ByteArray.size e.f1) (strInts e.f1++(m117 e.f2++m117 e.f3))=_
    exact List.drop_left' (strInts_len _)
  have hn6:List.drop (6+ByteArray.size e.f1) (bodyOf e)=m117 e.f3++ []:=by
    have:6+ByteArray.size e.f1=(2+ByteArray.size e.f1)+4:=by omega
    rw[this,← List.drop_drop,hn2,List.append_nil]
    exact List.drop_left' (four_len _)
  have hE:K_isii.mk (IntKind.wrap .i64 e.f0) (bytesOf (List.take (Int.toNat (2+(ByteArray.size e.f1:Int)) - Int.toNat 2) (List.drop (Int.toNat 2) (bodyOf e)))) (m142 (List.drop (Int.toNat (2+(ByteArray.size e.f1:Int))) (bodyOf e))) (m142 (List.drop (Int.toNat (6+(ByteArray.size e.f1:Int))) (bodyOf e)))=e:=by
    have c1:bytesOf (List.take (Int.toNat (2+(ByteArray.size e.f1:Int)) - Int.toNat 2) (List.drop (Int.toNat 2) (bodyOf e)))=e.f1:=by
      rw[t9]
      exact(congrArg bytesOf hs2).trans (bo_si _)
    have c2:m142 (List.drop (Int.toNat (2+(ByteArray.size e.f1:Int))) (bodyOf e))=e.f2:=by
      rw[t5,num_s (gdr hbb _),hn2,four4_four i1 (by omega)]
    have c3:m142 (List.drop (Int.toNat (6+(ByteArray.size e.f1:Int))) (bodyOf e))=e.f3:=by
      rw[t8,num_s (gdr hbb _),hn6,four4_four a1 (by omega)]
    rw[c0,c1,c2,c3]
  have hE':K_isii.mk (IntKind.wrap .i64 e.f0) (bytesOf (List.take (Int.toNat (2+(ByteArray.size e.f1:Int)) - Int.toNat 2) (List.drop 2 (bodyOf e)))) (m142 (List.drop (Int.toNat (2+(ByteArray.size e.f1:Int))) (bodyOf e))) (m142 (List.drop (Int.toNat (6+(ByteArray.size e.f1:Int))) (bodyOf e)))=e:=hE
  have f1:¬(decide (((List.length (List.map b_y (m70 e++rest))):Int) < 1))=true:=by simp only[decide_eq_true_eq,List.length_map,hlen]; omega
  have f3:¬(decide ((List.getD (m70 e++rest) 0 0) < 10))=true:=by rw[hd]; simp only[decide_eq_true_eq]; omega
  obtain⟨g0,g1,e0,e1,e2,e3,e4,e5,e6,e7,e8,e9⟩:=nums _ hb
  rw[hd] at g0 e0 e1 e2 e3
  have hB:List.take (Int.toNat (IntKind.wrap .i64 (1+(IntKind.wrap .i64 (List.getD (m70 e++rest) 0 0)))) - Int.toNat 1) (List.drop 1 (m70 e++rest))=bodyOf e:=by
    rw[hd,e1,t1,hd1,List.take_append_of_le_length (by rw[hl]; exact Nat.le_refl _),List.take_of_length_le (by rw[hl]; exact Nat.le_refl _)]
  have hB':List.length (List.take (Int.toNat (IntKind.wrap .i64 (1+(IntKind.wrap .i64 (List.getD (m70 e++rest) 0 0)))) - Int.toNat 1) (List.drop 1 (List.map b_y (m70 e++rest))))=ByteArray.size e.f1+10:=by
    rw[← List.map_drop,← List.map_take,List.length_map,hB,hl]
  rw[hB,hb1] at g1 e4 e5 e6 e7 e8 e9
  rw[e4] at e5 e8 e9
  have f2:¬(decide (((List.length (List.map b_y (m70 e++rest))):Int) <(IntKind.wrap .i64 ((IntKind.wrap .i64 ((List.getD (m70 e++rest) 0 0)))+3))))=true:=by
    rw[hd,e3]; simp only[decide_eq_true_eq,List.length_map,hlen]; exact f2'
  unfold m121_1 m121_0
  simp only[if_neg f1,if_neg f2,if_neg f3,hB,hB',hb1,hb0,e4,e5,e8,e9,hE,hE']
  have f5:¬(m69 e !=0)=true:=by simp[hf]
  simp only[if_neg f4,if_neg f5,List.length_map,Int.toNat_natCast,htk,beq_self_eq_true]
  exact⟨trivial,trivial⟩
/-- What is read is a right entry,and its frame stands at the beginning. -/
theorem rd_says {d:List Int} (hb:Bs d) (h:m121_1 d=true):m69 (m121_0 d)=0∧d=m70 (m121_0 d)++List.drop (List.length (m70 (m121_0 d))) d:=by
  unfold m121_1 at h
  have hE:∃E,m121_0 d=E∧m69 E=0∧bytesOf (List.take (List.length (m70 E)) d)=bytesOf (m70 E):=by
    unfold m121_0
    split at h
    · cases h
    rename_i h0; rw[if_neg h0]
    split at h
    · cases h
    rename_i h1; rw[if_neg h1]
    split at h
    · cases h
    rename_i h2; rw[if_neg h2]
    split at h
    · cases h
    rename_i h3; rw[if_neg h3]
    split at h
    · cases h
    rename_i h4
    refine⟨_,rfl,by simpa using h4,?_⟩
    simp only[List.length_map,Int.toNat_natCast] at h
    rw[ba_eq] at h
    simpa using h
  obtain⟨E,e0,e1,e2⟩:=hE
  rw[e0]
  refine⟨e1,?_⟩
  have:=bo_inj (fun z hz=>hb z (List.mem_of_mem_take hz)) (pk_b E) e2
  conv=>lhs; rw[← List.take_append_drop (List.length (m70 E)) d,this]
/-- The entries at the beginning of bytes. -/
def PL:Nat→List Int→List K_isii
  |0,_=>[]
  |n+1,d=>if m121_1 d=true then m121_0 d::PL n (List.drop (List.length (m70 (m121_0 d))) d) else[]
def SZ (l:List K_isii):List Int:=(l.map m70).flatten
theorem PL_succ (n:Nat) (d:List Int):PL (n+1) d=if m121_1 d=true then m121_0 d::PL n (List.drop (List.length (m70 (m121_0 d))) d) else[]:=rfl
theorem PL_ok:∀(n:Nat) {d:List Int},Bs d→(∀z∈PL n d,m69 z=0)∧SZ (PL n d) <+:d
  |0,d,_=>⟨fun z hz=>(by cases hz),List.nil_prefix⟩
  |n+1,d,hb=>by
    simp only[PL]
    split
    · rename_i h
      obtain⟨h1,h2⟩:=rd_says hb h
      obtain⟨i1,i2⟩:=PL_ok n (gdr hb (List.length (m70 (m121_0 d))))
      refine⟨fun z hz=>?_,?_⟩
      · rcases List.mem_cons.1 hz with rfl | hz
        · exact h1
        · exact i1 z hz
      · conv=>rhs; rw[h2]
        simp only[SZ,List.map_cons,List.flatten_cons]
        exact(List.prefix_append_right_inj _).2 i2
    · exact⟨fun z hz=>(by cases hz),List.nil_prefix⟩
theorem PL_take:∀(n' n:Nat) (c:Nat) {d:List Int},Bs d→n'≤n→PL n' (List.take c d) <+:PL n d
  |0,n,c,d,_,_=>List.nil_prefix
  |n'+1,0,c,d,_,h=>by omega
  |n'+1,n+1,c,d,hb,h=>by
    simp only[PL]
    by_cases ht:m121_1 (List.take c d)=true
    · obtain⟨h1,h2⟩:=rd_says (gtd hb c 0) (by simpa using ht)
      rw[List.drop_zero] at h1 h2
      have hd:d=m70 (m121_0 (List.take c d))++(List.drop (List.length (m70 (m121_0 (List.take c d)))) (List.take c d)++List.drop c d):=by
        rw[← List.append_assoc,← h2,List.take_append_drop]
      have hb2:Bs (List.drop (List.length (m70 (m121_0 (List.take c d)))) (List.take c d)++List.drop c d):=Bs.append (fun z hz=>hb z (List.mem_of_mem_take (List.mem_of_mem_drop hz))) (gdr hb c)
      obtain⟨r1,r2⟩:=rd_pack _ _ hb2 h1
      rw[← hd] at r1 r2
      rw[if_pos ht,if_pos r1,r2]
      refine(List.prefix_cons_inj _).2 ?_
      rw[List.drop_take]
      exact PL_take n' n _ (gdr hb _) (by omega)
    · rw[if_neg ht]; exact List.nil_prefix
theorem read_is:∀(n:Nat) {d:List Int} (u:Int) (o:List K_isii),Bs d→d.length≤n→0≤u→u+d.length≤1200→r19_0 n u o d=.k0 (u+(List.length (SZ (PL n d)):Int)) (o++PL n d)
  |0,d,u,o,_,_,_,_=>by simp[r19_0,PL,SZ]
  |n+1,d,u,o,hb,hn,h0,h1=>by
    obtain⟨k1,k2⟩:=rd_eq d hb
    simp only[r19_0,PL]
    rw[k1]
    by_cases c:m121_1 d=true
    · obtain⟨e1,e2⟩:=k2 c
      obtain⟨q1,q2,q3⟩:=rd_ok hb c
      rw[if_neg (by simp[c]),if_pos c,e1,e2,Int.toNat_natCast,wrap64 (by omega),read_is n _ _ (gdr hb _) (by rw[List.length_drop]; omega) (by omega) (by rw[List.length_drop]; omega)]
      simp only[SZ,List.map_cons,List.flatten_cons,List.length_append,List.append_assoc,List.singleton_append]
      congr 1; omega
    · rw[if_pos (by simpa using c),if_neg c]
      simp[SZ]
theorem ents {d:List Int} (hb:Bs d) (hl:d.length≤1200):m19 d=K_iiLisiiE.mk 0 (List.length (SZ (PL d.length d)):Int) (PL d.length d):=by
  unfold m19
  rw[if_neg (by simp only[decide_eq_true_eq,List.length_map]; omega),read_is _ _ _ hb (Nat.le_refl _) (by omega) (by omega)]
  simp
theorem PL_nil (n:Nat):PL n []=[]:=by cases n<;>rfl
theorem pk1 (e:K_isii) (h:m69 e=0):m22 e=K_iLyE.mk 0 (m70 e):=by
  unfold m22
  rw[entry_eq,if_neg (by simp[h]),pack_eq e (by have:=(fault_parts h).2.1; omega)]
theorem whole (a0:List Int):∀(l:List K_isii) (i:Int) (v:List Int),(∀z∈l,m69 z=0)→∃j b,r4_0 a0 l i v=.k0 (v++SZ l) j b
  |[],i,v,_=>⟨_,_,by simp[r4_0,SZ]; exact⟨rfl,rfl⟩⟩
  |x::l,i,v,h=>by
    obtain⟨j,b,e⟩:=whole a0 l (i+1) (v++m70 x) (fun z hz=>h z (List.mem_cons_of_mem _ hz))
    refine⟨j,b,?_⟩
    simp only[r4_0]
    rw[pk1 x (h x (List.mem_cons_self ..)),e]
    simp only[SZ,List.map_cons,List.flatten_cons,List.append_assoc]
theorem cmp (a0:List Int):∀(l t:List K_isii) (i:Int),∃j b,r4_1 a0 l (l++t) i=.k0 j b
  |[],[],i=>⟨_,_,rfl⟩
  |[],x::t,i=>⟨_,_,rfl⟩
  |x::l,t,i=>by
    obtain⟨j,b,e⟩:=cmp a0 l t (i+1)
    refine⟨j,b,?_⟩
    simp only[List.cons_append,r4_1,beq_self_eq_true,Bool.and_self,Bool.not_true,if_neg Bool.false_ne_true]
    exact e
theorem app_same (a:K_LyEi) (e:K_isii):m21 a e=m26 a e:=by
  unfold m21 m26
  rw[disk_eq]
  by_cases h1:(m73 a !=0)=true
  · rw[if_pos h1,if_pos h1]
  rw[if_neg h1,if_neg h1]
  have hd:=disk_len73 h1
  unfold m22
  rw[entry_eq]
  by_cases h2:(m69 e !=0)=true
  · simp only[if_pos h2]
  simp only[if_neg h2]
  rw[if_neg (by simp)]
  have hs:=fault_len69 h2
  have hp:=pack_eq e (by omega)
  have hl:=pack_len70 e (by omega)
  rw[hp,wrap64 (by simp only[List.length_map]; omega)]
  rw[concat_is _ (by simp only[List.flatten_cons,List.flatten_nil,List.append_nil,List.length_append]; omega)]
  unfold m74_1 m74_0
  simp only[List.length_map,List.length_append,List.nil_append,List.flatten_cons,List.flatten_nil,List.append_nil]
  by_cases h3:((a.f0.length:Int)+((m70 e).length:Int) > 1200)
  · rw[if_pos (by simpa using h3),if_pos (by simp; omega)]
  · rw[if_neg (by simpa using h3),if_neg (by simp; omega)]
theorem app_ok {a:K_LyEi} {e:K_isii} (h:(m26 a e).f0=0):m69 e=0∧m26 a e=K_iLyEi.mk 0 (a.f0++m70 e) a.f1:=by
  unfold m26 at h⊢
  by_cases h1:(m73 a !=0)=true
  · rw[if_pos h1] at h; exact absurd h (by simpa using h1)
  rw[if_neg h1] at h⊢
  by_cases h2:(m69 e !=0)=true
  · rw[if_pos h2] at h; exact absurd h (by simpa using h2)
  rw[if_neg h2] at h⊢
  by_cases h3:(!(m74_1 a e))=true
  · rw[if_pos h3] at h; exact absurd h (by decide)
  rw[if_neg h3]
  refine⟨by simpa using h2,?_⟩
  unfold m74_0
  simp
theorem pk_same (e:K_isii):m22 e=m23 e:=by
  unfold m22 m23
  rw[entry_eq]
  split
  · rfl
  · rename_i h
    rw[pack_eq e (by have:=fault_len69 (a:=e) h; omega)]
theorem re_same (a0:List Int) (hb:∀z∈a0,(0:Int)≤z∧z≤255):m19 a0=m27 a0:=by
  unfold m19 m27
  by_cases h:(decide (((List.length (List.map b_y a0)):Int) > 1200))=true
  · rw[if_pos h,if_pos h]
  rw[if_neg h,if_neg h]
  simp only[decide_eq_true_eq,List.length_map] at h
  obtain⟨u,o,e1,e2⟩:=read_loop a0 hb (by omega) (List.length a0) 0 [] (by omega)
  rw[List.drop_zero,show ((0:Nat):Int)=0 from rfl] at e1
  rw[show ((0:Nat):Int)=0 from rfl] at e2
  unfold m75_1 m75_0
  rw[show List.length a0 - Int.toNat 0=List.length a0 from rfl,e1,e2]
/-- One frame is read as its entry alone. -/
theorem one {e:K_isii} (h:m69 e=0):m19 (m70 e)=K_iiLisiiE.mk 0 (List.length (m70 e):Int) [e]:=by
  have hl:=pack_exact e
  have hw:=(fault_parts h).2.1
  obtain⟨r1,r2⟩:=rd_pack e [] (fun z hz=>(by cases hz)) h
  rw[List.append_nil] at r1 r2
  have:PL (List.length (m70 e)) (m70 e)=[e]:=by
    rw[show List.length (m70 e)=(ByteArray.size e.f1+12)+1 from hl,PL_succ,if_pos r1,r2,List.drop_length,PL_nil]
  rw[ents (pk_b e) (by omega),this]
  simp[SZ]
/-- All of the law behind the frame of one entry. -/
theorem rest_ok (a0 d:List Int) (c:Int) (hb:Bs d) (hc:(m19 d).f0=0) (h0:0≤c) (h1:c <(m19 d).f1+1):
    d.length≤1200∧0≤(m19 d).f1∧(m19 d).f1≤(d.length:Int)∧(∃j b,r4_0 a0 (m19 d).f2 0 []=.k0 (List.take (Int.toNat (m19 d).f1) d) j b)∧
    (m19 (List.take (Int.toNat c) d)).f0=0∧List.length (m19 (List.take (Int.toNat c) d)).f2≤List.length (m19 d).f2∧
    (∃j b,r4_1 a0 (m19 (List.take (Int.toNat c) d)).f2 (m19 d).f2 0=.k0 j b)∧(m19 (List.take (Int.toNat c) d)).f1≤c:=by
  have hl:d.length≤1200:=by
    by_cases h:d.length≤1200
    · exact h
    · unfold m19 at hc
      rw[if_pos (by simp only[decide_eq_true_eq,List.length_map]; omega)] at hc
      cases hc
  have hbt:Bs (List.take (Int.toNat c) d):=fun z hz=>hb z (List.mem_of_mem_take hz)
  have hlt:(List.take (Int.toNat c) d).length≤1200:=by rw[List.length_take]; omega
  obtain⟨p1,p2⟩:=PL_ok d.length hb
  obtain⟨q1,q2⟩:=PL_ok (List.take (Int.toNat c) d).length hbt
  have hp:=PL_take (List.take (Int.toNat c) d).length d.length (Int.toNat c) hb (by rw[List.length_take]; omega)
  rw[ents hb hl] at h1⊢
  rw[ents hbt hlt]
  simp only at h1⊢
  refine⟨hl,by omega,by have:=p2.length_le; omega,?_,by first | trivial | rfl,hp.length_le,?_,?_⟩
  · obtain⟨j,b,e⟩:=whole a0 (PL d.length d) 0 [] p1
    refine⟨j,b,?_⟩
    rw[e,List.nil_append,Int.toNat_natCast,List.prefix_iff_eq_take.1 p2]
    simp
  · obtain⟨t,ht⟩:=hp
    obtain⟨j,b,e⟩:=cmp a0 (PL (List.take (Int.toNat c) d).length (List.take (Int.toNat c) d)) t 0
    rw[ht] at e
    exact⟨j,b,e⟩
  · have h3:=q2.length_le
    have h4:(List.take (Int.toNat c) d).length≤Int.toNat c:=by rw[List.length_take]; omega
    omega
theorem used_ok {d:List Int} (hb:Bs d) (hc:(m19 d).f0=0):d.length≤1200∧0≤(m19 d).f1∧(m19 d).f1≤(d.length:Int):=by
  have hl:d.length≤1200:=by
    by_cases h:d.length≤1200
    · exact h
    · unfold m19 at hc
      rw[if_pos (by simp only[decide_eq_true_eq,List.length_map]; omega)] at hc
      cases hc
  rw[ents hb hl]
  have:=(PL_ok d.length hb).2.length_le
  exact⟨hl,by simp only[]; omega,by simp only[]; omega⟩
theorem pure (a0:(List Int)) (w0:wf_LyE a0):m4 a0=true:=by
  have hb:∀z∈a0,(0:Int)≤z∧z≤255:=fun z hz=>wf8 (w0.2 z hz)
  have hl:a0.length≤140737488351232:=by have:=w0.1; omega
  have hdb:=(bdG (a:=m38 a0) (S_le (S_src a0 hb hl) (by omega))).2
  unfold m4
  by_cases hB:m6 a0=true
  · rw[if_pos hB]
  simp only[if_neg hB,pk_same,entry_eq,app_same,← re_same _ hdb,bne_self_eq_false,if_neg Bool.false_ne_true,List.drop_zero,show Int.toNat 0=0 from rfl,Nat.sub_zero]
  generalize m20_1 a0=e
  generalize m20_0 a0=d
  generalize (m62 (m38 a0)).f0=D at*
  have head:∀(t:Bool),t=true→(if((m26 d e).f0==0)=true then(if(!((bytesOf ((m26 d e).f1)).toList==((bytesOf (d.f0))++(bytesOf ((m23 e).f1))).toList))=true then false else t) else t)=true:=by
    intro t ht
    by_cases C:((m26 d e).f0==0)=true
    · obtain⟨hf,he⟩:=app_ok (by simpa using C)
      have hp:m23 e=K_iLyE.mk 0 (m70 e):=by rw[← pk_same]; exact pk1 e hf
      simp only[he,hp,bo_app,beq_self_eq_true,if_true,Bool.not_true,if_neg Bool.false_ne_true,ht]
    · rw[if_neg C,ht]
  have first : ∀ (t : Bool), t = true → (if (((m23 e).f0) == 0) = true then (if (((List.length (List.map d_isii ((m19 ((m23 e).f1)).f2))) : Int) != 1) = true then false else
          if(!((((List.getD ((m19 ((m23 e).f1)).f2) 0 (K_isii.mk 0 (⟨#[]⟩:ByteArray) 0 0)).f0)==(e.f0)) &&((((List.getD ((m19 ((m23 e).f1)).f2) 0 (K_isii.mk 0 (⟨#[]⟩:ByteArray) 0 0)).f1).toList==(e.f1).toList) &&((((List.getD ((m19 ((m23 e).f1)).f2) 0 (K_isii.mk 0 (⟨#[]⟩:ByteArray) 0 0)).f2)==(e.f2)) &&((((List.getD ((m19 ((m23 e).f1)).f2) 0 (K_isii.mk 0 (⟨#[]⟩:ByteArray) 0 0)).f3)==(e.f3)) && true)))))=true then false else
            if(((m19 ((m23 e).f1)).f1) !=((List.length (List.map d_y ((m23 e).f1))):Int))=true then false else t) else t)=true:=by
    intro t ht
    by_cases hf:m69 e=0
    · have hp:m23 e=K_iLyE.mk 0 (m70 e):=by rw[← pk_same]; exact pk1 e hf
      have n1:¬(((List.length [e]):Int) !=1)=true:=by simp
      simp only[hp,one hf,if_neg n1,List.getD_cons_zero,List.length_map,beq_self_eq_true,bne_self_eq_false,Bool.and_self,if_true,Bool.not_true,if_neg Bool.false_ne_true,ht]
    · have hp:m23 e=K_iLyE.mk (m69 e) []:=by
        unfold m23
        rw[if_pos (by simpa using hf)]
      rw[if_neg (by rw[hp]; simpa using hf),ht]
  by_cases hA:((m19 D).f0 !=0)=true
  · simp only[if_pos hA,beq_self_eq_true]
    exact first _ (head _ rfl)
  · have hA0:(m19 D).f0=0:=by simpa using hA
    obtain⟨l0,l1,l2⟩:=used_ok hdb hA0
    have hw:IntKind.wrap .i64 ((m19 D).f1+1)=(m19 D).f1+1:=wrap64 (by omega)
    have hc:=at_rng (a:=a0) (i:=3) (k:=(m19 D).f1+1) hb (by omega) (by omega) (by omega) (by omega)
    simp only[if_neg hA,hw]
    generalize m28 a0 3 ((m19 D).f1+1)=c at*
    obtain⟨_,u0,u1,⟨j,b,ew⟩,c0,cl,⟨j2,b2,ec⟩,cu⟩:=rest_ok a0 D c hdb hA0 hc.1 hc.2
    have n1:¬(decide ((m19 D).f1 < 0))=true:=by simp only[decide_eq_true_eq]; omega
    have n2:¬(decide ((m19 D).f1 >((List.length (List.map d_y D)):Int)))=true:=by simp only[decide_eq_true_eq,List.length_map]; omega
    have n5:¬(decide (((List.length (List.map d_isii ((m19 (List.take (Int.toNat c) D)).f2))):Int) >((List.length (List.map d_isii ((m19 D).f2))):Int)))=true:=by simp only[decide_eq_true_eq,List.length_map]; omega
    have n6:(decide ((m19 (List.take (Int.toNat c) D)).f1≤c))=true:=by simp only[decide_eq_true_eq]; exact cu
    simp only[ew,ec,c0,if_neg n1,if_neg n2,if_neg n5,if_pos n6,beq_self_eq_true,bne_self_eq_false,Bool.not_true,if_neg Bool.false_ne_true]
    exact first _ (head _ rfl)

end Go.Proofs.YtihjlmgakpgkeaaDoor.Journals
