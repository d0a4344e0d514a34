/- The plain law: what the functions compute answers as the statement says. -/
import Derived.Test.YtihjlmgakpgkeaaGreatDoorELedgers
import Derived.Test.YtihjlmgakpgkeaaGreatDoorVArgs
namespace Go.Proofs.YtihjlmgakpgkeaaGreatDoor.Ledgers
open Go Go.Proofs.YtihjlmgakpgkeaaGreatDoor.V
set_option linter.unusedVariables false
set_option maxRecDepth 20000
def wf_y (x:Int):Prop:=(Lit.int .u8 x).wf=true
theorem un_y {bs:List B} (h:Sh.okL [.int .u8] bs):∃x:Int,bs=[(.val (.int .u8 x))]∧wf_y x:=by
  obtain⟨b0,m0,rfl,o0,h0⟩:=h
  obtain⟨x0,rfl,w0⟩:∃z:Int,b0=.val (.int .u8 z)∧(Lit.int .u8 z).wf=true:=by
    cases b0 with
    |val v=>
      cases v<;>first | exact o0.elim |(obtain⟨rfl,w⟩:=o0; exact⟨_,rfl,w⟩)
    |sl r=>exact o0.elim
  obtain rfl:=h0
  exact⟨x0,rfl,w0⟩
theorem uns_y:∀ {rows:List (List B)},(∀r∈rows,Sh.okL [.int .u8] r)→∃z:List Int,rows=z.map b_y∧∀u∈z,wf_y u
  |[],_=>⟨[],rfl,fun u h=>(by cases h)⟩
  |r::rows,h=>by
    obtain⟨x,e,w⟩:=un_y (h r (List.mem_cons_self ..))
    obtain⟨z,rfl,hz⟩:=uns_y (fun r hr=>h r (List.mem_cons_of_mem _ hr))
    refine⟨x::z,by rw[e]; rfl,fun u hu=>?_⟩
    rcases List.mem_cons.1 hu with rfl | hu
    · exact w
    · exact hz u hu
def wf_LyE (x:(List Int)):Prop:=(x.length*1≤140737488351232∧∀z∈x,wf_y z)
theorem un_LyE {bs:List B} (h:Sh.okL [.sl [.int .u8] 1] bs):∃x:(List Int),bs=[(.sl (List.map b_y x))]∧wf_LyE x:=by
  obtain⟨b0,m0,rfl,o0,h0⟩:=h
  obtain⟨x0,rfl,w0⟩:∃z:(List Int),b0=.sl (z.map b_y)∧z.length*1≤140737488351232∧∀u∈z,wf_y u:=by
    cases b0 with
    |val v=>cases v<;>exact o0.elim
    |sl r=>
      obtain⟨z,rfl,hz⟩:=uns_y o0.2
      exact⟨z,rfl,by simpa using o0.1,hz⟩
  obtain rfl:=h0
  exact⟨x0,rfl,w0⟩
theorem in_iff (a b c:Int):m57 a b c=true↔b≤a∧a≤c:=by
  unfold m57; split<;>simp_all<;>omega
theorem l1In_iff (a b c:Int):m72 a b c=true↔b≤a∧a≤c:=by
  unfold m72; split<;>simp_all<;>omega
theorem in_eq (a b c:Int):m57 a b c=m72 a b c:=by
  rw[Bool.eq_iff_iff,in_iff,l1In_iff]

def signs:ByteArray:=⟨#[97,98,99,100,101,102,103,104,105,106,107,108,109,110,111,112,113,114,115,116,117,118,119,120,121,122,65,66,67,68,69,70,71,72,73,74,75,76,77,78,79,80,81,82,83,84,85,86,87,88,89,90,48,49,50,51,52,53,54,55,56,57]⟩
theorem signs_iff (b:UInt8):signs.data.toList.contains b=m86 (b.toNat:Int):=by
  have key:∀n:Fin 256,signs.data.toList.contains (UInt8.ofNat n.val)=m86 ((UInt8.ofNat n.val).toNat:Int):=by decide+kernel
  have:=key ⟨b.toNat,b.toNat_lt⟩
  simpa using this
theorem dw_bad {p:UInt8→Bool} {b:UInt8} (hp:p b=false):∀ {l:List UInt8},b∈l→b∈l.dropWhile p
  |x::l,h=>by
    simp only[List.dropWhile]
    cases hx:p x with
    |true=>
      rcases List.mem_cons.1 h with rfl | h
      · rw[hp] at hx; cases hx
      · exact dw_bad hp h
    |false=>exact h
theorem dw_nil {p:UInt8→Bool}:∀ {l:List UInt8},(∀b∈l,p b=true)→l.dropWhile p=[]
  |[],_=>rfl
  |x::l,h=>by
    simp only[List.dropWhile,h x (List.mem_cons_self ..)]
    exact dw_nil fun b hb=>h b (List.mem_cons_of_mem _ hb)
theorem trim_nil (l cs:List UInt8):Lib.trimS l cs=[]↔∀b∈l,cs.contains b=true:=by
  unfold Lib.trimS Lib.trimLeftS Lib.trimRightS
  constructor
  · intro h b hb
    cases hc:cs.contains b with
    |true=>rfl
    |false=>
      have h1:=dw_bad (p:=(cs.contains ·)) hc (List.mem_reverse.2 hb)
      have h2:=dw_bad (p:=(cs.contains ·)) hc (List.mem_reverse.2 h1)
      rw[h] at h2; cases h2
  · intro h
    rw[dw_nil (p:=(cs.contains ·)) (l:=l.reverse) fun b hb=>h b (List.mem_reverse.1 hb)]
    rfl
theorem byteAt_nat (s:ByteArray) (i:Nat) (h:i < s.size):byteAt s (i:Int)=((s.data.toList[i]'(by simpa using h)).toNat:Int):=by
  unfold byteAt
  rw[Int.toNat_natCast,List.getElem?_eq_getElem (by simpa using h)]
  rfl
theorem arg_loop (s:ByteArray):∀(n i:Nat),i+n=s.size→(r79_0 s n (i:Int)=.k1∧∃b∈s.data.toList.drop i,m86 (b.toNat:Int)=false)∨(∃w b,r79_0 s n (i:Int)=.k0 w b∧∀b∈s.data.toList.drop i,m86 (b.toNat:Int)=true)
  | 0, i, h => .inr ⟨_, _, rfl, fun b hb => by
      rw[List.drop_eq_nil_of_le (by show s.data.toList.length≤i; rw[Array.length_toList]; have:s.data.size=s.size:=rfl; omega)] at hb; cases hb⟩
  |n+1,i,h=>by
    have hi:i < s.size:=by omega
    have hl:i < s.data.toList.length:=by simpa using hi
    rw[List.drop_eq_getElem_cons hl]
    generalize hx:s.data.toList[i]=x
    simp only[r79_0]
    rw[byteAt_nat s i hi,hx]
    by_cases hc:m86 (x.toNat:Int)=true
    · rw[if_neg (by simp[hc])]
      have ih:=arg_loop s n (i+1) (by omega)
      rw[show ((i:Int)+1)=((i+1:Nat):Int) by omega]
      rcases ih with⟨h1,b,h2,h3⟩ |⟨w,b,h1,h2⟩
      · exact .inl ⟨h1,b,List.mem_cons_of_mem _ h2,h3⟩
      · refine .inr ⟨w,b,h1,fun c hcm=>?_⟩
        rcases List.mem_cons.1 hcm with rfl | hcm
        · exact hc
        · exact h2 c hcm
    · have hf:m86 (x.toNat:Int)=false:=by simpa using hc
      rw[if_pos (by simp[hf])]
      exact .inl ⟨rfl,_,List.mem_cons_self ..,hf⟩
theorem arg_eq (s:ByteArray):m82 s=m79 s:=by
  have ht:((trimB s signs).toList==(⟨#[]⟩:ByteArray).toList)=decide (∀b∈s.data.toList,m86 (b.toNat:Int)=true):=by
    rw[ba_eq,Bool.eq_iff_iff,decide_eq_true_eq,decide_eq_true_eq]
    have:trimB s signs=⟨#[]⟩↔Lib.trimS s.data.toList signs.data.toList=[]:=by
      unfold trimB
      constructor
      · intro h; injection h with h; simpa using congrArg Array.toList h
      · intro h; rw[h]
    rw[this,trim_nil]
    constructor
    · intro h b hb; rw[← signs_iff]; exact h b hb
    · intro h b hb; rw[signs_iff]; exact h b hb
  have hl:=arg_loop s s.size 0 (by omega)
  rw[List.drop_zero] at hl
  unfold m82 m79
  rw[show (⟨#[97,98,99,100,101,102,103,104,105,106,107,108,109,110,111,112,113,114,115,116,117,118,119,120,121,122,65,66,67,68,69,70,71,72,73,74,75,76,77,78,79,80,81,82,83,84,85,86,87,88,89,90,48,49,50,51,52,53,54,55,56,57]⟩:ByteArray)=signs from rfl,ht]
  rw[Int.toNat_natCast,show (0:Int)=((0:Nat):Int) from rfl]
  rcases hl with⟨h1,b,h2,h3⟩ |⟨w,b,h1,h2⟩
  · rw[h1]
    have:¬∀b∈s.data.toList,m86 (b.toNat:Int)=true:=fun h=>by rw[h b h2] at h3; cases h3
    rw[decide_eq_false this]
    simp only[]
    split<;>rfl
  · rw[h1,decide_eq_true h2]
    simp only[]
    cases decide ((s.size:Int)≤12)<;>rfl

theorem one_eq (x:K_si):m78 x=(if(!(m69 x.f0))=true then 5 else if(!(m57 x.f1 1 9999))=true then 3 else 0):=by
  unfold m78 m69
  rw[in_eq,arg_eq]
  generalize (x.f0.toList==(⟨#[]⟩:ByteArray).toList)=A
  generalize m79 x.f0=B
  cases A<;>cases B<;>rfl
theorem window_loop (a b:List K_si):∀(l:List K_si) (i j:Int),(match r39_0 a l i with | .k0 .. =>(0:Int) | .k1=>5 | .k2=>3)=(match r61_0 b l j with | .k0 .. =>0 | .k1 w=>w)
  |[],i,j=>rfl
  |x::l,i,j=>by
    have ih:=window_loop a b l (i+1) (j+1)
    simp only[r39_0,r61_0,one_eq]
    by_cases h1:(!(m69 x.f0))=true
    · simp[h1]
    · by_cases h2:(!(m57 x.f1 1 9999))=true
      · simp[h1,h2]
      · simp only[if_neg h1,if_neg h2]; simpa using ih
theorem window_eq (a:List K_si):m39 a=m61 a:=by
  unfold m39 m61
  split
  · rfl
  · exact window_loop a a a 0 0

/-- The first place of a worker. -/
def pos (w:ByteArray):List K_si→Option Nat
  |[]=>none
  |x::l=>if x.f0=w then some 0 else(pos w l).map (· +1)
theorem at_pos_loop (a:List K_si) (w:ByteArray):∀(l:List K_si) (i:Int),(match r1007600_0 a w l i with | .k0 .. =>(-1:Int) | .k1 z=>z)=(match pos w l with | none=>(-1:Int) | some p=>i+p)
  |[],i=>rfl
  |x::l,i=>by
    have ih:=at_pos_loop a w l (i+1)
    simp only[r1007600_0,pos,ba_eq]
    by_cases h:x.f0=w
    · simp[h]
    · simp only[h,decide_false,if_false]
      rw[if_neg (by simp),ih]
      cases pos w l with
      |none=>rfl
      |some p=>show (i+1+(p:Int))=i+((p+1:Nat):Int); omega
theorem at_pos (a:List K_si) (w:ByteArray):m1007600 a w=(match pos w a with | none=>(-1:Int) | some p=>(p:Int)):=by
  unfold m1007600
  refine(at_pos_loop a w a 0).trans ?_
  cases pos w a<;>simp
/-- What a list owes to a worker. -/
def look (w:ByteArray):List K_si→Int
  |[]=>0
  |x::l=>if x.f0=w then x.f1 else look w l
/-- A worker gets more. -/
def upd (x:K_si):List K_si→List K_si
  |[]=>[x]
  |y::l=>if y.f0=x.f0 then K_si.mk y.f0 (IntKind.wrap .i64 (y.f1+x.f1))::l else y::upd x l
theorem upd_none {x:K_si}:∀ {l:List K_si},pos x.f0 l=none→upd x l=l++ [x]
  |[],_=>rfl
  |y::l,h=>by
    simp only[pos] at h
    split at h
    · cases h
    · rename_i hy
      simp only[upd,if_neg hy,List.cons_append]
      rw[upd_none (l:=l) (by cases hp:pos x.f0 l<;>simp_all)]
theorem upd_some (d:K_si) {x:K_si}:∀ {l:List K_si} {p:Nat},pos x.f0 l=some p→upd x l=List.set l p (K_si.mk (List.getD l p d).f0 (IntKind.wrap .i64 ((List.getD l p d).f1+x.f1)))
  |[],p,h=>by cases h
  |y::l,p,h=>by
    simp only[pos] at h
    split at h
    · rename_i hy
      injection h with h; subst h
      simp only[upd,if_pos hy]; rfl
    · rename_i hy
      cases hp:pos x.f0 l with
      |none=>rw[hp] at h; cases h
      |some q=>
        rw[hp] at h; injection h with h; subst h
        simp only[upd,if_neg hy]
        rw[upd_some d hp]; rfl
theorem step_upd (d x:K_si) (v:List K_si):(if decide (m1007600 v x.f0≥0)=true then List.set v (Int.toNat (m1007600 v x.f0)) (K_si.mk ((List.getD v (Int.toNat (m1007600 v x.f0)) d).f0) (IntKind.wrap .i64 (((List.getD v (Int.toNat (m1007600 v x.f0)) d).f1)+x.f1))) else v++ [x])=upd x v:=by
  rw[at_pos]
  cases hp:pos x.f0 v with
  |none=>rw[if_neg (by simp),upd_none hp]
  |some p=>
    simp only[]
    rw[if_pos (by simp),Int.toNat_natCast,upd_some d hp]
/-- All that is there for a worker; for all. -/
def sumw (w:ByteArray):List K_si→Int
  |[]=>0
  |x::l=>(if x.f0=w then x.f1 else 0)+sumw w l
def tot:List K_si→Int
  |[]=>0
  |x::l=>x.f1+tot l
def Pos (l:List K_si):Prop:=∀x∈l,0≤x.f1
theorem tot_nonneg:∀ {l:List K_si},Pos l→0≤tot l
  |[],_=>by simp[tot]
  |x::l,h=>by
    have h1:=h x (List.mem_cons_self ..)
    have h2:=tot_nonneg (l:=l) fun y hy=>h y (List.mem_cons_of_mem _ hy)
    simp only[tot]; omega
theorem upd_ok (x:K_si) (hx:0≤x.f1):∀ {l:List K_si},Pos l→tot l+x.f1≤1000000000000→(∀w,look w (upd x l)=look w l+(if x.f0=w then x.f1 else 0))∧Pos (upd x l)∧tot (upd x l)=tot l+x.f1
  |[],_,h=>by
    refine⟨fun w=>by simp[upd,look],fun y hy=>?_,by simp[upd,tot]⟩
    simp[upd] at hy; subst hy; exact hx
  |y::l,hp,h=>by
    have h1:=hp y (List.mem_cons_self ..)
    have hl:Pos l:=fun z hz=>hp z (List.mem_cons_of_mem _ hz)
    have h3:=tot_nonneg hl
    simp only[tot] at h
    by_cases hy:y.f0=x.f0
    · simp only[upd,if_pos hy]
      rw[wrap64 (by omega)]
      refine⟨fun w=>?_,fun z hz=>?_,by simp only[tot]; omega⟩
      · simp only[look,hy]; split<;>omega
      · rcases List.mem_cons.1 hz with rfl | hz
        · show 0≤y.f1+x.f1; omega
        · exact hl z hz
    · simp only[upd,if_neg hy]
      obtain⟨i1,i2,i3⟩:=upd_ok x hx hl (by omega)
      refine⟨fun w=>?_,fun z hz=>?_,by simp only[tot]; omega⟩
      · simp only[look]
        by_cases hw:y.f0=w
        · simp only[if_pos hw]
          have:x.f0≠w:=fun e=>hy (hw.trans e.symm)
          simp[this]
        · simp only[if_neg hw]; exact i1 w
      · rcases List.mem_cons.1 hz with rfl | hz
        · exact h1
        · exact i2 z hz
theorem fold_ok:∀ {l v:List K_si},Pos l→Pos v→tot v+tot l≤1000000000000→(∀w,look w (l.foldl (fun v x=>upd x v) v)=look w v+sumw w l)∧Pos (l.foldl (fun v x=>upd x v) v)∧tot (l.foldl (fun v x=>upd x v) v)=tot v+tot l
  |[],v,_,hv,_=>⟨fun w=>by simp[sumw],hv,by simp[tot]⟩
  |x::l,v,hl,hv,h=>by
    simp only[tot] at h
    have hx:=hl x (List.mem_cons_self ..)
    have hl':Pos l:=fun z hz=>hl z (List.mem_cons_of_mem _ hz)
    have ht:=tot_nonneg hl'
    obtain⟨i1,i2,i3⟩:=upd_ok x hx hv (by omega)
    obtain⟨j1,j2,j3⟩:=fold_ok (l:=l) (v:=upd x v) hl' i2 (by omega)
    simp only[List.foldl_cons]
    refine⟨fun w=>?_,j2,by simp only[tot]; omega⟩
    rw[j1,i1]; simp only[sumw]; omega
theorem tot_le {l:List K_si} {m:Int} (h:∀x∈l,x.f1≤m):tot l≤m*l.length:=by
  induction l with
  |nil=>simp[tot]
  |cons x l ih=>
    have h1:=h x (List.mem_cons_self ..)
    have h2:=ih fun y hy=>h y (List.mem_cons_of_mem _ hy)
    simp only[tot,List.length_cons]
    rw[show m*((l.length+1:Nat):Int)=m*l.length+m by rw[Int.natCast_add,Int.mul_add]; simp]
    omega


def fidx {α:Type} (p:α→Bool):List α→Option Nat
  |[]=>none
  |x::l=>if p x=true then some 0 else(fidx p l).map (· +1)
theorem fidx_at {α:Type} {p:α→Bool}:∀ {l:List α} {i:Nat} {x:α},l[i]?=some x→p x=true→(fidx p (l.take i)=none∧fidx p l=some i)∨(∃k,fidx p (l.take i)=some k∧fidx p l=some k∧k < i)
  |y::l,0,x,h,hp=>by
    simp only[List.getElem?_cons_zero,Option.some.injEq] at h
    subst h
    exact .inl ⟨rfl,by simp[fidx,hp]⟩
  |y::l,i+1,x,h,hp=>by
    simp only[List.getElem?_cons_succ] at h
    simp only[List.take_succ_cons,fidx]
    by_cases hy:p y=true
    · exact .inr ⟨0,by simp[hy],by simp[hy],by omega⟩
    · rcases fidx_at h hp with⟨h1,h2⟩ |⟨k,h1,h2,h3⟩
      · exact .inl ⟨by simp[hy,h1],by simp[hy,h2]⟩
      · exact .inr ⟨k+1,by simp[hy,h1],by simp[hy,h2],by omega⟩
theorem at_fidx (a:List K_si) (w:ByteArray):∀(l:List K_si) (i:Int),(match r80_0 a w l i with | .k0 .. =>(-1:Int) | .k1 z=>z)=(match fidx (fun x:K_si=>x.f0.toList==w.toList) l with | none=>(-1:Int) | some p=>i+p)
  |[],i=>rfl
  |x::l,i=>by
    have ih:=at_fidx a w l (i+1)
    simp only[r80_0,fidx]
    by_cases h:(x.f0.toList==w.toList)=true
    · simp only[if_pos h]; simp
    · simp only[if_neg h]
      rw[ih]
      cases fidx (fun x:K_si=>x.f0.toList==w.toList) l with
      |none=>rfl
      |some p=>show (i+1+(p:Int))=i+((p+1:Nat):Int); omega
theorem ixw_fidx (a:List K_si) (w:ByteArray):∀(l:List K_si) (i:Int),(match r1007600_0 a w l i with | .k0 .. =>(-1:Int) | .k1 z=>z)=(match fidx (fun x:K_si=>x.f0.toList==w.toList) l with | none=>(-1:Int) | some p=>i+p)
  |[],i=>rfl
  |x::l,i=>by
    have ih:=ixw_fidx a w l (i+1)
    simp only[r1007600_0,fidx]
    by_cases h:(x.f0.toList==w.toList)=true
    · simp only[if_pos h]; simp
    · simp only[if_neg h]
      rw[ih]
      cases fidx (fun x:K_si=>x.f0.toList==w.toList) l with
      |none=>rfl
      |some p=>show (i+1+(p:Int))=i+((p+1:Nat):Int); omega
theorem atw_eq (a:List K_si) (w:ByteArray):m80 a w=(match fidx (fun x:K_si=>x.f0.toList==w.toList) a with | none=>(-1:Int) | some p=>(p:Int)):=by
  unfold m80
  refine(at_fidx a w a 0).trans ?_
  cases fidx (fun x:K_si=>x.f0.toList==w.toList) a<;>simp
theorem ixw_eq (a:List K_si) (w:ByteArray):m1007600 a w=(match fidx (fun x:K_si=>x.f0.toList==w.toList) a with | none=>(-1:Int) | some p=>(p:Int)):=by
  unfold m1007600
  refine(ixw_fidx a w a 0).trans ?_
  cases fidx (fun x:K_si=>x.f0.toList==w.toList) a<;>simp
theorem find_fidx (a:List K_R) (w:Int):∀(l:List K_R) (i:Int),(match r67_0 a w l i with | .k0 .. =>(-1:Int) | .k1 z=>z)=(match fidx (fun x:K_R=>x.f0==w) l with | none=>(-1:Int) | some p=>i+p)
  |[],i=>rfl
  |x::l,i=>by
    have ih:=find_fidx a w l (i+1)
    simp only[r67_0,fidx]
    by_cases h:(x.f0==w)=true
    · simp only[if_pos h]; simp
    · simp only[if_neg h]
      rw[ih]
      cases fidx (fun x:K_R=>x.f0==w) l with
      |none=>rfl
      |some p=>show (i+1+(p:Int))=i+((p+1:Nat):Int); omega
theorem ixr_fidx (a:List K_R) (w:Int):∀(l:List K_R) (i:Int),(match r1005300_0 a w l i with | .k0 .. =>(-1:Int) | .k1 z=>z)=(match fidx (fun x:K_R=>x.f0==w) l with | none=>(-1:Int) | some p=>i+p)
  |[],i=>rfl
  |x::l,i=>by
    have ih:=ixr_fidx a w l (i+1)
    simp only[r1005300_0,fidx]
    by_cases h:(x.f0==w)=true
    · simp only[if_pos h]; simp
    · simp only[if_neg h]
      rw[ih]
      cases fidx (fun x:K_R=>x.f0==w) l with
      |none=>rfl
      |some p=>show (i+1+(p:Int))=i+((p+1:Nat):Int); omega
theorem findr_eq (a:List K_R) (w:Int):m67 a w=(match fidx (fun x:K_R=>x.f0==w) a with | none=>(-1:Int) | some p=>(p:Int)):=by
  unfold m67
  refine(find_fidx a w a 0).trans ?_
  cases fidx (fun x:K_R=>x.f0==w) a<;>simp
theorem ixr_eq (a:List K_R) (w:Int):m1005300 a w=m67 a w:=by
  rw[findr_eq]
  unfold m1005300
  refine(ixr_fidx a w a 0).trans ?_
  cases fidx (fun x:K_R=>x.f0==w) a<;>simp
theorem atix_eq (a:List K_si) (w:ByteArray):m1007600 a w=m80 a w:=by
  rw[atw_eq,ixw_eq]
theorem in_same (a b c:Int):m57 a b c=m72 a b c:=rfl
theorem worker_eq (s:ByteArray):m69 s=(!(s.toList==(⟨#[]⟩:ByteArray).toList) && m79 s):=by
  unfold m69
  rw[arg_eq]
  generalize (s.toList==(⟨#[]⟩:ByteArray).toList)=A
  generalize m79 s=B
  cases A<;>cases B<;>rfl
theorem owed_loop (a:List K_si):∀(l:List K_si) (i:Nat),a.drop i=l→(match r41_0 a l i with | .k0 .. =>true | .k1=>false)=(match r63_0 a l i with | .k0 .. =>true | .k1=>false)
  |[],i,_=>rfl
  |x::l,i,h=>by
    have hx:a[i]?=some x:=by
      have:=congrArg (fun z=>z[0]?) h
      simpa using this
    have hd:a.drop (i+1)=l:=by rw[← List.drop_drop,h]; rfl
    have ih:=owed_loop a l (i+1) hd
    have hk:decide (m1007600 (List.take i a) x.f0≥0)=(m80 a x.f0 !=(i:Int)):=by
      rw[ixw_eq,atw_eq]
      rcases fidx_at (p:=fun y:K_si=>y.f0.toList==x.f0.toList) hx (by simp) with⟨j1,j2⟩ |⟨k,j1,j2,j3⟩
      · rw[j1,j2]; simp
      · rw[j1,j2]
        have h1:((k:Int)≥0):=by omega
        have h2:¬(k:Int)=(i:Int):=by omega
        simp only[h1,decide_true]
        simp[h2]
    simp only[r41_0,r63_0,worker_eq,in_same,Int.toNat_natCast,hk]
    generalize (x.f0.toList==(⟨#[]⟩:ByteArray).toList)=A
    generalize m79 x.f0=B
    generalize m72 x.f1 0 1000000=C
    generalize (m80 a x.f0 !=(i:Int))=K
    cases A<;>cases B<;>cases C<;>cases K<;>first | rfl | exact ih
theorem owed_eq (a:List K_si) (n:Int):m41 a n=(m63 a && decide ((a.length:Int)≤n)):=by
  have h:(match r41_0 a a 0 with | .k0 .. =>true | .k1=>false)=(match r63_0 a a 0 with | .k0 .. =>true | .k1=>false):=owed_loop a a 0 rfl
  unfold m41 m63
  rw[List.length_map]
  revert h
  generalize r41_0 a a 0=P
  generalize r63_0 a a 0=Q
  intro h
  cases P<;>cases Q<;>simp_all
theorem sum_loop (a b:List K_si):∀(l:List K_si) (i j v:Int),(match r42_0 a l i v with | .k0 w _ _=>w)=(match r64_0 b l j v with | .k0 w _ _=>w)
  |[],_,_,_=>rfl
  |x::l,i,j,v=>by simp only[r42_0,r64_0]; exact sum_loop a b l _ _ _
theorem sum_eq (a:List K_si):m42 a=m64 a:=sum_loop a a a 0 0 0
theorem tots_loop (a b:List K_R) (ripe:Bool):∀(l:List K_R) (i j v:Int),(match r33_0 a (if ripe then 2 else 0) l i v with | .k0 w _ _=>w)=(match r65_0 b ripe l j v with | .k0 w _ _=>w)
  |[],_,_,_=>rfl
  |x::l,i,j,v=>by
    have ih:=tots_loop a b ripe l (i+1) (j+1)
    simp only[r33_0,r65_0]
    cases ripe with
    |false=>simp only[Bool.not_false,if_true,if_neg Bool.false_ne_true] at ih⊢; rw[if_pos (by rfl)]; exact ih _
    |true=>
      simp only[if_true] at ih⊢
      rw[if_neg (show¬(((2:Int)==0)=true) by decide),if_neg (show¬((!true)=true) by decide)]
      split
      · exact ih _
      · exact ih _
theorem tots_ripe (a:List K_R):m33 a 2=m65 a true:=tots_loop a a true a 0 0 0
theorem tots_all (a:List K_R):m33 a 0=m65 a false:=tots_loop a a false a 0 0 0
theorem reward_eq (a:List K_R) (x:K_R) (i:Nat) (h:a[i]?=some x):m40 x (List.take i a)=m62 a (i:Int):=by
  have hg:∀d,List.getD a i d=x:=fun d=>by rw[List.getD_eq_getElem?_getD,h]; rfl
  unfold m40 m62
  simp only[Int.toNat_natCast,hg,in_same,owed_eq,sum_eq,ixr_eq,List.length_map]
  by_cases h1:(x.f3.length:Int)≤12
  · have h2:¬(x.f3.length:Int) > 12:=by omega
    simp[h1,h2]
  · have h2:(x.f3.length:Int) > 12:=by omega
    simp[h1,h2]
theorem rewards_loop (a0:K_B):∀(l:List K_R) (i:Nat),a0.f3.drop i=l→(∃x y u v,r14_0 a0 l i=.k0 x y∧r36_0 a0 l i=.k0 u v)∨(∃w,r14_0 a0 l i=.k1 w∧r36_0 a0 l i=.k1 w)
  |[],i,_=>.inl ⟨_,_,_,_,rfl,rfl⟩
  |x::l,i,h=>by
    have hx:a0.f3[i]?=some x:=by
      have:=congrArg (fun z=>z[0]?) h
      simpa using this
    have hd:a0.f3.drop (i+1)=l:=by rw[← List.drop_drop,h]; rfl
    have ih:=rewards_loop a0 l (i+1) hd
    simp only[r14_0,r36_0,Int.toNat_natCast,reward_eq a0.f3 x i hx]
    by_cases hc:((m62 a0.f3 (i:Int)) !=0)=true
    · simp only[if_pos hc]; exact .inr ⟨_,rfl,rfl⟩
    · simp only[if_neg hc]; exact ih
theorem ledger_eq (a0:K_B):m14 a0=m36 a0:=by
  unfold m14 m36 m44 m35
  simp only[in_same,window_eq,owed_eq,sum_eq,tots_ripe,tots_all,List.length_map]
  by_cases h0:m72 a0.f0 1 12=true
  · by_cases h1:m72 a0.f1 0 1000=true
    · by_cases h2:m72 a0.f5 0 1000000=true
      · by_cases h3:m72 a0.f6 0 1000000=true
        · by_cases h4:m72 a0.f7 0 1000000=true
          · simp only[h0,h1,h2,h3,h4,if_true,Bool.not_true,if_neg Bool.false_ne_true]
            by_cases h8:(a0.f4.length:Int) > 8
            · simp only[h8,decide_true,if_true]
            · have h9:(a0.f4.length:Int)≤8:=by omega
              simp only[h9,decide_true,Bool.and_true]
              rcases rewards_loop a0 a0.f3 0 rfl with⟨x,y,u,v,j1,j2⟩ |⟨w,j1,j2⟩
              · rw[show ((0:Nat):Int)=0 from rfl] at j1 j2
                rw[j1,j2]
              · rw[show ((0:Nat):Int)=0 from rfl] at j1 j2
                rw[j1,j2]
          · simp[h0,h1,h2,h3,h4]
        · simp[h0,h1,h2,h3]
      · simp[h0,h1,h2]
    · simp[h0,h1]
  · simp[h0]

theorem fidx_get {α:Type} {p:α→Bool}:∀ {l:List α} {k:Nat},fidx p l=some k→∃x,l[k]?=some x∧p x=true
  |x::l,k,h=>by
    simp only[fidx] at h
    by_cases hx:p x=true
    · rw[if_pos hx] at h; injection h with h; subst h; exact⟨x,rfl,hx⟩
    · rw[if_neg hx] at h
      cases hq:fidx p l with
      |none=>rw[hq] at h; cases h
      |some q=>
        rw[hq] at h; injection h with h; subst h
        obtain⟨y,h1,h2⟩:=fidx_get hq
        exact⟨y,by simpa using h1,h2⟩
theorem parts_loop (a:List K_si):∀(l:List K_si) (i:Nat),(match r63_0 a l i with | .k0 .. =>true | .k1=>false)=true→∀(j:Nat) (x:K_si),l[j]?=some x→m72 x.f1 0 1000000=true∧m80 a x.f0=((i+j:Nat):Int)
  |[],_,_,j,x,h=>by simp at h
  |y::l,i,h,j,x,hx=>by
    have ih:=parts_loop a l (i+1)
    simp only[r63_0] at h
    by_cases c1:(y.f0.toList==(⟨#[]⟩:ByteArray).toList)=true
    · rw[if_pos c1] at h; cases h
    rw[if_neg c1] at h
    by_cases c2:(!(m79 y.f0))=true
    · rw[if_pos c2] at h; cases h
    rw[if_neg c2] at h
    by_cases c3:(!(m72 y.f1 0 1000000))=true
    · rw[if_pos c3] at h; cases h
    rw[if_neg c3] at h
    by_cases c4:((m80 a y.f0) !=(i:Int))=true
    · rw[if_pos c4] at h; cases h
    rw[if_neg c4] at h
    cases j with
    |zero=>
      simp only[List.getElem?_cons_zero,Option.some.injEq] at hx
      subst hx
      refine⟨by simpa using c3,?_⟩
      simpa using c4
    |succ j=>
      simp only[List.getElem?_cons_succ] at hx
      obtain⟨q1,q2⟩:=ih h j x hx
      exact⟨q1,by rw[q2]; congr 1; omega⟩
theorem l1in {a b c:Int} (h:m72 a b c=true):b≤a∧a≤c:=by
  unfold m72 at h
  split at h<;>simp_all
theorem parts_ok {a:List K_si} (h:m63 a=true) {j:Nat} {x:K_si} (hx:a[j]?=some x):0≤x.f1∧x.f1≤1000000∧fidx (fun y:K_si=>y.f0.toList==x.f0.toList) a=some j:=by
  obtain⟨h1,h2⟩:=parts_loop a a 0 h j x hx
  obtain⟨h3,h4⟩:=l1in h1
  refine⟨h3,h4,?_⟩
  rw[atw_eq] at h2
  cases hq:fidx (fun y:K_si=>y.f0.toList==x.f0.toList) a with
  |none=>rw[hq] at h2; simp at h2
  |some q=>rw[hq] at h2; simp at h2; exact congrArg some (by omega)
theorem rew_ne (a0:K_B):∀(l:List K_R) (i:Int) (w:Int),r36_0 a0 l i=.k1 w→w≠0
  |[],i,w,h=>by simp[r36_0] at h
  |x::l,i,w,h=>by
    simp only[r36_0] at h
    split at h
    · rename_i h1; injection h with h; subst h; simpa using h1
    · exact rew_ne a0 l (i+1) w h
theorem rew_zero (a0:K_B):∀(l:List K_R) (i:Nat) (u v),r36_0 a0 l i=.k0 u v→∀j:Nat,j < l.length→m62 a0.f3 ((i+j:Nat):Int)=0
  |x::l,i,u,v,h,j,hj=>by
    simp only[r36_0] at h
    split at h
    · cases h
    · rename_i h1
      cases j with
      |zero=>simpa using h1
      |succ j=>
        have:=rew_zero a0 l (i+1) u v h j (by simpa using hj)
        rw[← this]; congr 1; omega
structure Sound (a0:K_B):Prop where
  ranges:m44 a0=true
  window:m61 a0.f2=0
  winlen:(a0.f2.length:Int)≤a0.f0
  rewlen:a0.f3.length≤6
  duelen:a0.f4.length≤8
  rewards:∀j:Nat,j < a0.f3.length→m62 a0.f3 (j:Int)=0
  dues:m63 a0.f4=true
  sums:IntKind.wrap .i64 (IntKind.wrap .i64 (m64 a0.f4+a0.f6)+a0.f5)=IntKind.wrap .i64 (m65 a0.f3 true+a0.f7)
  all:m72 (m65 a0.f3 false) 0 1000000=true
theorem sound {a0:K_B} (h:m36 a0=0):Sound a0:=by
  unfold m36 at h
  split at h
  · cases h
  rename_i h1
  split at h
  · rename_i h2; rw[h] at h2; simp at h2
  rename_i h2
  split at h
  · cases h
  rename_i h3
  split at h
  · cases h
  rename_i h4
  split at h
  · cases h
  rename_i h5
  simp only[List.length_map,decide_eq_true_eq] at h3 h4 h5
  cases hr:r36_0 a0 a0.f3 0 with
  |k1 w=>rw[hr] at h; exact absurd h (rew_ne a0 _ _ _ hr)
  |k0 u v=>
    rw[hr] at h
    simp only[] at h
    split at h
    · cases h
    rename_i h6
    split at h
    · cases h
    rename_i h7
    split at h
    · cases h
    rename_i h8
    refine⟨by simpa using h1,by simpa using h2,by omega,by omega,by omega,fun j hj=>?_,by simpa using h6,by simpa using h7,by simpa using h8⟩
    have:=rew_zero a0 a0.f3 0 u v hr j hj
    simpa using this

theorem win_loop (a:List K_si):∀(l:List K_si) (i:Int),(match r39_0 a l i with | .k0 .. =>(0:Int) | .k1=>5 | .k2=>3)=0→∀x∈l,m69 x.f0=true∧1≤x.f1∧x.f1≤9999
  |[],i,_,x,hx=>by cases hx
  |y::l,i,h,x,hx=>by
    simp only[r39_0] at h
    by_cases h1:(!(m69 y.f0))=true
    · simp[h1] at h
    · by_cases h2:(!(m57 y.f1 1 9999))=true
      · simp[h1,h2] at h
      · simp only[if_neg h1,if_neg h2] at h
        rcases List.mem_cons.1 hx with rfl | hx
        · have h3:m57 x.f1 1 9999=true:=by simpa using h2
          exact⟨by simpa using h1,(in_iff _ _ _).1 h3⟩
        · exact win_loop a l (i+1) h x hx
theorem win_ok {a:List K_si} (h:m39 a=0):a.length≤12∧∀x∈a,m69 x.f0=true∧1≤x.f1∧x.f1≤9999:=by
  unfold m39 at h
  split at h
  · cases h
  · rename_i h2
    simp only[decide_eq_true_eq,List.length_map] at h2
    exact⟨by omega,win_loop a a 0 h⟩
theorem win_pos {a:List K_si} (h:m39 a=0):Pos a∧tot a≤119988:=by
  obtain⟨h1,h2⟩:=win_ok h
  refine⟨fun x hx=>by have:=h2 x hx; omega,?_⟩
  have:=tot_le (l:=a) (m:=9999) fun x hx=>(h2 x hx).2.2
  omega


theorem at_loop (a b:List K_si) (w:ByteArray):∀(l:List K_si) (i:Int),(match r80_0 a w l i with | .k0 .. =>(-1:Int) | .k1 z=>z)=(match r1007600_0 b w l i with | .k0 .. =>(-1:Int) | .k1 z=>z)
  |[],i=>rfl
  |x::l,i=>by
    have ih:=at_loop a b w l (i+1)
    simp only[r80_0,r1007600_0]
    by_cases h:(x.f0.toList==w.toList)=true
    · simp only[if_pos h]
    · simp only[if_neg h]; exact ih
theorem atx_eq (a:List K_si) (w:ByteArray):m80 a w=m1007600 a w:=by
  unfold m80 m1007600
  exact at_loop a a w a 0

theorem merge_loop (a b:List K_si):∀(l:List K_si) (i j:Int) (v:List K_si),(match r83_0 a l i v with | .k0 w .. =>w)=(match r58_0 b l j v with | .k0 w .. =>w)
  |[],i,j,v=>rfl
  |x::l,i,j,v=>by
    simp only[r83_0,r58_0,atx_eq]
    by_cases h:decide (m1007600 v x.f0≥0)=true
    · simp only[if_pos h]; exact merge_loop a b l (i+1) (j+1) _
    · simp only[if_neg h]; exact merge_loop a b l (i+1) (j+1) _
theorem merge_eq (a:List K_si):m83 a=m58 a:=by
  unfold m83 m58
  exact merge_loop a a a 0 0 []

def part (t A:Int) (x:K_si):Int:=IntKind.wrap .i64 (Int.tdiv (IntKind.wrap .i64 (t*x.f1)) A)
def prt (t A:Int) (x:K_si):K_si:=K_si.mk x.f0 (part t A x)
def rst (t A:Int) (x:K_si):Int:=Int.tmod (IntKind.wrap .i64 (t*x.f1)) A
def lft (t A:Int) (l:List K_si) (v:Int):Int:=l.foldl (fun v x=>IntKind.wrap .i64 (v - part t A x)) v
theorem d_loop (t:Int) (a:List K_si):∀(l p:List K_si) (v1:List Int) (v4:Int),∃j b,r34_0 t a l (p.length:Int) (p++l) v1 v4=.k0 (p++l.map (prt t (m42 a))) (v1++l.map (rst t (m42 a))) (lft t (m42 a) l v4) j b
  |[],p,v1,v4=>⟨_,_,by simp[r34_0,lft]; exact⟨rfl,rfl⟩⟩
  |x::l,p,v1,v4=>by
    obtain⟨j,b,e⟩:=d_loop t a l (p++ [prt t (m42 a) x]) (v1++ [rst t (m42 a) x]) (IntKind.wrap .i64 (v4 - part t (m42 a) x))
    refine⟨j,b,?_⟩
    simp only[r34_0]
    have e1:List.set (p++x::l) (Int.toNat (p.length:Int)) (K_si.mk x.f0 (IntKind.wrap .i64 (Int.tdiv (IntKind.wrap .i64 (t*x.f1)) (m42 a))))=(p++ [prt t (m42 a) x])++l:=by simp[prt,part]
    rw[e1]
    rw[show (((p++ [prt t (m42 a) x]).length:Nat):Int)=(p.length:Int)+1 by simp] at e
    refine Eq.trans e ?_
    simp only[List.map_cons,List.append_assoc,List.cons_append,List.nil_append,lft,List.foldl_cons]
theorem s_loop (t:Int) (a:List K_si):∀(l:List K_si) (i:Int) (v0:List K_si) (v1:List Int) (v4:Int),∃j b,r71_0 t a l i v0 v1 v4=.k0 (v0++l.map (prt t (m64 (m83 a)))) (v1++l.map (rst t (m64 (m83 a)))) (lft t (m64 (m83 a)) l v4) j b
  |[],i,v0,v1,v4=>⟨_,_,by simp[r71_0,lft]; exact⟨rfl,rfl⟩⟩
  |x::l,i,v0,v1,v4=>by
    obtain⟨j,b,e⟩:=s_loop t a l (i+1) (v0++ [prt t (m64 (m83 a)) x]) (v1++ [rst t (m64 (m83 a)) x]) (IntKind.wrap .i64 (v4 - part t (m64 (m83 a)) x))
    refine⟨j,b,?_⟩
    simp only[r71_0]
    refine Eq.trans e ?_
    simp only[List.map_cons,List.append_assoc,List.cons_append,List.nil_append,lft,List.foldl_cons]
def gi (l:List Int) (i:Nat):Int:=List.getD l i 0
/-- The first place of the most,among the first m. -/
def FA (r:List Int) (b m:Nat):Prop:=b < m∧(∀j,j < m→gi r j≤gi r b)∧∀j,j < b→gi r j < gi r b
theorem FA_uniq {r:List Int} {b c m:Nat} (h:FA r b m) (k:FA r c m):b=c:=by
  rcases Nat.lt_trichotomy b c with e | e | e
  · have:=k.2.2 b e; have:=h.2.1 c k.1; omega
  · exact e
  · have:=h.2.2 c e; have:=k.2.1 b h.1; omega
theorem best_loop (c1 r:List Int) (hl:r.length=c1.length) (hm:r.length≤1000):∀(n b i:Nat),i+n=r.length→FA r b i→∃w j q,r71_2 c1 r n (b:Int) (i:Int)=.k0 (w:Int) j q∧∃w':Nat,w=(w':Int)∧FA r w' r.length
  |0,b,i,h,hf=>by
    have:i=r.length:=by omega
    subst this
    exact⟨_,_,_,rfl,b,rfl,hf⟩
  |n+1,b,i,h,hf=>by
    simp only[r71_2]
    rw[if_pos (by simp only[decide_eq_true_eq,List.length_map]; omega),wrap64 (by omega),Int.toNat_natCast,Int.toNat_natCast,show ((i:Int)+1)=((i+1:Nat):Int) by omega]
    by_cases hc:(decide (List.getD r i 0 > List.getD r b 0))=true
    · rw[if_pos hc]
      simp only[decide_eq_true_eq] at hc
      refine best_loop c1 r hl hm n i (i+1) (by omega) ⟨by omega,fun j hj=>?_,fun j hj=>?_⟩
      · rcases Nat.lt_or_ge j i with hj' | hj'
        · have:=hf.2.1 j hj'; unfold gi at*; omega
        · have:j=i:=by omega
          subst this; exact Int.le_refl _
      · have:=hf.2.1 j hj; unfold gi at*; omega
    · rw[if_neg hc]
      simp only[decide_eq_true_eq] at hc
      refine best_loop c1 r hl hm n b (i+1) (by omega) ⟨by have:=hf.1; omega,fun j hj=>?_,hf.2.2⟩
      rcases Nat.lt_or_ge j i with hj' | hj'
      · exact hf.2.1 j hj'
      · have:j=i:=by omega
        subst this; unfold gi; omega
theorem mx_ge_r (a:List Int) (hl:a.length≤1000):∀(n:Nat) (v:Int) (i:Nat),i+n=a.length→(∀j,j < i→gi a j≤v)→∃w j b,r60_0 a n v (i:Int)=.k0 w j b∧∀j,j < a.length→gi a j≤w
  |0,v,i,h,hv=>⟨v,_,_,rfl,fun j hj=>hv j (by omega)⟩
  |n+1,v,i,h,hv=>by
    simp only[r60_0]
    rw[if_pos (by simp only[decide_eq_true_eq,List.length_map]; omega),wrap64 (by omega),Int.toNat_natCast,show ((i:Int)+1)=((i+1:Nat):Int) by omega]
    refine mx_ge_r a hl n _ (i+1) (by omega) (fun j hj=>?_)
    have hi:gi a i=List.getD a i 0:=rfl
    rcases Nat.lt_or_ge j i with hj' | hj'
    · have:=hv j hj'
      unfold vmax; split<;>omega
    · have:j=i:=by omega
      subst this
      unfold vmax; split<;>omega
theorem mx_ge (a:List Int) (h1:1≤a.length) (hl:a.length≤1000):∀j,j < a.length→gi a j≤m60 a:=by
  obtain ⟨w, j, b, e, hw⟩ := mx_ge_r a hl (Int.toNat ((a.length : Int) - 1)) (List.getD a 0 0) 1 (by omega) (fun j hj => by
    have:j=0:=by omega
    subst this; exact Int.le_refl _)
  unfold m60
  rw[if_neg (by simp only[decide_eq_true_eq,List.length_map]; omega),List.length_map]
  rw[show ((1:Nat):Int)=1 from rfl] at e
  rw[e]; exact hw
theorem ix_first (a:List Int) (x:Int):∀(l p:List Int),p++l=a→(∀j,j < p.length→gi a j≠x)→x∈l→∃w:Nat,r59_0 a x l (p.length:Int)=.k1 (w:Int)∧w < a.length∧gi a w=x∧∀j,j < w→gi a j≠x
  |[],p,_,_,h=>by cases h
  |y::l,p,hp,hn,h=>by
    have hy:gi a p.length=y:=by unfold gi; rw[← hp,List.getD_eq_getElem?_getD]; simp
    simp only[r59_0]
    by_cases e:(x==y)=true
    · rw[if_pos e]
      have e2:x=y:=by simpa using e
      exact⟨p.length,rfl,by rw[← hp]; simp,by rw[hy,e2],hn⟩
    · rw[if_neg e]
      have e2:¬x=y:=by simpa using e
      rcases List.mem_cons.1 h with rfl | h
      · exact absurd rfl e2
      · obtain ⟨w, h1, h2, h3, h4⟩ := ix_first a x l (p ++ [y]) (by rw [List.append_assoc]; exact hp) (fun j hj => by
          simp only[List.length_append,List.length_cons,List.length_nil] at hj
          rcases Nat.lt_or_ge j p.length with hj' | hj'
          · exact hn j hj'
          · have:j=p.length:=by omega
            subst this; rw[hy]; exact fun e=>e2 e.symm) h
        rw[show (((p++ [y]).length:Nat):Int)=(p.length:Int)+1 by simp] at h1
        exact⟨w,h1,h2,h3,h4⟩
theorem im_first (a:List Int) (h1:1≤a.length) (hl:a.length≤1000):∃w:Nat,m59 a (m60 a)=(w:Int)∧FA a w a.length:=by
  obtain⟨w,e1,e2,e3,e4⟩:=ix_first a (m60 a) a [] rfl (fun j hj=>by simp at hj) (mx_in a h1 hl)
  rw[show (([]:List Int).length:Int)=0 from rfl] at e1
  refine⟨w,by unfold m59; rw[e1],e2,fun j hj=>by rw[e3]; exact mx_ge a h1 hl j hj,fun j hj=>?_⟩
  have q1:=mx_ge a h1 hl j (by omega)
  have q2:=e4 j hj
  rw[e3]; omega
theorem best_eq (c1 r:List Int) (hl:r.length=c1.length) (h1:1≤r.length) (hm:r.length≤1000):∃j q,r71_2 c1 r (Int.toNat (((List.length (List.map d_i c1)):Int) - 1)) 0 1=.k0 (m59 r (m60 r)) j q:=by
  obtain ⟨w, j, q, e, w', e2, hf⟩ := best_loop c1 r hl hm (Int.toNat (((List.length (List.map d_i c1)) : Int) - 1)) 0 1 (by rw [List.length_map]; omega) ⟨by omega, fun j hj => by
    have:j=0:=by omega
    subst this; exact Int.le_refl _,fun j hj=>by omega⟩
  obtain⟨k,e3,hk⟩:=im_first r h1 hm
  have:w'=k:=FA_uniq hf hk
  rw[show ((0:Nat):Int)=0 from rfl,show ((1:Nat):Int)=1 from rfl] at e
  exact⟨j,q,by rw[e,e3,e2,this]⟩
theorem loops_eq (c:Int) (c1:List Int):∀(n:Nat) (i j:Int) (o:List K_si) (r:List Int),r.length=c1.length→1≤r.length→r.length≤1000→(match r34_1 c n i o r with | .k0 w .. =>w)=(match r71_1 c1 n j o r with | .k0 w .. =>w)
  |0,i,j,o,r,_,_,_=>rfl
  |n+1,i,j,o,r,hl,h1,hm=>by
    obtain⟨k,q,e⟩:=best_eq c1 r hl h1 hm
    simp only[r34_1,r71_1,e]
    exact loops_eq c c1 n (i+1) (j - 1) _ _ (by rw[List.length_set]; exact hl) (by rw[List.length_set]; exact h1) (by rw[List.length_set]; exact hm)
theorem tot_eq_r (a:List K_si):∀(l:List K_si) (i v:Int),Pos l→0≤v→v+tot l≤1000000000000→∃j b,r42_0 a l i v=.k0 (v+tot l) j b
  |[],i,v,_,_,_=>⟨_,_,by simp[r42_0,tot]; exact⟨rfl,rfl⟩⟩
  |x::l,i,v,hp,hv,hb=>by
    simp only[tot] at hb
    have hx:=hp x (List.mem_cons_self ..)
    have hl:Pos l:=fun z hz=>hp z (List.mem_cons_of_mem _ hz)
    have ht:=tot_nonneg hl
    obtain⟨j,b,e⟩:=tot_eq_r a l (i+1) (v+x.f1) hl (by omega) (by omega)
    refine⟨j,b,?_⟩
    simp only[r42_0]
    rw[wrap64 (by omega),e]
    simp only[tot]
    congr 1; omega
theorem tot_eq_i (a:List K_si) (hp:Pos a) (h:tot a≤1000000000):m42 a=tot a:=by
  obtain⟨j,b,e⟩:=tot_eq_r a a 0 0 hp (by omega) (by omega)
  unfold m42; rw[e]; simp
theorem tot_eq_sr (a:List K_si):∀(l:List K_si) (i v:Int),Pos l→0≤v→v+tot l≤1000000000000→∃j b,r64_0 a l i v=.k0 (v+tot l) j b
  |[],i,v,_,_,_=>⟨_,_,by simp[r64_0,tot]; exact⟨rfl,rfl⟩⟩
  |x::l,i,v,hp,hv,hb=>by
    simp only[tot] at hb
    have hx:=hp x (List.mem_cons_self ..)
    have hl:Pos l:=fun z hz=>hp z (List.mem_cons_of_mem _ hz)
    have ht:=tot_nonneg hl
    obtain⟨j,b,e⟩:=tot_eq_sr a l (i+1) (v+x.f1) hl (by omega) (by omega)
    refine⟨j,b,?_⟩
    simp only[r64_0]
    rw[wrap64 (by omega),e]
    simp only[tot]
    congr 1; omega
theorem tot_eq_s (a:List K_si) (hp:Pos a) (h:tot a≤1000000000):m64 a=tot a:=by
  obtain⟨j,b,e⟩:=tot_eq_sr a a 0 0 hp (by omega) (by omega)
  unfold m64; rw[e]; simp
theorem merge_fold (a:List K_si):∀(l:List K_si) (i:Int) (v:List K_si),∃j b,r58_0 a l i v=.k0 (l.foldl (fun v x=>upd x v) v) j b
  |[],i,v=>⟨_,_,rfl⟩
  |x::l,i,v=>by
    have e:=step_upd (K_si.mk (⟨#[]⟩:ByteArray) 0) x v
    simp only[r58_0,List.foldl_cons]
    by_cases h:decide (m1007600 v x.f0≥0)=true
    · rw[if_pos h] at e⊢; rw[e]; exact merge_fold a l (i+1) _
    · rw[if_neg h] at e⊢; rw[e]; exact merge_fold a l (i+1) _
theorem merge_is (a:List K_si):m58 a=a.foldl (fun v x=>upd x v) []:=by
  obtain⟨j,b,e⟩:=merge_fold a a 0 []
  unfold m58
  rw[e]
theorem all_eq {a:List K_si} (h:m39 a=0):m64 (m83 a)=m42 a∧m42 a=tot a∧Pos (m58 a)∧tot (m58 a)=tot a:=by
  obtain⟨hp,ht⟩:=win_pos h
  obtain⟨j1,j2,j3⟩:=fold_ok (l:=a) (v:=[]) hp (fun x hx=>by cases hx) (by simp only[tot]; omega)
  rw[← merge_is] at j2 j3
  simp only[tot,Int.zero_add] at j3
  rw[merge_eq,tot_eq_s _ j2 (by omega),tot_eq_i _ hp (by omega)]
  exact⟨j3,rfl,j2,j3⟩
theorem split_eq (t:Int) (a:List K_si) (h:m39 a=0) (h0:0 < a.length):m71 t a=m34 t a:=by
  obtain⟨hA,_,_,_⟩:=all_eq h
  have hw:=win_ok h
  have hne:=mne_58 a (fun z hz=>(hw.2 z hz).2) hw.1
  have hml:=mlen_58 a
  obtain⟨j,b,e⟩:=d_loop t a (m58 a) [] [] t
  obtain⟨j2,b2,e2⟩:=s_loop t a (m58 a) 0 [] [] t
  rw[List.nil_append,show (([]:List K_si).length:Int)=0 from rfl] at e
  unfold m71 m34
  rw[merge_eq] at*
  rw[hA] at e2
  rw[e,e2]
  simp only[List.nil_append]
  exact(loops_eq _ _ _ 0 _ _ _ rfl (by rw[List.length_map]; exact hne.1 h0) (by rw[List.length_map]; omega)).symm

def gk (l:List K_si) (i:Nat):K_si:=List.getD l i (K_si.mk (⟨#[]⟩:ByteArray) 0)
theorem gk_at {l:List K_si} {i:Nat} (h:i < l.length):l[i]?=some (gk l i):=by
  unfold gk
  rw[List.getD_eq_getElem?_getD,List.getElem?_eq_getElem h]; rfl
theorem gk_mem {l:List K_si} {i:Nat} (h:i < l.length):gk l i∈l:=List.mem_of_getElem? (gk_at h)
theorem gk_set (l:List K_si) (k j:Nat) (v:K_si) (hk:k < l.length):gk (l.set k v) j=if j=k then v else gk l j:=by
  unfold gk
  rw[List.getD_eq_getElem?_getD,List.getD_eq_getElem?_getD,List.getElem?_set]
  by_cases h:k=j
  · subst h; rw[if_pos rfl,if_pos hk,if_pos rfl]; rfl
  · rw[if_neg h,if_neg (fun e=>h e.symm)]
theorem gi_set (l:List Int) (k j:Nat) (v:Int) (hk:k < l.length):gi (l.set k v) j=if j=k then v else gi l j:=by
  unfold gi
  rw[List.getD_eq_getElem?_getD,List.getD_eq_getElem?_getD,List.getElem?_set]
  by_cases h:k=j
  · subst h; rw[if_pos rfl,if_pos hk,if_pos rfl]; rfl
  · rw[if_neg h,if_neg (fun e=>h e.symm)]
theorem gk_map (f:K_si→K_si) (l:List K_si) (j:Nat) (h:j < l.length):gk (l.map f) j=f (gk l j):=by
  have h2:=gk_at (l:=l.map f) (i:=j) (by simpa using h)
  rw[List.getElem?_map,gk_at h] at h2
  injection h2 with h2; exact h2.symm
theorem gi_map (f:K_si→Int) (l:List K_si) (j:Nat) (h:j < l.length):gi (l.map f) j=f (gk l j):=by
  unfold gi
  rw[List.getD_eq_getElem?_getD,List.getElem?_map,gk_at h]; rfl
theorem tot_set:∀(l:List K_si) (k:Nat) (v:K_si),k < l.length→tot (l.set k v)=tot l - (gk l k).f1+v.f1
  |[],k,v,h=>by simp at h
  |x::l,0,v,_=>by simp only[List.set_cons_zero,tot]; show _=x.f1+tot l - x.f1+v.f1; omega
  |x::l,k+1,v,h=>by
    have ih:=tot_set l k v (by simpa using h)
    simp only[List.set_cons_succ,tot]
    rw[ih]
    show _=x.f1+tot l - (gk l k).f1+v.f1
    omega
theorem tot_up:∀(o p:List K_si),o.length=p.length→(∀j,j < o.length→(gk o j).f1=(gk p j).f1+1)→tot o=tot p+o.length
  |[],[],_,_=>by simp[tot]
  |[],_::_,h,_=>by simp at h
  |_::_,[],h,_=>by simp at h
  |x::o,y::p,h,hj=>by
    have ih:=tot_up o p (by simpa using h) (fun j hj2=>hj (j+1) (by simpa using hj2))
    have h0:=hj 0 (by simp)
    have h0':x.f1=y.f1+1:=h0
    simp only[tot,List.length_cons]
    omega
/-- What the parts are asked. -/
def Fit (t A:Int) (l:List K_si):Prop:=0≤t∧t≤1000000∧1≤A∧A≤1000000000∧l.length≤12∧∀z∈l,1≤z.f1∧z.f1≤119988
theorem prod_ok {t x:Int} (h0:0≤t) (h1:t≤1000000) (h2:1≤x) (h3:x≤119988):0≤t*x∧t*x≤119988000000:=by
  have q1:=Int.mul_nonneg h0 (show 0≤x by omega)
  have q2:=Int.mul_le_mul h1 h3 (by omega) (by omega)
  omega
theorem part_is {t A:Int} {l:List K_si} (h:Fit t A l) {x:K_si} (hx:x∈l):part t A x=t*x.f1 / A∧rst t A x=t*x.f1 % A∧0≤t*x.f1 / A∧t*x.f1 / A≤119988000000∧0≤t*x.f1 % A∧t*x.f1 % A < A∧A*(t*x.f1 / A)+t*x.f1 % A=t*x.f1:=by
  obtain⟨h0,h1,h2,h3,h4,h5⟩:=h
  obtain⟨q1,q2⟩:=prod_ok h0 h1 (h5 x hx).1 (h5 x hx).2
  have d1:0≤t*x.f1 / A:=Int.ediv_nonneg q1 (by omega)
  have d2:t*x.f1 / A≤t*x.f1:=Int.ediv_le_self _ q1
  have e1:IntKind.wrap .i64 (t*x.f1)=t*x.f1:=wrap64 (by omega)
  refine⟨?_,?_,d1,by omega,Int.emod_nonneg _ (by omega),Int.emod_lt_of_pos _ (by omega),Int.mul_ediv_add_emod _ _⟩
  · unfold part; rw[e1,Int.tdiv_eq_ediv_of_nonneg q1,wrap64 (by omega)]
  · unfold rst; rw[e1,Int.tmod_eq_emod_of_nonneg q1]
def sumr:List Int→Int
  |[]=>0
  |x::l=>x+sumr l
theorem sums_rel {t A:Int} {m:List K_si} (h:Fit t A m):∀(l:List K_si),(∀z∈l,z∈m)→A*tot (l.map (prt t A))+sumr (l.map (rst t A))=t*tot l∧0≤sumr (l.map (rst t A))∧sumr (l.map (rst t A))+l.length≤l.length*A∧0≤tot (l.map (prt t A))∧tot (l.map (prt t A))≤119988000000*l.length
  |[],_=>by simp[tot,sumr]
  |x::l,hm=>by
    obtain⟨i1,i2,i3,i4,i5⟩:=sums_rel h l (fun z hz=>hm z (List.mem_cons_of_mem _ hz))
    obtain⟨e1,e2,e3,e4,e5,e6,e7⟩:=part_is h (hm x (List.mem_cons_self ..))
    simp only[List.map_cons,tot,sumr,List.length_cons]
    have ep:(prt t A x).f1=t*x.f1 / A:=e1
    rw[ep,e2,Int.mul_add,Int.mul_add]
    have:((l.length+1:Nat):Int)*A=(l.length:Int)*A+A:=by rw[Int.natCast_add,Int.add_mul]; simp
    rw[this]
    refine⟨by omega,by omega,by omega,by omega,by omega⟩
theorem lft_is {t A:Int} {m:List K_si} (h:Fit t A m) (l:List K_si) (v:Int) (hm:∀z∈l,z∈m) (h1:119988000000*(l.length:Int) - 1000000000000000≤v) (h2:v≤1000000000000000):lft t A l v=v - tot (l.map (prt t A)):=by
  induction l generalizing v with
  |nil=>simp[lft,tot]
  |cons x l ih=>
    obtain⟨e1,e2,e3,e4,e5,e6,e7⟩:=part_is h (hm x (List.mem_cons_self ..))
    simp only[List.length_cons] at h1
    have ih:=ih (v - part t A x) (fun z hz=>hm z (List.mem_cons_of_mem _ hz)) (by rw[e1]; omega) (by rw[e1]; omega)
    simp only[lft,List.foldl_cons] at ih⊢
    rw[wrap64 (by rw[e1]; omega),ih]
    simp only[List.map_cons,tot]
    have ep:(prt t A x).f1=part t A x:=rfl
    rw[ep]; omega
theorem left_ok {t A:Int} {m:List K_si} (h:Fit t A m) (hA:A=tot m) (hn:0 < m.length):0≤t - tot (m.map (prt t A))∧t - tot (m.map (prt t A)) < m.length:=by
  obtain⟨i1,i2,i3,i4,i5⟩:=sums_rel h m (fun z hz=>hz)
  have h1:1≤A:=h.2.2.1
  rw[← hA] at i1
  have e:A*(t - tot (m.map (prt t A)))=sumr (m.map (rst t A)):=by
    rw[Int.mul_sub,Int.mul_comm A t]; omega
  constructor
  · rcases(by omega:t - tot (m.map (prt t A)) < 0∨0≤t - tot (m.map (prt t A))) with hneg | hpos
    · have:=Int.mul_le_mul_of_nonneg_left (show t - tot (m.map (prt t A))≤ -1 by omega) (show 0≤A by omega)
      rw[e] at this; omega
    · exact hpos
  · rcases(by omega:t - tot (m.map (prt t A)) < m.length∨m.length≤t - tot (m.map (prt t A))) with hlt | hge
    · exact hlt
    · have:=Int.mul_le_mul_of_nonneg_left hge (show 0≤A by omega)
      rw[e,Int.mul_comm A (m.length:Int)] at this
      omega
/-- The state of the division of what is left. -/
structure Inv (t A:Int) (m o:List K_si) (r:List Int) (s:Int):Prop where
  lo:o.length=m.length
  lr:r.length=m.length
  each:∀j,j < m.length→(gi r j=rst t A (gk m j)∧gk o j=prt t A (gk m j))∨(gi r j= -1∧gk o j=K_si.mk (gk m j).f0 (part t A (gk m j)+1))
  sum:tot o=tot (m.map (prt t A))+s
  fair:∀i k,i < m.length→k < m.length→gi r i≠ -1→gi r k= -1→rst t A (gk m i)≤rst t A (gk m k)
theorem inv_start {t A:Int} {m:List K_si} (h:Fit t A m):Inv t A m (m.map (prt t A)) (m.map (rst t A)) 0 where
  lo:=by simp
  lr:=by simp
  each j hj:=.inl ⟨gi_map _ _ _ hj,gk_map _ _ _ hj⟩
  sum:=by omega
  fair i k hi hk _ hb:=by
    rw[gi_map _ _ _ hk] at hb
    obtain⟨e1,e2,e3,e4,e5,e6,e7⟩:=part_is h (gk_mem hk)
    rw[e2] at hb; omega
theorem inv_step {t A:Int} {m o:List K_si} {r:List Int} {s:Int} (h:Fit t A m) (hn:0 < m.length) (v:Inv t A m o r s) (hs:s < m.length):Inv t A m (List.set o (Int.toNat (m59 r (m60 r))) (K_si.mk ((List.getD o (Int.toNat (m59 r (m60 r))) (K_si.mk (⟨#[]⟩:ByteArray) 0)).f0) (IntKind.wrap .i64 (((List.getD o (Int.toNat (m59 r (m60 r))) (K_si.mk (⟨#[]⟩:ByteArray) 0)).f1)+1)))) (List.set r (Int.toNat (m59 r (m60 r))) (-1)) (s+1):=by
  have h12:m.length≤12:=h.2.2.2.2.1
  obtain⟨k,ek,hk,hmax,_⟩:=im_first r (by rw[v.lr]; exact hn) (by rw[v.lr]; omega)
  rw[v.lr] at hk
  rw[ek,Int.toNat_natCast]
  show Inv t A m (List.set o k (K_si.mk (gk o k).f0 (IntKind.wrap .i64 ((gk o k).f1+1)))) (List.set r k (-1)) (s+1)
  have pos:∀j,j < m.length→0≤rst t A (gk m j):=fun j hj=>by
    obtain⟨e1,e2,e3,e4,e5,e6,e7⟩:=part_is h (gk_mem hj)
    rw[e2]; exact e5
  -- one that has not been picked
  have hfree:gi r k≠ -1:=by
    intro hb
    have hall:∀j,j < m.length→gi r j= -1:=fun j hj=>by
      have h1:=hmax j (by rw[v.lr]; exact hj)
      rw[hb] at h1
      rcases v.each j hj with⟨e,_⟩ |⟨e,_⟩
      · have:=pos j hj; omega
      · exact e
    have := tot_up o (m.map (prt t A)) (by rw [v.lo]; simp) (fun j hj => by
      rw[v.lo] at hj
      rcases v.each j hj with⟨e,_⟩ |⟨_,e⟩
      · have:=pos j hj; have:=hall j hj; omega
      · rw[e,gk_map _ _ _ hj]; rfl)
    have h2:=v.sum
    rw[this,v.lo] at h2
    omega
  obtain⟨er,eo⟩:gi r k=rst t A (gk m k)∧gk o k=prt t A (gk m k):=by
    rcases v.each k hk with e |⟨e,_⟩
    · exact e
    · exact absurd e hfree
  obtain⟨e1,e2,e3,e4,e5,e6,e7⟩:=part_is h (gk_mem hk)
  have ev:K_si.mk (gk o k).f0 (IntKind.wrap .i64 ((gk o k).f1+1))=K_si.mk (gk m k).f0 (part t A (gk m k)+1):=by
    rw[eo]
    show K_si.mk (gk m k).f0 (IntKind.wrap .i64 (part t A (gk m k)+1))=_
    rw[wrap64 (by rw[e1]; omega)]
  rw[ev]
  refine⟨by rw[List.length_set]; exact v.lo,by rw[List.length_set]; exact v.lr,fun j hj=>?_,?_,fun i q hi hq hfi hfq=>?_⟩
  · rw[gi_set _ _ _ _ (by rw[v.lr]; exact hk),gk_set _ _ _ _ (by rw[v.lo]; exact hk)]
    by_cases e:j=k
    · subst e; exact .inr ⟨by rw[if_pos rfl],by rw[if_pos rfl]⟩
    · rw[if_neg e,if_neg e]; exact v.each j hj
  · rw[tot_set _ _ _ (by rw[v.lo]; exact hk),v.sum,eo]
    show _ - part t A (gk m k)+(part t A (gk m k)+1)=_
    omega
  · rw[gi_set _ _ _ _ (by rw[v.lr]; exact hk)] at hfi hfq
    by_cases ei:i=k
    · rw[if_pos ei] at hfi; exact absurd rfl hfi
    · rw[if_neg ei] at hfi
      by_cases eq:q=k
      · subst eq
        have h1:=hmax i (by rw[v.lr]; exact hi)
        rcases v.each i hi with⟨e,_⟩ |⟨e,_⟩
        · rw[← e,← er]; exact h1
        · exact absurd e hfi
      · rw[if_neg eq] at hfq
        exact v.fair i q hi hq hfi hfq
theorem inv_iter {t A:Int} {m:List K_si} (c:Int) (h:Fit t A m) (hn:0 < m.length):∀(n:Nat) (i:Int) (o:List K_si) (r:List Int) (s:Int),Inv t A m o r s→s+n≤m.length→∃o' r' j b,r34_1 c n i o r=.k0 o' r' j b∧Inv t A m o' r' (s+n)
  |0,i,o,r,s,v,_=>⟨o,r,_,_,rfl,by simpa using v⟩
  |n+1,i,o,r,s,v,hs=>by
    simp only[r34_1]
    obtain⟨o',r',j,b,e,hv⟩:=inv_iter c h hn n (i+1) _ _ (s+1) (inv_step h hn v (by omega)) (by omega)
    refine⟨o',r',j,b,e,?_⟩
    rw[show s+((n+1:Nat):Int)=s+1+n by omega]; exact hv
theorem divided_ok (t:Int) (a:List K_si) (h:m39 a=0) (h0:0 < a.length) (ht:0≤t) (ht2:t≤1000000):∃r,Fit t (tot a) (m58 a)∧Inv t (tot a) (m58 a) (m34 t a) r (t - tot ((m58 a).map (prt t (tot a))))∧0 <(m58 a).length∧tot (m58 a)=tot a:=by
  obtain⟨hA,hA2,hp,htm⟩:=all_eq h
  have hw:=win_ok h
  have hne:=mne_58 a (fun z hz=>(hw.2 z hz).2) hw.1
  have hml:=mlen_58 a
  have hn:=hne.1 h0
  have htl:tot a≤119988:=(win_pos h).2
  have hta:1≤tot a:=by
    have q:=tot_42 a (fun z hz=>by have:=(hw.2 z hz).2; omega) hw.1
    rw[hA2] at q; omega
  have hf:Fit t (tot a) (m58 a):=⟨ht,ht2,hta,by omega,by omega,hne.2⟩
  obtain⟨l1,l2⟩:=left_ok hf htm.symm hn
  obtain⟨j,b,e⟩:=d_loop t a (m58 a) [] [] t
  rw[List.nil_append,show (([]:List K_si).length:Int)=0 from rfl,hA2] at e
  simp only[List.nil_append] at e
  have el:lft t (tot a) (m58 a) t=t - tot ((m58 a).map (prt t (tot a))):=lft_is hf _ t (fun z hz=>hz) (by omega) (by omega)
  obtain⟨o',r',j2,b2,e2,hv⟩:=inv_iter (lft t (tot a) (m58 a) t) hf hn (Int.toNat (lft t (tot a) (m58 a) t)) 0 _ _ 0 (inv_start hf) (by rw[el]; omega)
  refine⟨r',hf,?_,hn,htm⟩
  have ed:m34 t a=o':=by
    unfold m34
    rw[e]; simp only[]
    rw[e2]
  rw[ed]
  rw[el,show (0:Int)+((Int.toNat (t - tot ((m58 a).map (prt t (tot a)))):Nat):Int)=t - tot ((m58 a).map (prt t (tot a))) by omega] at hv
  exact hv

theorem ranges_ok {a0:K_B} (h:m44 a0=true):m72 a0.f7 0 1000000=true:=by
  unfold m44 at h
  simp only[Bool.if_false_right,Bool.and_eq_true] at h
  (repeat' split at h)<;>simp_all
theorem fidx_map {α β:Type} (p:β→Bool) (f:α→β):∀(l:List α),fidx (fun x=>p (f x)) l=fidx p (l.map f)
  |[]=>rfl
  |x::l=>by simp only[fidx,List.map_cons,fidx_map p f l]
theorem fidx_app {α:Type} (p:α→Bool):∀(a b:List α),fidx p (a++b)=(match fidx p a with | some k=>some k | none=>(fidx p b).map (· +a.length))
  |[],b=>by simp[fidx]
  |x::a,b=>by
    simp only[List.cons_append,fidx,fidx_app p a b]
    split
    · rfl
    · cases fidx p a with
      |some k=>rfl
      |none=>
        cases fidx p b with
        |none=>rfl
        |some k=>simp; omega
def Names (ns:List ByteArray):Prop:=∀(j:Nat) (s:ByteArray),ns[j]?=some s→(¬(s.toList==(⟨#[]⟩:ByteArray).toList)=true∧m79 s=true)∧fidx (fun t:ByteArray=>t.toList==s.toList) ns=some j
theorem names_app {ns:List ByteArray} {s:ByteArray} (h:Names ns) (h1:¬(s.toList==(⟨#[]⟩:ByteArray).toList)=true) (h2:m79 s=true) (h3:fidx (fun t:ByteArray=>t.toList==s.toList) ns=none):Names (ns++ [s]):=by
  intro j t hj
  by_cases c:j < ns.length
  · rw[List.getElem?_append_left c] at hj
    obtain⟨q1,q2⟩:=h j t hj
    exact⟨q1,by rw[fidx_app,q2]⟩
  · rw[List.getElem?_append_right (by omega)] at hj
    have hj0:j - ns.length=0:=by
      cases h0:j - ns.length with
      |zero=>rfl
      |succ n=>rw[h0] at hj; simp at hj
    rw[hj0] at hj
    simp only[List.getElem?_cons_zero,Option.some.injEq] at hj
    subst hj
    refine⟨⟨h1,h2⟩,?_⟩
    rw[fidx_app,h3]
    simp[fidx]<;>omega
theorem pl_iff (a:List K_si):∀(l:List K_si) (i:Nat),(match r63_0 a l i with | .k0 .. =>true | .k1=>false)=true↔∀(j:Nat) (x:K_si),l[j]?=some x→(¬(x.f0.toList==(⟨#[]⟩:ByteArray).toList)=true∧m79 x.f0=true)∧m72 x.f1 0 1000000=true∧m80 a x.f0=((i+j:Nat):Int)
  |[],i=>⟨fun _ j x h=>by simp at h,fun _=>rfl⟩
  |y::l,i=>by
    have ih:=pl_iff a l (i+1)
    simp only[r63_0]
    by_cases c1:(y.f0.toList==(⟨#[]⟩:ByteArray).toList)=true
    · rw[if_pos c1]
      exact⟨fun h=>(by cases h),fun h=>absurd c1 (h 0 y rfl).1.1⟩
    rw[if_neg c1]
    by_cases c2:(!(m79 y.f0))=true
    · rw[if_pos c2]
      refine⟨fun h=>(by cases h),fun h=>?_⟩
      rw[(h 0 y rfl).1.2] at c2; cases c2
    rw[if_neg c2]
    by_cases c3:(!(m72 y.f1 0 1000000))=true
    · rw[if_pos c3]
      refine⟨fun h=>(by cases h),fun h=>?_⟩
      rw[(h 0 y rfl).2.1] at c3; cases c3
    rw[if_neg c3]
    by_cases c4:((m80 a y.f0) !=(i:Int))=true
    · rw[if_pos c4]
      refine⟨fun h=>(by cases h),fun h=>?_⟩
      rw[(h 0 y rfl).2.2] at c4; simp at c4
    rw[if_neg c4]
    refine ih.trans ⟨fun h j x hx=>?_,fun h j x hx=>?_⟩
    · cases j with
      |zero=>
        simp only[List.getElem?_cons_zero,Option.some.injEq] at hx
        subst hx
        exact⟨⟨c1,by simpa using c2⟩,by simpa using c3,by simpa using c4⟩
      |succ j=>
        obtain⟨q1,q2,q3⟩:=h j x (by simpa using hx)
        exact⟨q1,q2,by rw[q3]; congr 1; omega⟩
    · obtain⟨q1,q2,q3⟩:=h (j+1) x (by simpa using hx)
      exact⟨q1,q2,by rw[q3]; congr 1; omega⟩
theorem parts_iff (a:List K_si):m63 a=true↔Names (a.map K_si.f0)∧∀x∈a,m72 x.f1 0 1000000=true:=by
  have h:=pl_iff a a 0
  have e:m63 a=(match r63_0 a a 0 with | .k0 .. =>true | .k1=>false):=rfl
  rw[e]
  refine h.trans ⟨fun h=>⟨fun j s hj=>?_,fun x hx=>?_⟩,fun h j x hx=>?_⟩
  · rw[List.getElem?_map] at hj
    cases hx:a[j]? with
    |none=>rw[hx] at hj; cases hj
    |some x=>
      rw[hx] at hj
      simp only[Option.map_some,Option.some.injEq] at hj
      subst hj
      obtain⟨q1,q2,q3⟩:=h j x hx
      refine⟨q1,?_⟩
      rw[atw_eq,fidx_map (fun t:ByteArray=>t.toList==x.f0.toList) K_si.f0] at q3
      cases hq:fidx (fun t:ByteArray=>t.toList==x.f0.toList) (a.map K_si.f0) with
      |none=>rw[hq] at q3; simp at q3<;>omega
      |some q=>rw[hq] at q3; simp at q3; exact congrArg some (by omega)
  · obtain⟨j,hj⟩:=List.getElem?_of_mem hx
    exact(h j x hj).2.1
  · obtain⟨q1,q2⟩:=h.1 j x.f0 (by rw[List.getElem?_map,hx]; rfl)
    refine⟨q1,h.2 x (List.mem_of_getElem? hx),?_⟩
    rw[atw_eq,fidx_map (fun t:ByteArray=>t.toList==x.f0.toList) K_si.f0,q2]
    simp

def addl:List K_si→List K_si→List K_si
  |[],v=>v
  |x::l,v=>if(decide ((m80 v x.f0)≥0))=true then addl l (List.set v (Int.toNat (m80 v x.f0)) (K_si.mk ((List.getD v (Int.toNat (m80 v x.f0)) (K_si.mk (⟨#[]⟩:ByteArray) 0)).f0) (IntKind.wrap .i64 (((List.getD v (Int.toNat (m80 v x.f0)) (K_si.mk (⟨#[]⟩:ByteArray) 0)).f1)+x.f1)))) else addl l (v++ [x])
theorem add_s (a:List K_si):∀(l:List K_si) (i:Int) (v:List K_si),∃j b,r73_0 a l i v=.k0 (addl l v) j b
  |[],i,v=>⟨_,_,rfl⟩
  |x::l,i,v=>by
    simp only[r73_0,addl]
    split
    · exact add_s a l _ _
    · exact add_s a l _ _
theorem add_i (a:K_B) (c:Nat):∀(l:List K_si) (i:Int) (v:List K_si),∃j b,r27_0 a c l i v=.k0 (addl l v) j b
  |[],i,v=>⟨_,_,rfl⟩
  |x::l,i,v=>by
    simp only[r27_0,addl,atix_eq]
    split
    · exact add_i a c l _ _
    · exact add_i a c l _ _
theorem add_names:∀(l v:List K_si),(∀x∈l,¬(x.f0.toList==(⟨#[]⟩:ByteArray).toList)=true∧m79 x.f0=true)→Names (v.map K_si.f0)→Names ((addl l v).map K_si.f0)
  |[],v,_,hv=>hv
  |x::l,v,hl,hv=>by
    have hl':∀x∈l,¬(x.f0.toList==(⟨#[]⟩:ByteArray).toList)=true∧m79 x.f0=true:=fun z hz=>hl z (List.mem_cons_of_mem _ hz)
    have hx:=hl x (List.mem_cons_self ..)
    simp only[addl]
    split
    · refine add_names l _ hl' ?_
      rw[List.map_set]
      have:(v.map K_si.f0).set (Int.toNat (m80 v x.f0)) ((List.getD v (Int.toNat (m80 v x.f0)) (K_si.mk (⟨#[]⟩:ByteArray) 0)).f0)=v.map K_si.f0:=by
        generalize Int.toNat (m80 v x.f0)=n
        apply List.ext_getElem?
        intro k
        rw[List.getElem?_set]
        split
        · rename_i e; subst e
          rw[List.length_map]
          split
          · rename_i h; rw[List.getElem?_map,List.getD_eq_getElem?_getD,List.getElem?_eq_getElem h]; rfl
          · rename_i h; rw[List.getElem?_eq_none (by simp; omega)]
        · rfl
      simp only[] at this⊢
      rw[this]; exact hv
    · rename_i h
      refine add_names l _ hl' ?_
      rw[List.map_append]
      refine names_app hv hx.1 hx.2 ?_
      rw[atw_eq,fidx_map (fun t:ByteArray=>t.toList==x.f0.toList) K_si.f0] at h
      cases hq:fidx (fun t:ByteArray=>t.toList==x.f0.toList) (v.map K_si.f0) with
      |none=>rfl
      |some q=>rw[hq] at h; simp at h<;>omega
theorem amt_all (c:List K_si):∀(l:List K_si) (i:Int),(match r73_1 c l i with | .k0 .. =>true | .k1=>false)=true↔∀x∈l,m72 x.f1 0 1000000=true
  |[],i=>⟨fun _ x h=>(by cases h),fun _=>rfl⟩
  |y::l,i=>by
    have ih:=amt_all c l (i+1)
    simp only[r73_1]
    by_cases h:(!(m72 y.f1 0 1000000))=true
    · rw[if_pos h]
      refine⟨fun h=>(by cases h),fun h2=>?_⟩
      rw[h2 y (List.mem_cons_self ..)] at h; cases h
    · rw[if_neg h]
      refine ih.trans ⟨fun h2 x hx=>?_,fun h2 x hx=>h2 x (List.mem_cons_of_mem _ hx)⟩
      rcases List.mem_cons.1 hx with rfl | hx
      · simpa using h
      · exact h2 x hx
theorem rew_parts {a:List K_R} {i:Int} (h:m62 a i=0):m63 (List.getD a (Int.toNat i) (K_R.mk 0 0 0 [] 0)).f3=true:=by
  unfold m62 at h
  by_cases c:m63 (List.getD a (Int.toNat i) (K_R.mk 0 0 0 [] 0)).f3=true
  · exact c
  · exfalso
    have c:m63 (List.getD a (Int.toNat i) (K_R.mk 0 0 0 [] 0)).f3=false:=by simpa using c
    simp only[c,Bool.not_false,if_true] at h
    (repeat' split at h)<;>simp at h
/-- The dues with a reward's parts,as both sides have them. -/
theorem add_code (d p:List K_si) (hd:m63 d=true) (hp:m63 p=true):
    m73_1 d p=(if((addl p d).length:Int) > 8 then 10 else if m41 (addl p d) 8=true then 0 else 7)∧(m73_1 d p=0→m73_0 d p=addl p d):=by
  obtain⟨j,b,e⟩:=add_s p p 0 d
  have hn := add_names p d (fun x hx => by
    obtain⟨j,hj⟩:=List.getElem?_of_mem hx
    exact(((parts_iff p).1 hp).1 j x.f0 (by rw[List.getElem?_map,hj]; rfl)).1) ((parts_iff d).1 hd).1
  unfold m73_1 m73_0
  rw[List.nil_append,e]
  simp only[List.length_map,decide_eq_true_eq]
  by_cases h8:((addl p d).length:Int) > 8
  · rw[if_pos h8,if_pos h8]; exact⟨rfl,fun h=>by cases h⟩
  rw[if_neg h8,if_neg h8,if_neg h8]
  have hk:m41 (addl p d) 8=(match r73_1 (addl p d) (addl p d) 0 with | .k0 .. =>true | .k1=>false):=by
    rw[owed_eq]
    have h9:((addl p d).length:Int)≤8:=by omega
    simp only[h9,decide_true,Bool.and_true]
    rw[Bool.eq_iff_iff,parts_iff,amt_all]
    exact⟨fun h=>h.2,fun h=>⟨hn,h⟩⟩
  rw[hk]
  cases r73_1 (addl p d) (addl p d) 0 with
  |k0 u v=>exact⟨rfl,fun _=>rfl⟩
  |k1=>exact⟨rfl,fun h=>by cases h⟩
theorem ripen_eq (a0:K_B) (w:Int):m1002400 a0 w=m18 a0 w:=by
  unfold m1002400 m18
  rw[ledger_eq]
  by_cases h:(m36 a0 !=0)=true
  · rw[if_pos h,if_pos h]
  · rw[if_neg h,if_neg h]
    have hs:=sound (a0:=a0) (by simpa using h)
    simp only[cp52]
    unfold m1002500 o1002500_0 m45
    simp only[cp68,ixr_eq,Nat.zero_add]
    have hix:=ix67 a0.f3 w
    generalize m67 a0.f3 w=p at*
    by_cases c1:(decide (p < 0))=true
    · simp[c1]
    simp only[decide_eq_true_eq] at c1
    have hrw:=hs.rewards (Int.toNat p) (by have:=hix.2; omega)
    have hpp:=rew_parts hrw
    rw[Int.toNat_natCast] at hpp
    obtain⟨k1,k2⟩:=add_code a0.f4 _ hs.dues hpp
    have d1:(decide (p < 0))=false:=by simp; omega
    simp only[d1,if_neg Bool.false_ne_true]
    unfold m27 o27_0
    obtain⟨j,b,e⟩:=add_i a0 (Int.toNat p) (List.getD a0.f3 (Int.toNat p) (K_R.mk 0 0 0 [] 0)).f3 0 a0.f4
    simp only[e,in_same]
    generalize hg:List.getD a0.f3 (Int.toNat p) (K_R.mk 0 0 0 [] 0)=g at*
    by_cases c2:(g.f4 !=1)=true
    · simp only[if_pos c2]; rfl
    simp only[if_neg c2,List.length_map,decide_eq_true_eq]
    rw[k1]
    by_cases c3:((addl g.f3 a0.f4).length:Int) > 8
    · simp[c3]
    simp only[if_neg c3] at k1⊢
    by_cases c4:m41 (addl g.f3 a0.f4) 8=true
    · rw[if_pos c4] at k1
      rw[k2 k1]
      by_cases c5:(!(m72 (IntKind.wrap .i64 (a0.f6+g.f2)) 0 1000000))=true
      · simp[c4,c5]
      · simp[c4,c5]
    · have c4':m41 (addl g.f3 a0.f4) 8=false:=by simpa using c4
      by_cases c5:(!(m72 (IntKind.wrap .i64 (a0.f6+g.f2)) 0 1000000))=true
      · simp[c4',c5]
      · simp[c4',c5]
theorem f13_loop (a:List K_si):∀(l:List K_si) (i:Int),(match r61_0 a l i with | .k0 .. =>(0:Int) | .k1 w=>w)=0↔∀z∈l,m78 z=0
  |[],i=>⟨fun _ z h=>(by cases h),fun _=>rfl⟩
  |y::l,i=>by
    have ih:=f13_loop a l (i+1)
    simp only[r61_0]
    by_cases h:((m78 y) !=0)=true
    · simp only[if_pos h]
      refine⟨fun e=>?_,fun e=>?_⟩
      · rw[e] at h; simp at h
      · rw[e y (List.mem_cons_self ..)] at h; simp at h
    · simp only[if_neg h]
      refine ih.trans ⟨fun e z hz=>?_,fun e z hz=>e z (List.mem_cons_of_mem _ hz)⟩
      rcases List.mem_cons.1 hz with rfl | hz
      · simpa using h
      · exact e z hz
theorem f13_iff (a:List K_si):m61 a=0↔a.length≤12∧∀z∈a,m78 z=0:=by
  unfold m61
  simp only[List.length_map,decide_eq_true_eq]
  by_cases h:(a.length:Int) > 12
  · rw[if_pos h]; exact⟨fun e=>(by cases e),fun e=>(by have:=e.1; omega)⟩
  · rw[if_neg h]
    exact(f13_loop a a 0).trans ⟨fun e=>⟨by omega,e⟩,fun e=>e.2⟩
def isum:List K_si→Int
  |[]=>0
  |x::l=>x.f1+isum l
theorem isum_set:∀ {l:List K_si} {p:Nat} {x y:K_si},l[p]?=some x→isum (l.set p y)=isum l - x.f1+y.f1
  |z::l,0,x,y,h=>by simp at h; subst h; simp only[List.set_cons_zero,isum]; omega
  |z::l,p+1,x,y,h=>by
    have:=isum_set (l:=l) (y:=y) (by simpa using h:l[p]?=some x)
    simp only[List.set_cons_succ,isum,this]; omega
theorem isum_bd:∀ {l:List K_si},(∀z∈l,0≤z.f1∧z.f1≤1000000)→0≤isum l∧isum l≤1000000*(l.length:Int)
  |[],_=>by simp[isum]
  |x::l,h=>by
    have h1:=h x (List.mem_cons_self ..)
    have h2:=isum_bd (l:=l) fun z hz=>h z (List.mem_cons_of_mem _ hz)
    simp only[isum,List.length_cons]; omega
theorem tot_val (a:List K_si):∀(l:List K_si) (i v:Int),(∀z∈l,0≤z.f1∧z.f1≤1000000)→0≤v→v+1000000*(l.length:Int)≤9000000000→∃j b,r64_0 a l i v=.k0 (v+isum l) j b
  |[],i,v,_,_,_=>⟨_,_,by simp only[r64_0,isum,Int.add_zero]; rfl⟩
  |x::l,i,v,h,h0,hb=>by
    have h1:=h x (List.mem_cons_self ..)
    simp only[List.length_cons] at hb
    simp only[r64_0,isum]
    rw[wrap64 (by omega)]
    obtain⟨j,b,e⟩:=tot_val a l (i+1) (v+x.f1) (fun z hz=>h z (List.mem_cons_of_mem _ hz)) (by omega) (by omega)
    exact⟨j,b,by rw[e,Int.add_assoc]⟩
theorem tot_is {l:List K_si} (h:∀z∈l,0≤z.f1∧z.f1≤1000000) (hl:l.length≤1000):m64 l=isum l:=by
  obtain⟨j,b,e⟩:=tot_val l l 0 0 h (by omega) (by omega)
  unfold m64
  rw[e]; simp only[]; omega
theorem lw_val (a:K_B):∀(l:List K_si) (i v:Int),(∀z∈l,0≤z.f1∧z.f1≤1000000)→0≤v→v+1000000*(l.length:Int)≤9000000000→∃j b,r16_0 a l i v=.k0 (v+isum l) j b
  |[],i,v,_,_,_=>⟨_,_,by simp only[r16_0,isum,Int.add_zero]; rfl⟩
  |x::l,i,v,h,h0,hb=>by
    have h1:=h x (List.mem_cons_self ..)
    simp only[List.length_cons] at hb
    simp only[r16_0,isum]
    rw[wrap64 (by omega)]
    obtain⟨j,b,e⟩:=lw_val a l (i+1) (v+x.f1) (fun z hz=>h z (List.mem_cons_of_mem _ hz)) (by omega) (by omega)
    exact⟨j,b,by rw[e,Int.add_assoc]⟩
theorem lw_is {a:K_B} (h:∀z∈a.f4,0≤z.f1∧z.f1≤1000000) (hl:a.f4.length≤1000):m16 a=isum a.f4:=by
  obtain⟨j,b,e⟩:=lw_val a a.f4 0 0 h (by omega) (by omega)
  unfold m16
  rw[e]; simp only[]; omega
theorem rew_k0 (a0:K_B):∀(l:List K_R) (i:Nat),(∀j:Nat,j < l.length→m62 a0.f3 ((i+j:Nat):Int)=0)→∃u v,r36_0 a0 l i=.k0 u v
  |[],i,_=>⟨_,_,rfl⟩
  |x::l,i,h=>by
    simp only[r36_0]
    rw[if_neg (by have:=h 0 (by simp); rw[Nat.add_zero] at this; rw[this]; decide)]
    exact rew_k0 a0 l (i+1) fun j hj=>by
      have:=h (j+1) (by simpa using hj)
      rw[← this]; congr 1; omega
theorem fault_of {a0:K_B} (h:Sound a0):m36 a0=0:=by
  obtain⟨h1,h2,h3,h4,h5,h6,h7,h8,h9⟩:=h
  unfold m36
  obtain⟨u,v,e⟩:=rew_k0 a0 a0.f3 0 (fun j hj=>by rw[Nat.zero_add]; exact h6 j hj)
  rw[show ((0:Nat):Int)=0 from rfl] at e
  simp only[h1,h2,h7,h8,h9,e,List.length_map]
  have c1:¬(a0.f2.length:Int) > a0.f0:=by omega
  have c2:¬(a0.f3.length:Int) > 6:=by omega
  have c3:¬(a0.f4.length:Int) > 8:=by omega
  simp[c1,c2,c3]
theorem dues_bd {a0:K_B} (h:Sound a0):∀z∈a0.f4,0≤z.f1∧z.f1≤1000000:=fun z hz=>by
  obtain⟨j,hj⟩:=List.getElem?_of_mem hz
  have:=parts_ok h.dues hj
  exact⟨this.1,this.2.1⟩
theorem ranges_all {a0:K_B} (h:m44 a0=true):(1≤a0.f0∧a0.f0≤12)∧(0≤a0.f1∧a0.f1≤1000)∧(0≤a0.f5∧a0.f5≤1000000)∧(0≤a0.f6∧a0.f6≤1000000)∧(0≤a0.f7∧a0.f7≤1000000):=by
  unfold m44 at h
  (repeat' split at h)<;>first |(cases h; done) | exact⟨l1in (by assumption),l1in (by assumption),l1in (by assumption),l1in (by assumption),l1in (by assumption)⟩ | exact⟨l1in (by assumption),l1in (by assumption),l1in (by assumption),l1in (by assumption),l1in h⟩
theorem in_l1 {a b c:Int} (h1:b≤a) (h2:a≤c):m72 a b c=true:=by
  unfold m72
  have d1:a≥b:=h1
  simp[d1,h2]
theorem ranges_of {a0:K_B} (h0:1≤a0.f0∧a0.f0≤12) (h1:0≤a0.f1∧a0.f1≤1000) (h2:0≤a0.f5∧a0.f5≤1000000) (h3:0≤a0.f6∧a0.f6≤1000000) (h4:0≤a0.f7∧a0.f7≤1000000):m44 a0=true:=by
  unfold m44
  simp only[in_l1 h0.1 h0.2,in_l1 h1.1 h1.2,in_l1 h2.1 h2.2,in_l1 h3.1 h3.2,in_l1 h4.1 h4.2,if_true]

theorem lose_eq (a0:K_B) (w:Int):m1002401 a0 w=m13 a0 w:=by
  unfold m1002401 m13
  rw[ledger_eq]
  by_cases h:(m36 a0 !=0)=true
  · rw[if_pos h,if_pos h]
  · rw[if_neg h,if_neg h]
    have hs:=sound (a0:=a0) (by simpa using h)
    have hr:=ranges_ok hs.ranges
    simp only[cp52]
    unfold m1002800 o1002800_0 m38
    simp only[cp68,ixr_eq,in_same]
    generalize m67 a0.f3 w=p
    generalize hg:List.getD a0.f3 (Int.toNat p) (K_R.mk 0 0 0 [] 0)=g
    by_cases c1:(decide (p < 0))=true
    · simp[c1]
    by_cases c2:(g.f4==3)=true
    · simp[c1,c2]
    by_cases c3:(g.f4==2)=true
    · by_cases c4:(!(m72 (IntKind.wrap .i64 (a0.f7+g.f1)) 0 1000000))=true
      · simp[c1,c2,c3,c4]
      · simp[c1,c2,c3,c4]
    · simp[c1,c2,c3,hr]
theorem found_eq (a0:K_B) (w t:Int):m1002402 a0 w t=m15 a0 w t:=by
  unfold m1002402 m15
  rw[ledger_eq]
  by_cases h:(m36 a0 !=0)=true
  · rw[if_pos h,if_pos h]
  · rw[if_neg h,if_neg h]
    have hs:=sound (a0:=a0) (by simpa using h)
    have hw:m39 a0.f2=0:=by
      rw[window_eq]
      have h0:m36 a0=0:=by simpa using h
      unfold m36 at h0
      split at h0
      · cases h0
      split at h0
      · exact h0
      · rename_i h2; simpa using h2
    simp only[cp52]
    unfold m1003100 o1003100_0 m43
    simp only[cp68,ixr_eq,in_same,tots_all,List.length_map]
    by_cases c1:(!(m72 w 0 2147483646))=true
    · simp[c1]
    by_cases c2:(!(m72 t 0 1000000))=true
    · simp[c1,c2]
    by_cases c3:(decide (m67 a0.f3 w≥0))=true
    · simp[c1,c2,c3]
    by_cases c4:(decide (((a0.f3.length:Nat):Int)≥6))=true
    · simp[c1,c2,c3,c4]
    by_cases c5:(!(m72 (IntKind.wrap .i64 ((m65 a0.f3 false)+t)) 0 1000000))=true
    · simp[c1,c2,c3,c4,c5]
    by_cases c6:(decide (((a0.f2.length:Nat):Int) > 0))=true
    · have e:∀x,m34 x a0.f2=m71 x a0.f2:=fun x=>(split_eq x a0.f2 hw (by simp only[decide_eq_true_eq] at c6; omega)).symm
      simp only[if_neg c1,if_neg c2,if_neg c3,if_neg c4,if_neg c5,if_pos c6,e]
      rfl
    · simp only[if_neg c1,if_neg c2,if_neg c3,if_neg c4,if_neg c5,if_neg c6]
      rfl
theorem new_eq (a b:Int):m17 a b=m12 a b:=by
  unfold m17 m12 m44 m35
  have h:m72 0 0 1000000=true:=by rw[l1In_iff]; omega
  simp only[in_eq,h,if_true]
  (repeat' split)<;>simp_all
def RW (x:K_R):Prop:=m72 x.f0 0 2147483646=true∧m72 x.f1 0 1000000=true∧m72 x.f2 0 1000000=true∧m72 x.f4 1 3=true∧(x.f3.length:Int)≤12∧m63 x.f3=true∧IntKind.wrap .i64 (m64 x.f3+x.f2)=x.f1
theorem rw_iff (a:List K_R) (j:Nat):m62 a (j:Int)=0↔RW (List.getD a j (K_R.mk 0 0 0 [] 0))∧m67 (List.take j a) (List.getD a j (K_R.mk 0 0 0 [] 0)).f0 < 0:=by
  unfold m62 RW
  rw[Int.toNat_natCast]
  generalize m67 (List.take j a) (List.getD a j (K_R.mk 0 0 0 [] 0)).f0=w
  generalize List.getD a j (K_R.mk 0 0 0 [] 0)=g
  simp only[List.length_map]
  cases m72 g.f0 0 2147483646 with
  |false=>simp
  |true=>
  cases m72 g.f1 0 1000000 with
  |false=>simp
  |true=>
  cases m72 g.f2 0 1000000 with
  |false=>simp
  |true=>
  cases m72 g.f4 1 3 with
  |false=>simp
  |true=>
  by_cases c5:(g.f3.length:Int)≤12
  · cases m63 g.f3 with
    |false=>first |(simp; done) |(simp; omega)
    |true=>
      by_cases c7:IntKind.wrap .i64 (m64 g.f3+g.f2)=g.f1
      · have d5:¬(g.f3.length:Int) > 12:=by omega
        by_cases c8:w < 0
        · have d8:¬w≥0:=by omega
          simp[c5,c7,c8,d5,d8]
        · have d8:w≥0:=by omega
          simp[c5,c7,c8,d5,d8]
      · have d5:¬(g.f3.length:Int) > 12:=by omega
        simp[c7,d5]
  · have d5:(g.f3.length:Int) > 12:=by omega
    simp[c5,d5]
theorem rw_bd {x:K_R} (h:RW x):0≤x.f1∧x.f1≤1000000:=l1in h.2.1
theorem find_names {a b:List K_R} (h:a.map K_R.f0=b.map K_R.f0) (w:Int):m67 a w=m67 b w:=by
  rw[findr_eq,findr_eq,fidx_map (fun t:Int=>t==w) K_R.f0,fidx_map (fun t:Int=>t==w) K_R.f0,h]
theorem rnames_set {a:List K_R} {p:Nat} {x y:K_R} (hx:a[p]?=some x) (hy:y.f0=x.f0):(a.set p y).map K_R.f0=a.map K_R.f0:=by
  rw[List.map_set]
  apply List.ext_getElem?
  intro k
  rw[List.getElem?_set]
  split
  · rename_i e; subst e
    rw[List.length_map]
    split
    · rw[List.getElem?_map,hx,hy]; rfl
    · rename_i h; rw[List.getElem?_eq_none (by simp; omega)]
  · rfl
theorem rew_set {a:List K_R} {p:Nat} {x y:K_R} (ha:∀j:Nat,j < a.length→m62 a (j:Int)=0) (hx:a[p]?=some x) (hn:y.f0=x.f0) (hy:RW y):∀j:Nat,j <(a.set p y).length→m62 (a.set p y) (j:Int)=0:=by
  intro j hj
  rw[List.length_set] at hj
  obtain⟨q1,q2⟩:=(rw_iff a j).1 (ha j hj)
  have e:∀w,m67 (List.take j (a.set p y)) w=m67 (List.take j a) w:=fun w=>find_names (by rw[List.map_take,List.map_take,rnames_set hx hn]) w
  rw[rw_iff,e]
  by_cases hp:p=j
  · subst hp
    have g:List.getD (a.set p y) p (K_R.mk 0 0 0 [] 0)=y:=by rw[List.getD_eq_getElem?_getD,List.getElem?_set_self hj]; rfl
    have g2:List.getD a p (K_R.mk 0 0 0 [] 0)=x:=by rw[List.getD_eq_getElem?_getD,hx]; rfl
    rw[g2] at q2
    rw[g,hn]
    exact⟨hy,q2⟩
  · have g:List.getD (a.set p y) j (K_R.mk 0 0 0 [] 0)=List.getD a j (K_R.mk 0 0 0 [] 0):=by rw[List.getD_eq_getElem?_getD,List.getD_eq_getElem?_getD,List.getElem?_set_ne hp]
    rw[g]
    exact⟨q1,q2⟩
theorem rew_app {a:List K_R} {x:K_R} (ha:∀j:Nat,j < a.length→m62 a (j:Int)=0) (hf:m67 a x.f0 < 0) (hx:RW x):∀j:Nat,j <(a++ [x]).length→m62 (a++ [x]) (j:Int)=0:=by
  intro j hj
  rw[List.length_append,List.length_singleton] at hj
  rw[rw_iff]
  by_cases c:j < a.length
  · rw[List.take_append_of_le_length (by omega),List.getD_eq_getElem?_getD,List.getElem?_append_left c,← List.getD_eq_getElem?_getD]
    exact(rw_iff a j).1 (ha j c)
  · have e:j=a.length:=by omega
    subst e
    rw[List.take_left,List.getD_eq_getElem?_getD,List.getElem?_append_right (Nat.le_refl _),Nat.sub_self]
    exact⟨hx,hf⟩
theorem rew_all {a:List K_R} (ha:∀j:Nat,j < a.length→m62 a (j:Int)=0):∀z∈a,RW z:=fun z hz=>by
  obtain⟨j,hj,e⟩:=List.getElem_of_mem hz
  have:=((rw_iff a j).1 (ha j hj)).1
  rw[List.getD_eq_getElem?_getD,List.getElem?_eq_getElem hj,e] at this
  exact this
def tc (b:Bool) (x:K_R):Int:=if b=true then(if(x.f4==2)=true then x.f1 else 0) else x.f1
def tsum (b:Bool):List K_R→Int
  |[]=>0
  |x::l=>tc b x+tsum b l
theorem tc_bd {b:Bool} {x:K_R} (h:RW x):0≤tc b x∧tc b x≤1000000:=by
  have:=rw_bd h
  unfold tc
  (repeat' split)<;>omega
theorem tsum_set {b:Bool}:∀ {l:List K_R} {p:Nat} {x y:K_R},l[p]?=some x→tsum b (l.set p y)=tsum b l - tc b x+tc b y
  |z::l,0,x,y,h=>by simp at h; subst h; simp only[List.set_cons_zero,tsum]; omega
  |z::l,p+1,x,y,h=>by
    have:=tsum_set (b:=b) (l:=l) (y:=y) (by simpa using h:l[p]?=some x)
    simp only[List.set_cons_succ,tsum,this]; omega
theorem tsum_app {b:Bool}:∀ {l:List K_R} {x:K_R},tsum b (l++ [x])=tsum b l+tc b x
  |[],x=>by simp[tsum]
  |z::l,x=>by simp only[List.cons_append,tsum,tsum_app (l:=l)]; omega
theorem tsum_bd {b:Bool}:∀ {l:List K_R},(∀z∈l,RW z)→0≤tsum b l∧tsum b l≤1000000*(l.length:Int)
  |[],_=>by simp[tsum]
  |x::l,h=>by
    have h1:=tc_bd (b:=b) (h x (List.mem_cons_self ..))
    have h2:=tsum_bd (b:=b) (l:=l) fun z hz=>h z (List.mem_cons_of_mem _ hz)
    simp only[tsum,List.length_cons]; omega
theorem tots_loop2 (a:List K_R) (b:Bool):∀(l:List K_R) (i v:Int),(∀z∈l,RW z)→0≤v→v+1000000*(l.length:Int)≤9000000000→∃j q,r65_0 a b l i v=.k0 (v+tsum b l) j q
  |[],i,v,_,_,_=>⟨_,_,by simp only[r65_0,tsum,Int.add_zero]; rfl⟩
  |x::l,i,v,h,h0,hb=>by
    have h1:=tc_bd (b:=b) (h x (List.mem_cons_self ..))
    simp only[List.length_cons] at hb
    obtain⟨j,q,e⟩:=tots_loop2 a b l (i+1) (v+tc b x) (fun z hz=>h z (List.mem_cons_of_mem _ hz)) (by omega) (by omega)
    refine⟨j,q,?_⟩
    simp only[r65_0,tsum]
    rw[← Int.add_assoc,← e]
    cases b with
    |false=>simp only[tc,Bool.not_false,if_true] at*; simp only[if_neg Bool.false_ne_true] at*; rw[wrap64 (by omega)]
    |true=>
      simp only[tc,Bool.not_true,if_neg Bool.false_ne_true,if_true] at*
      by_cases c:(x.f4==2)=true
      · simp only[if_pos c] at*; rw[wrap64 (by omega)]
      · simp only[if_neg c,Int.add_zero] at*
theorem tots_is {l:List K_R} {b:Bool} (h:∀z∈l,RW z) (hl:l.length≤1000):m65 l b=tsum b l:=by
  obtain⟨j,q,e⟩:=tots_loop2 l b l 0 0 h (by omega) (by omega)
  unfold m65
  rw[e]; simp only[]; omega
/-- A sound ledger's sums,as numbers. -/
theorem sums_int {a:K_B} (h:Sound a):isum a.f4+a.f6+a.f5=tsum true a.f3+a.f7∧0≤tsum false a.f3∧tsum false a.f3≤1000000:=by
  have hr:=ranges_all h.ranges
  have hw:=rew_all h.rewards
  have b1:=isum_bd (dues_bd h)
  have b2:=tsum_bd (b:=true) hw
  have l1:=h.rewlen
  have l2:=h.duelen
  have s:=h.sums
  have t:=l1in h.all
  rw[tots_is hw (by omega)] at t
  rw[tot_is (dues_bd h) (by omega),tots_is hw (by omega),wrap64 (x:=isum a.f4+a.f6) (by omega),wrap64 (by omega),wrap64 (by omega)] at s
  exact⟨s,t.1,t.2⟩
theorem getR {a:List K_R} {p:Nat} {x:K_R} (h:a[p]?=some x):List.getD a p (K_R.mk 0 0 0 [] 0)=x:=by rw[List.getD_eq_getElem?_getD,h]; rfl
theorem fidx_get2 {a:List K_R} {w:Int} {p:Nat} (h:fidx (fun x:K_R=>x.f0==w) a=some p):∃g,a[p]?=some g∧g.f0=w:=by
  obtain⟨g,h1,h2⟩:=fidx_get h
  exact⟨g,h1,by simpa using h2⟩
theorem lose_ok {x:K_B} {k:Int} (hc:(m13 x k).f0=0):Sound x∧∃p g,fidx (fun y:K_R=>y.f0==k) x.f3=some p∧x.f3[p]?=some g∧g.f4≠3∧0≤x.f7+tc true g∧x.f7+tc true g≤1000000∧m13 x k=K_C.mk 0 0 x.f0 x.f1 x.f2 (x.f3.set p (K_R.mk g.f0 g.f1 g.f2 g.f3 3)) x.f4 x.f5 x.f6 (x.f7+tc true g):=by
  unfold m13 at hc⊢
  by_cases h:(m36 x !=0)=true
  · simp only[if_pos h] at hc
    rw[show m36 x=0 from hc] at h; simp at h
  simp only[if_neg h] at hc⊢
  have hs:=sound (a0:=x) (by simpa using h)
  have hr:=ranges_all hs.ranges
  refine⟨hs,?_⟩
  unfold m38 at hc⊢
  simp only[cp68] at hc⊢
  rw[findr_eq] at hc⊢
  cases hq:fidx (fun y:K_R=>y.f0==k) x.f3 with
  |none=>rw[hq] at hc; simp at hc
  |some p=>
    rw[hq] at hc
    obtain⟨g,hg,_⟩:=fidx_get2 hq
    have hgb:=rw_bd (rew_all hs.rewards g (List.mem_of_getElem? hg))
    simp only[Int.toNat_natCast,getR hg] at hc⊢
    have c1:¬(decide ((p:Int) < 0))=true:=by simp
    simp only[if_neg c1] at hc⊢
    by_cases c2:(g.f4==3)=true
    · simp only[if_pos c2] at hc; simp at hc
    simp only[if_neg c2] at hc⊢
    have n3:g.f4≠3:=by simpa using c2
    by_cases c3:(g.f4==2)=true
    · have e:IntKind.wrap .i64 (x.f7+g.f1)=x.f7+g.f1:=wrap64 (by omega)
      simp only[if_pos c3,e] at hc⊢
      by_cases c4:(!(m72 (x.f7+g.f1) 0 1000000))=true
      · simp only[if_pos c4] at hc; simp at hc
      have q:=l1in (show m72 (x.f7+g.f1) 0 1000000=true by simpa using c4)
      have t:tc true g=g.f1:=by unfold tc; rw[if_pos rfl,if_pos c3]
      refine⟨p,g,rfl,hg,n3,by omega,by omega,?_⟩
      rw[if_neg c4,t]
    · simp only[if_neg c3] at hc⊢
      have t:tc true g=0:=by unfold tc; rw[if_pos rfl,if_neg c3]
      have q:m72 x.f7 0 1000000=true:=in_l1 hr.2.2.2.2.1 hr.2.2.2.2.2
      refine⟨p,g,rfl,hg,n3,by omega,by omega,?_⟩
      rw[if_neg (by rw[q]; decide),t,Int.add_zero]
theorem rw_state {g:K_R} (h:RW g) {s:Int} (h1:1≤s) (h2:s≤3):RW (K_R.mk g.f0 g.f1 g.f2 g.f3 s):=⟨h.1,h.2.1,h.2.2.1,in_l1 h1 h2,h.2.2.2.2.1,h.2.2.2.2.2.1,h.2.2.2.2.2.2⟩
theorem lose_sound {x:K_B} {p:Nat} {g:K_R} (hs:Sound x) (hg:x.f3[p]?=some g) (h0:0≤x.f7+tc true g) (h1:x.f7+tc true g≤1000000):Sound (K_B.mk x.f0 x.f1 x.f2 (x.f3.set p (K_R.mk g.f0 g.f1 g.f2 g.f3 3)) x.f4 x.f5 x.f6 (x.f7+tc true g)):=by
  have hw:=rew_all hs.rewards
  have hG:=hw g (List.mem_of_getElem? hg)
  have hy:=rw_state hG (s:=3) (by omega) (by omega)
  have hr:=ranges_all hs.ranges
  have hrew:=rew_set hs.rewards hg (y:=K_R.mk g.f0 g.f1 g.f2 g.f3 3) rfl hy
  have hw2:=rew_all hrew
  have si:=sums_int hs
  have b1:=isum_bd (dues_bd hs)
  have l1:=hs.rewlen
  have l2:=hs.duelen
  have b3:=tsum_bd (b:=true) hw2
  have e1:tsum true (x.f3.set p (K_R.mk g.f0 g.f1 g.f2 g.f3 3))=tsum true x.f3 - tc true g:=by rw[tsum_set hg]; show tsum true x.f3 - tc true g+0=_; omega
  have e2:tsum false (x.f3.set p (K_R.mk g.f0 g.f1 g.f2 g.f3 3))=tsum false x.f3:=by rw[tsum_set hg]; show tsum false x.f3 - g.f1+g.f1=_; omega
  rw[List.length_set] at b3
  refine⟨ranges_of hr.1 hr.2.1 hr.2.2.1 hr.2.2.2.1 ⟨h0,h1⟩,hs.window,hs.winlen,by rw[List.length_set]; exact hs.rewlen,hs.duelen,hrew,hs.dues,?_,?_⟩
  · simp only[]
    rw[tot_is (dues_bd hs) (by omega),tots_is hw2 (by rw[List.length_set]; omega),e1,wrap64 (x:=isum x.f4+x.f6) (by omega),wrap64 (by omega),wrap64 (by omega)]
    omega
  · simp only[]
    rw[tots_is hw2 (by rw[List.length_set]; omega),e2]
    exact in_l1 si.2.1 si.2.2
theorem lose_again {x:K_B} {p:Nat} {y:K_R} {k:Int} (hs:Sound x) (hq:fidx (fun y:K_R=>y.f0==k) x.f3=some p) (hg:x.f3[p]?=some y) (hy:y.f4=3):(m13 x k).f0=9:=by
  unfold m13
  rw[if_neg (by rw[fault_of hs]; decide)]
  unfold m38
  rw[findr_eq,hq]
  simp only[Int.toNat_natCast,getR hg,hy]
  rw[if_neg (by simp)]
  rfl
theorem find_set {x:List K_R} {p:Nat} {g y:K_R} {k:Int} (hq:fidx (fun y:K_R=>y.f0==k) x=some p) (hg:x[p]?=some g) (hy:y.f0=g.f0):fidx (fun y:K_R=>y.f0==k) (x.set p y)=some p:=by
  rw[fidx_map (fun t:Int=>t==k) K_R.f0,rnames_set hg hy,← fidx_map (fun t:Int=>t==k) K_R.f0]; exact hq
theorem at_set {x:List K_R} {p:Nat} {g y:K_R} (hg:x[p]?=some g):(x.set p y)[p]?=some y:=List.getElem?_set_self (List.getElem?_eq_some_iff.1 hg).1
theorem one_ok {z:K_si} (h:m78 z=0):(¬(z.f0.toList==(⟨#[]⟩:ByteArray).toList)=true∧m79 z.f0=true)∧1≤z.f1∧z.f1≤9999:=by
  unfold m78 at h
  split at h
  · cases h
  rename_i h1
  split at h
  · cases h
  rename_i h2
  split at h
  · cases h
  rename_i h3
  exact⟨⟨h1,by simpa using h2⟩,l1in (by simpa using h3)⟩
theorem merge_l (a:List K_si):∀(l:List K_si) (i:Int) (v:List K_si),∃j b,r83_0 a l i v=.k0 (addl l v) j b
  |[],i,v=>⟨_,_,rfl⟩
  |x::l,i,v=>by
    simp only[r83_0,addl]
    split
    · exact merge_l a l _ _
    · exact merge_l a l _ _
theorem merge_addl (a:List K_si):m83 a=addl a []:=by
  obtain⟨j,b,e⟩:=merge_l a a 0 []
  unfold m83
  rw[e]
theorem merge_names {a:List K_si} (h:∀z∈a,m78 z=0):Names ((m58 a).map K_si.f0):=by
  rw[← merge_eq,merge_addl]
  exact add_names a [] (fun z hz=>(one_ok (h z hz)).1) (fun j s hj=>by simp at hj)
theorem split_names {t A:Int} {m o:List K_si} {r:List Int} {s:Int} (h:Inv t A m o r s):o.map K_si.f0=m.map K_si.f0:=by
  apply List.ext_getElem (by simp[h.lo])
  intro j h1 h2
  simp only[List.length_map] at h1 h2
  simp only[List.getElem_map]
  have e1:o[j]=gk o j:=by have:=gk_at h1; rw[List.getElem?_eq_getElem h1] at this; injection this
  have e2:m[j]=gk m j:=by have:=gk_at h2; rw[List.getElem?_eq_getElem h2] at this; injection this
  rw[e1,e2]
  rcases h.each j h2 with⟨_,q⟩ |⟨_,q⟩<;>rw[q]<;>rfl
theorem isum_tot:∀(l:List K_si),isum l=tot l
  |[]=>rfl
  |x::l=>by simp only[isum,tot,isum_tot l]
theorem mem_tot:∀ {l:List K_si} {z:K_si},Pos l→z∈l→z.f1≤tot l
  |x::l,z,h,hz=>by
    have h1:=h x (List.mem_cons_self ..)
    have h2:Pos l:=fun y hy=>h y (List.mem_cons_of_mem _ hy)
    have h3:=tot_nonneg h2
    rcases List.mem_cons.1 hz with rfl | hz
    · simp only[tot]; omega
    · have:=mem_tot h2 hz
      simp only[tot]; omega
/-- What is divided:sound parts,and all of it. -/
theorem split_ok {t:Int} {a:List K_si} (hw:m61 a=0) (h0:0 < a.length) (ht:0≤t) (ht2:t≤1000000):m63 (m71 t a)=true∧(m71 t a).length≤12∧isum (m71 t a)=t:=by
  have hw2:m39 a=0:=by rw[window_eq]; exact hw
  rw[split_eq t a hw2 h0]
  obtain⟨r,hf,hv,hn,htm⟩:=divided_ok t a hw2 h0 ht ht2
  have hsum:tot (m34 t a)=t:=by rw[hv.sum]; omega
  have hl:=hv.lo
  have hlen:(m58 a).length≤12:=hf.2.2.2.2.1
  have hp:Pos (m34 t a):=fun z hz=>by
    obtain⟨j,hj⟩:=List.getElem?_of_mem hz
    have hj2:j <(m34 t a).length:=(List.getElem?_eq_some_iff.1 hj).1
    have e:gk (m34 t a) j=z:=by have:=gk_at hj2; rw[hj] at this; injection this with this; exact this.symm
    obtain⟨e1,e2,e3,e4,e5,e6,e7⟩:=part_is hf (gk_mem (l:=m58 a) (i:=j) (by omega))
    rw[← e1] at e3
    rcases hv.each j (by omega) with⟨_,q⟩ |⟨_,q⟩
    · rw[← e,q]; exact e3
    · rw[← e,q]; show 0≤part t (tot a) _+1; omega
  refine⟨(parts_iff _).2 ⟨by rw[split_names hv]; exact merge_names ((f13_iff a).1 hw).2,fun z hz=>in_l1 (hp z hz) ?_⟩,by omega,by rw[isum_tot,hsum]⟩
  have:=mem_tot hp hz
  omega
theorem isum_app:∀(l:List K_si) (x:K_si),isum (l++ [x])=isum l+x.f1
  |[],x=>by simp[isum]
  |z::l,x=>by simp only[List.cons_append,isum,isum_app l x]; omega
theorem add_sum:∀(l v:List K_si) (k:Nat),(∀z∈l,0≤z.f1∧z.f1≤1000000)→(∀z∈v,0≤z.f1∧z.f1≤1000000*(k:Int))→1≤k→k+l.length≤1000→isum (addl l v)=isum v+isum l
  |[],v,k,_,_,_,_=>by simp[addl,isum]
  |x::l,v,k,hl,hv,hk,hb=>by
    have hx:=hl x (List.mem_cons_self ..)
    have hl':∀z∈l,0≤z.f1∧z.f1≤1000000:=fun z hz=>hl z (List.mem_cons_of_mem _ hz)
    simp only[List.length_cons] at hb
    simp only[addl,isum]
    rw[atw_eq]
    cases hq:fidx (fun y:K_si=>y.f0.toList==x.f0.toList) v with
    |none=>
      rw[if_neg (by simp),add_sum l (v++ [x]) (k+1) hl' (fun z hz=>?_) (by omega) (by omega),isum_app]
      · omega
      · rcases List.mem_append.1 hz with hz | hz
        · have:=hv z hz; omega
        · rw[List.mem_singleton.1 hz]; omega
    |some p=>
      obtain⟨y,hy,_⟩:=fidx_get hq
      have hyb:=hv y (List.mem_of_getElem? hy)
      have hg:List.getD v p (K_si.mk (⟨#[]⟩:ByteArray) 0)=y:=by rw[List.getD_eq_getElem?_getD,hy]; rfl
      simp only[Int.toNat_natCast,hg]
      have hw:IntKind.wrap .i64 (y.f1+x.f1)=y.f1+x.f1:=wrap64 (by omega)
      rw[if_pos (by simp),hw,add_sum l (v.set p (K_si.mk y.f0 (y.f1+x.f1))) (k+1) hl' (fun z hz=>?_) (by omega) (by omega),isum_set hy]
      · simp only[]; omega
      · rcases List.mem_or_eq_of_mem_set hz with hz | rfl
        · have:=hv z hz; omega
        · simp only[]; omega
theorem parts_bd {a:List K_si} (h:m63 a=true):∀z∈a,0≤z.f1∧z.f1≤1000000:=fun z hz=>by
  obtain⟨j,hj⟩:=List.getElem?_of_mem hz
  have:=parts_ok h hj
  exact⟨this.1,this.2.1⟩
theorem rw_sum {g:K_R} (h:RW g):isum g.f3+g.f2=g.f1:=by
  have b:=parts_bd h.2.2.2.2.2.1
  have b1:=isum_bd b
  have l:=h.2.2.2.2.1
  have b2:=l1in h.2.2.1
  have s:=h.2.2.2.2.2.2
  rw[tot_is b (by omega),wrap64 (by omega)] at s
  exact s
theorem found_ok {a:K_B} {n t:Int} (hc:(m15 a n t).f0=0):Sound a∧∃g:K_R,g.f0=n∧g.f1=t∧g.f4=1∧RW g∧m67 a.f3 n < 0∧a.f3.length≤5∧0≤tsum false a.f3+t∧tsum false a.f3+t≤1000000∧m15 a n t=K_C.mk 0 0 a.f0 a.f1 a.f2 (a.f3++ [g]) a.f4 a.f5 a.f6 a.f7:=by
  unfold m15 at hc⊢
  by_cases h:(m36 a !=0)=true
  · simp only[if_pos h] at hc
    rw[show m36 a=0 from hc] at h; simp at h
  simp only[if_neg h] at hc⊢
  have hs:=sound (a0:=a) (by simpa using h)
  have hr:=ranges_all hs.ranges
  have hw:=rew_all hs.rewards
  have si:=sums_int hs
  refine⟨hs,?_⟩
  unfold m43 at hc⊢
  simp only[cp68,List.length_map] at hc⊢
  by_cases c1:(!(m72 n 0 2147483646))=true
  · simp only[if_pos c1] at hc; simp at hc
  simp only[if_neg c1] at hc⊢
  by_cases c2:(!(m72 t 0 1000000))=true
  · simp only[if_pos c2] at hc; simp at hc
  simp only[if_neg c2] at hc⊢
  by_cases c3:(decide (m67 a.f3 n≥0))=true
  · simp only[if_pos c3] at hc; simp at hc
  simp only[if_neg c3] at hc⊢
  by_cases c4:(decide (((a.f3.length:Nat):Int)≥6))=true
  · simp only[if_pos c4] at hc; simp at hc
  simp only[if_neg c4] at hc⊢
  have q1:m72 n 0 2147483646=true:=by simpa using c1
  have q2:=l1in (show m72 t 0 1000000=true by simpa using c2)
  simp only[decide_eq_true_eq] at c3 c4
  have e5:IntKind.wrap .i64 ((m65 a.f3 false)+t)=tsum false a.f3+t:=by rw[tots_is hw (by omega)]; exact wrap64 (by omega)
  rw[e5] at hc⊢
  by_cases c5:(!(m72 (tsum false a.f3+t) 0 1000000))=true
  · simp only[if_pos c5] at hc; simp at hc
  simp only[if_neg c5] at hc⊢
  have q5:=l1in (show m72 (tsum false a.f3+t) 0 1000000=true by simpa using c5)
  by_cases c6:(decide (((a.f2.length:Nat):Int) > 0))=true
  · simp only[if_pos c6] at hc⊢
    simp only[decide_eq_true_eq] at c6
    have m1:=Int.mul_nonneg q2.1 hr.2.1.1
    have m2:t*a.f1≤t*1000:=Int.mul_le_mul_of_nonneg_left hr.2.1.2 q2.1
    have e6:IntKind.wrap .i64 (Int.tdiv (IntKind.wrap .i64 (t*a.f1)) 1000)=t*a.f1 / 1000:=by
      rw[wrap64 (x:=t*a.f1) (by omega),Int.tdiv_eq_ediv_of_nonneg m1,wrap64 (by omega)]
    rw[e6,wrap64 (x:=t - t*a.f1 / 1000) (by omega)]
    obtain⟨p1,p2,p3⟩:=split_ok (t:=t - t*a.f1 / 1000) hs.window (by omega) (by omega) (by omega)
    have pb:=parts_bd p1
    have p4:=isum_bd pb
    refine⟨_,rfl,rfl,rfl,⟨q1,in_l1 q2.1 q2.2,in_l1 (by simp only[]; omega) (by simp only[]; omega),in_l1 (show (1:Int)≤1 by decide) (show (1:Int)≤3 by decide),by simp only[]; omega,p1,?_⟩,by omega,by omega,q5.1,q5.2,rfl⟩
    simp only[]
    rw[tot_is pb (by omega),p3,wrap64 (by omega)]
    omega
  · simp only[if_neg c6] at hc⊢
    refine⟨_,rfl,rfl,rfl,⟨q1,in_l1 q2.1 q2.2,in_l1 q2.1 q2.2,in_l1 (show (1:Int)≤1 by decide) (show (1:Int)≤3 by decide),by simp,(parts_iff _).2 ⟨fun j s hj=>by simp at hj,fun z hz=>by simp at hz⟩,?_⟩,by omega,by omega,q5.1,q5.2,rfl⟩
    simp only[]
    rw[tot_is (fun z hz=>by simp at hz) (by simp)]
    simp only[isum,Int.zero_add]
    exact wrap64 (by omega)
theorem found_sound {a:K_B} {g:K_R} (hs:Sound a) (hg:RW g) (h4:g.f4=1) (hf:m67 a.f3 g.f0 < 0) (hl:a.f3.length≤5) (h0:0≤tsum false a.f3+g.f1) (h1:tsum false a.f3+g.f1≤1000000):Sound (K_B.mk a.f0 a.f1 a.f2 (a.f3++ [g]) a.f4 a.f5 a.f6 a.f7):=by
  have hrew:=rew_app hs.rewards hf hg
  have hw2:=rew_all hrew
  have si:=sums_int hs
  have hr:=ranges_all hs.ranges
  have b1:=isum_bd (dues_bd hs)
  have l2:=hs.duelen
  have t1:tc true g=0:=by unfold tc; rw[if_pos rfl,if_neg (by rw[h4]; decide)]
  have e1:tsum true (a.f3++ [g])=tsum true a.f3:=by rw[tsum_app,t1]; omega
  have e2:tsum false (a.f3++ [g])=tsum false a.f3+g.f1:=by rw[tsum_app]; rfl
  refine⟨ranges_of hr.1 hr.2.1 hr.2.2.1 hr.2.2.2.1 hr.2.2.2.2,hs.window,hs.winlen,by simp only[List.length_append,List.length_cons,List.length_nil]; omega,hs.duelen,hrew,hs.dues,?_,?_⟩
  · simp only[]
    rw[tot_is (dues_bd hs) (by omega),tots_is hw2 (by simp only[List.length_append,List.length_cons,List.length_nil]; omega),e1,wrap64 (x:=isum a.f4+a.f6) (by omega),wrap64 (by omega),wrap64 (by omega)]
    omega
  · simp only[]
    rw[tots_is hw2 (by simp only[List.length_append,List.length_cons,List.length_nil]; omega),e2]
    exact in_l1 h0 h1
theorem found_again {a:K_B} {g:K_R} {n t:Int} (hs:Sound (K_B.mk a.f0 a.f1 a.f2 (a.f3++ [g]) a.f4 a.f5 a.f6 a.f7)) (hn:g.f0=n) (hg:RW g) (ht:g.f1=t):(m15 (K_B.mk a.f0 a.f1 a.f2 (a.f3++ [g]) a.f4 a.f5 a.f6 a.f7) n t).f0=6:=by
  unfold m15
  rw[if_neg (by rw[fault_of hs]; decide)]
  unfold m43
  simp only[]
  rw[if_neg (by rw[← hn,hg.1]; decide),if_neg (by rw[← ht,hg.2.1]; decide),if_pos ?_]
  rw[findr_eq,fidx_app]
  cases fidx (fun x:K_R=>x.f0==n) a.f3 with
  |some k=>simp
  |none=>simp[fidx,hn]
theorem ripen_ok {a:K_B} {k:Int} (hc:(m18 a k).f0=0):Sound a∧∃p g,fidx (fun y:K_R=>y.f0==k) a.f3=some p∧a.f3[p]?=some g∧g.f4=1∧(addl g.f3 a.f4).length≤8∧m63 (addl g.f3 a.f4)=true∧0≤a.f6+g.f2∧a.f6+g.f2≤1000000∧m18 a k=K_C.mk 0 0 a.f0 a.f1 a.f2 (a.f3.set p (K_R.mk g.f0 g.f1 g.f2 g.f3 2)) (addl g.f3 a.f4) a.f5 (a.f6+g.f2) a.f7:=by
  unfold m18 at hc⊢
  by_cases h:(m36 a !=0)=true
  · simp only[if_pos h] at hc
    rw[show m36 a=0 from hc] at h; simp at h
  simp only[if_neg h] at hc⊢
  have hs:=sound (a0:=a) (by simpa using h)
  have hr:=ranges_all hs.ranges
  refine⟨hs,?_⟩
  unfold m45 at hc⊢
  simp only[cp68] at hc⊢
  rw[findr_eq] at hc⊢
  cases hq:fidx (fun y:K_R=>y.f0==k) a.f3 with
  |none=>rw[hq] at hc; simp at hc
  |some p=>
    rw[hq] at hc
    obtain⟨g,hg,_⟩:=fidx_get2 hq
    have hG:=rew_all hs.rewards g (List.mem_of_getElem? hg)
    simp only[Int.toNat_natCast,getR hg] at hc⊢
    have c1:¬(decide ((p:Int) < 0))=true:=by simp
    simp only[if_neg c1] at hc⊢
    by_cases c2:(g.f4 !=1)=true
    · simp only[if_pos c2] at hc; simp at hc
    simp only[if_neg c2] at hc⊢
    obtain⟨k1,k2⟩:=add_code a.f4 g.f3 hs.dues hG.2.2.2.2.2.1
    by_cases c3:((m73_1 a.f4 g.f3) !=0)=true
    · simp only[if_pos c3] at hc; rw[hc] at c3; simp at c3
    simp only[if_neg c3] at hc⊢
    have c3':m73_1 a.f4 g.f3=0:=by simpa using c3
    rw[k2 c3'] 
    rw[c3'] at k1
    have l8:¬((addl g.f3 a.f4).length:Int) > 8:=fun hh=>by rw[if_pos hh] at k1; cases k1
    rw[if_neg l8] at k1
    have ow:m41 (addl g.f3 a.f4) 8=true:=by
      cases e:m41 (addl g.f3 a.f4) 8 with
      |true=>rfl
      |false=>rw[e] at k1; cases k1
    rw[owed_eq] at ow
    have pf:=(Bool.and_eq_true _ _ ▸ ow:m63 (addl g.f3 a.f4)=true∧_).1
    have gb:=l1in hG.2.2.1
    have e6:IntKind.wrap .i64 (a.f6+g.f2)=a.f6+g.f2:=wrap64 (by omega)
    rw[e6] at hc⊢
    by_cases c5:(!(m72 (a.f6+g.f2) 0 1000000))=true
    · simp only[if_pos c5] at hc; simp at hc
    have q5:=l1in (show m72 (a.f6+g.f2) 0 1000000=true by simpa using c5)
    exact⟨p,g,rfl,hg,by simpa using c2,by omega,pf,q5.1,q5.2,by rw[if_neg c5]⟩
theorem ripen_sound {a:K_B} {p:Nat} {g:K_R} (hs:Sound a) (hg:a.f3[p]?=some g) (h4:g.f4=1) (hl:(addl g.f3 a.f4).length≤8) (hp:m63 (addl g.f3 a.f4)=true) (h0:0≤a.f6+g.f2) (h1:a.f6+g.f2≤1000000):Sound (K_B.mk a.f0 a.f1 a.f2 (a.f3.set p (K_R.mk g.f0 g.f1 g.f2 g.f3 2)) (addl g.f3 a.f4) a.f5 (a.f6+g.f2) a.f7):=by
  have hw:=rew_all hs.rewards
  have hG:=hw g (List.mem_of_getElem? hg)
  have hgb:=rw_bd hG
  have hy:=rw_state hG (s:=2) (by omega) (by omega)
  have hr:=ranges_all hs.ranges
  have hrew:=rew_set hs.rewards hg (y:=K_R.mk g.f0 g.f1 g.f2 g.f3 2) rfl hy
  have hw2:=rew_all hrew
  have si:=sums_int hs
  have b1:=isum_bd (dues_bd hs)
  have l1:=hs.rewlen
  have l2:=hs.duelen
  have l3:=hG.2.2.2.2.1
  have bt:=tsum_bd (b:=true) hw
  have t1:tc true g=0:=by unfold tc; rw[if_pos rfl,if_neg (by rw[h4]; decide)]
  have t2:tc true (K_R.mk g.f0 g.f1 g.f2 g.f3 2)=g.f1:=by unfold tc; rw[if_pos rfl,if_pos (show ((2:Int)==2)=true by decide)]
  have e1:tsum true (a.f3.set p (K_R.mk g.f0 g.f1 g.f2 g.f3 2))=tsum true a.f3+g.f1:=by rw[tsum_set hg,t1,t2]; omega
  have e2:tsum false (a.f3.set p (K_R.mk g.f0 g.f1 g.f2 g.f3 2))=tsum false a.f3:=by rw[tsum_set hg]; show tsum false a.f3 - g.f1+g.f1=_; omega
  have hd:=parts_bd hp
  have hsum:=add_sum g.f3 a.f4 1 (parts_bd hG.2.2.2.2.2.1) (fun z hz=>by have:=dues_bd hs z hz; omega) (by omega) (by omega)
  have rs:=rw_sum hG
  have b4:=isum_bd hd
  refine⟨ranges_of hr.1 hr.2.1 hr.2.2.1 ⟨h0,h1⟩ hr.2.2.2.2,hs.window,hs.winlen,by rw[List.length_set]; exact hs.rewlen,hl,hrew,hp,?_,?_⟩
  · simp only[]
    rw[tot_is hd (by omega),tots_is hw2 (by rw[List.length_set]; omega),e1,hsum,wrap64 (x:=isum a.f4+isum g.f3+(a.f6+g.f2)) (by omega),wrap64 (by omega),wrap64 (by omega)]
    omega
  · simp only[]
    rw[tots_is hw2 (by rw[List.length_set]; omega),e2]
    exact in_l1 si.2.1 si.2.2
theorem ripen_again {x:K_B} {p:Nat} {y:K_R} {k:Int} (hs:Sound x) (hq:fidx (fun y:K_R=>y.f0==k) x.f3=some p) (hg:x.f3[p]?=some y) (hy:y.f4=2):(m18 x k).f0=9:=by
  unfold m18
  rw[if_neg (by rw[fault_of hs]; decide)]
  unfold m45
  rw[findr_eq,hq]
  simp only[Int.toNat_natCast,getR hg,hy]
  rw[if_neg (by simp)]
  rfl
theorem new_sound {a b:Int} (hc:(m12 a b).f0=0):m36 (K_B.mk (m12 a b).f2 (m12 a b).f3 (m12 a b).f4 (m12 a b).f5 (m12 a b).f6 (m12 a b).f7 (m12 a b).f8 (m12 a b).f9)=0:=by
  unfold m12 at hc⊢
  by_cases c:(!(m35 a b))=true
  · simp only[if_pos c] at hc; simp at hc
  simp only[if_neg c]
  have hz:m35 a b=true:=by simpa using c
  unfold m35 at hz
  have d1:m57 a 1 12=true:=by
    by_cases d:m57 a 1 12=true
    · exact d
    · rw[if_neg d] at hz; cases hz
  rw[if_pos d1] at hz
  have r1:=(in_iff _ _ _).1 d1
  have r2:=(in_iff _ _ _).1 hz
  have sn:Sound (K_B.mk a b [] [] [] 0 0 0):=by
    refine⟨ranges_of r1 r2 (by simp) (by simp) (by simp),(f13_iff _).2 ⟨by simp,fun z hz=>by simp at hz⟩,by simp only[List.length_nil]; omega,by simp,by simp,fun j hj=>by simp at hj,(parts_iff _).2 ⟨fun j s hj=>by simp at hj,fun z hz=>by simp at hz⟩,?_,?_⟩
    · simp only[]
      rw[tot_is (fun z hz=>by simp at hz) (by simp),tots_is (fun z hz=>by simp at hz) (by simp)]
      rfl
    · simp only[]
      rw[tots_is (fun z hz=>by simp at hz) (by simp)]
      exact in_l1 (by simp[tsum]) (by simp[tsum])
  exact fault_of sn
theorem rip_val (a0:List Int):∀(l:List K_R) (i v:Int),(∀z∈l,RW z)→0≤v→v+1000000*(l.length:Int)≤9000000000→∃j q,r3_0 a0 l i v=.k0 (v+tsum true l) j q
  |[],i,v,_,_,_=>⟨_,_,by simp only[r3_0,tsum,Int.add_zero]; rfl⟩
  |x::l,i,v,h,h0,hb=>by
    have h1:=tc_bd (b:=true) (h x (List.mem_cons_self ..))
    simp only[List.length_cons] at hb
    obtain⟨j,q,e⟩:=rip_val a0 l (i+1) (v+tc true x) (fun z hz=>h z (List.mem_cons_of_mem _ hz)) (by omega) (by omega)
    refine⟨j,q,?_⟩
    simp only[r3_0,tsum]
    rw[← Int.add_assoc,← e]
    simp only[tc,if_true] at*
    by_cases c:(x.f4==2)=true
    · simp only[if_pos c] at*; rw[wrap64 (by omega)]
    · simp only[if_neg c,Int.add_zero] at*
theorem lose_all (x:K_B) (k:Int):((m13 x k).f0==0)=true∧m36 (K_B.mk (m13 x k).f2 (m13 x k).f3 (m13 x k).f4 (m13 x k).f5 (m13 x k).f6 (m13 x k).f7 (m13 x k).f8 (m13 x k).f9)=0∧decide ((m13 x k).f9 < x.f7)=false∧(m13 (K_B.mk (m13 x k).f2 (m13 x k).f3 (m13 x k).f4 (m13 x k).f5 (m13 x k).f6 (m13 x k).f7 (m13 x k).f8 (m13 x k).f9) k).f0=9∨((m13 x k).f0==0)=false:=by
  by_cases c:((m13 x k).f0==0)=true
  · left
    obtain⟨hs,p,g,hq,hg,n3,h0,h1,he⟩:=lose_ok (show (m13 x k).f0=0 by simpa using c)
    have hs2:=lose_sound hs hg h0 h1
    have tb:=tc_bd (b:=true) (rew_all hs.rewards g (List.mem_of_getElem? hg))
    have ha:=lose_again (k:=k) hs2 (find_set (y:=K_R.mk g.f0 g.f1 g.f2 g.f3 3) hq hg rfl) (at_set hg) rfl
    rw[he]
    exact⟨rfl,fault_of hs2,by simp only[decide_eq_false_iff_not]; omega,ha⟩
  · right; simpa using c
theorem found_all (a:K_B) (n t:Int):((m15 a n t).f0==0)=true∧m36 (K_B.mk (m15 a n t).f2 (m15 a n t).f3 (m15 a n t).f4 (m15 a n t).f5 (m15 a n t).f6 (m15 a n t).f7 (m15 a n t).f8 (m15 a n t).f9)=0∧m16 (K_B.mk (m15 a n t).f2 (m15 a n t).f3 (m15 a n t).f4 (m15 a n t).f5 (m15 a n t).f6 (m15 a n t).f7 (m15 a n t).f8 (m15 a n t).f9)=m16 a∧(m15 (K_B.mk (m15 a n t).f2 (m15 a n t).f3 (m15 a n t).f4 (m15 a n t).f5 (m15 a n t).f6 (m15 a n t).f7 (m15 a n t).f8 (m15 a n t).f9) n t).f0=6∨((m15 a n t).f0==0)=false:=by
  by_cases c:((m15 a n t).f0==0)=true
  · left
    obtain⟨hs,g,hn,ht,h4,hG,hf,hl,h0,h1,he⟩:=found_ok (show (m15 a n t).f0=0 by simpa using c)
    have hs2:=found_sound hs hG h4 (by rw[hn]; exact hf) hl (by rw[ht]; exact h0) (by rw[ht]; exact h1)
    have l2:=hs.duelen
    have ha:=found_again hs2 hn hG ht
    rw[he]
    exact⟨rfl,fault_of hs2,by rw[lw_is (dues_bd hs2) (by simp only[]; omega),lw_is (dues_bd hs) (by omega)],ha⟩
  · right; simpa using c
theorem ripen_all (a0:List Int) (x:K_B) (k:Int):((m18 x k).f0 !=0)=false∧m36 (K_B.mk (m18 x k).f2 (m18 x k).f3 (m18 x k).f4 (m18 x k).f5 (m18 x k).f6 (m18 x k).f7 (m18 x k).f8 (m18 x k).f9)=0∧(∃w j q,r3_0 a0 (m18 x k).f5 0 0=.k0 w j q∧IntKind.wrap .i64 (IntKind.wrap .i64 (m16 (K_B.mk (m18 x k).f2 (m18 x k).f3 (m18 x k).f4 (m18 x k).f5 (m18 x k).f6 (m18 x k).f7 (m18 x k).f8 (m18 x k).f9)+(m18 x k).f8)+(m18 x k).f7)=IntKind.wrap .i64 (w+(m18 x k).f9))∧((m18 x k).f7==x.f5)=true∧((m18 x k).f9==x.f7)=true∧(m18 (K_B.mk (m18 x k).f2 (m18 x k).f3 (m18 x k).f4 (m18 x k).f5 (m18 x k).f6 (m18 x k).f7 (m18 x k).f8 (m18 x k).f9) k).f0=9∨((m18 x k).f0 !=0)=true:=by
  by_cases c:((m18 x k).f0 !=0)=true
  · exact .inr c
  · left
    obtain⟨hs,p,g,hq,hg,h4,hl,hp,h0,h1,he⟩:=ripen_ok (show (m18 x k).f0=0 by simpa using c)
    have hs2:=ripen_sound hs hg h4 hl hp h0 h1
    have ha:=ripen_again (k:=k) hs2 (find_set (y:=K_R.mk g.f0 g.f1 g.f2 g.f3 2) hq hg rfl) (at_set hg) rfl
    have hw:=rew_all hs2.rewards
    have l1:=hs2.rewlen
    have l2:=hs2.duelen
    obtain⟨j,q,er⟩:=rip_val a0 _ 0 0 hw (by omega) (by omega)
    have si:=sums_int hs2
    rw[he]
    refine⟨rfl,fault_of hs2,⟨_,j,q,er,?_⟩,beq_self_eq_true _,beq_self_eq_true _,ha⟩
    have s:=hs2.sums
    rw[tot_is (dues_bd hs2) (by omega),tots_is hw (by omega)] at s
    rw[lw_is (dues_bd hs2) (by omega),Int.zero_add]
    exact s
theorem pure (a0:(List Int)) (w0:wf_LyE a0):m3 a0=true:=by
  unfold m3
  try unfold qP
  try unfold qO
  try unfold qN
  try unfold qM
  try unfold qL
  try unfold qK
  try unfold qJ
  try unfold qI
  try unfold qH
  try unfold qG
  try unfold qB
  try unfold qA
  by_cases hb:m4 a0=true
  · rw[if_pos hb]
  rw[if_neg hb]
  simp only[ripen_eq,lose_eq,found_eq,new_eq,ledger_eq,bne_self_eq_false,if_neg Bool.false_ne_true,eqd20]
  generalize m23 (K_LyEi.mk ((m21 a0).f0) ((o22_0 (m21 a0)).f1)) 6=k
  generalize m22 (m21 a0)=x
  generalize m9_0 a0=f
  generalize m9_1 a0=n
  generalize m9_2 a0=t
  generalize m11_0 a0=a
  generalize m11_1 a0=b
  have hW:((m12 a b).f0==0)=true∧m36 (K_B.mk (m12 a b).f2 (m12 a b).f3 (m12 a b).f4 (m12 a b).f5 (m12 a b).f6 (m12 a b).f7 (m12 a b).f8 (m12 a b).f9)=0∨((m12 a b).f0==0)=false:=by
    by_cases c:((m12 a b).f0==0)=true
    · exact .inl ⟨c,new_sound (by simpa using c)⟩
    · right; simpa using c
  rcases lose_all x k with⟨Z,z1,z2,z3⟩ | Z<;>rcases found_all f n t with⟨G,g1,g2,g3⟩ | G<;>rcases hW with⟨W,w1⟩ | W<;>rcases ripen_all a0 x k with⟨R,r1,⟨w,j,q,r2,r3⟩,r4,r5,r6⟩ | R<;>simp only[*,bne_self_eq_false,beq_self_eq_true,decide_true,if_true,if_neg Bool.false_ne_true]

end Go.Proofs.YtihjlmgakpgkeaaGreatDoor.Ledgers
