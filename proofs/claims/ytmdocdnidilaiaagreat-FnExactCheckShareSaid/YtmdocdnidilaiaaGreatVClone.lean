/- V: slices.Clone, which asks whether a slice is nil: V's data do not say that, so both ways are walked. -/
import Derived.Test.YtmdocdnidilaiaaGreatVPathC
import Derived.Test.YtmdocdnidilaiaaGreatVCode
namespace Go.Proofs.YtmdocdnidilaiaaGreat.V
open Go Frag Go.RowKit
def ckA (k:Nat):VC:=.region false [0,2] [⟨some 2,.asg (.n k),none,[]⟩]
def ckB:VO:=⟨some 3,.mov (.t 0),none,[]⟩
def ckC (k:Nat):VC:=.cond (.t 4) (.seq (.region false [2] [⟨some 2,.asg (.n k),none,[]⟩]) .ret) .skip
def ckD (T E k kb:Nat) (zero:List CV):VC:=.seq (.region false [2] [⟨some 5,.lit T E k 0 zero [],none,[]⟩,⟨some 6,.mov (.t 0),none,[]⟩,⟨some 7,.app T E k kb (.t 5) (.t 6),none,[]⟩,⟨some 2,.asg (.t 7),none,[]⟩]) .ret
def isNilQ (P:Program) (o:Oper):Bool:=
 match o with
 |⟨some 4,.binOp .eql t (.tmp 3) (.const (.slice none 0 0)) _,_,_,_,none⟩=>match P.underlying t with
  |some (.slice _)=>true
  |_=>false
 |_=>false
def matchClone (P:Program) (f:FuncId) (T E k kb:Nat) (zero:List CV):Bool:=
 match P.funcs[f]? with
 |some g=>match g.body with
  | some (.seq a (.seq (.seq (.region _ ops false) d) e)) => !(g.name == "runtime.NumGoroutine") && decide (8 ≤ g.ntmps) && matchCode P g.ntmps [] (ckA k) a && (match ops.toList with
    |[o1,o2]=>matchOper P g.ntmps [] ops ckB o1 && isNilQ P o2
    |_=>false) && matchCode P g.ntmps [] (ckC k) d && matchCode P g.ntmps [] (ckD T E k kb zero) e && mRets P [⟨2,none⟩] g.results.toList
  |_=>false
 |none=>false
theorem equal_nil {P:Program} {t e:TypeId} {w:World} {a:Option Addr} {n c:Nat} (h:P.underlying t=some (.slice e)):(Op.equal t (.slice a n c) (.slice none 0 0)).run P w=.ok a.isNone w:=by
 unfold Op.equal
 rw[show Op.maxDepth=9999+1 from rfl]
 unfold Op.equalIn
 rw[run_bind,run_underlying h]
 cases a<;>rfl
theorem nilq_runs {P:Program} {ρ:Operand→Value} {t e ty:TypeId} {w:World} {a:Option Addr} {n c:Nat} (h:P.underlying t=some (.slice e)) (hx:ρ (.tmp 3)=.slice a n c) (hz:ρ (.const (.slice none 0 0))=.slice none 0 0) {d pos ty2 af gd}:
  (execOp ρ ⟨d,.binOp .eql t (.tmp 3) (.const (.slice none 0 0)) ty,ty2,pos,af,gd⟩).run P w=.ok (.value (.bool a.isNone)) w:=by
 simp only[execOp,eqGuard,binOp,run_bind,hx,hz]
 simp[equal_nil h]
def ckS0 (k l:Nat) (rows:List (List B)):St:=⟨[(0,.one (.bor l rows)),(2,.one (.nl k))],[]⟩
def ckS1 (k l:Nat) (rows:List (List B)) (b:Bool):St:=⟨[(0,.one (.bor l rows)),(2,.one (.nl k)),(3,.one (.bor l rows)),(4,.one (.val (.bool b)))],[]⟩
def ckS2 (k:Nat):St:=⟨[(2,.one (.nl k))],[]⟩
def ckS3 (k l:Nat) (rows:List (List B)):St:=⟨[(2,.one (.ref ⟨(2,0,0),[],0,(fromBR l rows).length⟩))],[((2,0,0),.live ⟨k,fromBR l rows,[]⟩)]⟩
section
variable {F:FuncId→Option VFun} {X:Ext}
theorem ckA_ev (k l:Nat) (rows:List (List B)):Ev F X (.code (ckA k) (enter [.one (.bor l rows)] []) .normal (ckS0 k l rows)):=
 codeH_ok (t:=0) (hs:=[]) (t':=2) (hs':=[]) (q:=[]) (by rfl) trivial
theorem ckC_t (k l:Nat) (rows:List (List B)):Ev F X (.code (ckC k) (ckS1 k l rows true) .ret (ckS2 k)):=
 .cond (t:=true) rfl (codeH_ok (t:=0) (hs:=[]) (t':=2) (hs':=[]) (q:=[]) (by rfl) trivial)
theorem ckC_f (k l:Nat) (rows:List (List B)):Ev F X (.code (ckC k) (ckS1 k l rows false) .normal (ckS1 k l rows false)):=
 .cond (t:=false) rfl .skip
end
def CkD (F:FuncId→Option VFun) (X:Ext) (T E k kb:Nat) (zero:List CV):Prop:=∀(l:Nat) (rows:List (List B)),(fromBR l rows).length*kb≤70368744177664→(∀r∈fromBR l rows,r.length=k)→
  Ev F X (.code (ckD T E k kb zero) (ckS1 k l rows false) .ret (ckS3 k l rows))
def CloneX (k kb:Nat) (args:List SV) (rs:List Ret):Prop:=∃l rows,args=[.one (.bor l rows)]∧rs=[.one (.own k (fromBR l rows))]∧(fromBR l rows).length*kb≤70368744177664∧(∀r∈fromBR l rows,r.length=k)∧pureR (fromBR l rows)=true
theorem bor_slice {hp:Frag} {rows:List (List B)} {v:Value} (h:BRep hp (.sl rows) v):∃a n c,v=.slice a n c∧(a.isNone=true→rows=[]):=by
 simp only[BRep] at h
 rcases h with⟨rfl,a,c,rfl⟩ |⟨b,off,cap,k,arr,t,fz,rfl,_⟩
 ·exact⟨_,_,_,rfl,fun _=>rfl⟩
 ·exact⟨_,_,_,rfl,fun h=>by cases h⟩
open Classical in
theorem clone_ok {P:Program} {F:FuncId→Option VFun} {X:Ext} (hm:P.follows .mixedOrders=true) (hF:∀f fn,F f=some fn→matchFun P f fn=true) (hX:∀f args objs rs,X f args objs rs→CallOK P f args objs [] [] rs)
  {f T E k kb:Nat} {zero:List CV} (hc:matchClone P f T E k kb zero=true) (hD:CkD F X T E k kb zero) {args:List SV} {rs:List Ret} (h:CloneX k kb args rs):CallOK P f args [] [] [] rs:=by
 obtain⟨l,rows,rfl,rfl,q1,q2,q3⟩:=h
 intro H hc' Gc w vals hobjs hargs
 unfold matchClone at hc
 split at hc<;>try cases hc
 rename_i g hg
 split at hc<;>try cases hc
 rename_i cA id ops cC cE hbody
 simp only[Bool.and_eq_true,Bool.not_eq_true',decide_eq_true_eq] at hc
 obtain⟨⟨⟨⟨⟨⟨hname,hnt⟩,hA⟩,hB⟩,hC⟩,hE⟩,hrets⟩:=hc
 split at hB<;>try cases hB
 rename_i o1 o2 hops
 simp only[Bool.and_eq_true] at hB
 obtain⟨hB1,hB2⟩:=hB
 unfold isNilQ at hB2
 split at hB2<;>try cases hB2
 rename_i t ty ty2 pos af
 split at hB2<;>try cases hB2
 rename_i e hu
 let K:Nat→Nat→Option Value:=fun _ _=>none
 have hK:∀i,i∉([]:List Nat)→∀c,K i c=none:=fun _ _ _=>rfl
 have hv0:=hargs
 simp only[SVRels] at hv0
 obtain⟨v,vs,hvals,hv1,rfl⟩:=hv0
 have hsl:BRep (H l) (.sl rows) v:=hv1
 obtain⟨a0,n0,c0,rfl,hnil⟩:=bor_slice hsl
 have R0:Rel H w K (enter [.one (.bor l rows)] []) {tmps:=vals++Array.replicate (g.ntmps - vals.size) undef,defers:=[]} w hc' Gc:=by
  refine⟨fun i=>?_,hobjs,rfl,Below.refl _ _,fun s c v hk=>by cases hk⟩
  rcases enterS_at hargs (j:=0) i with h6 |⟨_,v,h6,h7⟩
  ·show SVRel _ (getA SV.dead (enterS 0 _) i) _
   rw[h6]; simp only[SVRel]
  ·have hi:i < vals.size:=by
    have:=(List.getElem?_eq_some_iff.1 h6).1
    simpa using this
   have:(vals++Array.replicate (g.ntmps - vals.size) undef).getD i undef=v:=by
    rw[Array.getD_eq_getD_getElem?,Array.getElem?_append_left hi]
    simp only[Nat.sub_zero,Array.getElem?_toList] at h6
    rw[h6]; rfl
   show SVRel _ (getA SV.dead (enterS 0 _) i) _
   rw[this]; exact h7
 let Q:Go.Exit→Act→World→Prop:=fun ex a' w''=>(ex=.normal∨ex=.ret)∧a'.defers=[]∧∃u,(results g a'.tmps).run P w''=.ok u w''∧Ans H hc' [] [] [.one (.own k (fromBR l rows))] w w'' u
 have hfin:∀(b:Bool),(b=true→rows=[])→∀(a:Act) (w':World) (hv:Id→Value) (G:Id→Frag),Rel H w K (ckS1 k l rows b) a w' hv G→g.ntmps≤a.tmps.size→
   cC.wp P (Exit.then (cE.wp P Q) Q) a w':=by
  intro b hb a w' hv G R hN
  cases b with
  |true=>
   have hrows:=hb rfl
   refine wp_mono (sound hm hF hX (ckC_t k l rows) g.ntmps [] cC hC H w K hK a w' hv G R hN).1 fun ex a' w'' ⟨he,_,hv',G',R'⟩=>?_
   subst he
   obtain⟨u,h1,h2⟩:=leave_ans (P:=P) R' hrets (objs:=[]) (fn:=⟨.skip,[.lend],[⟨2,none⟩]⟩) (hc:=hc') (outs:=[]) (rets:=[.one (.own k (fromBR l rows))]) (fun x hx=>by cases hx) (by subst hrows; rfl)
   exact⟨.inr rfl,R'.defers,u,h1,h2⟩
  |false=>
   refine wp_mono (sound hm hF hX (ckC_f k l rows) g.ntmps [] cC hC H w K hK a w' hv G R hN).1 fun ex a' w'' ⟨he,hN',hv',G',R'⟩=>?_
   subst he
   refine wp_mono (sound hm hF hX (hD l rows q1 q2) g.ntmps [] cE hE H w K hK a' w'' hv' G' R' hN').1 fun ex a2 w2 ⟨he,_,hv2,G2,R2⟩=>?_
   subst he
   obtain ⟨u, h1, h2⟩ := leave_ans (P := P) R2 hrets (objs := []) (fn := ⟨.skip, [.lend], [⟨2, none⟩]⟩) (hc := hc') (outs := []) (rets := [.one (.own k (fromBR l rows))]) (fun x hx => by cases hx) (by
    exact leaveH_ok (ps:=[]) (q:=[0=0,(fromBR l rows).length=(fromBR l rows).length,pureR (fromBR l rows)=true]) rfl ⟨rfl,rfl,q3,trivial⟩)
   exact⟨.inr rfl,R2.defers,u,h1,h2⟩
 refine .inl ⟨⟨g,_,hg,hbody,hname⟩,calls_of_wp hg hbody (wp_mono (Q:=Q) ?_ fun ex a' w'' ⟨he,hd,u,h1,h2⟩=>?_)⟩
 ·refine wp_seq (wp_mono (sound hm hF hX (ckA_ev k l rows) g.ntmps [] cA hA H w K hK _ w hc' Gc R0 (by simp; omega)).1 fun ex a' w'' ⟨he,hN',hv',G',R'⟩=>?_)
  subst he
  refine wp_seq (wp_seq ?_)
  refine wp_region_list ?_
  rw[hops]
  refine wpList_step fun next hnext=>?_
  refine op_runs (F:=F) R' hN' (.op rfl rfl trivial) hB1 hK fun a1 w1 hv1 G1 hs1 R1=>hnext _ _ ?_
  refine wpList_step fun next2 hnext2=>?_
  rw[if_pos (by unfold Region.wanted; rfl)]
  have h3:BRep (H l) (.sl rows) (a1.tmps.getD 3 undef):=R1.slots 3
  obtain⟨a3,n3,c3,e3,hnil3⟩:=bor_slice h3
  have hrun:=nilq_runs (P:=P) (ρ:=a1.eval) (w:=w1) (ty:=ty) (d:=some 4) (pos:=pos) (ty2:=ty2) (af:=af) (gd:=none) hu (show a1.eval (.tmp 3)=_ from e3) rfl
  unfold Oper.wp
  rw[hrun]
  have R1':Rel H w K ⟨[(0,.one (.bor l rows)),(2,.one (.nl k)),(3,.one (.bor l rows))],[]⟩ a1 w1 hv1 G1:=R1
  have R2:Rel H w K (ckS1 k l rows a3.isNone) (a1.put (some 4) (.bool a3.isNone)) w1 hv1 G1:=R1'.value (d:=some 4) (v:=.bool a3.isNone) (sv:=.one (.val (.bool a3.isNone))) (by simp only[SVRel,CVRel]; simp[flat]) (fun i hi=>by cases hi; rw[hs1]; omega)
  refine hnext2 _ _ (wpList_nil ?_)
  exact hfin a3.isNone hnil3 _ _ hv1 G1 R2 (by simp[Act.put]; omega)
 ·rcases he with rfl | rfl
  ·exact⟨hd,u,h1,u,rfl,h2⟩
  ·exact⟨hd,u,h1,u,rfl,h2⟩
end Go.Proofs.YtmdocdnidilaiaaGreat.V
