/- V: every plain operation does what V says. -/
import Derived.Test.YtmdocdnidilaiaaGreatVOpsI
namespace Go.Proofs.YtmdocdnidilaiaaGreat.V
open Go Frag Go.RowKit
set_option linter.unusedSimpArgs false
def elemOK (P:Program) (t e k:Nat):Bool:=
 match P.underlying t,P.info? e with
 |some (.slice e'),some i=>e'==e && i.size==k
 |_,_=>false
theorem elemOK_ok {P t e k} (h:elemOK P t e k=true):ElemAt P t e k:=by
 unfold elemOK at h
 split at h
 ·rename_i e' i h1 h2
  simp only[Bool.and_eq_true,beq_iff_eq] at h
  obtain⟨rfl,rfl⟩:=h
  exact⟨i,h1,h2,rfl⟩
 ·cases h
def elemSOK (P:Program) (t e k bytes:Nat):Bool:=
 match P.underlying t,P.info? e with
 |some (.slice e'),some i=>e'==e && i.size==k && i.bytes==bytes &&(match i.zero with | some z=>z.cells.size==k | none=>false)
 |_,_=>false
theorem elemSOK_ok {P t e k b} (h:elemSOK P t e k b=true):ElemS P t e k b:=by
 unfold elemSOK at h
 split at h
 ·rename_i e' i h1 h2
  simp only[Bool.and_eq_true,beq_iff_eq] at h
  obtain⟨⟨⟨rfl,rfl⟩,rfl⟩,h4⟩:=h
  split at h4
  ·rename_i z hz
   exact⟨i,z,h1,h2,rfl,rfl,hz,eq_of_beq h4⟩
  ·cases h4
 ·cases h
def elemZOK (P:Program) (t e k bytes:Nat) (zero:List CV):Bool:=
 match P.underlying t,P.info? e with
 |some (.slice e'),some i=>e'==e && i.size==k && i.bytes==bytes &&(match i.zero with | some z=>mZ zero z.cells.toList | none=>false) && zero.length==k
 |_,_=>false
theorem elemZOK_ok {P t e k b zero} (h:elemZOK P t e k b zero=true):ElemZ P t e k b zero:=by
 unfold elemZOK at h
 split at h
 ·rename_i e' i h1 h2
  simp only[Bool.and_eq_true,beq_iff_eq] at h
  obtain⟨⟨⟨⟨rfl,rfl⟩,rfl⟩,h4⟩,h5⟩:=h
  split at h4
  ·rename_i z hz
   exact⟨i,z,h1,h2,rfl,rfl,hz,h4,h5⟩
  ·cases h4
 ·cases h
def sizeOK (P:Program) (t n:Nat):Bool:=
 match P.info? t with
 |some i=>i.size==n
 |none=>false
theorem sizeOK_ok {P t n} (h:sizeOK P t n=true):∃i,P.info? t=some i∧i.size=n:=by
 unfold sizeOK at h
 split at h
 ·rename_i i h1; exact⟨i,h1,eq_of_beq h⟩
 ·cases h
def sizedOK (P:Program) (t:Nat) (agg:Bool) (n:Nat):Bool:=aggT P t==some agg && sizeOK P t n
theorem sizedOK_ok {P t agg n} (h:sizedOK P t agg n=true):Sized P t agg n:=by
 simp only[sizedOK,Bool.and_eq_true,beq_iff_eq] at h
 exact⟨h.1,sizeOK_ok h.2⟩
def fieldOK (P:Program) (t f off n:Nat):Bool:=
 match P.underlying t with
 |some (.struct fs)=>match fs[f]? with
  |some fd=>fd.offset==off && sizeOK P fd.type n && n !=0
  |none=>false
 |_=>false
theorem fieldOK_ok {P t f off n} (h:fieldOK P t f off n=true):FieldAt P t f off n:=by
 unfold fieldOK at h
 split at h
 ·rename_i fs h1
  split at h
  ·rename_i fd h2
   simp only[Bool.and_eq_true,beq_iff_eq,bne_iff_ne] at h
   obtain⟨i,hi,hs⟩:=sizeOK_ok h.1.2
   exact⟨fs,fd,i,h1,h2,h.1.1,hi,hs,h.2⟩
  ·cases h
 ·cases h
def placesOf (P:Program) (t:Nat):Option (Array (Nat × Nat)):=
 match P.underlying t with
 |some (.struct fields)=>match fields.toList.mapM (fun f=>(P.info? f.type).map fun i=>(f.offset,i.size)) with
  |some pl=>some pl.toArray
  |none=>none
 |_=>none
def zeroOK (P:Program) (t:Nat) (zero:List CV):Bool:=
 match P.info? t with
 |some i=>match i.zero with
  |some z=>mZ zero z.cells.toList
  |none=>false
 |none=>false
theorem zeroOK_ok {P t zero} (h:zeroOK P t zero=true):∃i z,P.info? t=some i∧i.zero=some z∧mZ zero z.cells.toList=true:=by
 unfold zeroOK at h
 split at h
 ·split at h
  ·exact⟨_,_,by assumption,by assumption,h⟩
  ·cases h
 ·cases h
theorem structZ_ok {P t places zero} (h1:placesOf P t=some places) (h2:zeroOK P t zero=true):StructZ P t places zero:=by
 obtain⟨i,z,e1,e2,e3⟩:=zeroOK_ok h2
 unfold placesOf at h1
 split at h1
 ·rename_i fields hu
  split at h1
  ·rename_i pl hp
   injection h1 with h1
   exact⟨i,fields,z,pl,e1,hu,e2,hp,h1,e3⟩
  ·cases h1
 ·cases h1
def isStr (P:Program) (t:Nat):Bool:=match P.underlying t with | some .string=>true | _=>false
def isBoolT (P:Program) (t:Nat):Bool:=match P.underlying t with | some .bool=>true | _=>false
def isSl (P:Program) (t:Nat):Bool:=match P.underlying t with | some (.slice _)=>true | _=>false
def isNumT (P:Program) (t:Nat):Bool:=match P.underlying t with | some (.int _)=>true | _=>false
def isInt (P:Program) (t:Nat) (k:IntKind):Bool:=match P.underlying t with | some (.int k')=>k'==k | _=>false
theorem isStr_ok {P t} (h:isStr P t=true):P.underlying t=some .string:=by unfold isStr at h; split at h<;>simp_all
theorem isBoolT_ok {P t} (h:isBoolT P t=true):P.underlying t=some .bool:=by unfold isBoolT at h; split at h<;>simp_all
theorem isSl_ok {P t} (h:isSl P t=true):∃e,P.underlying t=some (.slice e):=by unfold isSl at h; split at h<;>simp_all
theorem isInt_ok {P t k} (h:isInt P t k=true):P.underlying t=some (.int k):=by unfold isInt at h; split at h<;>simp_all
theorem isNumT_ok {P t} (h:isNumT P t=true):∃q,P.underlying t=some (.int q):=by
 unfold isNumT at h
 split at h
 ·exact⟨_,by assumption⟩
 ·cases h
def notNum (P:Program) (t:Nat):Bool:=match P.underlying t with | some (.int _)=>false | some _=>true | none=>false
theorem notNum_ok {P t} (h:notNum P t=true):∃d,P.underlying t=some d∧∀q,d≠.int q:=by
 unfold notNum at h
 split at h
 ·cases h
 ·rename_i d h1 h2
  exact⟨d,h2,fun q e=>h1 q e⟩
 ·cases h
def structEqOK (P:Program) (t:Nat) (ks:List Nat):Bool:=
 match P.underlying t with
 |some (.struct fs)=> !P.stoodInHeld t && !P.eqGuardType P.depth t && eqOK P 0 ks fs.toList
 |_=>false
theorem structEqOK_ok {P t ks} (h:structEqOK P t ks=true):StructEq P t ks:=by
 unfold structEqOK at h
 split at h
 ·rename_i fs h1
  simp only[Bool.and_eq_true,Bool.not_eq_true'] at h
  exact⟨fs,h1,h.1.1,h.1.2,h.2⟩
 ·cases h
def isStore:VOp→Bool
 |.store .. =>true
 |_=>false
def matchOp (P:Program):VOp→Op→Bool
 |.mov x,.move y=>mX x y
 |.asg x,.assign y=>mX x y
 |.asgn x,.assign y=>mX x y
 |.pick c a b,.pick c' a' b'=>mX c c' && mX a a' && mX b b'
 |.bin bl op t x y,.binOp op' t' x' y' _=>op==op' && t==t' && mX x x' && mX y y' &&(!bl || isBoolT P t)
 |.un op x,.unOp op' _ y=>op==op' && mX x y
 |.eqs neg t ks x y,.binOp op t' x' y' _=>op==(if neg then .neq else .eql) && t==t' && mX x x' && mX y y' && structEqOK P t ks
 |.conv s d k x,.convert s' d' y=>s==s' && d==d' &&(P.underlying s).isSome && isInt P d k && mX x y
 |.build t zero parts,.build t' ps=>t==t' && zeroOK P t zero &&(match placesOf P t with | some pl=>mBuild pl parts ps.toList | none=>false)
 |.lit t e k n zero parts,.buildSlice t' n' ps=>t==t' && n==n' &&(match P.info? e with | some i=>elemZOK P t e k i.bytes zero | none=>false) && decide (n*k≤16777216) && mParts parts ps.toList
 |.box t x,.box t' y=>t==t' && mX x y
 |.alloc t zero,.alloc t'=>t==t' && zeroOK P t zero
 |.nilc x,.nilCheck y=>mX x y
 |.fa t f off n x,.fieldAddr t' y f'=>t==t' && f==f' && fieldOK P t f off n && mX x y
 |.ia t e k x i,.indexAddr t' x' i'=>t==t' && elemOK P t e k && mX x x' && mX i i'
 |.load t agg n x,.load t' y=>t==t' && sizedOK P t agg n && mX x y
 |.store t n p x,.store t' p' x'=>t==t' && sizeOK P t n && mX p p' && mX x x'
 |.cut t e k x lo hi,.slice t' x' lo' hi' none=>t==t' &&(match e with | some e=>elemOK P t e k | none=>isStr P t) && mX x x' && mXo lo lo' && mXo hi hi'
 |.appn t e k bytes zero x n,.call ⟨.builtin .append,args,ats⟩=>match args.toList,ats.toList with
  |[x',n'],[t',ty]=>t==t' && elemZOK P t e k bytes zero && isNumT P ty && mX x x' && mX n n'
  |_,_=>false
 |.trunc t e k x hi,.slice t' x' none (some hi') none=>t==t' && elemOK P t e k && mX x x' && mX hi hi'
 |.capn t x,.call ⟨.builtin .cap,args,ats⟩=>match args.toList,ats.toList with
  |[y],[t']=>t==t' && isSl P t && mX x y
  |_,_=>false
 |.mk t e k bytes zero n c,.makeSlice t' n' c'=>t==t' && elemZOK P t e k bytes zero && mX n n' && mX c c'
 |.app t e k bytes x y,.call ⟨.builtin .append,args,ats⟩=>match args.toList,ats.toList with
  |[x',y'],[t',ty]=>t==t' && elemSOK P t e k bytes && decide (1≤bytes) && notNum P ty && mX x x' && mX y y'
  |_,_=>false
 |.len str t x,.call ⟨.builtin .len,args,ats⟩=>match args.toList,ats.toList with
  |[y],[t']=>t==t' &&(if str then isStr P t else isSl P t) && mX x y
  |_,_=>false
 |.ext x i,.extract y j=>i==j && mX x y
 |.fn f first caps,.makeFunc (.func g) first' caps'=>f==g && mXs first first'.toList && mXs caps caps'.toList
 |_,_=>false
theorem arr2 {α:Type} {a:Array α} {x y:α} (h:a.toList=[x,y]):a=#[x,y]:=by
 apply Array.toList_inj.1; simpa using h
theorem arr1 {α:Type} {a:Array α} {x:α} (h:a.toList=[x]):a=#[x]:=by
 apply Array.toList_inj.1; simpa using h
section
variable {P:Program} {S:Nat→SV} {ρ:Operand→Value} {H:Nat→Frag} {O:Id→OS} {hv:Id→Value} {G:Id→Frag} {w:World} {dst:Option Tmp} {type:TypeId} {pos:String} {af:Array Edge} {gd:Option (Nat × Bool)}
theorem mXs_rels (hS:∀x y,mX x y=true→SVRel ⟨H,O,hv,G⟩ (evx S x) (ρ y)):∀ {xs:List VX} {ys:List Operand},mXs xs ys=true→SVRels ⟨H,O,hv,G⟩ (xs.map (evx S)) (ys.map ρ)
 |[],[],_=>by simp[SVRels]
 |[],_::_,h=>by simp[mXs] at h
 |_::_,[],h=>by simp[mXs] at h
 |x::xs,y::ys,h=>by
  simp only[mXs,Bool.and_eq_true] at h
  simp only[List.map_cons,SVRels]
  exact⟨_,_,rfl,hS _ _ h.1,mXs_rels hS h.2⟩
theorem eff_pure {e:Eff} {sv:SV} (h:okE sv=some e):e.sv=sv∧e.objs=[]:=by
 simp only[okE,Option.some.injEq] at h; subst h; exact⟨rfl,rfl⟩
theorem step_sound0 {v:VOp} {o:Op} {e:Eff} (hnb:∀t x,v≠.box t x) (M:ObjsOK H O hv G w) (hS:∀x y,mX x y=true→SVRel ⟨H,O,hv,G⟩ (evx S x) (ρ y)) (hm:matchOp P v o=true) (hd:isStore v=dst.isNone)
  (he:pstep S O (dst.getD 0) v=some e) (hr:e.req):Does P ρ ⟨dst,o,type,pos,af,gd⟩ H O hv G w e.sv e.objs:=by
 have pu:∀ {sv:SV},okE sv=some e→Yields_ P ρ ⟨dst,o,type,pos,af,gd⟩ w ⟨H,O,hv,G⟩ sv→Does P ρ ⟨dst,o,type,pos,af,gd⟩ H O hv G w e.sv e.objs:=by
  intro sv h hy
  obtain⟨e1,e2⟩:=eff_pure h
  rw[e1,e2]; exact hy.does M
 have pe:(Yields_ P ρ ⟨dst,o,type,pos,af,gd⟩ w ⟨H,O,hv,G⟩ e.sv∧e.objs=[])→Does P ρ ⟨dst,o,type,pos,af,gd⟩ H O hv G w e.sv e.objs:=by
  intro ⟨h1,h2⟩
  rw[h2]; exact h1.does M
 cases v with
 |mov x=>
  cases o<;>simp only[matchOp,Bool.false_eq_true] at hm
  have hx:=hS _ _ hm
  simp only[pstep] at he
  split at he
  ·cases he
  ·exact pu he (y_mov hx)
 |asg x=>
  cases o<;>simp only[matchOp,Bool.false_eq_true] at hm
  have hx:=hS _ _ hm
  simp only[pstep] at he
  split at he
  ·rename_i n
   split at he
   ·cases he
   ·cases dst with
    |none=>simp[isStore] at hd
    |some d=>exact d_asg M hx he
  ·rename_i v
   split at he
   ·rename_i hf
    simp only[evx,hf,if_true] at hx
    exact pu he (y_asg hx)
   ·cases he
  ·exact pu he (y_asg hx)
  ·exact pu he (y_asg hx)
 |asgn x=>
  cases o<;>simp only[matchOp,Bool.false_eq_true] at hm
  have hx:=hS _ _ hm
  simp only[pstep] at he
  split at he
  ·rename_i cs hs
   rw[hs] at hx
   split at he<;>try cases he
   rename_i h1
   split at he<;>try cases he
   rename_i h2
   cases dst with
   |none=>simp[isStore] at hd
   |some d=>exact d_asgn M hx h1 h2
  ·rename_i c hs
   rw[hs] at hx
   split at he<;>try cases he
   rename_i h1
   split at he<;>try cases he
   rename_i h2
   cases dst with
   |none=>simp[isStore] at hd
   |some d=>exact d_asgn1 M hx h1 h2
  ·cases he
 |pick c a b=>
  cases o<;>simp only[matchOp,Bool.false_eq_true,Bool.and_eq_true] at hm
  rename_i c' a' b'
  obtain⟨⟨h1,h2⟩,h3⟩:=hm
  simp only[pstep] at he
  split at he
  ·rename_i bb hc
   have hcr:=hS _ _ h1
   rw[hc] at hcr
   have hx:SVRel ⟨H,O,hv,G⟩ (evx S (if bb then a else b)) (if bb then ρ a' else ρ b'):=by
    cases bb
    ·exact hS _ _ h3
    ·exact hS _ _ h2
   split at he
   ·cases he
   ·exact pu he (y_pick hcr hx)
  ·cases he
 |bin bl op t x y=>
  cases o<;>simp only[matchOp,Bool.false_eq_true,Bool.and_eq_true,beq_iff_eq] at hm
  obtain⟨⟨⟨⟨rfl,rfl⟩,h1⟩,h2⟩,h3⟩:=hm
  have hx:=hS _ _ h1
  have hy:=hS _ _ h2
  simp only[pstep] at he
  unfold binE at he
  split at he
  ·rename_i k a k' b e1 e2
   rw[e1,one_val] at hx
   rw[e2,one_val] at hy
   split at he
   ·exact pe (y_shift hx.1 hy.1 he hr)
   ·split at he
    ·rename_i hk; subst hk
     exact pe (y_int hx.1 hy.1 he hr)
    ·cases he
  ·rename_i a b e1 e2
   rw[e1,one_val] at hx
   rw[e2,one_val] at hy
   split at he
   ·rename_i hb
    subst hb
    simp only[Bool.not_true,Bool.false_or] at h3
    exact pe (y_bool (isBoolT_ok h3) hx.1 hy.1 he)
   ·cases he
  ·rename_i a b e1 e2
   rw[e1,one_val] at hx
   rw[e2,one_val] at hy
   exact pe (y_str hx.1 hy.1 he hr)
  ·cases he
 |un op x=>
  cases o<;>simp only[matchOp,Bool.false_eq_true,Bool.and_eq_true,beq_iff_eq] at hm
  obtain⟨rfl,h1⟩:=hm
  exact pe (y_un (hS _ _ h1) he)
 |eqs neg t ks x y=>
  cases o<;>simp only[matchOp,Bool.false_eq_true,Bool.and_eq_true,beq_iff_eq] at hm
  obtain⟨⟨⟨⟨rfl,rfl⟩,h1⟩,h2⟩,h3⟩:=hm
  have hx:=hS _ _ h1
  have hy:=hS _ _ h2
  simp only[pstep] at he
  split at he
  ·rename_i xs ys e1 e2
   rw[e1] at hx
   rw[e2] at hy
   split at he
   ·exact pu he (y_eqs (structEqOK_ok h3) hx hy (by assumption))
   ·cases he
  ·cases he
 |conv sT dT k x=>
  cases o<;>simp only[matchOp,Bool.false_eq_true,Bool.and_eq_true,beq_iff_eq] at hm
  obtain⟨⟨⟨⟨rfl,rfl⟩,h1⟩,h2⟩,h3⟩:=hm
  have hx:=hS _ _ h3
  obtain⟨sd,hsd⟩:=Option.isSome_iff_exists.1 h1
  simp only[pstep] at he
  split at he
  ·rename_i k' n e1
   rw[e1,one_val] at hx
   exact pu he (y_conv hsd (isInt_ok h2) hx.1)
  ·cases he
 |build t zero parts=>
  cases o<;>simp only[matchOp,Bool.false_eq_true,Bool.and_eq_true,beq_iff_eq] at hm
  obtain⟨⟨rfl,h1⟩,h2⟩:=hm
  split at h2
  ·rename_i pl hpl
   simp only[pstep] at he
   split at he
   ·exact pu he (y_build hS (structZ_ok hpl h1) h2 (by assumption))
   ·cases he
  ·cases h2
 |lit t el k n zero parts=>
  cases o<;>simp only[matchOp,Bool.false_eq_true,Bool.and_eq_true,beq_iff_eq,decide_eq_true_eq] at hm
  obtain⟨⟨⟨⟨rfl,rfl⟩,h1⟩,h2⟩,h3⟩:=hm
  split at h1
  ·rename_i i hi
   cases dst with
   |none=>simp[isStore] at hd
   |some d=>
    simp only[pstep] at he
    split at he
    ·rename_i rows T hl
     split at he
     ·exact d_lit M (elemZOK_ok h1) hS h3 h2 hl he
     ·cases he
    ·cases he
  ·cases h1
 |box t x=>
  exact absurd rfl (hnb t x)
 |alloc t zero=>
  cases o<;>simp only[matchOp,Bool.false_eq_true,Bool.and_eq_true,beq_iff_eq] at hm
  obtain⟨rfl,h1⟩:=hm
  obtain⟨i,z,g1,g2,g3⟩:=zeroOK_ok h1
  cases dst with
  |none=>simp[isStore] at hd
  |some d=>
   simp only[pstep] at he
   exact d_alloc M g1 g2 g3 he
 |nilc x=>
  cases o<;>simp only[matchOp,Bool.false_eq_true] at hm
  have hx:=hS _ _ hm
  simp only[pstep] at he
  split at he
  ·rename_i p e1; rw[e1] at hx; exact pu he (y_nilc hx (.inl ⟨_,rfl⟩))
  ·rename_i p cs e1; rw[e1] at hx; exact pu he (y_nilc hx (.inr (.inl ⟨_,_,rfl⟩)))
  ·rename_i f a b e1; rw[e1] at hx; exact pu he (y_nilc hx (.inr (.inr ⟨_,_,_,rfl⟩)))
  ·cases he
 |fa t f off n x=>
  cases o<;>simp only[matchOp,Bool.false_eq_true,Bool.and_eq_true,beq_iff_eq] at hm
  obtain⟨⟨⟨rfl,rfl⟩,h1⟩,h2⟩:=hm
  have hx:=hS _ _ h2
  simp only[pstep] at he
  split at he
  ·rename_i p e1
   rw[e1] at hx
   split at he
   ·exact pu he (y_fa_ptr (fieldOK_ok h1) hx (by assumption))
   ·cases he
  ·rename_i l cs e1
   rw[e1] at hx
   split at he
   ·exact pu he (y_fa_bptr (fieldOK_ok h1) hx (by assumption))
   ·cases he
  ·cases he
 |ia t el k x i=>
  cases o<;>simp only[matchOp,Bool.false_eq_true,Bool.and_eq_true,beq_iff_eq] at hm
  obtain⟨⟨⟨rfl,h1⟩,h2⟩,h3⟩:=hm
  have hx:=hS _ _ h2
  have hi:=hS _ _ h3
  simp only[pstep] at he
  split at he
  ·rename_i r kd n e1 e2
   rw[e1] at hx
   rw[e2,one_val] at hi
   split at he
   ·rename_i ob k' rows hra
    simp only[Option.some.injEq] at he; subst he
    exact(y_ia_ref (elemOK_ok h1) hx hi.1 hra hr.2.2 hr.1 hr.2.1).does M
   ·cases he
  ·rename_i l rows kd n e1 e2
   rw[e1] at hx
   rw[e2,one_val] at hi
   simp only[Option.some.injEq] at he; subst he
   exact(y_ia_bor (elemOK_ok h1) hx hi.1 hr.1 hr.2.1 hr.2.2).does M
  ·cases he
 |load t agg n x=>
  cases o<;>simp only[matchOp,Bool.false_eq_true,Bool.and_eq_true,beq_iff_eq] at hm
  obtain⟨⟨rfl,h1⟩,h2⟩:=hm
  have hx:=hS _ _ h2
  simp only[pstep] at he
  split at he
  ·rename_i p e1
   rw[e1] at hx
   split at he
   ·rename_i hpn
    split at he
    ·rename_i o' k rows row hra
     split at he
     ·rename_i cs hcs
      split at he
      ·rename_i v hv'
       simp only[Option.some.injEq] at he; subst he
       exact(y_load_ptr M (sizedOK_ok h1) hx hpn hra hcs hv').does M
      ·cases he
     ·cases he
    ·cases he
   ·cases he
  ·rename_i l cs e1
   rw[e1] at hx
   split at he
   ·split at he
    ·exact pu he (y_load_bptr M (sizedOK_ok h1) hx (by assumption) (by assumption))
    ·cases he
   ·cases he
  ·cases he
 |store t n p x=>
  cases o<;>simp only[matchOp,Bool.false_eq_true,Bool.and_eq_true,beq_iff_eq] at hm
  obtain⟨⟨⟨rfl,h1⟩,h2⟩,h3⟩:=hm
  have hp:=hS _ _ h2
  have hx:=hS _ _ h3
  obtain⟨i,hi,hn⟩:=sizeOK_ok h1
  simp only[pstep] at he
  split at he
  ·rename_i pp cs e1 e2
   rw[e1] at hp
   split at he
   ·rename_i hc
    split at he
    ·rename_i ds T ht
     split at he
     ·rename_i o' k rows row hra
      simp only[Option.some.injEq] at he; subst he
      cases dst with
      |some d=>simp[isStore] at hd
      |none=>exact d_store M hi hn hp hx e2 hc.1 hc.2 ht hra
     ·cases he
    ·cases he
   ·cases he
  ·cases he
 |cut t e k x lo hi=>
  cases o with
  |slice t' x' lo' hi' mx'=>
   cases mx' with
   |some _=>simp[matchOp] at hm
   |none=>
    simp only[matchOp,Bool.and_eq_true,beq_iff_eq] at hm
    obtain⟨⟨⟨⟨rfl,h1⟩,h2⟩,h3⟩,h4⟩:=hm
    have hx:=hS _ _ h2
    simp only[pstep] at he
    split at he
    ·rename_i st e1
     rw[e1] at hx
     split at he
     ·rename_i l h hl hh
      split at he
      ·rename_i hn
       simp only[Option.some.injEq] at he; subst he
       cases e with
       |some _=>simp at hn
       |none=>exact(y_cut_str (isStr_ok h1) (strV_rel.1 hx) (lowE_bnd hl h3 hS) (lowE_bnd hh h4 hS) hr.1 hr.2.1 hr.2.2).does M
      ·cases he
     ·cases he
    ·rename_i q e1
     rw[e1] at hx
     split at he
     ·rename_i l h hl hh
      split at he
      ·rename_i hn
       simp only[Option.some.injEq] at he; subst he
       cases e with
       |none=>simp at hn
       |some el=>exact(y_cut_nl (elemOK_ok h1) hx (lowE_bnd hl h3 hS) (lowE_bnd hh h4 hS) hr.1 hr.2.1 hr.2.2).does M
      ·cases he
     ·cases he
    ·rename_i m rows e1
     rw[e1] at hx
     split at he
     ·rename_i l h hl hh
      split at he
      ·rename_i hn
       simp only[Option.some.injEq] at he; subst he
       cases e with
       |none=>simp at hn
       |some el=>exact(y_cut_bor (elemOK_ok h1) hx (lowE_bnd hl h3 hS) (lowE_bnd hh h4 hS) hr.1.1 hr.1.2.1 hr.1.2.2 hr.2).does M
      ·cases he
     ·cases he
    ·rename_i r e1
     rw[e1] at hx
     split at he
     ·rename_i l h hl hh
      split at he
      ·rename_i ob k' rows hra
       split at he
       ·rename_i hn
        simp only[Option.some.injEq] at he; subst he
        cases e with
        |none=>simp at hn
        |some el=>exact(y_cut_ref (elemOK_ok h1) hx (lowE_bnd hl h3 hS) (lowE_bnd hh h4 hS) hr.1.1 hr.1.2.1 hr.1.2.2 hra hr.2).does M
       ·cases he
      ·cases he
     ·cases he
    ·cases he
  |_=>simp[matchOp] at hm
 |mk t el k bytes zero n c=>
  cases o<;>simp only[matchOp,Bool.false_eq_true,Bool.and_eq_true,beq_iff_eq] at hm
  obtain⟨⟨⟨rfl,h1⟩,h2⟩,h3⟩:=hm
  have hn:=hS _ _ h2
  have hc:=hS _ _ h3
  cases dst with
  |none=>simp[isStore] at hd
  |some d=>
   simp only[pstep] at he
   split at he
   ·rename_i k1 nn k2 cc e1 e2
    rw[e1,one_val] at hn
    rw[e2,one_val] at hc
    split at he
    ·have hr':0≤nn∧nn≤cc∧cc≤140737488355328∧cc*bytes≤140737488355328:=by
      unfold made at he
      split at he
      ·injection he with he; rw[← he] at hr; exact hr
      ·cases he
     exact d_mk M (elemZOK_ok h1) hn.1 hc.1 hr'.1 hr'.2.1 hr'.2.2.1 hr'.2.2.2 he
    ·cases he
   ·cases he
 |app t el k bytes x y=>
  cases o with
  |call c=>
   obtain⟨cal,args,ats⟩:=c
   cases cal with
   |builtin b=>
    cases b<;>simp only[matchOp,Bool.false_eq_true] at hm
    split at hm
    ·rename_i x' y' t' ty ea et
     simp only[Bool.and_eq_true,beq_iff_eq,decide_eq_true_eq] at hm
     obtain⟨⟨⟨⟨⟨rfl,h1⟩,h2⟩,h3⟩,h4⟩,h5⟩:=hm
     obtain⟨td,hty,htd⟩:=notNum_ok h3
     have:=arr2 ea; subst this
     have:=arr2 et; subst this
     have hx:=hS _ _ h4
     have hy:=hS _ _ h5
     have reqs:∀ {T:List (Id × OS)} {ob:VObj} {sv:Id→SV} {q:Prop} {rd:List Id} {d:Nat},made O T d ob sv q rd=some e→q:=by
      intro T ob sv q rd d h
      unfold made at h
      split at h
      ·injection h with h; rw[← h] at hr; exact hr
      ·cases h
     cases dst with
     |none=>simp[isStore] at hd
     |some d=>
      simp only[pstep] at he
      split at he
      ·rename_i q e1
       rw[e1] at hx
       split at he
       ·rename_i new rd T hsrc
        have hq:=reqs he
        have S0:=Held.start M
        obtain⟨G1,gy,vs,g,r1,r2,r3,r4,r5,r6⟩:=source_rel (P:=P) (k:=k) M S0 hy hsrc hq.2
        simp only[SVRel,CVRel] at hx
        have hox:ORep H (.own k []) (ρ x') emp:=by simp only[ORep]; exact .inl ⟨trivial,hx,trivial⟩
        exact d_app (rowsx:=[]) (elemSOK_ok h1) h2 hty htd S0 hox (sub_refl _) r1 r2 r3 r4 hq.2 r5 r6 (by simpa using hq.1) (by simpa using he)
       ·cases he
      ·rename_i r e1
       rw[e1] at hx
       simp only[SVRel] at hx
       split at he
       ·rename_i ob hlook
        split at he
        ·rename_i k' rows hnav
         split at he
         ·rename_i hle
          split at he
          ·rename_i new rd T hsrc
           have hq:=reqs he
           obtain⟨hq1,rfl,hq3⟩:=hq
           obtain⟨G0,gx,ox,dx,S0⟩:=(Held.start M).takeV hx (by rw[ov_nil]; exact hlook) hnav hle
           rw[emp_un] at S0
           obtain⟨G1,gy,vs,g,r1,r2,r3,r4,r5,r6⟩:=source_rel (P:=P) (k:=k') M S0 hy hsrc hq3
           exact d_app (elemSOK_ok h1) h2 hty htd S0 ox (sub_refl _) r1 r2 r3 r4 hq3 r5 r6 hq1 he
          ·cases he
         ·cases he
        ·cases he
       ·cases he
      ·cases he
    ·cases hm
   |_=>simp[matchOp] at hm
  |_=>simp[matchOp] at hm
 |capn t x=>
  cases o with
  |call c=>
   obtain⟨cal,args,ats⟩:=c
   cases cal with
   |builtin b=>
    cases b<;>simp only[matchOp,Bool.false_eq_true] at hm
    split at hm
    ·rename_i y t' ea et
     simp only[Bool.and_eq_true,beq_iff_eq] at hm
     obtain⟨⟨rfl,h1⟩,h2⟩:=hm
     have:=arr1 ea; subst this
     have:=arr1 et; subst this
     have hx:=hS _ _ h2
     simp only[pstep] at he
     obtain⟨el,ht⟩:=isSl_ok h1
     split at he
     ·rename_i q e1
      rw[e1] at hx
      simp only[SVRel,CVRel] at hx
      obtain⟨a,ev⟩:=hx
      exact pu he (y_capn ht ev)
     ·cases he
    ·cases hm
   |_=>simp[matchOp] at hm
  |_=>simp[matchOp] at hm
 |appn t el k bytes zero x n=>
  cases o with
  |call c=>
   obtain⟨cal,args,ats⟩:=c
   cases cal with
   |builtin b=>
    cases b<;>simp only[matchOp,Bool.false_eq_true] at hm
    split at hm
    ·rename_i x' y' t' ty ea et
     simp only[Bool.and_eq_true,beq_iff_eq] at hm
     obtain⟨⟨⟨⟨rfl,h1⟩,h2⟩,h3⟩,h4⟩:=hm
     obtain⟨q0,hty⟩:=isNumT_ok h2
     have:=arr2 ea; subst this
     have:=arr2 et; subst this
     have hx:=hS _ _ h3
     have hn:=hS _ _ h4
     have reqs:∀ {T:List (Id × OS)} {ob:VObj} {sv:Id→SV} {q:Prop} {rd:List Id} {d:Nat},made O T d ob sv q rd=some e→q:=by
      intro T ob sv q rd d h
      unfold made at h
      split at h
      ·injection h with h; rw[← h] at hr; exact hr
      ·cases h
     cases dst with
     |none=>simp[isStore] at hd
     |some d=>
      simp only[pstep] at he
      split at he
      ·rename_i q k1 nn e1 e2
       rw[e1] at hx
       rw[e2,one_val] at hn
       simp only[SVRel,CVRel] at hx
       split at he
       ·have hr':=reqs he
        have S0:=Held.start M
        have hox:ORep H (.own k []) (ρ x') emp:=by simp only[ORep]; exact .inl ⟨trivial,hx,trivial⟩
        refine d_appn (rowsx:=[]) (elemZOK_ok h1) hty S0 hox (sub_refl _) hn.1 (by omega) ?_ ?_ (by simpa using he)
        ·simp only[List.nil_append,List.length_replicate]; omega
        ·simp only[List.nil_append,List.length_replicate]
         have e3:((nn.toNat*bytes:Nat):Int)=nn*bytes:=by rw[Int.natCast_mul,Int.toNat_of_nonneg (by omega)]
         omega
       ·cases he
      ·rename_i r k1 nn e1 e2
       rw[e1] at hx
       rw[e2,one_val] at hn
       simp only[SVRel] at hx
       split at he
       ·rename_i ob hlook
        split at he
        ·rename_i k' rows hnav
         split at he
         ·rename_i hle
          obtain⟨⟨hq0,hq1,hq2⟩,rfl⟩:=reqs he
          obtain⟨G0,gx,ox,dx,S0⟩:=(Held.start M).takeV hx (by rw[ov_nil]; exact hlook) hnav hle.2
          rw[emp_un] at S0
          exact d_appn (elemZOK_ok h1) hty S0 ox (sub_refl _) hn.1 hq0 hq1 hq2 he
         ·cases he
        ·cases he
       ·cases he
      ·cases he
    ·cases hm
   |_=>simp[matchOp] at hm
  |_=>simp[matchOp] at hm
 |trunc t el k x hi=>
  cases o with
  |slice t' x' lo' hi' mx'=>
   cases lo' with
   |some _=>simp[matchOp] at hm
   |none=>
    cases hi' with
    |none=>simp[matchOp] at hm
    |some hi'=>
     cases mx' with
     |some _=>simp[matchOp] at hm
     |none=>
      simp only[matchOp,Bool.and_eq_true,beq_iff_eq] at hm
      obtain⟨⟨⟨rfl,h1⟩,h2⟩,h3⟩:=hm
      have hx:=hS _ _ h2
      have hh:=hS _ _ h3
      cases dst with
      |none=>simp[isStore] at hd
      |some d=>
       simp only[pstep] at he
       split at he
       ·rename_i r q n e1 e2
        rw[e1] at hx
        rw[e2,one_val] at hh
        split at he
        ·rename_i ob hlook
         split at he
         ·rename_i k' rows hnav
          split at he
          ·rename_i hle
           have hq:(0≤n∧n≤r.n)∧k'=k:=by
            unfold made at he
            split at he
            ·injection he with he; rw[← he] at hr; exact hr
            ·cases he
           obtain⟨hq1,rfl⟩:=hq
           exact d_trunc M (elemOK_ok h1) hx hh.1 hlook hnav hle hq1.1 hq1.2 he
          ·cases he
         ·cases he
        ·cases he
       ·cases he
  |_=>simp[matchOp] at hm
 |len str t x=>
  cases o with
  |call c=>
   obtain⟨cal,args,ats⟩:=c
   cases cal with
   |builtin b=>
    cases b<;>simp only[matchOp,Bool.false_eq_true] at hm
    split at hm
    ·rename_i y t' ea et
     simp only[Bool.and_eq_true,beq_iff_eq] at hm
     obtain⟨⟨rfl,h1⟩,h2⟩:=hm
     have:=arr1 ea; subst this
     have:=arr1 et; subst this
     have hx:=hS _ _ h2
     simp only[pstep] at he
     split at he
     ·rename_i hs
      subst hs
      split at he
      ·rename_i st e1
       rw[e1] at hx
       exact pu he (y_len_str (isStr_ok h1) (strV_rel.1 hx))
      ·cases he
     ·rename_i hs
      rw[if_neg hs] at h1
      obtain⟨el,ht⟩:=isSl_ok h1
      split at he
      ·rename_i q e1
       rw[e1] at hx
       simp only[SVRel,CVRel] at hx
       obtain⟨a,ev⟩:=hx
       exact pu he (y_len (n:=0) ht ev)
      ·rename_i l rows e1
       rw[e1] at hx
       simp only[SVRel,CVRel,BRep] at hx
       rcases hx with⟨rfl,a,c,ev⟩ |⟨b,off,cap,k',arr,t',fz,ev,_⟩
       ·exact pu he (y_len ht ev)
       ·exact pu he (y_len ht ev)
      ·rename_i r e1
       rw[e1] at hx
       simp only[SVRel,CVRel] at hx
       obtain⟨⟨a,c,ev⟩,_⟩:=hx
       exact pu he (y_len ht ev)
      ·cases he
    ·cases hm
   |_=>simp[matchOp] at hm
  |_=>simp[matchOp] at hm
 |ext x i=>
  cases o<;>simp only[matchOp,Bool.false_eq_true,Bool.and_eq_true,beq_iff_eq] at hm
  obtain⟨rfl,h1⟩:=hm
  have hx:=hS _ _ h1
  simp only[pstep] at he
  split at he
  ·rename_i vs e1
   rw[e1] at hx
   split at he
   ·exact pu he (y_ext hx (by assumption))
   ·cases he
  ·cases he
 |fn f first caps=>
  cases o with
  |makeFunc g first' caps'=>
   cases g<;>simp only[matchOp,Bool.false_eq_true,Bool.and_eq_true,beq_iff_eq] at hm
   obtain⟨⟨rfl,h1⟩,h2⟩:=hm
   simp only[pstep] at he
   exact pu he (y_fn (by rw[Array.toList_map]; exact mXs_rels hS h1) (by rw[Array.toList_map]; exact mXs_rels hS h2))
  |_=>simp[matchOp] at hm
 |call f args=>cases o<;>simp[matchOp] at hm
 |callv x args=>cases o<;>simp[matchOp] at hm
theorem okE_nomove {sv:SV} {e:Eff} (h:okE sv=some e):NoMove e.objs:=by
 simp only[okE,Option.some.injEq] at h; subst h; exact NoMove.nil
theorem made_nomove {O:Id→OS} {T:List (Id × OS)} {dst:Nat} {o sv req rd e} (h:made O T dst o sv req rd=some e) (hT:NoMove T):NoMove e.objs:=by
 unfold made at h
 split at h
 ·simp only[Option.some.injEq] at h; subst h; exact hT.cons (by simp)
 ·cases h
theorem litR_nomove {S:Nat→SV} {O:Id→OS} {k:Nat}:∀ {l:List (Nat × VX)} {T T':List (Id × OS)} {rows rows'},litR S O k T rows l=some (rows',T')→NoMove T→NoMove T'
 |[],T,T',rows,rows',h,hT=>by simp only[litR,Option.some.injEq,Prod.mk.injEq] at h; rw[← h.2]; exact hT
 |(i,x)::l,T,T',rows,rows',h,hT=>by
  simp only[litR] at h
  split at h<;>try cases h
  split at h<;>try cases h
  rename_i h1
  split at h<;>try cases h
  exact litR_nomove h (takeCs_nomove h1 hT)
theorem source_nomove {O:Id→OS} {T T':List (Id × OS)} {v:SV} {rows rd} (h:source O T v=some (rows,rd,T')) (hT:NoMove T):NoMove T':=by
 unfold source at h
 split at h
 ·simp only[Option.some.injEq,Prod.mk.injEq] at h; rw[← h.2.2]; exact hT
 ·simp only[Option.some.injEq,Prod.mk.injEq] at h; rw[← h.2.2]; exact hT
 ·simp only[Option.some.injEq,Prod.mk.injEq] at h; rw[← h.2.2]; exact hT
 ·split at h<;>try cases h
  split at h
  ·simp only[Option.some.injEq,Prod.mk.injEq] at h; rw[← h.2.2]; exact hT
  ·split at h<;>try cases h
   rename_i h1
   exact takeR_nomove h1 hT
 ·cases h
theorem asgCell_nomove {O:Id→OS} {T:List (Id × OS)} {t dst:Nat} {c:CV} (hT:NoMove T):NoMove (asgCell O T t dst c).2:=by
 cases c with
 |ref r=>
  simp only[asgCell]
  split
  ·split
   ·exact(hT.cons (by simp)).cons (by simp)
   ·exact hT
  ·exact hT
 |_=>exact hT
theorem asgCells_nomove {O:Id→OS} {t dst:Nat}:∀ {cs:List CV} {T:List (Id × OS)},NoMove T→NoMove (asgCells O t dst T cs).2
 |[],T,hT=>hT
 |c::cs,T,hT=>by
  show NoMove (asgCells O t dst (asgCell O T t dst c).2 cs).2
  exact asgCells_nomove (asgCell_nomove hT)
theorem asgE_nomove {O:Id→OS} {t dst:Nat} {v:SV} {e} (h:asgE O dst t v=some e):NoMove e.objs:=by
 cases v with
 |one c=>simp only[asgE,Option.some.injEq] at h; subst h; exact asgCell_nomove NoMove.nil
 |agg cs=>simp only[asgE,Option.some.injEq] at h; subst h; exact asgCells_nomove NoMove.nil
 |ptr p=>
  simp only[asgE] at h
  split at h
  ·split at h<;>try cases h
   exact(NoMove.nil.cons (by simp)).cons (by simp)
  ·exact okE_nomove h
 |dead=>simp[asgE] at h
 |bptr l cs=>exact okE_nomove h
 |tup vs=>exact okE_nomove h
 |clo f a b=>exact okE_nomove h
theorem importC_nomove {O:Id→OS} {dst c:Nat} {T T':List (Id × OS)} {d:D} {v is} (h:importC O dst c T d=some (v,T',is)) (hT:NoMove T):NoMove T':=by
 cases d<;>simp only[importC,Option.some.injEq,Prod.mk.injEq,reduceCtorEq] at h
 case own k rows=>
  split at h<;>try cases h
  exact hT.cons (by simp)
 all_goals (obtain⟨_,rfl,_⟩:=h; exact hT)
theorem importCs_nomove {O:Id→OS} {dst:Nat}:∀ {l:List D} {c:Nat} {T T':List (Id × OS)} {v is},importCs O dst c T l=some (v,T',is)→NoMove T→NoMove T'
 |[],_,_,_,_,_,h,hT=>by simp only[importCs,Option.some.injEq,Prod.mk.injEq] at h; rw[← h.2.1]; exact hT
 |d::l,c,T,T',v,is,h,hT=>by
  simp only[importCs] at h
  split at h<;>try cases h
  rename_i h1
  split at h<;>try cases h
  rename_i h2
  exact importCs_nomove h2 (importC_nomove h1 hT)
theorem pstep_nomove {S:Nat→SV} {O:Id→OS} {d:Nat} {v:VOp} {e:Eff} (hnb:∀t x,v≠.box t x) (h:pstep S O d v=some e):NoMove e.objs:=by
 cases v<;>simp only[pstep] at h
 case box t x=>exact absurd rfl (hnb t x)
 case asgn x=>
  split at h
  ·split at h<;>try cases h
   rename_i h1
   split at h<;>try cases h
   rename_i h2
   exact importCs_nomove h2 (takeCs_nomove h1 NoMove.nil)
  ·split at h<;>try cases h
   rename_i h1
   split at h<;>try cases h
   rename_i h2
   exact importCs_nomove h2 (takeCs_nomove h1 NoMove.nil)
  ·cases h
 case asg x=>
  cases x with
  |t n=>
   simp only[] at h
   split at h
   ·cases h
   ·exact asgE_nomove h
  |c v=>
   simp only[] at h
   split at h
   ·exact okE_nomove h
   ·cases h
  |n k=>exact okE_nomove h
  |f f=>exact okE_nomove h
 case bin b op t x y=>
  unfold binE at h
  split at h
  ·split at h
   ·unfold shiftE at h
    split at h<;>first |(injection h with h; subst h; exact NoMove.nil) | cases h
   ·split at h
    ·unfold intE at h
     split at h<;>first | exact okE_nomove h |(injection h with h; subst h; exact NoMove.nil) | cases h
    ·cases h
  ·split at h
   ·split at h<;>first | exact okE_nomove h | cases h
   ·cases h
  ·unfold strE at h
   split at h<;>first | exact okE_nomove h |(injection h with h; subst h; exact NoMove.nil) | cases h
  ·cases h
 case un=>
  unfold unE at h
  split at h
  ·split at h<;>first | exact okE_nomove h | cases h
  ·split at h<;>first | exact okE_nomove h | cases h
  ·cases h
 case lit=>
  split at h<;>try cases h
  rename_i h1
  split at h<;>try cases h
  exact made_nomove h (litR_nomove h1 NoMove.nil)
 case store=>
  split at h<;>try cases h
  split at h<;>try cases h
  split at h<;>try cases h
  rename_i h1
  split at h<;>try cases h
  exact(takeCs_nomove h1 NoMove.nil).cons (by simp)
 case trunc=>
  split at h<;>try cases h
  split at h<;>try cases h
  split at h<;>try cases h
  split at h<;>try cases h
  exact made_nomove h (NoMove.nil.cons (hollow_nomove _ _))
 case appn=>
  split at h
  ·split at h<;>try cases h
   exact made_nomove h NoMove.nil
  ·split at h<;>try cases h
   split at h<;>try cases h
   split at h<;>try cases h
   exact made_nomove h (NoMove.nil.cons (hollow_nomove _ _))
  ·cases h
 case app=>
  split at h
  ·split at h<;>try cases h
   rename_i h1
   exact made_nomove h (source_nomove h1 NoMove.nil)
  ·split at h<;>try cases h
   split at h<;>try cases h
   split at h<;>try cases h
   split at h<;>try cases h
   rename_i h1
   exact made_nomove h (source_nomove h1 (NoMove.nil.cons (hollow_nomove _ _)))
  ·cases h
 all_goals
  first
   |exact okE_nomove h
   |exact made_nomove h NoMove.nil
   |(repeat' split at h)<;>first | exact okE_nomove h | exact made_nomove h NoMove.nil |(injection h with h; subst h; exact NoMove.nil) |(cases h; done) |(simp at h; done)
theorem step_sound {v:VOp} {o:Op} {e:Eff} (M:ObjsOK H O hv G w) (hS:∀x y,mX x y=true→SVRel ⟨H,O,hv,G⟩ (evx S x) (ρ y)) (hm:matchOp P v o=true) (hd:isStore v=dst.isNone)
  (he:pstep S O (dst.getD 0) v=some e) (hr:e.req):∃n u w' hv' G',(execOp ρ ⟨dst,o,type,pos,af,gd⟩).run P w=.ok n w'∧(n=.value u∨n=.skip∧u=undef)∧Done H O hv G w dst e.sv e.objs u w' hv' G'∧
   ∀a j p,ov O e.objs a=.moved j p→O a=.moved j p∨MovedAt ⟨H,ov O e.objs,hv',G'⟩ j p (hv a):=by
 by_cases hb:∃t x,v=.box t x
 ·obtain⟨t,x,rfl⟩:=hb
  cases o<;>simp only[matchOp,Bool.false_eq_true,Bool.and_eq_true,beq_iff_eq] at hm
  obtain⟨rfl,h1⟩:=hm
  cases dst with
  |none=>simp[isStore] at hd
  |some d=>
   simp only[pstep] at he
   split at he<;>try cases he
   rename_i cs hcs
   split at he<;>try cases he
   rename_i ds T ht
   split at he<;>try cases he
   rename_i e0 he0
   exact d_boxm M (hS _ _ h1) hcs ht he0
 ·have hnb:∀t x,v≠.box t x:=fun t x e=>hb ⟨t,x,e⟩
  obtain⟨n,u,w',hv',G',h1,h2,h3⟩:=step_sound0 (P:=P) (dst:=dst) (type:=type) (pos:=pos) (af:=af) (gd:=gd) hnb M hS hm hd he hr
  exact⟨n,u,w',hv',G',h1,h2,h3,fun a j p h=>.inl ((pstep_nomove hnb he).old h)⟩
end
end Go.Proofs.YtmdocdnidilaiaaGreat.V
