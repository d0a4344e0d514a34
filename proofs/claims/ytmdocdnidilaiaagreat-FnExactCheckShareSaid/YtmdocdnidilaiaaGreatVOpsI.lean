/- V: structs built of parts, structs compared, strings out of bytes, lengths, least and most. -/
import Derived.Test.YtmdocdnidilaiaaGreatVOpsH
import Derived.Test.YtmdocdnidilaiaaGreatVHand
import Derived.Laws.Tables
import Derived.Laws.StructEq
import Derived.Laws.BytesString
namespace Go.Proofs.YtmdocdnidilaiaaGreat.V
open Go Frag Go.RowKit
set_option linter.unusedSimpArgs false
section
variable {P:Program} {X:Ctx} {ρ:Operand→Value} {w:World} {dst:Option Tmp} {type:TypeId} {pos:String} {af:Array Edge} {gd:Option (Nat × Bool)}
theorem CVRels.splice {cs new:List CV} {vs us:List Value} (h:CVRels X cs vs) (h':CVRels X new us) (off:Nat):CVRels X (V.splice cs off new) (vs.take off++us++vs.drop (off+us.length)):=by
 unfold V.splice
 rw[h'.length]
 exact((h.take off).append h').append (h.drop _)
def mBuild (places:Array (Nat × Nat)):List (Nat × Nat × Nat × VX)→List (Nat × Operand)→Bool
 |[],[]=>true
 |(f,off,n,x)::l,(g,y)::m=>f==g && places[f]?==some (off,n) && mX x y && mBuild places l m
 |_,_=>false
theorem build_rel {S:Nat→SV} {places:Array (Nat × Nat)} (hS:∀x y,mX x y=true→SVRel X (evx S x) (ρ y)):∀ {parts:List (Nat × Nat × Nat × VX)} {ps:List (Nat × Operand)} {cs cs':List CV} {vs:List Value},
  mBuild places parts ps=true→CVRels X cs vs→buildC S cs parts=some cs'→∃vs',CVRels X cs' vs'∧Instr.fill (places[·]?) vs.toArray (ps.map fun(i,y)=>(i,ρ y))=some vs'.toArray
 |[],[],cs,cs',vs,_,h,e=>by
  simp only[buildC,Option.some.injEq] at e; subst e
  exact⟨vs,h,rfl⟩
 |[],_::_,_,_,_,hm,_,_=>by simp[mBuild] at hm
 |_::_,[],_,_,_,hm,_,_=>by simp[mBuild] at hm
 |(f,off,n,x)::parts,(g,y)::ps,cs,cs',vs,hm,h,e=>by
  simp only[mBuild,Bool.and_eq_true] at hm
  obtain⟨⟨⟨h1,h2⟩,h3⟩,h4⟩:=hm
  have:=eq_of_beq h1; subst this
  have hpl:places[f]?=some (off,n):=eq_of_beq h2
  simp only[buildC] at e
  split at e
  ·rename_i new hnew
   split at e
   ·rename_i hc
    obtain⟨us,ev,hu⟩:=(hS _ _ h3).cells hnew
    have hul:us.length=n:=by rw[hu.length]; exact hc.1
    obtain⟨vs',r1,r2⟩:=build_rel hS h4 (h.splice hu off) e
    refine⟨vs',r1,?_⟩
    simp only[List.map_cons]
    rw[fill_cons (us:=us) (off:=off) (by rw[hul]; exact hpl) ev (by simp[h.length]; omega)]
    exact r2
   ·cases e
  ·cases e
structure StructZ (P:Program) (t:TypeId) (places:Array (Nat × Nat)) (zero:List CV):Prop where
 h:∃it fields z pl,P.info? t=some it∧P.underlying t=some (.struct fields)∧it.zero=some z∧fields.toList.mapM (fun f=>(P.info? f.type).map fun i=>(f.offset,i.size))=some pl∧pl.toArray=places∧mZ zero z.cells.toList=true
theorem y_build {S:Nat→SV} {t:TypeId} {places:Array (Nat × Nat)} {zero cs:List CV} {parts:List (Nat × Nat × Nat × VX)} {ps:Array (Nat × Operand)} (hS:∀x y,mX x y=true→SVRel X (evx S x) (ρ y)) (hZ:StructZ P t places zero)
  (hm:mBuild places parts ps.toList=true) (e:buildC S zero parts=some cs):Yields_ P ρ ⟨dst,.build t ps,type,pos,af,gd⟩ w X (.agg cs):=by
 obtain⟨it,fields,z,pl,h1,h2,h3,h4,rfl,h5⟩:=hZ.h
 obtain⟨vs,r1,r2⟩:=build_rel hS hm (mZ_rels h5) e
 refine⟨.agg vs.toArray,?_,by simp only[SVRel]; exact⟨vs,rfl,r1⟩⟩
 simp only[execOp]
 refine run_v ?_
 refine run_build w t _ _ ?_
 simp only[Program.built,h1,h2,h3,h4]
 rw[Array.toList_map]
 simpa using r2
def eqOK (P:Program):Nat→List Nat→List Field→Bool
 |_,[],[]=>true
 |j,k::ks,f::l=>f.offset==j && f.name != "_" &&(match k,P.underlying f.type with | 0,some .bool=>true | 1,some (.int _)=>true | 2,some .string=>true | _,_=>false) && eqOK P (j+1) ks l
 |_,_,_=>false
theorem eqCells_cons {ks:List Nat} {k:Nat} {x y:CV} {xs ys:List CV} {r:Bool} (h:eqCells (k::ks) (x::xs) (y::ys)=some r):
  (∃q a b r',k=1∧x=.val (.int q a)∧y=.val (.int q b)∧eqCells ks xs ys=some r'∧(a==b && r')=r)∨(∃a b r',k=0∧x=.val (.bool a)∧y=.val (.bool b)∧eqCells ks xs ys=some r'∧(a==b && r')=r)∨
  (∃a b r',k=2∧x=.val (.string a)∧y=.val (.string b)∧eqCells ks xs ys=some r'∧(a.toList==b.toList && r')=r):=by
 unfold eqCells at h
 split at h
 ·simp at*
 ·rename_i e1 e2 e3
  cases e1; cases e2; cases e3
  split at h
  ·rename_i e; subst e
   simp only[Option.map_eq_some_iff] at h
   obtain⟨r',h1,h2⟩:=h
   exact .inl ⟨_,_,_,r',rfl,rfl,rfl,h1,h2⟩
  ·cases h
 ·rename_i e1 e2 e3
  cases e1; cases e2; cases e3
  simp only[Option.map_eq_some_iff] at h
  obtain⟨r',h1,h2⟩:=h
  exact .inr (.inl ⟨_,_,r',rfl,rfl,rfl,h1,h2⟩)
 ·rename_i e1 e2 e3
  cases e1; cases e2; cases e3
  simp only[Option.map_eq_some_iff] at h
  obtain⟨r',h1,h2⟩:=h
  exact .inr (.inr ⟨_,_,r',rfl,rfl,rfl,h1,h2⟩)
 ·cases h
theorem run_eqFields {d:Nat}:∀ {fs:List Field} {ks:List Nat} {j:Nat} {xs ys:List CV} {us vs:List Value} {u0 v0:List Value} {r:Bool},eqOK P j ks fs=true→u0.length=j→v0.length=j→CVRels X xs us→CVRels X ys vs→eqCells ks xs ys=some r→
  (Op.eqFields (d+1) (u0++us).toArray (v0++vs).toArray fs).run P w=.ok r w
 |[],[],j,xs,ys,us,vs,u0,v0,r,_,_,_,_,_,e=>by
  cases xs<;>cases ys<;>simp[eqCells] at e
  subst e; rfl
 |[],_::_,_,_,_,_,_,_,_,_,h,_,_,_,_,_=>by simp[eqOK] at h
 |_::_,[],_,_,_,_,_,_,_,_,h,_,_,_,_,_=>by simp[eqOK] at h
 |f::fs,k::ks,j,xs,ys,us,vs,u0,v0,r,hok,hu0,hv0,hx,hy,e=>by
  simp only[eqOK,Bool.and_eq_true] at hok
  obtain⟨⟨⟨h1,h2⟩,h3⟩,h4⟩:=hok
  have hoff:f.offset=j:=eq_of_beq h1
  have hname:f.name≠ "_":=by simpa using h2
  cases xs with
  |nil=>cases ys<;>simp[eqCells] at e
  |cons x xs=>
   cases ys with
   |nil=>simp[eqCells] at e
   |cons y ys=>
    simp only[CVRels] at hx hy
    obtain⟨u,us,rfl,hu,hx⟩:=hx
    obtain⟨v,vs,rfl,hv,hy⟩:=hy
    have ih:∀r',eqCells ks xs ys=some r'→(Op.eqFields (d+1) (u0++u::us).toArray (v0++v::vs).toArray fs).run P w=.ok r' w:=fun r' e'=>by
     have:=run_eqFields (d:=d) (u0:=u0++ [u]) (v0:=v0++ [v]) h4 (by simp[hu0]) (by simp[hv0]) hx hy e'
     simpa using this
    have ha:aggT P f.type=some false:=by
     unfold aggT
     cases hq:P.underlying f.type with
     |none=>simp[hq] at h3
     |some q=>rw[hq] at h3; cases q<;>simp_all
    have hpart:∀ {ws w0:List Value} {u:Value},w0.length=j→(part f.type (w0++u::ws).toArray f.offset).run P w=.ok u w:=by
     intro ws w0 u hl
     simp only[part,run_bind,run_isAgg ha,Bool.false_eq_true,if_false]
     rw[hoff,← hl]
     simp[run_pure]
    have fin:∀(b:Bool) (r':Bool),(Op.equalIn (d+1) f.type u v).run P w=.ok b w→eqCells ks xs ys=some r'→(b && r')=r→(Op.eqFields (d+1) (u0++u::us).toArray (v0++v::vs).toArray (f::fs)).run P w=.ok r w:=by
     intro b r' hb hr' hbr
     simp only[Op.eqFields,if_pos hname,run_bind,hpart hu0,hpart hv0,hb]
     cases b with
     |false=>simp only[Bool.not_false,if_true,run_pure]; simp at hbr; rw[hbr]
     |true=>simp only[Bool.not_true,Bool.false_eq_true,if_false]; simp at hbr; subst hbr; exact ih _ hr'
    rcases eqCells_cons e with⟨q,a,b,r',rfl,rfl,rfl,e1,e2⟩ |⟨a,b,r',rfl,rfl,rfl,e1,e2⟩ |⟨a,b,r',rfl,rfl,rfl,e1,e2⟩
    ·obtain⟨rfl,_⟩:=hu
     obtain⟨rfl,_⟩:=hv
     cases hq:P.underlying f.type with
     |none=>simp[hq] at h3
     |some qd=>
      rw[hq] at h3
      cases qd<;>simp at h3
      exact fin _ r' (run_eq_int d hq) e1 e2
    ·obtain⟨rfl,_⟩:=hu
     obtain⟨rfl,_⟩:=hv
     cases hq:P.underlying f.type with
     |none=>simp[hq] at h3
     |some qd=>
      rw[hq] at h3
      cases qd<;>simp at h3
      exact fin _ r' (run_eq_bool d hq) e1 e2
    ·obtain⟨rfl,_⟩:=hu
     obtain⟨rfl,_⟩:=hv
     cases hq:P.underlying f.type with
     |none=>simp[hq] at h3
     |some qd=>
      rw[hq] at h3
      cases qd<;>simp at h3
      exact fin _ r' (by rw[run_eq_str d hq,beq_toListBytes]) e1 e2
structure StructEq (P:Program) (t:TypeId) (ks:List Nat):Prop where
 h:∃fs,P.underlying t=some (.struct fs)∧P.stoodInHeld t=false∧P.eqGuardType P.depth t=false∧eqOK P 0 ks fs.toList=true
theorem y_eqs {neg:Bool} {t ty:TypeId} {ks:List Nat} {x y:Operand} {xs ys:List CV} {r:Bool} (hE:StructEq P t ks) (hx:SVRel X (.agg xs) (ρ x)) (hy:SVRel X (.agg ys) (ρ y)) (e:eqCells ks xs ys=some r):
  Yields_ P ρ ⟨dst,.binOp (if neg then .neq else .eql) t x y ty,type,pos,af,gd⟩ w X (boolV (if neg then !r else r)):=by
 obtain⟨fs,h1,h2,h3,h4⟩:=hE.h
 simp only[SVRel] at hx hy
 obtain⟨us,eu,hu⟩:=hx
 obtain⟨vs,ev,hv⟩:=hy
 have hfs:P.fieldsOf t=fs:=by simp[Program.fieldsOf,h1]
 have heq:(Op.equalIn 10000 t (.agg us.toArray) (.agg vs.toArray)).run P w=.ok r w:=by
  rw[run_equalIn_struct w 9999 t _ _ (by rw[hfs]; exact h1) h2,hfs]
  have:=run_eqFields (d:=9998) (w:=w) (u0:=[]) (v0:=[]) h4 rfl rfl hu hv e
  simpa using this
 refine⟨_,?_,boolV_rel.2 rfl⟩
 simp only[execOp,eu,ev]
 refine run_v ?_
 rw[run_bind]
 cases neg with
 |false=>
  simp only[Bool.false_eq_true,if_false]
  rw[run_eqGuard_agg w .eql t x y _ _ h3]
  simp only[]
  rw[run_eql_struct,heq]; rfl
 |true=>
  simp only[if_true]
  rw[run_eqGuard_agg w .neq t x y _ _ h3]
  simp only[]
  rw[run_neq_struct,heq]; rfl
theorem y_len {t:TypeId} {el:TypeId} {x:Operand} {a:Option Addr} {n c:Nat} (ht:P.underlying t=some (.slice el)) (hx:ρ x=.slice a n c):
  Yields_ P ρ ⟨dst,.call ⟨.builtin .len,#[x],#[t]⟩,type,pos,af,gd⟩ w X (intV .i64 n):=by
 refine⟨_,?_,intV_rel.2 rfl⟩
 have hm:(#[x].map ρ)=#[ρ x]:=by simp
 simp only[execOp,resolve,invoke,run_bind,run_pure,hm]
 exact len_run ht hx
theorem y_capn {t:TypeId} {el:TypeId} {x:Operand} {a:Option Addr} {n:Nat} (ht:P.underlying t=some (.slice el)) (hx:ρ x=.slice a n 0):
  Yields_ P ρ ⟨dst,.call ⟨.builtin .cap,#[x],#[t]⟩,type,pos,af,gd⟩ w X (intV .i64 0):=by
 refine⟨_,?_,intV_rel.2 rfl⟩
 have hm:(#[x].map ρ)=#[ρ x]:=by simp
 simp only[execOp,resolve,invoke,run_bind,run_pure,hm]
 simp only[builtin,hx]
 refine run_v ?_
 simp[Builtin.cap_,run_bind,run_underlying ht,run_pure,goInt]
theorem y_len_str {t:TypeId} {x:Operand} {s:ByteArray} (ht:P.underlying t=some .string) (hx:ρ x=.string s):
  Yields_ P ρ ⟨dst,.call ⟨.builtin .len,#[x],#[t]⟩,type,pos,af,gd⟩ w X (intV .i64 s.size):=by
 refine⟨_,?_,intV_rel.2 rfl⟩
 have hm:(#[x].map ρ)=#[ρ x]:=by simp
 simp only[execOp,resolve,invoke,run_bind,run_pure,hm]
 exact len_str_run ht hx
end
section
variable {P:Program} {ρ:Operand→Value} {H:Nat→Frag} {O:Id→OS} {hv:Id→Value} {G:Id→Frag} {w:World} {dst:Option Tmp} {type:TypeId} {pos:String} {af:Array Edge} {gd:Option (Nat × Bool)}
end
end Go.Proofs.YtmdocdnidilaiaaGreat.V
