/- V: structs built of parts, structs compared, strings out of bytes, lengths, least and most. -/
import Derived.Test.YtjgebnhpklkjcaaVOpsH
import Derived.Test.YtjgebnhpklkjcaaVHand
import Derived.Laws.Tables
import Derived.Laws.StructEq
import Derived.Laws.BytesString
namespace Go.Proofs.Ytjgebnhpklkjcaa.V
open Go Frag Go.RowKit
set_option linter.unusedSimpArgs false
section
variable {P:Program} {X:Ctx} {ρ:Operand→Value} {w:World} {dst:Option Tmp} {type:TypeId} {pos:String} {af:Array Edge} {gd:Option (Nat × Bool)}
theorem CVRels.splice {cs new:List CV} {vs us:List Value} (h:CVRels X cs vs) (h':CVRels X new us) (off:Nat):CVRels X (V.splice cs off new) (vs.take off++us++vs.drop (off+us.length)):=by
 unfold V.splice
 rw[h'.length]
 exact((h.take off).append h').append (h.drop _)
def mBuild (places:Array (Nat × Nat)):List (Nat × Nat × Nat × VX)→List (Nat × Operand)→Bool
 |[],[]=>true
 |(f,off,n,x)::l,(g,y)::m=>f==g && places[f]?==some (off,n) && mX x y && mBuild places l m
 |_,_=>false
theorem build_rel {S:Nat→SV} {places:Array (Nat × Nat)} (hS:∀x y,mX x y=true→SVRel X (evx S x) (ρ y)):∀ {parts:List (Nat × Nat × Nat × VX)} {ps:List (Nat × Operand)} {cs cs':List CV} {vs:List Value},
  mBuild places parts ps=true→CVRels X cs vs→buildC S cs parts=some cs'→∃vs',CVRels X cs' vs'∧Instr.fill (places[·]?) vs.toArray (ps.map fun(i,y)=>(i,ρ y))=some vs'.toArray
 |[],[],cs,cs',vs,_,h,e=>by
  simp only[buildC,Option.some.injEq] at e; subst e
  exact⟨vs,h,rfl⟩
 |[],_::_,_,_,_,hm,_,_=>by simp[mBuild] at hm
 |_::_,[],_,_,_,hm,_,_=>by simp[mBuild] at hm
 |(f,off,n,x)::parts,(g,y)::ps,cs,cs',vs,hm,h,e=>by
  simp only[mBuild,Bool.and_eq_true] at hm
  obtain⟨⟨⟨h1,h2⟩,h3⟩,h4⟩:=hm
  have:=eq_of_beq h1; subst this
  have hpl:places[f]?=some (off,n):=eq_of_beq h2
  simp only[buildC] at e
  split at e
  ·rename_i new hnew
   split at e
   ·rename_i hc
    obtain⟨us,ev,hu⟩:=(hS _ _ h3).cells hnew
    have hul:us.length=n:=by rw[hu.length]; exact hc.1
    obtain⟨vs',r1,r2⟩:=build_rel hS h4 (h.splice hu off) e
    refine⟨vs',r1,?_⟩
    simp only[List.map_cons]
    rw[fill_cons (us:=us) (off:=off) (by rw[hul]; exact hpl) ev (by simp[h.length]; omega)]
    exact r2
   ·cases e
  ·cases e
structure StructZ (P:Program) (t:TypeId) (places:Array (Nat × Nat)) (zero:List CV):Prop where
 h:∃it fields z pl,P.info? t=some it∧P.underlying t=some (.struct fields)∧it.zero=some z∧fields.toList.mapM (fun f=>(P.info? f.type).map fun i=>(f.offset,i.size))=some pl∧pl.toArray=places∧mZ zero z.cells.toList=true
theorem y_build {S:Nat→SV} {t:TypeId} {places:Array (Nat × Nat)} {zero cs:List CV} {parts:List (Nat × Nat × Nat × VX)} {ps:Array (Nat × Operand)} (hS:∀x y,mX x y=true→SVRel X (evx S x) (ρ y)) (hZ:StructZ P t places zero)
  (hm:mBuild places parts ps.toList=true) (e:buildC S zero parts=some cs):Yields_ P ρ ⟨dst,.build t ps,type,pos,af,gd⟩ w X (.agg cs):=by
 obtain⟨it,fields,z,pl,h1,h2,h3,h4,rfl,h5⟩:=hZ.h
 obtain⟨vs,r1,r2⟩:=build_rel hS hm (mZ_rels h5) e
 refine⟨.agg vs.toArray,?_,by simp only[SVRel]; exact⟨vs,rfl,r1⟩⟩
 simp only[execOp]
 refine run_v ?_
 refine run_build w t _ _ ?_
 simp only[Program.built,h1,h2,h3,h4]
 rw[Array.toList_map]
 simpa using r2
def eqOK (P:Program):Nat→List Nat→List Field→Bool
 |_,[],[]=>true
 |j,k::ks,f::l=>f.offset==j && f.name != "_" &&(match k,P.underlying f.type with | 0,some .bool=>true | 1,some (.int _)=>true | 2,some .string=>true | _,_=>false) && eqOK P (j+1) ks l
 |_,_,_=>false
theorem eqCells_cons {ks:List Nat} {k:Nat} {x y:CV} {xs ys:List CV} {r:Bool} (h:eqCells (k::ks) (x::xs) (y::ys)=some r):
  (∃q a b r',k=1∧x=.val (.int q a)∧y=.val (.int q b)∧eqCells ks xs ys=some r'∧(a==b && r')=r)∨(∃a b r',k=0∧x=.val (.bool a)∧y=.val (.bool b)∧eqCells ks xs ys=some r'∧(a==b && r')=r)∨
  (∃a b r',k=2∧x=.val (.string a)∧y=.val (.string b)∧eqCells ks xs ys=some r'∧(a.toList==b.toList && r')=r):=by
 unfold eqCells at h
 split at h
 ·simp at*
 ·rename_i e1 e2 e3
  cases e1; cases e2; cases e3
  split at h
  ·rename_i e; subst e
   simp only[Option.map_eq_some_iff] at h
   obtain⟨r',h1,h2⟩:=h
   exact .inl ⟨_,_,_,r',rfl,rfl,rfl,h1,h2⟩
  ·cases h
 ·rename_i e1 e2 e3
  cases e1; cases e2; cases e3
  simp only[Option.map_eq_some_iff] at h
  obtain⟨r',h1,h2⟩:=h
  exact .inr (.inl ⟨_,_,r',rfl,rfl,rfl,h1,h2⟩)
 ·rename_i e1 e2 e3
  cases e1; cases e2; cases e3
  simp only[Option.map_eq_some_iff] at h
  obtain⟨r',h1,h2⟩:=h
  exact .inr (.inr ⟨_,_,r',rfl,rfl,rfl,h1,h2⟩)
 ·cases h
theorem run_eqFields {d:Nat}:∀ {fs:List Field} {ks:List Nat} {j:Nat} {xs ys:List CV} {us vs:List Value} {u0 v0:List Value} {r:Bool},eqOK P j ks fs=true→u0.length=j→v0.length=j→CVRels X xs us→CVRels X ys vs→eqCells ks xs ys=some r→
  (Op.eqFields (d+1) (u0++us).toArray (v0++vs).toArray fs).run P w=.ok r w
 |[],[],j,xs,ys,us,vs,u0,v0,r,_,_,_,_,_,e=>by
  cases xs<;>cases ys<;>simp[eqCells] at e
  subst e; rfl
 |[],_::_,_,_,_,_,_,_,_,_,h,_,_,_,_,_=>by simp[eqOK] at h
 |_::_,[],_,_,_,_,_,_,_,_,h,_,_,_,_,_=>by simp[eqOK] at h
 |f::fs,k::ks,j,xs,ys,us,vs,u0,v0,r,hok,hu0,hv0,hx,hy,e=>by
  simp only[eqOK,Bool.and_eq_true] at hok
  obtain⟨⟨⟨h1,h2⟩,h3⟩,h4⟩:=hok
  have hoff:f.offset=j:=eq_of_beq h1
  have hname:f.name≠ "_":=by simpa using h2
  cases xs with
  |nil=>cases ys<;>simp[eqCells] at e
  |cons x xs=>
   cases ys with
   |nil=>simp[eqCells] at e
   |cons y ys=>
    simp only[CVRels] at hx hy
    obtain⟨u,us,rfl,hu,hx⟩:=hx
    obtain⟨v,vs,rfl,hv,hy⟩:=hy
    have ih:∀r',eqCells ks xs ys=some r'→(Op.eqFields (d+1) (u0++u::us).toArray (v0++v::vs).toArray fs).run P w=.ok r' w:=fun r' e'=>by
     have:=run_eqFields (d:=d) (u0:=u0++ [u]) (v0:=v0++ [v]) h4 (by simp[hu0]) (by simp[hv0]) hx hy e'
     simpa using this
    have ha:aggT P f.type=some false:=by
     unfold aggT
     cases hq:P.underlying f.type with
     |none=>simp[hq] at h3
     |some q=>rw[hq] at h3; cases q<;>simp_all
    have hpart:∀ {ws w0:List Value} {u:Value},w0.length=j→(part f.type (w0++u::ws).toArray f.offset).run P w=.ok u w:=by
     intro ws w0 u hl
     simp only[part,run_bind,run_isAgg ha,Bool.false_eq_true,if_false]
     rw[hoff,← hl]
     simp[run_pure]
    have fin:∀(b:Bool) (r':Bool),(Op.equalIn (d+1) f.type u v).run P w=.ok b w→eqCells ks xs ys=some r'→(b && r')=r→(Op.eqFields (d+1) (u0++u::us).toArray (v0++v::vs).toArray (f::fs)).run P w=.ok r w:=by
     intro b r' hb hr' hbr
     simp only[Op.eqFields,if_pos hname,run_bind,hpart hu0,hpart hv0,hb]
     cases b with
     |false=>simp only[Bool.not_false,if_true,run_pure]; simp at hbr; rw[hbr]
     |true=>simp only[Bool.not_true,Bool.false_eq_true,if_false]; simp at hbr; subst hbr; exact ih _ hr'
    rcases eqCells_cons e with⟨q,a,b,r',rfl,rfl,rfl,e1,e2⟩ |⟨a,b,r',rfl,rfl,rfl,e1,e2⟩ |⟨a,b,r',rfl,rfl,rfl,e1,e2⟩
    ·obtain⟨rfl,_⟩:=hu
     obtain⟨rfl,_⟩:=hv
     cases hq:P.underlying f.type with
     |none=>simp[hq] at h3
     |some qd=>
      rw[hq] at h3
      cases qd<;>simp at h3
      exact fin _ r' (run_eq_int d hq) e1 e2
    ·obtain⟨rfl,_⟩:=hu
     obtain⟨rfl,_⟩:=hv
     cases hq:P.underlying f.type with
     |none=>simp[hq] at h3
     |some qd=>
      rw[hq] at h3
      cases qd<;>simp at h3
      exact fin _ r' (run_eq_bool d hq) e1 e2
    ·obtain⟨rfl,_⟩:=hu
     obtain⟨rfl,_⟩:=hv
     cases hq:P.underlying f.type with
     |none=>simp[hq] at h3
     |some qd=>
      rw[hq] at h3
      cases qd<;>simp at h3
      exact fin _ r' (by rw[run_eq_str d hq,beq_toListBytes]) e1 e2
structure StructEq (P:Program) (t:TypeId) (ks:List Nat):Prop where
 h:∃fs,P.underlying t=some (.struct fs)∧P.stoodInHeld t=false∧P.eqGuardType P.depth t=false∧eqOK P 0 ks fs.toList=true
theorem y_eqs {neg:Bool} {t ty:TypeId} {ks:List Nat} {x y:Operand} {xs ys:List CV} {r:Bool} (hE:StructEq P t ks) (hx:SVRel X (.agg xs) (ρ x)) (hy:SVRel X (.agg ys) (ρ y)) (e:eqCells ks xs ys=some r):
  Yields_ P ρ ⟨dst,.binOp (if neg then .neq else .eql) t x y ty,type,pos,af,gd⟩ w X (boolV (if neg then !r else r)):=by
 obtain⟨fs,h1,h2,h3,h4⟩:=hE.h
 simp only[SVRel] at hx hy
 obtain⟨us,eu,hu⟩:=hx
 obtain⟨vs,ev,hv⟩:=hy
 have hfs:P.fieldsOf t=fs:=by simp[Program.fieldsOf,h1]
 have heq:(Op.equalIn 10000 t (.agg us.toArray) (.agg vs.toArray)).run P w=.ok r w:=by
  rw[run_equalIn_struct w 9999 t _ _ (by rw[hfs]; exact h1) h2,hfs]
  have:=run_eqFields (d:=9998) (w:=w) (u0:=[]) (v0:=[]) h4 rfl rfl hu hv e
  simpa using this
 refine⟨_,?_,boolV_rel.2 rfl⟩
 simp only[execOp,eu,ev]
 refine run_v ?_
 rw[run_bind]
 cases neg with
 |false=>
  simp only[Bool.false_eq_true,if_false]
  rw[run_eqGuard_agg w .eql t x y _ _ h3]
  simp only[]
  rw[run_eql_struct,heq]; rfl
 |true=>
  simp only[if_true]
  rw[run_eqGuard_agg w .neq t x y _ _ h3]
  simp only[]
  rw[run_neq_struct,heq]; rfl
theorem y_mm {mx:Bool} {x y:Operand} {k:IntKind} {a b:Int} {ats:Array TypeId} (hx:ρ x=.int k a) (hy:ρ y=.int k b):
  Yields_ P ρ ⟨dst,.call ⟨.builtin (if mx then .max else .min),#[x,y],ats⟩,type,pos,af,gd⟩ w X (intV k (if mx then(if b > a then b else a) else(if b < a then b else a))):=by
 refine⟨_,?_,intV_rel.2 rfl⟩
 have hm:(#[x,y].map ρ)=#[.int k a,.int k b]:=by simp[hx,hy]
 simp only[execOp,resolve,invoke,run_bind,run_pure,hm]
 cases mx<;>rfl
theorem y_len {t:TypeId} {el:TypeId} {x:Operand} {a:Option Addr} {n c:Nat} (ht:P.underlying t=some (.slice el)) (hx:ρ x=.slice a n c):
  Yields_ P ρ ⟨dst,.call ⟨.builtin .len,#[x],#[t]⟩,type,pos,af,gd⟩ w X (intV .i64 n):=by
 refine⟨_,?_,intV_rel.2 rfl⟩
 have hm:(#[x].map ρ)=#[ρ x]:=by simp
 simp only[execOp,resolve,invoke,run_bind,run_pure,hm]
 exact len_run ht hx
theorem y_capn {t:TypeId} {el:TypeId} {x:Operand} {a:Option Addr} {n:Nat} (ht:P.underlying t=some (.slice el)) (hx:ρ x=.slice a n 0):
  Yields_ P ρ ⟨dst,.call ⟨.builtin .cap,#[x],#[t]⟩,type,pos,af,gd⟩ w X (intV .i64 0):=by
 refine⟨_,?_,intV_rel.2 rfl⟩
 have hm:(#[x].map ρ)=#[ρ x]:=by simp
 simp only[execOp,resolve,invoke,run_bind,run_pure,hm]
 simp only[builtin,hx]
 refine run_v ?_
 simp[Builtin.cap_,run_bind,run_underlying ht,run_pure,goInt]
theorem y_len_str {t:TypeId} {x:Operand} {s:ByteArray} (ht:P.underlying t=some .string) (hx:ρ x=.string s):
  Yields_ P ρ ⟨dst,.call ⟨.builtin .len,#[x],#[t]⟩,type,pos,af,gd⟩ w X (intV .i64 s.size):=by
 refine⟨_,?_,intV_rel.2 rfl⟩
 have hm:(#[x].map ρ)=#[ρ x]:=by simp
 simp only[execOp,resolve,invoke,run_bind,run_pure,hm]
 exact len_str_run ht hx
theorem y_clip {t e k q:Nat} {x hi mx:Operand} {a:Option Addr} {n c:Nat} {q1 q2:IntKind} (he:ElemAt P t e k) (hx:ρ x=.slice a n c) (hh:ρ hi=.int q1 0) (hm:ρ mx=.int q2 0):
  Yields_ P ρ ⟨dst,.slice t x none (some hi) (some mx),type,pos,af,gd⟩ w X (.one (.nl q)):=by
 obtain⟨i,ht,hi',hk⟩:=he.h
 refine⟨.slice a 0 0,?_,by simp only[SVRel,CVRel]; exact⟨a,rfl⟩⟩
 have b1:=run_sliceBound (P:=P) (w:=w) (y:=c) (code:=.slice3Acap) hm (Int.le_refl 0) (by omega)
 have b2:=run_sliceBound (P:=P) (w:=w) (y:=0) (code:=.slice3B) hh (Int.le_refl 0) (by omega)
 simp only[execOp,hx]
 refine run_v ?_
 have hb:(Instr.sliceBounds true n c none (some (ρ hi)) (some (ρ mx))).run P w=.ok (0,0,0) w:=by
  simp only[Instr.sliceBounds,run_bind,if_true,b1,Int.toNat_zero,b2,run_pure]
 simp only[Instr.sliceAt,Instr.slice,run_bind,run_underlying ht,Option.map_none,Option.map_some,hb,run_sizeOf hi',run_pure,if_true]
end
section
variable {P:Program} {ρ:Operand→Value} {H:Nat→Frag} {O:Id→OS} {hv:Id→Value} {G:Id→Frag} {w:World} {dst:Option Tmp} {type:TypeId} {pos:String} {af:Array Edge} {gd:Option (Nat × Bool)}
theorem ints_cells:∀ {rows:List (List D)} {vs:List Value} {g:Frag} {l:List Int},ORepR H rows vs g→rowsInts .u8 rows=some l→vs=l.map (Value.int .u8)
 |[],vs,g,l,h,e=>by
  simp only[ORepR] at h
  simp only[rowsInts,Option.some.injEq] at e
  subst e; simpa using h.1
 |r::rows,vs,g,l,h,e=>by
  simp only[ORepR] at h
  obtain⟨v1,v2,g1,g2,rfl,_,_,h1,h2⟩:=h
  unfold rowsInts at e
  split at e
  ·cases ‹_::_=[]›
  ·rename_i k' n rows' er
   cases er
   split at e
   ·rename_i hk; subst hk
    simp only[Option.map_eq_some_iff] at e
    obtain⟨l',e1,rfl⟩:=e
    have ih:=ints_cells h2 e1
    simp only[ORepL,ORep] at h1
    obtain⟨v,vs',g3,g4,rfl,_,_,⟨rfl,_⟩,rfl,_⟩:=h1
    simp[ih]
   ·cases e
  ·cases e
theorem foldl_bytes:∀(l:List Int) (s:ByteArray),(l.foldl (fun r n=>r.push (UInt8.ofNat n.toNat)) s).data.toList=s.data.toList++l.map fun n=>UInt8.ofNat n.toNat
 |[],s=>by simp
 |n::l,s=>by
  rw[List.foldl_cons,foldl_bytes l]
  simp[ByteArray.push]
theorem bytes_fold (l:List Int):l.foldl (fun r n=>r.push (UInt8.ofNat n.toNat)) ByteArray.empty=bytesOf l:=by
 have h:=foldl_bytes l ByteArray.empty
 have:∀a b:ByteArray,a.data.toList=b.data.toList→a=b:=by
  intro a b h
  obtain⟨⟨a⟩⟩:=a; obtain⟨⟨b⟩⟩:=b
  simp at h; rw[h]
 exact this _ _ (by rw[h]; simp[bytesOf])
theorem ints_k:∀ {rows:List (List D)} {l:List Int},rowsInts .u8 rows=some l→∀r∈rows,r.length=1
 |[],_,_=>by simp
 |r::rows,l,e=>by
  unfold rowsInts at e
  split at e
  ·cases ‹_::_=[]›
  ·rename_i k' n rows' er
   cases er
   split at e
   ·simp only[Option.map_eq_some_iff] at e
    obtain⟨l',e1,rfl⟩:=e
    intro r hr
    rcases List.mem_cons.1 hr with rfl | hr
    ·rfl
    ·exact ints_k e1 r hr
   ·cases e
  ·cases e
theorem shown_rel {sy:SV} {vy:Value} {rows:List (List D)} {rd:List Id} {k:Nat} (M:ObjsOK H O hv G w) (hy:SVRel ⟨H,O,hv,G⟩ sy vy) (hs:shown O sy=some (rows,rd)) (hk:∀r∈rows,r.length=k):
  ∃vs g a c,ORepR H rows vs g∧vy=.slice a rows.length c∧(Builtin.firstCells k rows.length vy).run P w=.ok vs.toArray w:=by
 unfold shown at hs
 split at hs
 ·simp only[Option.some.injEq,Prod.mk.injEq] at hs
  obtain⟨rfl,rfl⟩:=hs
  simp only[SVRel,CVRel] at hy
  obtain⟨a,rfl⟩:=hy
  exact⟨[],emp,a,0,by simp[ORepR],rfl,first_none⟩
 ·rename_i l rows
  simp only[Option.some.injEq,Prod.mk.injEq] at hs
  obtain⟨rfl,rfl⟩:=hs
  have S:=Held.start M
  obtain⟨_,_,vs,g,_,_,_,h4,_,h6⟩:=source_rel (P:=P) (k:=k) (rd:=[]) M S hy (T':=[]) (new:=fromBR l rows) (by simp only[source]) hk
  simp only[SVRel,CVRel,BRep] at hy
  have hl:(fromBR l rows).length=rows.length:=by simp[fromBR]
  refine⟨vs,g,?_⟩
  rcases hy with⟨rfl,a,cap,rfl⟩ |⟨b,off,cap,k',arr,t,fz,rfl,hb,hc,hk',ha,hr⟩
  ·exact⟨_,_,h4,rfl,h6 w rfl⟩
  ·exact⟨_,_,h4,by rw[hl],h6 w rfl⟩
 ·rename_i r
  split at hs
  ·rename_i o k' rows' hra
   simp only[Option.some.injEq,Prod.mk.injEq] at hs
   obtain⟨rfl,rfl⟩:=hs
   simp only[SVRel] at hy
   obtain⟨hlook,hnav,hle⟩:=rowsAt_parts hra
   obtain⟨hlive,v',hat,hw⟩:=ref_view hy hra
   obtain⟨_,h',hs',ho'⟩:=At.restrict (M.objs _ _ hlive) (sub_refl _) hat
   obtain⟨g2,hg2,ho2⟩:=own_view ho' hw hle
   obtain⟨⟨a,c,ev⟩,_⟩:=ho2.self
   obtain⟨vs,g3,h3,h4,h5,h6⟩:=own_cells (P:=P) (w:=w) (k:=k) ho2 (fun b o x=>M.mem _ _ _ (hs' _ _ (hg2 _ _ x))) hk
   exact⟨vs,g3,a,c,h3,ev,h6 w rfl⟩
  ·cases hs
 ·cases hs
theorem y_b2s {s d el:TypeId} {x:Operand} {sx:SV} {rows:List (List D)} {rd:List Id} {l:List Int} (M:ObjsOK H O hv G w) (hs:P.underlying s=some (.slice el)) (he:P.underlying el=some (.int .u8)) (hd:P.underlying d=some .string)
  (hx:SVRel ⟨H,O,hv,G⟩ sx (ρ x)) (hsh:shown O sx=some (rows,rd)) (hl:rowsInts .u8 rows=some l):Yields_ P ρ ⟨dst,.convert s d x,type,pos,af,gd⟩ w ⟨H,O,hv,G⟩ (strV (bytesOf l)):=by
 obtain⟨vs,g,a,c,h1,h2,h3⟩:=shown_rel (P:=P) (k:=1) M hx hsh (ints_k hl)
 refine⟨_,?_,strV_rel.2 rfl⟩
 have hvs:=ints_cells h1 hl
 simp only[execOp,h2]
 refine run_v ?_
 rw[run_convert_bytes_string w s d el a _ c hs he hd]
 cases a with
 |none=>
  rw[h2] at h3
  have h3':Result.ok #[] w=Result.ok vs.toArray w:=h3
  have:vs=[]:=by
   injection h3' with h _
   have:=congrArg Array.toList h
   simpa using this.symm
  rw[this] at hvs
  have:l=[]:=List.map_eq_nil_iff.1 hvs.symm
  subst this
  rfl
 |some a=>
  rw[h2] at h3
  simp only[Builtin.firstCells,Nat.mul_one] at h3
  rw[run_bytesToString w a _ c l (by rw[h3,hvs]),bytes_fold]
end
end Go.Proofs.Ytjgebnhpklkjcaa.V
