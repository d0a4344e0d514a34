/- V: what a load finds in an object whose slice has been taken out elsewhere. -/
import Derived.Test.YtmdocdnidilaiaaGreatVStep
import Derived.Test.YtmdocdnidilaiaaGreatVLocal
namespace Go.Proofs.YtmdocdnidilaiaaGreat.V
open Go Frag Go.RowKit
theorem mod_at {α:Type} (l:List α) (i:Nat) (f:α→α):(l.modify i f)[i]?=l[i]?.map f:=by
 rw[List.getElem?_modify]; simp
theorem mod_ne {α:Type} (l:List α) {i j:Nat} (f:α→α) (h:i≠j):(l.modify i f)[j]?=l[j]?:=by
 rw[List.getElem?_modify]; simp[h]
theorem setCell_len (rows:List (List D)) (p:Path) (d:D):(setCell rows p d).length=rows.length:=by
 match p with
 |[]=>rfl
 |[(i,j)]=>simp[setCell]
 |(i,j)::x::p=>simp[setCell]
theorem staleAt_cons {p:Path} {l:List (Path × Bool)} {q:Path} (h:¬p <+:q):staleAt ((p,false)::l) q=staleAt l q:=by
 have:p.isPrefixOf q=false:=by
  cases hb:p.isPrefixOf q with
  |false=>rfl
  |true=>exact absurd (List.isPrefixOf_iff_prefix.1 hb) h
 simp[staleAt,this]
theorem prefix_snoc {p q:Path} {x:Nat × Nat} (h:p <+:q++ [x]) (hn:¬p <+:q):p=q++ [x]:=by
 obtain⟨r,e⟩:=h
 rcases List.eq_nil_or_concat r with rfl |⟨r',y,rfl⟩
 ·simpa using e
 ·rw[List.concat_eq_append,← List.append_assoc] at e
  have:=List.append_inj' e rfl
  exact absurd ⟨r',this.1⟩ hn
def Beside (p q:Path) (k2:Nat) (rows2:List (List D)) (k3:Nat) (rows3 rows3':List (List D)):Prop:=
 (¬q <+:p∧rows3'=rows3)∨∃p',p=q++p'∧p'≠ []∧rows3'=setCell rows3 p' (.hole rows2.length)∧nav k3 rows3 p'=some (k2,rows2)
theorem nav_beside {k2:Nat} {rows2:List (List D)}:∀ {q p:Path} {k:Nat} {rows:List (List D)},p≠ []→¬p <+:q→nav k rows p=some (k2,rows2)→
  (nav k rows q=none∧nav k (setCell rows p (.hole rows2.length)) q=none)∨∃k3 rows3 rows3',nav k rows q=some (k3,rows3)∧nav k (setCell rows p (.hole rows2.length)) q=some (k3,rows3')∧Beside p q k2 rows2 k3 rows3 rows3'
 |[],p,k,rows,hp,_,hn=>.inr ⟨k,rows,_,rfl,rfl,.inr ⟨p,rfl,hp,rfl,hn⟩⟩
 |(i,j)::q,[],k,rows,hp,_,hn=>absurd rfl hp
 |(i,j)::q,(a,b)::p,k,rows,_,hpq,hn=>by
  simp only[nav] at hn
  cases hra:rows[a]? with
  |none=>rw[hra] at hn; simp at hn
  |some ra=>
   rw[hra] at hn
   simp only[] at hn
   cases hdb:ra[b]? with
   |none=>rw[hdb] at hn; simp at hn
   |some db=>
    rw[hdb] at hn
    cases db with
    |val _=>simp at hn
    |bor _ _=>simp at hn
    |hole _=>simp at hn
    |own k4 rows4=>
     simp only[] at hn
     by_cases hij:i=a∧j=b
     ·obtain⟨rfl,rfl⟩:=hij
      cases p with
      |nil=>exact absurd ⟨q,rfl⟩ hpq
      |cons y p=>
       have hpq':¬(y::p) <+:q:=fun⟨r,e⟩=>hpq ⟨r,by simp[← e]⟩
       have hc:(setCell rows ((i,j)::y::p) (.hole rows2.length))[i]?=some (ra.modify j fun | .own k' rows'=>.own k' (setCell rows' (y::p) (.hole rows2.length)) | d'=>d'):=by
        simp[setCell,hra]
        try rfl
       have hc2:(ra.modify j fun | .own k' rows'=>.own k' (setCell rows' (y::p) (.hole rows2.length)) | d'=>d')[j]?=some (.own k4 (setCell rows4 (y::p) (.hole rows2.length))):=by
        simp[hdb]
       simp only[nav,hra,hdb,hc,hc2]
       rcases nav_beside (q:=q) (p:=y::p) (by simp) hpq' hn with⟨h1,h2⟩ |⟨k3,rows3,rows3',h1,h2,h3⟩
       ·exact .inl ⟨h1,h2⟩
       ·refine .inr ⟨k3,rows3,rows3',h1,h2,?_⟩
        rcases h3 with⟨h3,h4⟩ |⟨p',h3,h4,h5,h6⟩
        ·exact .inl ⟨fun⟨r,e⟩=>h3 ⟨r,by simpa using e⟩,h4⟩
        ·exact .inr ⟨p',by rw[h3]; rfl,h4,h5,h6⟩
     ·have hnp:¬((i,j)::q) <+:((a,b)::p):=fun⟨r,e⟩=>by
       simp only[List.cons_append,List.cons.injEq,Prod.mk.injEq] at e
       exact hij e.1
      have hsame:nav k (setCell rows ((a,b)::p) (.hole rows2.length)) ((i,j)::q)=nav k rows ((i,j)::q):=by
       simp only[nav]
       have hc : ∀ f : List D → List D, (∀ r : List D, i = a → (f r)[j]? = r[j]?) → ∀ X : Option (Nat × List (List D)), (match (rows.modify a f)[i]? with
         |some row=>match row[j]? with
          |some (.own k' rows')=>nav k' rows' q
          |_=>none
         |none=>none)=(match rows[i]? with
         |some row=>match row[j]? with
          |some (.own k' rows')=>nav k' rows' q
          |_=>none
         |none=>none):=by
        intro f hf X
        by_cases e:a=i
        ·subst e
         rw[mod_at,hra]
         simp only[Option.map_some,hf ra rfl]
        ·rw[mod_ne _ _ e]
       have hb:i=a→j≠b:=fun e e'=>hij ⟨e,e'⟩
       match p with
       |[]=>
        simp only[setCell]
        exact hc _ (fun r e=>mod_ne _ _ (fun e'=>hb e e'.symm)) none
       |y::p=>
        simp only[setCell]
        exact hc _ (fun r e=>mod_ne _ _ (fun e'=>hb e e'.symm)) none
      cases hq:nav k rows ((i,j)::q) with
      |none=>exact .inl ⟨rfl,by rw[hsame,hq]⟩
      |some z=>exact .inr ⟨z.1,z.2,z.2,rfl,by rw[hsame,hq],.inl ⟨hnp,rfl⟩⟩
theorem cellsOut_congr {dirt dirt':List (Path × Bool)} {id:Id} {q:Path} {row:Nat}:∀ {l l':List D} {j:Nat},l.length=l'.length→(∀t d d',l[t]?=some d→l'[t]?=some d'→cellOut dirt' id q row (j+t) d'=cellOut dirt id q row (j+t) d)→
  cellsOut dirt' id q row j l'=cellsOut dirt id q row j l
 |[],[],_,_,_=>rfl
 |[],_::_,_,h,_=>by simp at h
 |_::_,[],_,h,_=>by simp at h
 |d::l,d'::l',j,hl,h=>by
  simp only[cellsOut]
  have h0:=h 0 d d' rfl rfl
  rw[Nat.add_zero] at h0
  rw [h0, cellsOut_congr (l := l) (l' := l') (j := j + 1) (by simpa using hl) (fun t e e' h1 h2 => by
   have:=h (t+1) e e' (by simpa using h1) (by simpa using h2)
   rwa [show j+(t+1)=j+1+t by omega] at this)]
theorem row_beside {p q:Path} {k2:Nat} {rows2:List (List D)} {k3:Nat} {rows3 rows3':List (List D)} {dirt:List (Path × Bool)} {id:Id} (hpq:¬p <+:q) (h:Beside p q k2 rows2 k3 rows3 rows3') (row:Nat):
  (rows3[row]?=none∧rows3'[row]?=none)∨∃r r',rows3[row]?=some r∧rows3'[row]?=some r'∧r.length=r'.length∧∀j d d',r[j]?=some d→r'[j]?=some d'→cellOut ((p,false)::dirt) id q row j d'=cellOut dirt id q row j d:=by
 have same:∀j d,p≠q++ [(row,j)]→cellOut ((p,false)::dirt) id q row j d=cellOut dirt id q row j d:=fun j d hne=>by
  cases d with
  |hole n=>simp only[cellOut]; rw[staleAt_cons (fun hp=>hne (prefix_snoc hp hpq))]
  |_=>rfl
 rcases h with⟨h1,rfl⟩ |⟨p',rfl,hne,rfl,hn⟩
 ·cases hr:rows3'[row]? with
  |none=>exact .inl ⟨rfl,rfl⟩
  | some r => exact .inr ⟨r, r, rfl, rfl, rfl, fun j d d' e e' => by
    rw[e] at e'; injection e' with e'; subst e'
    exact same j d (fun e=>h1 ⟨[(row,j)],e.symm⟩)⟩
 ·obtain⟨⟨a,b⟩,p2,rfl⟩:∃x p2,p'=x::p2:=by cases p' with
   |nil=>exact absurd rfl hne
   |cons x p2=>exact⟨x,p2,rfl⟩
  have hsame:∀j,¬(row=a∧j=b∧p2=[])→q++(a,b)::p2≠q++ [(row,j)]:=fun j hno e=>by
   have:=List.append_cancel_left e
   simp only[List.cons.injEq,Prod.mk.injEq] at this
   exact hno ⟨this.1.1.symm,this.1.2.symm,this.2⟩
  cases hr:rows3[row]? with
  |none=>
   left
   refine⟨rfl,?_⟩
   have:=setCell_len rows3 ((a,b)::p2) (.hole rows2.length)
   rw[List.getElem?_eq_none_iff] at hr⊢
   omega
  |some r=>
   right
   by_cases ha:a=row
   ·subst ha
    simp only[nav,hr] at hn
    have hlast:∃f:D→D,(setCell rows3 ((a,b)::p2) (.hole rows2.length))[a]?=some (r.modify b f)∧∀k4 rows4,r[b]?=some (.own k4 rows4)→(p2=[]∧f (.own k4 rows4)=.hole rows2.length∧rows4.length=rows2.length)∨(p2≠ []∧∃rows5,f (.own k4 rows4)=.own k4 rows5∧rows5.length=rows4.length):=by
     match p2 with
     |[]=>
      refine⟨fun _=>.hole rows2.length,by simp[setCell,hr],fun k4 rows4 e=>.inl ⟨rfl,rfl,?_⟩⟩
      rw[e] at hn
      simp only[nav,Option.some.injEq,Prod.mk.injEq] at hn
      rw[hn.2]
     |y::p3=>
      exact⟨_,by simp only[setCell]; rw[mod_at,hr]; rfl,fun k4 rows4 e=>.inr ⟨by simp,_,rfl,setCell_len _ _ _⟩⟩
    obtain⟨f,hf,hown⟩:=hlast
    refine⟨r,_,rfl,hf,by simp,fun j d d' e e'=>?_⟩
    by_cases hb:b=j
    ·subst hb
     rw[mod_at,e] at e'
     simp only[Option.map_some,Option.some.injEq] at e'
     subst e'
     rw[e] at hn
     cases d with
     |own k4 rows4=>
      rcases hown k4 rows4 e with⟨rfl,h1,h2⟩ |⟨h0,rows5,h1,h2⟩
      ·rw[h1]
       simp only[cellOut]
       have:staleAt ((q++ [(a,b)],false)::dirt) (q++ [(a,b)])=true:=by simp[staleAt]
       rw[if_pos this,h2]
      ·rw[h1]
       simp only[cellOut,h2]
     |val _=>simp at hn
     |bor _ _=>simp at hn
     |hole _=>simp at hn
    ·rw[mod_ne _ _ hb,e] at e'
     injection e' with e'
     subst e'
     exact same j d (hsame j (fun h=>hb h.2.1.symm))
   ·refine⟨r,r,rfl,?_,rfl,fun j d d' e e'=>?_⟩
    ·match p2 with
     |[]=>simp only[setCell]; rw[mod_ne _ _ ha,hr]
     |y::p3=>simp only[setCell]; rw[mod_ne _ _ ha,hr]
    ·rw[e] at e'; injection e' with e'; subst e'
     exact same j d (hsame j (fun h=>ha h.1.symm))
def HolR (p:Path) (a b:OS):Prop:=p≠ []∧∃ob k rows,a=.live ob∧nav ob.k ob.rows p=some (k,rows)∧b=hollow ob p
theorem load_beside {S:Nat→SV} {O O':Id→OS} {d:Nat} {t:TypeId} {agg:Bool} {n:Nat} {x:VX} {pt:Ptr} {p:Path} (hx:evx S x=.ptr pt) (hpq:¬p <+:pt.path) (hR:HolR p (O pt.id) (O' pt.id)):
  pstep S O' d (.load t agg n x)=pstep S O d (.load t agg n x):=by
 obtain⟨hp,ob,k2,rows2,hO,hn,hO'⟩:=hR
 have hl:lenAt ob p=rows2.length:=by unfold lenAt; rw[hn]
 have hpe:p.isEmpty=false:=by cases p with | nil=>exact absurd rfl hp | cons _ _=>rfl
 simp only[hollow,hpe,Bool.false_eq_true,if_false,hl] at hO'
 simp only[pstep,hx]
 by_cases hno:¬pt.n=n
 ·rw[if_neg hno,if_neg hno]
 have hnn:=Classical.not_not.1 hno
 rw[if_pos hnn,if_pos hnn]
 have key : (match rowAt O' pt with
   |some (o,_,_,row)=>cellsOut o.dirty pt.id pt.path pt.row pt.off ((row.drop pt.off).take n)
   |none=>none)=(match rowAt O pt with
   |some (o,_,_,row)=>cellsOut o.dirty pt.id pt.path pt.row pt.off ((row.drop pt.off).take n)
   |none=>none):=by
  unfold rowAt
  rw[hO,hO']
  simp only[OS.look,staleAt_cons hpq]
  by_cases hst:staleAt ob.dirty pt.path=true
  ·simp[hst]
  ·simp only[hst,if_false,Bool.false_eq_true]
   rcases nav_beside hp hpq hn with⟨h1,h2⟩ |⟨k3,rows3,rows3',h1,h2,h3⟩
   ·simp only[h1,h2]
   ·simp only[h1,h2]
    rcases row_beside (dirt:=ob.dirty) (id:=pt.id) hpq h3 pt.row with⟨r1,r2⟩ |⟨r,r',r1,r2,r3,r4⟩
    ·simp only[r1,r2]
    ·simp only[r1,r2,r3]
     by_cases hlen:pt.off+pt.n≤r'.length
     ·simp only[hlen,if_true]
      refine cellsOut_congr (by simp[r3]) (fun t d d' e e'=>?_)
      rw[List.getElem?_take] at e e'
      split at e
      ·rw[if_pos (by assumption)] at e'
       rw[List.getElem?_drop] at e e'
       exact r4 _ _ _ e e'
      ·cases e
     ·simp only[hlen,if_false]
 revert key
 cases rowAt O' pt<;>cases rowAt O pt<;>intro key<;>simp only[] at key⊢
 ·rw[← key]
 ·rw[key]
 ·rw[key]
inductive Takes (O:Id→OS):List (Id × OS)→List (Id × OS)→Prop
 |nil {T}:Takes O T T
 |cons {T0 T id p o k rows}:Takes O T0 T→(ov O T id).look p=some o→nav o.k o.rows p=some (k,rows)→Takes O T0 ((id,hollow o p)::T)
theorem Takes.trans {O:Id→OS} {A B C:List (Id × OS)} (h:Takes O A B) (k:Takes O B C):Takes O A C:=by
 induction k with
 |nil=>exact h
 |cons _ h1 h2 ih=>exact .cons ih h1 h2
theorem takeR_takes {O:Id→OS} {T T':List (Id × OS)} {r k rows} (h:takeR O T r=some (k,rows,T')):Takes O T T':=by
 unfold takeR at h
 split at h<;>try cases h
 rename_i o h1
 split at h<;>try cases h
 rename_i h2
 split at h<;>try cases h
 exact .cons .nil h1 h2
theorem takeCs_takes {O:Id→OS}:∀ {cs:List CV} {T T':List (Id × OS)} {ds},takeCs O T cs=some (ds,T')→Takes O T T'
 |[],T,T',ds,h=>by simp only[takeCs,Option.some.injEq,Prod.mk.injEq] at h; rw[h.2]; exact .nil
 |c::cs,T,T',ds,h=>by
  simp only[takeCs] at h
  split at h<;>try cases h
  rename_i h1
  split at h<;>try cases h
  rename_i h2
  refine Takes.trans ?_ (takeCs_takes h2)
  cases c<;>simp only[takeC,Option.some.injEq,Prod.mk.injEq] at h1
  case ref r=>
   split at h1<;>try cases h1
   rename_i h3
   exact takeR_takes h3
  all_goals (rw[← h1.2]; exact .nil)
theorem source_takes {O:Id→OS} {T T':List (Id × OS)} {v new rd} (h:source O T v=some (new,rd,T')):Takes O T T':=by
 unfold source at h
 split at h<;>try (simp only[Option.some.injEq,Prod.mk.injEq] at h; rw[← h.2.2]; exact .nil)
 ·split at h<;>try cases h
  split at h
  ·simp only[Option.some.injEq,Prod.mk.injEq] at h; rw[← h.2.2]; exact .nil
  ·split at h<;>try cases h
   rename_i h1
   exact takeR_takes h1
 ·cases h
theorem ov_off {O:Id→OS}:∀ {T:List (Id × OS)} {i:Id},i∉idsOf T→ov O T i=O i
 |[],_,_=>rfl
 |(j,x)::T,i,h=>by
  simp only[idsOf,List.map_cons,List.mem_cons,not_or] at h
  simp only[ov,getA,if_neg (Ne.symm h.1)]
  exact ov_off h.2
theorem cnt_cons {j i:Id} {l:List Id}:cntI (j::l) i=(if j=i then 1 else 0)+cntI l i:=by
 unfold cntI
 rw[List.filter_cons]
 by_cases e:j=i<;>simp[e]; omega
theorem cnt_mem {l:List Id} {i:Id} (h:i∈l):1≤cntI l i:=by
 unfold cntI
 have:i∈l.filter fun j=>decide (j=i):=List.mem_filter.2 ⟨h,by simp⟩
 exact List.length_pos_of_mem this
theorem Takes.out {O:Id→OS} {T:List (Id × OS)} (h:Takes O [] T) {i:Id} (hi:i∈idsOf T) (hc:cntI (idsOf T) i=1):∃p o k rows,(O i).look p=some o∧nav o.k o.rows p=some (k,rows)∧ov O T i=hollow o p:=by
 generalize hA:([]:List (Id × OS))=A at h
 induction h with
 |nil=>subst hA; simp[idsOf] at hi
 |@cons T id p o k rows h0 h1 h2 ih=>
  simp only[idsOf,List.map_cons] at hi hc
  rw[cnt_cons] at hc
  by_cases e:id=i
  ·subst e
   rw[if_pos rfl] at hc
   have hn:id∉idsOf T:=fun hm=>by have:=cnt_mem hm; unfold idsOf at this; omega
   rw[ov_off hn] at h1
   exact⟨p,o,k,rows,h1,h2,by simp[ov,getA]⟩
  ·rw[if_neg e,Nat.zero_add] at hc
   obtain⟨p',o',k',rows',g1,g2,g3⟩:=ih ((List.mem_cons.1 hi).resolve_left (Ne.symm e)) hc
   exact⟨p',o',k',rows',g1,g2,by simp only[ov,getA,if_neg e]; exact g3⟩
theorem getA_ov {O:Id→OS} {T:List (Id × OS)} {i:Id} (h:i∈idsOf T):ov O T i=getA .none T i:=by
 induction T with
 |nil=>simp[idsOf] at h
 |cons x T ih=>
  obtain⟨j,u⟩:=x
  simp only[ov,getA]
  by_cases e:j=i
  ·rw[if_pos e,if_pos e]
  ·rw[if_neg e,if_neg e]
   simp only[idsOf,List.map_cons,List.mem_cons] at h
   exact ih (h.resolve_left (Ne.symm e))
theorem toOf_ok {S:Nat→SV} {O:Id→OS} {d:Nat} {v:VOp} {e:Eff} {i:Id} (h:pstep S O d v=some e) (hlt:i.2.2 < 2) (hi:i∈toOf v e):∃p,HolR p (O i) (ov O e.objs i):=by
 have key:∀x T,e.objs=x::T→Takes O [] T→i∈idsOf T→cntI (idsOf e.objs) i=1→(∃o,getA .none e.objs i=.live o)→∃p,HolR p (O i) (ov O e.objs i):=fun x T hT hk hm hc ⟨ol,hl⟩=>by
  rw[hT] at hc hl⊢
  simp only[idsOf,List.map_cons] at hc
  rw[cnt_cons] at hc
  have h1:=cnt_mem hm
  unfold idsOf at h1 hm
  have hne:x.1≠i:=fun e=>by rw[if_pos e] at hc; omega
  rw[if_neg hne,Nat.zero_add] at hc
  obtain⟨p,o,k,rows,g1,g2,g3⟩:=hk.out hm hc
  obtain⟨j,u⟩:=x
  simp only[getA,if_neg hne] at hl
  simp only[ov,getA,if_neg hne]
  have g4:getA (O i) T i=hollow o p:=g3
  refine⟨p,fun hp=>?_,o,k,rows,look_live g1,g2,g4⟩
  have:=getA_ov (O:=O) hm
  rw[hl] at this
  rw[show ov O T i=hollow o p from g3,hp] at this
  simp[hollow] at this
 have hlive:(match getA .none e.objs i with | .live _=>true | _=>false)=true→∃o,getA .none e.objs i=.live o:=fun h=>by
  split at h
  ·rename_i o ho; exact⟨o,ho⟩
  ·cases h
 unfold toOf at hi
 split at hi
 ·simp only[pstep] at h
  split at h<;>try cases h
  split at h<;>try cases h
  split at h<;>try cases h
  rename_i ht
  split at h<;>try cases h
  split at hi
  ·exfalso
   rename_i x hobj
   simp only[List.cons.injEq] at hobj
   obtain⟨_,rfl⟩:=hobj
   split at hi
   ·rename_i y j hw
    simp only[List.mem_singleton] at hi
    subst hi
    simp only[stWr] at hw
    split at hw
    ·simp only[idsOf,List.map_nil,List.cons_append,List.nil_append,List.cons.injEq,and_true] at hw
     rw[← hw.2] at hlt
     simp only[shI] at hlt
     omega
    ·simp[idsOf] at hw
   ·cases hi
  ·simp only[holOf,List.mem_filter,Bool.and_eq_true,decide_eq_true_eq] at hi
   obtain⟨hm,_,hc,hl⟩:=hi
   exact key _ _ rfl (takeCs_takes ht) hm hc (hlive hl)
 ·simp only[holOf,List.mem_filter,Bool.and_eq_true,decide_eq_true_eq] at hi
  obtain⟨hm,_,hc,hl⟩:=hi
  have made_key:∀ {T:List (Id × OS)} {o sv req rd},made O T d o sv req rd=some e→Takes O [] T→∃p,HolR p (O i) (ov O e.objs i):=fun he hT=>by
   unfold made at he
   split at he
   ·injection he with he
    subst he
    exact key _ _ rfl hT hm hc (hlive hl)
   ·cases he
  simp only[pstep] at h
  split at h
  ·split at h<;>try cases h
   rename_i h1
   exact made_key h (source_takes h1)
  ·split at h<;>try cases h
   rename_i h1
   split at h<;>try cases h
   rename_i h2
   split at h<;>try cases h
   split at h<;>try cases h
   rename_i h3
   exact made_key h (Takes.trans (.cons .nil (by rw[ov_nil]; exact h1) h2) (source_takes h3))
  ·cases h
 ·cases hi
theorem load_soft {S:Nat→SV} {O O':Id→OS} {d:Nat} {v:VOp} {e:Eff} {i:Id} (h:pstep S O d v=some e) (hlt:i.2.2 < 2) (hi:i∈lbOf v e) (hR:∃p,HolR p (O i) (O' i)∨HolR p (O' i) (O i)):pstep S O' d v=some e∧e.rd=[i]:=by
 unfold lbOf at hi
 split at hi
 ·rename_i t agg n x
  split at hi
  ·rename_i j hrd
   split at hi
   case isFalse=>cases hi
   simp only[List.mem_singleton] at hi
   subst hi
   refine⟨?_,hrd⟩
   have h':=h
   simp only[pstep] at h'
   split at h'
   ·rename_i pt hx
    split at h'<;>try cases h'
    split at h'<;>try cases h'
    split at h'<;>try cases h'
    split at h'<;>try cases h'
    simp only[ldRd] at hrd
    split at hrd
    ·rename_i hpe
     simp only[List.cons.injEq,and_true] at hrd
     subst hrd
     have hnil:pt.path=[]:=by simpa using hpe
     obtain⟨p,hR⟩:=hR
     rcases hR with hR | hR
     ·rw[load_beside hx (by rw[hnil]; exact fun hp=>hR.1 (List.prefix_nil.1 hp)) hR]; exact h
     ·rw[← load_beside hx (by rw[hnil]; exact fun hp=>hR.1 (List.prefix_nil.1 hp)) hR]; exact h
    ·simp at hrd
   ·split at h'<;>try cases h'
    split at h'<;>try cases h'
    simp at hrd
   ·cases h'
  ·simp only[List.mem_singleton] at hi
   subst hi
   simp only[shI] at hlt
   omega
  ·cases hi
 ·split at hi
  ·simp only[List.mem_singleton] at hi
   subst hi
   simp only[shI] at hlt
   omega
  ·cases hi
 ·cases hi
def ScaS (a b:OS):Prop:=∃ob ob',a=.live ob∧b=.live ob'∧ob'.k=ob.k∧ob'.dirty=ob.dirty∧ob'.rows.length=ob.rows.length∧∀p,p≠ []→nav ob'.k ob'.rows p=nav ob.k ob.rows p
theorem ScaS.symm {a b:OS} (h:ScaS a b):ScaS b a:=by
 obtain⟨ob,ob',h1,h2,h3,h4,h5,h6⟩:=h
 exact⟨ob',ob,h2,h1,h3.symm,h4.symm,h5.symm,fun p hp=>(h6 p hp).symm⟩
theorem splice_mid {row new:List D} {off t:Nat} (ho:off≤row.length) (ht:t < new.length):(splice row off new)[off+t]?=new[t]?:=by
 unfold splice
 have hl:(row.take off).length=off:=by rw[List.length_take]; omega
 rw[List.append_assoc,List.getElem?_append_right (by omega),hl,Nat.add_sub_cancel_left,List.getElem?_append_left ht]
theorem nav_sca {rows:List (List D)} {a k off n:Nat} {row ds:List D} (h:rows[a]?=some row) (hl:off+n≤row.length) (hn:((row.drop off).take n).length=ds.length) (ho:((row.drop off).take n).all isVal=true) (hd:ds.all isVal=true):
  ∀p,p≠ []→nav k (rows.set a (splice row off ds)) p=nav k rows p
 |[],hp=>absurd rfl hp
 |(i,j)::q,_=>by
  simp only[nav]
  by_cases e:a=i
  ·subst e
   have hlt:=(List.getElem?_eq_some_iff.1 h).1
   rw[List.getElem?_set_self hlt,h]
   simp only[]
   have hnn:ds.length=n:=by rw[← hn,List.length_take,List.length_drop]; omega
   by_cases hj:j < off∨off+ds.length≤j
   ·rw[splice_at hj (by omega)]
   ·obtain⟨t,rfl⟩:∃t,j=off+t:=⟨j - off,by omega⟩
    have ht:t < ds.length:=by omega
    rw[splice_mid (by omega) ht]
    have e1:ds[t]?=some ds[t]:=List.getElem?_eq_getElem ht
    have e2:row[off+t]?=some row[off+t]:=List.getElem?_eq_getElem (by omega)
    have v1:isVal ds[t]=true:=List.all_eq_true.1 hd _ (List.getElem_mem ht)
    have v2:isVal row[off+t]=true:=by
     refine List.all_eq_true.1 ho _ (List.mem_of_getElem? (i:=t) ?_)
     rw[List.getElem?_take,if_pos (by omega),List.getElem?_drop,e2]
    rw[e1,e2]
    generalize ds[t]=x at*
    generalize row[off+t]=y at*
    cases x<;>simp[isVal] at v1
    cases y<;>simp[isVal] at v2
    rfl
  ·rw[List.getElem?_set_ne e]
theorem covered_val {p:Path} {r:Nat}:∀ {l:List D} {j:Nat},l.all isVal=true→covered p r j l=[]
 |[],_,_=>rfl
 |d::l,j,h=>by
  simp only[List.all_cons,Bool.and_eq_true] at h
  have hd:isOwn d=false:=by cases d<;>simp[isVal,isOwn] at h⊢
  simp only[covered,hd,Bool.false_eq_true,if_false]
  exact covered_val h.2
theorem shI_inj {i j:Id} (h:shI i=shI j):i=j:=by
 obtain⟨a,b,c⟩:=i; obtain⟨a',b',c'⟩:=j
 simp only[shI,Prod.mk.injEq] at h⊢
 exact⟨h.1,h.2.1,by omega⟩
theorem toOf_sca {S:Nat→SV} {O:Id→OS} {d:Nat} {v:VOp} {e:Eff} {i:Id} (h:pstep S O d v=some e) (hi:shI i∈toOf v e):ScaS (O i) (ov O e.objs i):=by
 have nohol:¬shI i∈holOf e:=fun hm=>by
  simp only[holOf,List.mem_filter,Bool.and_eq_true,decide_eq_true_eq] at hm
  have:=hm.2.1
  simp only[shI] at this
  omega
 unfold toOf at hi
 split at hi
 ·simp only[pstep] at h
  split at h<;>try cases h
  rename_i pt cs hp hcs
  split at h<;>try cases h
  rename_i hnn
  split at h<;>try cases h
  rename_i ds T ht
  split at h<;>try cases h
  rename_i ob k rows row hrow
  split at hi
  ·rename_i x hobj
   simp only[List.cons.injEq] at hobj
   obtain⟨_,rfl⟩:=hobj
   split at hi
   ·rename_i y j hw
    simp only[List.mem_singleton] at hi
    subst hi
    simp only[stWr] at hw
    split at hw
    ·rename_i hc
     simp only[Bool.and_eq_true,beq_iff_eq] at hc
     obtain⟨⟨⟨⟨c1,_⟩,c3⟩,c4⟩,c5⟩:=hc
     simp only[idsOf,List.map_nil,List.cons_append,List.nil_append,List.cons.injEq,and_true] at hw
     have hii:pt.id=i:=shI_inj hw.2
     subst hii
     have hpath:pt.path=[]:=by simpa using c1
     unfold rowAt at hrow
     rw[hpath] at hrow
     simp only[ov_nil,nav] at hrow
     split at hrow<;>try cases hrow
     rename_i o1 ho1
     split at hrow<;>try cases hrow
     rename_i r1 hr1
     split at hrow<;>try cases hrow
     rename_i hle
     refine⟨ob,{ob with rows:=setNav ob.rows pt.path (ob.rows.set pt.row (splice row pt.off ds)),dirty:=covered pt.path pt.row pt.off ((row.drop pt.off).take _)++ob.dirty},look_live ho1,by simp only[ov,getA,if_true]; rfl,rfl,?_,?_,?_⟩
     ·simp only[covered_val c4,List.nil_append]
     ·simp only[hpath,setNav,List.length_set]
     ·intro q hq
      simp only[hpath,setNav]
      exact nav_sca (n:=pt.n) hr1 hle (by rw[hnn.1]; exact c3) (by rw[hnn.1]; exact c4) c5 q hq
    ·rename_i hc
     simp[idsOf] at hw
   ·cases hi
  ·exact absurd hi nohol
 ·exact absurd hi nohol
 ·cases hi
theorem look_sca {a b:OS} (h:ScaS a b) (p:Path):(a.look p=none∧b.look p=none)∨∃ob ob',a.look p=some ob∧b.look p=some ob'∧ob'.k=ob.k∧ob'.dirty=ob.dirty∧ob'.rows.length=ob.rows.length∧∀p,p≠ []→nav ob'.k ob'.rows p=nav ob.k ob.rows p:=by
 obtain⟨ob,ob',rfl,rfl,h3,h4,h5,h6⟩:=h
 simp only[OS.look,h4]
 by_cases hs:staleAt ob.dirty p=true
 ·simp[hs]
 ·right
  exact⟨ob,ob',by simp[hs],by simp[hs],h3,h4,h5,h6⟩
theorem rowAt_sca {O O':Id→OS} {pt:Ptr} (hp:pt.path≠ []) (h:ScaS (O pt.id) (O' pt.id)):
  (rowAt O pt=none∧rowAt O' pt=none)∨∃o o' k rows row,rowAt O pt=some (o,k,rows,row)∧rowAt O' pt=some (o',k,rows,row)∧o'.dirty=o.dirty:=by
 unfold rowAt
 rcases look_sca h pt.path with⟨h1,h2⟩ |⟨ob,ob',h1,h2,h3,h4,h5,h6⟩
 ·rw[h1,h2]; exact .inl ⟨rfl,rfl⟩
 ·rw[h1,h2]
  simp only[]
  rw[h6 _ hp]
  cases nav ob.k ob.rows pt.path with
  |none=>exact .inl ⟨rfl,rfl⟩
  |some z=>
   simp only[]
   cases z.2[pt.row]? with
   |none=>exact .inl ⟨rfl,rfl⟩
   |some r=>
    simp only[]
    by_cases hl:pt.off+pt.n≤r.length
    ·rw[if_pos hl,if_pos hl]; exact .inr ⟨ob,ob',_,_,_,rfl,rfl,h4⟩
    ·rw[if_neg hl,if_neg hl]; exact .inl ⟨rfl,rfl⟩
theorem rowsAt_sca {O O':Id→OS} {r:Ref} (h:ScaS (O r.id) (O' r.id)):
  (rowsAt O r=none∧rowsAt O' r=none)∨∃o o' k rows rows',rowsAt O r=some (o,k,rows)∧rowsAt O' r=some (o',k,rows'):=by
 unfold rowsAt
 rcases look_sca h r.path with⟨h1,h2⟩ |⟨ob,ob',h1,h2,h3,h4,h5,h6⟩
 ·rw[h1,h2]; exact .inl ⟨rfl,rfl⟩
 ·rw[h1,h2]
  simp only[]
  by_cases hp:r.path=[]
  ·rw[hp]
   simp only[nav,h3]
   by_cases hl:r.lo+r.n≤ob.rows.length
   ·rw[if_pos hl,if_pos (by rw[h5]; exact hl)]; exact .inr ⟨_,_,_,_,_,rfl,rfl⟩
   ·rw[if_neg hl,if_neg (by rw[h5]; exact hl)]; exact .inl ⟨rfl,rfl⟩
  ·rw[h6 _ hp]
   cases nav ob.k ob.rows r.path with
   |none=>exact .inl ⟨rfl,rfl⟩
   |some z=>
    simp only[]
    by_cases hl:r.lo+r.n≤z.2.length
    ·rw[if_pos hl,if_pos hl]; exact .inr ⟨_,_,_,_,_,rfl,rfl⟩
    ·rw[if_neg hl,if_neg hl]; exact .inl ⟨rfl,rfl⟩
theorem sca_soft {S:Nat→SV} {O O':Id→OS} {d:Nat} {v:VOp} {e:Eff} {i:Id} (h:pstep S O d v=some e) (hi:shI i∈lbOf v e) (hR:ScaS (O i) (O' i)):pstep S O' d v=some e:=by
 unfold lbOf at hi
 split at hi
 ·split at hi
  ·split at hi
   ·rename_i hlt
    simp only[List.mem_singleton] at hi
    rw[← hi] at hlt
    simp only[shI] at hlt
    omega
   ·cases hi
  ·rename_i j j' hrd
   simp only[List.mem_singleton] at hi
   have hij:=shI_inj hi
   subst hij
   simp only[pstep] at h⊢
   split at h
   ·rename_i pt hx
    split at h<;>try cases h
    rename_i h0
    split at h<;>try cases h
    rename_i o k rows row h1
    split at h<;>try cases h
    rename_i cs h2
    split at h<;>try cases h
    rename_i u h3
    simp only[ldRd] at hrd
    split at hrd
    ·simp at hrd
    ·rename_i hpe
     simp only[List.cons.injEq,and_true] at hrd
     obtain⟨rfl,_⟩:=hrd
     rw[if_pos h0]
     rcases rowAt_sca (fun e=>hpe (by simp[e])) hR with⟨g1,_⟩ |⟨o1,o2,k1,rows1,row1,g1,g2,g3⟩
     ·rw[g1] at h1; cases h1
     ·rw[g1] at h1
      simp only[Option.some.injEq,Prod.mk.injEq] at h1
      obtain⟨rfl,rfl,rfl,rfl⟩:=h1
      rw[g2]
      simp only[g3,h2,h3]
   ·exact h
   ·cases h
  ·cases hi
 ·split at hi
  ·rename_i j hrd
   simp only[List.mem_singleton] at hi
   have hij:=shI_inj hi
   subst hij
   simp only[pstep] at h⊢
   split at h
   ·rename_i r k n hx hy
    split at h<;>try cases h
    rename_i o k' rows h1
    simp only[List.cons.injEq,and_true] at hrd
    subst hrd
    rcases rowsAt_sca hR with⟨g1,_⟩ |⟨o1,o2,k1,rows1,rows2,g1,g2⟩
    ·rw[g1] at h1; cases h1
    ·rw[g1] at h1
     simp only[Option.some.injEq,Prod.mk.injEq] at h1
     obtain⟨rfl,rfl,rfl⟩:=h1
     rw[g2]
   ·exact h
   ·cases h
  ·cases hi
 ·cases hi
end Go.Proofs.YtmdocdnidilaiaaGreat.V
