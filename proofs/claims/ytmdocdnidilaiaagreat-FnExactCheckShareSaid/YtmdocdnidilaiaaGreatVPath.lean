/- V: a path through a function, computed: what is open is told by hints, what must hold is listed. -/
import Derived.Test.YtmdocdnidilaiaaGreatVRegion
namespace Go.Proofs.YtmdocdnidilaiaaGreat.V
open Go
abbrev NT:=List (Id × List Nat × Nat × List (List D))
inductive Hint where
 |b (c:Bool)
 |row (cs:List B)
 |rowD (ds:List D)
 |ints (l:List Int)
 |ret (outs:List (List (List D))) (rets:List Ret) (pures:List Bool) (lends:List (List (List B)))
 |loop (σ₀:St) (e:VX.Exit) (σ:St)
 |loopd (keep:List Nat) (σ₀:St) (e:VX.Exit) (σ:St)
 |norm (i:Id) (rows:List (List D))
 |nop
 |nav (nt:NT) (ds:List (List (Path × Bool))) (h:Hint)
def hcore:Option Hint→Option Hint
 |some (.nav _ _ h)=>some h
 |h=>h
def hnt:Option Hint→NT
 |some (.nav nt _ _)=>nt
 |_=>[]
def hds:Option Hint→List (List (Path × Bool))
 |some (.nav _ ds _)=>ds
 |_=>[]
abbrev Hints:=List (Nat × Hint)
def hintAt (hs:Hints) (t:Nat):Option Hint × Hints:=
 match hs with
 |[]=>(none,[])
 |(k,h)::l=>if k=t then(some h,l) else(none,(k,h)::l)
def All:List Prop→Prop
 |[]=>True
 |p::l=>p∧All l
def lookNT:NT→Id→List Nat→Option (Nat × List (List D))
 |[],_,_=>none
 |(i,c,k,rows)::l,j,d=>if i=j∧c=d then some (k,rows) else lookNT l j d
def navT (nt:NT) (i:Id) (o:VObj) (p:Path):Option (Nat × List (List D) × List Prop):=
 match p with
 |[]=>some (o.k,o.rows,[])
 |p=>match lookNT nt i (p.map (·.2)) with
  |some (k,rows)=>some (k,rows,[nav o.k o.rows p=some (k,rows)])
  |none=>match nav o.k o.rows p with
   |some (k,rows)=>some (k,rows,[])
   |none=>none
theorem navT_ok {nt:NT} {i:Id} {o:VObj} {p:Path} {k rows q} (h:navT nt i o p=some (k,rows,q)) (hq:All q):nav o.k o.rows p=some (k,rows):=by
 unfold navT at h
 split at h
 ·simp only[Option.some.injEq,Prod.mk.injEq] at h; obtain⟨rfl,rfl,_⟩:=h; rfl
 ·split at h
  ·simp only[Option.some.injEq,Prod.mk.injEq] at h
   obtain⟨rfl,rfl,rfl⟩:=h; exact hq.1
  ·split at h
   ·rename_i h1
    simp only[Option.some.injEq,Prod.mk.injEq] at h
    obtain⟨rfl,rfl,_⟩:=h; exact h1
   ·cases h
theorem All.append:∀ {a b:List Prop},All (a++b)→All a∧All b
 |[],_,h=>⟨trivial,h⟩
 |_::_,_,h=>⟨⟨h.1,(All.append h.2).1⟩,(All.append h.2).2⟩
structure EffH where
 e:Eff
 rq:List Prop
def plainH (e:Option Eff) (open_:Bool):Option EffH:=match e with
 |some e=>some ⟨e,if open_ then[e.req] else[]⟩
 |none=>none
def reqOp:BinOp→Bool
 |.quo | .rem | .shl | .shr | .add=>true
 |_=>false
def hasReq:VOp→Bool
 |.bin _ op _ _ _=>reqOp op
 | .ia _ _ _ _ _ | .cut _ _ _ _ _ _ | .mk _ _ _ _ _ _ _ | .app _ _ _ _ _ _ | .trunc _ _ _ _ _ | .appn _ _ _ _ _ _ _=>true
 |_=>false
def takeRH (nt:NT) (O:Id→OS) (T:List (Id × OS)) (r:Ref):Option (Nat × List (List D) × List (Id × OS) × List Prop):=
 match (ov O T r.id).look r.path with
 |some o=>match navT nt r.id o r.path with
  |some (k,rows,q)=>some (k,rows,(r.id,hollow o r.path)::T,q++ [r.lo=0,r.n=rows.length])
  |none=>none
 |none=>none
def takeCH (nt:NT) (O:Id→OS) (T:List (Id × OS)):CV→Option (D × List (Id × OS) × List Prop)
 |.val v=>some (.val v,T,[])
 |.nl k=>some (.own k [],T,[])
 |.bor l rows=>some (.bor l rows,T,[])
 |.ref r=>match takeRH nt O T r with
  |some (k,rows,T,q)=>some (.own k rows,T,q)
  |none=>none
def takeCsH (nt:NT) (O:Id→OS):List (Id × OS)→List CV→Option (List D × List (Id × OS) × List Prop)
 |T,[]=>some ([],T,[])
 |T,c::l=>match takeCH nt O T c with
  |some (d,T,q)=>match takeCsH nt O T l with
   |some (ds,T,q')=>some (d::ds,T,q++q')
   |none=>none
  |none=>none
def litRH (nt:NT) (S:Nat→SV) (O:Id→OS) (k:Nat):List (Id × OS)→List (List D)→List (Nat × VX)→Option (List (List D) × List (Id × OS) × List Prop)
 |T,rows,[]=>some (rows,T,[])
 |T,rows,(i,x)::l=>match (evx S x).cells with
  |some cs=>match takeCsH nt O T cs with
   | some (ds, T, q) => if ds.length = k ∧ i < rows.length then (match litRH nt S O k T (rows.set i ds) l with
     |some (rows,T,q')=>some (rows,T,q++q')
     |none=>none) else none
   |none=>none
  |none=>none
def rowsAtH (nt:NT) (O:Id→OS) (r:Ref):Option (VObj × Nat × List (List D) × List Prop):=
 match (O r.id).look r.path with
 |some o=>match navT nt r.id o r.path with
  |some (k,rows,q)=>some (o,k,rows,q++ [r.lo+r.n≤rows.length])
  |none=>none
 |none=>none
def rowAtH (nt:NT) (h:Option Hint) (O:Id→OS) (p:Ptr):Option (VObj × Nat × List (List D) × List D × List Prop):=
 match (O p.id).look p.path with
 |some o=>match navT nt p.id o p.path with
  |some (k,rows,q)=>match h with
   |some (.rowD ds)=>if p.off+p.n≤ds.length then some (o,k,rows,ds,q++ [rows[p.row]?=some ds]) else none
   |_=>match rows[p.row]? with
    |some row=>if p.off+p.n≤row.length then some (o,k,rows,row,q) else none
    |none=>none
  |none=>none
 |none=>none
def sourceH (nt:NT) (h:Option Hint) (O:Id→OS) (T:List (Id × OS)):SV→Option (List (List D) × List Id × List (Id × OS) × List Prop)
 |.one (.val (.string s))=>some (byteRows s,[],T,[])
 |.one (.nl _)=>some ([],[],T,[])
 |.one (.bor l rows)=>some (fromBR l rows,[],T,[])
 |.one (.ref r)=>match rowsAtH nt O r with
  |some (_,_,rows,q)=>match h with
   |some (.b true)=>some ((rows.drop r.lo).take r.n,[r.id],T,q++ [((rows.drop r.lo).take r.n |>.all (·.all copyable))=true])
   |some (.b false)=>match takeRH nt O T r with
    |some (_,rows',T,q')=>some (rows',[],T,q++((((rows.drop r.lo).take r.n |>.all (·.all copyable))=false)::q'))
    |none=>none
   |_=>none
  |none=>none
 |_=>none
def hstep0 (nt:NT) (h:Option Hint) (S:Nat→SV) (O:Id→OS) (dst:Nat) (op:VOp):Option EffH:=
 match op with
 |.pick c a b=>match evx S c,h with
  |.one (.val (.bool q)),some (.b t)=>match evx S (if t then a else b) with
   |.dead=>none
   |v=>some ⟨⟨True,v,[],[],[]⟩,[q=t]⟩
  |_,_=>plainH (pstep S O dst op) false
 |.lit _ _ k n zero parts=>match litRH nt S O k [] (List.replicate n (zeroD zero)) parts with
  | some (rows, T, q) => if zero.length = k then (match made O T dst ⟨k, rows, []⟩ (fun i => .one (.ref ⟨i, [], 0, rows.length⟩)) True [] with
   |some e=>some ⟨e,q⟩
   |none=>none) else none
  |none=>none
 |.box _ x=>match (evx S x).cells with
  |some cs=>match takeCsH nt O [] cs with
   |some (ds,T,q)=>match made O T dst ⟨ds.length,[ds],[]⟩ (fun i=>.ptr ⟨i,[],0,0,ds.length⟩) True [] with
    |some e=>some ⟨boxE cs e,q⟩
    |none=>none
   |none=>none
  |none=>none
 |.ia _ _ k x i=>match evx S x,evx S i with
  |.one (.ref r),.one (.val (.int _ n))=>match rowsAtH nt O r with
   |some (_,k',_,q)=>if k'=k then some ⟨⟨0≤n∧n < r.n∧k'=k,.ptr ⟨r.id,r.path,r.lo+n.toNat,0,k⟩,[],[r.id],[]⟩,q++ [0≤n∧n < r.n]⟩ else none
   |none=>none
  |.one (.bor l rows),.one (.val (.int _ n))=>match h with
   |some (.row cs)=>if cs.length=k then some ⟨⟨0≤n∧n < rows.length∧((rows[n.toNat]?).getD []).length=k,.bptr l cs,[],[],[]⟩,[0≤n,rows[n.toNat]?=some cs]⟩ else none
   |_=>none
  |_,_=>none
 |.load _ agg n x=>match evx S x with
  |.ptr p=>if p.n=n then match rowAtH nt h O p with
    |some (o,_,_,row,q)=>match cellsOut o.dirty p.id p.path p.row p.off ((row.drop p.off).take n) with
     |some cs=>match SV.ofCells agg cs with
      |some v=>some ⟨⟨True,v,[],ldRd p,[]⟩,q⟩
      |none=>none
     |none=>none
    |none=>none
   else none
  |_=>plainH (pstep S O dst op) false
 |.store _ n p x=>match evx S p,(evx S x).cells with
  |.ptr p,some cs=>if p.n=n∧cs.length=n then match takeCsH nt O [] cs with
    |some (ds,T,q)=>match rowAtH nt h (ov O T) p with
     |some (o,_,rows,row,q')=>some ⟨⟨True,.dead,(p.id,.live {o with rows:=setNav o.rows p.path (rows.set p.row (splice row p.off ds)),dirty:=covered p.path p.row p.off ((row.drop p.off).take n)++o.dirty})::T,[],stWr p ((row.drop p.off).take n) ds T⟩,q++q'⟩
     |none=>none
    |none=>none
   else none
  |_,_=>none
 |.cut _ e k x lo hi=>match evx S x with
  |.one (.ref r)=>match lowE S lo 0,lowE S hi r.n with
   |some l,some h=>match rowsAtH nt O r with
    |some (_,k',_,q)=>if e.isSome∧k'=k then some ⟨⟨(0≤l∧l≤h∧h≤r.n)∧k'=k,.one (.ref {r with lo:=r.lo+l.toNat,n:=h.toNat - l.toNat}),[],[r.id],[]⟩,q++ [0≤l∧l≤h∧h≤r.n]⟩ else none
    |none=>none
   |_,_=>none
  |_=>plainH (pstep S O dst op) true
 |.asgn x=>match evx S x with
  |.agg cs=>match takeCsH nt O [] cs with
   |some (ds,T,q)=>match importCs O dst 0 T ds with
    |some (cs',T',is)=>some ⟨⟨True,.agg cs',T',[],is++idsOf T'⟩,q⟩
    |none=>none
   |none=>none
  |.one c=>match takeCsH nt O [] [c] with
   |some (ds,T,q)=>match importCs O dst 0 T ds with
    |some ([c'],T',is)=>some ⟨⟨True,.one c',T',[],is++idsOf T'⟩,q⟩
    |_=>none
   |none=>none
  |_=>none
 |.trunc _ _ k x hi=>match evx S x,evx S hi with
  |.one (.ref r),.one (.val (.int _ h))=>match (O r.id).look r.path with
   |some o=>match navT nt r.id o r.path with
    | some (k', rows, q0) => if k' = k then (match made O [(r.id, hollow o r.path)] dst ⟨k, (rows.drop r.lo).take h.toNat, []⟩ (fun i => .one (.ref ⟨i, [], 0, ((rows.drop r.lo).take h.toNat).length⟩)) ((0 ≤ h ∧ h ≤ r.n) ∧ k' = k) [] with
      |some e=>some ⟨e,q0++ [r.lo+r.n≤rows.length,0≤h∧h≤r.n]⟩
      |none=>none) else none
    |none=>none
   |none=>none
  |_,_=>none
 |.app _ _ k bytes x y=>match evx S x with
  |.one (.nl _)=>match sourceH nt h O [] (evx S y) with
   |some (new,rd,T,q)=>match made O T dst ⟨k,new,[]⟩ (fun i=>.one (.ref ⟨i,[],0,new.length⟩)) (new.length*bytes≤70368744177664∧∀r∈new,r.length=k) rd with
    |some e=>some ⟨e,q++ [new.length*bytes≤70368744177664,∀r∈new,r.length=k]⟩
    |none=>none
   |none=>none
  |.one (.ref r)=>match (O r.id).look r.path with
   |some o=>match navT nt r.id o r.path with
    |some (k',rows,q0)=>match sourceH nt h O [(r.id,hollow o r.path)] (evx S y) with
      | some (new, rd, T, q) => if k' = k then (match made O T dst ⟨k, (rows.drop r.lo).take r.n ++ new, []⟩ (fun i => .one (.ref ⟨i, [], 0, ((rows.drop r.lo).take r.n ++ new).length⟩))
        (((rows.drop r.lo).take r.n++new).length*bytes≤70368744177664∧k'=k∧∀r∈new,r.length=k) rd with
       |some e=>some ⟨e,q0++((r.lo+r.n≤rows.length)::(q++ [((rows.drop r.lo).take r.n++new).length*bytes≤70368744177664,∀r∈new,r.length=k]))⟩
       |none=>none) else none
      |none=>none
    |none=>none
   |none=>none
  |_=>none
 |.appn u e' k bytes zero x m=>match evx S x,evx S m with
  |.one (.ref r),.one (.val (.int _ n))=>match (O r.id).look r.path with
   |some o=>match navT nt r.id o r.path with
    | some (k', rows, q0) => if zero.length = k ∧ k' = k then (match made O [(r.id, hollow o r.path)] dst ⟨k, (rows.drop r.lo).take r.n ++ List.replicate n.toNat (zeroD zero), []⟩ (fun i => .one (.ref ⟨i, [], 0, ((rows.drop r.lo).take r.n ++ List.replicate n.toNat (zeroD zero)).length⟩))
       ((0≤n∧((rows.drop r.lo).take r.n++List.replicate n.toNat (zeroD zero)).length≤70368744177664∧((rows.drop r.lo).take r.n++List.replicate n.toNat (zeroD zero)).length*bytes≤70368744177664)∧k'=k) [] with
      |some e=>some ⟨e,q0++ [r.lo+r.n≤rows.length,0≤n∧((rows.drop r.lo).take r.n++List.replicate n.toNat (zeroD zero)).length≤70368744177664∧((rows.drop r.lo).take r.n++List.replicate n.toNat (zeroD zero)).length*bytes≤70368744177664]⟩
      |none=>none) else none
    |none=>none
   |none=>none
  |_,_=>plainH (pstep S O dst (.appn u e' k bytes zero x m)) true
 |op=>plainH (pstep S O dst op) (hasReq op)
def hstep (h:Option Hint) (S:Nat→SV) (O:Id→OS) (dst:Nat) (op:VOp):Option EffH:=hstep0 (hnt h) (hcore h) S O dst op
section
variable {O:Id→OS} {nt:NT}
theorem takeRH_ok {T r k rows T' q} (h:takeRH nt O T r=some (k,rows,T',q)) (hq:All q):takeR O T r=some (k,rows,T'):=by
 unfold takeRH at h
 unfold takeR
 split at h<;>try cases h
 rename_i h1
 split at h<;>try cases h
 rename_i h2
 obtain⟨q1,q2⟩:=All.append hq
 simp only[h1,navT_ok h2 q1]
 rw[if_pos ⟨q2.1,q2.2.1⟩]
theorem takeCH_ok {T c d T' q} (h:takeCH nt O T c=some (d,T',q)) (hq:All q):takeC O T c=some (d,T'):=by
 cases c<;>simp only[takeCH,takeC] at h⊢
 case ref r=>
  split at h<;>try cases h
  rename_i h1
  rw[takeRH_ok h1 hq]
 all_goals (simp only[Option.some.injEq,Prod.mk.injEq] at h⊢; obtain⟨h1,h2,_⟩:=h; exact⟨h1,h2⟩)
theorem takeCsH_ok:∀ {cs:List CV} {T ds T' q},takeCsH nt O T cs=some (ds,T',q)→All q→takeCs O T cs=some (ds,T')
 |[],T,ds,T',q,h,_=>by
  simp only[takeCsH,takeCs,Option.some.injEq,Prod.mk.injEq] at h⊢
  exact⟨h.1,h.2.1⟩
 |c::cs,T,ds,T',q,h,hq=>by
  simp only[takeCsH] at h
  split at h<;>try cases h
  rename_i h1
  split at h<;>try cases h
  rename_i h2
  obtain⟨q1,q2⟩:=All.append hq
  simp only[takeCs]
  rw[takeCH_ok h1 q1]
  simp only[]
  rw[takeCsH_ok h2 q2]
theorem litRH_ok {S:Nat→SV} {k:Nat}:∀ {l:List (Nat × VX)} {T rows rows' T' q},litRH nt S O k T rows l=some (rows',T',q)→All q→litR S O k T rows l=some (rows',T')
 |[],T,rows,rows',T',q,h,_=>by
  simp only[litRH,litR,Option.some.injEq,Prod.mk.injEq] at h⊢
  exact⟨h.1,h.2.1⟩
 |(i,x)::l,T,rows,rows',T',q,h,hq=>by
  simp only[litRH] at h
  simp only[litR]
  split at h<;>try cases h
  rename_i h0
  split at h<;>try cases h
  rename_i h1
  split at h<;>try cases h
  rename_i h2
  split at h<;>try cases h
  rename_i h3
  obtain⟨q1,q2⟩:=All.append hq
  rw[h0]
  simp only[]
  rw[takeCsH_ok h1 q1]
  simp only[if_pos h2]
  exact litRH_ok h3 q2
theorem rowsAtH_ok {r o k rows q} (h:rowsAtH nt O r=some (o,k,rows,q)) (hq:All q):rowsAt O r=some (o,k,rows):=by
 unfold rowsAtH at h
 unfold rowsAt
 split at h<;>try cases h
 rename_i h1
 split at h<;>try cases h
 rename_i h2
 obtain⟨q1,q2⟩:=All.append hq
 simp only[h1,navT_ok h2 q1]
 rw[if_pos q2.1]
theorem rowAtH_ok {hi p o k rows row q} (h:rowAtH nt hi O p=some (o,k,rows,row,q)) (hq:All q):rowAt O p=some (o,k,rows,row):=by
 unfold rowAtH at h
 unfold rowAt
 split at h<;>try cases h
 rename_i h1
 split at h<;>try cases h
 rename_i h2
 split at h
 ·split at h<;>try cases h
  rename_i h3
  obtain⟨q1,q2⟩:=All.append hq
  simp only[h1,navT_ok h2 q1]
  rw[q2.1]
  simp only[if_pos h3]
 ·split at h<;>try cases h
  rename_i h3
  split at h<;>try cases h
  rename_i h4
  simp only[h1,navT_ok h2 hq]
  rw[h3]
  simp only[if_pos h4]
theorem sourceH_ok {hi T v rows rd T' q} (h:sourceH nt hi O T v=some (rows,rd,T',q)) (hq:All q):source O T v=some (rows,rd,T'):=by
 unfold sourceH at h
 unfold source
 split at h
 ·simp only[Option.some.injEq,Prod.mk.injEq] at h⊢; exact⟨h.1,h.2.1,h.2.2.1⟩
 ·simp only[Option.some.injEq,Prod.mk.injEq] at h⊢; exact⟨h.1,h.2.1,h.2.2.1⟩
 ·simp only[Option.some.injEq,Prod.mk.injEq] at h⊢; exact⟨h.1,h.2.1,h.2.2.1⟩
 ·split at h<;>try cases h
  rename_i h1
  split at h
  ·simp only[Option.some.injEq,Prod.mk.injEq] at h
   obtain⟨rfl,rfl,rfl,rfl⟩:=h
   obtain⟨q1,q2⟩:=All.append hq
   dsimp only
   rw[rowsAtH_ok h1 q1]
   dsimp only
   rw[if_pos q2.1]
  ·split at h<;>try cases h
   rename_i h2
   obtain⟨q1,q2⟩:=All.append hq
   dsimp only
   rw[rowsAtH_ok h1 q1]
   dsimp only
   rw[if_neg (by rw[q2.1]; simp),takeRH_ok h2 q2.2]
  ·cases h
 ·cases h
end
theorem okE_req {sv:SV} {e:Eff} (h:okE sv=some e):e.req:=by
 simp only[okE,Option.some.injEq] at h; subst h; trivial
theorem made_req {O:Id→OS} {T:List (Id × OS)} {dst:Nat} {o sv req rd e} (h:made O T dst o sv req rd=some e):e.req=req:=by
 unfold made at h
 split at h
 ·simp only[Option.some.injEq] at h; subst h; rfl
 ·cases h
theorem asgE_req {O:Id→OS} {t dst:Nat} {v:SV} {e} (h:asgE O dst t v=some e):e.req:=by
 cases v with
 |ptr p=>
  simp only[asgE] at h
  split at h
  ·split at h<;>try cases h
   trivial
  ·exact okE_req h
 |dead=>simp[asgE] at h
 |one c=>simp only[asgE,Option.some.injEq] at h; subst h; trivial
 |agg c=>simp only[asgE,Option.some.injEq] at h; subst h; trivial
 |bptr l cs=>exact okE_req h
 |tup vs=>exact okE_req h
 |clo f a b=>exact okE_req h
theorem intE_req {op k a b e} (h:intE op k a b=some e) (ho:reqOp op=false):e.req:=by
 cases op<;>simp only[intE,reqOp,reduceCtorEq,Bool.true_eq_false] at h ho<;>exact okE_req h
theorem pstep_req {S:Nat→SV} {O:Id→OS} {d:Nat} {v:VOp} {e:Eff} (ho:hasReq v=false) (h:pstep S O d v=some e):e.req:=by
 cases v<;>simp only[pstep] at h<;>simp only[hasReq,Bool.true_eq_false] at ho
 case asg x=>
  cases x with
  |t n=>
   simp only[] at h
   split at h
   ·cases h
   ·exact asgE_req h
  |c v=>
   simp only[] at h
   split at h
   ·exact okE_req h
   ·cases h
  |n k=>exact okE_req h
  |f f=>exact okE_req h
 case bin b op t x y=>
  unfold binE at h
  split at h
  ·split at h
   ·rename_i hs
    cases op<;>simp[isShift] at hs<;>simp[reqOp] at ho
   ·split at h
    ·exact intE_req h ho
    ·cases h
  ·split at h
   ·split at h<;>first | exact okE_req h | cases h
   ·cases h
  ·cases op<;>simp only[strE,reqOp,reduceCtorEq,Bool.true_eq_false] at h ho<;>exact okE_req h
  ·cases h
 case un=>
  unfold unE at h
  split at h
  ·split at h<;>first | exact okE_req h | cases h
  ·split at h<;>first | exact okE_req h | cases h
  ·cases h
 case lit=>
  split at h<;>try cases h
  split at h<;>try cases h
  rw[made_req h]; trivial
 case box=>
  split at h<;>try cases h
  split at h<;>try cases h
  split at h<;>try cases h
  rename_i he0
  have:=made_req he0
  unfold boxE
  split<;>(simp only[this])
 case alloc=>rw[made_req h]; trivial
 all_goals
  first
   |exact okE_req h
   |(repeat' split at h)<;>first | exact okE_req h |(injection h with h; subst h; trivial) |(cases h; done) |(simp at h; done)
theorem plainH_ok {S:Nat→SV} {O:Id→OS} {d:Nat} {v:VOp} {o:Bool} {x:EffH} (h:plainH (pstep S O d v) o=some x) (ho:o=true∨hasReq v=false) (hq:All x.rq):pstep S O d v=some x.e∧x.e.req:=by
 unfold plainH at h
 split at h<;>try cases h
 rename_i e he
 refine⟨he,?_⟩
 rcases ho with rfl | ho
 ·exact hq.1
 ·exact pstep_req ho he
theorem hstep0_ok {nt:NT} {hi:Option Hint} {S:Nat→SV} {O:Id→OS} {d:Nat} {v:VOp} {x:EffH} (h:hstep0 nt hi S O d v=some x) (hq:All x.rq):pstep S O d v=some x.e∧x.e.req:=by
 cases v<;>simp only[hstep0] at h
 case pick c a b=>
  split at h
  ·rename_i _ q t hc
   split at h
   ·cases h
   ·rename_i v hnd
    injection h with h
    subst h
    have:q=t:=hq.1
    subst this
    refine⟨?_,trivial⟩
    simp only[pstep,hc]
    rw[show evx S (if q=true then a else b)=evx S (if q=true then a else b) from rfl]
    generalize hz:evx S (if q=true then a else b)=z at*
    cases z<;>first | rfl | exact absurd rfl hnd
  ·exact plainH_ok h (.inr rfl) hq
 case lit=>
  split at h<;>try cases h
  rename_i h1
  split at h<;>try cases h
  rename_i h2
  split at h<;>try cases h
  rename_i h3
  refine⟨?_,by rw[made_req h3]; trivial⟩
  simp only[pstep]
  rw[litRH_ok h1 hq]
  simp only[if_pos h2,h3]
 case box=>
  split at h<;>try cases h
  rename_i h0
  split at h<;>try cases h
  rename_i h1
  split at h<;>try cases h
  rename_i h3
  refine⟨?_,?_⟩
  ·simp only[pstep,h0]
   rw[takeCsH_ok h1 hq]
   simp only[h3]
  ·have:=made_req h3
   simp only[boxE]
   split<;>(simp only[this])
 case ia t e k x' i=>
  split at h
  ·rename_i r kk n hx hi'
   split at h<;>try cases h
   rename_i h1
   split at h<;>try cases h
   rename_i h2
   obtain⟨q1,q2⟩:=All.append hq
   refine⟨?_,q2.1.1,q2.1.2,h2⟩
   simp only[pstep,hx,hi']
   rw[rowsAtH_ok h1 q1]
  ·rename_i l rows kk n hx hi'
   split at h<;>try cases h
   split at h<;>try cases h
   rename_i cs h2
   obtain⟨q1,q2,_⟩:=hq
   have hlt:=(List.getElem?_eq_some_iff.1 q2).1
   refine⟨?_,q1,by omega,by rw[q2]; exact h2⟩
   simp only[pstep,hx,hi']
   rw[q2]; rfl
  ·cases h
 case load t agg n x'=>
  split at h
  ·rename_i p hx
   split at h<;>try cases h
   rename_i h0
   split at h<;>try cases h
   rename_i h1
   split at h<;>try cases h
   rename_i h2
   split at h<;>try cases h
   rename_i h3
   refine⟨?_,trivial⟩
   simp only[pstep,hx,if_pos h0]
   rw[rowAtH_ok h1 hq]
   simp only[h2,h3]
  ·exact plainH_ok h (.inr rfl) hq
 case store t n p x'=>
  split at h<;>try cases h
  rename_i hp hx
  split at h<;>try cases h
  rename_i h0
  split at h<;>try cases h
  rename_i h1
  split at h<;>try cases h
  rename_i h2
  obtain⟨q1,q2⟩:=All.append hq
  refine⟨?_,trivial⟩
  simp only[pstep,hp,hx,if_pos h0]
  rw[takeCsH_ok h1 q1]
  simp only[]
  rw[rowAtH_ok h2 q2]
 case cut t e k x' lo hi'=>
  split at h
  ·rename_i r hx
   split at h<;>try cases h
   rename_i h0 h0'
   split at h<;>try cases h
   rename_i h1
   split at h<;>try cases h
   rename_i h2
   obtain⟨q1,q2⟩:=All.append hq
   refine⟨?_,q2.1,h2.2⟩
   simp only[pstep,hx,h0,h0']
   rw[rowsAtH_ok h1 q1]
   simp only[if_pos h2.1]
  ·exact plainH_ok h (.inl rfl) hq
 case appn u e' k bytes zero x' m=>
  split at h
  ·rename_i r q n hx hn
   split at h<;>try cases h
   rename_i h0
   split at h<;>try cases h
   rename_i h0'
   split at h<;>try cases h
   rename_i hk
   split at h<;>try cases h
   rename_i h2
   obtain⟨qn,hq⟩:=All.append hq
   refine⟨?_,by rw[made_req h2]; exact⟨hq.2.1,hk.2⟩⟩
   simp only[pstep,hx,hn,h0,navT_ok h0' qn,if_pos (And.intro hk.1 hq.1)]
   exact h2
  ·exact plainH_ok h (.inl rfl) hq
 case app t e k bytes x' y=>
  split at h
  ·rename_i hx
   split at h<;>try cases h
   rename_i h1
   split at h<;>try cases h
   rename_i h2
   obtain⟨q1,q2⟩:=All.append hq
   refine⟨?_,by rw[made_req h2]; exact⟨q2.1,q2.2.1⟩⟩
   simp only[pstep,hx]
   rw[sourceH_ok h1 q1]
   exact h2
  ·rename_i r hx
   split at h<;>try cases h
   rename_i h0
   split at h<;>try cases h
   rename_i h0'
   split at h<;>try cases h
   rename_i h1
   split at h<;>try cases h
   rename_i hk
   split at h<;>try cases h
   rename_i h2
   obtain⟨qn,hq⟩:=All.append hq
   obtain⟨q0,hq⟩:=hq
   obtain⟨q1,q2⟩:=All.append hq
   refine⟨?_,by rw[made_req h2]; exact⟨q2.1,hk,q2.2.1⟩⟩
   simp only[pstep,hx,h0,navT_ok h0' qn,if_pos q0]
   rw[sourceH_ok h1 q1]
   exact h2
  ·cases h
 case asgn x'=>
  split at h
  ·rename_i h0
   split at h<;>try cases h
   rename_i h1
   split at h<;>try cases h
   rename_i h2
   refine⟨?_,trivial⟩
   simp only[pstep,h0]
   rw[takeCsH_ok h1 hq]
   simp only[h2]
  ·rename_i h0
   split at h<;>try cases h
   rename_i h1
   split at h<;>try cases h
   rename_i h2
   refine⟨?_,trivial⟩
   simp only[pstep,h0]
   rw[takeCsH_ok h1 hq]
   simp only[h2]
  ·cases h
 case trunc t e k x' y=>
  split at h<;>try cases h
  rename_i hx hy
  split at h<;>try cases h
  rename_i h0
  split at h<;>try cases h
  rename_i h0'
  split at h<;>try cases h
  rename_i hk
  split at h<;>try cases h
  rename_i h2
  obtain⟨qn,q1⟩:=All.append hq
  refine⟨?_,by rw[made_req h2]; exact⟨q1.2.1,hk⟩⟩
  simp only[pstep,hx,hy,h0,navT_ok h0' qn,if_pos q1.1]
  exact h2
 case bin=>exact plainH_ok h (by cases hb:hasReq _; exact .inr rfl; exact .inl rfl) hq
 all_goals exact plainH_ok h (by first | exact .inl rfl | exact .inr rfl) hq
theorem hstep_ok {hi:Option Hint} {S:Nat→SV} {O:Id→OS} {d:Nat} {v:VOp} {x:EffH} (h:hstep hi S O d v=some x) (hq:All x.rq):pstep S O d v=some x.e∧x.e.req:=hstep0_ok h hq
end Go.Proofs.YtmdocdnidilaiaaGreat.V
