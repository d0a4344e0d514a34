/- V: a big-step evaluator of loaded Go code with value semantics. Definitions only. -/
import Derived.Calls
import Derived.Orders
namespace Go.Proofs.YtmdocdnidilaiaaGreat.V
open Go
inductive B where
 |val (v:Value)
 |sl (rows:List (List B))
 deriving Inhabited
inductive D where
 |val (v:Value)
 |own (k:Nat) (rows:List (List D))
 |bor (l:Nat) (rows:List (List B))
 |hole (n:Nat)
 deriving Inhabited
abbrev Id:=Nat × Nat × Nat
abbrev Path:=List (Nat × Nat)
structure Ref where
 id:Id
 path:Path
 lo:Nat
 n:Nat
inductive CV where
 |val (v:Value)
 |nl (k:Nat)
 |bor (l:Nat) (rows:List (List B))
 |ref (r:Ref)
structure Ptr where
 id:Id
 path:Path
 row:Nat
 off:Nat
 n:Nat
inductive SV where
 |dead
 |one (c:CV)
 |agg (cs:List CV)
 |ptr (p:Ptr)
 |bptr (l:Nat) (cs:List B)
 |tup (vs:List SV)
 |clo (f:FuncId) (first caps:List SV)
 deriving Inhabited
structure VObj where
 k:Nat
 rows:List (List D)
 dirty:List (Path × Bool)
inductive OS where
 |none
 |dead
 |moved (j:Id) (p:Path)
 |live (o:VObj)
structure St where
 s:List (Nat × SV)
 o:List (Id × OS)
def getA {α β:Type} [DecidableEq α] (d:β):List (α × β)→α→β
 |[],_=>d
 |(k,v)::l,x=>if k=x then v else getA d l x
def putA {α β:Type} [DecidableEq α]:List (α × β)→α→β→List (α × β)
 |[],x,v=>[(x,v)]
 |(k,u)::l,x,v=>if k=x then(k,v)::l else(k,u)::putA l x v
def St.slot (σ:St) (i:Nat):SV:=getA .dead σ.s i
def St.obj (σ:St) (i:Id):OS:=getA .none σ.o i
def putsN (o:List (Id × OS)):List (Id × OS)→List (Id × OS)
 |[]=>o
 |(i,x)::l=>putA (putsN o l) i x
def ov (O:Id→OS) (T:List (Id × OS)) (i:Id):OS:=getA (O i) T i
def St.upd (σ:St) (d:Option Nat) (v:SV) (objs:List (Id × OS)):St:=
 {s:=match d with | some i=>putA σ.s i v | none=>σ.s,o:=putsN σ.o objs}
inductive VX where
 |t (n:Nat)
 |c (v:Value)
 |n (k:Nat)
 |f (f:FuncId)
def flat:Value→Bool
 |.bool _ | .int _ _ | .string _=>true
 |.pointer none=>true
 |.nilFunc | .nilIface=>true
 |_=>false
inductive Mode where
 |lend
 |io
 |nl
 |eat
 |al
inductive Ret where
 |one (d:D)
 |agg (ds:List D)
 |ptr (ds:List D)
inductive VOp where
 |mov (x:VX)
 |asg (x:VX)
 |pick (c a b:VX)
 |bin (bool:Bool) (op:BinOp) (ty:TypeId) (x y:VX)
 |un (op:UnOp) (x:VX)
 |eqs (neg:Bool) (ty:TypeId) (ks:List Nat) (x y:VX)
 |conv (src dst:TypeId) (k:IntKind) (x:VX)
 |build (t:TypeId) (zero:List CV) (parts:List (Nat × Nat × Nat × VX))
 |lit (t e:TypeId) (k:Nat) (n:Nat) (zero:List CV) (parts:List (Nat × VX))
 |box (t:TypeId) (x:VX)
 |alloc (t:TypeId) (zero:List CV)
 |nilc (x:VX)
 |fa (t:TypeId) (f off n:Nat) (x:VX)
 |ia (t e:TypeId) (k:Nat) (x i:VX)
 |load (t:TypeId) (agg:Bool) (n:Nat) (x:VX)
 |store (t:TypeId) (n:Nat) (p x:VX)
 |cut (t:TypeId) (e:Option TypeId) (k:Nat) (x:VX) (lo hi:Option VX)
 |mk (t e:TypeId) (k bytes:Nat) (zero:List CV) (n c:VX)
 |app (t e:TypeId) (k bytes:Nat) (x y:VX)
 |len (str:Bool) (t:TypeId) (x:VX)
 |ext (x:VX) (i:Nat)
 |fn (f:FuncId) (first caps:List VX)
 |call (f:FuncId) (args:List VX)
 |callv (x:VX) (args:List VX)
 |appn (t e:TypeId) (k bytes:Nat) (zero:List CV) (x n:VX)
 |capn (t:TypeId) (x:VX)
 |trunc (t e:TypeId) (k:Nat) (x hi:VX)
 |asgn (x:VX)
structure VO where
 dst:Option Nat
 op:VOp
 guard:Option (Nat × Bool)
 free:List Nat
inductive VC where
 |skip
 |region (draw:Bool) (keep:List Nat) (ops:List VO)
 |seq (a b:VC)
 |cond (c:VX) (a b:VC)
 |block (id:Nat) (a:VC)
 |loop (a:VC)
 |exit (id:Nat)
 |ret
 |any
structure RetSpec where
 slot:Nat
 cell:Option (Bool × Nat)
structure VFun where
 code:VC
 modes:List Mode
 rets:List RetSpec
def nav:Nat→List (List D)→Path→Option (Nat × List (List D))
 |k,rows,[]=>some (k,rows)
 |_,rows,(i,j)::p=>
  match rows[i]? with
  |some row=>match row[j]? with
   |some (.own k' rows')=>nav k' rows' p
   |_=>none
  |none=>none
def setNav:List (List D)→Path→List (List D)→List (List D)
 |_,[],new=>new
 |rows,(i,j)::p,new=>rows.modify i fun row=>row.modify j fun
  |.own k' rows'=>.own k' (setNav rows' p new)
  |d=>d
def setCell:List (List D)→Path→D→List (List D)
 |rows,[],_=>rows
 |rows,[(i,j)],d=>rows.modify i fun row=>row.modify j fun _=>d
 |rows,(i,j)::p,d=>rows.modify i fun row=>row.modify j fun
  |.own k' rows'=>.own k' (setCell rows' p d)
  |d'=>d'
def staleAt:List (Path × Bool)→Path→Bool
 |[],_=>false
 |(p,strict)::l,q=>(p.isPrefixOf q && !(strict && decide (p.length=q.length))) || staleAt l q
def OS.look:OS→Path→Option VObj
 |.live o,q=>if staleAt o.dirty q then Option.none else some o
 |_,_=>Option.none
mutual
def toB:D→B
 |.val v=>.val v
 |.own _ rows=>.sl (toBR rows)
 |.bor _ rows=>.sl rows
 |.hole _=>.sl []
def toBL:List D→List B
 |[]=>[]
 |d::l=>toB d::toBL l
def toBR:List (List D)→List (List B)
 |[]=>[]
 |r::l=>toBL r::toBR l
end
def fromB (l:Nat):B→D
 |.val v=>.val v
 |.sl rows=>.bor l rows
def fromBR (l:Nat) (rows:List (List B)):List (List D):=rows.map (·.map (fromB l))
mutual
def full:D→Bool
 |.val _=>true
 |.own _ rows=>fullR rows
 |.bor _ _=>true
 |.hole _=>false
def fullL:List D→Bool
 |[]=>true
 |d::l=>full d && fullL l
def fullR:List (List D)→Bool
 |[]=>true
 |r::l=>fullL r && fullR l
end
mutual
def pure:D→Bool
 |.val _=>true
 |.own _ rows=>pureR rows
 |.bor _ _=>false
 |.hole _=>false
def pureL:List D→Bool
 |[]=>true
 |d::l=>pure d && pureL l
def pureR:List (List D)→Bool
 |[]=>true
 |r::l=>pureL r && pureR l
end
def copyable:D→Bool
 |.val _=>true
 |.bor _ _=>true
 |_=>false
def up:D→Option D
 |.val v=>some (.val v)
 |.own k rows=>if pureR rows then some (.own k rows) else none
 |.bor (l+1) rows=>some (.bor l rows)
 |_=>none
def upL:List D→Option (List D)
 |[]=>some []
 |d::l=>match up d,upL l with
  |some d,some l=>some (d::l)
  |_,_=>none
def down:D→Option D
 |.val v=>some (.val v)
 |.own k rows=>if pureR rows then some (.own k rows) else none
 |.bor l rows=>some (.bor (l+1) rows)
 |_=>none
def downL:List D→Option (List D)
 |[]=>some []
 |d::l=>match down d,downL l with
  |some d,some l=>some (d::l)
  |_,_=>none
structure Eff where
 req:Prop
 sv:SV
 objs:List (Id × OS)
 rd:List Id
 wr:List Id
def okE (v:SV):Option Eff:=some ⟨True,v,[],[],[]⟩
def evx (S:Nat→SV):VX→SV
 |.t n=>S n
 |.c v=>if flat v then .one (.val v) else .dead
 |.n k=>.one (.nl k)
 |.f f=>.clo f [] []
def SV.cells:SV→Option (List CV)
 |.one c=>some [c]
 |.agg cs=>some cs
 |_=>none
def nilS:Value:=.slice none 0 0
def newId (O:Id→OS) (d c:Nat):Option Id:=
 match O (d,c,0) with
 |.none=>some (d,c,0)
 |_=>match O (d,c,1) with
  |.none=>some (d,c,1)
  |_=>none
def CV.part:CV→Nat
 |.ref r=>r.id.2.1
 |_=>0
def CV.ids:CV→List Id
 |.ref r=>[r.id]
 |_=>[]
def both (d c:Nat):List Id:=[(d,c,0),(d,c,1)]
def lenAt (o:VObj) (p:Path):Nat:=
 match nav o.k o.rows p with
 |some (_,rows)=>rows.length
 |none=>0
def hollow (o:VObj) (p:Path):OS:=
 if p.isEmpty then .dead else .live {o with rows:=setCell o.rows p (.hole (lenAt o p)),dirty:=(p,false)::o.dirty}
def takeR (O:Id→OS) (T:List (Id × OS)) (r:Ref):Option (Nat × List (List D) × List (Id × OS)):=
 match (ov O T r.id).look r.path with
 |some o=>match nav o.k o.rows r.path with
  |some (k,rows)=>if r.lo=0∧r.n=rows.length then some (k,rows,(r.id,hollow o r.path)::T) else none
  |none=>none
 |none=>none
def takeC (O:Id→OS) (T:List (Id × OS)):CV→Option (D × List (Id × OS))
 |.val v=>some (.val v,T)
 |.nl k=>some (.own k [],T)
 |.bor l rows=>some (.bor l rows,T)
 |.ref r=>match takeR O T r with
  |some (k,rows,T)=>some (.own k rows,T)
  |none=>none
def takeCs (O:Id→OS):List (Id × OS)→List CV→Option (List D × List (Id × OS))
 |T,[]=>some ([],T)
 |T,c::l=>match takeC O T c with
  |some (d,T)=>match takeCs O T l with
   |some (ds,T)=>some (d::ds,T)
   |none=>none
  |none=>none
def idsOf (T:List (Id × OS)):List Id:=T.map (·.1)
def cellOut (dirt:List (Path × Bool)) (id:Id) (path:Path) (row:Nat):Nat→D→Option CV
 |_,.val v=>some (.val v)
 |_,.bor l rows=>some (.bor l rows)
 |j,.own _ rows=>some (.ref ⟨id,path++ [(row,j)],0,rows.length⟩)
 |j,.hole n=>if staleAt dirt (path++ [(row,j)]) then some (.ref ⟨id,path++ [(row,j)],0,n⟩) else none
def cellsOut (dirt:List (Path × Bool)) (id:Id) (path:Path) (row:Nat):Nat→List D→Option (List CV)
 |_,[]=>some []
 |j,d::l=>match cellOut dirt id path row j d,cellsOut dirt id path row (j+1) l with
  |some c,some cs=>some (c::cs)
  |_,_=>none
def cellB (l:Nat):B→CV
 |.val v=>.val v
 |.sl rows=>.bor l rows
def SV.ofCells (agg:Bool) (cs:List CV):Option SV:=
 if agg then some (.agg cs) else match cs with
  |[c]=>some (.one c)
  |_=>none
def rowAt (O:Id→OS) (p:Ptr):Option (VObj × Nat × List (List D) × List D):=
 match (O p.id).look p.path with
 |some o=>match nav o.k o.rows p.path with
  |some (k,rows)=>match rows[p.row]? with
   |some row=>if p.off+p.n≤row.length then some (o,k,rows,row) else none
   |none=>none
  |none=>none
 |none=>none
def rowsAt (O:Id→OS) (r:Ref):Option (VObj × Nat × List (List D)):=
 match (O r.id).look r.path with
 |some o=>match nav o.k o.rows r.path with
  |some (k,rows)=>if r.lo+r.n≤rows.length then some (o,k,rows) else none
  |none=>none
 |none=>none
def isOwn:D→Bool
 |.own _ _ | .hole _=>true
 |_=>false
def splice {α:Type} (row:List α) (off:Nat) (new:List α):List α:=row.take off++new++row.drop (off+new.length)
def intV (k:IntKind) (n:Int):SV:=.one (.val (.int k n))
def boolV (b:Bool):SV:=.one (.val (.bool b))
def strV (s:ByteArray):SV:=.one (.val (.string s))
def bitsV (op:BinOp) (k:IntKind) (x y:Int):Int:=
 match op with
 |.and=>k.wrap (BitVec.ofInt k.bits x &&& BitVec.ofInt k.bits y).toNat
 |.or=>k.wrap (BitVec.ofInt k.bits x ||| BitVec.ofInt k.bits y).toNat
 |.xor=>k.wrap (BitVec.ofInt k.bits x ^^^ BitVec.ofInt k.bits y).toNat
 |_=>k.wrap (BitVec.ofInt k.bits x &&& ~~~BitVec.ofInt k.bits y).toNat
def intE (op:BinOp) (k:IntKind) (a b:Int):Option Eff:=
 match op with
 |.add=>okE (intV k (k.wrap (a+b)))
 |.sub=>okE (intV k (k.wrap (a - b)))
 |.mul=>okE (intV k (k.wrap (a*b)))
 |.quo=>some ⟨b≠0,intV k (k.wrap (a.tdiv b)),[],[],[]⟩
 |.rem=>some ⟨b≠0,intV k (a.tmod b),[],[],[]⟩
 |.and=>okE (intV k (bitsV .and k a b))
 |.or=>okE (intV k (bitsV .or k a b))
 |.xor=>okE (intV k (bitsV .xor k a b))
 |.andNot=>okE (intV k (bitsV .andNot k a b))
 |.eql=>okE (boolV (a==b))
 |.neq=>okE (boolV (a !=b))
 |.lss=>okE (boolV (decide (a < b)))
 |.leq=>okE (boolV (decide (a≤b)))
 |.gtr=>okE (boolV (decide (a > b)))
 |.geq=>okE (boolV (decide (a≥b)))
 |_=>none
def shiftE (op:BinOp) (k:IntKind) (a b:Int):Option Eff:=
 match op with
 |.shl=>some ⟨0≤b,intV k (k.wrap (a*2 ^(min b.toNat k.bits))),[],[],[]⟩
 |.shr=>some ⟨0≤b,intV k (a.fdiv (2 ^(min b.toNat k.bits))),[],[],[]⟩
 |_=>none
def strE (op:BinOp) (a b:ByteArray):Option Eff:=
 match op with
 |.add=>some ⟨a.size+b.size≤9223372036854775807,strV (a++b),[],[],[]⟩
 |.eql=>okE (boolV (a.toList==b.toList))
 |.neq=>okE (boolV (!(a.toList==b.toList)))
 |_=>none
def isShift:BinOp→Bool
 |.shl | .shr=>true
 |_=>false
def eqCells:List Nat→List CV→List CV→Option Bool
 |[],[],[]=>some true
 |1::ks,.val (.int k a)::l,.val (.int k' b)::m=>if k=k' then(eqCells ks l m).map fun r=>a==b && r else none
 |0::ks,.val (.bool a)::l,.val (.bool b)::m=>(eqCells ks l m).map fun r=>a==b && r
 |2::ks,.val (.string a)::l,.val (.string b)::m=>(eqCells ks l m).map fun r=>a.toList==b.toList && r
 |_,_,_=>none
def binE (bool:Bool) (op:BinOp):SV→SV→Option Eff
 |.one (.val (.int k a)),.one (.val (.int k' b))=>if isShift op then shiftE op k a b else if k=k' then intE op k a b else none
 | .one (.val (.bool a)), .one (.val (.bool b)) => if bool then (match op with
  |.eql=>okE (boolV (a==b))
  |.neq=>okE (boolV (!(a==b)))
  |_=>none) else none
 |.one (.val (.string a)),.one (.val (.string b))=>strE op a b
 |_,_=>none
def unE (op:UnOp):SV→Option Eff
 |.one (.val (.bool b))=>match op with
  |.not=>okE (boolV (!b))
  |_=>none
 |.one (.val (.int k n))=>match op with
  |.neg=>okE (intV k (k.wrap (0 - n)))
  |_=>none
 |_=>none
def rowsInts (k:IntKind):List (List D)→Option (List Int)
 |[]=>some []
 |[.val (.int k' n)]::l=>if k'=k then(rowsInts k l).map (n::·) else none
 |_=>none
def bytesOf (l:List Int):ByteArray:=⟨(l.map fun n=>UInt8.ofNat n.toNat).toArray⟩
def byteRows (s:ByteArray):List (List D):=s.data.toList.map fun b=>[.val (.int .u8 b.toNat)]
def asgCell (O:Id→OS) (T:List (Id × OS)) (t dst:Nat):CV→CV × List (Id × OS)
 |.ref r=>
  if r.id.1=t then match r.path,(ov O T r.id).look [],newId (ov O T) dst r.id.2.1 with
   |[],some o,some i=>(.ref {r with id:=i},(i,.live o)::(r.id,.dead)::T)
   |_,_,_=>(.ref r,T)
  else(.ref r,T)
 |c=>(c,T)
def asgCells (O:Id→OS) (t dst:Nat):List (Id × OS)→List CV→List CV × List (Id × OS)
 |T,[]=>([],T)
 |T,c::l=>
  let r:=asgCell O T t dst c
  let r':=asgCells O t dst r.2 l
  (r.1::r'.1,r'.2)
def asgE (O:Id→OS) (dst:Nat) (t:Nat):SV→Option Eff
 |.dead=>none
 |.one c=>
  let r:=asgCell O [] t dst c
  some ⟨True,.one r.1,r.2,c.ids,idsOf r.2++both dst c.part⟩
 |.agg cs=>
  let r:=asgCells O t dst [] cs
  some ⟨True,.agg r.1,r.2,cs.flatMap CV.ids,idsOf r.2++cs.flatMap fun c=>both dst c.part⟩
 |.ptr p=>
  if p.id.1=t then match p.path,(O p.id).look [],newId O dst p.id.2.1 with
   |[],some o,some i=>some ⟨True,.ptr {p with id:=i},[(i,.live o),(p.id,.dead)],[],p.id::both dst p.id.2.1⟩
   |_,_,_=>none
  else okE (.ptr p)
 |v=>okE v
def buildC (S:Nat→SV):List CV→List (Nat × Nat × Nat × VX)→Option (List CV)
 |cs,[]=>some cs
 |cs,(_,off,n,x)::l=>match (evx S x).cells with
  |some new=>if new.length=n∧off+n≤cs.length then buildC S (splice cs off new) l else none
  |none=>none
def litR (S:Nat→SV) (O:Id→OS) (k:Nat):List (Id × OS)→List (List D)→List (Nat × VX)→Option (List (List D) × List (Id × OS))
 |T,rows,[]=>some (rows,T)
 |T,rows,(i,x)::l=>match (evx S x).cells with
  |some cs=>match takeCs O T cs with
   |some (ds,T)=>if ds.length=k∧i < rows.length then litR S O k T (rows.set i ds) l else none
   |none=>none
  |none=>none
def source (O:Id→OS) (T:List (Id × OS)):SV→Option (List (List D) × List Id × List (Id × OS))
 |.one (.val (.string s))=>some (byteRows s,[],T)
 |.one (.nl _)=>some ([],[],T)
 |.one (.bor l rows)=>some (fromBR l rows,[],T)
 |.one (.ref r)=>match rowsAt O r with
  |some (_,_,rows)=>
   if(rows.drop r.lo).take r.n |>.all (·.all copyable) then some ((rows.drop r.lo).take r.n,[r.id],T)
   else match takeR O T r with
    |some (_,rows,T)=>some (rows,[],T)
    |none=>none
  |none=>none
 |_=>none
def lowE (S:Nat→SV):Option VX→Int→Option Int
 |none,d=>some d
 |some x,_=>match evx S x with
  |.one (.val (.int _ n))=>some n
  |_=>none
def made (O:Id→OS) (T:List (Id × OS)) (dst:Nat) (o:VObj) (sv:Id→SV) (req:Prop) (rd:List Id):Option Eff:=
 match newId (ov O T) dst 0 with
 |some i=>some ⟨req,sv i,(i,.live o)::T,rd,both dst 0++idsOf T⟩
 |none=>none
def zeroD (zero:List CV):List D:=zero.map fun
 |.val v=>.val v
 |.nl k=>.own k []
 |_=>.hole 0
def movesOf (i:Id):Nat→List CV→List (Id × OS)
 |_,[]=>[]
 |j,.ref r::l=>if r.path.isEmpty then(r.id,.moved i [(0,j)])::movesOf i (j+1) l else movesOf i (j+1) l
 |j,_::l=>movesOf i (j+1) l
def boxE (cs:List CV) (e:Eff):Eff:=
 match e.objs with
 |(i,o)::T=>{e with objs:=(i,o)::(movesOf i 0 cs++T)}
 |[]=>e
def covered (p:Path) (row:Nat):Nat→List D→List (Path × Bool)
 |_,[]=>[]
 |j,d::l=>if isOwn d then(p++ [(row,j)],false)::covered p row (j+1) l else covered p row (j+1) l
def importC (O:Id→OS) (dst c:Nat) (T:List (Id × OS)):D→Option (CV × List (Id × OS) × List Id)
 |.val v=>some (.val v,T,[])
 |.bor l rows=>some (.bor l rows,T,[])
 |.own k rows=>match newId (ov O T) dst c with
  |some i=>some (.ref ⟨i,[],0,rows.length⟩,(i,.live ⟨k,rows,[]⟩)::T,both dst c)
  |none=>none
 |.hole _=>none
def importCs (O:Id→OS) (dst:Nat):Nat→List (Id × OS)→List D→Option (List CV × List (Id × OS) × List Id)
 |_,T,[]=>some ([],T,[])
 |c,T,d::l=>match importC O dst c T d with
  |some (v,T,is)=>match importCs O dst (c+1) T l with
   |some (vs,T,js)=>some (v::vs,T,is++js)
   |none=>none
  |none=>none
def shI (i:Id):Id:=(i.1,i.2.1,i.2.2+2)
def isVal:D→Bool
 |.val _=>true
 |_=>false
def stWr (p:Ptr) (old new:List D) (T:List (Id × OS)):List Id:=
 (p.id::idsOf T)++(if p.path.isEmpty && T.isEmpty && old.length==new.length && old.all isVal && new.all isVal then[shI p.id] else[])
def ldRd (p:Ptr):List Id:=if p.path.isEmpty then[p.id] else[p.id,p.id]
def pstep (S:Nat→SV) (O:Id→OS) (dst:Nat):VOp→Option Eff
 |.mov x=>match evx S x with
  |.dead=>none
  |v=>okE v
 |.asg x=>match x with
  |.t n=>if n=dst then none else asgE O dst n (S n)
  |.c v=>if flat v then okE (.one (.val v)) else none
  |.n k=>okE (.one (.nl k))
  |.f f=>okE (.clo f [] [])
 |.asgn x=>match evx S x with
  |.agg cs=>match takeCs O [] cs with
   |some (ds,T)=>match importCs O dst 0 T ds with
    |some (cs',T',is)=>some ⟨True,.agg cs',T',[],is++idsOf T'⟩
    |none=>none
   |none=>none
  |.one c=>match takeCs O [] [c] with
   |some (ds,T)=>match importCs O dst 0 T ds with
    |some ([c'],T',is)=>some ⟨True,.one c',T',[],is++idsOf T'⟩
    |_=>none
   |none=>none
  |_=>none
 |.pick c a b=>match evx S c with
  |.one (.val (.bool c))=>match evx S (if c then a else b) with
   |.dead=>none
   |v=>okE v
  |_=>none
 |.bin b op _ x y=>binE b op (evx S x) (evx S y)
 |.un op x=>unE op (evx S x)
 |.eqs neg _ ks x y=>match evx S x,evx S y with
  |.agg xs,.agg ys=>match eqCells ks xs ys with
   |some r=>okE (boolV (if neg then !r else r))
   |none=>none
  |_,_=>none
 |.conv _ _ k x=>match evx S x with
  |.one (.val (.int _ n))=>okE (intV k (k.wrap n))
  |_=>none
 |.build _ zero parts=>match buildC S zero parts with
  |some cs=>okE (.agg cs)
  |none=>none
 |.lit _ _ k n zero parts=>match litR S O k [] (List.replicate n (zeroD zero)) parts with
  |some (rows,T)=>if zero.length=k then made O T dst ⟨k,rows,[]⟩ (fun i=>.one (.ref ⟨i,[],0,rows.length⟩)) True [] else none
  |none=>none
 |.box _ x=>match (evx S x).cells with
  |some cs=>match takeCs O [] cs with
   |some (ds,T)=>match made O T dst ⟨ds.length,[ds],[]⟩ (fun i=>.ptr ⟨i,[],0,0,ds.length⟩) True [] with
    |some e=>some (boxE cs e)
    |none=>none
   |none=>none
  |none=>none
 |.alloc _ zero=>made O [] dst ⟨zero.length,[zeroD zero],[]⟩ (fun i=>.ptr ⟨i,[],0,0,zero.length⟩) True []
 |.nilc x=>match evx S x with
  |.ptr p=>okE (.ptr p)
  |.bptr l cs=>okE (.bptr l cs)
  |.clo f a b=>okE (.clo f a b)
  |_=>none
 |.fa _ _ off n x=>match evx S x with
  |.ptr p=>if off+n≤p.n then okE (.ptr {p with off:=p.off+off,n}) else none
  |.bptr l cs=>if off+n≤cs.length then okE (.bptr l ((cs.drop off).take n)) else none
  |_=>none
 |.ia _ _ k x i=>match evx S x,evx S i with
  |.one (.ref r),.one (.val (.int _ n))=>match rowsAt O r with
   |some (_,k',_)=>some ⟨0≤n∧n < r.n∧k'=k,.ptr ⟨r.id,r.path,r.lo+n.toNat,0,k⟩,[],[r.id],[]⟩
   |none=>none
  |.one (.bor l rows),.one (.val (.int _ n))=>some ⟨0≤n∧n < rows.length∧((rows[n.toNat]?).getD []).length=k,.bptr l ((rows[n.toNat]?).getD []),[],[],[]⟩
  |_,_=>none
 |.load _ agg n x=>match evx S x with
  |.ptr p=>if p.n=n then match rowAt O p with
    |some (o,_,_,row)=>match cellsOut o.dirty p.id p.path p.row p.off ((row.drop p.off).take n) with
     |some cs=>match SV.ofCells agg cs with
      |some v=>some ⟨True,v,[],ldRd p,[]⟩
      |none=>none
     |none=>none
    |none=>none
   else none
  |.bptr l cs=>if cs.length=n then match SV.ofCells agg (cs.map (cellB l)) with
    |some v=>okE v
    |none=>none
   else none
  |_=>none
 |.store _ n p x=>match evx S p,(evx S x).cells with
  |.ptr p,some cs=>if p.n=n∧cs.length=n then match takeCs O [] cs with
    |some (ds,T)=>match rowAt (ov O T) p with
     |some (o,_,rows,row)=>some ⟨True,.dead,(p.id,.live {o with rows:=setNav o.rows p.path (rows.set p.row (splice row p.off ds)),dirty:=covered p.path p.row p.off ((row.drop p.off).take n)++o.dirty})::T,[],stWr p ((row.drop p.off).take n) ds T⟩
     |none=>none
    |none=>none
   else none
  |_,_=>none
 |.cut _ e k x lo hi=>match evx S x with
  |.one (.val (.string s))=>match lowE S lo 0,lowE S hi s.size with
   |some l,some h=>if e.isNone then some ⟨0≤l∧l≤h∧h≤s.size,strV (s.extract l.toNat h.toNat),[],[],[]⟩ else none
   |_,_=>none
  |.one (.nl q)=>match lowE S lo 0,lowE S hi 0 with
   |some l,some h=>if e.isSome then some ⟨0≤l∧l≤h∧h≤0,.one (.nl q),[],[],[]⟩ else none
   |_,_=>none
  |.one (.bor m rows)=>match lowE S lo 0,lowE S hi rows.length with
   |some l,some h=>if e.isSome then some ⟨(0≤l∧l≤h∧h≤rows.length)∧∀r∈rows,r.length=k,.one (.bor m ((rows.drop l.toNat).take (h.toNat - l.toNat))),[],[],[]⟩ else none
   |_,_=>none
  |.one (.ref r)=>match lowE S lo 0,lowE S hi r.n with
   |some l,some h=>match rowsAt O r with
    |some (_,k',_)=>if e.isSome then some ⟨(0≤l∧l≤h∧h≤r.n)∧k'=k,.one (.ref {r with lo:=r.lo+l.toNat,n:=h.toNat - l.toNat}),[],[r.id],[]⟩ else none
    |none=>none
   |_,_=>none
  |_=>none
 |.mk _ _ k bytes zero n c=>match evx S n,evx S c with
  |.one (.val (.int _ n)),.one (.val (.int _ c))=>if zero.length=k then made O [] dst ⟨k,List.replicate n.toNat (zeroD zero),[]⟩ (fun i=>.one (.ref ⟨i,[],0,n.toNat⟩)) (0≤n∧n≤c∧c≤140737488355328∧c*bytes≤140737488355328) [] else none
  |_,_=>none
 |.app _ _ k bytes x y=>match evx S x with
  |.one (.nl _)=>match source O [] (evx S y) with
   |some (new,rd,T)=>made O T dst ⟨k,new,[]⟩ (fun i=>.one (.ref ⟨i,[],0,new.length⟩)) (new.length*bytes≤70368744177664∧∀r∈new,r.length=k) rd
   |none=>none
  |.one (.ref r)=>match (O r.id).look r.path with
   |some o=>match nav o.k o.rows r.path with
    |some (k',rows)=>if r.lo+r.n≤rows.length then
      match source O [(r.id,hollow o r.path)] (evx S y) with
      |some (new,rd,T)=>made O T dst ⟨k,(rows.drop r.lo).take r.n++new,[]⟩ (fun i=>.one (.ref ⟨i,[],0,((rows.drop r.lo).take r.n++new).length⟩))
        (((rows.drop r.lo).take r.n++new).length*bytes≤70368744177664∧k'=k∧∀r∈new,r.length=k) rd
      |none=>none
     else none
    |none=>none
   |none=>none
  |_=>none
 |.appn _ _ k bytes zero x n=>match evx S x,evx S n with
  |.one (.nl _),.one (.val (.int _ n))=>if zero.length=k then made O [] dst ⟨k,List.replicate n.toNat (zeroD zero),[]⟩ (fun i=>.one (.ref ⟨i,[],0,n.toNat⟩)) (1≤n∧n≤70368744177664∧n*bytes≤70368744177664) [] else none
  |.one (.ref r),.one (.val (.int _ n))=>match (O r.id).look r.path with
   |some o=>match nav o.k o.rows r.path with
    |some (k',rows)=>if zero.length=k∧r.lo+r.n≤rows.length then
      made O [(r.id,hollow o r.path)] dst ⟨k,(rows.drop r.lo).take r.n++List.replicate n.toNat (zeroD zero),[]⟩ (fun i=>.one (.ref ⟨i,[],0,((rows.drop r.lo).take r.n++List.replicate n.toNat (zeroD zero)).length⟩))
       ((0≤n∧((rows.drop r.lo).take r.n++List.replicate n.toNat (zeroD zero)).length≤70368744177664∧((rows.drop r.lo).take r.n++List.replicate n.toNat (zeroD zero)).length*bytes≤70368744177664)∧k'=k) []
     else none
    |none=>none
   |none=>none
  |_,_=>none
 |.capn _ x=>match evx S x with
  |.one (.nl _)=>okE (intV .i64 0)
  |_=>none
 |.trunc _ _ k x hi=>match evx S x,evx S hi with
  |.one (.ref r),.one (.val (.int _ h))=>match (O r.id).look r.path with
   |some o=>match nav o.k o.rows r.path with
    |some (k',rows)=>if r.lo+r.n≤rows.length then
      made O [(r.id,hollow o r.path)] dst ⟨k,(rows.drop r.lo).take h.toNat,[]⟩ (fun i=>.one (.ref ⟨i,[],0,((rows.drop r.lo).take h.toNat).length⟩)) ((0≤h∧h≤r.n)∧k'=k) []
     else none
    |none=>none
   |none=>none
  |_,_=>none
 | .len str _ x => if str then (match evx S x with
   |.one (.val (.string s))=>okE (intV .i64 s.size)
   |_=>none)
  else match evx S x with
   |.one (.nl _)=>okE (intV .i64 0)
   |.one (.bor _ rows)=>okE (intV .i64 rows.length)
   |.one (.ref r)=>okE (intV .i64 r.n)
   |_=>none
 |.ext x i=>match evx S x with
  |.tup vs=>match vs[i]? with
   |some v=>okE v
   |none=>none
  |_=>none
 |.fn f first caps=>okE (.clo f (first.map (evx S)) (caps.map (evx S)))
 |.call _ _=>none
 |.callv _ _=>none
end Go.Proofs.YtmdocdnidilaiaaGreat.V
