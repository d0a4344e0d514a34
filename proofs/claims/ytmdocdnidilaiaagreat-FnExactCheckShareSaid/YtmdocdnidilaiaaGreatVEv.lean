/- V: calls, regions, code: the big-step relation. Definitions only. -/
import Derived.Test.YtmdocdnidilaiaaGreatVDefs
namespace Go.Proofs.YtmdocdnidilaiaaGreat.V
open Go
def lendC (O:Id→OS):CV→Option (CV × List Id)
 |.nl _=>some (.bor 0 [],[])
 |.val v=>some (.val v,[])
 |.bor l rows=>some (.bor (l+1) rows,[])
 |.ref r=>match rowsAt O r with
  |some (_,_,rows)=>if fullR ((rows.drop r.lo).take r.n) then some (.bor 0 (toBR ((rows.drop r.lo).take r.n)),[r.id]) else none
  |none=>none
def lendCs (O:Id→OS):List CV→Option (List CV × List Id)
 |[]=>some ([],[])
 |c::l=>match lendC O c,lendCs O l with
  |some (c,i),some (cs,is)=>some (c::cs,i++is)
  |_,_=>none
mutual
def lend (O:Id→OS):SV→Option (SV × List Id)
 |.one c=>match lendC O c with
  |some (c,i)=>some (.one c,i)
  |none=>none
 |.agg cs=>match lendCs O cs with
  |some (cs,i)=>some (.agg cs,i)
  |none=>none
 |.ptr p=>match rowAt O p with
  |some (_,_,_,row)=>if fullL ((row.drop p.off).take p.n) then some (.bptr 0 (toBL ((row.drop p.off).take p.n)),[p.id]) else none
  |none=>none
 |.bptr l cs=>some (.bptr (l+1) cs,[])
 |.clo f a b=>match lendL O a,lendL O b with
  |some (a,i),some (b,j)=>some (.clo f a b,i++j)
  |_,_=>none
 |.tup _=>none
 |.dead=>none
def lendL (O:Id→OS):List SV→Option (List SV × List Id)
 |[]=>some ([],[])
 |v::l=>match lend O v,lendL O l with
  |some (v,i),some (vs,is)=>some (v::vs,i++is)
  |_,_=>none
end
def downR (rows:List (List D)):Option (List (List D)):=
 if pureR rows then some rows else match rows with
  |[ds]=>match downL ds with
   |some ds=>some [ds]
   |none=>none
  |_=>none
def upR (rows:List (List D)):Option (List (List D)):=
 if pureR rows then some rows else match rows with
  |[ds]=>match upL ds with
   |some ds=>some [ds]
   |none=>none
  |_=>none
structure GItem where
 c:Id
 ob:VObj
 i:Id
 q:Path
structure Give where
 items:List GItem
 T:List (Id × OS)
 rd:List Id
def Give.objs (g:Give):List (Id × VObj):=g.items.map fun x=>(x.c,x.ob)
def giveI (O:Id→OS) (a:Nat) (g:Give) (i:Id) (q:Path):Option (Id × Give):=
 match (ov O g.T i).look q with
 |some o=>match nav o.k o.rows q with
  |some (k,rows)=>match downR rows with
   |some rows=>if q.isEmpty=true→∀x∈g.items,x.i≠i then
     some ((a,g.items.length,0),⟨⟨(a,g.items.length,0),⟨k,rows,[]⟩,i,q⟩::g.items,(i,hollow o q)::g.T,g.rd⟩)
    else none
   |none=>none
  |none=>none
 |none=>none
def giveC (O:Id→OS) (a:Nat) (g:Give):CV→Option (CV × Give)
 |.val v=>some (.val v,g)
 |.nl k=>some (.nl k,g)
 |.bor l rows=>some (.bor (l+1) rows,g)
 |.ref r=>match giveI O a g r.id r.path with
  |some (c,g)=>some (.ref ⟨c,[],r.lo,r.n⟩,g)
  |none=>none
def giveCs (O:Id→OS) (a:Nat):Give→List CV→Option (List CV × Give)
 |g,[]=>some ([],g)
 |g,c::l=>match giveC O a g c with
  |some (c,g)=>match giveCs O a g l with
   |some (cs,g)=>some (c::cs,g)
   |none=>none
  |none=>none
mutual
def give (O:Id→OS) (a:Nat):Give→SV→Option (SV × Give)
 |g,.one c=>match giveC O a g c with
  |some (c,g)=>some (.one c,g)
  |none=>none
 |g,.agg cs=>match giveCs O a g cs with
  |some (cs,g)=>some (.agg cs,g)
  |none=>none
 |g,.ptr p=>match giveI O a g p.id p.path with
  |some (c,g)=>some (.ptr ⟨c,[],p.row,p.off,p.n⟩,g)
  |none=>none
 |g,.bptr l cs=>some (.bptr (l+1) cs,g)
 |g,.clo f x y=>match giveL O a g x with
  |some (x,g)=>match giveL O a g y with
   |some (y,g)=>some (.clo f x y,g)
   |none=>none
  |none=>none
 |_,.tup _=>none
 |_,.dead=>none
def giveL (O:Id→OS) (a:Nat):Give→List SV→Option (List SV × Give)
 |g,[]=>some ([],g)
 |g,v::l=>match give O a g v with
  |some (v,g)=>match giveL O a g l with
   |some (vs,g)=>some (v::vs,g)
   |none=>none
  |none=>none
end
def findI:List GItem→Id→Option GItem
 |[],_=>none
 |x::l,i=>if x.i=i∧x.q=[] then some x else findI l i
def alias_ (O:Id→OS) (g:Give):SV→Option SV
 |.ptr p=>match findI g.items p.id,(O p.id).look p.path with
  |some x,some _=>if(idsOf g.T).contains p.id then some (.ptr ⟨x.c,p.path,p.row,p.off,p.n⟩) else none
  |_,_=>none
 |_=>none
def prep (O:Id→OS) (ms:List Mode):Nat→Give→List SV→Option (List SV × Give)
 |_,g,[]=>some ([],g)
 |a,g,v::l=>match ms.getD a .lend with
  |.lend=>match lend O v with
   |some (v,rd)=>match prep O ms (a+1) {g with rd:=g.rd++rd} l with
    |some (vs,g)=>some (v::vs,g)
    |none=>none
   |none=>none
  |.io=>match give O a g v with
   |some (v,g)=>match prep O ms (a+1) g l with
    |some (vs,g)=>some (v::vs,g)
    |none=>none
   |none=>none
  |.nl=>match v with
   |.one (.nl k)=>match prep O ms (a+1) g l with
    |some (vs,g)=>some (.one (.nl k)::vs,g)
    |none=>none
   |_=>none
  |.eat=>match give O a g v with
   |some (v,g)=>match prep O ms (a+1) g l with
    |some (vs,g)=>some (v::vs,g)
    |none=>none
   |none=>none
  |.al=>match alias_ O g v with
   |some v=>match prep O ms (a+1) g l with
    |some (vs,g)=>some (v::vs,g)
    |none=>none
   |none=>none
def Mode.isEat:Mode→Bool
 |.eat=>true
 |_=>false
def keepP (ms:List Mode) (x:Id × VObj):Bool:= !(ms.getD x.1.1 .lend).isEat
def keepI (ms:List Mode) (x:GItem):Bool:=keepP ms (x.c,x.ob)
def undirt (p:Path) (l:List (Path × Bool)):List (Path × Bool):=l.map fun e=>if e.1=p∧e.2=false then(p,true) else e
def refill (O:Id→OS) (T:List (Id × OS)) (i:Id) (p:Path) (k:Nat) (rows:List (List D)):Option (List (Id × OS)):=
 if p.isEmpty then match O i with
  |.live o=>some ((i,.live ⟨k,rows,([],true)::o.dirty⟩)::T)
  |_=>none
 else match ov O T i with
  |.live o=>some ((i,.live {o with rows:=setCell o.rows p (.own k rows),dirty:=undirt p o.dirty})::T)
  |_=>none
def refills (O:Id→OS):List (Id × OS)→List GItem→List (List (List D))→Option (List (Id × OS))
 |T,[],[]=>some T
 |T,x::l,rows::n=>match refill O T x.i x.q x.ob.k rows with
  |some T=>refills O T l n
  |none=>none
 |_,_,_=>none
def importR (O:Id→OS) (dst c:Nat) (T:List (Id × OS)):Ret→Option (SV × List (Id × OS) × List Id)
 |.one d=>match importC O dst c T d with
  |some (v,T,is)=>some (.one v,T,is)
  |none=>none
 |.agg ds=>match importCs O dst c T ds with
  |some (vs,T,is)=>some (.agg vs,T,is)
  |none=>none
 |.ptr ds=>match newId (ov O T) dst c with
  |some i=>some (.ptr ⟨i,[],0,0,ds.length⟩,(i,.live ⟨ds.length,[ds],[]⟩)::T,both dst c)
  |none=>none
def importRs (O:Id→OS) (dst:Nat):Nat→List (Id × OS)→List Ret→Option (List SV × List (Id × OS) × List Id)
 |_,T,[]=>some ([],T,[])
 |c,T,r::l=>match importR O dst c T r with
  |some (v,T,is)=>match importRs O dst (c+32) T l with
   |some (vs,T,js)=>some (v::vs,T,is++js)
   |none=>none
  |none=>none
def tupV:List SV→SV
 |[v]=>v
 |vs=>.tup vs
def behind (O:Id→OS) (ms:List Mode) (g:Give) (dst:Option Nat) (outs:List (List (List D))) (rets:List Ret):Option Eff:=
 match refills O g.T (g.items.filter (keepI ms)) outs with
 |some T=>match dst with
  |none=>some ⟨True,.dead,T,g.rd,idsOf T⟩
  |some d=>match importRs O d 0 T rets with
   |some (vs,T,is)=>some ⟨True,tupV vs,T,g.rd,is++idsOf T⟩
   |none=>none
 |none=>none
def enterS:Nat→List SV→List (Nat × SV)
 |_,[]=>[]
 |i,v::l=>(i,v)::enterS (i+1) l
def enter (args:List SV) (objs:List (Id × VObj)):St:=⟨enterS 0 args,objs.map fun(i,o)=>(i,.live o)⟩
def retOf (O:Id→OS) (T:List (Id × OS)) (r:RetSpec):SV→Option (Ret × List (Id × OS))
 |.ptr p=>match p.path,(ov O T p.id).look [] with
  |[],some ob=>match ob.rows with
   |[ds]=>if p.row=0∧p.off=0∧p.n=ds.length then match upL ds with
     |some ds=>match r.cell,ds with
      |none,ds=>some (.ptr ds,(p.id,.dead)::T)
      |some (true,n),ds=>if ds.length=n then some (.agg ds,(p.id,.dead)::T) else none
      |some (false,n),[d]=>if n=1 then some (.one d,(p.id,.dead)::T) else none
      |_,_=>none
     |none=>none
    else none
   |_=>none
  |_,_=>none
 |.one c=>if r.cell.isSome then none else match takeC O T c with
  |some (d,T)=>match up d with
   |some d=>some (.one d,T)
   |none=>none
  |none=>none
 |.agg cs=>if r.cell.isSome then none else match takeCs O T cs with
  |some (ds,T)=>match upL ds with
   |some ds=>some (.agg ds,T)
   |none=>none
  |none=>none
 |_=>none
def retsOf (σ:St):List (Id × OS)→List RetSpec→Option (List Ret × List (Id × OS))
 |T,[]=>some ([],T)
 |T,r::l=>match retOf σ.obj T r (σ.slot r.slot) with
  |some (v,T)=>match retsOf σ T l with
   |some (vs,T)=>some (v::vs,T)
   |none=>none
  |none=>none
def outsOf (O:Id→OS):List (Id × VObj)→Option (List (List (List D)))
 |[]=>some []
 |(i,o)::l=>match O i,outsOf O l with
  |.live ob,some r=>if ob.k=o.k then match upR ob.rows with
    |some rows=>some (rows::r)
    |none=>none
   else none
  |_,_=>none
def takesM (O:Id→OS):List (Id × OS)→List (Id × VObj)→Option (List (Id × OS) × List (Id × VObj))
 |T,[]=>some (T,[])
 |T,(i,_)::l=>match O i with
  |.moved j p=>match (ov O T j).look p with
   |some o=>match nav o.k o.rows p with
    |some (k,rows)=>match takesM O ((j,hollow o p)::T) l with
     |some (T,ms)=>if ms.all (fun x=>x.1 !=i) then some (T,(i,⟨k,rows,[]⟩)::ms) else none
     |none=>none
    |none=>none
   |none=>none
  |_=>takesM O T l
def putM (ms:List (Id × VObj)) (T:List (Id × OS)):List (Id × OS):=(ms.map fun x=>(x.1,OS.live x.2))++T
def leave (fn:VFun) (objs:List (Id × VObj)) (σ:St):Option (List (List (List D)) × List Ret):=
 match retsOf σ [] fn.rets with
 |some (rs,T)=>match takesM σ.obj T objs with
  |some (T,ms)=>match outsOf (ov σ.obj (putM ms T)) objs with
   |some os=>some (os,rs)
   |none=>none
  |none=>none
 |none=>none
def cleanId (O:Id→OS) (keep:List Nat) (i:Id):Option Id:=
 if keep.contains i.1 then match O i with
  |.live _=>if i.2.2=0 then(match O (i.1,i.2.1,1) with | .live _=>none | _=>some (i.1,i.2.1,0)) else if i.2.2=1 then some (i.1,i.2.1,0) else none
  |_=>none
 else none
def staleO (O:Id→OS) (i:Id) (q:Path):Bool:=
 match O i with
 |.live o=>staleAt o.dirty q
 |_=>true
def cleanRef (O:Id→OS) (keep:List Nat) (r:Ref):Option Ref:=
 match cleanId O keep r.id with
 |some i=>if staleO O r.id r.path then none else some {r with id:=i}
 |none=>none
def cleanC (O:Id→OS) (keep:List Nat):CV→Option CV
 |.ref r=>(cleanRef O keep r).map .ref
 |c=>some c
def cleanCs (O:Id→OS) (keep:List Nat):List CV→Option (List CV)
 |[]=>some []
 |c::l=>match cleanC O keep c,cleanCs O keep l with
  |some c,some cs=>some (c::cs)
  |_,_=>none
mutual
def cleanV (O:Id→OS) (keep:List Nat):SV→Option SV
 |.dead=>none
 |.one c=>(cleanC O keep c).map .one
 |.agg cs=>(cleanCs O keep cs).map .agg
 |.ptr p=>match cleanId O keep p.id with
  |some i=>if staleO O p.id p.path then none else some (.ptr {p with id:=i})
  |none=>none
 |.bptr l cs=>some (.bptr l cs)
 |.tup _=>none
 |.clo f a b=>match cleanVs O keep a,cleanVs O keep b with
  |some a,some b=>some (.clo f a b)
  |_,_=>none
def cleanVs (O:Id→OS) (keep:List Nat):List SV→Option (List SV)
 |[]=>some []
 |v::l=>match cleanV O keep v,cleanVs O keep l with
  |some v,some l=>some (v::l)
  |_,_=>none
end
def cleanS (S:Nat→SV) (O:Id→OS) (keep:List Nat):List (Nat × SV)→List (Nat × SV)
 |[]=>[]
 | (i, _) :: l => if keep.contains i then (match cleanV O keep (S i) with
   |some v=>(i,v)::cleanS S O keep l
   |none=>cleanS S O keep l) else cleanS S O keep l
def liveAt (O:Id→OS) (i:Id):Bool:=match O i with | .live _=>true | _=>false
def cleanO (O:Id→OS) (keep:List Nat):List (Id × OS)→List (Id × OS)
 |[]=>[]
 |(i,_)::l=>match O i,cleanId O keep i with
  |.live ob,some j=>(j,.live {ob with dirty:=[]})::cleanO O keep l
  |.moved t p,_=>match cleanId O keep t with
   |some t'=>if keep.contains i.1 && i.2.2==0 && !staleO O t p && !liveAt O (i.1,i.2.1,1) then(i,.moved t' p)::cleanO O keep l else cleanO O keep l
   |none=>cleanO O keep l
  |_,_=>cleanO O keep l
def clean (keep:List Nat) (σ:St):St:=⟨cleanS σ.slot σ.obj keep σ.s,cleanO σ.obj keep σ.o⟩
inductive VX.Exit where
 |normal
 |exit (id:Nat)
 |ret
abbrev Log:=List (Nat × List Id × List Id × List Id × List Id)
def lbOf (v:VOp) (e:Eff):List Id:=
 match v with
 | .load .. => (match e.rd with
  |[i]=>if i.2.2 < 2 then[i] else[]
  |[i,_]=>[shI i]
  |_=>[])
 | .ia .. => (match e.rd with
  |[i]=>[shI i]
  |_=>[])
 |_=>[]
def cntI (l:List Id) (i:Id):Nat:=(l.filter fun j=>decide (j=i)).length
def holOf (e:Eff):List Id:=(idsOf e.objs.tail).filter fun i=>decide (i.2.2 < 2) &&(decide (cntI (idsOf e.objs) i=1) &&(match getA .none e.objs i with | .live _=>true | _=>false))
def toOf (v:VOp) (e:Eff):List Id:=
 match v with
 | .store .. => (match e.objs with
  | [_] => (match e.wr with
   |[_,j]=>[j]
   |_=>[])
  |_=>holOf e)
 |.app .. =>holOf e
 |_=>[]
def softA (to lb:List Id) (i:Id):Bool:=(decide (i.2.2 < 2) &&(to.contains i && lb.contains i)) ||(to.contains (shI i) && lb.contains (shI i))
def Soft (to lb:List Id) (i:Id):Prop:=(i.2.2 < 2∧i∈to∧i∈lb)∨(shI i∈to∧shI i∈lb)
def softI (w r to lb:List Id):Bool:=w.all fun i=> !r.contains i || softA to lb i
def apartI (a b:List Id):Bool:=a.all fun i=> !b.contains i
def indep (log:Log) (free:List Nat) (rd wr lb to:List Id):Bool:=
 log.all fun e=> !free.contains e.1 ||((apartI e.2.2.1 wr && softI e.2.2.1 rd e.2.2.2.2 lb) && softI wr e.2.1 to e.2.2.2.1)
inductive Task where
 |code (c:VC) (σ:St) (e:VX.Exit) (σ':St)
 |ops (draw:Bool) (log:Log) (n:Nat) (l:List VO) (σ σ':St)
 |call (f:FuncId) (args:List SV) (objs:List (Id × VObj)) (outs:List (List (List D))) (rets:List Ret)
def modesOf (F:FuncId→Option VFun) (f:FuncId):List Mode:=
 match F f with
 |some fn=>fn.modes
 |none=>[]
def callee (F:FuncId→Option VFun) (S:Nat→SV) (O:Id→OS):VOp→Option (FuncId × List SV × Give)
 |.call f args=>match prep O (modesOf F f) 0 ⟨[],[],[]⟩ (args.map (evx S)) with
  |some (vs,g)=>if apartI g.rd (idsOf g.T) then some (f,vs,g) else none
  |none=>none
 |.callv x args=>match evx S x with
  |.clo f a b=>match prep O (modesOf F f) 0 ⟨[],[],[]⟩ (a++args.map (evx S)++b) with
   |some (vs,g)=>if apartI g.rd (idsOf g.T) then some (f,vs,g) else none
   |none=>none
  |_=>none
 |_=>none
def wanted (S:Nat→SV):Option (Nat × Bool)→Option Bool
 |none=>some true
 |some (g,b)=>match S g with
  |.one (.val (.bool c))=>some (c==b)
  |.tup []=>some false
  |_=>none
def givenOK (fn:VFun) (objs:List (Id × VObj)):Bool:=objs.all fun x=>x.1.2.2==0 &&(match fn.modes[x.1.1]? with | some .io=>true | some .eat=>true | _=>false)
abbrev Ext:=FuncId→List SV→List (Id × VObj)→List Ret→Prop
inductive Ev (F:FuncId→Option VFun) (X:Ext):Task→Prop
 |skip {σ}:Ev F X (.code .skip σ .normal σ)
 |ret {σ}:Ev F X (.code .ret σ .ret σ)
 |exit {id σ}:Ev F X (.code (.exit id) σ (.exit id) σ)
 |seqN {a b σ σ₁ e σ₂}:Ev F X (.code a σ .normal σ₁)→Ev F X (.code b σ₁ e σ₂)→Ev F X (.code (.seq a b) σ e σ₂)
 |seqX {a b σ σ₁ e}:Ev F X (.code a σ e σ₁)→e≠.normal→Ev F X (.code (.seq a b) σ e σ₁)
 |cond {c a b t σ e σ'}:evx σ.slot c=boolV t→Ev F X (.code (if t then a else b) σ e σ')→Ev F X (.code (.cond c a b) σ e σ')
 |blockX {id a σ σ'}:Ev F X (.code a σ (.exit id) σ')→Ev F X (.code (.block id a) σ .normal σ')
 |block {id a σ e σ'}:Ev F X (.code a σ e σ')→e≠.exit id→Ev F X (.code (.block id a) σ e σ')
 |loopN {a σ σ₁ e σ₂}:Ev F X (.code a σ .normal σ₁)→Ev F X (.code (.loop a) σ₁ e σ₂)→Ev F X (.code (.loop a) σ e σ₂)
 |loopX {a σ e σ₁}:Ev F X (.code a σ e σ₁)→e≠.normal→Ev F X (.code (.loop a) σ e σ₁)
 |region {draw keep ops σ σ'}:Ev F X (.ops draw [] 0 ops σ σ')→Ev F X (.code (.region draw keep ops) σ .normal (clean keep σ'))
 |drop {c keep σ e σ'}:Ev F X (.code c (clean keep σ) e σ')→Ev F X (.code c σ e σ')
 |nil {draw log n σ}:Ev F X (.ops draw log n [] σ σ)
 |off {draw log n o l σ σ'}:wanted σ.slot o.guard=some false→Ev F X (.ops draw log (n+1) l (σ.upd o.dst (.tup []) []) σ')→Ev F X (.ops draw log n (o::l) σ σ')
 |op {draw log n o l σ σ' e}:wanted σ.slot o.guard=some true→pstep σ.slot σ.obj (o.dst.getD 0) o.op=some e→e.req→
   (draw=true→indep log o.free e.rd e.wr (lbOf o.op e) (toOf o.op e)=true)→
   Ev F X (.ops draw ((n,e.rd,e.wr,lbOf o.op e,toOf o.op e)::log) (n+1) l (σ.upd o.dst e.sv e.objs) σ')→Ev F X (.ops draw log n (o::l) σ σ')
 |opc {draw log n o l σ σ' f vs g os rs e}:wanted σ.slot o.guard=some true→callee F σ.slot σ.obj o.op=some (f,vs,g)→
   Ev F X (.call f vs g.objs os rs)→behind σ.obj (modesOf F f) g o.dst os rs=some e→
   (draw=true→indep log o.free e.rd e.wr (lbOf o.op e) (toOf o.op e)=true)→
   Ev F X (.ops draw ((n,e.rd,e.wr,lbOf o.op e,toOf o.op e)::log) (n+1) l (σ.upd o.dst e.sv e.objs) σ')→Ev F X (.ops draw log n (o::l) σ σ')
 |call {f fn args objs e σ' os rs}:F f=some fn→givenOK fn objs=true→Ev F X (.code fn.code (enter args objs) e σ')→(e=.ret∨e=.normal)→
   leave fn (objs.filter (keepP fn.modes)) σ'=some (os,rs)→Ev F X (.call f args objs os rs)
 |ext {f args objs rs}:X f args objs rs→objs.filter (keepP (modesOf F f))=[]→Ev F X (.call f args objs [] rs)
end Go.Proofs.YtmdocdnidilaiaaGreat.V
