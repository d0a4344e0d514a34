/- V: a path through a function, computed: calls, regions, code. -/
import Derived.Test.YtmdocdnidilaiaaGreatVPath
namespace Go.Proofs.YtmdocdnidilaiaaGreat.V
open Go
abbrev Lends:=List (List (List B))
def lendCH (nt:NT) (O:Id→OS) (ls:Lends):CV→Option (CV × List Id × List Prop × Lends)
 |.nl _=>some (.bor 0 [],[],[],ls)
 |.val v=>some (.val v,[],[],ls)
 |.bor l rows=>some (.bor (l+1) rows,[],[],ls)
 |.ref r=>match rowsAtH nt O r with
  |some (_,_,rows,q)=>match ls with
   |[]=>some (.bor 0 (toBR ((rows.drop r.lo).take r.n)),[r.id],q++ [fullR ((rows.drop r.lo).take r.n)=true],[])
   |rs::ls=>some (.bor 0 rs,[r.id],q++ [fullR ((rows.drop r.lo).take r.n)=true,toBR ((rows.drop r.lo).take r.n)=rs],ls)
  |none=>none
def lendCsH (nt:NT) (O:Id→OS):Lends→List CV→Option (List CV × List Id × List Prop × Lends)
 |ls,[]=>some ([],[],[],ls)
 |ls,c::l=>match lendCH nt O ls c with
  |some (c,i,q,ls)=>match lendCsH nt O ls l with
   |some (cs,is,q',ls)=>some (c::cs,i++is,q++q',ls)
   |none=>none
  |none=>none
mutual
def lendH (nt:NT) (O:Id→OS):Lends→SV→Option (SV × List Id × List Prop × Lends)
 |ls,.one c=>match lendCH nt O ls c with
  |some (c,i,q,ls)=>some (.one c,i,q,ls)
  |none=>none
 |ls,.agg cs=>match lendCsH nt O ls cs with
  |some (cs,i,q,ls)=>some (.agg cs,i,q,ls)
  |none=>none
 |ls,.ptr p=>match rowAtH nt none O p with
  |some (_,_,_,row,q)=>some (.bptr 0 (toBL ((row.drop p.off).take p.n)),[p.id],q++ [fullL ((row.drop p.off).take p.n)=true],ls)
  |none=>none
 |ls,.bptr l cs=>some (.bptr (l+1) cs,[],[],ls)
 |ls,.clo f a b=>match lendLH nt O ls a with
  |some (a,i,q,ls)=>match lendLH nt O ls b with
   |some (b,j,q',ls)=>some (.clo f a b,i++j,q++q',ls)
   |none=>none
  |none=>none
 |_,.tup _=>none
 |_,.dead=>none
def lendLH (nt:NT) (O:Id→OS):Lends→List SV→Option (List SV × List Id × List Prop × Lends)
 |ls,[]=>some ([],[],[],ls)
 |ls,v::l=>match lendH nt O ls v with
  |some (v,i,q,ls)=>match lendLH nt O ls l with
   |some (vs,is,q',ls)=>some (v::vs,i++is,q++q',ls)
   |none=>none
  |none=>none
end
def downH:D→Option (D × List Prop)
 |.val v=>some (.val v,[])
 |.own k rows=>some (.own k rows,[pureR rows=true])
 |.bor l rows=>some (.bor (l+1) rows,[])
 |.hole _=>none
def downLH:List D→Option (List D × List Prop)
 |[]=>some ([],[])
 |d::l=>match downH d,downLH l with
  |some (d,q),some (l,q')=>some (d::l,q++q')
  |_,_=>none
def upH:D→Option (D × List Prop)
 |.val v=>some (.val v,[])
 |.own k rows=>some (.own k rows,[pureR rows=true])
 |.bor (l+1) rows=>some (.bor l rows,[])
 |_=>none
def upLH:List D→Option (List D × List Prop)
 |[]=>some ([],[])
 |d::l=>match upH d,upLH l with
  |some (d,q),some (l,q')=>some (d::l,q++q')
  |_,_=>none
abbrev Bits:=List Bool
def downRH (ps:Bits) (rows:List (List D)):Option (List (List D) × List Prop × Bits):=
 match ps with
 |true::ps=>some (rows,[pureR rows=true],ps)
 |ps=>match rows with
  |[ds]=>match downLH ds with
   |some (ds,q)=>some ([ds],q,ps.tail)
   |none=>none
  |_=>none
def upRH (ps:Bits) (rows:List (List D)):Option (List (List D) × List Prop × Bits):=
 match ps with
 |true::ps=>some (rows,[pureR rows=true],ps)
 |ps=>match rows with
  |[ds]=>match upLH ds with
   |some (ds,q)=>some ([ds],q,ps.tail)
   |none=>none
  |_=>none
def giveIH (nt:NT) (O:Id→OS) (a:Nat) (ps:Bits) (g:Give) (i:Id) (q:Path):Option (Id × Give × List Prop × Bits):=
 match (ov O g.T i).look q with
 |some o=>match navT nt i o q with
  |some (k,rows,qn)=>match downRH ps rows with
   |some (rows,rq,ps)=>if q.isEmpty=true→∀x∈g.items,x.i≠i then
     some ((a,g.items.length,0),⟨⟨(a,g.items.length,0),⟨k,rows,[]⟩,i,q⟩::g.items,(i,hollow o q)::g.T,g.rd⟩,qn++rq,ps)
    else none
   |none=>none
  |none=>none
 |none=>none
def giveCH (nt:NT) (O:Id→OS) (a:Nat) (ps:Bits) (g:Give):CV→Option (CV × Give × List Prop × Bits)
 |.val v=>some (.val v,g,[],ps)
 |.nl k=>some (.nl k,g,[],ps)
 |.bor l rows=>some (.bor (l+1) rows,g,[],ps)
 |.ref r=>match giveIH nt O a ps g r.id r.path with
  |some (c,g,q,ps)=>some (.ref ⟨c,[],r.lo,r.n⟩,g,q,ps)
  |none=>none
def giveCsH (nt:NT) (O:Id→OS) (a:Nat):Bits→Give→List CV→Option (List CV × Give × List Prop × Bits)
 |ps,g,[]=>some ([],g,[],ps)
 |ps,g,c::l=>match giveCH nt O a ps g c with
  |some (c,g,q,ps)=>match giveCsH nt O a ps g l with
   |some (cs,g,q',ps)=>some (c::cs,g,q++q',ps)
   |none=>none
  |none=>none
mutual
def giveH (nt:NT) (O:Id→OS) (a:Nat):Bits→Give→SV→Option (SV × Give × List Prop × Bits)
 |ps,g,.one c=>match giveCH nt O a ps g c with
  |some (c,g,q,ps)=>some (.one c,g,q,ps)
  |none=>none
 |ps,g,.agg cs=>match giveCsH nt O a ps g cs with
  |some (cs,g,q,ps)=>some (.agg cs,g,q,ps)
  |none=>none
 |ps,g,.ptr p=>match giveIH nt O a ps g p.id p.path with
  |some (c,g,q,ps)=>some (.ptr ⟨c,[],p.row,p.off,p.n⟩,g,q,ps)
  |none=>none
 |ps,g,.bptr l cs=>some (.bptr (l+1) cs,g,[],ps)
 |ps,g,.clo f x y=>match giveLH nt O a ps g x with
  |some (x,g,q,ps)=>match giveLH nt O a ps g y with
   |some (y,g,q',ps)=>some (.clo f x y,g,q++q',ps)
   |none=>none
  |none=>none
 |_,_,.tup _=>none
 |_,_,.dead=>none
def giveLH (nt:NT) (O:Id→OS) (a:Nat):Bits→Give→List SV→Option (List SV × Give × List Prop × Bits)
 |ps,g,[]=>some ([],g,[],ps)
 |ps,g,v::l=>match giveH nt O a ps g v with
  |some (v,g,q,ps)=>match giveLH nt O a ps g l with
   |some (vs,g,q',ps)=>some (v::vs,g,q++q',ps)
   |none=>none
  |none=>none
end
def prepH (nt:NT) (O:Id→OS) (ms:List Mode):Nat→Bits→Lends→Give→List SV→Option (List SV × Give × List Prop)
 |_,_,_,g,[]=>some ([],g,[])
 |a,ps,ls,g,v::l=>match ms.getD a .lend with
  |.lend=>match lendH nt O ls v with
   |some (v,rd,q,ls)=>match prepH nt O ms (a+1) ps ls {g with rd:=g.rd++rd} l with
    |some (vs,g,q')=>some (v::vs,g,q++q')
    |none=>none
   |none=>none
  |.io=>match giveH nt O a ps g v with
   |some (v,g,q,ps)=>match prepH nt O ms (a+1) ps ls g l with
    |some (vs,g,q')=>some (v::vs,g,q++q')
    |none=>none
   |none=>none
  |.nl=>match v with
   |.one (.nl k)=>match prepH nt O ms (a+1) ps ls g l with
    |some (vs,g,q')=>some (.one (.nl k)::vs,g,q')
    |none=>none
   |_=>none
  |.eat=>match giveH nt O a ps g v with
   |some (v,g,q,ps)=>match prepH nt O ms (a+1) ps ls g l with
    |some (vs,g,q')=>some (v::vs,g,q++q')
    |none=>none
   |none=>none
  |.al=>match alias_ O g v with
   |some v=>match prepH nt O ms (a+1) ps ls g l with
    |some (vs,g,q')=>some (v::vs,g,q')
    |none=>none
   |none=>none
def calleeH (F:FuncId→Option VFun) (nt:NT) (ps:Bits) (ls:Lends) (S:Nat→SV) (O:Id→OS):VOp→Option (FuncId × List SV × Give × List Prop)
 |.call f args=>match prepH nt O (modesOf F f) 0 ps ls ⟨[],[],[]⟩ (args.map (evx S)) with
  |some (vs,g,q)=>if apartI g.rd (idsOf g.T) then some (f,vs,g,q) else none
  |none=>none
 |.callv x args=>match evx S x with
  |.clo f a b=>match prepH nt O (modesOf F f) 0 ps ls ⟨[],[],[]⟩ (a++args.map (evx S)++b) with
   |some (vs,g,q)=>if apartI g.rd (idsOf g.T) then some (f,vs,g,q) else none
   |none=>none
  |_=>none
 |_=>none
section
variable {O:Id→OS} {nt:NT}
theorem lendCH_ok {ls ls':Lends} {c c':CV} {i q} (h:lendCH nt O ls c=some (c',i,q,ls')) (hq:All q):lendC O c=some (c',i):=by
 cases c<;>simp only[lendCH,lendC] at h⊢
 case ref r=>
  split at h<;>try cases h
  rename_i h1
  split at h
  ·simp only[Option.some.injEq,Prod.mk.injEq] at h
   obtain⟨rfl,rfl,rfl,_⟩:=h
   obtain⟨q1,q2⟩:=All.append hq
   rw[rowsAtH_ok h1 q1]
   simp only[q2.1,if_true]
  ·simp only[Option.some.injEq,Prod.mk.injEq] at h
   obtain⟨rfl,rfl,rfl,_⟩:=h
   obtain⟨q1,q2⟩:=All.append hq
   rw[rowsAtH_ok h1 q1]
   simp only[q2.1,if_true]
   rw[q2.2.1]
 all_goals (simp only[Option.some.injEq,Prod.mk.injEq] at h⊢; exact⟨h.1,h.2.1⟩)
theorem lendCsH_ok:∀ {l l':List CV} {ls ls':Lends} {i q},lendCsH nt O ls l=some (l',i,q,ls')→All q→lendCs O l=some (l',i)
 |[],l',ls,ls',i,q,h,_=>by
  simp only[lendCsH,lendCs,Option.some.injEq,Prod.mk.injEq] at h⊢; exact⟨h.1,h.2.1⟩
 |c::l,l',ls,ls',i,q,h,hq=>by
  simp only[lendCsH] at h
  split at h<;>try cases h
  rename_i h1
  split at h<;>try cases h
  rename_i h2
  obtain⟨q1,q2⟩:=All.append hq
  simp only[lendCs]
  rw[lendCH_ok h1 q1,lendCsH_ok h2 q2]
mutual
theorem lendH_ok:∀ {v v':SV} {ls ls':Lends} {i q},lendH nt O ls v=some (v',i,q,ls')→All q→lend O v=some (v',i)
 |.one c,v',ls,ls',i,q,h,hq=>by
  simp only[lendH,lend] at h⊢
  split at h<;>try cases h
  rename_i h1
  rw[lendCH_ok h1 hq]
 |.agg c,v',ls,ls',i,q,h,hq=>by
  simp only[lendH,lend] at h⊢
  split at h<;>try cases h
  rename_i h1
  rw[lendCsH_ok h1 hq]
 |.ptr p,v',ls,ls',i,q,h,hq=>by
  simp only[lendH,lend] at h⊢
  split at h<;>try cases h
  rename_i h1
  obtain⟨q1,q2⟩:=All.append hq
  rw[rowAtH_ok h1 q1]
  simp only[q2.1,if_true]
 |.bptr l cs,v',ls,ls',i,q,h,hq=>by
  simp only[lendH,lend,Option.some.injEq,Prod.mk.injEq] at h⊢; exact⟨h.1,h.2.1⟩
 |.clo f a b,v',ls,ls',i,q,h,hq=>by
  simp only[lendH,lend] at h⊢
  split at h<;>try cases h
  rename_i h1
  split at h<;>try cases h
  rename_i h2
  obtain⟨q1,q2⟩:=All.append hq
  rw[lendLH_ok h1 q1,lendLH_ok h2 q2]
 |.tup _,v',ls,ls',i,q,h,_=>by simp[lendH] at h
 |.dead,v',ls,ls',i,q,h,_=>by simp[lendH] at h
theorem lendLH_ok:∀ {l l':List SV} {ls ls':Lends} {i q},lendLH nt O ls l=some (l',i,q,ls')→All q→lendL O l=some (l',i)
 |[],l',ls,ls',i,q,h,_=>by
  simp only[lendLH,lendL,Option.some.injEq,Prod.mk.injEq] at h⊢; exact⟨h.1,h.2.1⟩
 |c::l,l',ls,ls',i,q,h,hq=>by
  simp only[lendLH] at h
  split at h<;>try cases h
  rename_i h1
  split at h<;>try cases h
  rename_i h2
  obtain⟨q1,q2⟩:=All.append hq
  simp only[lendL]
  rw[lendH_ok h1 q1,lendLH_ok h2 q2]
end
theorem downLH_ok:∀ {ds ds':List D} {q},downLH ds=some (ds',q)→All q→downL ds=some ds'
 |[],ds',q,h,_=>by simp only[downLH,downL,Option.some.injEq,Prod.mk.injEq] at h⊢; exact h.1
 |d::l,ds',q,h,hq=>by
  simp only[downLH] at h
  split at h<;>try cases h
  rename_i h1 h2
  obtain⟨q1,q2⟩:=All.append hq
  simp only[downL]
  rw[downLH_ok h2 q2]
  cases d<;>simp only[downH,Option.some.injEq,Prod.mk.injEq,reduceCtorEq] at h1
  ·obtain⟨rfl,rfl⟩:=h1; rfl
  ·obtain⟨rfl,rfl⟩:=h1
   simp only[down,q1.1,if_true]
  ·obtain⟨rfl,rfl⟩:=h1; rfl
theorem upLH_ok:∀ {ds ds':List D} {q},upLH ds=some (ds',q)→All q→upL ds=some ds'
 |[],ds',q,h,_=>by simp only[upLH,upL,Option.some.injEq,Prod.mk.injEq] at h⊢; exact h.1
 |d::l,ds',q,h,hq=>by
  simp only[upLH] at h
  split at h<;>try cases h
  rename_i h1 h2
  obtain⟨q1,q2⟩:=All.append hq
  simp only[upL]
  rw[upLH_ok h2 q2]
  match d,h1 with
  |.val v,h1=>simp only[upH,Option.some.injEq,Prod.mk.injEq] at h1; obtain⟨rfl,rfl⟩:=h1; rfl
  |.own k rows,h1=>
   simp only[upH,Option.some.injEq,Prod.mk.injEq] at h1; obtain⟨rfl,rfl⟩:=h1
   simp only[up,q1.1,if_true]
  |.bor (n+1) rows,h1=>simp only[upH,Option.some.injEq,Prod.mk.injEq] at h1; obtain⟨rfl,rfl⟩:=h1; rfl
  |.bor 0 rows,h1=>simp[upH] at h1
  |.hole _,h1=>simp[upH] at h1
theorem down_pure:∀ {ds:List D},pureL ds=true→downL ds=some ds
 |[],_=>rfl
 |d::l,h=>by
  simp only[pureL,Bool.and_eq_true] at h
  simp only[downL,down_pure h.2]
  cases d with
  |val v=>rfl
  |own k rows=>simp only[down,pure] at h⊢; rw[if_pos h.1]
  |bor l rows=>simp[pure] at h
  |hole _=>simp[pure] at h
theorem up_pure:∀ {ds:List D},pureL ds=true→upL ds=some ds
 |[],_=>rfl
 |d::l,h=>by
  simp only[pureL,Bool.and_eq_true] at h
  simp only[upL,up_pure h.2]
  cases d with
  |val v=>rfl
  |own k rows=>simp only[up,pure] at h⊢; rw[if_pos h.1]
  |bor l rows=>simp[pure] at h
  |hole _=>simp[pure] at h
theorem downRH_ok {ps ps':Bits} {rows rows':List (List D)} {q} (h:downRH ps rows=some (rows',q,ps')) (hq:All q):downR rows=some rows':=by
 unfold downRH at h
 split at h
 ·simp only[Option.some.injEq,Prod.mk.injEq] at h
  obtain⟨rfl,rfl,_⟩:=h
  unfold downR
  rw[if_pos hq.1]
 ·match rows,h with
  |[],h=>cases h
  |_::_::_,h=>cases h
  |[ds],h=>
   dsimp only at h
   split at h<;>try cases h
   rename_i h1
   have:=downLH_ok h1 hq
   unfold downR
   by_cases hp:pureR [ds]=true
   ·rw[if_pos hp]
    simp only[pureR,Bool.and_true] at hp
    rw[down_pure hp] at this
    injection this with this; rw[this]
   ·rw[if_neg hp]
    simp only[this]
theorem upRH_ok {ps ps':Bits} {rows rows':List (List D)} {q} (h:upRH ps rows=some (rows',q,ps')) (hq:All q):upR rows=some rows':=by
 unfold upRH at h
 split at h
 ·simp only[Option.some.injEq,Prod.mk.injEq] at h
  obtain⟨rfl,rfl,_⟩:=h
  unfold upR
  rw[if_pos hq.1]
 ·match rows,h with
  |[],h=>cases h
  |_::_::_,h=>cases h
  |[ds],h=>
   dsimp only at h
   split at h<;>try cases h
   rename_i h1
   have:=upLH_ok h1 hq
   unfold upR
   by_cases hp:pureR [ds]=true
   ·rw[if_pos hp]
    simp only[pureR,Bool.and_true] at hp
    rw[up_pure hp] at this
    injection this with this; rw[this]
   ·rw[if_neg hp]
    simp only[this]
theorem giveIH_ok {a ps ps'} {g g':Give} {i c:Id} {p:Path} {q} (h:giveIH nt O a ps g i p=some (c,g',q,ps')) (hq:All q):giveI O a g i p=some (c,g'):=by
 unfold giveIH at h
 unfold giveI
 split at h<;>try cases h
 rename_i h1
 split at h<;>try cases h
 rename_i h2
 split at h<;>try cases h
 rename_i h3
 split at h<;>try cases h
 rename_i h4
 obtain⟨qn,hq⟩:=All.append hq
 simp only[h1,navT_ok h2 qn]
 rw[downRH_ok h3 hq]
 simp only[if_pos h4]
theorem giveCH_ok {a ps ps'} {g g':Give} {c c':CV} {q} (h:giveCH nt O a ps g c=some (c',g',q,ps')) (hq:All q):giveC O a g c=some (c',g'):=by
 cases c<;>simp only[giveCH,giveC] at h⊢
 case ref r=>
  split at h<;>try cases h
  rename_i h1
  rw[giveIH_ok h1 hq]
 all_goals (simp only[Option.some.injEq,Prod.mk.injEq] at h⊢; exact⟨h.1,h.2.1⟩)
theorem giveCsH_ok {a}:∀ {l l':List CV} {ps ps'} {g g':Give} {q},giveCsH nt O a ps g l=some (l',g',q,ps')→All q→giveCs O a g l=some (l',g')
 |[],l',ps,ps',g,g',q,h,_=>by
  simp only[giveCsH,giveCs,Option.some.injEq,Prod.mk.injEq] at h⊢; exact⟨h.1,h.2.1⟩
 |c::l,l',ps,ps',g,g',q,h,hq=>by
  simp only[giveCsH] at h
  split at h<;>try cases h
  rename_i h1
  split at h<;>try cases h
  rename_i h2
  obtain⟨q1,q2⟩:=All.append hq
  simp only[giveCs]
  rw[giveCH_ok h1 q1]
  simp only[]
  rw[giveCsH_ok h2 q2]
mutual
theorem giveH_ok {a}:∀ {v v':SV} {ps ps'} {g g':Give} {q},giveH nt O a ps g v=some (v',g',q,ps')→All q→give O a g v=some (v',g')
 |.one c,v',ps,ps',g,g',q,h,hq=>by
  simp only[giveH,give] at h⊢
  split at h<;>try cases h
  rename_i h1
  rw[giveCH_ok h1 hq]
 |.agg c,v',ps,ps',g,g',q,h,hq=>by
  simp only[giveH,give] at h⊢
  split at h<;>try cases h
  rename_i h1
  rw[giveCsH_ok h1 hq]
 |.ptr p,v',ps,ps',g,g',q,h,hq=>by
  simp only[giveH,give] at h⊢
  split at h<;>try cases h
  rename_i h1
  rw[giveIH_ok h1 hq]
 |.bptr l cs,v',ps,ps',g,g',q,h,hq=>by
  simp only[giveH,give,Option.some.injEq,Prod.mk.injEq] at h⊢; exact⟨h.1,h.2.1⟩
 |.clo f x y,v',ps,ps',g,g',q,h,hq=>by
  simp only[giveH,give] at h⊢
  split at h<;>try cases h
  rename_i h1
  split at h<;>try cases h
  rename_i h2
  obtain⟨q1,q2⟩:=All.append hq
  rw[giveLH_ok h1 q1]
  simp only[]
  rw[giveLH_ok h2 q2]
 |.tup _,v',ps,ps',g,g',q,h,_=>by simp[giveH] at h
 |.dead,v',ps,ps',g,g',q,h,_=>by simp[giveH] at h
theorem giveLH_ok {a}:∀ {l l':List SV} {ps ps'} {g g':Give} {q},giveLH nt O a ps g l=some (l',g',q,ps')→All q→giveL O a g l=some (l',g')
 |[],l',ps,ps',g,g',q,h,_=>by
  simp only[giveLH,giveL,Option.some.injEq,Prod.mk.injEq] at h⊢; exact⟨h.1,h.2.1⟩
 |c::l,l',ps,ps',g,g',q,h,hq=>by
  simp only[giveLH] at h
  split at h<;>try cases h
  rename_i h1
  split at h<;>try cases h
  rename_i h2
  obtain⟨q1,q2⟩:=All.append hq
  simp only[giveL]
  rw[giveH_ok h1 q1]
  simp only[]
  rw[giveLH_ok h2 q2]
end
theorem prepH_ok {ms:List Mode}:∀ {l l':List SV} {a ps ls} {g g':Give} {q},prepH nt O ms a ps ls g l=some (l',g',q)→All q→prep O ms a g l=some (l',g')
 |[],l',a,ps,ls,g,g',q,h,_=>by
  simp only[prepH,prep,Option.some.injEq,Prod.mk.injEq] at h⊢; exact⟨h.1,h.2.1⟩
 |v::l,l',a,ps,ls,g,g',q,h,hq=>by
  simp only[prepH] at h
  simp only[prep]
  cases hm:ms.getD a .lend with
  |lend=>
   simp only[hm] at h⊢
   split at h<;>try cases h
   rename_i h1
   split at h<;>try cases h
   rename_i h2
   obtain⟨q1,q2⟩:=All.append hq
   rw[lendH_ok h1 q1]
   simp only[]
   rw[prepH_ok h2 q2]
  |io=>
   simp only[hm] at h⊢
   split at h<;>try cases h
   rename_i h1
   split at h<;>try cases h
   rename_i h2
   obtain⟨q1,q2⟩:=All.append hq
   rw[giveH_ok h1 q1]
   simp only[]
   rw[prepH_ok h2 q2]
  |nl=>
   simp only[hm] at h⊢
   split at h<;>try cases h
   split at h<;>try cases h
   rename_i h2
   rw[prepH_ok h2 hq]
  |eat=>
   simp only[hm] at h⊢
   split at h<;>try cases h
   rename_i h1
   split at h<;>try cases h
   rename_i h2
   obtain⟨q1,q2⟩:=All.append hq
   rw[giveH_ok h1 q1]
   simp only[]
   rw[prepH_ok h2 q2]
  |al=>
   simp only[hm] at h⊢
   split at h<;>try cases h
   rename_i h1
   split at h<;>try cases h
   rename_i h2
   rw[h1]
   simp only[]
   rw[prepH_ok h2 hq]
theorem calleeH_ok {F ps ls} {S:Nat→SV} {v:VOp} {f vs g q} (h:calleeH F nt ps ls S O v=some (f,vs,g,q)) (hq:All q):callee F S O v=some (f,vs,g):=by
 cases v<;>simp only[calleeH,callee,reduceCtorEq] at h⊢
 case call f' args=>
  split at h<;>try cases h
  rename_i h1
  split at h<;>try cases h
  rename_i h2
  rw[prepH_ok h1 hq]
  simp only[if_pos h2]
 case callv x args=>
  split at h<;>try cases h
  rename_i h0
  split at h<;>try cases h
  rename_i h1
  split at h<;>try cases h
  rename_i h2
  rw[h0]
  simp only[]
  rw[prepH_ok h1 hq]
  simp only[if_pos h2]
end
def retOfH (O:Id→OS) (T:List (Id × OS)) (r:RetSpec):SV→Option (Ret × List (Id × OS) × List Prop)
 |.ptr p=>match p.path,(ov O T p.id).look [] with
  |[],some ob=>match ob.rows with
   |[ds]=>if p.row=0∧p.off=0∧p.n=ds.length then match upLH ds with
     |some (ds,q)=>match r.cell,ds with
      |none,ds=>some (.ptr ds,(p.id,.dead)::T,q)
      |some (true,n),ds=>if ds.length=n then some (.agg ds,(p.id,.dead)::T,q) else none
      |some (false,n),[d]=>if n=1 then some (.one d,(p.id,.dead)::T,q) else none
      |_,_=>none
     |none=>none
    else none
   |_=>none
  |_,_=>none
 |.one c=>if r.cell.isSome then none else match takeCH [] O T c with
  |some (d,T,q)=>match upH d with
   |some (d,q')=>some (.one d,T,q++q')
   |none=>none
  |none=>none
 |.agg cs=>if r.cell.isSome then none else match takeCsH [] O T cs with
  |some (ds,T,q)=>match upLH ds with
   |some (ds,q')=>some (.agg ds,T,q++q')
   |none=>none
  |none=>none
 |_=>none
theorem upH_ok {d d':D} {q} (h:upH d=some (d',q)) (hq:All q):up d=some d':=by
 have h1:upLH [d]=some ([d'],q++ []):=by simp[upLH,h]
 have:=upLH_ok h1 (by simpa using hq)
 simp only[upL] at this
 split at this
 ·rename_i h2 h3
  simp only[Option.some.injEq,List.cons.injEq] at this
  rw[h2,this.1]
 ·cases this
theorem retOfH_ok {O:Id→OS} {T T':List (Id × OS)} {r:RetSpec} {v:SV} {x q} (h:retOfH O T r v=some (x,T',q)) (hq:All q):retOf O T r v=some (x,T'):=by
 cases v<;>simp only[retOfH,retOf,reduceCtorEq] at h⊢
 case ptr p=>
  split at h<;>try cases h
  rename_i h1 h2
  split at h<;>try cases h
  rename_i h3
  split at h<;>try cases h
  rename_i h4
  split at h<;>try cases h
  rename_i h5
  rw[h1,h2]
  simp only[h3,if_pos h4]
  split at h
  ·simp only[Option.some.injEq,Prod.mk.injEq] at h
   obtain⟨rfl,rfl,rfl⟩:=h
   rw[upLH_ok h5 hq]
   rename_i h6
   simp only[h6]
  ·split at h<;>try cases h
   rename_i h6 h7
   rw[upLH_ok h5 hq]
   simp only[h6,if_pos h7]
  ·split at h<;>try cases h
   rename_i h6 h7
   rw[upLH_ok h5 hq]
   simp only[h6,if_pos h7]
  ·cases h
 case one c=>
  split at h<;>try cases h
  rename_i h1
  split at h<;>try cases h
  rename_i h2
  split at h<;>try cases h
  rename_i h3
  obtain⟨q1,q2⟩:=All.append hq
  rw[if_neg h1,takeCH_ok h2 q1]
  simp only[]
  rw[upH_ok h3 q2]
 case agg cs=>
  split at h<;>try cases h
  rename_i h1
  split at h<;>try cases h
  rename_i h2
  split at h<;>try cases h
  rename_i h3
  obtain⟨q1,q2⟩:=All.append hq
  rw[if_neg h1,takeCsH_ok h2 q1]
  simp only[]
  rw[upLH_ok h3 q2]
def retsOfH (σ:St):List (Id × OS)→List RetSpec→Option (List Ret × List (Id × OS) × List Prop)
 |T,[]=>some ([],T,[])
 |T,r::l=>match retOfH σ.obj T r (σ.slot r.slot) with
  |some (v,T,q)=>match retsOfH σ T l with
   |some (vs,T,q')=>some (v::vs,T,q++q')
   |none=>none
  |none=>none
theorem retsOfH_ok {σ:St}:∀ {l:List RetSpec} {T T' vs q},retsOfH σ T l=some (vs,T',q)→All q→retsOf σ T l=some (vs,T')
 |[],T,T',vs,q,h,_=>by
  simp only[retsOfH,retsOf,Option.some.injEq,Prod.mk.injEq] at h⊢; exact⟨h.1,h.2.1⟩
 |r::l,T,T',vs,q,h,hq=>by
  simp only[retsOfH] at h
  split at h<;>try cases h
  rename_i h1
  split at h<;>try cases h
  rename_i h2
  obtain⟨q1,q2⟩:=All.append hq
  simp only[retsOf]
  rw[retOfH_ok h1 q1]
  simp only[]
  rw[retsOfH_ok h2 q2]
def outsOfH (O:Id→OS):Bits→List (Id × VObj)→Option (List (List (List D)) × List Prop)
 |_,[]=>some ([],[])
 |ps,(i,o)::l=>match O i with
  |.live ob=>if ob.k=o.k then match upRH ps ob.rows with
    |some (rows,q,ps)=>match outsOfH O ps l with
     |some (r,q')=>some (rows::r,q++q')
     |none=>none
    |none=>none
   else none
  |_=>none
theorem outsOfH_ok {O:Id→OS}:∀ {l:List (Id × VObj)} {ps outs q},outsOfH O ps l=some (outs,q)→All q→outsOf O l=some outs
 |[],ps,outs,q,h,_=>by
  simp only[outsOfH,outsOf,Option.some.injEq,Prod.mk.injEq] at h⊢; exact h.1
 |(i,o)::l,ps,outs,q,h,hq=>by
  simp only[outsOfH] at h
  split at h<;>try cases h
  rename_i h1
  split at h<;>try cases h
  rename_i h2
  split at h<;>try cases h
  rename_i h3
  split at h<;>try cases h
  rename_i h4
  obtain⟨q1,q2⟩:=All.append hq
  simp only[outsOf]
  rw[h1,outsOfH_ok h4 q2]
  simp only[if_pos h2]
  rw[upRH_ok h3 q1]
def leaveH (fn:VFun) (ps:Bits) (objs:List (Id × VObj)) (σ:St):Option (List (List (List D)) × List Ret × List Prop):=
 match retsOfH σ [] fn.rets with
 |some (rs,T,q)=>match takesM σ.obj T objs with
  |some (T,ms)=>match outsOfH (ov σ.obj (putM ms T)) ps objs with
   |some (os,q')=>some (os,rs,q++q')
   |none=>none
  |none=>none
 |none=>none
theorem leaveH_ok {fn ps objs} {σ:St} {os rs q} (h:leaveH fn ps objs σ=some (os,rs,q)) (hq:All q):leave fn objs σ=some (os,rs):=by
 unfold leaveH at h
 unfold leave
 split at h<;>try cases h
 rename_i h1
 split at h<;>try cases h
 rename_i h0
 split at h<;>try cases h
 rename_i h2
 obtain⟨q1,q2⟩:=All.append hq
 rw[retsOfH_ok h1 q1]
 simp only[h0]
 rw[outsOfH_ok h2 q2]
abbrev Dirts:=List (List (Path × Bool))
def refillH (O:Id→OS) (ds:Dirts) (T:List (Id × OS)) (i:Id) (p:Path) (k:Nat) (rows:List (List D)):Option (List (Id × OS) × Dirts × List Prop):=
 match p,ds with
 |q::p,d::ds=>match ov O T i with
  |.live o=>some ((i,.live {o with rows:=setCell o.rows (q::p) (.own k rows),dirty:=d})::T,ds,[undirt (q::p) o.dirty=d])
  |_=>none
 |p,ds=>match refill O T i p k rows with
  |some T=>some (T,ds,[])
  |none=>none
theorem refillH_ok {O:Id→OS} {ds ds' T T' i p k rows q} (h:refillH O ds T i p k rows=some (T',ds',q)) (hq:All q):refill O T i p k rows=some T':=by
 unfold refillH at h
 split at h
 ·split at h
  ·rename_i h1
   simp only[Option.some.injEq,Prod.mk.injEq] at h
   obtain⟨rfl,rfl,rfl⟩:=h
   simp only[refill,List.isEmpty_cons,h1,hq.1]
   rfl
  ·cases h
 ·split at h
  ·rename_i h1
   simp only[Option.some.injEq,Prod.mk.injEq] at h
   rw[h1,h.1]
  ·cases h
def refillsH (O:Id→OS):Dirts→List (Id × OS)→List GItem→List (List (List D))→Option (List (Id × OS) × List Prop)
 |_,T,[],[]=>some (T,[])
 |ds,T,x::l,rows::n=>match refillH O ds T x.i x.q x.ob.k rows with
  |some (T,ds,q)=>match refillsH O ds T l n with
   |some (T,q')=>some (T,q++q')
   |none=>none
  |none=>none
 |_,_,_,_=>none
theorem refillsH_ok {O:Id→OS}:∀ {l:List GItem} {n ds T T' q},refillsH O ds T l n=some (T',q)→All q→refills O T l n=some T'
 |[],[],ds,T,T',q,h,_=>by
  simp only[refillsH,refills,Option.some.injEq,Prod.mk.injEq] at h⊢; exact h.1
 |[],_::_,ds,T,T',q,h,_=>by simp[refillsH] at h
 |_::_,[],ds,T,T',q,h,_=>by simp[refillsH] at h
 |x::l,rows::n,ds,T,T',q,h,hq=>by
  simp only[refillsH] at h
  split at h<;>try cases h
  rename_i h1
  split at h<;>try cases h
  rename_i h2
  obtain⟨q1,q2⟩:=All.append hq
  simp only[refills]
  rw[refillH_ok h1 q1]
  exact refillsH_ok h2 q2
def behindH (O:Id→OS) (ms:List Mode) (g:Give) (ds:Dirts) (dst:Option Nat) (outs:List (List (List D))) (rets:List Ret):Option (Eff × List Prop):=
 match refillsH O ds g.T (g.items.filter (keepI ms)) outs with
 |some (T,q)=>match dst with
  |none=>some (⟨True,.dead,T,g.rd,idsOf T⟩,q)
  |some d=>match importRs O d 0 T rets with
   |some (vs,T,is)=>some (⟨True,tupV vs,T,g.rd,is++idsOf T⟩,q)
   |none=>none
 |none=>none
theorem behindH_ok {O:Id→OS} {ms g ds dst outs rets e q} (h:behindH O ms g ds dst outs rets=some (e,q)) (hq:All q):behind O ms g dst outs rets=some e:=by
 unfold behindH at h
 unfold behind
 split at h<;>try cases h
 rename_i h1
 cases dst with
 |none=>
  simp only[Option.some.injEq,Prod.mk.injEq] at h
  obtain⟨rfl,rfl⟩:=h
  rw[refillsH_ok h1 hq]
 |some d=>
  dsimp only at h
  split at h<;>try cases h
  rename_i h2
  rw[refillsH_ok h1 hq]
  simp only[h2]
def guardH (S:Nat→SV) (h:Option Hint):Option (Nat × Bool)→Option (Bool × List Prop)
 |none=>some (true,[])
 |some (s,b)=>match S s with
  |.one (.val (.bool c))=>match h with
   |some (.b q)=>some (q==b,[c=q])
   |_=>some (c==b,[])
  |.tup []=>some (false,[])
  |_=>none
theorem guardH_ok {S h g b q} (e:guardH S h g=some (b,q)) (hq:All q):wanted S g=some b:=by
 cases g with
 |none=>simp only[guardH,wanted,Option.some.injEq,Prod.mk.injEq] at e⊢; exact e.1
 |some g=>
  obtain⟨s,c⟩:=g
  simp only[guardH] at e
  simp only[wanted]
  split at e
  ·rename_i h1
   rw[h1]
   dsimp only
   split at e
   ·simp only[Option.some.injEq,Prod.mk.injEq] at e
    obtain⟨rfl,rfl⟩:=e
    rw[hq.1]
   ·simp only[Option.some.injEq,Prod.mk.injEq] at e
    rw[e.1]
  ·rename_i h1
   rw[h1]
   simp only[Option.some.injEq,Prod.mk.injEq] at e
   rw[← e.1]
  ·cases e
def isCall:VOp→Bool
 |.call _ _ | .callv _ _=>true
 |_=>false
def runH (F:FuncId→Option VFun) (X:Ext) (draw:Bool):List VO→Log→Nat→Nat→Hints→St→Option (St × Nat × Hints × List Prop)
 |[],_,_,t,hs,σ=>some (σ,t,hs,[])
 |o::l,log,n,t,hs,σ=>match guardH σ.slot (hintAt hs t).1 o.guard with
  |some (false,q)=>match runH F X draw l log (n+1) (t+2) (hintAt hs t).2 (σ.upd o.dst (.tup []) []) with
   |some (σ',t,hs,q')=>some (σ',t,hs,q++q')
   |none=>none
  |some (true,q)=>
   if isCall o.op then match hcore (hintAt (hintAt hs t).2 (t+1)).1 with
    |some (.ret os rs ps ls)=>match calleeH F (hnt (hintAt (hintAt hs t).2 (t+1)).1) ps ls σ.slot σ.obj o.op with
     |some (f,vs,g,q1)=>match behindH σ.obj (modesOf F f) g (hds (hintAt (hintAt hs t).2 (t+1)).1) o.dst os rs with
      | some (e, q2) => if !draw || indep log o.free e.rd e.wr (lbOf o.op e) (toOf o.op e) then (match runH F X draw l ((n, e.rd, e.wr, lbOf o.op e, toOf o.op e) :: log) (n + 1) (t + 2) (hintAt (hintAt hs t).2 (t + 1)).2 (σ.upd o.dst e.sv e.objs) with
        |some (σ',t,hs,q')=>some (σ',t,hs,q++(q1++(Ev F X (.call f vs g.objs os rs)::(q2++q'))))
        |none=>none) else none
      |none=>none
     |none=>none
    |_=>none
   else match hstep (hintAt (hintAt hs t).2 (t+1)).1 σ.slot σ.obj (o.dst.getD 0) o.op with
    | some x => if !draw || indep log o.free x.e.rd x.e.wr (lbOf o.op x.e) (toOf o.op x.e) then (match runH F X draw l ((n, x.e.rd, x.e.wr, lbOf o.op x.e, toOf o.op x.e) :: log) (n + 1) (t + 2) (hintAt (hintAt hs t).2 (t + 1)).2 (σ.upd o.dst x.e.sv x.e.objs) with
      |some (σ',t,hs,q')=>some (σ',t,hs,q++(x.rq++q'))
      |none=>none) else none
    |none=>none
  |none=>none
theorem runH_ok {F X draw}:∀ {l:List VO} {log n t hs} {σ σ':St} {t' hs' q},runH F X draw l log n t hs σ=some (σ',t',hs',q)→All q→Ev F X (.ops draw log n l σ σ')
 |[],log,n,t,hs,σ,σ',t',hs',q,h,_=>by
  simp only[runH,Option.some.injEq,Prod.mk.injEq] at h
  rw[h.1]; exact .nil
 |o::l,log,n,t,hs,σ,σ',t',hs',q,h,hq=>by
  simp only[runH] at h
  split at h
  ·rename_i h1
   split at h<;>try cases h
   rename_i h2
   obtain⟨q1,q2⟩:=All.append hq
   exact .off (guardH_ok h1 q1) (runH_ok h2 q2)
  ·rename_i h1
   split at h
   ·split at h<;>try cases h
    split at h<;>try cases h
    rename_i h3
    split at h<;>try cases h
    rename_i h4
    split at h<;>try cases h
    rename_i h5
    split at h<;>try cases h
    rename_i h6
    obtain⟨q1,q2⟩:=All.append hq
    obtain⟨q3,q4,q5⟩:=All.append q2
    obtain⟨q6,q7⟩:=All.append q5
    refine .opc (guardH_ok h1 q1) (calleeH_ok h3 q3) q4 (behindH_ok h4 q6) (fun hd=>?_) (runH_ok h6 q7)
    rw[hd] at h5; simpa using h5
   ·split at h<;>try cases h
    rename_i h3
    split at h<;>try cases h
    rename_i h5
    split at h<;>try cases h
    rename_i h6
    obtain⟨q1,q2⟩:=All.append hq
    obtain⟨q3,q4⟩:=All.append q2
    obtain⟨s1,s2⟩:=hstep_ok h3 q3
    refine .op (guardH_ok h1 q1) s1 s2 (fun hd=>?_) (runH_ok h6 q4)
    rw[hd] at h5; simpa using h5
  ·cases h
def normH:Hints→Nat→St→St × Nat × Hints × List Prop
 |(k,.norm i rows)::hs,t,σ=>if k=t then match σ.obj i with
   |.live o=>match normH hs (t+1) {σ with o:=putA σ.o i (.live {o with rows})} with
    |(σ',t',hs',q)=>(σ',t',hs',(o.rows=rows)::q)
   |_=>(σ,t,(k,.norm i rows)::hs,[])
  else(σ,t,(k,.norm i rows)::hs,[])
 |hs,t,σ=>(σ,t,hs,[])
theorem putA_same {α β:Type} [DecidableEq α] {d v:β}:∀ {l:List (α × β)} {x:α},getA d l x=v→v≠d→putA l x v=l
 |[],x,h,hd=>by simp only[getA] at h; exact absurd h.symm hd
 |(k,u)::l,x,h,hd=>by
  simp only[getA] at h
  simp only[putA]
  split at h
  ·rename_i e
   rw[if_pos e,h,e]
  ·rename_i e
   rw[if_neg e,putA_same h hd]
theorem normH_ok:∀ {hs:Hints} {t:Nat} {σ:St},All (normH hs t σ).2.2.2→(normH hs t σ).1=σ
 |[],_,_,_=>rfl
 |(k,h)::hs,t,σ,hq=>by
  cases h<;>try rfl
  rename_i i rows
  simp only[normH] at hq⊢
  split at hq
  ·rename_i hk
   rw[if_pos hk]
   split at hq
   ·rename_i o ho
    have e:o.rows=rows:=hq.1
    have hs':putA σ.o i (.live {o with rows:=rows})=σ.o:=by
     rw[show ({o with rows:=rows}:VObj)=o by cases o; cases e; rfl]
     exact putA_same (show getA OS.none σ.o i=OS.live o from ho) (by simp)
    have ih:=normH_ok hq.2
    first |(rw[ih,hs']) |(simp only[ho]; rw[ih,hs'])
   ·rfl
  ·rename_i hk
   rw[if_neg hk]
def codeH (F:FuncId→Option VFun) (X:Ext):VC→Nat→Hints→St→Option (VX.Exit × St × Nat × Hints × List Prop)
 |.any,_,_,_=>none
 |.skip,t,hs,σ=>some (.normal,σ,t,hs,[])
 |.ret,t,hs,σ=>some (.ret,σ,t,hs,[])
 |.exit id,t,hs,σ=>some (.exit id,σ,t,hs,[])
 |.region d keep ops,t,hs,σ=>match runH F X d ops [] 0 t hs σ with
  |some (σ',t,hs,q)=>match normH hs t (clean keep σ') with
   |(σ'',t,hs,q')=>some (.normal,σ'',t,hs,q++q')
  |none=>none
 |.seq a b,t,hs,σ=>match codeH F X a t hs σ with
  |some (e,σ₁,t,hs,q)=>match e with
   |.normal=>match codeH F X b t hs σ₁ with
    |some (e,σ₂,t,hs,q')=>some (e,σ₂,t,hs,q++q')
    |none=>none
   |.exit id=>some (.exit id,σ₁,t,hs,q)
   |.ret=>some (.ret,σ₁,t,hs,q)
  |none=>none
 |.cond c a b,t,hs,σ=>match evx σ.slot c with
  |.one (.val (.bool v))=>match (hintAt hs t).1 with
   |some (.b true)=>match codeH F X a (t+1) (hintAt hs t).2 σ with
    |some (e,σ',t,hs,q)=>some (e,σ',t,hs,(v=true)::q)
    |none=>none
   |some (.b false)=>match codeH F X b (t+1) (hintAt hs t).2 σ with
    |some (e,σ',t,hs,q)=>some (e,σ',t,hs,(v=false)::q)
    |none=>none
   |_=>match v with
    |true=>codeH F X a (t+1) (hintAt hs t).2 σ
    |false=>codeH F X b (t+1) (hintAt hs t).2 σ
  |_=>none
 |.block id a,t,hs,σ=>match codeH F X a t hs σ with
  |some (e,σ₁,t,hs,q)=>match e with
   |.exit id'=>if id'=id then some (.normal,σ₁,t,hs,q) else some (.exit id',σ₁,t,hs,q)
   |.normal=>some (.normal,σ₁,t,hs,q)
   |.ret=>some (.ret,σ₁,t,hs,q)
  |none=>none
 |.loop a,t,hs,σ=>match (hintAt hs t).1 with
  |some (.loop σ₀ e σ')=>some (e,σ',t+1,(hintAt hs t).2,[σ=σ₀,Ev F X (.code (.loop a) σ₀ e σ')])
  |some (.loopd keep σ₀ e σ')=>some (e,σ',t+1,(hintAt hs t).2,[clean keep σ=σ₀,Ev F X (.code (.loop a) σ₀ e σ')])
  |_=>none
theorem codeH_ok {F X}:∀ {c:VC} {t hs} {σ σ':St} {e t' hs' q},codeH F X c t hs σ=some (e,σ',t',hs',q)→All q→Ev F X (.code c σ e σ')
 |.any,t,hs,σ,σ',e,t',hs',q,h,_=>by simp[codeH] at h
 |.skip,t,hs,σ,σ',e,t',hs',q,h,_=>by
  simp only[codeH,Option.some.injEq,Prod.mk.injEq] at h
  obtain⟨rfl,rfl,_⟩:=h; exact .skip
 |.ret,t,hs,σ,σ',e,t',hs',q,h,_=>by
  simp only[codeH,Option.some.injEq,Prod.mk.injEq] at h
  obtain⟨rfl,rfl,_⟩:=h; exact .ret
 |.exit id,t,hs,σ,σ',e,t',hs',q,h,_=>by
  simp only[codeH,Option.some.injEq,Prod.mk.injEq] at h
  obtain⟨rfl,rfl,_⟩:=h; exact .exit
 |.region d keep ops,t,hs,σ,σ',e,t',hs',q,h,hq=>by
  simp only[codeH] at h
  split at h<;>try cases h
  rename_i σ1 t1 hs1 q1 h1
  obtain⟨qa,qb⟩:=All.append hq
  rw[normH_ok qb]
  exact .region (runH_ok h1 qa)
 |.seq a b,t,hs,σ,σ',e,t',hs',q,h,hq=>by
  simp only[codeH] at h
  split at h<;>try cases h
  rename_i h1
  split at h
  ·split at h<;>try cases h
   rename_i h2
   obtain⟨q1,q2⟩:=All.append hq
   exact .seqN (codeH_ok h1 q1) (codeH_ok h2 q2)
  ·simp only[Option.some.injEq,Prod.mk.injEq] at h
   obtain⟨rfl,rfl,rfl,rfl,rfl⟩:=h
   exact .seqX (codeH_ok h1 hq) (by simp)
  ·simp only[Option.some.injEq,Prod.mk.injEq] at h
   obtain⟨rfl,rfl,rfl,rfl,rfl⟩:=h
   exact .seqX (codeH_ok h1 hq) (by simp)
 |.cond c a b,t,hs,σ,σ',e,t',hs',q,h,hq=>by
  simp only[codeH] at h
  split at h<;>try cases h
  rename_i v hv
  split at h
  ·split at h<;>try cases h
   rename_i h2
   have:v=true:=hq.1
   subst this
   exact .cond (t:=true) hv (codeH_ok h2 hq.2)
  ·split at h<;>try cases h
   rename_i h2
   have:v=false:=hq.1
   subst this
   exact .cond (t:=false) hv (codeH_ok h2 hq.2)
  ·split at h
   ·exact .cond (t:=true) hv (codeH_ok h hq)
   ·exact .cond (t:=false) hv (codeH_ok h hq)
 |.block id a,t,hs,σ,σ',e,t',hs',q,h,hq=>by
  simp only[codeH] at h
  split at h<;>try cases h
  rename_i h1
  split at h
  ·split at h
   ·rename_i h2
    subst h2
    simp only[Option.some.injEq,Prod.mk.injEq] at h
    obtain⟨rfl,rfl,rfl,rfl,rfl⟩:=h
    exact .blockX (codeH_ok h1 hq)
   ·rename_i h2
    simp only[Option.some.injEq,Prod.mk.injEq] at h
    obtain⟨rfl,rfl,rfl,rfl,rfl⟩:=h
    exact .block (codeH_ok h1 hq) (fun he=>by injection he with he; exact h2 he)
  ·simp only[Option.some.injEq,Prod.mk.injEq] at h
   obtain⟨rfl,rfl,rfl,rfl,rfl⟩:=h
   exact .block (codeH_ok h1 hq) (by simp)
  ·simp only[Option.some.injEq,Prod.mk.injEq] at h
   obtain⟨rfl,rfl,rfl,rfl,rfl⟩:=h
   exact .block (codeH_ok h1 hq) (by simp)
 |.loop a,t,hs,σ,σ',e,t',hs',q,h,hq=>by
  simp only[codeH] at h
  split at h<;>try cases h
  ·have:σ=_:=hq.1
   rw[this]
   exact hq.2.1
  ·have h1:=hq.1
   have h2:=hq.2.1
   rw[← h1] at h2
   exact .drop h2
theorem nt {b:Bool} (h:¬b=true):b=false:=by cases b<;>simp_all
def callH (F:FuncId→Option VFun) (X:Ext) (f:FuncId) (hs:Hints) (ps:Bits) (args:List SV) (objs:List (Id × VObj)):Option (List (List (List D)) × List Ret × List Prop):=
 match F f with
 |some fn=>if givenOK fn objs then match codeH F X fn.code 0 hs (enter args objs) with
   |some (e,σ',_,_,q)=>match e with
    |.exit _=>none
    |_=>match leaveH fn ps (objs.filter (keepP fn.modes)) σ' with
     |some (os,rs,q')=>some (os,rs,q++q')
     |none=>none
   |none=>none
  else none
 |none=>none
theorem callH_ok {F X f hs ps args objs os rs q} (h:callH F X f hs ps args objs=some (os,rs,q)) (hq:All q):Ev F X (.call f args objs os rs):=by
 unfold callH at h
 split at h<;>try cases h
 rename_i fn h1
 split at h<;>try cases h
 rename_i h2
 split at h<;>try cases h
 rename_i e σ' _ _ q0 h3
 have key : (e = .ret ∨ e = .normal) → (match leaveH fn ps (objs.filter (keepP fn.modes)) σ' with
   |some (os,rs,q')=>some (os,rs,q0++q')
   |none=>none)=some (os,rs,q)→Ev F X (.call f args objs os rs):=fun he h=>by
  split at h<;>try cases h
  rename_i h4
  obtain⟨q1,q2⟩:=All.append hq
  exact .call h1 h2 (codeH_ok h3 q1) he (leaveH_ok h4 q2)
 cases e with
 |exit id=>cases h
 |normal=>exact key (.inr rfl) h
 |ret=>exact key (.inl rfl) h
inductive PS (F:FuncId→Option VFun) (X:Ext):Hints→List Prop→Prop
 |nil:PS F X [] []
 |f {p:Prop} {hs:Hints} {q:List Prop} (h:p) (r:PS F X hs q):PS F X hs (p::q)
 |h {hs:Hints} {q:List Prop} (t:Nat) (x:Hint) (r:PS F X hs q):PS F X ((t,x)::hs) q
 |rn {f:FuncId} {vs:List SV} {g:List (Id × VObj)} {os:List (List (List D))} {rs:List Ret} {hs:Hints} {q:List Prop} (t:Nat) (nt:NT) (ds:Dirts) (ps:List Bool) (ls:List (List (List B))) (h:Ev F X (.call f vs g os rs)) (r:PS F X hs q):
   PS F X ((t,.nav nt ds (.ret os rs ps ls))::hs) (Ev F X (.call f vs g os rs)::q)
 |r {f:FuncId} {vs:List SV} {g:List (Id × VObj)} {os:List (List (List D))} {rs:List Ret} {hs:Hints} {q:List Prop} (t:Nat) (ps:List Bool) (ls:List (List (List B))) (h:Ev F X (.call f vs g os rs)) (r:PS F X hs q):
   PS F X ((t,.ret os rs ps ls)::hs) (Ev F X (.call f vs g os rs)::q)
theorem psAll {F X}:∀ {hs:Hints} {q:List Prop},PS F X hs q→All q
 |_,_,.nil=>trivial
 |_,_,.f h r=>⟨h,psAll r⟩
 |_,_,.h _ _ r=>psAll r
 |_,_,.r _ _ _ h r=>⟨h,psAll r⟩
 |_,_,.rn _ _ _ _ _ h r=>⟨h,psAll r⟩
theorem callP_ok {F X f hs ps args objs os rs q} (h:callH F X f hs ps args objs=some (os,rs,q)) (hq:PS F X hs q):Ev F X (.call f args objs os rs):=callH_ok h (psAll hq)
theorem codeP_ok {F X} {c:VC} {t hs} {σ σ':St} {e t' q} (h:codeH F X c t hs σ=some (e,σ',t',[],q)) (hq:PS F X hs q):Ev F X (.code c σ e σ'):=codeH_ok h (psAll hq)
end Go.Proofs.YtmdocdnidilaiaaGreat.V
