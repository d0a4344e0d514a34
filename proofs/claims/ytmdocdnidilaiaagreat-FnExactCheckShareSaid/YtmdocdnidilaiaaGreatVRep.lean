/- V: how data lies in memory: what is only read (BRep), what is the function's own (ORep). -/
import Derived.Test.YtmdocdnidilaiaaGreatVEv
import Derived.Wp
namespace Go.Proofs.YtmdocdnidilaiaaGreat.V
open Go
abbrev Frag:=Nat→Option Obj
namespace Frag
def emp:Frag:=fun _=>none
def un (g h:Frag):Frag:=fun b=>(g b).or (h b)
def one (b:Nat) (o:Obj):Frag:=fun b'=>if b'=b then some o else none
def Disj (g h:Frag):Prop:=∀b,g b=none∨h b=none
def Sub (g h:Frag):Prop:=∀b o,g b=some o→h b=some o
def inW (g:Frag) (w:World):Prop:=∀b o,g b=some o→w.heap[b]?=some o
theorem un_emp (g:Frag):g.un emp=g:=by funext b; simp[un,emp]
theorem emp_un (g:Frag):emp.un g=g:=by funext b; simp[un,emp]
theorem un_assoc (a b c:Frag):(a.un b).un c=a.un (b.un c):=by funext x; simp only[un]; cases a x<;>simp
theorem Disj.comm {g h:Frag} (d:Disj g h):Disj h g:=fun b=>(d b).symm
theorem un_comm {g h:Frag} (d:Disj g h):g.un h=h.un g:=by
 funext b
 rcases d b with e | e<;>simp[un,e]
theorem un_left_comm {a b:Frag} (c:Frag) (d:Disj a b):a.un (b.un c)=b.un (a.un c):=by
 rw[← un_assoc,un_comm d,un_assoc]
theorem un_none {g h:Frag} {b:Nat}:(g.un h) b=none↔g b=none∧h b=none:=by simp[un]
theorem disj_emp (g:Frag):Disj g emp:=fun _=>.inr rfl
theorem emp_disj (g:Frag):Disj emp g:=fun _=>.inl rfl
theorem disj_un {a g h:Frag}:Disj a (g.un h)↔Disj a g∧Disj a h:=by
 constructor
 ·intro d
  refine⟨fun b=>?_,fun b=>?_⟩<;>rcases d b with e | e<;>simp_all [un]
 ·intro ⟨d1,d2⟩ b
  rcases d1 b with e | e
  ·exact .inl e
  ·rcases d2 b with e' | e'
   ·exact .inl e'
   ·exact .inr (by simp[un,e,e'])
theorem un_disj {a g h:Frag}:Disj (g.un h) a↔Disj g a∧Disj h a:=
 ⟨fun d=>let ⟨x,y⟩:=disj_un.1 d.comm;⟨x.comm,y.comm⟩,fun⟨x,y⟩=>(disj_un.2 ⟨x.comm,y.comm⟩).comm⟩
theorem sub_refl (g:Frag):Sub g g:=fun _ _ h=>h
theorem Sub.trans {a b c:Frag} (h:Sub a b) (k:Sub b c):Sub a c:=fun x o e=>k x o (h x o e)
theorem sub_un_left (g h:Frag):Sub g (g.un h):=fun b o e=>by simp[un,e]
theorem sub_un_right {g h:Frag} (d:Disj g h):Sub h (g.un h):=fun b o e=>by
 rcases d b with e' | e'
 ·simp[un,e',e]
 ·rw[e] at e'; cases e'
theorem emp_sub (g:Frag):Sub emp g:=fun _ _ h=>by cases h
theorem un_sub {a b c:Frag} (h:Sub a c) (k:Sub b c):Sub (a.un b) c:=fun x o e=>by
 simp only[un] at e
 cases ha:a x with
 |none=>rw[ha] at e; exact k x o (by simpa using e)
 |some y=>rw[ha] at e; exact h x o (by rw[ha]; simpa using e)
theorem Disj.sub {a b c d:Frag} (h:Disj c d) (ha:Sub a c) (hb:Sub b d):Disj a b:=fun x=>by
 rcases h x with e | e
 ·left
  cases hx:a x with
  |none=>rfl
  |some o=>rw[ha x o hx] at e; cases e
 ·right
  cases hx:b x with
  |none=>rfl
  |some o=>rw[hb x o hx] at e; cases e
theorem disj_one {g:Frag} {b:Nat} {o:Obj} (h:g b=none):Disj (one b o) g:=fun x=>by
 by_cases e:x=b
 ·exact .inr (e ▸ h)
 ·exact .inl (by simp[one,e])
theorem none_of_disj_one {g:Frag} {b:Nat} {o:Obj} (h:Disj (one b o) g):g b=none:=by
 rcases h b with e | e
 ·simp[one] at e
 ·exact e
theorem one_at (b:Nat) (o:Obj):one b o b=some o:=by simp[one]
theorem one_un_at (b:Nat) (o:Obj) (g:Frag):(one b o).un g b=some o:=by simp[un,one]
end Frag
open Frag
mutual
def BRep (hp:Frag):B→Value→Prop
 |.val x,v=>v=x∧flat x=true
 |.sl rows,v=>(rows=[]∧∃a cap,v=.slice a 0 cap)∨
   ∃b off cap k arr t fz,v=.slice (some ⟨b,off,none⟩) rows.length cap∧hp b=some (.cells arr t fz)∧rows.length≤cap∧(∀r∈rows,r.length=k)∧
    off+rows.length*k≤arr.size∧BRepR hp rows ((arr.toList.drop off).take (rows.length*k))
def BRepL (hp:Frag):List B→List Value→Prop
 |[],vs=>vs=[]
 |d::ds,vs=>∃v vs',vs=v::vs'∧BRep hp d v∧BRepL hp ds vs'
def BRepR (hp:Frag):List (List B)→List Value→Prop
 |[],vs=>vs=[]
 |r::rs,vs=>∃vs1 vs2,vs=vs1++vs2∧BRepL hp r vs1∧BRepR hp rs vs2
end
mutual
theorem BRep.mono {hp hp':Frag} (h:Sub hp hp'):∀ {d:B} {v:Value},BRep hp d v→BRep hp' d v
 |.val _,_,r=>by simpa only[BRep] using r
 |.sl rows,v,r=>by
  simp only[BRep] at r⊢
  rcases r with r |⟨b,off,cap,k,arr,t,fz,e,hb,hc,hk,ha,hr⟩
  ·exact .inl r
  ·exact .inr ⟨b,off,cap,k,arr,t,fz,e,h _ _ hb,hc,hk,ha,BRepR.mono h hr⟩
theorem BRepL.mono {hp hp':Frag} (h:Sub hp hp'):∀ {d:List B} {v:List Value},BRepL hp d v→BRepL hp' d v
 |[],_,r=>by simpa only[BRepL] using r
 |d::ds,v,r=>by
  simp only[BRepL] at r⊢
  obtain⟨v,vs,e,r1,r2⟩:=r
  exact⟨v,vs,e,BRep.mono h r1,BRepL.mono h r2⟩
theorem BRepR.mono {hp hp':Frag} (h:Sub hp hp'):∀ {d:List (List B)} {v:List Value},BRepR hp d v→BRepR hp' d v
 |[],_,r=>by simpa only[BRepR] using r
 |d::ds,v,r=>by
  simp only[BRepR] at r⊢
  obtain⟨v,vs,e,r1,r2⟩:=r
  exact⟨v,vs,e,BRepL.mono h r1,BRepR.mono h r2⟩
end
theorem BRepL.length {hp:Frag}:∀ {d:List B} {v:List Value},BRepL hp d v→v.length=d.length
 |[],_,r=>by simp only[BRepL] at r; simp[r]
 |d::ds,v,r=>by
  simp only[BRepL] at r
  obtain⟨v,vs,rfl,_,r2⟩:=r
  simp[BRepL.length r2]
def free (fz:Nat × Nat) (n:Nat):Prop:=∀i,i < n→¬(fz.1≤i∧i < fz.2)
mutual
def ORep (H:Nat→Frag):D→Value→Frag→Prop
 |.val x,v,g=>v=x∧flat x=true∧g=emp
 |.hole n,v,g=>(∃a c,v=.slice a n c)∧g=emp
 |.bor l rows,v,g=>BRep (H l) (.sl rows) v∧g=emp
 |.own k rows,v,g=>(rows=[]∧(∃a,v=.slice a 0 0)∧g=emp)∨
   ∃b off cap arr t fz g',v=.slice (some ⟨b,off,none⟩) rows.length cap∧g=(one b (.cells arr t fz)).un g'∧g' b=none∧rows.length≤cap∧(∀r∈rows,r.length=k)∧
    off+cap*k≤arr.size∧free fz arr.size∧ORepR H rows ((arr.toList.drop off).take (rows.length*k)) g'
def ORepL (H:Nat→Frag):List D→List Value→Frag→Prop
 |[],vs,g=>vs=[]∧g=emp
 |d::ds,vs,g=>∃v vs' g1 g2,vs=v::vs'∧g=g1.un g2∧Disj g1 g2∧ORep H d v g1∧ORepL H ds vs' g2
def ORepR (H:Nat→Frag):List (List D)→List Value→Frag→Prop
 |[],vs,g=>vs=[]∧g=emp
 |r::rs,vs,g=>∃vs1 vs2 g1 g2,vs=vs1++vs2∧g=g1.un g2∧Disj g1 g2∧ORepL H r vs1 g1∧ORepR H rs vs2 g2
end
theorem ORep.oneCell {H:Nat→Frag} {d:D} {v:Value} {g:Frag} (h:ORep H d v g):v.oneCell=true:=by
 cases d with
 |val x=>
  simp only[ORep] at h
  obtain⟨rfl,hf,_⟩:=h
  cases v<;>simp_all [flat,Value.oneCell]
 |hole n=>simp only[ORep] at h; obtain⟨⟨a,c,rfl⟩,_⟩:=h; rfl
 |bor l rows=>
  simp only[ORep,BRep] at h
  rcases h.1 with⟨_,a,cap,rfl⟩ |⟨b,off,cap,k,arr,t,fz,rfl,_⟩<;>rfl
 |own k rows=>
  simp only[ORep] at h
  rcases h with⟨_,⟨_,rfl⟩,_⟩ |⟨b,off,cap,arr,t,fz,g',rfl,_⟩<;>rfl
theorem ORepL.length {H:Nat→Frag}:∀ {d:List D} {v:List Value} {g:Frag},ORepL H d v g→v.length=d.length
 |[],_,_,r=>by simp only[ORepL] at r; simp[r.1]
 |d::ds,v,g,r=>by
  simp only[ORepL] at r
  obtain⟨v,vs,g1,g2,rfl,_,_,_,r2⟩:=r
  simp[ORepL.length r2]
theorem ORepL.append {H:Nat→Frag}:∀ {a b:List D} {u v:List Value} {g h:Frag},ORepL H a u g→ORepL H b v h→Disj g h→ORepL H (a++b) (u++v) (g.un h)
 |[],b,u,v,g,h,r,s,d=>by
  simp only[ORepL] at r
  obtain⟨rfl,rfl⟩:=r
  simpa[emp_un] using s
 |x::a,b,u,v,g,h,r,s,d=>by
  simp only[ORepL] at r
  obtain⟨y,u,g1,g2,rfl,rfl,d12,r1,r2⟩:=r
  obtain⟨da,db⟩:=un_disj.1 d
  simp only[List.cons_append,ORepL]
  exact⟨y,u++v,g1,g2.un h,rfl,un_assoc _ _ _,disj_un.2 ⟨d12,da⟩,r1,ORepL.append r2 s db⟩
theorem ORepL.split {H:Nat→Frag}:∀ {a b:List D} {v:List Value} {g:Frag},ORepL H (a++b) v g→
  ∃v1 v2 g1 g2,v=v1++v2∧g=g1.un g2∧Disj g1 g2∧ORepL H a v1 g1∧ORepL H b v2 g2
 |[],b,v,g,r=>⟨[],v,emp,g,rfl,(emp_un _).symm,emp_disj _,by simp[ORepL],r⟩
 |x::a,b,v,g,r=>by
  simp only[List.cons_append,ORepL] at r
  obtain⟨y,u,g1,g2,rfl,rfl,d12,r1,r2⟩:=r
  obtain⟨v1,v2,h1,h2,rfl,rfl,d,s1,s2⟩:=ORepL.split r2
  obtain⟨da,db⟩:=disj_un.1 d12
  refine⟨y::v1,v2,g1.un h1,h2,rfl,(un_assoc _ _ _).symm,un_disj.2 ⟨db,d⟩,?_,s2⟩
  simp only[ORepL]
  exact⟨y,v1,g1,h1,rfl,rfl,da,r1,s1⟩
theorem ORepR.append {H:Nat→Frag}:∀ {a b:List (List D)} {u v:List Value} {g h:Frag},ORepR H a u g→ORepR H b v h→Disj g h→ORepR H (a++b) (u++v) (g.un h)
 |[],b,u,v,g,h,r,s,d=>by
  simp only[ORepR] at r
  obtain⟨rfl,rfl⟩:=r
  simpa[emp_un] using s
 |x::a,b,u,v,g,h,r,s,d=>by
  simp only[ORepR] at r
  obtain⟨y,u,g1,g2,rfl,rfl,d12,r1,r2⟩:=r
  obtain⟨da,db⟩:=un_disj.1 d
  simp only[List.cons_append,ORepR]
  exact⟨y,u++v,g1,g2.un h,List.append_assoc _ _ _,un_assoc _ _ _,disj_un.2 ⟨d12,da⟩,r1,ORepR.append r2 s db⟩
theorem ORepR.split {H:Nat→Frag}:∀ {a b:List (List D)} {v:List Value} {g:Frag},ORepR H (a++b) v g→
  ∃v1 v2 g1 g2,v=v1++v2∧g=g1.un g2∧Disj g1 g2∧ORepR H a v1 g1∧ORepR H b v2 g2
 |[],b,v,g,r=>⟨[],v,emp,g,rfl,(emp_un _).symm,emp_disj _,by simp[ORepR],r⟩
 |x::a,b,v,g,r=>by
  simp only[List.cons_append,ORepR] at r
  obtain⟨y,u,g1,g2,rfl,rfl,d12,r1,r2⟩:=r
  obtain⟨v1,v2,h1,h2,rfl,rfl,d,s1,s2⟩:=ORepR.split r2
  obtain⟨da,db⟩:=disj_un.1 d12
  refine⟨y++v1,v2,g1.un h1,h2,(List.append_assoc _ _ _).symm,(un_assoc _ _ _).symm,un_disj.2 ⟨db,d⟩,?_,s2⟩
  simp only[ORepR]
  exact⟨y,v1,g1,h1,rfl,rfl,da,r1,s1⟩
theorem ORepR.length {H:Nat→Frag} {k:Nat}:∀ {d:List (List D)} {v:List Value} {g:Frag},ORepR H d v g→(∀r∈d,r.length=k)→v.length=d.length*k
 |[],_,_,r,_=>by simp only[ORepR] at r; simp[r.1]
 |d::ds,v,g,r,hk=>by
  simp only[ORepR] at r
  obtain⟨v1,v2,g1,g2,rfl,_,_,r1,r2⟩:=r
  have h1:=r1.length
  have h2:=ORepR.length r2 (fun r hr=>hk r (List.mem_cons_of_mem _ hr))
  have h3:=hk d (List.mem_cons_self ..)
  simp[h1,h2,h3,Nat.succ_mul]; omega
theorem BRepR.length {hp:Frag} {k:Nat}:∀ {d:List (List B)} {v:List Value},BRepR hp d v→(∀r∈d,r.length=k)→v.length=d.length*k
 |[],_,r,_=>by simp only[BRepR] at r; simp[r]
 |d::ds,v,r,hk=>by
  simp only[BRepR] at r
  obtain⟨v1,v2,rfl,r1,r2⟩:=r
  have h1:=r1.length
  have h2:=BRepR.length r2 (fun r hr=>hk r (List.mem_cons_of_mem _ hr))
  have h3:=hk d (List.mem_cons_self ..)
  simp[h1,h2,h3,Nat.succ_mul]; omega
theorem toBR_length:∀rows:List (List D),(toBR rows).length=rows.length
 |[]=>rfl
 |_::l=>by simp[toBR,toBR_length l]
theorem toBL_length:∀l:List D,(toBL l).length=l.length
 |[]=>rfl
 |_::l=>by simp[toBL,toBL_length l]
theorem toBR_mem:∀ {rows:List (List D)} {r:List B},r∈toBR rows→∃s∈rows,r.length=s.length
 |s::l,r,h=>by
  simp only[toBR,List.mem_cons] at h
  rcases h with rfl | h
  ·exact⟨s,List.mem_cons_self ..,toBL_length s⟩
  ·obtain⟨s',h1,h2⟩:=toBR_mem h
   exact⟨s',List.mem_cons_of_mem _ h1,h2⟩
mutual
theorem ORep.toB {H:Nat→Frag} {hp:Frag} (hH:∀l,Sub (H l) hp):∀ {d:D} {v:Value} {g:Frag},ORep H d v g→full d=true→Sub g hp→BRep hp (toB d) v
 |.val x,v,g,r,_,_=>by
  simp only[ORep] at r
  obtain⟨rfl,hf,rfl⟩:=r
  simp only[V.toB,BRep]; exact⟨trivial,hf⟩
 |.hole _,v,g,r,hf,_=>by simp[full] at hf
 |.bor l rows,v,g,r,_,_=>by
  simp only[ORep] at r
  simp only[V.toB]
  exact BRep.mono (hH l) r.1
 |.own k rows,v,g,r,hf,hs=>by
  simp only[ORep] at r
  simp only[V.toB,BRep]
  rcases r with⟨rfl,⟨a,rfl⟩,rfl⟩ |⟨b,off,cap,arr,t,fz,g',rfl,rfl,hb,hc,hk,ha,hz,hr⟩
  ·exact .inl ⟨by simp[toBR],a,0,by simp⟩
  ·refine .inr ⟨b,off,cap,k,arr,t,fz,by rw[toBR_length],hs _ _ (one_un_at _ _ _),by rw[toBR_length]; exact hc,?_,?_,?_⟩
   ·intro r hr'
    obtain⟨s,h1,h2⟩:=toBR_mem hr'
    rw[h2]; exact hk s h1
   ·rw[toBR_length]; have:=Nat.mul_le_mul_right k hc; omega
   ·rw[toBR_length]
    simp only[full] at hf
    exact ORepR.toB hH hr hf (Sub.trans (sub_un_right (disj_one hb)) hs)
theorem ORepL.toB {H:Nat→Frag} {hp:Frag} (hH:∀l,Sub (H l) hp):∀ {d:List D} {v:List Value} {g:Frag},ORepL H d v g→fullL d=true→Sub g hp→BRepL hp (toBL d) v
 |[],v,g,r,_,_=>by simp only[ORepL] at r; simp only[toBL,BRepL]; exact r.1
 |d::ds,v,g,r,hf,hs=>by
  simp only[ORepL] at r
  obtain⟨y,u,g1,g2,rfl,rfl,d12,r1,r2⟩:=r
  simp only[fullL,Bool.and_eq_true] at hf
  simp only[toBL,BRepL]
  exact⟨y,u,rfl,ORep.toB hH r1 hf.1 (Sub.trans (sub_un_left _ _) hs),ORepL.toB hH r2 hf.2 (Sub.trans (sub_un_right d12) hs)⟩
theorem ORepR.toB {H:Nat→Frag} {hp:Frag} (hH:∀l,Sub (H l) hp):∀ {d:List (List D)} {v:List Value} {g:Frag},ORepR H d v g→fullR d=true→Sub g hp→BRepR hp (toBR d) v
 |[],v,g,r,_,_=>by simp only[ORepR] at r; simp only[toBR,BRepR]; exact r.1
 |d::ds,v,g,r,hf,hs=>by
  simp only[ORepR] at r
  obtain⟨y,u,g1,g2,rfl,rfl,d12,r1,r2⟩:=r
  simp only[fullR,Bool.and_eq_true] at hf
  simp only[toBR,BRepR]
  exact⟨y,u,rfl,ORepL.toB hH r1 hf.1 (Sub.trans (sub_un_left _ _) hs),ORepR.toB hH r2 hf.2 (Sub.trans (sub_un_right d12) hs)⟩
end
end Go.Proofs.YtmdocdnidilaiaaGreat.V
