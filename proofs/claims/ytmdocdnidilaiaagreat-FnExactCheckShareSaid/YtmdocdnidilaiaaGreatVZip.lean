/- V: looking into an object at a place, and changing it there. -/
import Derived.Test.YtmdocdnidilaiaaGreatVRep
namespace Go.Proofs.YtmdocdnidilaiaaGreat.V
open Go Frag
def over (arr:Array Value) (p:Nat) (vs:List Value):Array Value:=⟨arr.toList.take p++vs++arr.toList.drop (p+vs.length)⟩
theorem over_size {arr:Array Value} {p:Nat} {vs:List Value} (h:p+vs.length≤arr.size):(over arr p vs).size=arr.size:=by
 have:arr.toList.length=arr.size:=Array.length_toList
 simp[over]; omega
theorem list_parts {α:Type} {l a b c:List α} (h:l=a++(b++c)):l.take a.length=a∧(l.drop a.length).take b.length=b∧l.drop (a.length+b.length)=c:=by
 subst h
 refine⟨by simp,by simp,?_⟩
 rw[← List.drop_drop]; simp
theorem rows_at {α:Type} {rows:List α} {i:Nat} {row:α} (h:rows[i]?=some row):rows=rows.take i++row::rows.drop (i+1):=by
 obtain⟨hi,e⟩:=List.getElem?_eq_some_iff.1 h
 rw[← e,List.getElem_cons_drop,List.take_append_drop]
theorem rows_set {α:Type} {rows:List α} {i:Nat} {row:α} (h:rows[i]?=some row) (x:α):rows.set i x=rows.take i++x::rows.drop (i+1):=by
 obtain⟨hi,e⟩:=List.getElem?_eq_some_iff.1 h
 rw[List.set_eq_take_append_cons_drop,if_pos hi]
theorem row_parts {α:Type} {row:List α} {off n:Nat} (_h:off+n≤row.length):row=row.take off++((row.drop off).take n++row.drop (off+n)):=by
 rw[← List.drop_drop,List.take_append_drop,List.take_append_drop]
theorem ORep.stretch {H:Nat→Frag} {k:Nat} {rows:List (List D)} {v:Value} {g:Frag} (h:ORep H (.own k rows) v g) {i:Nat} {row:List D} (hi:rows[i]?=some row) {off n:Nat} (hn:off+n≤row.length):
  ∃b o cap arr t fz gs gr,v=.slice (some ⟨b,o,none⟩) rows.length cap∧g=(one b (.cells arr t fz)).un (gs.un gr)∧Disj gs gr∧gs b=none∧gr b=none∧
   row.length=k∧rows.length≤cap∧o+cap*k≤arr.size∧o+i*k+off+n≤arr.size∧free fz arr.size∧
   ORepL H ((row.drop off).take n) ((arr.toList.drop (o+i*k+off)).take n) gs∧
   ∀(new:List D) (vs':List Value) (gs':Frag),ORepL H new vs' gs'→new.length=n→Disj gs' gr→gs' b=none→
    ORep H (.own k (rows.set i (splice row off new))) v ((one b (.cells (over arr (o+i*k+off) vs') t fz)).un (gs'.un gr)):=by
 simp only[ORep] at h
 rcases h with⟨rfl,_⟩ |⟨b,o,cap,arr,t,fz,g',rfl,rfl,hb,hc,hk,ha,hz,hr⟩
 ·simp at hi
 have hrow:row.length=k:=hk row (List.mem_of_getElem? hi)
 have hil:i < rows.length:=(List.getElem?_eq_some_iff.1 hi).1
 have hal:arr.toList.length=arr.size:=Array.length_toList
 generalize hvs:(arr.toList.drop o).take (rows.length*k)=vs at hr
 have hr':=hr
 rw[rows_at hi] at hr'
 obtain⟨A,R,gA,gR,eA,egA,dA,rA,rR⟩:=ORepR.split hr'
 simp only[ORepR] at rR
 obtain⟨Bv,C,gB,gC,eR,egR,dR,rB,rC⟩:=rR
 subst eR egR
 have hr2:=rB
 rw[row_parts hn] at hr2
 obtain⟨B1,R2,g1,gR2,eB,egB,dB,r1,rR2⟩:=ORepL.split hr2
 obtain⟨B2,B3,g2,g3,eR2,egR2,dR2,r2,r3⟩:=ORepL.split rR2
 subst eR2 egR2 eB egB
 have lA:A.length=i*k:=by
  have:=ORepR.length rA (fun r hr=>hk r (List.mem_of_mem_take hr))
  rw[List.length_take,Nat.min_eq_left (Nat.le_of_lt hil)] at this; exact this
 have l1:B1.length=off:=by have:=r1.length; rw[List.length_take,Nat.min_eq_left (by omega)] at this; exact this
 have l2:B2.length=n:=by have:=r2.length; rw[List.length_take,List.length_drop,Nat.min_eq_left (by omega)] at this; exact this
 have l3:B3.length=k - (off+n):=by have:=r3.length; rw[List.length_drop,hrow] at this; exact this
 have lC:C.length=(rows.length - (i+1))*k:=by
  have:=ORepR.length rC (fun r hr=>hk r (List.mem_of_mem_drop hr))
  rw[List.length_drop] at this; exact this
 have hmul:rows.length*k≤cap*k:=Nat.mul_le_mul_right k hc
 have hkk:rows.length*k=i*k+k+(rows.length - (i+1))*k:=by
  rw[← Nat.succ_mul,← Nat.add_mul]; congr 1; omega
 have hpre:(arr.toList.take o).length=o:=by rw[List.length_take]; omega
 have earr:arr.toList=arr.toList.take o++((A++((B1++(B2++B3))++C))++arr.toList.drop (o+rows.length*k)):=by
  rw[← eA,← hvs,← List.drop_drop,List.take_append_drop,List.take_append_drop]
 have hp:o+i*k+off=(arr.toList.take o++(A++B1)).length:=by rw[List.length_append,List.length_append,hpre,lA,l1]; omega
 have earr2:arr.toList=(arr.toList.take o++(A++B1))++(B2++(B3++(C++arr.toList.drop (o+rows.length*k)))):=by
  conv=>lhs; rw[earr]
  simp only[List.append_assoc]
 obtain⟨q1,q2,q3⟩:=list_parts earr2
 rw[← hp] at q1 q2 q3
 rw[l2] at q2 q3
 obtain⟨dA1,dA2⟩:=disj_un.1 dA
 obtain⟨dA1',dA1''⟩:=disj_un.1 dA1
 obtain⟨dA12,dA13⟩:=disj_un.1 dA1''
 obtain⟨dBC,dBC'⟩:=un_disj.1 dR
 obtain⟨dBC2,dBC3⟩:=un_disj.1 dBC'
 obtain⟨dB12,dB13⟩:=disj_un.1 dB
 have hnb:gA b=none∧g1 b=none∧g2 b=none∧g3 b=none∧gC b=none:=by
  rw[egA] at hb
  simp only[un_none] at hb
  exact⟨hb.1,hb.2.1.1,hb.2.1.2.1,hb.2.1.2.2,hb.2.2⟩
 refine⟨b,o,cap,arr,t,fz,g2,gA.un (g1.un (g3.un gC)),rfl,?_,?_,hnb.2.2.1,?_,hrow,hc,ha,?_,hz,?_,?_⟩
 ·rw[egA]; congr 1
  rw[un_left_comm _ dA12.comm,un_left_comm _ dB12.comm]
  simp only[un_assoc]
 ·exact disj_un.2 ⟨dA12.comm,disj_un.2 ⟨dB12.comm,disj_un.2 ⟨dR2,dBC2⟩⟩⟩
 ·simp only[un_none]; exact⟨hnb.1,hnb.2.1,hnb.2.2.2.1,hnb.2.2.2.2⟩
 ·have:=Nat.mul_le_mul_right k (Nat.succ_le_of_lt hil); rw[Nat.succ_mul] at this; omega
 ·rw[q2]; exact r2
 ·intro new vs' gs' hnew hlen hd hbn
  have lv:vs'.length=n:=by rw[hnew.length,hlen]
  have hps:o+i*k+off+vs'.length≤arr.size:=by
   have:=Nat.mul_le_mul_right k (Nat.succ_le_of_lt hil); rw[Nat.succ_mul] at this; omega
  obtain⟨hd1,hd2⟩:=disj_un.1 hd
  obtain⟨hd3,hd4⟩:=disj_un.1 hd2
  obtain⟨hd5,hd6⟩:=disj_un.1 hd4
  have hsl:(rows.set i (splice row off new)).length=rows.length:=List.length_set ..
  simp only[ORep]
  refine .inr ⟨b,o,cap,over arr (o+i*k+off) vs',t,fz,gs'.un (gA.un (g1.un (g3.un gC))),by rw[hsl],rfl,by simp only[un_none]; exact⟨hbn,hnb.1,hnb.2.1,hnb.2.2.2.1,hnb.2.2.2.2⟩,by rw[hsl]; exact hc,?_,by rw[over_size hps]; exact ha,by rw[over_size hps]; exact hz,?_⟩
  ·intro r hr
   rw[rows_set hi] at hr
   rcases List.mem_append.1 hr with hr | hr
   ·exact hk r (List.mem_of_mem_take hr)
   ·rcases List.mem_cons.1 hr with rfl | hr
    ·simp[splice,hlen]; omega
    ·exact hk r (List.mem_of_mem_drop hr)
  ·rw[hsl]
   have eo:(over arr (o+i*k+off) vs').toList=arr.toList.take o++((A++((B1++(vs'++B3))++C))++arr.toList.drop (o+rows.length*k)):=by
    simp only[over]
    rw[q1,lv,q3]
    simp only[List.append_assoc]
   have lm:(A++((B1++(vs'++B3))++C)).length=rows.length*k:=by
    simp only[List.length_append]; rw[lA,l1,lv,l3,lC,hkk]; omega
   obtain⟨p1,p2,_⟩:=list_parts eo
   rw[hpre,lm] at p2
   rw[p2,rows_set hi]
   have hsp:splice row off new=row.take off++(new++row.drop (off+n)):=by simp[splice,hlen]
   have w3:ORepL H (new++row.drop (off+n)) (vs'++B3) (gs'.un g3):=ORepL.append hnew r3 hd5
   have w2:ORepL H (splice row off new) (B1++(vs'++B3)) (g1.un (gs'.un g3)):=by
    rw[hsp]; exact ORepL.append r1 w3 (disj_un.2 ⟨hd3.comm,dB13⟩)
   have w1:ORepR H (splice row off new::rows.drop (i+1)) ((B1++(vs'++B3))++C) ((g1.un (gs'.un g3)).un gC):=by
    simp only[ORepR]
    exact⟨_,_,_,_,rfl,rfl,un_disj.2 ⟨dBC,un_disj.2 ⟨hd6,dBC3⟩⟩,w2,rC⟩
   have w0:=ORepR.append rA w1 (disj_un.2 ⟨disj_un.2 ⟨dA1',disj_un.2 ⟨hd1.comm,dA13⟩⟩,dA2⟩)
   have eg:gs'.un (gA.un (g1.un (g3.un gC)))=gA.un ((g1.un (gs'.un g3)).un gC):=by
    rw[un_left_comm _ hd1,un_left_comm _ hd3]
    simp only[un_assoc]
   rw[eg]
   exact w0
inductive At (g:Frag):D→Value→Path→D→Value→Prop
 |nil {d v}:At g d v [] d v
 |cons {k rows b o len cap arr t fz i j row d1 c p d' c'}:g b=some (.cells arr t fz)→rows[i]?=some row→row[j]?=some d1→arr[o+i*k+j]?=some c→
   At g d1 c p d' c'→At g (.own k rows) (.slice (some ⟨b,o,none⟩) len cap) ((i,j)::p) d' c'
theorem At.mono {g h:Frag} (hs:Sub g h) {d v p d' v'} (n:At g d v p d' v'):At h d v p d' v':=by
 induction n with
 |nil=>exact .nil
 |cons hb hi hj hc _ ih=>exact .cons (hs _ _ hb) hi hj hc ih
theorem At.det {g:Frag} {d v p d' v' d2 v2} (n:At g d v p d' v') (m:At g d v p d2 v2):d'=d2∧v'=v2:=by
 induction n with
 |nil=>cases m; exact⟨rfl,rfl⟩
 |cons hb hi hj hc _ ih=>
  cases m with
  |cons hb' hi' hj' hc' m'=>
   rw[hb] at hb'; rw[hi] at hi'; cases hb'; cases hi'
   rw[hj] at hj'; rw[hc] at hc'; cases hj'; cases hc'
   exact ih m'
theorem At.append {g:Frag} {d v p d' v' q d2 v2} (n:At g d v p d' v') (m:At g d' v' q d2 v2):At g d v (p++q) d2 v2:=by
 induction n with
 |nil=>exact m
 |cons hb hi hj hc _ ih=>exact .cons hb hi hj hc (ih m)
theorem At.split {g:Frag}:∀ {p:Path} {d v q d2 v2},At g d v (p++q) d2 v2→∃d' v',At g d v p d' v'∧At g d' v' q d2 v2
 |[],d,v,q,d2,v2,h=>⟨d,v,.nil,h⟩
 |_::p,d,v,q,d2,v2,h=>by
  cases h with
  |cons hb hi hj hc m=>
   obtain⟨d',v',h1,h2⟩:=At.split m
   exact⟨d',v',.cons hb hi hj hc h1,h2⟩
theorem At.nav {g:Frag}:∀ {p:Path} {k rows v k' rows' v'},At g (.own k rows) v p (.own k' rows') v'→V.nav k rows p=some (k',rows')
 |[],_,_,_,_,_,_,h=>by cases h; rfl
 |(i,j)::p,k,rows,v,k',rows',v',h=>by
  cases h with
  |@cons _ _ _ _ _ _ _ _ _ _ _ _ d1 c _ _ _ hb hi hj hc m=>
   cases d1 with
   |own k1 rows1=>simp only[V.nav,hi,hj]; exact At.nav m
   |_=>cases m
theorem modify_row {row:List D} {j k1:Nat} {rows1:List (List D)} (hj:row[j]?=some (.own k1 rows1)) (f:D→D):row.modify j f=splice row j [f (.own k1 rows1)]:=by
 obtain⟨h,e⟩:=List.getElem?_eq_some_iff.1 hj
 rw[List.modify_eq_take_cons_drop h,e]
 simp[splice]
theorem modify_rows {rows:List (List D)} {i:Nat} {row:List D} (hi:rows[i]?=some row) (f:List D→List D):rows.modify i f=rows.set i (f row):=by
 rw[List.modify_eq_set,hi]; rfl
theorem over_same {arr:Array Value} {p:Nat} {c:Value} (h:arr[p]?=some c):over arr p [c]=arr:=by
 have hp:p < arr.size:=(Array.getElem?_eq_some_iff.1 h).1
 have he:arr.toList[p]?=some c:=by simpa using h
 apply Array.toList_inj.1
 simp only[over,List.length_singleton]
 conv=>rhs; rw[rows_at he]
 simp
theorem sub_seg {b:Nat} {o:Obj} {gs gr:Frag} (h:gs b=none) (h':gr b=none):Sub gs ((one b o).un (gs.un gr)):=
 Sub.trans (sub_un_left _ _) (sub_un_right (disj_one (un_none.2 ⟨h,h'⟩)))
theorem own_cell {H:Nat→Frag} {d:D} {v:Value} {g:Frag} (h:ORepL H [d] [v] g):ORep H d v g:=by
 simp only[ORepL] at h
 obtain⟨c,vs',h1,h2,ec,rfl,_,hc1,rfl,rfl⟩:=h
 cases ec
 rw[un_emp]; exact hc1
theorem cell_own {H:Nat→Frag} {d:D} {v:Value} {g:Frag} (h:ORep H d v g):ORepL H [d] [v] g:=by
 simp only[ORepL]
 exact⟨v,[],g,emp,rfl,(un_emp _).symm,disj_emp _,h,rfl,rfl⟩
theorem one_of {α:Type} {l:List α} {j:Nat} {x:α} (h:l[j]?=some x):(l.drop j).take 1=[x]:=by
 obtain⟨hl,e⟩:=List.getElem?_eq_some_iff.1 h
 rw[List.drop_eq_getElem_cons hl,e]; simp
theorem one_val_of {l:List Value} {p:Nat} {vs:List Value} (h:(l.drop p).take 1=vs) {v:Value} (e:vs=[v]):l[p]?=some v:=by
 subst e
 have:=congrArg (·[0]?) h
 simpa using this
theorem ORep.cell {H:Nat→Frag} {k:Nat} {rows:List (List D)} {v:Value} {g:Frag} (h:ORep H (.own k rows) v g) {i j:Nat} {row:List D} {d:D} (hi:rows[i]?=some row) (hj:row[j]?=some d):
  ∃b o cap arr t fz gs gr c,v=.slice (some ⟨b,o,none⟩) rows.length cap∧g=(one b (.cells arr t fz)).un (gs.un gr)∧Disj gs gr∧gs b=none∧gr b=none∧
   arr[o+i*k+j]?=some c∧ORep H d c gs∧j < k∧row.length=k∧
   ∀(d':D) (gs':Frag),ORep H d' c gs'→Disj gs' gr→gs' b=none→
    ORep H (.own k (rows.set i (splice row j [d']))) v ((one b (.cells arr t fz)).un (gs'.un gr)):=by
 have hjl:j < row.length:=(List.getElem?_eq_some_iff.1 hj).1
 obtain⟨b,o,cap,arr,t,fz,gs,gr,rfl,rfl,dsr,hsb,hrb,hk,hc,ha,hin,hz,hseg,hput⟩:=h.stretch hi (off:=j) (n:=1) (by omega)
 rw[one_of hj] at hseg
 have hl:=hseg.length
 obtain⟨c,ec⟩:∃c,(arr.toList.drop (o+i*k+j)).take 1=[c]:=by
  generalize (arr.toList.drop (o+i*k+j)).take 1=l at hl
  match l,hl with
  |[c],_=>exact⟨c,rfl⟩
 have hcell:arr[o+i*k+j]?=some c:=by simpa using one_val_of ec rfl
 rw[ec] at hseg
 refine⟨b,o,cap,arr,t,fz,gs,gr,c,rfl,rfl,dsr,hsb,hrb,hcell,own_cell hseg,by omega,hk,fun d' gs' hd' hd hb=>?_⟩
 have:=hput [d'] [c] gs' (cell_own hd') rfl hd hb
 rwa [over_same hcell] at this
theorem At.restrict {H:Nat→Frag} {g:Frag}:∀ {p:Path} {d v d' c' h},ORep H d v h→Sub h g→At g d v p d' c'→At h d v p d' c'∧∃h',Sub h' h∧ORep H d' c' h'
 |[],_,_,_,_,h,r,_,a=>by cases a; exact⟨.nil,h,sub_refl _,r⟩
 |(i,j)::p,_,_,d',c',h,r,s,a=>by
  cases a with
  |cons hb hi hj hc m=>
   obtain⟨b,o,cap,arr,t,fz,gs,gr,c,ev,rfl,dsr,hsb,hrb,hcell,hd1,_,_,_⟩:=r.cell hi hj
   simp only[Value.slice.injEq,Option.some.injEq,Addr.mk.injEq] at ev
   obtain⟨⟨rfl,rfl,_⟩,rfl,rfl⟩:=ev
   have e:=s _ _ (one_un_at _ _ _)
   rw[hb] at e; cases e
   rw[hc] at hcell; cases hcell
   obtain⟨m1,h',m2,m3⟩:=At.restrict hd1 (Sub.trans (sub_seg hsb hrb) s) m
   exact⟨.cons (one_un_at _ _ _) hi hj hc (m1.mono (sub_seg hsb hrb)),h',Sub.trans m2 (sub_seg hsb hrb),m3⟩
theorem splice_at {α:Type} {row:List α} {off j:Nat} {new:List α} (h:j < off∨off+new.length≤j) (hl:off+new.length≤row.length):(splice row off new)[j]?=row[j]?:=by
 unfold splice
 rcases h with h | h
 ·rw[List.append_assoc,List.getElem?_append_left (by rw[List.length_take]; omega),List.getElem?_take,if_pos h]
 ·rw[List.getElem?_append_right (by simp; omega),List.getElem?_drop]
  congr 1
  simp; omega
theorem over_at {arr:Array Value} {p j:Nat} {vs:List Value} (h:j < p∨p+vs.length≤j) (hl:p+vs.length≤arr.size):(over arr p vs)[j]?=arr[j]?:=by
 have hl':p+vs.length≤arr.toList.length:=by simpa using hl
 have:=splice_at (row:=arr.toList) h hl'
 simpa[over,splice] using this
theorem ORep.beside {H:Nat→Frag} {k:Nat} {rows:List (List D)} {v:Value} {g:Frag} (h:ORep H (.own k rows) v g) {i:Nat} {row:List D} (hi:rows[i]?=some row) {off n:Nat} (hn:off+n≤row.length)
  {b o cap:Nat} {arr:Array Value} {t:TypeId} {fz:Nat × Nat} {gr:Frag} (ev:v=.slice (some ⟨b,o,none⟩) rows.length cap) (hk:row.length=k) (hin:o+i*k+off+n≤arr.size) (hrb:gr b=none)
  (hput : ∀ (new : List D) (vs' : List Value) (gs' : Frag), ORepL H new vs' gs' → new.length = n → Disj gs' gr → gs' b = none →
    ORep H (.own k (rows.set i (splice row off new))) v ((one b (.cells (over arr (o+i*k+off) vs') t fz)).un (gs'.un gr)))
  {i2 j2:Nat} {row2:List D} {d2:D} {c2:Value} (hi2:rows[i2]?=some row2) (hj2:row2[j2]?=some d2) (hc2:arr[o+i2*k+j2]?=some c2) (hne:i2≠i∨j2 < off∨off+n≤j2):
  ∃h2,Sub h2 gr∧ORep H d2 c2 h2∧∀vs',vs'.length=n→(over arr (o+i*k+off) vs')[o+i2*k+j2]?=some c2:=by
 have hov:∀vs':List Value,vs'.length=n→(over arr (o+i*k+off) vs')[o+i2*k+j2]?=some c2:=by
  intro vs' hl
  rw[over_at ?_ (by omega)]; exact hc2
  rw[hl]
  have hrow2:row2.length=k∨True:=.inr trivial
  have hj2k:j2 < row2.length:=(List.getElem?_eq_some_iff.1 hj2).1
  have hk2:row2.length=k:=by
   simp only[ORep] at h
   rcases h with⟨rfl,_⟩ |⟨_,_,_,_,_,_,_,_,_,_,_,hk',_⟩
   ·simp at hi2
   ·exact hk' row2 (List.mem_of_getElem? hi2)
  rcases Nat.lt_trichotomy i2 i with hlt | rfl | hgt
  ·left
   have:(i2+1)*k≤i*k:=Nat.mul_le_mul_right k hlt
   rw[Nat.succ_mul] at this; omega
  ·omega
  ·right
   have:(i+1)*k≤i2*k:=Nat.mul_le_mul_right k hgt
   rw[Nat.succ_mul] at this; omega
 have hh:ORepL H (List.replicate n (D.hole 0)) (List.replicate n nilS) emp:=by
  clear hput hin hn hne hov
  induction n with
  |zero=>simp[ORepL]
  |succ n ih=>
   simp only[List.replicate_succ,ORepL]
   exact⟨_,_,emp,emp,rfl,(emp_un _).symm,emp_disj _,by simp only[ORep]; exact⟨⟨none,0,rfl⟩,trivial⟩,ih⟩
 have h2:=hput _ _ _ hh (by simp) (emp_disj _) rfl
 rw[emp_un] at h2
 have hset:∃row2',(rows.set i (splice row off (List.replicate n (D.hole 0))))[i2]?=some row2'∧row2'[j2]?=some d2:=by
  by_cases e:i2=i
  ·subst e
   rw[hi] at hi2; cases hi2
   refine⟨_,by rw[List.getElem?_set_self (List.getElem?_eq_some_iff.1 hi).1],?_⟩
   rw[splice_at (by simp; omega) (by simpa using hn)]; exact hj2
  ·exact⟨row2,by rw[List.getElem?_set_ne (Ne.symm e)]; exact hi2,hj2⟩
 obtain⟨row2',e1,e2⟩:=hset
 obtain⟨b',o',cap',arr',t',fz',gs',gr',c,ev',eg',dsr',hsb',hrb',hcell',hd',_,_,_⟩:=h2.cell e1 e2
 rw[ev] at ev'
 simp only[Value.slice.injEq,Option.some.injEq,Addr.mk.injEq] at ev'
 obtain⟨⟨rfl,rfl,_⟩,_,rfl⟩:=ev'
 have harr:arr'=over arr (o+i*k+off) (List.replicate n nilS):=by
  have:=congrFun eg' b
  rw[one_un_at,one_un_at] at this
  cases this; rfl
 rw[harr,hov _ (by simp)] at hcell'
 cases hcell'
 refine⟨gs',?_,hd',hov⟩
 intro x ob e
 have:((one b (Obj.cells arr' t' fz')).un (gs'.un gr')) x=some ob:=by
  have hs:Sub gs' ((one b (Obj.cells arr' t' fz')).un (gs'.un gr')):=Sub.trans (sub_un_left _ _) (sub_un_right (disj_one (un_none.2 ⟨hsb',hrb'⟩)))
  exact hs _ _ e
 rw[← eg'] at this
 simp only[un] at this
 by_cases ex:x=b
 ·subst ex; rw[hsb'] at e; cases e
 ·simpa[one,ex] using this
def Shape (d d':D):Prop:=d'=d∨∃k r r',d=.own k r∧d'=.own k r'∧r'.length=r.length
theorem Shape.refl (d:D):Shape d d:=.inl rfl
theorem ORep.change {H:Nat→Frag}:∀ {p:Path} {k:Nat} {rows:List (List D)} {v:Value} {g:Frag} {k':Nat} {rows':List (List D)},ORep H (.own k rows) v g→nav k rows p=some (k',rows')→
  ∀ {i:Nat} {row:List D},rows'[i]?=some row→∀ {off n:Nat},off+n≤row.length→
  ∃b o cap arr t fz gs gr,At g (.own k rows) v p (.own k' rows') (.slice (some ⟨b,o,none⟩) rows'.length cap)∧g=(one b (.cells arr t fz)).un (gs.un gr)∧Disj gs gr∧gs b=none∧gr b=none∧
   row.length=k'∧rows'.length≤cap∧o+i*k'+off+n≤arr.size∧free fz arr.size∧ORepL H ((row.drop off).take n) ((arr.toList.drop (o+i*k'+off)).take n) gs∧
   ∀(new:List D) (vs':List Value) (gs':Frag),ORepL H new vs' gs'→new.length=n→Disj gs' gr→gs' b=none→
    ORep H (.own k (setNav rows p (rows'.set i (splice row off new)))) v ((one b (.cells (over arr (o+i*k'+off) vs') t fz)).un (gs'.un gr))∧
    ∀q d c,At g (.own k rows) v q d c→(∀j,off≤j→j < off+n→¬(p++ [(i,j)]) <+:q)→
     ∃d',At ((one b (.cells (over arr (o+i*k'+off) vs') t fz)).un (gs'.un gr)) (.own k (setNav rows p (rows'.set i (splice row off new)))) v q d' c∧Shape d d'
 |[],k,rows,v,g,k',rows',h,hn,i,row,hi,off,n,hoff=>by
  simp only[nav,Option.some.injEq,Prod.mk.injEq] at hn
  obtain⟨rfl,rfl⟩:=hn
  have h0:=h
  obtain⟨b,o,cap,arr,t,fz,gs,gr,rfl,rfl,dsr,hsb,hrb,hk,hc,ha,hin,hz,hseg,hput⟩:=h.stretch hi hoff
  refine⟨b,o,cap,arr,t,fz,gs,gr,.nil,rfl,dsr,hsb,hrb,hk,hc,hin,hz,hseg,fun new vs' gs' hnew hlen hd hbn=>⟨by simpa only[setNav] using hput new vs' gs' hnew hlen hd hbn,?_⟩⟩
  intro q d c hat hq
  have hlv:vs'.length=n:=by rw[hnew.length,hlen]
  simp only[setNav]
  cases hat with
  |nil=>exact⟨_,.nil,.inr ⟨_,_,_,rfl,rfl,by simp⟩⟩
  |@cons _ _ _ _ _ _ _ _ _ i2 j2 row2 d1 c1 q' _ _ hb2 hi2 hj2 hc2 m=>
   rw[one_un_at] at hb2; cases hb2
   have hne:i2≠i∨j2 < off∨off+n≤j2:=by
    rcases Decidable.em (i2=i) with rfl | h
    ·rcases Nat.lt_or_ge j2 off with h | h
     ·exact .inr (.inl h)
     ·rcases Nat.lt_or_ge j2 (off+n) with h' | h'
      ·exact absurd (by simp) (hq j2 h h')
      ·exact .inr (.inr h')
    ·exact .inl h
   obtain⟨h2,hs2,hr2,hov⟩:=h0.beside hi hoff rfl hk hin hrb hput hi2 hj2 hc2 hne
   have hsub:Sub h2 ((one b (.cells arr t fz)).un (gs.un gr)):=Sub.trans hs2 (Sub.trans (sub_un_right dsr) (sub_un_right (disj_one (un_none.2 ⟨hsb,hrb⟩))))
   have m2:=(At.restrict hr2 hsub m).1
   have hset:∃row2',(rows.set i (splice row off new))[i2]?=some row2'∧row2'[j2]?=some d1:=by
    by_cases e:i2=i
    ·subst e
     rw[hi] at hi2; cases hi2
     refine⟨_,by rw[List.getElem?_set_self (List.getElem?_eq_some_iff.1 hi).1],?_⟩
     rw[splice_at (by rw[hlen]; omega) (by rw[hlen]; exact hoff)]; exact hj2
    ·exact⟨row2,by rw[List.getElem?_set_ne (Ne.symm e)]; exact hi2,hj2⟩
   obtain⟨row2',e1,e2⟩:=hset
   exact⟨d,.cons (one_un_at _ _ _) e1 e2 (hov vs' hlv) (m2.mono (Sub.trans hs2 (Sub.trans (sub_un_right hd) (sub_un_right (disj_one (un_none.2 ⟨hbn,hrb⟩)))))),Shape.refl _⟩
 |(i0,j0)::p,k,rows,v,g,k',rows',h,hn,i,row,hi,off,n,hoff=>by
  simp only[nav] at hn
  cases hi0:rows[i0]? with
  |none=>rw[hi0] at hn; simp at hn
  |some row0=>
   rw[hi0] at hn; simp only at hn
   cases hj0:row0[j0]? with
   |none=>rw[hj0] at hn; simp at hn
   |some d0=>
    rw[hj0] at hn
    cases d0 with
    |val _=>simp at hn
    |bor _ _=>simp at hn
    |hole _=>simp at hn
    |own k1 rows1=>
     simp only at hn
     have h0:=h
     have hoff0:j0+1≤row0.length:=(List.getElem?_eq_some_iff.1 hj0).1
     obtain⟨b0,o0,cap0,arr0,t0,fz0,gs0,gr0,rfl,rfl,dsr0,hsb0,hrb0,hk0,hc0,ha0,hin0,hz0,hseg0,hput0⟩:=h.stretch hi0 (off:=j0) (n:=1) hoff0
     rw[one_of hj0] at hseg0
     obtain⟨c0,ec⟩:∃c,(arr0.toList.drop (o0+i0*k+j0)).take 1=[c]:=by
      have hl:=hseg0.length
      generalize (arr0.toList.drop (o0+i0*k+j0)).take 1=l at hl
      match l,hl with
      |[c],_=>exact⟨c,rfl⟩
     have hcell0:arr0[o0+i0*k+j0]?=some c0:=by simpa using one_val_of ec rfl
     rw[ec] at hseg0
     have hd0:=own_cell hseg0
     obtain⟨b,o,cap,arr,t,fz,gs,gr,hat,rfl,dsr,hsb,hrb,hk,hc,hin,hz,hseg,hput⟩:=ORep.change hd0 hn hi hoff
     obtain⟨dA,dB⟩:=un_disj.1 dsr0
     obtain⟨dB1,dB2⟩:=un_disj.1 dB
     obtain⟨hnA,hnB⟩:=un_none.1 hsb0
     obtain⟨hnB1,hnB2⟩:=un_none.1 hnB
     have hbb:b≠b0:=by
      intro e; subst e; rw[one_at] at hnA; cases hnA
     have hb0gr:(one b0 (Obj.cells arr0 t0 fz0)) b=none:=by simp[one,hbb]
     have hgr0b:gr0 b=none:=none_of_disj_one dA
     have eg:∀(x gsx:Frag),Disj (one b0 (Obj.cells arr0 t0 fz0)) x→Disj (one b0 (Obj.cells arr0 t0 fz0)) gsx→
       (one b0 (.cells arr0 t0 fz0)).un ((x.un (gsx.un gr)).un gr0)=x.un (gsx.un (gr.un ((one b0 (.cells arr0 t0 fz0)).un gr0))):=by
      intro x gsx hx hgx
      rw[un_assoc,un_assoc]
      rw[un_left_comm _ hx,un_left_comm _ hgx,un_left_comm (a:=one b0 (Obj.cells arr0 t0 fz0)) (b:=gr) _ (disj_one hnB2)]
     have hDgs:Disj gs (gr.un ((one b0 (.cells arr0 t0 fz0)).un gr0)):=disj_un.2 ⟨dsr,disj_un.2 ⟨(disj_one hnB1).comm,dB1⟩⟩
     refine⟨b,o,cap,arr,t,fz,gs,gr.un ((one b0 (.cells arr0 t0 fz0)).un gr0),?_,eg _ _ (disj_one (by simp[one,hbb.symm])) (disj_one hnB1),hDgs,hsb,?_,hk,hc,hin,hz,hseg,?_⟩
     ·refine .cons (one_un_at _ _ _) hi0 hj0 hcell0 (hat.mono ?_)
      exact Sub.trans (sub_un_left _ _) (sub_un_right (disj_one (un_none.2 ⟨hsb0,hrb0⟩)))
     ·exact un_none.2 ⟨hrb,un_none.2 ⟨hb0gr,hgr0b⟩⟩
     ·intro new vs' gs' hnew hlen hd hbn
      obtain⟨hd1,hd2⟩:=disj_un.1 hd
      obtain⟨hd3,hd4⟩:=disj_un.1 hd2
      obtain⟨hnw,htr⟩:=hput new vs' gs' hnew hlen hd1 hbn
      have hgb0:gs' b0=none:=none_of_disj_one hd3.comm
      have hfr:Disj ((one b (.cells (over arr (o+i*k'+off) vs') t fz)).un (gs'.un gr)) gr0:=un_disj.2 ⟨disj_one hgr0b,un_disj.2 ⟨hd4,dB2⟩⟩
      have hfb:((one b (.cells (over arr (o+i*k'+off) vs') t fz)).un (gs'.un gr)) b0=none:=un_none.2 ⟨by simp[one,hbb.symm],un_none.2 ⟨hgb0,hnB2⟩⟩
      have hbig:=hput0 [.own k1 (setNav rows1 p (rows'.set i (splice row off new)))] [c0] _ (cell_own hnw) rfl hfr hfb
      rw[over_same hcell0] at hbig
      have es:setNav rows ((i0,j0)::p) (rows'.set i (splice row off new))=rows.set i0 (splice row0 j0 [.own k1 (setNav rows1 p (rows'.set i (splice row off new)))]):=by
       simp only[setNav]
       rw[modify_rows hi0,modify_row hj0]
      rw[← eg _ _ (disj_one (by simp[one,hbb.symm])) (disj_one hgb0),es]
      refine⟨hbig,?_⟩
      have hset0:(rows.set i0 (splice row0 j0 [D.own k1 (setNav rows1 p (rows'.set i (splice row off new)))]))[i0]?=some (splice row0 j0 [.own k1 (setNav rows1 p (rows'.set i (splice row off new)))]):=by
       rw[List.getElem?_set_self (List.getElem?_eq_some_iff.1 hi0).1]
      have hspl0:(splice row0 j0 [D.own k1 (setNav rows1 p (rows'.set i (splice row off new)))])[j0]?=some (.own k1 (setNav rows1 p (rows'.set i (splice row off new)))):=by
       unfold splice
       rw[List.append_assoc,List.getElem?_append_right (by rw[List.length_take]; omega),List.length_take,Nat.min_eq_left (by omega)]
       simp
      intro q d c hat2 hq
      cases hat2 with
      |nil=>exact⟨_,.nil,.inr ⟨_,_,_,rfl,rfl,by simp⟩⟩
      |@cons _ _ _ _ _ _ _ _ _ i2 j2 row2 d1 c1 q' _ _ hb2 hi2 hj2 hc2 m=>
       rw[one_un_at] at hb2; cases hb2
       by_cases e:i2=i0∧j2=j0
       ·obtain⟨rfl,rfl⟩:=e
        rw[hi0] at hi2; cases hi2
        rw[hj0] at hj2; cases hj2
        rw[hcell0] at hc2; cases hc2
        have hsub:Sub ((one b (.cells arr t fz)).un (gs.un gr)) ((one b0 (.cells arr0 t0 fz0)).un (((one b (.cells arr t fz)).un (gs.un gr)).un gr0)):=
         Sub.trans (sub_un_left _ _) (sub_un_right (disj_one (un_none.2 ⟨hsb0,hrb0⟩)))
        have m2:=(At.restrict hd0 hsub m).1
        obtain⟨d',m3,hsh⟩:=htr q' d c m2 (fun j h1 h2 hp=>hq j h1 h2 (by simpa using hp))
        refine⟨d',.cons (one_un_at _ _ _) hset0 hspl0 hcell0 (m3.mono ?_),hsh⟩
        exact Sub.trans (sub_un_left _ _) (sub_un_right (disj_one (un_none.2 ⟨hfb,hrb0⟩)))
       ·have hne:i2≠i0∨j2 < j0∨j0+1≤j2:=by omega
        obtain⟨h2,hs2,hr2,_⟩:=h0.beside hi0 hoff0 rfl hk0 hin0 hrb0 hput0 hi2 hj2 hc2 hne
        have hsub:Sub h2 ((one b0 (.cells arr0 t0 fz0)).un (((one b (.cells arr t fz)).un (gs.un gr)).un gr0)):=
         Sub.trans hs2 (Sub.trans (sub_un_right dsr0) (sub_un_right (disj_one (un_none.2 ⟨hsb0,hrb0⟩))))
        have m2:=(At.restrict hr2 hsub m).1
        have hset:∃row2',(rows.set i0 (splice row0 j0 [D.own k1 (setNav rows1 p (rows'.set i (splice row off new)))]))[i2]?=some row2'∧row2'[j2]?=some d1:=by
         by_cases e:i2=i0
         ·subst e
          rw[hi0] at hi2; cases hi2
          refine⟨_,hset0,?_⟩
          rw[splice_at (by simp; omega) (by simpa using hoff0)]; exact hj2
         ·exact⟨row2,by rw[List.getElem?_set_ne (Ne.symm e)]; exact hi2,hj2⟩
        obtain⟨row2',e1,e2⟩:=hset
        exact⟨d,.cons (one_un_at _ _ _) e1 e2 hc2 (m2.mono (Sub.trans hs2 (Sub.trans (sub_un_right hfr) (sub_un_right (disj_one (un_none.2 ⟨hfb,hrb0⟩)))))),Shape.refl _⟩
end Go.Proofs.YtmdocdnidilaiaaGreat.V
