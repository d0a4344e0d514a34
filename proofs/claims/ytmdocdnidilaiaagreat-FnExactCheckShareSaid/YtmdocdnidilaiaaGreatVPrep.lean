/- V: the arguments as the callee sees them. -/
import Derived.Test.YtmdocdnidilaiaaGreatVGiv
import Derived.Test.YtmdocdnidilaiaaGreatVOpsD
namespace Go.Proofs.YtmdocdnidilaiaaGreat.V
open Go Frag
structure Fin (H:Nat→Frag) (items:List GItem) (hc:Id→Value) (Gc:Id→Frag) (Y:Ctx):Prop where
 O:∀x∈items,Y.O x.c=.live x.ob
 hv:∀x∈items,Y.hv x.c=hc x.c
 G:∀x∈items,Y.G x.c=Gc x.c
 H:∀l,Y.H (l+1)=H l
structure More (g:Give) (hc:Id→Value) (Gc:Id→Frag) (g':Give) (hc':Id→Value) (Gc':Id→Frag):Prop where
 sub:∀x∈g.items,x∈g'.items
 hc:∀x∈g.items,hc' x.c=hc x.c
 G:∀x∈g.items,Gc' x.c=Gc x.c
 rd:g'.rd=g.rd
theorem More.refl (g:Give) (hc:Id→Value) (Gc:Id→Frag):More g hc Gc g hc Gc:=⟨fun _ h=>h,fun _ _=>rfl,fun _ _=>rfl,rfl⟩
theorem More.trans {g hc Gc g' hc' Gc' g'' hc'' Gc''} (h:More g hc Gc g' hc' Gc') (k:More g' hc' Gc' g'' hc'' Gc''):More g hc Gc g'' hc'' Gc'':=
 ⟨fun x hx=>k.sub x (h.sub x hx),fun x hx=>(k.hc x (h.sub x hx)).trans (h.hc x hx),fun x hx=>(k.G x (h.sub x hx)).trans (h.G x hx),k.rd.trans h.rd⟩
theorem Fin.less {H g hc Gc g' hc' Gc' Y} (F:Fin H g'.items hc' Gc' Y) (M:More g hc Gc g' hc' Gc'):Fin H g.items hc Gc Y:=
 ⟨fun x hx=>F.O x (M.sub x hx),fun x hx=>(F.hv x (M.sub x hx)).trans (M.hc x hx),fun x hx=>(F.G x (M.sub x hx)).trans (M.G x hx),F.H⟩
section
variable {H:Nat→Frag} {O:Id→OS} {hv:Id→Value} {G:Id→Frag} {w:World} {H':Nat→Frag}
theorem giveI_rel (hH:∀l,H' (l+1)=H l) {g G1 hc Gc} (S:Giv H O hv G w H' g G1 hc Gc) {a:Nat} {i:Id} {q:Path} {c:Id} {g':Give} (hg:giveI O a g i q=some (c,g'))
  {Q:Nat→List (List D)→Value→Prop} (h:∀ob,(ov O g.T i).look q=some ob→∃k' rows' v',At (G1 i) (.own ob.k ob.rows) (hv i) q (.own k' rows') v'∧Q k' rows' v'):
  ∃G2 hc2 Gc2,Giv H O hv G w H' g' G2 hc2 Gc2∧More g hc Gc g' hc2 Gc2∧∃k' rows' v',Q k' rows' v'∧∀Y,Fin H g'.items hc2 Gc2 Y→∃rows2,Y.O c=.live ⟨k',rows2,[]⟩∧rows2.length=rows'.length∧Y.hv c=v':=by
 have hg0:=hg
 unfold giveI at hg
 split at hg
 ·rename_i ob hl
  obtain⟨k',rows',v',hat,hQ⟩:=h ob hl
  obtain⟨G2,hc2,Gc2,S2,e1,e2,e3,it,e4,e5,e6,e7,e8,e9,_⟩:=S.step hH hg0 hl hat
  refine⟨G2,hc2,Gc2,S2,⟨fun x hx=>by rw[e4]; exact List.mem_cons_of_mem _ hx,fun x hx=>(e2 x hx).1,fun x hx=>(e2 x hx).2,e3⟩,k',rows',v',hQ,fun Y F=>?_⟩
  have hit:it∈g'.items:=by rw[e4]; exact List.mem_cons_self ..
  have h1:=F.O it hit
  have h2:=F.hv it hit
  rw[e5] at h1 h2
  refine⟨it.ob.rows,?_,e9,by rw[h2,e1]⟩
  rw[h1]
  have hd:=(S2.rep it hit).2
  rw[← e8,← hd]
 ·cases hg
theorem giveC_rel (hH:∀l,H' (l+1)=H l) {g G1 hc Gc} (S:Giv H O hv G w H' g G1 hc Gc) {a:Nat} {c c':CV} {v:Value} {g':Give} (hx:CVRel ⟨H,O,hv,G⟩ c v) (hg:giveC O a g c=some (c',g')):
  ∃G2 hc2 Gc2,Giv H O hv G w H' g' G2 hc2 Gc2∧More g hc Gc g' hc2 Gc2∧∀Y,Fin H g'.items hc2 Gc2 Y→CVRel Y c' v:=by
 cases c with
 |val x=>
  simp only[giveC,Option.some.injEq,Prod.mk.injEq] at hg
  obtain⟨rfl,rfl⟩:=hg
  exact⟨G1,hc,Gc,S,More.refl _ _ _,fun Y _=>hx⟩
 |nl k=>
  simp only[giveC,Option.some.injEq,Prod.mk.injEq] at hg
  obtain⟨rfl,rfl⟩:=hg
  exact⟨G1,hc,Gc,S,More.refl _ _ _,fun Y _=>hx⟩
 |bor l rows=>
  simp only[giveC,Option.some.injEq,Prod.mk.injEq] at hg
  obtain⟨rfl,rfl⟩:=hg
  exact⟨G1,hc,Gc,S,More.refl _ _ _,fun Y F=>by simp only[CVRel] at hx⊢; rw[F.H]; exact hx⟩
 |ref r=>
  simp only[giveC] at hg
  split at hg
  ·rename_i cc g2 hg2
   simp only[Option.some.injEq,Prod.mk.injEq] at hg
   obtain⟨rfl,rfl⟩:=hg
   obtain⟨p1,p2,p3⟩:=hx.carry S.c
   obtain⟨G2,hc2,Gc2,S2,M2,k',rows',v',⟨hle,hw⟩,hY⟩:=giveI_rel hH S hg2 (Q:=fun k' rows' v'=>r.lo+r.n≤rows'.length∧ViewOf v' k' r.lo r.n v) p3
   refine⟨G2,hc2,Gc2,S2,M2,fun Y F=>?_⟩
   obtain⟨rows2,e1,e2,e3⟩:=hY Y F
   refine⟨p1,by show Y.O cc≠_; rw[e1]; simp,fun ob hob=>?_⟩
   have hob':(Y.O cc).look []=some ob:=hob
   rw[e1] at hob'
   obtain⟨rfl,_⟩:=look_some hob'
   exact⟨k',rows2,v',by show At (Y.G cc) _ (Y.hv cc) _ _ _; rw[e3]; exact .nil,by show r.lo+r.n≤_; rw[e2]; exact hle,hw⟩
  ·cases hg
theorem giveCs_rel (hH:∀l,H' (l+1)=H l) {a:Nat}:∀ {cs cs':List CV} {vs:List Value} {g g':Give} {G1 hc Gc},Giv H O hv G w H' g G1 hc Gc→CVRels ⟨H,O,hv,G⟩ cs vs→giveCs O a g cs=some (cs',g')→
  ∃G2 hc2 Gc2,Giv H O hv G w H' g' G2 hc2 Gc2∧More g hc Gc g' hc2 Gc2∧∀Y,Fin H g'.items hc2 Gc2 Y→CVRels Y cs' vs
 |[],cs',vs,g,g',G1,hc,Gc,S,hx,hg=>by
  simp only[giveCs,Option.some.injEq,Prod.mk.injEq] at hg
  obtain⟨rfl,rfl⟩:=hg
  exact⟨G1,hc,Gc,S,More.refl _ _ _,fun Y _=>hx⟩
 |c::cs,cs',vs,g,g',G1,hc,Gc,S,hx,hg=>by
  simp only[CVRels] at hx
  obtain⟨v,vs,rfl,h1,h2⟩:=hx
  simp only[giveCs] at hg
  split at hg
  ·rename_i c1 g1 e1
   split at hg
   ·rename_i cs1 g2 e2
    simp only[Option.some.injEq,Prod.mk.injEq] at hg
    obtain⟨rfl,rfl⟩:=hg
    obtain⟨G2,hc2,Gc2,S2,M2,r2⟩:=giveC_rel hH S h1 e1
    obtain⟨G3,hc3,Gc3,S3,M3,r3⟩:=giveCs_rel hH S2 h2 e2
    refine⟨G3,hc3,Gc3,S3,M2.trans M3,fun Y F=>?_⟩
    simp only[CVRels]
    exact⟨v,vs,rfl,r2 Y (F.less M3),r3 Y F⟩
   ·cases hg
  ·cases hg
mutual
theorem give_rel (hH:∀l,H' (l+1)=H l) {a:Nat}:∀ {s s':SV} {v:Value} {g g':Give} {G1 hc Gc},Giv H O hv G w H' g G1 hc Gc→SVRel ⟨H,O,hv,G⟩ s v→give O a g s=some (s',g')→
  ∃G2 hc2 Gc2,Giv H O hv G w H' g' G2 hc2 Gc2∧More g hc Gc g' hc2 Gc2∧∀Y,Fin H g'.items hc2 Gc2 Y→SVRel Y s' v
 |.dead,s',v,g,g',G1,hc,Gc,S,hx,hg=>by simp[give] at hg
 |.tup _,s',v,g,g',G1,hc,Gc,S,hx,hg=>by simp[give] at hg
 |.one c,s',v,g,g',G1,hc,Gc,S,hx,hg=>by
  simp only[give] at hg
  split at hg
  ·simp only[Option.some.injEq,Prod.mk.injEq] at hg
   obtain⟨rfl,rfl⟩:=hg
   simp only[SVRel] at hx
   obtain⟨G2,hc2,Gc2,S2,M2,r2⟩:=giveC_rel hH S hx (by assumption)
   exact⟨G2,hc2,Gc2,S2,M2,fun Y F=>by simp only[SVRel]; exact r2 Y F⟩
  ·cases hg
 |.agg cs,s',v,g,g',G1,hc,Gc,S,hx,hg=>by
  simp only[give] at hg
  split at hg
  ·simp only[Option.some.injEq,Prod.mk.injEq] at hg
   obtain⟨rfl,rfl⟩:=hg
   simp only[SVRel] at hx
   obtain⟨vs,rfl,hx⟩:=hx
   obtain⟨G2,hc2,Gc2,S2,M2,r2⟩:=giveCs_rel hH S hx (by assumption)
   exact⟨G2,hc2,Gc2,S2,M2,fun Y F=>by simp only[SVRel]; exact⟨vs,rfl,r2 Y F⟩⟩
  ·cases hg
 |.ptr p,s',v,g,g',G1,hc,Gc,S,hx,hg=>by
  simp only[give] at hg
  split at hg
  ·rename_i cc g2 hg2
   simp only[Option.some.injEq,Prod.mk.injEq] at hg
   obtain⟨rfl,rfl⟩:=hg
   have hx':=hx.carry S.c
   simp only[SVRel,PtrRel] at hx'
   obtain⟨p1,p2,p3⟩:=hx'
   obtain ⟨G2, hc2, Gc2, S2, M2, k', rows', v', ⟨b, o, len, cap, rfl, h1, h2, h3⟩, hY⟩ := giveI_rel hH S hg2 (Q := fun k' rows' v' => ∃ b o len cap, v' = .slice (some ⟨b, o, none⟩) len cap ∧ p.row < rows'.length ∧ p.off + p.n ≤ k' ∧ v = .pointer (some ⟨b, o + p.row * k' + p.off, none⟩)) (fun ob hob => by
    obtain⟨k',rows',b,o,len,cap,q1,q2,q3,q4⟩:=p3 ob hob
    exact⟨k',rows',_,q1,b,o,len,cap,rfl,q2,q3,q4⟩)
   refine⟨G2,hc2,Gc2,S2,M2,fun Y F=>?_⟩
   obtain⟨rows2,e1,e2,e3⟩:=hY Y F
   simp only[SVRel,PtrRel]
   refine⟨p1,by rw[e1]; simp,fun ob hob=>?_⟩
   rw[e1] at hob
   obtain⟨rfl,_⟩:=look_some hob
   exact⟨k',rows2,b,o,len,cap,by rw[e3]; exact .nil,by rw[e2]; exact h1,h2,h3⟩
  ·cases hg
 |.bptr l cs,s',v,g,g',G1,hc,Gc,S,hx,hg=>by
  simp only[give,Option.some.injEq,Prod.mk.injEq] at hg
  obtain⟨rfl,rfl⟩:=hg
  exact⟨G1,hc,Gc,S,More.refl _ _ _,fun Y F=>by simp only[SVRel,BptrRel] at hx⊢; rw[F.H]; exact hx⟩
 |.clo f x y,s',v,g,g',G1,hc,Gc,S,hx,hg=>by
  simp only[give] at hg
  split at hg
  ·rename_i x1 g1 e1
   split at hg
   ·rename_i y1 g2 e2
    simp only[Option.some.injEq,Prod.mk.injEq] at hg
    obtain⟨rfl,rfl⟩:=hg
    simp only[SVRel] at hx
    obtain⟨us,vs,rfl,h1,h2⟩:=hx
    obtain⟨G2,hc2,Gc2,S2,M2,r2⟩:=giveL_rel hH S h1 e1
    obtain⟨G3,hc3,Gc3,S3,M3,r3⟩:=giveL_rel hH S2 h2 e2
    refine⟨G3,hc3,Gc3,S3,M2.trans M3,fun Y F=>?_⟩
    simp only[SVRel]
    exact⟨us,vs,rfl,r2 Y (F.less M3),r3 Y F⟩
   ·cases hg
  ·cases hg
theorem giveL_rel (hH:∀l,H' (l+1)=H l) {a:Nat}:∀ {s s':List SV} {v:List Value} {g g':Give} {G1 hc Gc},Giv H O hv G w H' g G1 hc Gc→SVRels ⟨H,O,hv,G⟩ s v→giveL O a g s=some (s',g')→
  ∃G2 hc2 Gc2,Giv H O hv G w H' g' G2 hc2 Gc2∧More g hc Gc g' hc2 Gc2∧∀Y,Fin H g'.items hc2 Gc2 Y→SVRels Y s' v
 |[],s',v,g,g',G1,hc,Gc,S,hx,hg=>by
  simp only[giveL,Option.some.injEq,Prod.mk.injEq] at hg
  obtain⟨rfl,rfl⟩:=hg
  simp only[SVRels] at hx
  exact⟨G1,hc,Gc,S,More.refl _ _ _,fun Y _=>by simp only[SVRels]; exact hx⟩
 |s::l,s',v,g,g',G1,hc,Gc,S,hx,hg=>by
  simp only[SVRels] at hx
  obtain⟨u,us,rfl,h1,h2⟩:=hx
  simp only[giveL] at hg
  split at hg
  ·rename_i s1 g1 e1
   split at hg
   ·rename_i l1 g2 e2
    simp only[Option.some.injEq,Prod.mk.injEq] at hg
    obtain⟨rfl,rfl⟩:=hg
    obtain⟨G2,hc2,Gc2,S2,M2,r2⟩:=give_rel hH S h1 e1
    obtain⟨G3,hc3,Gc3,S3,M3,r3⟩:=giveL_rel hH S2 h2 e2
    refine⟨G3,hc3,Gc3,S3,M2.trans M3,fun Y F=>?_⟩
    simp only[SVRels]
    exact⟨u,us,rfl,r2 Y (F.less M3),r3 Y F⟩
   ·cases hg
  ·cases hg
end
structure Lent (H:Nat→Frag) (G:Id→Frag) (rd:List Id) (Y:Ctx):Prop where
 all:∀l,Sub (H l) (Y.H 0)
 H:∀l,Y.H (l+1)=H l
 rd:∀i∈rd,Sub (G i) (Y.H 0)
theorem Lent.left {G:Id→Frag} {a b:List Id} {Y:Ctx} (L:Lent H G (a++b) Y):Lent H G a Y:=⟨L.all,L.H,fun i hi=>L.rd i (List.mem_append_left _ hi)⟩
theorem Lent.right {G:Id→Frag} {a b:List Id} {Y:Ctx} (L:Lent H G (a++b) Y):Lent H G b Y:=⟨L.all,L.H,fun i hi=>L.rd i (List.mem_append_right _ hi)⟩
theorem lendC_rel (M:ObjsOK H O hv G w) {c c':CV} {v:Value} {rd:List Id} {Y:Ctx} (hx:CVRel ⟨H,O,hv,G⟩ c v) (e:lendC O c=some (c',rd)) (L:Lent H G rd Y):CVRel Y c' v:=by
 cases c with
 |val x=>simp only[lendC,Option.some.injEq,Prod.mk.injEq] at e; obtain⟨rfl,rfl⟩:=e; exact hx
 |nl k=>
  simp only[lendC,Option.some.injEq,Prod.mk.injEq] at e; obtain⟨rfl,rfl⟩:=e
  obtain⟨a,rfl⟩:=hx
  simp only[CVRel,BRep]
  exact .inl ⟨trivial,a,0,rfl⟩
 |bor l rows=>
  simp only[lendC,Option.some.injEq,Prod.mk.injEq] at e; obtain⟨rfl,rfl⟩:=e
  simp only[CVRel] at hx⊢; rw[L.H]; exact hx
 |ref r=>
  simp only[lendC] at e
  split at e
  ·rename_i o k rows hra
   split at e
   ·rename_i hf
    simp only[Option.some.injEq,Prod.mk.injEq] at e; obtain⟨rfl,rfl⟩:=e
    obtain⟨_,_,hle⟩:=rowsAt_parts hra
    obtain⟨hlive,v',hat,hw⟩:=ref_view hx hra
    obtain⟨_,h',hs',ho'⟩:=At.restrict (M.objs _ _ hlive) (sub_refl _) hat
    obtain⟨g2,hg2,ho2⟩:=own_view ho' hw hle
    simp only[CVRel]
    exact ho2.toB L.all (by simpa only[full] using hf) (Sub.trans hg2 (Sub.trans hs' (L.rd r.id (by simp))))
   ·cases e
  ·cases e
theorem lendCs_rel (M:ObjsOK H O hv G w) {Y:Ctx}:∀ {cs cs':List CV} {vs:List Value} {rd:List Id},CVRels ⟨H,O,hv,G⟩ cs vs→lendCs O cs=some (cs',rd)→Lent H G rd Y→CVRels Y cs' vs
 |[],cs',vs,rd,hx,e,_=>by simp only[lendCs,Option.some.injEq,Prod.mk.injEq] at e; obtain⟨rfl,rfl⟩:=e; exact hx
 |c::cs,cs',vs,rd,hx,e,L=>by
  simp only[CVRels] at hx
  obtain⟨v,vs,rfl,h1,h2⟩:=hx
  simp only[lendCs] at e
  split at e
  ·simp only[Option.some.injEq,Prod.mk.injEq] at e; obtain⟨rfl,rfl⟩:=e
   simp only[CVRels]
   exact⟨v,vs,rfl,lendC_rel M h1 (by assumption) L.left,lendCs_rel M h2 (by assumption) L.right⟩
  ·cases e
mutual
theorem lend_rel (M:ObjsOK H O hv G w) {Y:Ctx}:∀ {s s':SV} {v:Value} {rd:List Id},SVRel ⟨H,O,hv,G⟩ s v→lend O s=some (s',rd)→Lent H G rd Y→SVRel Y s' v
 |.dead,s',v,rd,hx,e,L=>by simp[lend] at e
 |.tup _,s',v,rd,hx,e,L=>by simp[lend] at e
 |.one c,s',v,rd,hx,e,L=>by
  simp only[lend] at e
  split at e
  ·simp only[Option.some.injEq,Prod.mk.injEq] at e; obtain⟨rfl,rfl⟩:=e
   simp only[SVRel] at hx⊢
   exact lendC_rel M hx (by assumption) L
  ·cases e
 |.agg cs,s',v,rd,hx,e,L=>by
  simp only[lend] at e
  split at e
  ·simp only[Option.some.injEq,Prod.mk.injEq] at e; obtain⟨rfl,rfl⟩:=e
   simp only[SVRel] at hx⊢
   obtain⟨vs,rfl,hx⟩:=hx
   exact⟨vs,rfl,lendCs_rel M hx (by assumption) L⟩
  ·cases e
 |.ptr p,s',v,rd,hx,e,L=>by
  simp only[lend] at e
  split at e
  ·rename_i o k rows row hra
   split at e
   ·rename_i hf
    simp only[Option.some.injEq,Prod.mk.injEq] at e; obtain⟨rfl,rfl⟩:=e
    obtain⟨hl,hn,hrow,hlen⟩:=rowAt_parts hra
    have hO:=look_live hl
    simp only[SVRel,PtrRel] at hx
    obtain⟨_,_,h3⟩:=hx
    obtain⟨k',rows',b,of,len,cap,nv,hrl,hoff,ev⟩:=h3 o hl
    obtain⟨b',o',cap',arr,t',fz,gs,gr,nv2,e2,_,hsb,hrb,hk,_,hin,_,hseg,_⟩:=(M.objs _ _ hO).change hn hrow hlen
    obtain⟨e0,e1⟩:=nv.det nv2
    simp only[D.own.injEq] at e0
    obtain⟨rfl,rfl⟩:=e0
    simp only[Value.slice.injEq,Option.some.injEq,Addr.mk.injEq] at e1
    obtain⟨⟨rfl,rfl,_⟩,rfl,rfl⟩:=e1
    have hsub:=L.rd p.id (by simp)
    have hgs:Sub gs (Y.H 0):=Sub.trans (by rw[e2]; exact sub_seg hsb hrb) hsub
    have hb:Y.H 0 b=some (.cells arr t' fz):=hsub _ _ (by rw[e2]; exact one_un_at _ _ _)
    have hbl:=hseg.toB L.all hf hgs
    have hl2:(toBL ((row.drop p.off).take p.n)).length=p.n:=by rw[toBL_length,List.length_take,List.length_drop]; omega
    simp only[SVRel,BptrRel]
    exact⟨b,of+p.row*k'+p.off,arr,t',fz,ev,hb,by rw[hl2]; omega,by rw[hl2]; exact hbl⟩
   ·cases e
  ·cases e
 |.bptr l cs,s',v,rd,hx,e,L=>by
  simp only[lend,Option.some.injEq,Prod.mk.injEq] at e; obtain⟨rfl,rfl⟩:=e
  simp only[SVRel,BptrRel] at hx⊢; rw[L.H]; exact hx
 |.clo f a b,s',v,rd,hx,e,L=>by
  simp only[lend] at e
  split at e
  ·simp only[Option.some.injEq,Prod.mk.injEq] at e; obtain⟨rfl,rfl⟩:=e
   simp only[SVRel] at hx⊢
   obtain⟨us,vs,rfl,h1,h2⟩:=hx
   exact⟨us,vs,rfl,lendL_rel M h1 (by assumption) L.left,lendL_rel M h2 (by assumption) L.right⟩
  ·cases e
theorem lendL_rel (M:ObjsOK H O hv G w) {Y:Ctx}:∀ {s s':List SV} {v:List Value} {rd:List Id},SVRels ⟨H,O,hv,G⟩ s v→lendL O s=some (s',rd)→Lent H G rd Y→SVRels Y s' v
 |[],s',v,rd,hx,e,L=>by
  simp only[lendL,Option.some.injEq,Prod.mk.injEq] at e; obtain⟨rfl,rfl⟩:=e
  simp only[SVRels] at hx⊢; exact hx
 |s::l,s',v,rd,hx,e,L=>by
  simp only[SVRels] at hx
  obtain⟨u,us,rfl,h1,h2⟩:=hx
  simp only[lendL] at e
  split at e
  ·simp only[Option.some.injEq,Prod.mk.injEq] at e; obtain⟨rfl,rfl⟩:=e
   simp only[SVRels]
   exact⟨u,us,rfl,lend_rel M h1 (by assumption) L.left,lendL_rel M h2 (by assumption) L.right⟩
  ·cases e
end
theorem findI_ok {i:Id} {x:GItem}:∀ {l:List GItem},findI l i=some x→x∈l∧x.i=i∧x.q=[]
 |[],h=>by cases h
 |y::l,h=>by
  simp only[findI] at h
  split at h
  ·rename_i e; injection h with h; subst h; exact⟨List.mem_cons_self ..,e.1,e.2⟩
  ·obtain⟨h1,h2⟩:=findI_ok h; exact⟨List.mem_cons_of_mem _ h1,h2⟩
theorem downL_at:∀ {ds ds':List D} {j:Nat} {k':Nat} {rows':List (List D)},downL ds=some ds'→ds[j]?=some (.own k' rows')→ds'[j]?=some (.own k' rows')
 |[],ds',j,k',rows',_,h=>by simp at h
 |d::ds,ds',j,k',rows',e,h=>by
  simp only[downL] at e
  split at e<;>try cases e
  rename_i d1 l1 e1 e2
  cases j with
  |zero=>
   simp only[List.getElem?_cons_zero,Option.some.injEq] at h⊢
   subst h
   simp only[V.down] at e1
   split at e1
   ·injection e1 with e1; exact e1.symm
   ·cases e1
  |succ j=>simp only[List.getElem?_cons_succ] at h⊢; exact downL_at e2 h
theorem downR_len {rows rows2:List (List D)} (e:V.downR rows=some rows2):rows2.length=rows.length:=by
 unfold V.downR at e
 split at e
 ·injection e with e; rw[e]
 ·split at e
  ·split at e
   ·injection e with e; rw[← e]; rfl
   ·cases e
  ·cases e
theorem At.downed {g:Frag} {k:Nat} {rows rows2:List (List D)} {v:Value} {q:Path} {k':Nat} {rows':List (List D)} {c:Value} (hd:V.downR rows=some rows2) (hlen:rows2.length=rows.length) (h:At g (.own k rows) v q (.own k' rows') c):
  ∃rows3,At g (.own k rows2) v q (.own k' rows3) c∧rows3.length=rows'.length:=by
 unfold V.downR at hd
 split at hd
 ·injection hd with hd; subst hd; exact⟨_,h,rfl⟩
 ·split at hd<;>try cases hd
  rename_i ds _
  split at hd<;>try cases hd
  rename_i ds' e1
  generalize hd1:D.own k [ds]=d1 at h
  generalize hd2:D.own k' rows'=d2 at h
  cases h with
  |nil=>
   subst hd1; simp only[D.own.injEq] at hd2; obtain⟨rfl,rfl⟩:=hd2
   exact⟨_,.nil,rfl⟩
  |@cons _ _ _ _ _ _ _ _ _ i j row d1' c1 _ _ _ hb hi hj hc m=>
   simp only[D.own.injEq] at hd1; obtain⟨rfl,rfl⟩:=hd1
   subst hd2
   cases i with
   |succ i=>simp at hi
   |zero=>
    simp only[List.getElem?_cons_zero,Option.some.injEq] at hi
    subst hi
    have hown:∃k5 r5,d1'=.own k5 r5:=by
     generalize hd3:D.own k' rows'=d3 at m
     cases m with
     |nil=>exact⟨_,_,hd3.symm⟩
     |cons=>exact⟨_,_,rfl⟩
    obtain⟨k5,r5,rfl⟩:=hown
    exact⟨rows',.cons hb (by simp) (downL_at e1 hj) hc m,rfl⟩
theorem alias_rel {g G1 hc Gc} (S:Giv H O hv G w H' g G1 hc Gc) {s s':SV} {v:Value} {Y:Ctx} (hx:SVRel ⟨H,O,hv,G⟩ s v) (e:alias_ O g s=some s') (F:Fin H g.items hc Gc Y):SVRel Y s' v:=by
 unfold alias_ at e
 split at e<;>try cases e
 rename_i p
 split at e<;>try cases e
 rename_i x o h1 h2
 split at e<;>try cases e
 obtain⟨hm,hi,hq⟩:=findI_ok h1
 simp only[SVRel,PtrRel] at hx⊢
 obtain⟨p1,p2,p3⟩:=hx
 obtain⟨o1,q1,q2,q3⟩:=S.all x hm hq
 obtain⟨_,q4,_,q5,q6,_⟩:=(S.src x hm).1 hq
 refine⟨p1,by rw[F.O x hm]; simp,fun ob hob=>?_⟩
 rw[F.O x hm] at hob
 obtain⟨rfl,_⟩:=look_some hob
 obtain⟨k',rows',b,of,len,cap,a1,a2,a3,a4⟩:=p3 o h2
 have ho:=look_live h2
 rw[← hi] at ho
 rw[q1] at ho; cases ho
 rw[q5] at q1; cases q1
 have hlen:=downR_len q2
 obtain⟨rows3,b1,b2⟩:=At.downed q2 hlen a1
 refine⟨k',rows3,b,of,len,cap,?_,by rw[b2]; exact a2,a3,a4⟩
 rw[F.G x hm,F.hv x hm,q3,q4,hi,← q6]
 exact b1
theorem Giv.rdx {g G1 hc Gc} (S:Giv H O hv G w H' g G1 hc Gc) (rd:List Id):Giv H O hv G w H' {g with rd} G1 hc Gc:=
 ⟨S.m,S.c,S.none_,S.dead,S.keep,S.name,S.uniq,S.rep,S.out,S.ap1,S.ap2,S.ap3,S.mem,S.src,S.tids,S.srcne,S.all,S.orig⟩
theorem prep_rel (M:ObjsOK H O hv G w) (hH:∀l,H' (l+1)=H l) {ms:List Mode}:∀ {l l':List SV} {vals:List Value} {a:Nat} {g g':Give} {G1 hc Gc},Giv H O hv G w H' g G1 hc Gc→SVRels ⟨H,O,hv,G⟩ l vals→prep O ms a g l=some (l',g')→
  ∃G2 hc2 Gc2,Giv H O hv G w H' g' G2 hc2 Gc2∧(∀x∈g.items,x∈g'.items∧hc2 x.c=hc x.c∧Gc2 x.c=Gc x.c)∧(∀i∈g.rd,i∈g'.rd)∧∀Y,Fin H g'.items hc2 Gc2 Y→Lent H G g'.rd Y→SVRels Y l' vals
 |[],l',vals,a,g,g',G1,hc,Gc,S,hx,e=>by
  simp only[prep,Option.some.injEq,Prod.mk.injEq] at e
  obtain⟨rfl,rfl⟩:=e
  simp only[SVRels] at hx
  exact⟨G1,hc,Gc,S,fun x h=>⟨h,rfl,rfl⟩,fun i h=>h,fun Y _ _=>by simp only[SVRels]; exact hx⟩
 |s::l,l',vals,a,g,g',G1,hc,Gc,S,hx,e=>by
  simp only[SVRels] at hx
  obtain⟨u,us,rfl,h1,h2⟩:=hx
  simp only[prep] at e
  split at e
  ·split at e
   ·rename_i s1 rd e1
    split at e
    ·rename_i l1 g1 e2
     simp only[Option.some.injEq,Prod.mk.injEq] at e
     obtain⟨rfl,rfl⟩:=e
     obtain⟨G2,hc2,Gc2,S2,m1,m2,r⟩:=prep_rel M hH (S.rdx (g.rd++rd)) h2 e2
     refine⟨G2,hc2,Gc2,S2,m1,fun i hi=>m2 i (List.mem_append_left _ hi),fun Y F L=>?_⟩
     simp only[SVRels]
     exact⟨u,us,rfl,lend_rel M h1 e1 ⟨L.all,L.H,fun i hi=>L.rd i (m2 i (List.mem_append_right _ hi))⟩,r Y F L⟩
    ·cases e
   ·cases e
  ·split at e
   ·rename_i s1 g1 e1
    split at e
    ·rename_i l1 g2 e2
     simp only[Option.some.injEq,Prod.mk.injEq] at e
     obtain⟨rfl,rfl⟩:=e
     obtain⟨G2,hc2,Gc2,S2,M2,r2⟩:=give_rel hH S h1 e1
     obtain⟨G3,hc3,Gc3,S3,m1,m2,r3⟩:=prep_rel M hH S2 h2 e2
     refine⟨G3,hc3,Gc3,S3,fun x hx=>⟨(m1 x (M2.sub x hx)).1,((m1 x (M2.sub x hx)).2.1).trans (M2.hc x hx),((m1 x (M2.sub x hx)).2.2).trans (M2.G x hx)⟩,fun i hi=>m2 i (by rw[M2.rd]; exact hi),fun Y F L=>?_⟩
     simp only[SVRels]
     exact⟨u,us,rfl,r2 Y ⟨fun x hx=>F.O x (m1 x hx).1,fun x hx=>(F.hv x (m1 x hx).1).trans (m1 x hx).2.1,fun x hx=>(F.G x (m1 x hx).1).trans (m1 x hx).2.2,F.H⟩,r3 Y F L⟩
    ·cases e
   ·cases e
  ·split at e
   ·split at e
    ·rename_i l1 g1 e2
     simp only[Option.some.injEq,Prod.mk.injEq] at e
     obtain⟨rfl,rfl⟩:=e
     obtain⟨G2,hc2,Gc2,S2,m1,m2,r⟩:=prep_rel M hH S h2 e2
     refine⟨G2,hc2,Gc2,S2,m1,m2,fun Y F L=>?_⟩
     simp only[SVRels]
     exact⟨u,us,rfl,h1,r Y F L⟩
    ·cases e
   ·cases e
  ·split at e
   ·rename_i s1 g1 e1
    split at e
    ·rename_i l1 g2 e2
     simp only[Option.some.injEq,Prod.mk.injEq] at e
     obtain⟨rfl,rfl⟩:=e
     obtain⟨G2,hc2,Gc2,S2,M2,r2⟩:=give_rel hH S h1 e1
     obtain⟨G3,hc3,Gc3,S3,m1,m2,r3⟩:=prep_rel M hH S2 h2 e2
     refine⟨G3,hc3,Gc3,S3,fun x hx=>⟨(m1 x (M2.sub x hx)).1,((m1 x (M2.sub x hx)).2.1).trans (M2.hc x hx),((m1 x (M2.sub x hx)).2.2).trans (M2.G x hx)⟩,fun i hi=>m2 i (by rw[M2.rd]; exact hi),fun Y F L=>?_⟩
     simp only[SVRels]
     exact⟨u,us,rfl,r2 Y ⟨fun x hx=>F.O x (m1 x hx).1,fun x hx=>(F.hv x (m1 x hx).1).trans (m1 x hx).2.1,fun x hx=>(F.G x (m1 x hx).1).trans (m1 x hx).2.2,F.H⟩,r3 Y F L⟩
    ·cases e
   ·cases e
  ·split at e
   ·rename_i s1 e1
    split at e
    ·rename_i l1 g1 e2
     simp only[Option.some.injEq,Prod.mk.injEq] at e
     obtain⟨rfl,rfl⟩:=e
     obtain⟨G2,hc2,Gc2,S2,m1,m2,r⟩:=prep_rel M hH S h2 e2
     refine⟨G2,hc2,Gc2,S2,m1,m2,fun Y F L=>?_⟩
     simp only[SVRels]
     exact⟨u,us,rfl,alias_rel S h1 e1 ⟨fun x hx=>F.O x (m1 x hx).1,fun x hx=>(F.hv x (m1 x hx).1).trans (m1 x hx).2.1,fun x hx=>(F.G x (m1 x hx).1).trans (m1 x hx).2.2,F.H⟩,r Y F L⟩
    ·cases e
   ·cases e
end
end Go.Proofs.YtmdocdnidilaiaaGreat.V
