/- What the functions compute. -/
import Derived.Test.YtmdocdnidilaiaaGreatEPutJobG
import Derived.KernelRfl
namespace Go.Proofs.YtmdocdnidilaiaaGreat.PutJob
open Go Go.Proofs.YtmdocdnidilaiaaGreat.V
set_option linter.unusedVariables false
set_option linter.unusedSimpArgs false
set_option maxRecDepth 20000
open Go.IntKind (wrap)
open Int (toNat)
open List (length_replicate length_map length_set length_append length_cons length_nil length_take length_drop take_of_length_le map_take map_drop map_set append_assoc getElem?_map map length take drop getD set)
attribute [local simp] toBR_i fullR_i pureR_i lenB_i lenD_i fromBR_i copy_i toBR_N fullR_N pureR_N lenB_N lenD_N toBR_U fullR_U pureR_U lenB_U lenD_U toBR_T fullR_T pureR_T lenB_T lenD_T toBR_J fullR_J pureR_J lenB_J lenD_J toBR_JL fullR_JL pureR_JL lenB_JL lenD_JL toBR_b fullR_b pureR_b lenB_b lenD_b fromBR_b copy_b toBR_JR fullR_JR pureR_JR lenB_JR lenD_JR toBR_G fullR_G pureR_G lenB_G lenD_G toBR_TL fullR_TL pureR_TL lenB_TL lenD_TL toBR_LiE fullR_LiE pureR_LiE lenB_LiE lenD_LiE toBR_NL fullR_NL pureR_NL lenB_NL lenD_NL toBR_UL fullR_UL pureR_UL lenB_UL lenD_UL strInts_len byteRows_len toBR_y fullR_y pureR_y lenB_y lenD_y fromBR_y copy_y toBR_LyE fullR_LyE pureR_LyE lenB_LyE lenD_LyE toBR_LLyEE fullR_LLyEE pureR_LLyEE lenB_LLyEE lenD_LLyEE
/-! loop.example/g00539/laws.eqJobS -/
def m20 (a0:(List K_J)) (a1:(List K_J)):Bool:=
  if(((length (map b_J a0)):Int) !=((length (map b_J a1)):Int))=true then false else
  (match r20_0 a0 a0 a1 0 with | .k0 w0_1 w1_1=>true | .k1=>false)
theorem e20 {l0_0:Nat} {a0:(List K_J)} {l1_0:Nat} {a1:(List K_J)} (hy0:length a0*64≤140737488351232) (hy1:∀z∈a0,ok_J z) (hy2:length a1*64≤140737488351232) (hy3:∀z∈a1,ok_J z):Ev F X (.call 20 [(.one (.bor l0_0 (map b_J a0))),(.one (.bor l1_0 (map b_J a1)))] [] [] [(.one (.val (.bool (m20 a0 a1))))]):=by
  unfold m20
  by_cases h0:(((length (map b_J a0)):Int) !=((length (map b_J a1)):Int))=true
  · try simp only[if_pos h0]
    exact cp ya (.f h0 (.h 12 (.b true) .nil))
  · try simp only[if_neg h0]
    cases h1:r20_0 a0 a0 a1 0 with
    |k0 w0_1 w1_1=>
      try dsimp only
      have f1:=Eq.refl (h20_0 l0_0 l1_0 a0 a1 0 )
      exact cp ya (.f (nt h0) (.f f1 (.f (ev_ (e:=ex20_0) (g:=(fin20_0 l0_0 l1_0 a0 a1)) h1 (t20_0 (l0_0:=l0_0) (l1_0:=l1_0) (a0:=a0) (a1:=a1) (by assumption) (by assumption) (by assumption) (by assumption) a0 a1 [] []  rfl rfl rfl yab)) (.h 12 (.b false) (.h 15 (.loop (h20_0 l0_0 l1_0 a0 a1 0) (.exit 0) ⟨[(0,(.one (.bor l0_0 (map b_J a0)))),(1,(.one (.bor l1_0 (map b_J a1)))),(5,(.oi w0_1)),(14,(.one (.val (.bool w1_1))))],[]⟩) .nil)))))
    |k1=>
      try dsimp only
      have f1:=Eq.refl (h20_0 l0_0 l1_0 a0 a1 0 )
      exact cp ya (.f (nt h0) (.f f1 (.f (ev_ (e:=ex20_0) (g:=(fin20_0 l0_0 l1_0 a0 a1)) h1 (t20_0 (l0_0:=l0_0) (l1_0:=l1_0) (a0:=a0) (a1:=a1) (by assumption) (by assumption) (by assumption) (by assumption) a0 a1 [] []  rfl rfl rfl yab)) (.h 12 (.b false) (.h 15 (.loop (h20_0 l0_0 l1_0 a0 a1 0) .ret ⟨[(4,(.one (.val (.bool false))))],[]⟩) .nil)))))
theorem eqr20_0 (a0:(List K_J)):∀(l m:List K_J) (i:Int),l.length=m.length→(r20_0 a0 l m i=.k1∧l≠m)∨(∃w0 w1,r20_0 a0 l m i=.k0 w0 w1∧l=m)
  |[],[],i,_=>.inr ⟨_,_,rfl,rfl⟩
  |[],_::_,i,h=>by simp at h
  |_::_,[],i,h=>by simp at h
  |x::l,y::m,i,h=>by
    have ih:=eqr20_0 a0 l m (i+1) yaf
    by_cases hxy:x=y
    · subst hxy
      have e:r20_0 a0 (x::l) (x::m) i=r20_0 a0 l m (i+1):=by simp[r20_0,ba_eq,eqd11]
      rw[e]
      rcases ih with⟨h1,h2⟩ |⟨w0,w1,h1,h2⟩
      · exact .inl ⟨h1,by simp[h2]⟩
      · exact .inr ⟨_,_,h1,by rw[h2]⟩
    · have e:r20_0 a0 (x::l) (y::m) i=.k1:=by
        simp only[r20_0]
        first
          |((repeat' split)<;>simp_all [ba_eq,eqd11]; done)
          |(cases x; cases y;(repeat' split)<;>simp_all [ba_eq,eqd11])
      exact .inl ⟨e,by simp[hxy]⟩
open Classical in
theorem eqd20 (a b:(List K_J)):m20 a b=decide (a=b):=by
  rw[Bool.eq_iff_iff,decide_eq_true_eq]
  unfold m20
  by_cases hl:length a=length b
  · rcases eqr20_0 a a b 0 hl with⟨h1,h2⟩ |⟨w0,w1,h1,h2⟩
    · simp only[h1,length_map,hl]
      first
        |(simp[h2,ba_eq,eqd11]; done)
        |(cases a; cases b; simp_all [ba_eq,eqd11]; done)
        |(cases a; cases b;(repeat' split)<;>simp_all [ba_eq,eqd11])
    · simp only[h1,length_map,hl]
      first
        |(simp[h2,ba_eq,eqd11]; done)
        |(cases a; cases b; simp_all [ba_eq,eqd11]; done)
        |(cases a; cases b;(repeat' split)<;>simp_all [ba_eq,eqd11])
  · have hn:a≠b:=by rintro rfl; exact hl rfl
    simp only[length_map]
    first
      |(simp[hn,hl,ba_eq,eqd11]; done)
      |((repeat' split)<;>simp_all [ba_eq,eqd11]; done)
      |(simp[hn]; omega)
/-! loop.example/g00539/laws.eqJobsResult -/
def m19 (a0:K_JR) (a1:K_JR):Bool:=
  if(a0.f0 !=a1.f0)=true then false else
  if(!(m20 a0.f1 a1.f1))=true then false else
    true
theorem e19 {l0_1:Nat} {a0:K_JR} {l1_1:Nat} {a1:K_JR} (hy0:length a0.f1*64≤140737488351232) (hy1:∀z∈a0.f1,ok_J z) (hy2:length a1.f1*64≤140737488351232) (hy3:∀z∈a1.f1,ok_J z):Ev F X (.call 19 [(.agg (k_JR l0_1 a0)),(.agg (k_JR l1_1 a1))] [] [] [(.one (.val (.bool (m19 a0 a1))))]):=by
  unfold m19
  by_cases h0:(a0.f0 !=a1.f0)=true
  · try simp only[if_pos h0]
    exact cp ya (.f h0 (.h 16 (.b true) .nil))
  · try simp only[if_neg h0]
    have P1 {hs q} (r:PS F X hs q):=(PS.f (nt h0) (.h 16 (.b false) (.r 26 [] [] (e20 (l0_0:=(l0_1+1)) (l1_0:=(l1_1+1)) (a0:=a0.f1) (a1:=a1.f1) ‹_› ‹_› ‹_› ‹_›) r)))
    by_cases h1:(!(m20 a0.f1 a1.f1))=true
    · try simp only[if_pos h1]
      exact cp ya (P1 (.f h1 (.h 29 (.b true) .nil)))
    · try simp only[if_neg h1]
      exact cp ya (P1 (.f (nt h1) (.h 29 (.b false) .nil)))
open Classical in
theorem eqd19 (a b:K_JR):m19 a b=decide (a=b):=by
  rw[Bool.eq_iff_iff,decide_eq_true_eq]
  constructor
  · intro h
    unfold m19 at h
    cases a; cases b
    (repeat' split at h)<;>simp_all [ba_eq,eqd20]
  · rintro rfl
    simp[m19,ba_eq,eqd20]
/-! loop 21_0 -/
inductive O21_0 where
  |k0 (w0:List K_J) (w1:Int) (w2:Int) (w3:Bool)
def r21_0 (a0:(List K_J)):List K_J→Int→List K_J→Int→O21_0
  |x0::y0,i,v0,v1=>
    (r21_0 a0 y0 (i+1) (set v0 (toNat i) (K_J.mk v1 (wrap .i64 (v1+1)) (wrap .i64 ((wrap .i64 (v1+1))+1)) (wrap .i64 ((wrap .i64 ((wrap .i64 (v1+1))+1))+1)) (wrap .i64 ((wrap .i64 ((wrap .i64 ((wrap .i64 (v1+1))+1))+1))+1)) (o51_0 x0.f5 (wrap .i64 ((wrap .i64 ((wrap .i64 ((wrap .i64 ((wrap .i64 (v1+1))+1))+1))+1))+1))))) (m51 x0.f5 (wrap .i64 ((wrap .i64 ((wrap .i64 ((wrap .i64 ((wrap .i64 (v1+1))+1))+1))+1))+1))))
  |[],i,v0,v1=>(O21_0.k0 v0 v1 i (decide (i <((length (map d_J a0)):Int))))
def h21_0 (a0:(List K_J)) (a1:Int) (i:Int) (v0:List K_J) (v1:Int):St:=⟨[(0,(.one (.ref ⟨(0,0,0),[],0,(length (map d_J a0))⟩))),(1,(.one (.val (.int .i64 v1)))),(5,(.one (.val (.int .i64 i))))],[((0,0,0),.live ⟨6,(map d_J v0),[]⟩)]⟩
def ex21_0:O21_0→VX.Exit
  |.k0 _ _ _ _=>(.exit 0)
def fin21_0 (a0:(List K_J)) (a1:Int):O21_0→St
  |.k0 w0 w1 w2 w3=>⟨[(0,(.one (.ref ⟨(0,0,0),[],0,(length (map d_J a0))⟩))),(1,(.one (.val (.int .i64 w1)))),(5,(.one (.val (.int .i64 w2)))),(9,(.one (.val (.bool w3))))],[((0,0,0),.live ⟨6,(map d_J w0),[]⟩)]⟩
theorem t21_0 {a0:(List K_J)} {a1:Int} (hy0:length a0*64≤140737488351232) (hy1:∀z∈a0,ok_J z):∀(y0:List K_J) (p:List K_J) (v0:List K_J) (v1:Int),p++y0=a0→length v0=(length (map d_J a0))→drop (length p) v0=y0→Ev F X (.code l21_0 (h21_0 a0 a1 (length p:Int) v0 v1) (ex21_0 (r21_0 a0 y0 (length p:Int) v0 v1)) (fin21_0 a0 a1 (r21_0 a0 y0 (length p:Int) v0 v1)))
  |[],p,v0,v1,hp0,hi0,hi1=>by
    have hc:=hcn d_J hp0
    have hj0:=hi0; try simp only[LN,Int.toNat_natCast] at hj0
    have hj1:=hi1; try simp only[LN,Int.toNat_natCast] at hj1
    exact lx 9 ya (.f (nt hc) (.h 8 (.b false) .nil)) rfl
  |x0::y0,p,v0,v1,hp0,hi0,hi1=>by
    have hc:=hcy d_J hp0
    have Hx0:=hxy hp0
    obtain⟨Mx0_0,Mx0_1⟩:=hy1 x0 (List.mem_of_getElem? Hx0)
    have hlen:=hly hp0
    have hw:wrap .i64 ((length p:Int)+1)=(length p:Int)+1:=wrap64 yb
    have hj0:=hi0; try simp only[LN,Int.toNat_natCast] at hj0
    have hj1:=hi1; try simp only[LN,Int.toNat_natCast] at hj1
    have Hv0:v0[toNat (length p:Int)]?=some x0:=by rw[Int.toNat_natCast]; exact drop_at hi1
    simp only[r21_0]
    have f1:0+(length (map d_J a0))≤(length (map d_J v0)):=yu
    have f2:0≤(length p:Int)∧(length p:Int) <((length (map d_J a0)):Int):=yb
    have f4:(set (map d_J v0) (0+(toNat (length p:Int))) [(.i v1),(.i x0.f1),(.i x0.f2),(.i x0.f3),(.i x0.f4),(.own 3 (map d_T x0.f5))])=(map d_J (set v0 (toNat (length p:Int)) (K_J.mk v1 x0.f1 x0.f2 x0.f3 x0.f4 x0.f5))):=yx
    have f6:0+(length (map d_J a0))≤(length (map d_J (set v0 (toNat (length p:Int)) (K_J.mk v1 x0.f1 x0.f2 x0.f3 x0.f4 x0.f5)))):=yF
    have f8:(map d_J (set v0 (toNat (length p:Int)) (K_J.mk v1 x0.f1 x0.f2 x0.f3 x0.f4 x0.f5)))[(0+(toNat (length p:Int)))]?=some [(.i v1),(.i x0.f1),(.i x0.f2),(.i x0.f3),(.i x0.f4),(.own 3 (map d_T x0.f5))]:=ym
    have f9:(set (map d_J (set v0 (toNat (length p:Int)) (K_J.mk v1 x0.f1 x0.f2 x0.f3 x0.f4 x0.f5))) (0+(toNat (length p:Int))) [(.i v1),(.i (wrap .i64 (v1+1))),(.i x0.f2),(.i x0.f3),(.i x0.f4),(.own 3 (map d_T x0.f5))])=(map d_J (set v0 (toNat (length p:Int)) (K_J.mk v1 (wrap .i64 (v1+1)) x0.f2 x0.f3 x0.f4 x0.f5))):=yx
    have f11:0+(length (map d_J a0))≤(length (map d_J (set v0 (toNat (length p:Int)) (K_J.mk v1 (wrap .i64 (v1+1)) x0.f2 x0.f3 x0.f4 x0.f5)))):=yF
    have f13:(map d_J (set v0 (toNat (length p:Int)) (K_J.mk v1 (wrap .i64 (v1+1)) x0.f2 x0.f3 x0.f4 x0.f5)))[(0+(toNat (length p:Int)))]?=some [(.i v1),(.i (wrap .i64 (v1+1))),(.i x0.f2),(.i x0.f3),(.i x0.f4),(.own 3 (map d_T x0.f5))]:=ym
    have f14:(set (map d_J (set v0 (toNat (length p:Int)) (K_J.mk v1 (wrap .i64 (v1+1)) x0.f2 x0.f3 x0.f4 x0.f5))) (0+(toNat (length p:Int))) [(.i v1),(.i (wrap .i64 (v1+1))),(.i (wrap .i64 ((wrap .i64 (v1+1))+1))),(.i x0.f3),(.i x0.f4),(.own 3 (map d_T x0.f5))])=(map d_J (set v0 (toNat (length p:Int)) (K_J.mk v1 (wrap .i64 (v1+1)) (wrap .i64 ((wrap .i64 (v1+1))+1)) x0.f3 x0.f4 x0.f5))):=yx
    have f16:0+(length (map d_J a0))≤(length (map d_J (set v0 (toNat (length p:Int)) (K_J.mk v1 (wrap .i64 (v1+1)) (wrap .i64 ((wrap .i64 (v1+1))+1)) x0.f3 x0.f4 x0.f5)))):=yF
    have f18:(map d_J (set v0 (toNat (length p:Int)) (K_J.mk v1 (wrap .i64 (v1+1)) (wrap .i64 ((wrap .i64 (v1+1))+1)) x0.f3 x0.f4 x0.f5)))[(0+(toNat (length p:Int)))]?=some [(.i v1),(.i (wrap .i64 (v1+1))),(.i (wrap .i64 ((wrap .i64 (v1+1))+1))),(.i x0.f3),(.i x0.f4),(.own 3 (map d_T x0.f5))]:=ym
    have f19:(set (map d_J (set v0 (toNat (length p:Int)) (K_J.mk v1 (wrap .i64 (v1+1)) (wrap .i64 ((wrap .i64 (v1+1))+1)) x0.f3 x0.f4 x0.f5))) (0+(toNat (length p:Int))) [(.i v1),(.i (wrap .i64 (v1+1))),(.i (wrap .i64 ((wrap .i64 (v1+1))+1))),(.i (wrap .i64 ((wrap .i64 ((wrap .i64 (v1+1))+1))+1))),(.i x0.f4),(.own 3 (map d_T x0.f5))])=(map d_J (set v0 (toNat (length p:Int)) (K_J.mk v1 (wrap .i64 (v1+1)) (wrap .i64 ((wrap .i64 (v1+1))+1)) (wrap .i64 ((wrap .i64 ((wrap .i64 (v1+1))+1))+1)) x0.f4 x0.f5))):=yx
    have f21:0+(length (map d_J a0))≤(length (map d_J (set v0 (toNat (length p:Int)) (K_J.mk v1 (wrap .i64 (v1+1)) (wrap .i64 ((wrap .i64 (v1+1))+1)) (wrap .i64 ((wrap .i64 ((wrap .i64 (v1+1))+1))+1)) x0.f4 x0.f5)))):=yF
    have f23:(map d_J (set v0 (toNat (length p:Int)) (K_J.mk v1 (wrap .i64 (v1+1)) (wrap .i64 ((wrap .i64 (v1+1))+1)) (wrap .i64 ((wrap .i64 ((wrap .i64 (v1+1))+1))+1)) x0.f4 x0.f5)))[(0+(toNat (length p:Int)))]?=some [(.i v1),(.i (wrap .i64 (v1+1))),(.i (wrap .i64 ((wrap .i64 (v1+1))+1))),(.i (wrap .i64 ((wrap .i64 ((wrap .i64 (v1+1))+1))+1))),(.i x0.f4),(.own 3 (map d_T x0.f5))]:=ym
    have f24:(set (map d_J (set v0 (toNat (length p:Int)) (K_J.mk v1 (wrap .i64 (v1+1)) (wrap .i64 ((wrap .i64 (v1+1))+1)) (wrap .i64 ((wrap .i64 ((wrap .i64 (v1+1))+1))+1)) x0.f4 x0.f5))) (0+(toNat (length p:Int))) [(.i v1),(.i (wrap .i64 (v1+1))),(.i (wrap .i64 ((wrap .i64 (v1+1))+1))),(.i (wrap .i64 ((wrap .i64 ((wrap .i64 (v1+1))+1))+1))),(.i (wrap .i64 ((wrap .i64 ((wrap .i64 ((wrap .i64 (v1+1))+1))+1))+1))),(.own 3 (map d_T x0.f5))])=(map d_J (set v0 (toNat (length p:Int)) (K_J.mk v1 (wrap .i64 (v1+1)) (wrap .i64 ((wrap .i64 (v1+1))+1)) (wrap .i64 ((wrap .i64 ((wrap .i64 (v1+1))+1))+1)) (wrap .i64 ((wrap .i64 ((wrap .i64 ((wrap .i64 (v1+1))+1))+1))+1)) x0.f5))):=yx
    have f26:0+(length (map d_J a0))≤(length (map d_J (set v0 (toNat (length p:Int)) (K_J.mk v1 (wrap .i64 (v1+1)) (wrap .i64 ((wrap .i64 (v1+1))+1)) (wrap .i64 ((wrap .i64 ((wrap .i64 (v1+1))+1))+1)) (wrap .i64 ((wrap .i64 ((wrap .i64 ((wrap .i64 (v1+1))+1))+1))+1)) x0.f5)))):=yF
    have f28:(map d_J (set v0 (toNat (length p:Int)) (K_J.mk v1 (wrap .i64 (v1+1)) (wrap .i64 ((wrap .i64 (v1+1))+1)) (wrap .i64 ((wrap .i64 ((wrap .i64 (v1+1))+1))+1)) (wrap .i64 ((wrap .i64 ((wrap .i64 ((wrap .i64 (v1+1))+1))+1))+1)) x0.f5)))[(0+(toNat (length p:Int)))]?=some [(.i v1),(.i (wrap .i64 (v1+1))),(.i (wrap .i64 ((wrap .i64 (v1+1))+1))),(.i (wrap .i64 ((wrap .i64 ((wrap .i64 (v1+1))+1))+1))),(.i (wrap .i64 ((wrap .i64 ((wrap .i64 ((wrap .i64 (v1+1))+1))+1))+1))),(.own 3 (map d_T x0.f5))]:=ym
    have f29:nav 6 (map d_J (set v0 (toNat (length p:Int)) (K_J.mk v1 (wrap .i64 (v1+1)) (wrap .i64 ((wrap .i64 (v1+1))+1)) (wrap .i64 ((wrap .i64 ((wrap .i64 (v1+1))+1))+1)) (wrap .i64 ((wrap .i64 ((wrap .i64 ((wrap .i64 (v1+1))+1))+1))+1)) x0.f5))) [((0+(toNat (length p:Int))),5)]=some (3,(map d_T x0.f5)):=yz
    have f32:undirt [((0+(toNat (length p:Int))),5)] [([((0+(toNat (length p:Int))),5)],false)]=[([((0+(toNat (length p:Int))),5)],true)]:=(by simp[undirt])
    have f33:(setCell (setCell (map d_J (set v0 (toNat (length p:Int)) (K_J.mk v1 (wrap .i64 (v1+1)) (wrap .i64 ((wrap .i64 (v1+1))+1)) (wrap .i64 ((wrap .i64 ((wrap .i64 (v1+1))+1))+1)) (wrap .i64 ((wrap .i64 ((wrap .i64 ((wrap .i64 (v1+1))+1))+1))+1)) x0.f5))) [((0+(toNat (length p:Int))),5)] (.hole (lenAt ⟨6,(map d_J (set v0 (toNat (length p:Int)) (K_J.mk v1 (wrap .i64 (v1+1)) (wrap .i64 ((wrap .i64 (v1+1))+1)) (wrap .i64 ((wrap .i64 ((wrap .i64 (v1+1))+1))+1)) (wrap .i64 ((wrap .i64 ((wrap .i64 ((wrap .i64 (v1+1))+1))+1))+1)) x0.f5))),[]⟩ [((0+(toNat (length p:Int))),5)]))) [((0+(toNat (length p:Int))),5)] (.own 3 (map d_T (o51_0 x0.f5 (wrap .i64 ((wrap .i64 ((wrap .i64 ((wrap .i64 ((wrap .i64 (v1+1))+1))+1))+1))+1))))))=(map d_J (set v0 (toNat (length p:Int)) (K_J.mk v1 (wrap .i64 (v1+1)) (wrap .i64 ((wrap .i64 (v1+1))+1)) (wrap .i64 ((wrap .i64 ((wrap .i64 (v1+1))+1))+1)) (wrap .i64 ((wrap .i64 ((wrap .i64 ((wrap .i64 (v1+1))+1))+1))+1)) (o51_0 x0.f5 (wrap .i64 ((wrap .i64 ((wrap .i64 ((wrap .i64 ((wrap .i64 (v1+1))+1))+1))+1))+1)))))):=(by rw[setCell2At (i:=(0+(toNat (length p:Int)))) (j:=5) (row:=[(.i v1),(.i (wrap .i64 (v1+1))),(.i (wrap .i64 ((wrap .i64 (v1+1))+1))),(.i (wrap .i64 ((wrap .i64 ((wrap .i64 (v1+1))+1))+1))),(.i (wrap .i64 ((wrap .i64 ((wrap .i64 ((wrap .i64 (v1+1))+1))+1))+1))),(.own 3 (map d_T x0.f5))]) ym]; first | rfl |(simp[take_of_length_le,d_i,d_N,d_U,d_T,d_J,d_JL,d_b,d_JR,d_G,d_TL,d_LiE,d_NL,d_UL,d_y,d_LyE,d_LLyEE,ol112,ol83,ol84,ol51,ol45_0,ol12_0,four_len,high4,high2,byteRows_eq,ints_y]; done) |(simp[map_set,take_of_length_le,d_i,d_N,d_U,d_T,d_J,d_JL,d_b,d_JR,d_G,d_TL,d_LiE,d_NL,d_UL,d_y,d_LyE,d_LLyEE,ol112,ol83,ol84,ol51,ol45_0,ol12_0,four_len,high4,high2,byteRows_eq,ints_y]; done))
    have ih:=t21_0 (a0:=a0) (a1:=a1) hy0 hy1 y0 (p++ [x0]) (set v0 (toNat (length p:Int)) (K_J.mk v1 (wrap .i64 (v1+1)) (wrap .i64 ((wrap .i64 (v1+1))+1)) (wrap .i64 ((wrap .i64 ((wrap .i64 (v1+1))+1))+1)) (wrap .i64 ((wrap .i64 ((wrap .i64 ((wrap .i64 (v1+1))+1))+1))+1)) (o51_0 x0.f5 (wrap .i64 ((wrap .i64 ((wrap .i64 ((wrap .i64 ((wrap .i64 (v1+1))+1))+1))+1))+1))))) (m51 x0.f5 (wrap .i64 ((wrap .i64 ((wrap .i64 ((wrap .i64 ((wrap .i64 (v1+1))+1))+1))+1))+1))) ye yq yD
    rw[pl1,← hw] at ih; rw[← hw]
    exact ly 137 ya (.f hc (.f f1 (.f f2 (.f (mz_ d_J Hv0) (.f f4 (.f trivial (.f f6 (.f f2 (.f f8 (.f f9 (.f trivial (.f f11 (.f f2 (.f f13 (.f f14 (.f trivial (.f f16 (.f f2 (.f f18 (.f f19 (.f trivial (.f f21 (.f f2 (.f f23 (.f f24 (.f trivial (.f f26 (.f f2 (.f f28 (.f f29 (.f (pureR_T x0.f5) (.h 8 (.b true) (.h 20 (.rowD (d_J x0)) (.h 21 (.norm (0,0,0) (map d_J (set v0 (toNat (length p:Int)) (K_J.mk v1 x0.f1 x0.f2 x0.f3 x0.f4 x0.f5)))) (.h 41 (.rowD [(.i v1),(.i x0.f1),(.i x0.f2),(.i x0.f3),(.i x0.f4),(.own 3 (map d_T x0.f5))]) (.h 42 (.norm (0,0,0) (map d_J (set v0 (toNat (length p:Int)) (K_J.mk v1 (wrap .i64 (v1+1)) x0.f2 x0.f3 x0.f4 x0.f5)))) (.h 62 (.rowD [(.i v1),(.i (wrap .i64 (v1+1))),(.i x0.f2),(.i x0.f3),(.i x0.f4),(.own 3 (map d_T x0.f5))]) (.h 63 (.norm (0,0,0) (map d_J (set v0 (toNat (length p:Int)) (K_J.mk v1 (wrap .i64 (v1+1)) (wrap .i64 ((wrap .i64 (v1+1))+1)) x0.f3 x0.f4 x0.f5)))) (.h 83 (.rowD [(.i v1),(.i (wrap .i64 (v1+1))),(.i (wrap .i64 ((wrap .i64 (v1+1))+1))),(.i x0.f3),(.i x0.f4),(.own 3 (map d_T x0.f5))]) (.h 84 (.norm (0,0,0) (map d_J (set v0 (toNat (length p:Int)) (K_J.mk v1 (wrap .i64 (v1+1)) (wrap .i64 ((wrap .i64 (v1+1))+1)) (wrap .i64 ((wrap .i64 ((wrap .i64 (v1+1))+1))+1)) x0.f4 x0.f5)))) (.h 104 (.rowD [(.i v1),(.i (wrap .i64 (v1+1))),(.i (wrap .i64 ((wrap .i64 (v1+1))+1))),(.i (wrap .i64 ((wrap .i64 ((wrap .i64 (v1+1))+1))+1))),(.i x0.f4),(.own 3 (map d_T x0.f5))]) (.h 105 (.norm (0,0,0) (map d_J (set v0 (toNat (length p:Int)) (K_J.mk v1 (wrap .i64 (v1+1)) (wrap .i64 ((wrap .i64 (v1+1))+1)) (wrap .i64 ((wrap .i64 ((wrap .i64 (v1+1))+1))+1)) (wrap .i64 ((wrap .i64 ((wrap .i64 ((wrap .i64 (v1+1))+1))+1))+1)) x0.f5)))) (.h 123 (.rowD [(.i v1),(.i (wrap .i64 (v1+1))),(.i (wrap .i64 ((wrap .i64 (v1+1))+1))),(.i (wrap .i64 ((wrap .i64 ((wrap .i64 (v1+1))+1))+1))),(.i (wrap .i64 ((wrap .i64 ((wrap .i64 ((wrap .i64 (v1+1))+1))+1))+1))),(.own 3 (map d_T x0.f5))]) (.rn 127 [((0,0,0),[5],3,(map d_T x0.f5))] [[([((0+(toNat (length p:Int))),5)],true)]] [true] [] (e51 (a0:=x0.f5) (a1:=(wrap .i64 ((wrap .i64 ((wrap .i64 ((wrap .i64 ((wrap .i64 (v1+1))+1))+1))+1))+1))) ‹_› ‹_›) (.f f32 (.f f33 (.f trivial (.h 130 (.norm (0,0,0) (map d_J (set v0 (toNat (length p:Int)) (K_J.mk v1 (wrap .i64 (v1+1)) (wrap .i64 ((wrap .i64 (v1+1))+1)) (wrap .i64 ((wrap .i64 ((wrap .i64 (v1+1))+1))+1)) (wrap .i64 ((wrap .i64 ((wrap .i64 ((wrap .i64 (v1+1))+1))+1))+1)) (o51_0 x0.f5 (wrap .i64 ((wrap .i64 ((wrap .i64 ((wrap .i64 ((wrap .i64 (v1+1))+1))+1))+1))+1))))))) .nil)))))))))))))))))))))))))))))))))))))))))))))))) ih
def post21_0 (n0:Nat):O21_0→Prop
  |.k0 w0 _ _ _=>length w0=n0
theorem z21_0 {a0:(List K_J)}:∀(y0:List K_J) (i:Int) (v0:List K_J) (v1:Int),post21_0 (length v0) (r21_0 a0 y0 i v0 v1)
  |[],i,v0,v1=>by
    first | trivial |(simp only[post21_0,length_nil,Nat.add_zero]; done) |(simp[post21_0]; done)
  |x0::y0,i,v0,v1=>by
    simp only[r21_0]
    have z:=z21_0 (a0:=a0) y0 (i+1) (set v0 (toNat i) (K_J.mk v1 (wrap .i64 (v1+1)) (wrap .i64 ((wrap .i64 (v1+1))+1)) (wrap .i64 ((wrap .i64 ((wrap .i64 (v1+1))+1))+1)) (wrap .i64 ((wrap .i64 ((wrap .i64 ((wrap .i64 (v1+1))+1))+1))+1)) (o51_0 x0.f5 (wrap .i64 ((wrap .i64 ((wrap .i64 ((wrap .i64 ((wrap .i64 (v1+1))+1))+1))+1))+1))))) (m51 x0.f5 (wrap .i64 ((wrap .i64 ((wrap .i64 ((wrap .i64 ((wrap .i64 (v1+1))+1))+1))+1))+1)))
    rw[show (length v0)=(length (set v0 (toNat i) (K_J.mk v1 (wrap .i64 (v1+1)) (wrap .i64 ((wrap .i64 (v1+1))+1)) (wrap .i64 ((wrap .i64 ((wrap .i64 (v1+1))+1))+1)) (wrap .i64 ((wrap .i64 ((wrap .i64 ((wrap .i64 (v1+1))+1))+1))+1)) (o51_0 x0.f5 (wrap .i64 ((wrap .i64 ((wrap .i64 ((wrap .i64 ((wrap .i64 (v1+1))+1))+1))+1))+1)))))) from by first | omega |(simp only[LN]; done) |(simp only[LN]; omega)]
    exact z
/-! loop.example/g00539/laws.markJobS -/
def o21_0 (a0:(List K_J)) (a1:Int):List K_J:=
  (match r21_0 a0 a0 0 a0 a1 with | .k0 w0_0 w1_0 w2_0 w3_0=>w0_0)
def m21 (a0:(List K_J)) (a1:Int):Int:=
  (match r21_0 a0 a0 0 a0 a1 with | .k0 w0_0 w1_0 w2_0 w3_0=>w1_0)
theorem e21 {a0:(List K_J)} {a1:Int} (hy0:length a0*64≤140737488351232) (hy1:∀z∈a0,ok_J z):Ev F X (.call 21 [(.one (.ref ⟨(0,0,0),[],0,(length (map d_J a0))⟩)),(.one (.val (.int .i64 a1)))] [((0,0,0),⟨6,(map d_J a0),[]⟩)] [(map d_J (o21_0 a0 a1))] [(.one (.val (.int .i64 (m21 a0 a1))))]):=by
  unfold m21 o21_0
  cases h0:r21_0 a0 a0 0 a0 a1 with
  |k0 w0_0 w1_0 w2_0 w3_0=>
    try dsimp only
    have zh0:=z21_0 (a0:=a0) a0 0 a0 a1; rw[h0] at zh0; simp only[post21_0,length_map,length_set,length_append,length_replicate,length_cons,length_nil,Int.toNat_natCast] at zh0
    have f0:=Eq.refl (h21_0 a0 a1 0 a0 a1)
    exact cq [true] ya (.f f0 (.f (ev_ (e:=ex21_0) (g:=(fin21_0 a0 a1)) h0 (t21_0 (a0:=a0) (a1:=a1) (by assumption) (by assumption) a0 [] a0 a1 rfl yR (by rfl))) (.f (pureR_J w0_0) (.h 4 (.loop (h21_0 a0 a1 0 a0 a1) (.exit 0) ⟨[(0,(.one (.ref ⟨(0,0,0),[],0,(length (map d_J a0))⟩))),(1,(.oi w1_0)),(5,(.oi w2_0)),(9,(.one (.val (.bool w3_0))))],[((0,0,0),.live ⟨6,(map d_J w0_0),[]⟩)]⟩) .nil))))
theorem ow21_0 (a0:List K_J):∀(l p:List K_J) (v1:Int),(∀z∈l,ok_J z)→∃(q:List K_J) (w1:_) (w2:_) (w3:_),r21_0 a0 l (p.length:Int) (p++l) v1=.k0 (p++q) w1 w2 w3∧q.length=l.length∧∀z∈q,ok_J z
  |[],p,v1,_=>⟨[],v1,(p.length:Int),(decide ((p.length:Int) <((length (map d_J a0)):Int))),rfl,rfl,fun z h=>by cases h⟩
  |x0::l,p,v1,h=>by
    obtain⟨q,w1,w2,w3,e1,e2,e3⟩:=ow21_0 a0 l (p++ [(K_J.mk v1 (wrap .i64 (v1+1)) (wrap .i64 ((wrap .i64 (v1+1))+1)) (wrap .i64 ((wrap .i64 ((wrap .i64 (v1+1))+1))+1)) (wrap .i64 ((wrap .i64 ((wrap .i64 ((wrap .i64 (v1+1))+1))+1))+1)) (o51_0 x0.f5 (wrap .i64 ((wrap .i64 ((wrap .i64 ((wrap .i64 ((wrap .i64 (v1+1))+1))+1))+1))+1))))]) (m51 x0.f5 (wrap .i64 ((wrap .i64 ((wrap .i64 ((wrap .i64 ((wrap .i64 (v1+1))+1))+1))+1))+1))) (fun z hz=>h z (List.mem_cons_of_mem _ hz))
    refine⟨(K_J.mk v1 (wrap .i64 (v1+1)) (wrap .i64 ((wrap .i64 (v1+1))+1)) (wrap .i64 ((wrap .i64 ((wrap .i64 (v1+1))+1))+1)) (wrap .i64 ((wrap .i64 ((wrap .i64 ((wrap .i64 (v1+1))+1))+1))+1)) (o51_0 x0.f5 (wrap .i64 ((wrap .i64 ((wrap .i64 ((wrap .i64 ((wrap .i64 (v1+1))+1))+1))+1))+1))))::q,w1,w2,w3,?_,by simp[e2],?_⟩
    · have e:set (p++x0::l) (toNat (p.length:Int)) (K_J.mk v1 (wrap .i64 (v1+1)) (wrap .i64 ((wrap .i64 (v1+1))+1)) (wrap .i64 ((wrap .i64 ((wrap .i64 (v1+1))+1))+1)) (wrap .i64 ((wrap .i64 ((wrap .i64 ((wrap .i64 (v1+1))+1))+1))+1)) (o51_0 x0.f5 (wrap .i64 ((wrap .i64 ((wrap .i64 ((wrap .i64 ((wrap .i64 (v1+1))+1))+1))+1))+1))))=(p++ [(K_J.mk v1 (wrap .i64 (v1+1)) (wrap .i64 ((wrap .i64 (v1+1))+1)) (wrap .i64 ((wrap .i64 ((wrap .i64 (v1+1))+1))+1)) (wrap .i64 ((wrap .i64 ((wrap .i64 ((wrap .i64 (v1+1))+1))+1))+1)) (o51_0 x0.f5 (wrap .i64 ((wrap .i64 ((wrap .i64 ((wrap .i64 ((wrap .i64 (v1+1))+1))+1))+1))+1))))])++l:=by simp
      have e0:((p++ [(K_J.mk v1 (wrap .i64 (v1+1)) (wrap .i64 ((wrap .i64 (v1+1))+1)) (wrap .i64 ((wrap .i64 ((wrap .i64 (v1+1))+1))+1)) (wrap .i64 ((wrap .i64 ((wrap .i64 ((wrap .i64 (v1+1))+1))+1))+1)) (o51_0 x0.f5 (wrap .i64 ((wrap .i64 ((wrap .i64 ((wrap .i64 ((wrap .i64 (v1+1))+1))+1))+1))+1))))]).length:Int)=(p.length:Int)+1:=by simp
      rw[e0] at e1
      simp only[r21_0]
      first |(rw[e,e1]; simp; done) |(simp only[e,e1]; simp; done)
    · intro z hz
      rcases List.mem_cons.1 hz with rfl | hz
      · have hx:=h x0 (List.mem_cons_self ..)
        simp only[ok_J] at hx⊢
        simp only[length_map,ol51,oo51] at hx⊢
        first | exact hx |(simp_all [ol51,oo51]; done) |(obtain⟨_,_⟩:=hx; refine⟨?_,?_⟩<;>simp_all [ol51,oo51]; done) | exact⟨(by exact hx.1),(by exact oo51 _ _ hx.2)⟩
      · exact e3 z hz

theorem ov21_0 (a0:List K_J):∀(l p:List K_J) (v1:Int),∃(q:List K_J) (w1:_) (w2:_) (w3:_),r21_0 a0 l (p.length:Int) (p++l) v1=.k0 (p++q) w1 w2 w3∧q.length=l.length
  |[],p,v1=>⟨[],v1,(p.length:Int),(decide ((p.length:Int) <((length (map d_J a0)):Int))),rfl,rfl⟩
  |x0::l,p,v1=>by
    obtain⟨q,w1,w2,w3,e1,e2⟩:=ov21_0 a0 l (p++ [(K_J.mk v1 (wrap .i64 (v1+1)) (wrap .i64 ((wrap .i64 (v1+1))+1)) (wrap .i64 ((wrap .i64 ((wrap .i64 (v1+1))+1))+1)) (wrap .i64 ((wrap .i64 ((wrap .i64 ((wrap .i64 (v1+1))+1))+1))+1)) (o51_0 x0.f5 (wrap .i64 ((wrap .i64 ((wrap .i64 ((wrap .i64 ((wrap .i64 (v1+1))+1))+1))+1))+1))))]) (m51 x0.f5 (wrap .i64 ((wrap .i64 ((wrap .i64 ((wrap .i64 ((wrap .i64 (v1+1))+1))+1))+1))+1)))
    refine⟨(K_J.mk v1 (wrap .i64 (v1+1)) (wrap .i64 ((wrap .i64 (v1+1))+1)) (wrap .i64 ((wrap .i64 ((wrap .i64 (v1+1))+1))+1)) (wrap .i64 ((wrap .i64 ((wrap .i64 ((wrap .i64 (v1+1))+1))+1))+1)) (o51_0 x0.f5 (wrap .i64 ((wrap .i64 ((wrap .i64 ((wrap .i64 ((wrap .i64 (v1+1))+1))+1))+1))+1))))::q,w1,w2,w3,?_,by simp[e2]⟩
    · have e:set (p++x0::l) (toNat (p.length:Int)) (K_J.mk v1 (wrap .i64 (v1+1)) (wrap .i64 ((wrap .i64 (v1+1))+1)) (wrap .i64 ((wrap .i64 ((wrap .i64 (v1+1))+1))+1)) (wrap .i64 ((wrap .i64 ((wrap .i64 ((wrap .i64 (v1+1))+1))+1))+1)) (o51_0 x0.f5 (wrap .i64 ((wrap .i64 ((wrap .i64 ((wrap .i64 ((wrap .i64 (v1+1))+1))+1))+1))+1))))=(p++ [(K_J.mk v1 (wrap .i64 (v1+1)) (wrap .i64 ((wrap .i64 (v1+1))+1)) (wrap .i64 ((wrap .i64 ((wrap .i64 (v1+1))+1))+1)) (wrap .i64 ((wrap .i64 ((wrap .i64 ((wrap .i64 (v1+1))+1))+1))+1)) (o51_0 x0.f5 (wrap .i64 ((wrap .i64 ((wrap .i64 ((wrap .i64 ((wrap .i64 (v1+1))+1))+1))+1))+1))))])++l:=by simp
      have e0:((p++ [(K_J.mk v1 (wrap .i64 (v1+1)) (wrap .i64 ((wrap .i64 (v1+1))+1)) (wrap .i64 ((wrap .i64 ((wrap .i64 (v1+1))+1))+1)) (wrap .i64 ((wrap .i64 ((wrap .i64 ((wrap .i64 (v1+1))+1))+1))+1)) (o51_0 x0.f5 (wrap .i64 ((wrap .i64 ((wrap .i64 ((wrap .i64 ((wrap .i64 (v1+1))+1))+1))+1))+1))))]).length:Int)=(p.length:Int)+1:=by simp
      rw[e0] at e1
      simp only[r21_0]
      first |(rw[e,e1]; simp; done) |(simp only[e,e1]; simp; done)
theorem ol21 (a:List K_J) (k:Int):(o21_0 a k).length=a.length:=by
  obtain⟨q,w1,w2,w3,e1,e2⟩:=ov21_0 a a [] k
  simp only[List.nil_append,length_nil] at e1
  rw[show ((0:Nat):Int)=0 from rfl] at e1
  unfold o21_0
  rw[e1]; exact e2
theorem oo21 (a:List K_J) (k:Int) (h:∀z∈a,ok_J z):∀z∈o21_0 a k,ok_J z:=by
  obtain⟨q,w1,w2,w3,e1,e2,e3⟩:=ow21_0 a a [] k h
  simp only[List.nil_append,length_nil] at e1
  rw[show ((0:Nat):Int)=0 from rfl] at e1
  unfold o21_0
  rw[e1]; exact e3
/-! loop.example/g00539/laws.markJobsResult -/
def o22_0 (a0:K_JR) (a1:Int):List K_J:=
  (o21_0 a0.f1 a1)
def m22 (a0:K_JR) (a1:Int):Int:=
  (m21 a0.f1 a1)
theorem e22 {a0:K_JR} {a1:Int} (hy0:length a0.f1*64≤140737488351232) (hy1:∀z∈a0.f1,ok_J z):Ev F X (.call 22 [(.agg [(.val (.int .i64 a0.f0)),(.ref ⟨(0,0,0),[],0,(length (map d_J a0.f1))⟩)]),(.one (.val (.int .i64 a1)))] [((0,0,0),⟨6,(map d_J a0.f1),[]⟩)] [(map d_J (o22_0 a0 a1))] [(.one (.val (.int .i64 (m22 a0 a1))))]):=by
  exact cq [true] ya (pe 0 (pe (length (map d_J a0.f1)) (.f (pureR_J a0.f1) (.r 11 [true] [] (e21 (a0:=a0.f1) (a1:=a1) ‹_› ‹_›) (.f (pureR_J (o21_0 a0.f1 a1)) .nil)))))
theorem ol22_0 (a:K_JR) (k:Int):(o22_0 a k).length=length a.f1:=by
  unfold o22_0
  simp[ol21]
/-! loop 144_0 -/
inductive O144_0 where
  |k0 (w0:Int) (w1:Int) (w2:Bool)
  |k1
def r144_0 (a0:(List Int)):List Int→Int→Int→O144_0
  |x0::y0,i,v0=>
    if(x0 !=v0)=true then(O144_0.k1) else
    (r144_0 a0 y0 (i+1) (wrap .i64 (v0+1)))
  |[],i,v0=>(O144_0.k0 v0 i (decide (i <((length (map b_i a0)):Int))))
def h144_0 (l0_0:Nat) (a0:(List Int)) (a1:Int) (i:Int) (v0:Int):St:=⟨[(0,(.one (.bor l0_0 (map b_i a0)))),(1,(.one (.val (.int .i64 v0)))),(5,(.one (.val (.int .i64 i))))],[]⟩
def ex144_0:O144_0→VX.Exit
  |.k0 _ _ _=>(.exit 0)
  |.k1=>.ret
def fin144_0 (l0_0:Nat) (a0:(List Int)) (a1:Int):O144_0→St
  |.k0 w0 w1 w2=>⟨[(0,(.one (.bor l0_0 (map b_i a0)))),(1,(.one (.val (.int .i64 w0)))),(5,(.one (.val (.int .i64 w1)))),(9,(.one (.val (.bool w2))))],[]⟩
  |.k1=>⟨[(4,(.one (.val (.int .i64 (-1)))))],[]⟩
theorem t144_0 {l0_0:Nat} {a0:(List Int)} {a1:Int} (hy0:length a0*8≤140737488351232):∀(y0:List Int) (p:List Int) (v0:Int),p++y0=a0→Ev F X (.code l144_0 (h144_0 l0_0 a0 a1 (length p:Int) v0) (ex144_0 (r144_0 a0 y0 (length p:Int) v0)) (fin144_0 l0_0 a0 a1 (r144_0 a0 y0 (length p:Int) v0)))
  |[],p,v0,hp0=>by
    have hc:=hcn b_i hp0
    exact lx 9 ya (.f (nt hc) (.h 8 (.b false) .nil)) rfl
  |x0::y0,p,v0,hp0=>by
    have hc:=hcy b_i hp0
    have Hx0:=hxy hp0
    have hlen:=hly hp0
    have hw:wrap .i64 ((length p:Int)+1)=(length p:Int)+1:=wrap64 yb
    simp only[r144_0]
    have f1:0≤(length p:Int):=yb
    have P1 {hs q} (r:PS F X hs q):=(PS.f hc (.f f1 (.f (mp_ b_i Hx0) (.h 8 (.b true) (.h 14 (.row [(.i x0)]) r)))))
    by_cases h_1:(x0 !=v0)=true
    · try simp only[if_pos h_1]
      exact lx 24 ya (P1 (.f h_1 (.h 21 (.b true) .nil))) rfl
    · try simp only[if_neg h_1]
      have ih:=t144_0 (l0_0:=l0_0) (a0:=a0) (a1:=a1) hy0 y0 (p++ [x0]) (wrap .i64 (v0+1)) ye
      rw[pl1,← hw] at ih; rw[← hw]
      exact ly 34 ya (P1 (.f (nt h_1) (.f trivial (.f trivial (.h 21 (.b false) .nil))))) ih
/-! loop.example/g00539/laws.heldInt64S -/
def m144 (a0:(List Int)) (a1:Int):Int:=
  (match r144_0 a0 a0 0 a1 with | .k0 w0_0 w1_0 w2_0=>w0_0 | .k1=>(-1))
theorem e144 {l0_0:Nat} {a0:(List Int)} {a1:Int} (hy0:length a0*8≤140737488351232):Ev F X (.call 144 [(.one (.bor l0_0 (map b_i a0))),(.one (.val (.int .i64 a1)))] [] [] [(.one (.val (.int .i64 (m144 a0 a1))))]):=by
  unfold m144
  cases h0:r144_0 a0 a0 0 a1 with
  |k0 w0_0 w1_0 w2_0=>
    try dsimp only
    have f0:=Eq.refl (h144_0 l0_0 a0 a1 0 a1)
    exact cp ya (.f f0 (.f (ev_ (e:=ex144_0) (g:=(fin144_0 l0_0 a0 a1)) h0 (t144_0 (l0_0:=l0_0) (a0:=a0) (a1:=a1) (by assumption) a0 [] a1 rfl)) (.h 4 (.loop (h144_0 l0_0 a0 a1 0 a1) (.exit 0) ⟨[(0,(.one (.bor l0_0 (map b_i a0)))),(1,(.oi w0_0)),(5,(.oi w1_0)),(9,(.one (.val (.bool w2_0))))],[]⟩) .nil)))
  |k1=>
    try dsimp only
    have f0:=Eq.refl (h144_0 l0_0 a0 a1 0 a1)
    exact cp ya (.f f0 (.f (ev_ (e:=ex144_0) (g:=(fin144_0 l0_0 a0 a1)) h0 (t144_0 (l0_0:=l0_0) (a0:=a0) (a1:=a1) (by assumption) a0 [] a1 rfl)) (.h 4 (.loop (h144_0 l0_0 a0 a1 0 a1) .ret ⟨[(4,(.oi (-1)))],[]⟩) .nil)))
/-! loop 110_0 -/
inductive O110_0 where
  |k0 (w0:Int) (w1:Int) (w2:Bool)
  |k1
def r110_0 (a0:(List K_N)):List K_N→Int→Int→O110_0
  |x0::y0,i,v0=>
    if(x0.f0 !=v0)=true then(O110_0.k1) else
    if(x0.f1 !=(wrap .i64 (v0+1)))=true then(O110_0.k1) else
      if(decide ((m144 x0.f2 (wrap .i64 ((wrap .i64 (v0+1))+1))) < 0))=true then(O110_0.k1) else
        (r110_0 a0 y0 (i+1) (m144 x0.f2 (wrap .i64 ((wrap .i64 (v0+1))+1))))
  |[],i,v0=>(O110_0.k0 v0 i (decide (i <((length (map b_N a0)):Int))))
def h110_0 (l0_0:Nat) (a0:(List K_N)) (a1:Int) (i:Int) (v0:Int):St:=⟨[(0,(.one (.bor l0_0 (map b_N a0)))),(1,(.one (.val (.int .i64 v0)))),(5,(.one (.val (.int .i64 i))))],[]⟩
def ex110_0:O110_0→VX.Exit
  |.k0 _ _ _=>(.exit 0)
  |.k1=>.ret
def fin110_0 (l0_0:Nat) (a0:(List K_N)) (a1:Int):O110_0→St
  |.k0 w0 w1 w2=>⟨[(0,(.one (.bor l0_0 (map b_N a0)))),(1,(.one (.val (.int .i64 w0)))),(5,(.one (.val (.int .i64 w1)))),(9,(.one (.val (.bool w2))))],[]⟩
  |.k1=>⟨[(4,(.one (.val (.int .i64 (-1)))))],[]⟩
theorem t110_0 {l0_0:Nat} {a0:(List K_N)} {a1:Int} (hy0:length a0*40≤140737488351232) (hy1:∀z∈a0,ok_N z):∀(y0:List K_N) (p:List K_N) (v0:Int),p++y0=a0→Ev F X (.code l110_0 (h110_0 l0_0 a0 a1 (length p:Int) v0) (ex110_0 (r110_0 a0 y0 (length p:Int) v0)) (fin110_0 l0_0 a0 a1 (r110_0 a0 y0 (length p:Int) v0)))
  |[],p,v0,hp0=>by
    have hc:=hcn b_N hp0
    exact lx 9 ya (.f (nt hc) (.h 8 (.b false) .nil)) rfl
  |x0::y0,p,v0,hp0=>by
    have hc:=hcy b_N hp0
    have Hx0:=hxy hp0
    have Mx0_0:=hy1 x0 (List.mem_of_getElem? Hx0)
    have hlen:=hly hp0
    have hw:wrap .i64 ((length p:Int)+1)=(length p:Int)+1:=wrap64 yb
    simp only[r110_0]
    have f1:0≤(length p:Int):=yb
    have P1 {hs q} (r:PS F X hs q):=(PS.f hc (.f f1 (.f (mp_ b_N Hx0) (.h 8 (.b true) (.h 14 (.row (b_N x0)) r)))))
    by_cases h_1:(x0.f0 !=v0)=true
    · try simp only[if_pos h_1]
      exact lx 26 ya (P1 (.f h_1 (.h 23 (.b true) .nil))) rfl
    · try simp only[if_neg h_1]
      have P2 {hs q} (r:PS F X hs q):=(P1 (.f (nt h_1) (.f trivial (.f f1 (.f (mp_ b_N Hx0) (.h 23 (.b false) (.h 35 (.row (b_N x0)) r)))))))
      by_cases h_2:(x0.f1 !=(wrap .i64 (v0+1)))=true
      · try simp only[if_pos h_2]
        exact lx 47 ya (P2 (.f h_2 (.h 44 (.b true) .nil))) rfl
      · try simp only[if_neg h_2]
        have P3 {hs q} (r:PS F X hs q):=(P2 (.f (nt h_2) (.f trivial (.f f1 (.f (mp_ b_N Hx0) (.h 44 (.b false) (.h 56 (.row (b_N x0)) (.r 64 [] [] (e144 (l0_0:=(l0_0+1)) (a0:=x0.f2) (a1:=(wrap .i64 ((wrap .i64 (v0+1))+1))) (by assumption)) r))))))))
        by_cases h_3:(decide ((m144 x0.f2 (wrap .i64 ((wrap .i64 (v0+1))+1))) < 0))=true
        · try simp only[if_pos h_3]
          exact lx 74 ya (P3 (.f h_3 (.h 71 (.b true) .nil))) rfl
        · try simp only[if_neg h_3]
          have ih:=t110_0 (l0_0:=l0_0) (a0:=a0) (a1:=a1) hy0 hy1 y0 (p++ [x0]) (m144 x0.f2 (wrap .i64 ((wrap .i64 (v0+1))+1))) ye
          rw[pl1,← hw] at ih; rw[← hw]
          exact ly 78 ya (P3 (.f (nt h_3) (.f trivial (.h 71 (.b false) .nil)))) ih
/-! loop.example/g00539/laws.heldInS -/
def m110 (a0:(List K_N)) (a1:Int):Int:=
  (match r110_0 a0 a0 0 a1 with | .k0 w0_0 w1_0 w2_0=>w0_0 | .k1=>(-1))
theorem e110 {l0_0:Nat} {a0:(List K_N)} {a1:Int} (hy0:length a0*40≤140737488351232) (hy1:∀z∈a0,ok_N z):Ev F X (.call 110 [(.one (.bor l0_0 (map b_N a0))),(.one (.val (.int .i64 a1)))] [] [] [(.one (.val (.int .i64 (m110 a0 a1))))]):=by
  unfold m110
  cases h0:r110_0 a0 a0 0 a1 with
  |k0 w0_0 w1_0 w2_0=>
    try dsimp only
    have f0:=Eq.refl (h110_0 l0_0 a0 a1 0 a1)
    exact cp ya (.f f0 (.f (ev_ (e:=ex110_0) (g:=(fin110_0 l0_0 a0 a1)) h0 (t110_0 (l0_0:=l0_0) (a0:=a0) (a1:=a1) (by assumption) (by assumption) a0 [] a1 rfl)) (.h 4 (.loop (h110_0 l0_0 a0 a1 0 a1) (.exit 0) ⟨[(0,(.one (.bor l0_0 (map b_N a0)))),(1,(.oi w0_0)),(5,(.oi w1_0)),(9,(.one (.val (.bool w2_0))))],[]⟩) .nil)))
  |k1=>
    try dsimp only
    have f0:=Eq.refl (h110_0 l0_0 a0 a1 0 a1)
    exact cp ya (.f f0 (.f (ev_ (e:=ex110_0) (g:=(fin110_0 l0_0 a0 a1)) h0 (t110_0 (l0_0:=l0_0) (a0:=a0) (a1:=a1) (by assumption) (by assumption) a0 [] a1 rfl)) (.h 4 (.loop (h110_0 l0_0 a0 a1 0 a1) .ret ⟨[(4,(.oi (-1)))],[]⟩) .nil)))
/-! loop 111_0 -/
inductive O111_0 where
  |k0 (w0:Int) (w1:Int) (w2:Bool)
  |k1
def r111_0 (a0:(List K_U)):List K_U→Int→Int→O111_0
  |x0::y0,i,v0=>
    if(x0.f0 !=v0)=true then(O111_0.k1) else
    if(decide ((m144 x0.f1 (wrap .i64 (v0+1))) < 0))=true then(O111_0.k1) else
      (r111_0 a0 y0 (i+1) (m144 x0.f1 (wrap .i64 (v0+1))))
  |[],i,v0=>(O111_0.k0 v0 i (decide (i <((length (map b_U a0)):Int))))
def h111_0 (l0_0:Nat) (a0:(List K_U)) (a1:Int) (i:Int) (v0:Int):St:=⟨[(0,(.one (.bor l0_0 (map b_U a0)))),(1,(.one (.val (.int .i64 v0)))),(5,(.one (.val (.int .i64 i))))],[]⟩
def ex111_0:O111_0→VX.Exit
  |.k0 _ _ _=>(.exit 0)
  |.k1=>.ret
def fin111_0 (l0_0:Nat) (a0:(List K_U)) (a1:Int):O111_0→St
  |.k0 w0 w1 w2=>⟨[(0,(.one (.bor l0_0 (map b_U a0)))),(1,(.one (.val (.int .i64 w0)))),(5,(.one (.val (.int .i64 w1)))),(9,(.one (.val (.bool w2))))],[]⟩
  |.k1=>⟨[(4,(.one (.val (.int .i64 (-1)))))],[]⟩
theorem t111_0 {l0_0:Nat} {a0:(List K_U)} {a1:Int} (hy0:length a0*32≤140737488351232) (hy1:∀z∈a0,ok_U z):∀(y0:List K_U) (p:List K_U) (v0:Int),p++y0=a0→Ev F X (.code l111_0 (h111_0 l0_0 a0 a1 (length p:Int) v0) (ex111_0 (r111_0 a0 y0 (length p:Int) v0)) (fin111_0 l0_0 a0 a1 (r111_0 a0 y0 (length p:Int) v0)))
  |[],p,v0,hp0=>by
    have hc:=hcn b_U hp0
    exact lx 9 ya (.f (nt hc) (.h 8 (.b false) .nil)) rfl
  |x0::y0,p,v0,hp0=>by
    have hc:=hcy b_U hp0
    have Hx0:=hxy hp0
    have Mx0_0:=hy1 x0 (List.mem_of_getElem? Hx0)
    have hlen:=hly hp0
    have hw:wrap .i64 ((length p:Int)+1)=(length p:Int)+1:=wrap64 yb
    simp only[r111_0]
    have f1:0≤(length p:Int):=yb
    have P1 {hs q} (r:PS F X hs q):=(PS.f hc (.f f1 (.f (mp_ b_U Hx0) (.h 8 (.b true) (.h 14 (.row (b_U x0)) r)))))
    by_cases h_1:(x0.f0 !=v0)=true
    · try simp only[if_pos h_1]
      exact lx 26 ya (P1 (.f h_1 (.h 23 (.b true) .nil))) rfl
    · try simp only[if_neg h_1]
      have P2 {hs q} (r:PS F X hs q):=(P1 (.f (nt h_1) (.f trivial (.f f1 (.f (mp_ b_U Hx0) (.h 23 (.b false) (.h 35 (.row (b_U x0)) (.r 43 [] [] (e144 (l0_0:=(l0_0+1)) (a0:=x0.f1) (a1:=(wrap .i64 (v0+1))) (by assumption)) r))))))))
      by_cases h_2:(decide ((m144 x0.f1 (wrap .i64 (v0+1))) < 0))=true
      · try simp only[if_pos h_2]
        exact lx 53 ya (P2 (.f h_2 (.h 50 (.b true) .nil))) rfl
      · try simp only[if_neg h_2]
        have ih:=t111_0 (l0_0:=l0_0) (a0:=a0) (a1:=a1) hy0 hy1 y0 (p++ [x0]) (m144 x0.f1 (wrap .i64 (v0+1))) ye
        rw[pl1,← hw] at ih; rw[← hw]
        exact ly 57 ya (P2 (.f (nt h_2) (.f trivial (.h 50 (.b false) .nil)))) ih
/-! loop.example/g00539/laws.heldOutS -/
def m111 (a0:(List K_U)) (a1:Int):Int:=
  (match r111_0 a0 a0 0 a1 with | .k0 w0_0 w1_0 w2_0=>w0_0 | .k1=>(-1))
theorem e111 {l0_0:Nat} {a0:(List K_U)} {a1:Int} (hy0:length a0*32≤140737488351232) (hy1:∀z∈a0,ok_U z):Ev F X (.call 111 [(.one (.bor l0_0 (map b_U a0))),(.one (.val (.int .i64 a1)))] [] [] [(.one (.val (.int .i64 (m111 a0 a1))))]):=by
  unfold m111
  cases h0:r111_0 a0 a0 0 a1 with
  |k0 w0_0 w1_0 w2_0=>
    try dsimp only
    have f0:=Eq.refl (h111_0 l0_0 a0 a1 0 a1)
    exact cp ya (.f f0 (.f (ev_ (e:=ex111_0) (g:=(fin111_0 l0_0 a0 a1)) h0 (t111_0 (l0_0:=l0_0) (a0:=a0) (a1:=a1) (by assumption) (by assumption) a0 [] a1 rfl)) (.h 4 (.loop (h111_0 l0_0 a0 a1 0 a1) (.exit 0) ⟨[(0,(.one (.bor l0_0 (map b_U a0)))),(1,(.oi w0_0)),(5,(.oi w1_0)),(9,(.one (.val (.bool w2_0))))],[]⟩) .nil)))
  |k1=>
    try dsimp only
    have f0:=Eq.refl (h111_0 l0_0 a0 a1 0 a1)
    exact cp ya (.f f0 (.f (ev_ (e:=ex111_0) (g:=(fin111_0 l0_0 a0 a1)) h0 (t111_0 (l0_0:=l0_0) (a0:=a0) (a1:=a1) (by assumption) (by assumption) a0 [] a1 rfl)) (.h 4 (.loop (h111_0 l0_0 a0 a1 0 a1) .ret ⟨[(4,(.oi (-1)))],[]⟩) .nil)))
/-! loop 81_0 -/
inductive O81_0 where
  |k0 (w0:Int) (w1:Int) (w2:Bool)
  |k1
def r81_0 (a0:(List K_T)):List K_T→Int→Int→O81_0
  |x0::y0,i,v0=>
    if(x0.f0 !=v0)=true then(O81_0.k1) else
    if(decide ((m110 x0.f1 (wrap .i64 (v0+1))) < 0))=true then(O81_0.k1) else
      if(decide ((m111 x0.f2 (m110 x0.f1 (wrap .i64 (v0+1)))) < 0))=true then(O81_0.k1) else
        (r81_0 a0 y0 (i+1) (m111 x0.f2 (m110 x0.f1 (wrap .i64 (v0+1)))))
  |[],i,v0=>(O81_0.k0 v0 i (decide (i <((length (map b_T a0)):Int))))
def h81_0 (l0_0:Nat) (a0:(List K_T)) (a1:Int) (i:Int) (v0:Int):St:=⟨[(0,(.one (.bor l0_0 (map b_T a0)))),(1,(.one (.val (.int .i64 v0)))),(5,(.one (.val (.int .i64 i))))],[]⟩
def ex81_0:O81_0→VX.Exit
  |.k0 _ _ _=>(.exit 0)
  |.k1=>.ret
def fin81_0 (l0_0:Nat) (a0:(List K_T)) (a1:Int):O81_0→St
  |.k0 w0 w1 w2=>⟨[(0,(.one (.bor l0_0 (map b_T a0)))),(1,(.one (.val (.int .i64 w0)))),(5,(.one (.val (.int .i64 w1)))),(9,(.one (.val (.bool w2))))],[]⟩
  |.k1=>⟨[(4,(.one (.val (.int .i64 (-1)))))],[]⟩
theorem t81_0 {l0_0:Nat} {a0:(List K_T)} {a1:Int} (hy0:length a0*56≤140737488351232) (hy1:∀z∈a0,ok_T z):∀(y0:List K_T) (p:List K_T) (v0:Int),p++y0=a0→Ev F X (.code l81_0 (h81_0 l0_0 a0 a1 (length p:Int) v0) (ex81_0 (r81_0 a0 y0 (length p:Int) v0)) (fin81_0 l0_0 a0 a1 (r81_0 a0 y0 (length p:Int) v0)))
  |[],p,v0,hp0=>by
    have hc:=hcn b_T hp0
    exact lx 9 ya (.f (nt hc) (.h 8 (.b false) .nil)) rfl
  |x0::y0,p,v0,hp0=>by
    have hc:=hcy b_T hp0
    have Hx0:=hxy hp0
    obtain⟨Mx0_0,Mx0_1,Mx0_2,Mx0_3⟩:=hy1 x0 (List.mem_of_getElem? Hx0)
    have hlen:=hly hp0
    have hw:wrap .i64 ((length p:Int)+1)=(length p:Int)+1:=wrap64 yb
    simp only[r81_0]
    have f1:0≤(length p:Int):=yb
    have P1 {hs q} (r:PS F X hs q):=(PS.f hc (.f f1 (.f (mp_ b_T Hx0) (.h 8 (.b true) (.h 14 (.row (b_T x0)) r)))))
    by_cases h_1:(x0.f0 !=v0)=true
    · try simp only[if_pos h_1]
      exact lx 26 ya (P1 (.f h_1 (.h 23 (.b true) .nil))) rfl
    · try simp only[if_neg h_1]
      have P2 {hs q} (r:PS F X hs q):=(P1 (.f (nt h_1) (.f trivial (.f f1 (.f (mp_ b_T Hx0) (.h 23 (.b false) (.h 35 (.row (b_T x0)) (.r 43 [] [] (e110 (l0_0:=(l0_0+1)) (a0:=x0.f1) (a1:=(wrap .i64 (v0+1))) ‹_› ‹_›) r))))))))
      by_cases h_2:(decide ((m110 x0.f1 (wrap .i64 (v0+1))) < 0))=true
      · try simp only[if_pos h_2]
        exact lx 53 ya (P2 (.f h_2 (.h 50 (.b true) .nil))) rfl
      · try simp only[if_neg h_2]
        have P3 {hs q} (r:PS F X hs q):=(P2 (.f (nt h_2) (.f f1 (.f (mp_ b_T Hx0) (.h 50 (.b false) (.h 56 (.row (b_T x0)) (.r 64 [] [] (e111 (l0_0:=(l0_0+1)) (a0:=x0.f2) (a1:=(m110 x0.f1 (wrap .i64 (v0+1)))) ‹_› ‹_›) r)))))))
        by_cases h_3:(decide ((m111 x0.f2 (m110 x0.f1 (wrap .i64 (v0+1)))) < 0))=true
        · try simp only[if_pos h_3]
          exact lx 74 ya (P3 (.f h_3 (.h 71 (.b true) .nil))) rfl
        · try simp only[if_neg h_3]
          have ih:=t81_0 (l0_0:=l0_0) (a0:=a0) (a1:=a1) hy0 hy1 y0 (p++ [x0]) (m111 x0.f2 (m110 x0.f1 (wrap .i64 (v0+1)))) ye
          rw[pl1,← hw] at ih; rw[← hw]
          exact ly 78 ya (P3 (.f (nt h_3) (.f trivial (.h 71 (.b false) .nil)))) ih
/-! loop.example/g00539/laws.heldTxS -/
def m81 (a0:(List K_T)) (a1:Int):Int:=
  (match r81_0 a0 a0 0 a1 with | .k0 w0_0 w1_0 w2_0=>w0_0 | .k1=>(-1))
theorem e81 {l0_0:Nat} {a0:(List K_T)} {a1:Int} (hy0:length a0*56≤140737488351232) (hy1:∀z∈a0,ok_T z):Ev F X (.call 81 [(.one (.bor l0_0 (map b_T a0))),(.one (.val (.int .i64 a1)))] [] [] [(.one (.val (.int .i64 (m81 a0 a1))))]):=by
  unfold m81
  cases h0:r81_0 a0 a0 0 a1 with
  |k0 w0_0 w1_0 w2_0=>
    try dsimp only
    have f0:=Eq.refl (h81_0 l0_0 a0 a1 0 a1)
    exact cp ya (.f f0 (.f (ev_ (e:=ex81_0) (g:=(fin81_0 l0_0 a0 a1)) h0 (t81_0 (l0_0:=l0_0) (a0:=a0) (a1:=a1) (by assumption) (by assumption) a0 [] a1 rfl)) (.h 4 (.loop (h81_0 l0_0 a0 a1 0 a1) (.exit 0) ⟨[(0,(.one (.bor l0_0 (map b_T a0)))),(1,(.oi w0_0)),(5,(.oi w1_0)),(9,(.one (.val (.bool w2_0))))],[]⟩) .nil)))
  |k1=>
    try dsimp only
    have f0:=Eq.refl (h81_0 l0_0 a0 a1 0 a1)
    exact cp ya (.f f0 (.f (ev_ (e:=ex81_0) (g:=(fin81_0 l0_0 a0 a1)) h0 (t81_0 (l0_0:=l0_0) (a0:=a0) (a1:=a1) (by assumption) (by assumption) a0 [] a1 rfl)) (.h 4 (.loop (h81_0 l0_0 a0 a1 0 a1) .ret ⟨[(4,(.oi (-1)))],[]⟩) .nil)))
/-! loop 52_0 -/
inductive O52_0 where
  |k0 (w0:Int) (w1:Int) (w2:Bool)
  |k1
def r52_0 (a0:(List K_J)):List K_J→Int→Int→O52_0
  |x0::y0,i,v0=>
    if(x0.f0 !=v0)=true then(O52_0.k1) else
    if(x0.f1 !=(wrap .i64 (v0+1)))=true then(O52_0.k1) else
      if(x0.f2 !=(wrap .i64 ((wrap .i64 (v0+1))+1)))=true then(O52_0.k1) else
        if(x0.f3 !=(wrap .i64 ((wrap .i64 ((wrap .i64 (v0+1))+1))+1)))=true then(O52_0.k1) else
          if(x0.f4 !=(wrap .i64 ((wrap .i64 ((wrap .i64 ((wrap .i64 (v0+1))+1))+1))+1)))=true then(O52_0.k1) else
            if(decide ((m81 x0.f5 (wrap .i64 ((wrap .i64 ((wrap .i64 ((wrap .i64 ((wrap .i64 (v0+1))+1))+1))+1))+1))) < 0))=true then(O52_0.k1) else
              (r52_0 a0 y0 (i+1) (m81 x0.f5 (wrap .i64 ((wrap .i64 ((wrap .i64 ((wrap .i64 ((wrap .i64 (v0+1))+1))+1))+1))+1))))
  |[],i,v0=>(O52_0.k0 v0 i (decide (i <((length (map b_J a0)):Int))))
def h52_0 (l0_0:Nat) (a0:(List K_J)) (a1:Int) (i:Int) (v0:Int):St:=⟨[(0,(.one (.bor l0_0 (map b_J a0)))),(1,(.one (.val (.int .i64 v0)))),(5,(.one (.val (.int .i64 i))))],[]⟩
def ex52_0:O52_0→VX.Exit
  |.k0 _ _ _=>(.exit 0)
  |.k1=>.ret
def fin52_0 (l0_0:Nat) (a0:(List K_J)) (a1:Int):O52_0→St
  |.k0 w0 w1 w2=>⟨[(0,(.one (.bor l0_0 (map b_J a0)))),(1,(.one (.val (.int .i64 w0)))),(5,(.one (.val (.int .i64 w1)))),(9,(.one (.val (.bool w2))))],[]⟩
  |.k1=>⟨[(4,(.one (.val (.int .i64 (-1)))))],[]⟩
theorem t52_0 {l0_0:Nat} {a0:(List K_J)} {a1:Int} (hy0:length a0*64≤140737488351232) (hy1:∀z∈a0,ok_J z):∀(y0:List K_J) (p:List K_J) (v0:Int),p++y0=a0→Ev F X (.code l52_0 (h52_0 l0_0 a0 a1 (length p:Int) v0) (ex52_0 (r52_0 a0 y0 (length p:Int) v0)) (fin52_0 l0_0 a0 a1 (r52_0 a0 y0 (length p:Int) v0)))
  |[],p,v0,hp0=>by
    have hc:=hcn b_J hp0
    exact lx 9 ya (.f (nt hc) (.h 8 (.b false) .nil)) rfl
  |x0::y0,p,v0,hp0=>by
    have hc:=hcy b_J hp0
    have Hx0:=hxy hp0
    obtain⟨Mx0_0,Mx0_1⟩:=hy1 x0 (List.mem_of_getElem? Hx0)
    have hlen:=hly hp0
    have hw:wrap .i64 ((length p:Int)+1)=(length p:Int)+1:=wrap64 yb
    simp only[r52_0]
    have f1:0≤(length p:Int):=yb
    have P1 {hs q} (r:PS F X hs q):=(PS.f hc (.f f1 (.f (mp_ b_J Hx0) (.h 8 (.b true) (.h 14 (.row (b_J x0)) r)))))
    by_cases h_1:(x0.f0 !=v0)=true
    · try simp only[if_pos h_1]
      exact lx 26 ya (P1 (.f h_1 (.h 23 (.b true) .nil))) rfl
    · try simp only[if_neg h_1]
      have P2 {hs q} (r:PS F X hs q):=(P1 (.f (nt h_1) (.f trivial (.f f1 (.f (mp_ b_J Hx0) (.h 23 (.b false) (.h 35 (.row (b_J x0)) r)))))))
      by_cases h_2:(x0.f1 !=(wrap .i64 (v0+1)))=true
      · try simp only[if_pos h_2]
        exact lx 49 ya (P2 (.f h_2 (.h 46 (.b true) .nil))) rfl
      · try simp only[if_neg h_2]
        have P3 {hs q} (r:PS F X hs q):=(P2 (.f (nt h_2) (.f trivial (.f f1 (.f (mp_ b_J Hx0) (.h 46 (.b false) (.h 58 (.row (b_J x0)) r)))))))
        by_cases h_3:(x0.f2 !=(wrap .i64 ((wrap .i64 (v0+1))+1)))=true
        · try simp only[if_pos h_3]
          exact lx 72 ya (P3 (.f h_3 (.h 69 (.b true) .nil))) rfl
        · try simp only[if_neg h_3]
          have P4 {hs q} (r:PS F X hs q):=(P3 (.f (nt h_3) (.f trivial (.f f1 (.f (mp_ b_J Hx0) (.h 69 (.b false) (.h 81 (.row (b_J x0)) r)))))))
          by_cases h_4:(x0.f3 !=(wrap .i64 ((wrap .i64 ((wrap .i64 (v0+1))+1))+1)))=true
          · try simp only[if_pos h_4]
            exact lx 95 ya (P4 (.f h_4 (.h 92 (.b true) .nil))) rfl
          · try simp only[if_neg h_4]
            have P5 {hs q} (r:PS F X hs q):=(P4 (.f (nt h_4) (.f trivial (.f f1 (.f (mp_ b_J Hx0) (.h 92 (.b false) (.h 104 (.row (b_J x0)) r)))))))
            by_cases h_5:(x0.f4 !=(wrap .i64 ((wrap .i64 ((wrap .i64 ((wrap .i64 (v0+1))+1))+1))+1)))=true
            · try simp only[if_pos h_5]
              exact lx 118 ya (P5 (.f h_5 (.h 115 (.b true) .nil))) rfl
            · try simp only[if_neg h_5]
              have P6 {hs q} (r:PS F X hs q):=(P5 (.f (nt h_5) (.f trivial (.f f1 (.f (mp_ b_J Hx0) (.h 115 (.b false) (.h 127 (.row (b_J x0)) (.r 137 [] [] (e81 (l0_0:=(l0_0+1)) (a0:=x0.f5) (a1:=(wrap .i64 ((wrap .i64 ((wrap .i64 ((wrap .i64 ((wrap .i64 (v0+1))+1))+1))+1))+1))) ‹_› ‹_›) r))))))))
              by_cases h_6:(decide ((m81 x0.f5 (wrap .i64 ((wrap .i64 ((wrap .i64 ((wrap .i64 ((wrap .i64 (v0+1))+1))+1))+1))+1))) < 0))=true
              · try simp only[if_pos h_6]
                exact lx 147 ya (P6 (.f h_6 (.h 144 (.b true) .nil))) rfl
              · try simp only[if_neg h_6]
                have ih:=t52_0 (l0_0:=l0_0) (a0:=a0) (a1:=a1) hy0 hy1 y0 (p++ [x0]) (m81 x0.f5 (wrap .i64 ((wrap .i64 ((wrap .i64 ((wrap .i64 ((wrap .i64 (v0+1))+1))+1))+1))+1))) ye
                rw[pl1,← hw] at ih; rw[← hw]
                exact ly 151 ya (P6 (.f (nt h_6) (.f trivial (.h 144 (.b false) .nil)))) ih
/-! loop.example/g00539/laws.heldJobS -/
def m52 (a0:(List K_J)) (a1:Int):Int:=
  (match r52_0 a0 a0 0 a1 with | .k0 w0_0 w1_0 w2_0=>w0_0 | .k1=>(-1))
theorem e52 {l0_0:Nat} {a0:(List K_J)} {a1:Int} (hy0:length a0*64≤140737488351232) (hy1:∀z∈a0,ok_J z):Ev F X (.call 52 [(.one (.bor l0_0 (map b_J a0))),(.one (.val (.int .i64 a1)))] [] [] [(.one (.val (.int .i64 (m52 a0 a1))))]):=by
  unfold m52
  cases h0:r52_0 a0 a0 0 a1 with
  |k0 w0_0 w1_0 w2_0=>
    try dsimp only
    have f0:=Eq.refl (h52_0 l0_0 a0 a1 0 a1)
    exact cp ya (.f f0 (.f (ev_ (e:=ex52_0) (g:=(fin52_0 l0_0 a0 a1)) h0 (t52_0 (l0_0:=l0_0) (a0:=a0) (a1:=a1) (by assumption) (by assumption) a0 [] a1 rfl)) (.h 4 (.loop (h52_0 l0_0 a0 a1 0 a1) (.exit 0) ⟨[(0,(.one (.bor l0_0 (map b_J a0)))),(1,(.oi w0_0)),(5,(.oi w1_0)),(9,(.one (.val (.bool w2_0))))],[]⟩) .nil)))
  |k1=>
    try dsimp only
    have f0:=Eq.refl (h52_0 l0_0 a0 a1 0 a1)
    exact cp ya (.f f0 (.f (ev_ (e:=ex52_0) (g:=(fin52_0 l0_0 a0 a1)) h0 (t52_0 (l0_0:=l0_0) (a0:=a0) (a1:=a1) (by assumption) (by assumption) a0 [] a1 rfl)) (.h 4 (.loop (h52_0 l0_0 a0 a1 0 a1) .ret ⟨[(4,(.oi (-1)))],[]⟩) .nil)))
/-! loop.example/g00539/laws.heldJobsResult -/
def m23 (a0:K_JR) (a1:Int):Int:=
  if(decide ((m52 a0.f1 a1) < 0))=true then(-1) else
  (m52 a0.f1 a1)
theorem e23 {l0_1:Nat} {a0:K_JR} {a1:Int} (hy0:length a0.f1*64≤140737488351232) (hy1:∀z∈a0.f1,ok_J z):Ev F X (.call 23 [(.agg (k_JR l0_1 a0)),(.one (.val (.int .i64 a1)))] [] [] [(.one (.val (.int .i64 (m23 a0 a1))))]):=by
  unfold m23
  have P0 {hs q} (r:PS F X hs q):=(PS.r 11 [] [] (e52 (l0_0:=(l0_1+1)) (a0:=a0.f1) (a1:=a1) ‹_› ‹_›) r)
  by_cases h0:(decide ((m52 a0.f1 a1) < 0))=true
  · try simp only[if_pos h0]
    exact cp ya (P0 (.f h0 (.h 18 (.b true) .nil)))
  · try simp only[if_neg h0]
    exact cp ya (P0 (.f (nt h0) (.h 18 (.b false) .nil)))
/-! loop.example/g00539/laws.FnExactPutJob -/
def m4 (a0:(List K_J)) (a1:K_J):Bool:=
  if(decide ((m15 a0 1048576) < 0))=true then true else
  if(decide ((m6 a1 (m15 a0 1048576)) < 0))=true then true else
    if(!(m19 (m18 a0 a1) (m16 a0 a1)))=true then false else
      if(!(m20 a0 a0))=true then false else
        if(!(m11 a1 a1))=true then false else
          if(decide ((m12 a1 (m21 a0 1)) < 0))=true then false else
            if(decide ((m23 (K_JR.mk ((m18 a0 a1).f0) (o22_0 (m18 a0 a1) 1)) 1) < 0))=true then false else
              if((m23 (K_JR.mk ((m18 a0 a1).f0) (o22_0 (m18 a0 a1) 1)) 1) !=(m22 (m18 a0 a1) 1))=true then false else
                true
set_option maxHeartbeats 8000000 in
theorem e4 {l0_0:Nat} {a0:(List K_J)} {l1_5:Nat} {a1:K_J} (hy0:length a0*64≤140737488351232) (hy1:∀z∈a0,ok_J z) (hy2:length a1.f5*56≤140737488351232) (hy3:∀z∈a1.f5,ok_T z):Ev F X (.call 4 [(.one (.bor l0_0 (map b_J a0))),(.agg (k_J l1_5 a1))] [] [] [(.one (.val (.bool (m4 a0 a1))))]):=by
  unfold m4
  have P0 {hs q} (r:PS F X hs q):=(PS.r 11 [] [] (e15 (l0_0:=(l0_0+1)) (a0:=a0) (a1:=1048576) ‹_› ‹_›) r)
  by_cases h0:(decide ((m15 a0 1048576) < 0))=true
  · try simp only[if_pos h0]
    exact cp ya (P0 (.f h0 (.h 18 (.b true) .nil)))
  · try simp only[if_neg h0]
    have P1 {hs q} (r:PS F X hs q):=(P0 (.f (nt h0) (.h 18 (.b false) (.r 24 [] [] (e6 (l0_5:=(l1_5+1)) (a0:=a1) (a1:=(m15 a0 1048576)) ‹_› ‹_›) r))))
    by_cases h1:(decide ((m6 a1 (m15 a0 1048576)) < 0))=true
    · try simp only[if_pos h1]
      exact cp ya (P1 (.f h1 (.h 31 (.b true) .nil)))
    · try simp only[if_neg h1]
      have f4:=(g17 (l0_0:=(l0_0+1)) (a0:=a0) ‹_› ‹_›)
      have f5:=(e8 (l0_5:=(l1_5+1)) (a0:=a1) ‹_› ‹_›)
      have P2 {hs q} (r:PS F X hs q):=(P1 (.f (nt h1) (.h 31 (.b false) (.r 35 [] [] f4 (.r 39 [] [] f5 (ln_J a0 (ln_T a1.f5 (.r 41 [] [(map b_J a0),(map b_T a1.f5)] (e16 (l0_0:=0) (l1_5:=0) (a0:=a0) (a1:=a1) ‹_› ‹_› ‹_› ‹_›) (pe 0 (pe (length (map d_J ((m16 a0 a1).f1))) (.r 49 [] [] f4 (.r 55 [] [] f5 (pe 0 (pe (length (map d_T a1.f5)) (ln_J a0 (ln_T a1.f5 (.r 65 [] [(map b_J a0),(map b_T a1.f5)] (e18 (l0_0:=0) (l1_5:=0) (a0:=a0) (a1:=a1) ‹_› ‹_› ‹_› ‹_›) (pe 0 (pe (length (map d_J ((m18 a0 a1).f1))) (ln_J ((m18 a0 a1).f1) (ln_J ((m16 a0 a1).f1) (.r 75 [] [(map b_J ((m18 a0 a1).f1)),(map b_J ((m16 a0 a1).f1))] (e19 (l0_1:=0) (l1_1:=0) (a0:=(m18 a0 a1)) (a1:=(m16 a0 a1)) yan yao yar yas) r))))))))))))))))))))))
      by_cases h2:(!(m19 (m18 a0 a1) (m16 a0 a1)))=true
      · try simp only[if_pos h2]
        exact cp ya (P2 (.f h2 (.h 78 (.b true) .nil)))
      · try simp only[if_neg h2]
        have P3 {hs q} (r:PS F X hs q):=(P2 (.f (nt h2) (.h 78 (.b false) (.r 84 [] [] f4 (ln_J a0 (ln_J a0 (.r 86 [] [(map b_J a0),(map b_J a0)] (e20 (l0_0:=0) (l1_0:=0) (a0:=a0) (a1:=a0) ‹_› ‹_› ‹_› ‹_›) r)))))))
        by_cases h3:(!(m20 a0 a0))=true
        · try simp only[if_pos h3]
          exact cp ya (P3 (.f h3 (.h 89 (.b true) .nil)))
        · try simp only[if_neg h3]
          have P4 {hs q} (r:PS F X hs q):=(P3 (.f (nt h3) (.h 89 (.b false) (.r 95 [] [] f5 (ln_T a1.f5 (ln_T a1.f5 (.r 97 [] [(map b_T a1.f5),(map b_T a1.f5)] (e11 (l0_5:=0) (l1_5:=0) (a0:=a1) (a1:=a1) ‹_› ‹_› ‹_› ‹_›) r)))))))
          by_cases h4:(!(m11 a1 a1))=true
          · try simp only[if_pos h4]
            exact cp ya (P4 (.f h4 (.h 100 (.b true) .nil)))
          · try simp only[if_neg h4]
            have P5 {hs q} (r:PS F X hs q):=(P4 (.f (nt h4) (.f (pureR_J a0) (.h 100 (.b false) (.r 108 [true] [] (e21 (a0:=a0) (a1:=1) ‹_› ‹_›) (.f (pureR_T a1.f5) (.r 116 [true] [] (e12 (a0:=a1) (a1:=(m21 a0 1)) ‹_› ‹_›) r)))))))
            by_cases h5:(decide ((m12 a1 (m21 a0 1)) < 0))=true
            · try simp only[if_pos h5]
              exact cp ya (P5 (.f h5 (.f h5 (.f h5 (.f h5 (.f h5 (.h 125 (.b true) (.h 127 (.b true) (.h 129 (.b true) (.h 131 (.b true) (.h 134 (.b true) .nil)))))))))))
            · try simp only[if_neg h5]
              have P6 {hs q} (r:PS F X hs q):=(P5 (.f (nt h5) (.f (nt h5) (.f (nt h5) (ln_J ((m18 a0 a1).f1) (ln_J ((m16 a0 a1).f1) (.h 125 (.b false) (.h 127 (.b false) (.h 129 (.b false) (.r 130 [] [(map b_J ((m18 a0 a1).f1)),(map b_J ((m16 a0 a1).f1))] (e19 (l0_1:=0) (l1_1:=0) (a0:=(m18 a0 a1)) (a1:=(m16 a0 a1)) yan yao yar yas) (.f (nt h5) (.f (nt h5) (.f (nt h2) (.f (pureR_J ((m18 a0 a1).f1)) (.h 131 (.b false) (.h 134 (.b false) (.h 135 (.b false) (.r 143 [true] [] (e22 (a0:=(m18 a0 a1)) (a1:=1) yan yao) (ln_J (o22_0 (m18 a0 a1) 1) (.r 153 [] [(map b_J (o22_0 (m18 a0 a1) 1))] (e23 (l0_1:=0) (a0:=(K_JR.mk ((m18 a0 a1).f0) (o22_0 (m18 a0 a1) 1))) (a1:=1) (by have q:=okm18 a0 a1; rw[ol22_0]; exact q.1) (by have q:=okm18 a0 a1; exact oo21 _ _ q.2)) r))))))))))))))))))))
              by_cases h6:(decide ((m23 (K_JR.mk ((m18 a0 a1).f0) (o22_0 (m18 a0 a1) 1)) 1) < 0))=true
              · try simp only[if_pos h6]
                exact cp ya (P6 (.f h6 (.h 160 (.b true) .nil)))
              · try simp only[if_neg h6]
                by_cases h7:((m23 (K_JR.mk ((m18 a0 a1).f0) (o22_0 (m18 a0 a1) 1)) 1) !=(m22 (m18 a0 a1) 1))=true
                · try simp only[if_pos h7]
                  exact cp ya (P6 (.f (nt h6) (.f h7 (.h 160 (.b false) (.h 167 (.b true) .nil)))))
                · try simp only[if_neg h7]
                  exact cp ya (P6 (.f (nt h6) (.f (nt h7) (.h 160 (.b false) (.h 167 (.b false) (.r 171 [] [] f4 (.r 175 [] [] f5 (ln_J a0 (ln_T a1.f5 (.r 177 [] [(map b_J a0),(map b_T a1.f5)] (e18 (l0_0:=0) (l1_5:=0) (a0:=a0) (a1:=a1) ‹_› ‹_› ‹_› ‹_›) (pe 0 (pe (length (map d_J ((m18 a0 a1).f1))) (ln_J ((m18 a0 a1).f1) (ln_J ((m16 a0 a1).f1) (.r 187 [] [(map b_J ((m18 a0 a1).f1)),(map b_J ((m16 a0 a1).f1))] (e19 (l0_1:=0) (l1_1:=0) (a0:=(m18 a0 a1)) (a1:=(m16 a0 a1)) yan yao yar yas) (.f (nt h2) (ln_J (o22_0 (m18 a0 a1) 1) (.h 190 (.b false) (.r 198 [] [(map b_J (o22_0 (m18 a0 a1) 1))] (e23 (l0_1:=0) (a0:=(K_JR.mk ((m18 a0 a1).f0) (o22_0 (m18 a0 a1) 1))) (a1:=1) (by have q:=okm18 a0 a1; rw[ol22_0]; exact q.1) (by have q:=okm18 a0 a1; exact oo21 _ _ q.2)) (.f (nt h6) (.f (nt h7) (.h 205 (.b false) (.h 212 (.b false) .nil)))))))))))))))))))))))
/-! weights -/
def wt_i (x:Int):Nat:=1
theorem wts_i:∀(l:List Int),(map wt_i l).sum=l.length*1
  |[]=>rfl
  |x::l=>by simp only[List.map_cons,List.sum_cons,wts_i l,length_cons,wt_i]; omega
def wt_N (x:K_N):Nat:=2+(map wt_i x.f2).sum
def wt_U (x:K_U):Nat:=1+(map wt_i x.f1).sum
def wt_T (x:K_T):Nat:=1+(map wt_N x.f1).sum+(map wt_U x.f2).sum
def wt_J (x:K_J):Nat:=5+(map wt_T x.f5).sum
def wt_JL (x:(List K_J)):Nat:=0+(map wt_J x).sum
def wt_b (x:Bool):Nat:=1
def wt_JR (x:K_JR):Nat:=1+(map wt_J x.f1).sum
def wt_G (x:K_G):Nat:=4+(map wt_T x.f4).sum
def wt_TL (x:(List K_T)):Nat:=0+(map wt_T x).sum
def wt_LiE (x:(List Int)):Nat:=0+(map wt_i x).sum
def wt_NL (x:(List K_N)):Nat:=0+(map wt_N x).sum
def wt_UL (x:(List K_U)):Nat:=0+(map wt_U x).sum
def wt_y (x:Int):Nat:=1
def wt_LyE (x:(List Int)):Nat:=0+(map wt_y x).sum
def wt_LLyEE (x:(List (List Int))):Nat:=0+(map wt_LyE x).sum
/-! marks of loop.example/g00539/laws.markInt64S -/
theorem mr112_0 (a0:List Int):∀(l p:List Int) (v1:Int),0≤v1→v1+((map wt_i l).sum:Nat)≤4611686018427387904→∃(q:List Int) (k':Int) (w2:_) (w3:_),r112_0 a0 l (p.length:Int) (p++l) v1=.k0 (p++q) k' w2 w3∧q.length=l.length∧v1≤k'∧k'≤v1+((map wt_i l).sum:Nat)∧∀(c:List Int) (j:Int),∃u1 u2,r144_0 c q j v1=.k0 k' u1 u2
  |[],p,v1,h0,h1=>⟨[],v1,(p.length:Int),(decide ((p.length:Int) <((length (map d_i a0)):Int))),rfl,rfl,by omega,by simp,fun c j=>⟨j,(decide (j <((length (map b_i c)):Int))),rfl⟩⟩
  |x0::l,p,v1,h0,h1=>by
    simp only[List.map_cons,List.sum_cons,wt_i] at h1⊢
    obtain⟨q,k',w2,w3,e1,e2,e3,e4,e5⟩:=mr112_0 a0 l (p++ [v1]) (v1+1) yb yb
    refine⟨v1::q,k',w2,w3,?_,by simp[e2],by omega,by omega,?_⟩
    · have e:set (p++x0::l) (toNat (p.length:Int)) v1=(p++ [v1])++l:=by simp
      have e0:((p++ [v1]).length:Int)=(p.length:Int)+1:=by simp
      rw[e0] at e1
      simp(disch:=omega) only[r112_0,wrap64d]
      first |(rw[e,e1]; simp; done) |(simp only[e,e1]; simp; done)
    · intro c j
      obtain⟨u1,u2,g⟩:=e5 c (j+1)
      refine⟨u1,u2,?_⟩
      simp(disch:=omega) only[r144_0,wrap64d]
      first |(simpa using g) |(simp_all; done)
theorem mh112 (a:List Int) (k:Int) (h0:0≤k) (h1:k+((map wt_i a).sum:Nat)≤4611686018427387904):m144 (o112_0 a k) k=m112 a k∧k≤m112 a k∧m112 a k≤k+((map wt_i a).sum:Nat):=by
  obtain⟨q,k',w2,w3,e1,e2,e3,e4,e5⟩:=mr112_0 a a [] k h0 h1
  obtain⟨u1,u2,g⟩:=e5 q 0
  simp only[List.nil_append,length_nil] at e1
  rw[show ((0:Nat):Int)=0 from rfl] at e1
  unfold m112 o112_0 m144
  rw[e1]; simp only[]; rw[g]; exact⟨rfl,e3,e4⟩
/-! marks of loop.example/g00539/laws.markInS -/
theorem mr83_0 (a0:List K_N):∀(l p:List K_N) (v1:Int),0≤v1→v1+((map wt_N l).sum:Nat)≤4611686018427387904→∃(q:List K_N) (k':Int) (w2:_) (w3:_),r83_0 a0 l (p.length:Int) (p++l) v1=.k0 (p++q) k' w2 w3∧q.length=l.length∧v1≤k'∧k'≤v1+((map wt_N l).sum:Nat)∧∀(c:List K_N) (j:Int),∃u1 u2,r110_0 c q j v1=.k0 k' u1 u2
  |[],p,v1,h0,h1=>⟨[],v1,(p.length:Int),(decide ((p.length:Int) <((length (map d_N a0)):Int))),rfl,rfl,by omega,by simp,fun c j=>⟨j,(decide (j <((length (map b_N c)):Int))),rfl⟩⟩
  |x0::l,p,v1,h0,h1=>by
    simp only[List.map_cons,List.sum_cons,wt_N] at h1⊢
    have s0:=mh112 x0.f2 ((v1+1)+1) yb yb
    obtain⟨q,k',w2,w3,e1,e2,e3,e4,e5⟩:=mr83_0 a0 l (p++ [(K_N.mk v1 (v1+1) (o112_0 x0.f2 ((v1+1)+1)))]) (m112 x0.f2 ((v1+1)+1)) yb yb
    refine⟨(K_N.mk v1 (v1+1) (o112_0 x0.f2 ((v1+1)+1)))::q,k',w2,w3,?_,by simp[e2],by omega,by omega,?_⟩
    · have e:set (p++x0::l) (toNat (p.length:Int)) (K_N.mk v1 (v1+1) (o112_0 x0.f2 ((v1+1)+1)))=(p++ [(K_N.mk v1 (v1+1) (o112_0 x0.f2 ((v1+1)+1)))])++l:=by simp
      have e0:((p++ [(K_N.mk v1 (v1+1) (o112_0 x0.f2 ((v1+1)+1)))]).length:Int)=(p.length:Int)+1:=by simp
      rw[e0] at e1
      simp(disch:=omega) only[r83_0,wrap64d]
      first |(rw[e,e1]; simp; done) |(simp only[e,e1]; simp; done)
    · intro c j
      obtain⟨u1,u2,g⟩:=e5 c (j+1)
      refine⟨u1,u2,?_⟩
      have t0:=s0.1
      have n0:¬(m112 x0.f2 ((v1+1)+1) < 0):=by omega
      simp(disch:=omega) only[r110_0,wrap64d,t0]
      first |(simpa[n0] using g) |(simp_all; done)
theorem mh83 (a:List K_N) (k:Int) (h0:0≤k) (h1:k+((map wt_N a).sum:Nat)≤4611686018427387904):m110 (o83_0 a k) k=m83 a k∧k≤m83 a k∧m83 a k≤k+((map wt_N a).sum:Nat):=by
  obtain⟨q,k',w2,w3,e1,e2,e3,e4,e5⟩:=mr83_0 a a [] k h0 h1
  obtain⟨u1,u2,g⟩:=e5 q 0
  simp only[List.nil_append,length_nil] at e1
  rw[show ((0:Nat):Int)=0 from rfl] at e1
  unfold m83 o83_0 m110
  rw[e1]; simp only[]; rw[g]; exact⟨rfl,e3,e4⟩
/-! marks of loop.example/g00539/laws.markOutS -/
theorem mr84_0 (a0:List K_U):∀(l p:List K_U) (v1:Int),0≤v1→v1+((map wt_U l).sum:Nat)≤4611686018427387904→∃(q:List K_U) (k':Int) (w2:_) (w3:_),r84_0 a0 l (p.length:Int) (p++l) v1=.k0 (p++q) k' w2 w3∧q.length=l.length∧v1≤k'∧k'≤v1+((map wt_U l).sum:Nat)∧∀(c:List K_U) (j:Int),∃u1 u2,r111_0 c q j v1=.k0 k' u1 u2
  |[],p,v1,h0,h1=>⟨[],v1,(p.length:Int),(decide ((p.length:Int) <((length (map d_U a0)):Int))),rfl,rfl,by omega,by simp,fun c j=>⟨j,(decide (j <((length (map b_U c)):Int))),rfl⟩⟩
  |x0::l,p,v1,h0,h1=>by
    simp only[List.map_cons,List.sum_cons,wt_U] at h1⊢
    have s0:=mh112 x0.f1 (v1+1) yb yb
    obtain⟨q,k',w2,w3,e1,e2,e3,e4,e5⟩:=mr84_0 a0 l (p++ [(K_U.mk v1 (o112_0 x0.f1 (v1+1)))]) (m112 x0.f1 (v1+1)) yb yb
    refine⟨(K_U.mk v1 (o112_0 x0.f1 (v1+1)))::q,k',w2,w3,?_,by simp[e2],by omega,by omega,?_⟩
    · have e:set (p++x0::l) (toNat (p.length:Int)) (K_U.mk v1 (o112_0 x0.f1 (v1+1)))=(p++ [(K_U.mk v1 (o112_0 x0.f1 (v1+1)))])++l:=by simp
      have e0:((p++ [(K_U.mk v1 (o112_0 x0.f1 (v1+1)))]).length:Int)=(p.length:Int)+1:=by simp
      rw[e0] at e1
      simp(disch:=omega) only[r84_0,wrap64d]
      first |(rw[e,e1]; simp; done) |(simp only[e,e1]; simp; done)
    · intro c j
      obtain⟨u1,u2,g⟩:=e5 c (j+1)
      refine⟨u1,u2,?_⟩
      have t0:=s0.1
      have n0:¬(m112 x0.f1 (v1+1) < 0):=by omega
      simp(disch:=omega) only[r111_0,wrap64d,t0]
      first |(simpa[n0] using g) |(simp_all; done)
theorem mh84 (a:List K_U) (k:Int) (h0:0≤k) (h1:k+((map wt_U a).sum:Nat)≤4611686018427387904):m111 (o84_0 a k) k=m84 a k∧k≤m84 a k∧m84 a k≤k+((map wt_U a).sum:Nat):=by
  obtain⟨q,k',w2,w3,e1,e2,e3,e4,e5⟩:=mr84_0 a a [] k h0 h1
  obtain⟨u1,u2,g⟩:=e5 q 0
  simp only[List.nil_append,length_nil] at e1
  rw[show ((0:Nat):Int)=0 from rfl] at e1
  unfold m84 o84_0 m111
  rw[e1]; simp only[]; rw[g]; exact⟨rfl,e3,e4⟩
/-! marks of loop.example/g00539/laws.markTxS -/
theorem mr51_0 (a0:List K_T):∀(l p:List K_T) (v1:Int),0≤v1→v1+((map wt_T l).sum:Nat)≤4611686018427387904→∃(q:List K_T) (k':Int) (w2:_) (w3:_),r51_0 a0 l (p.length:Int) (p++l) v1=.k0 (p++q) k' w2 w3∧q.length=l.length∧v1≤k'∧k'≤v1+((map wt_T l).sum:Nat)∧∀(c:List K_T) (j:Int),∃u1 u2,r81_0 c q j v1=.k0 k' u1 u2
  |[],p,v1,h0,h1=>⟨[],v1,(p.length:Int),(decide ((p.length:Int) <((length (map d_T a0)):Int))),rfl,rfl,by omega,by simp,fun c j=>⟨j,(decide (j <((length (map b_T c)):Int))),rfl⟩⟩
  |x0::l,p,v1,h0,h1=>by
    simp only[List.map_cons,List.sum_cons,wt_T] at h1⊢
    have s0:=mh83 x0.f1 (v1+1) yb yb
    have s1:=mh84 x0.f2 (m83 x0.f1 (v1+1)) yb yb
    obtain⟨q,k',w2,w3,e1,e2,e3,e4,e5⟩:=mr51_0 a0 l (p++ [(K_T.mk v1 (o83_0 x0.f1 (v1+1)) (o84_0 x0.f2 (m83 x0.f1 (v1+1))))]) (m84 x0.f2 (m83 x0.f1 (v1+1))) yb yb
    refine⟨(K_T.mk v1 (o83_0 x0.f1 (v1+1)) (o84_0 x0.f2 (m83 x0.f1 (v1+1))))::q,k',w2,w3,?_,by simp[e2],by omega,by omega,?_⟩
    · have e:set (p++x0::l) (toNat (p.length:Int)) (K_T.mk v1 (o83_0 x0.f1 (v1+1)) (o84_0 x0.f2 (m83 x0.f1 (v1+1))))=(p++ [(K_T.mk v1 (o83_0 x0.f1 (v1+1)) (o84_0 x0.f2 (m83 x0.f1 (v1+1))))])++l:=by simp
      have e0:((p++ [(K_T.mk v1 (o83_0 x0.f1 (v1+1)) (o84_0 x0.f2 (m83 x0.f1 (v1+1))))]).length:Int)=(p.length:Int)+1:=by simp
      rw[e0] at e1
      simp(disch:=omega) only[r51_0,wrap64d]
      first |(rw[e,e1]; simp; done) |(simp only[e,e1]; simp; done)
    · intro c j
      obtain⟨u1,u2,g⟩:=e5 c (j+1)
      refine⟨u1,u2,?_⟩
      have t0:=s0.1
      have n0:¬(m83 x0.f1 (v1+1) < 0):=by omega
      have t1:=s1.1
      have n1:¬(m84 x0.f2 (m83 x0.f1 (v1+1)) < 0):=by omega
      simp(disch:=omega) only[r81_0,wrap64d,t0,t1]
      first |(simpa[n0,n1] using g) |(simp_all; done)
theorem mh51 (a:List K_T) (k:Int) (h0:0≤k) (h1:k+((map wt_T a).sum:Nat)≤4611686018427387904):m81 (o51_0 a k) k=m51 a k∧k≤m51 a k∧m51 a k≤k+((map wt_T a).sum:Nat):=by
  obtain⟨q,k',w2,w3,e1,e2,e3,e4,e5⟩:=mr51_0 a a [] k h0 h1
  obtain⟨u1,u2,g⟩:=e5 q 0
  simp only[List.nil_append,length_nil] at e1
  rw[show ((0:Nat):Int)=0 from rfl] at e1
  unfold m51 o51_0 m81
  rw[e1]; simp only[]; rw[g]; exact⟨rfl,e3,e4⟩
/-! marks of loop.example/g00539/laws.markJobS -/
theorem mr21_0 (a0:List K_J):∀(l p:List K_J) (v1:Int),0≤v1→v1+((map wt_J l).sum:Nat)≤4611686018427387904→∃(q:List K_J) (k':Int) (w2:_) (w3:_),r21_0 a0 l (p.length:Int) (p++l) v1=.k0 (p++q) k' w2 w3∧q.length=l.length∧v1≤k'∧k'≤v1+((map wt_J l).sum:Nat)∧∀(c:List K_J) (j:Int),∃u1 u2,r52_0 c q j v1=.k0 k' u1 u2
  |[],p,v1,h0,h1=>⟨[],v1,(p.length:Int),(decide ((p.length:Int) <((length (map d_J a0)):Int))),rfl,rfl,by omega,by simp,fun c j=>⟨j,(decide (j <((length (map b_J c)):Int))),rfl⟩⟩
  |x0::l,p,v1,h0,h1=>by
    simp only[List.map_cons,List.sum_cons,wt_J] at h1⊢
    have s0:=mh51 x0.f5 (((((v1+1)+1)+1)+1)+1) yb yb
    obtain⟨q,k',w2,w3,e1,e2,e3,e4,e5⟩:=mr21_0 a0 l (p++ [(K_J.mk v1 (v1+1) ((v1+1)+1) (((v1+1)+1)+1) ((((v1+1)+1)+1)+1) (o51_0 x0.f5 (((((v1+1)+1)+1)+1)+1)))]) (m51 x0.f5 (((((v1+1)+1)+1)+1)+1)) yb yb
    refine⟨(K_J.mk v1 (v1+1) ((v1+1)+1) (((v1+1)+1)+1) ((((v1+1)+1)+1)+1) (o51_0 x0.f5 (((((v1+1)+1)+1)+1)+1)))::q,k',w2,w3,?_,by simp[e2],by omega,by omega,?_⟩
    · have e:set (p++x0::l) (toNat (p.length:Int)) (K_J.mk v1 (v1+1) ((v1+1)+1) (((v1+1)+1)+1) ((((v1+1)+1)+1)+1) (o51_0 x0.f5 (((((v1+1)+1)+1)+1)+1)))=(p++ [(K_J.mk v1 (v1+1) ((v1+1)+1) (((v1+1)+1)+1) ((((v1+1)+1)+1)+1) (o51_0 x0.f5 (((((v1+1)+1)+1)+1)+1)))])++l:=by simp
      have e0:((p++ [(K_J.mk v1 (v1+1) ((v1+1)+1) (((v1+1)+1)+1) ((((v1+1)+1)+1)+1) (o51_0 x0.f5 (((((v1+1)+1)+1)+1)+1)))]).length:Int)=(p.length:Int)+1:=by simp
      rw[e0] at e1
      simp(disch:=omega) only[r21_0,wrap64d]
      first |(rw[e,e1]; simp; done) |(simp only[e,e1]; simp; done)
    · intro c j
      obtain⟨u1,u2,g⟩:=e5 c (j+1)
      refine⟨u1,u2,?_⟩
      have t0:=s0.1
      have n0:¬(m51 x0.f5 (((((v1+1)+1)+1)+1)+1) < 0):=by omega
      simp(disch:=omega) only[r52_0,wrap64d,t0]
      first |(simpa[n0] using g) |(simp_all; done)
theorem mh21 (a:List K_J) (k:Int) (h0:0≤k) (h1:k+((map wt_J a).sum:Nat)≤4611686018427387904):m52 (o21_0 a k) k=m21 a k∧k≤m21 a k∧m21 a k≤k+((map wt_J a).sum:Nat):=by
  obtain⟨q,k',w2,w3,e1,e2,e3,e4,e5⟩:=mr21_0 a a [] k h0 h1
  obtain⟨u1,u2,g⟩:=e5 q 0
  simp only[List.nil_append,length_nil] at e1
  rw[show ((0:Nat):Int)=0 from rfl] at e1
  unfold m21 o21_0 m52
  rw[e1]; simp only[]; rw[g]; exact⟨rfl,e3,e4⟩
/-! marks of loop.example/g00539/laws.markJobsResult -/
theorem mh22 (a:K_JR) (k:Int) (h0:0≤k) (h1:k+(wt_JR a:Nat)≤4611686018427387904):m23 (K_JR.mk a.f0 (o22_0 a k)) k=m22 a k∧k≤m22 a k∧m22 a k≤k+(wt_JR a:Nat):=by
  simp only[wt_JR] at h1⊢
  have s0:=mh21 a.f1 k yb yb
  have t0:=s0.1
  try simp only[length_map,wt_i,wt_N,wt_U,wt_T,wt_J,wt_JL,wt_b,wt_JR,wt_G,wt_TL,wt_LiE,wt_NL,wt_UL,wt_y,wt_LyE,wt_LLyEE] at*
  unfold m23 m22 o22_0
  simp(disch:=omega) only[wrap64d,t0]
  refine⟨?_,by omega,by omega⟩
  (repeat' rw[if_neg (by simp only[decide_eq_true_eq]; omega)])<;>rfl
theorem ck156 (F:FuncId→Option VFun) (X:Ext):CkD F X 100 2 1 8 [(.val (.int .i64 0))]:=by
  intro l rows h1 h2
  exact codeH_ok (t:=0) (hs:=[]) (q:=[0+0≤0,(([]:List (List D))++fromBR l rows).length*8≤70368744177664,∀r∈fromBR l rows,r.length=1]) (by rfl) ⟨by simp,by simpa using h1,h2,trivial⟩
theorem X_ok (f:FuncId) (args:List SV) (objs:List (V.Id × VObj)) (rs:List Ret) (h:X f args objs rs):CallOK Tryz.prog f args objs [] [] rs:=by
  rcases h with⟨rfl,rfl,h⟩ |⟨rfl,_,h⟩
  · exact clone_ok (X:=fun _ _ _ _=>False) (T:=100) (E:=2) (k:=1) (kb:=8) (zero:=[(.i 0)]) ya F_ok (fun _ _ _ _ h=>h.elim) ya (ck156 _ _) h
  · exact del50_ok h
end Go.Proofs.YtmdocdnidilaiaaGreat.PutJob
