/- What the functions compute. -/
import Derived.Test.YtmdocdnidilaiaaGreatEPutJobF
import Derived.KernelRfl
namespace Go.Proofs.YtmdocdnidilaiaaGreat.PutJob
open Go Go.Proofs.YtmdocdnidilaiaaGreat.V
set_option linter.unusedVariables false
set_option linter.unusedSimpArgs false
set_option maxRecDepth 20000
open Go.IntKind (wrap)
open Int (toNat)
open List (length_replicate length_map length_set length_append length_cons length_nil length_take length_drop take_of_length_le map_take map_drop map_set append_assoc getElem?_map map length take drop getD set)
attribute [local simp] toBR_i fullR_i pureR_i lenB_i lenD_i fromBR_i copy_i toBR_N fullR_N pureR_N lenB_N lenD_N toBR_U fullR_U pureR_U lenB_U lenD_U toBR_T fullR_T pureR_T lenB_T lenD_T toBR_J fullR_J pureR_J lenB_J lenD_J toBR_JL fullR_JL pureR_JL lenB_JL lenD_JL toBR_b fullR_b pureR_b lenB_b lenD_b fromBR_b copy_b toBR_JR fullR_JR pureR_JR lenB_JR lenD_JR toBR_G fullR_G pureR_G lenB_G lenD_G toBR_TL fullR_TL pureR_TL lenB_TL lenD_TL toBR_LiE fullR_LiE pureR_LiE lenB_LiE lenD_LiE toBR_NL fullR_NL pureR_NL lenB_NL lenD_NL toBR_UL fullR_UL pureR_UL lenB_UL lenD_UL strInts_len byteRows_len toBR_y fullR_y pureR_y lenB_y lenD_y fromBR_y copy_y toBR_LyE fullR_LyE pureR_LyE lenB_LyE lenD_LyE toBR_LLyEE fullR_LLyEE pureR_LLyEE lenB_LLyEE lenD_LLyEE
/-! loop 43_1 -/
inductive O43_1 where
  |k0 (w0:Int) (w1:Bool)
  |k1
def r43_1 (a0:K_G):List K_T→Int→O43_1
  |x0::y0,i=>
    if(!((((length (map b_N x0.f1)):Int)==0)==(i==0)))=true then(O43_1.k1) else
    (r43_1 a0 y0 (i+1))
  |[],i=>(O43_1.k0 i (decide (i <((length (map b_T a0.f4)):Int))))
def h43_1 (l0_4:Nat) (a0:K_G) (i:Int) :St:=⟨[(1,(.ptr ⟨(1,0,0),[],0,0,5⟩)),(51,(.one (.bor l0_4 (map b_T a0.f4)))),(52,(.one (.val (.int .i64 ((length (map b_T a0.f4)):Int))))),(53,(.one (.val (.int .i64 i))))],[((1,0,0),.live ⟨5,[[(.val (.int .i64 a0.f0)),(.val (.int .i64 a0.f1)),(.val (.int .i64 a0.f2)),(.val (.int .i64 a0.f3)),(.bor l0_4 (map b_T a0.f4))]],[]⟩)]⟩
def ex43_1:O43_1→VX.Exit
  |.k0 _ _=>(.exit 3)
  |.k1=>.ret
def fin43_1 (l0_4:Nat) (a0:K_G):O43_1→St
  |.k0 w0 w1=>⟨[(1,(.ptr ⟨(1,0,0),[],0,0,5⟩)),(51,(.one (.bor l0_4 (map b_T a0.f4)))),(52,(.one (.val (.int .i64 ((length (map b_T a0.f4)):Int))))),(53,(.one (.val (.int .i64 w0)))),(54,(.one (.val (.bool w1))))],[((1,0,0),.live ⟨5,[[(.val (.int .i64 a0.f0)),(.val (.int .i64 a0.f1)),(.val (.int .i64 a0.f2)),(.val (.int .i64 a0.f3)),(.bor l0_4 (map b_T a0.f4))]],[]⟩)]⟩
  |.k1=>⟨[(2,(.one (.val (.int .i64 1))))],[]⟩
theorem t43_1 {l0_4:Nat} {a0:K_G} (hy0:length a0.f4*56≤140737488351232) (hy1:∀z∈a0.f4,ok_T z):∀(y0:List K_T) (p:List K_T),p++y0=a0.f4→Ev F X (.code l43_1 (h43_1 l0_4 a0 (length p:Int)) (ex43_1 (r43_1 a0 y0 (length p:Int))) (fin43_1 l0_4 a0 (r43_1 a0 y0 (length p:Int))))
  |[],p,hp0=>by
    have hc:=hcn b_T hp0
    exact lx 3 ya (.f (nt hc) (.h 2 (.b false) .nil)) rfl
  |x0::y0,p,hp0=>by
    have hc:=hcy b_T hp0
    have Hx0:=hxy hp0
    obtain⟨Mx0_0,Mx0_1,Mx0_2,Mx0_3⟩:=hy1 x0 (List.mem_of_getElem? Hx0)
    have hlen:=hly hp0
    have hw:wrap .i64 ((length p:Int)+1)=(length p:Int)+1:=wrap64 yb
    simp only[r43_1]
    have f1:0≤(length p:Int):=yb
    have P1 {hs q} (r:PS F X hs q):=(PS.f hc (.f f1 (.f (mp_ b_T Hx0) (.h 2 (.b true) (.h 6 (.row (b_T x0)) (.r 18 [] [] (e77 (l0_1:=(l0_4+1)) (l0_2:=(l0_4+1)) (a0:=x0)) r))))))
    by_cases h_1:(!((((length (map b_N x0.f1)):Int)==0)==((length p:Int)==0)))=true
    · try simp only[if_pos h_1]
      exact lx 28 ya (P1 (.f h_1 (.h 25 (.b true) .nil))) rfl
    · try simp only[if_neg h_1]
      have ih:=t43_1 (l0_4:=l0_4) (a0:=a0) hy0 hy1 y0 (p++ [x0]) ye
      rw[pl1,← hw] at ih; rw[← hw]
      exact ly 30 ya (P1 (.f (nt h_1) (.f trivial (.h 25 (.b false) .nil)))) ih
/-! loop.example/g00539/impl.BlockFault -/
def m43 (a0:K_G):Int:=
  if(!(m41 a0.f0 0 2147483646))=true then 3 else
  if(!(m41 a0.f1 1 99999))=true then 3 else
    if(!(m75 a0.f2))=true then 3 else
      if(!(m41 a0.f3 0 65535))=true then 3 else
        if(!(m41 ((length (map b_T a0.f4)):Int) 1 4))=true then 2 else
          (match r43_0 a0 a0.f4 0 with | .k0 w0_22 w1_22=>(match r43_1 a0 a0.f4 0 with | .k0 w0_23 w1_23=>(if(m78 (m79 a0))=true then 6 else 0) | .k1=>1) | .k1 w0_22=>w0_22)
theorem e43 {l0_4:Nat} {a0:K_G} (hy0:length a0.f4*56≤140737488351232) (hy1:∀z∈a0.f4,ok_T z):Ev F X (.call 43 [(.agg (k_G l0_4 a0))] [] [] [(.one (.val (.int .i64 (m43 a0))))]):=by
  unfold m43
  have P0 {hs q} (r:PS F X hs q):=(PS.r 9 [] [] (e74 (a0:=a0.f0)) r)
  by_cases h0:(!(m41 a0.f0 0 2147483646))=true
  · try simp only[if_pos h0]
    exact cp ya (P0 (.f h0 (.f h0 (.f h0 (.f h0 (.f h0 (.h 14 (.b true) (.h 16 (.b true) (.h 18 (.b true) (.h 20 (.b true) (.h 23 (.b true) .nil)))))))))))
  · try simp only[if_neg h0]
    have P1 {hs q} (r:PS F X hs q):=(P0 (.f (nt h0) (.f (nt h0) (.f (nt h0) (.h 14 (.b false) (.h 16 (.b false) (.h 18 (.b false) (.r 19 [] [] (e41 (a0:=a0.f1) (a1:=1) (a2:=99999)) (.f (nt h0) (.f (nt h0) (.h 20 (.b false) (.h 23 (.b false) r))))))))))))
    by_cases h1:(!(m41 a0.f1 1 99999))=true
    · try simp only[if_pos h1]
      exact cp ya (P1 (.f h1 (.f h1 (.f h1 (.f h1 (.f h1 (.h 26 (.b true) (.h 28 (.b true) (.h 30 (.b true) (.h 32 (.b true) (.h 35 (.b true) .nil)))))))))))
    · try simp only[if_neg h1]
      have P2 {hs q} (r:PS F X hs q):=(P1 (.f (nt h1) (.f (nt h1) (.f (nt h1) (.h 26 (.b false) (.h 28 (.b false) (.h 30 (.b false) (.r 31 [] [] (e75 (a0:=a0.f2)) (.f (nt h1) (.f (nt h1) (.h 32 (.b false) (.h 35 (.b false) r))))))))))))
      by_cases h2:(!(m75 a0.f2))=true
      · try simp only[if_pos h2]
        exact cp ya (P2 (.f h2 (.f h2 (.f h2 (.f h2 (.f h2 (.h 38 (.b true) (.h 40 (.b true) (.h 42 (.b true) (.h 44 (.b true) (.h 47 (.b true) .nil)))))))))))
      · try simp only[if_neg h2]
        have P3 {hs q} (r:PS F X hs q):=(P2 (.f (nt h2) (.f (nt h2) (.f (nt h2) (.h 38 (.b false) (.h 40 (.b false) (.h 42 (.b false) (.r 43 [] [] (e41 (a0:=a0.f3) (a1:=0) (a2:=65535)) (.f (nt h2) (.f (nt h2) (.h 44 (.b false) (.h 47 (.b false) r))))))))))))
        by_cases h3:(!(m41 a0.f3 0 65535))=true
        · try simp only[if_pos h3]
          exact cp ya (P3 (.f h3 (.h 50 (.b true) .nil)))
        · try simp only[if_neg h3]
          have P4 {hs q} (r:PS F X hs q):=(P3 (.f (nt h3) (.h 50 (.b false) (.r 58 [] [] (e41 (a0:=((length (map b_T a0.f4)):Int)) (a1:=1) (a2:=4)) r))))
          by_cases h4:(!(m41 ((length (map b_T a0.f4)):Int) 1 4))=true
          · try simp only[if_pos h4]
            exact cp ya (P4 (.f h4 (.h 63 (.b true) .nil)))
          · try simp only[if_neg h4]
            have P5 {hs q} (r:PS F X hs q):=(P4 (.f (nt h4) (.h 63 (.b false) r)))
            cases h5:r43_0 a0 a0.f4 0 with
            |k0 w0_22 w1_22=>
              try dsimp only
              have f22:=Eq.refl (h43_0 l0_4 a0 0 )
              have P6 {hs q} (r:PS F X hs q):=(P5 (.f f22 (.f (ev_ (e:=ex43_0) (g:=(fin43_0 l0_4 a0)) h5 (t43_0 (l0_4:=l0_4) (a0:=a0) (by assumption) (by assumption) a0.f4 []  rfl)) (.h 72 (.loop (h43_0 l0_4 a0 0) (.exit 1) ⟨[(1,(.ptr ⟨(1,0,0),[],0,0,5⟩)),(38,(.one (.bor l0_4 (map b_T a0.f4)))),(39,(.oi ((length (map b_T a0.f4)):Int))),(40,(.oi w0_22)),(41,(.one (.val (.bool w1_22))))],[((1,0,0),.live ⟨5,[[(.i a0.f0),(.i a0.f1),(.i a0.f2),(.i a0.f3),(.bor l0_4 (map b_T a0.f4))]],[]⟩)]⟩) r))))
              cases h6:r43_1 a0 a0.f4 0 with
              |k0 w0_23 w1_23=>
                try dsimp only
                have f24:=Eq.refl (h43_1 l0_4 a0 0 )
                have f28:Ev F X (.call 78 [(.one (.ref ⟨(0,0,0),[],0,(length (map d_i (m79 a0)))⟩))] [((0,0,0),⟨1,(map d_i (m79 a0)),[]⟩)] [] [(.one (.val (.bool (m78 (m79 a0)))))]):=(e78 (a0:=(m79 a0)) (by rw[ln79]; have q:=(in443 ‹_›).2; omega))
                have P7 {hs q} (r:PS F X hs q):=(P6 (.f f24 (.f (ev_ (e:=ex43_1) (g:=(fin43_1 l0_4 a0)) h6 (t43_1 (l0_4:=l0_4) (a0:=a0) (by assumption) (by assumption) a0.f4 []  rfl)) (.h 81 (.loop (h43_1 l0_4 a0 0) (.exit 3) ⟨[(1,(.ptr ⟨(1,0,0),[],0,0,5⟩)),(51,(.one (.bor l0_4 (map b_T a0.f4)))),(52,(.oi ((length (map b_T a0.f4)):Int))),(53,(.oi w0_23)),(54,(.one (.val (.bool w1_23))))],[((1,0,0),.live ⟨5,[[(.i a0.f0),(.i a0.f1),(.i a0.f2),(.i a0.f3),(.bor l0_4 (map b_T a0.f4))]],[]⟩)]⟩) (.r 85 [] [] (e79 (l0_4:=(l0_4+1)) (a0:=a0) ‹_› ‹_› (by exact(in443 ‹_›).2) (by exact fun z hz=>ft76 (lb43 ‹_› z hz))) (.f (pureR_i (m79 a0)) (.r 87 [true] [] f28 r)))))))
                by_cases h7:(m78 (m79 a0))=true
                · try simp only[if_pos h7]
                  exact cp ya (P7 (.f h7 (.h 88 (.b true) .nil)))
                · try simp only[if_neg h7]
                  exact cp ya (P7 (.f (nt h7) (.h 88 (.b false) .nil)))
              |k1=>
                try dsimp only
                have f24:=Eq.refl (h43_1 l0_4 a0 0 )
                exact cp ya (P6 (.f f24 (.f (ev_ (e:=ex43_1) (g:=(fin43_1 l0_4 a0)) h6 (t43_1 (l0_4:=l0_4) (a0:=a0) (by assumption) (by assumption) a0.f4 []  rfl)) (.h 81 (.loop (h43_1 l0_4 a0 0) .ret ⟨[(2,(.oi 1))],[]⟩) .nil))))
            |k1 w0_22=>
              try dsimp only
              have f22:=Eq.refl (h43_0 l0_4 a0 0 )
              exact cp ya (P5 (.f f22 (.f (ev_ (e:=ex43_0) (g:=(fin43_0 l0_4 a0)) h5 (t43_0 (l0_4:=l0_4) (a0:=a0) (by assumption) (by assumption) a0.f4 []  rfl)) (.h 72 (.loop (h43_0 l0_4 a0 0) .ret ⟨[(2,(.oi w0_22))],[]⟩) .nil))))
theorem bs43 {a:K_G} (h:m43 a=0):1≤length a.f4∧length a.f4≤4∧∀z∈a.f4,SmT z:=by
  unfold m43 at h
  iterate 5 (split at h; exact absurd h yM)
  rename_i c2
  cases hr:r43_0 a a.f4 0 with
  |k1 w=>rw[hr] at h; simp only[] at h; subst h; exact absurd hr (ne43 _ _)
  |k0 j b=>exact⟨(in443 c2).1,(in443 c2).2,fun z hz=>ft76 (lb43 hr z hz)⟩
theorem e72 {a0:Int}:Ev F X (.call 72 [(.one (.val (.int .i64 a0)))] [] [] [(.one (.val (.bool (m41 a0 0 9999))))]):=by
  exact cp ya (.r 5 [] [] (e41 (a0:=a0) (a1:=0) (a2:=9999)) .nil)
/-! loop 40_0 -/
inductive O40_0 where
  |k0 (w0:Int) (w1:Bool)
  |k1
  |k2 (w0:Int)
  |k3
def r40_0 (a0:(List K_J)):List K_J→Int→O40_0
  |x0::y0,i=>
    if(!(m41 x0.f0 0 9999))=true then(O40_0.k1) else
    if((m43 (K_G.mk x0.f1 x0.f2 x0.f3 x0.f4 x0.f5)) !=0)=true then(O40_0.k2 (m43 (K_G.mk x0.f1 x0.f2 x0.f3 x0.f4 x0.f5))) else
      if(((length (map b_U ((getD x0.f5 0 (K_T.mk 0 [] [])).f2))):Int) !=2)=true then(O40_0.k3) else
        if (decide (i > 0)) = true then (if (decide (((getD a0 (toNat (wrap .i64 (i - 1))) (K_J.mk 0 0 0 0 0 [])).f0) ≥ x0.f0)) = true then (O40_0.k3) else
            (r40_0 a0 y0 (i+1))) else
          (r40_0 a0 y0 (i+1))
  |[],i=>(O40_0.k0 i (decide (i <((length (map b_J a0)):Int))))
def h40_0 (l0_0:Nat) (a0:(List K_J)) (i:Int) :St:=⟨[(0,(.one (.bor l0_0 (map b_J a0)))),(9,(.one (.bor l0_0 (map b_J a0)))),(10,(.one (.val (.int .i64 ((length (map b_J a0)):Int))))),(11,(.one (.val (.int .i64 i))))],[]⟩
def ex40_0:O40_0→VX.Exit
  |.k0 _ _=>(.exit 0)
  |.k1=>.ret
  |.k2 _=>.ret
  |.k3=>.ret
def fin40_0 (l0_0:Nat) (a0:(List K_J)):O40_0→St
  |.k0 w0 w1=>⟨[(0,(.one (.bor l0_0 (map b_J a0)))),(9,(.one (.bor l0_0 (map b_J a0)))),(10,(.one (.val (.int .i64 ((length (map b_J a0)):Int))))),(11,(.one (.val (.int .i64 w0)))),(12,(.one (.val (.bool w1))))],[]⟩
  |.k1=>⟨[(2,(.one (.val (.int .i64 3))))],[]⟩
  |.k2 w0=>⟨[(2,(.one (.val (.int .i64 w0))))],[]⟩
  |.k3=>⟨[(2,(.one (.val (.int .i64 1))))],[]⟩
theorem t40_0 {l0_0:Nat} {a0:(List K_J)} (hy0:length a0*64≤140737488351232) (hy1:∀z∈a0,ok_J z):∀(y0:List K_J) (p:List K_J),p++y0=a0→Ev F X (.code l40_0 (h40_0 l0_0 a0 (length p:Int)) (ex40_0 (r40_0 a0 y0 (length p:Int))) (fin40_0 l0_0 a0 (r40_0 a0 y0 (length p:Int))))
  |[],p,hp0=>by
    have hc:=hcn b_J hp0
    exact lx 3 ya (.f (nt hc) (.h 2 (.b false) .nil)) rfl
  |x0::y0,p,hp0=>by
    have hc:=hcy b_J hp0
    have Hx0:=hxy hp0
    obtain⟨Mx0_0,Mx0_1⟩:=hy1 x0 (List.mem_of_getElem? Hx0)
    have hlen:=hly hp0
    have hw:wrap .i64 ((length p:Int)+1)=(length p:Int)+1:=wrap64 yb
    simp only[r40_0]
    have f1:0≤(length p:Int):=yb
    have P1 {hs q} (r:PS F X hs q):=(PS.f hc (.f f1 (.f (mp_ b_J Hx0) (.h 2 (.b true) (.h 6 (.row (b_J x0)) (.r 20 [] [] (e72 (a0:=x0.f0)) r))))))
    by_cases h_1:(!(m41 x0.f0 0 9999))=true
    · try simp only[if_pos h_1]
      exact lx 26 ya (P1 (.f h_1 (.h 23 (.b true) .nil))) rfl
    · try simp only[if_neg h_1]
      have P2 {hs q} (r:PS F X hs q):=(P1 (.f (nt h_1) (.h 23 (.b false) (.r 29 [] [] (e43 (l0_4:=(l0_0+1)) (a0:=(K_G.mk x0.f1 x0.f2 x0.f3 x0.f4 x0.f5)) ‹_› ‹_›) r))))
      by_cases h_2:((m43 (K_G.mk x0.f1 x0.f2 x0.f3 x0.f4 x0.f5)) !=0)=true
      · try simp only[if_pos h_2]
        exact lx 41 ya (P2 (.f h_2 (.h 36 (.b true) .nil))) rfl
      · try simp only[if_neg h_2]
        have f7:0≤(0:Int):=yb
        have P3 {hs q} (r:PS F X hs q):=(P2 (.f (nt h_2) (.f f7 (.f (mp_ b_T (getD_at x0.f5 0 (K_T.mk 0 [] []) (by have q:=(bs43 (a:=K_G.mk x0.f1 x0.f2 x0.f3 x0.f4 x0.f5) (by simpa using h_2)).1; exact q))) (.h 36 (.b false) (.h 44 (.row (b_T (getD x0.f5 0 (K_T.mk 0 [] [])))) r))))))
        by_cases h_3:(((length (map b_U ((getD x0.f5 0 (K_T.mk 0 [] [])).f2))):Int) !=2)=true
        · try simp only[if_pos h_3]
          exact lx 86 ya (P3 (.f h_3 (.f h_3 (.f h_3 (.f h_3 (.f h_3 (.h 55 (.b true) (.h 57 (.b true) (.h 59 (.b true) (.h 79 (.b true) (.h 82 (.b true) .nil))))))))))) rfl
        · try simp only[if_neg h_3]
          have P4 {hs q} (r:PS F X hs q):=(P3 (.f (nt h_3) (.f (nt h_3) (.f (nt h_3) (.h 55 (.b false) (.h 57 (.b false) (.h 59 (.b false) r)))))))
          by_cases h_4:(decide ((length p:Int) > 0))=true
          · try simp only[if_pos h_4]
            have f16:0≤(wrap .i64 ((length p:Int) - 1)):=yO
            have P5 {hs q} (r:PS F X hs q):=(P4 (.f h_4 (.f h_4 (.f h_4 (.f h_4 (.f f16 (.f (mp_ b_J (getD_at a0 (toNat (wrap .i64 ((length p:Int) - 1))) (K_J.mk 0 0 0 0 0 []) yO)) (.f h_4 (.f h_4 (.f h_4 (.f h_4 (.f h_4 (.f (nt h_3) (.f h_4 (.f (nt h_3) (.h 61 (.b true) (.h 63 (.b true) (.h 65 (.b true) (.h 67 (.b true) (.h 68 (.row (b_J (getD a0 (toNat (wrap .i64 ((length p:Int) - 1))) (K_J.mk 0 0 0 0 0 [])))) (.h 69 (.b true) (.h 71 (.b true) (.h 73 (.b true) (.h 75 (.b true) (.h 77 (.b true) (.h 79 (.b false) (.h 80 (.b true) (.h 82 (.b false) r))))))))))))))))))))))))))))
            by_cases h_5:(decide (((getD a0 (toNat (wrap .i64 ((length p:Int) - 1))) (K_J.mk 0 0 0 0 0 [])).f0)≥x0.f0))=true
            · try simp only[if_pos h_5]
              exact lx 86 ya (P5 (.f h_5 (.h 83 (.b true) .nil))) rfl
            · try simp only[if_neg h_5]
              have ih:=t40_0 (l0_0:=l0_0) (a0:=a0) hy0 hy1 y0 (p++ [x0]) ye
              rw[pl1,← hw] at ih; rw[← hw]
              exact ly 88 ya (P5 (.f (nt h_5) (.f trivial (.h 83 (.b false) .nil)))) ih
          · try simp only[if_neg h_4]
            have ih:=t40_0 (l0_0:=l0_0) (a0:=a0) hy0 hy1 y0 (p++ [x0]) ye
            rw[pl1,← hw] at ih; rw[← hw]
            exact ly 88 ya (P4 (.f (nt h_4) (.f (nt h_4) (.f (nt h_4) (.f (nt h_4) (.f (nt h_4) (.f (nt h_4) (.f (nt h_4) (.f (nt h_4) (.f (nt h_4) (.f (nt h_3) (.f (nt h_4) (.f (nt h_3) (.f trivial (.h 61 (.b false) (.h 63 (.b false) (.h 65 (.b false) (.h 67 (.b false) (.h 69 (.b false) (.h 71 (.b false) (.h 73 (.b false) (.h 75 (.b false) (.h 77 (.b false) (.h 79 (.b false) (.h 80 (.b false) (.h 82 (.b false) .nil)))))))))))))))))))))))))) ih
theorem jl40 {a:List K_J}:∀ {l:List K_J} {i:Int} {j b},r40_0 a l i=.k0 j b→∀x∈l,SmJ x
  |[],i,j,b,h,x,hx=>by cases hx
  |y::l,i,j,b,h,x,hx=>by
    simp only[r40_0] at h
    split at h
    · cases h
    · split at h
      · cases h
      · split at h
        · cases h
        · rename_i c1 c2
          have q:=bs43 (a:=(K_G.mk y.f1 y.f2 y.f3 y.f4 y.f5)) (by simpa using c1)
          simp only[length_map,bne_iff_ne,ne_eq,Decidable.not_not] at c2
          have y0:SmJ y:=⟨q.1,q.2.1,q.2.2,by omega⟩
          have ih:∀j b,r40_0 a l (i+1)=.k0 j b→SmJ x:=fun j b e=>by
            rcases List.mem_cons.1 hx with rfl | hx
            · exact y0
            · exact jl40 e x hx
          (repeat' split at h)<;>first | exact ih _ _ h | cases h
theorem nj40 {a:List K_J}:∀(l:List K_J) (i:Int),r40_0 a l i≠.k2 0
  |[],i=>by simp only[r40_0]; intro h; cases h
  |y::l,i=>by
    simp only[r40_0]
    (repeat' split)<;>first | exact nj40 l _ |(intro q; cases q; done) |(rename_i h; intro q; injection q with q; rw[q] at h; exact absurd h yM) |(intro q; injection q with q; simp_all)
/-! loop.example/g00539/impl.JobsFault -/
def m40 (a0:(List K_J)):Int:=
  if(decide (((length (map b_J a0)):Int) > 4))=true then 2 else
  (match r40_0 a0 a0 0 with | .k0 w0_1 w1_1=>0 | .k1=>3 | .k2 w0_1=>w0_1 | .k3=>1)
theorem e40 {l0_0:Nat} {a0:(List K_J)} (hy0:length a0*64≤140737488351232) (hy1:∀z∈a0,ok_J z):Ev F X (.call 40 [(.one (.bor l0_0 (map b_J a0)))] [] [] [(.one (.val (.int .i64 (m40 a0))))]):=by
  unfold m40
  by_cases h0:(decide (((length (map b_J a0)):Int) > 4))=true
  · try simp only[if_pos h0]
    exact cp ya (.f h0 (.h 8 (.b true) .nil))
  · try simp only[if_neg h0]
    have P1 {hs q} (r:PS F X hs q):=(PS.f (nt h0) (.h 8 (.b false) r))
    cases h1:r40_0 a0 a0 0 with
    |k0 w0_1 w1_1=>
      try dsimp only
      have f1:=Eq.refl (h40_0 l0_0 a0 0 )
      exact cp ya (P1 (.f f1 (.f (ev_ (e:=ex40_0) (g:=(fin40_0 l0_0 a0)) h1 (t40_0 (l0_0:=l0_0) (a0:=a0) (by assumption) (by assumption) a0 []  rfl)) (.h 15 (.loop (h40_0 l0_0 a0 0) (.exit 0) ⟨[(0,(.one (.bor l0_0 (map b_J a0)))),(9,(.one (.bor l0_0 (map b_J a0)))),(10,(.oi ((length (map b_J a0)):Int))),(11,(.oi w0_1)),(12,(.one (.val (.bool w1_1))))],[]⟩) .nil))))
    |k1=>
      try dsimp only
      have f1:=Eq.refl (h40_0 l0_0 a0 0 )
      exact cp ya (P1 (.f f1 (.f (ev_ (e:=ex40_0) (g:=(fin40_0 l0_0 a0)) h1 (t40_0 (l0_0:=l0_0) (a0:=a0) (by assumption) (by assumption) a0 []  rfl)) (.h 15 (.loop (h40_0 l0_0 a0 0) .ret ⟨[(2,(.oi 3))],[]⟩) .nil))))
    |k2 w0_1=>
      try dsimp only
      have f1:=Eq.refl (h40_0 l0_0 a0 0 )
      exact cp ya (P1 (.f f1 (.f (ev_ (e:=ex40_0) (g:=(fin40_0 l0_0 a0)) h1 (t40_0 (l0_0:=l0_0) (a0:=a0) (by assumption) (by assumption) a0 []  rfl)) (.h 15 (.loop (h40_0 l0_0 a0 0) .ret ⟨[(2,(.oi w0_1))],[]⟩) .nil))))
    |k3=>
      try dsimp only
      have f1:=Eq.refl (h40_0 l0_0 a0 0 )
      exact cp ya (P1 (.f f1 (.f (ev_ (e:=ex40_0) (g:=(fin40_0 l0_0 a0)) h1 (t40_0 (l0_0:=l0_0) (a0:=a0) (by assumption) (by assumption) a0 []  rfl)) (.h 15 (.loop (h40_0 l0_0 a0 0) .ret ⟨[(2,(.oi 1))],[]⟩) .nil))))
theorem js40 {a:List K_J} (h:m40 a=0):length a≤4∧∀z∈a,SmJ z:=by
  unfold m40 at h
  split at h
  · exact absurd h yM
  · rename_i c
    simp only[decide_eq_true_eq,length_map] at c
    cases hr:r40_0 a a 0 with
    |k0 j b=>exact⟨by omega,jl40 hr⟩
    |k2 w=>rw[hr] at h; simp only[] at h; subst h; exact absurd hr (nj40 _ _)
    |_=>rw[hr] at h; exact absurd h yM
/-! slices.Clone[[]int64,int64] -/
theorem e156 {a0:List Int} {l0:Nat} (hy0:length a0*8≤70368744177664):Ev F X (.call 156 [(.one (.bor l0 (map b_i a0)))] [] [] [(.one (.own 1 (map d_i a0)))]):=by
  refine .ext (.inl ⟨rfl,rfl,?_⟩) rfl
  have e:fromBR l0 (map b_i a0)=map d_i a0:=by first | exact fromBR_i .. | simp[fromBR_i]
  refine⟨l0,_,rfl,by rw[e],by rw[e]; simpa using hy0,by rw[e]; exact lenD_i _,by rw[e]; first | exact pureR_i _ | simp[pureR_i]⟩
/-! loop 132_0 -/
inductive O132_0 where
  |k0 (w0:List K_N) (w1:Int) (w2:Bool)
def r132_0 (a0:K_T):List K_N→Int→List K_N→O132_0
  |x0::y0,i,v0=>
    (r132_0 a0 y0 (i+1) (v0++([x0])))
  |[],i,v0=>(O132_0.k0 v0 i (decide (i <((length (map b_N a0.f1)):Int))))
def h132_0 (l0_1:Nat) (l0_2:Nat) (a0:K_T) (i:Int) (v0:List K_N):St:=⟨[(1,(.ptr ⟨(1,0,0),[],0,0,3⟩)),(2,(.ptr ⟨(2,0,0),[],0,0,3⟩)),(3,(.ptr ⟨(3,0,0),[],0,0,3⟩)),(12,(.one (.bor l0_1 (map b_N a0.f1)))),(13,(.one (.val (.int .i64 ((length (map b_N a0.f1)):Int))))),(14,(.one (.val (.int .i64 i))))],[((1,0,0),.live ⟨3,[[(.val (.int .i64 a0.f0)),(.bor l0_1 (map b_N a0.f1)),(.bor l0_2 (map b_U a0.f2))]],[]⟩),((2,0,0),.live ⟨3,[[(.val (.int .i64 0)),(.own 3 []),(.own 2 [])]],[]⟩),((3,0,0),.live ⟨3,[[(.val (.int .i64 a0.f0)),(.own 3 (map d_N v0)),(.own 2 [])]],[]⟩)]⟩
def ex132_0:O132_0→VX.Exit
  |.k0 _ _ _=>(.exit 0)
def fin132_0 (l0_1:Nat) (l0_2:Nat) (a0:K_T):O132_0→St
  |.k0 w0 w1 w2=>⟨[(1,(.ptr ⟨(1,0,0),[],0,0,3⟩)),(2,(.ptr ⟨(2,0,0),[],0,0,3⟩)),(3,(.ptr ⟨(3,0,0),[],0,0,3⟩)),(12,(.one (.bor l0_1 (map b_N a0.f1)))),(13,(.one (.val (.int .i64 ((length (map b_N a0.f1)):Int))))),(14,(.one (.val (.int .i64 w1)))),(15,(.one (.val (.bool w2))))],[((1,0,0),.live ⟨3,[[(.val (.int .i64 a0.f0)),(.bor l0_1 (map b_N a0.f1)),(.bor l0_2 (map b_U a0.f2))]],[]⟩),((2,0,0),.live ⟨3,[[(.val (.int .i64 0)),(.own 3 []),(.own 2 [])]],[]⟩),((3,0,0),.live ⟨3,[[(.val (.int .i64 a0.f0)),(.own 3 (map d_N w0)),(.own 2 [])]],[]⟩)]⟩
theorem t132_0 {l0_1:Nat} {l0_2:Nat} {a0:K_T} (hy0:length a0.f1*40≤140737488351232) (hy1:∀z∈a0.f1,ok_N z) (hy2:length a0.f2*32≤140737488351232) (hy3:∀z∈a0.f2,ok_U z) (hy4:SmT a0):∀(y0:List K_N) (p:List K_N) (v0:List K_N),p++y0=a0.f1→(length v0+length y0)*40≤70368744177664→Ev F X (.code l132_0 (h132_0 l0_1 l0_2 a0 (length p:Int) v0) (ex132_0 (r132_0 a0 y0 (length p:Int) v0)) (fin132_0 l0_1 l0_2 a0 (r132_0 a0 y0 (length p:Int) v0)))
  |[],p,v0,hp0,hi0=>by
    have hc:=hcn b_N hp0
    have hj0:=hi0; try simp only[LN,Int.toNat_natCast] at hj0
    exact lx 3 ya (.f (nt hc) (.h 2 (.b false) .nil)) rfl
  |x0::y0,p,v0,hp0,hi0=>by
    have hc:=hcy b_N hp0
    have Hx0:=hxy hp0
    have Mx0_0:=hy1 x0 (List.mem_of_getElem? Hx0)
    have hlen:=hly hp0
    have hw:wrap .i64 ((length p:Int)+1)=(length p:Int)+1:=wrap64 yb
    have hj0:=hi0; try simp only[LN,Int.toNat_natCast] at hj0
    simp only[r132_0]
    have f1:0≤(length p:Int):=yb
    have f3:Ev F X (.call 156 [(.one (.bor (l0_1+1) (map b_i x0.f2)))] [] [] [(.one (.own 1 (map d_i x0.f2)))]):=(e156 (a0:=x0.f2) (by have q:=hy4.2.1 x0 (List.mem_of_getElem? Hx0); omega))
    have f8:0+(length (map d_N v0))≤(length (map d_N v0)):=yb
    have f9:1≤1:=yb
    have f10:((take 1 (drop 0 [[(.i x0.f0),(.i x0.f1),(.own 1 (map d_i x0.f2))]])).all fun x=>x.all copyable)=false:=yL
    have f13:(length ((take (length (map d_N v0)) (drop 0 (map d_N v0)))++([[(.i x0.f0),(.i x0.f1),(.own 1 (map d_i x0.f2))]]:List (List D))))*40≤70368744177664:=yr
    have f14:∀r∈([[(.i x0.f0),(.i x0.f1),(.own 1 (map d_i x0.f2))]]:List (List D)),r.length=3:=yJ
    have f17:([[(.i a0.f0),(.own 3 ((take (length (map d_N v0)) (drop 0 (map d_N v0)))++([[(.i x0.f0),(.i x0.f1),(.own 1 (map d_i x0.f2))]]:List (List D)))),(.own 2 [])]]:List (List D))=[[(.i a0.f0),(.own 3 (map d_N (v0++([x0])))),(.own 2 [])]]:=(by simp[take_of_length_le,d_i,d_N,ol112,ol83,ol84,ol51,ol45_0,ol12_0,four_len,high4,high2]; done)
    have ih:=t132_0 (l0_1:=l0_1) (l0_2:=l0_2) (a0:=a0) hy0 hy1 hy2 hy3 hy4 y0 (p++ [x0]) (v0++([x0])) ye yq
    rw[pl1,← hw] at ih; rw[← hw]
    exact ly 40 ya (.f hc (.f f1 (.f (mp_ b_N Hx0) (.h 2 (.b true) (.h 4 (.row [(.i x0.f0),(.i x0.f1),(.sl (map b_i x0.f2))]) (.r 16 [] [] f3 (pe 0 (pe (length (map d_i x0.f2)) (pe 0 (pe (length (map d_i x0.f2)) (.f f8 (.f f9 (.f f10 (pe 0 (pe 1 (.f f13 (.f f14 (pe 0 (pe (length ((take (length (map d_N v0)) (drop 0 (map d_N v0)))++([[(.i x0.f0),(.i x0.f1),(.own 1 (map d_i x0.f2))]]:List (List D)))) (.f f17 (.f trivial (.h 30 (.b false) (.h 35 (.norm (3,0,0) [[(.i a0.f0),(.own 3 (map d_N (v0++([x0])))),(.own 2 [])]]) .nil))))))))))))))))))))))) ih
def post132_0 (n0:Nat):O132_0→Prop
  |.k0 w0 _ _=>length w0=n0
theorem z132_0 {a0:K_T}:∀(y0:List K_N) (i:Int) (v0:List K_N),post132_0 (length v0+length y0) (r132_0 a0 y0 i v0)
  |[],i,v0=>by
    first | trivial |(simp only[post132_0,length_nil,Nat.add_zero]; done) |(simp[post132_0]; done)
  |x0::y0,i,v0=>by
    simp only[r132_0]
    have z:=z132_0 (a0:=a0) y0 (i+1) (v0++([x0]))
    rw[show (length v0+length (x0::y0))=(length (v0++([x0]))+length y0) from by first | omega |(simp only[LN]; done) |(simp only[LN]; omega)]
    exact z
theorem cp132_0 (a:K_T):∀(l:List K_N) (i:Int) (v:List K_N),∃j b,r132_0 a l i v=.k0 (v++l) j b
  |[],i,v=>⟨_,_,by simp only[r132_0,List.append_nil]; rfl⟩
  |x::l,i,v=>by
    obtain⟨j,b,h⟩:=cp132_0 a l (i+1) (v++ [x])
    exact⟨j,b,by simp only[r132_0]; rw[h,append_assoc]; rfl⟩
/-! loop 132_1 -/
inductive O132_1 where
  |k0 (w0:List K_U) (w1:Int) (w2:Bool)
def r132_1 (a0:K_T):List K_U→Int→List K_U→O132_1
  |x0::y0,i,v0=>
    (r132_1 a0 y0 (i+1) (v0++([x0])))
  |[],i,v0=>(O132_1.k0 v0 i (decide (i <((length (map b_U a0.f2)):Int))))
def h132_1 (l0_1:Nat) (l0_2:Nat) (a0:K_T) (c0_132_1:List K_N) (i:Int) (v0:List K_U):St:=⟨[(1,(.ptr ⟨(1,0,0),[],0,0,3⟩)),(2,(.ptr ⟨(2,0,0),[],0,0,3⟩)),(3,(.ptr ⟨(3,0,0),[],0,0,3⟩)),(30,(.one (.bor l0_2 (map b_U a0.f2)))),(31,(.one (.val (.int .i64 ((length (map b_U a0.f2)):Int))))),(32,(.one (.val (.int .i64 i))))],[((1,0,0),.live ⟨3,[[(.val (.int .i64 a0.f0)),(.bor l0_1 (map b_N a0.f1)),(.bor l0_2 (map b_U a0.f2))]],[]⟩),((2,0,0),.live ⟨3,[[(.val (.int .i64 0)),(.own 3 []),(.own 2 [])]],[]⟩),((3,0,0),.live ⟨3,[[(.val (.int .i64 a0.f0)),(.own 3 (map d_N c0_132_1)),(.own 2 (map d_U v0))]],[]⟩)]⟩
def ex132_1:O132_1→VX.Exit
  |.k0 _ _ _=>(.exit 2)
def fin132_1 (l0_1:Nat) (l0_2:Nat) (a0:K_T) (c0_132_1:List K_N):O132_1→St
  |.k0 w0 w1 w2=>⟨[(1,(.ptr ⟨(1,0,0),[],0,0,3⟩)),(2,(.ptr ⟨(2,0,0),[],0,0,3⟩)),(3,(.ptr ⟨(3,0,0),[],0,0,3⟩)),(30,(.one (.bor l0_2 (map b_U a0.f2)))),(31,(.one (.val (.int .i64 ((length (map b_U a0.f2)):Int))))),(32,(.one (.val (.int .i64 w1)))),(33,(.one (.val (.bool w2))))],[((1,0,0),.live ⟨3,[[(.val (.int .i64 a0.f0)),(.bor l0_1 (map b_N a0.f1)),(.bor l0_2 (map b_U a0.f2))]],[]⟩),((2,0,0),.live ⟨3,[[(.val (.int .i64 0)),(.own 3 []),(.own 2 [])]],[]⟩),((3,0,0),.live ⟨3,[[(.val (.int .i64 a0.f0)),(.own 3 (map d_N c0_132_1)),(.own 2 (map d_U w0))]],[]⟩)]⟩
theorem t132_1 {l0_1:Nat} {l0_2:Nat} {a0:K_T} {c0_132_1:List K_N} (hy0:length a0.f1*40≤140737488351232) (hy1:∀z∈a0.f1,ok_N z) (hy2:length a0.f2*32≤140737488351232) (hy3:∀z∈a0.f2,ok_U z) (hy4:SmT a0) (hy5:length c0_132_1≤140737488351232):∀(y0:List K_U) (p:List K_U) (v0:List K_U),p++y0=a0.f2→(length v0+length y0)*32≤70368744177664→Ev F X (.code l132_1 (h132_1 l0_1 l0_2 a0 c0_132_1 (length p:Int) v0) (ex132_1 (r132_1 a0 y0 (length p:Int) v0)) (fin132_1 l0_1 l0_2 a0 c0_132_1 (r132_1 a0 y0 (length p:Int) v0)))
  |[],p,v0,hp0,hi0=>by
    have hc:=hcn b_U hp0
    have hj0:=hi0; try simp only[LN,Int.toNat_natCast] at hj0
    exact lx 3 ya (.f (nt hc) (.h 2 (.b false) .nil)) rfl
  |x0::y0,p,v0,hp0,hi0=>by
    have hc:=hcy b_U hp0
    have Hx0:=hxy hp0
    have Mx0_0:=hy3 x0 (List.mem_of_getElem? Hx0)
    have hlen:=hly hp0
    have hw:wrap .i64 ((length p:Int)+1)=(length p:Int)+1:=wrap64 yb
    have hj0:=hi0; try simp only[LN,Int.toNat_natCast] at hj0
    simp only[r132_1]
    have f1:0≤(length p:Int):=yb
    have f3:Ev F X (.call 156 [(.one (.bor (l0_2+1) (map b_i x0.f1)))] [] [] [(.one (.own 1 (map d_i x0.f1)))]):=(e156 (a0:=x0.f1) (by have q:=hy4.2.2.2 x0 (List.mem_of_getElem? Hx0); omega))
    have f8:0+(length (map d_U v0))≤(length (map d_U v0)):=yb
    have f9:1≤1:=yb
    have f10:((take 1 (drop 0 [[(.i x0.f0),(.own 1 (map d_i x0.f1))]])).all fun x=>x.all copyable)=false:=yL
    have f13:(length ((take (length (map d_U v0)) (drop 0 (map d_U v0)))++([[(.i x0.f0),(.own 1 (map d_i x0.f1))]]:List (List D))))*32≤70368744177664:=yr
    have f14:∀r∈([[(.i x0.f0),(.own 1 (map d_i x0.f1))]]:List (List D)),r.length=2:=yJ
    have f17:([[(.i a0.f0),(.own 3 (map d_N c0_132_1)),(.own 2 ((take (length (map d_U v0)) (drop 0 (map d_U v0)))++([[(.i x0.f0),(.own 1 (map d_i x0.f1))]]:List (List D))))]]:List (List D))=[[(.i a0.f0),(.own 3 (map d_N c0_132_1)),(.own 2 (map d_U (v0++([x0]))))]]:=(by simp[take_of_length_le,d_i,d_N,d_U,ol112,ol83,ol84,ol51,ol45_0,ol12_0,four_len,high4,high2]; done)
    have ih:=t132_1 (l0_1:=l0_1) (l0_2:=l0_2) (a0:=a0) (c0_132_1:=c0_132_1) hy0 hy1 hy2 hy3 hy4 hy5 y0 (p++ [x0]) (v0++([x0])) ye yq
    rw[pl1,← hw] at ih; rw[← hw]
    exact ly 40 ya (.f hc (.f f1 (.f (mp_ b_U Hx0) (.h 2 (.b true) (.h 4 (.row [(.i x0.f0),(.sl (map b_i x0.f1))]) (.r 16 [] [] f3 (pe 0 (pe (length (map d_i x0.f1)) (pe 0 (pe (length (map d_i x0.f1)) (.f f8 (.f f9 (.f f10 (pe 0 (pe 1 (.f f13 (.f f14 (pe 0 (pe (length ((take (length (map d_U v0)) (drop 0 (map d_U v0)))++([[(.i x0.f0),(.own 1 (map d_i x0.f1))]]:List (List D)))) (.f f17 (.f trivial (.h 30 (.b false) (.h 35 (.norm (3,0,0) [[(.i a0.f0),(.own 3 (map d_N c0_132_1)),(.own 2 (map d_U (v0++([x0]))))]]) .nil))))))))))))))))))))))) ih
def post132_1 (n0:Nat):O132_1→Prop
  |.k0 w0 _ _=>length w0=n0
theorem z132_1 {a0:K_T}:∀(y0:List K_U) (i:Int) (v0:List K_U),post132_1 (length v0+length y0) (r132_1 a0 y0 i v0)
  |[],i,v0=>by
    first | trivial |(simp only[post132_1,length_nil,Nat.add_zero]; done) |(simp[post132_1]; done)
  |x0::y0,i,v0=>by
    simp only[r132_1]
    have z:=z132_1 (a0:=a0) y0 (i+1) (v0++([x0]))
    rw[show (length v0+length (x0::y0))=(length (v0++([x0]))+length y0) from by first | omega |(simp only[LN]; done) |(simp only[LN]; omega)]
    exact z
theorem cp132_1 (a:K_T):∀(l:List K_U) (i:Int) (v:List K_U),∃j b,r132_1 a l i v=.k0 (v++l) j b
  |[],i,v=>⟨_,_,by simp only[r132_1,List.append_nil]; rfl⟩
  |x::l,i,v=>by
    obtain⟨j,b,h⟩:=cp132_1 a l (i+1) (v++ [x])
    exact⟨j,b,by simp only[r132_1]; rw[h,append_assoc]; rfl⟩
/-! loop.example/g00539/impl.cloneTx -/
def m132 (a0:K_T):K_T:=
  (match r132_0 a0 a0.f1 0 [] with | .k0 w0_0 w1_0 w2_0=>(match r132_1 a0 a0.f2 0 [] with | .k0 w0_1 w1_1 w2_1=>(K_T.mk a0.f0 w0_0 w0_1)))
theorem e132 {l0_1:Nat} {l0_2:Nat} {a0:K_T} (hy0:length a0.f1*40≤140737488351232) (hy1:∀z∈a0.f1,ok_N z) (hy2:length a0.f2*32≤140737488351232) (hy3:∀z∈a0.f2,ok_U z) (hy4:SmT a0):Ev F X (.call 132 [(.agg (k_T l0_1 l0_2 a0))] [] [] [(.agg (d_T (m132 a0)))]):=by
  unfold m132
  cases h0:r132_0 a0 a0.f1 0 [] with
  |k0 w0_0 w1_0 w2_0=>
    try dsimp only
    have zh0:=z132_0 (a0:=a0) a0.f1 0 []; rw[h0] at zh0; simp only[post132_0,length_map,length_set,length_append,length_replicate,length_cons,length_nil,Int.toNat_natCast] at zh0
    have f0:=Eq.refl (h132_0 l0_1 l0_2 a0 0 [])
    cases h1:r132_1 a0 a0.f2 0 [] with
    |k0 w0_1 w1_1 w2_1=>
      try dsimp only
      have zh1:=z132_1 (a0:=a0) a0.f2 0 []; rw[h1] at zh1; simp only[post132_1,length_map,length_set,length_append,length_replicate,length_cons,length_nil,Int.toNat_natCast] at zh1
      have f2:=Eq.refl (h132_1 l0_1 l0_2 a0 w0_0 0 [])
      exact cp ya (.f f0 (.f (ev_ (e:=ex132_0) (g:=(fin132_0 l0_1 l0_2 a0)) h0 (t132_0 (l0_1:=l0_1) (l0_2:=l0_2) (a0:=a0) (by assumption) (by assumption) (by assumption) (by assumption) (by assumption) a0.f1 [] [] rfl yT)) (.f f2 (.f (ev_ (e:=ex132_1) (g:=(fin132_1 l0_1 l0_2 a0 w0_0)) h1 (t132_1 (l0_1:=l0_1) (l0_2:=l0_2) (a0:=a0) (c0_132_1:=w0_0) (by assumption) (by assumption) (by assumption) (by assumption) (by assumption) yb a0.f2 [] [] rfl yT)) (pe 0 (pe (length (map d_N w0_0)) (pe 0 (pe (length (map d_U w0_1)) (.f (pureR_N w0_0) (.f (pureR_U w0_1) (.h 22 (.loop (h132_0 l0_1 l0_2 a0 0 []) (.exit 0) ⟨[(1,(.ptr ⟨(1,0,0),[],0,0,3⟩)),(2,(.ptr ⟨(2,0,0),[],0,0,3⟩)),(3,(.ptr ⟨(3,0,0),[],0,0,3⟩)),(12,(.one (.bor l0_1 (map b_N a0.f1)))),(13,(.oi ((length (map b_N a0.f1)):Int))),(14,(.oi w1_0)),(15,(.one (.val (.bool w2_0))))],[((1,0,0),.live ⟨3,[[(.i a0.f0),(.bor l0_1 (map b_N a0.f1)),(.bor l0_2 (map b_U a0.f2))]],[]⟩),((2,0,0),.live ⟨3,[[(.i 0),(.own 3 []),(.own 2 [])]],[]⟩),((3,0,0),.live ⟨3,[[(.i a0.f0),(.own 3 (map d_N w0_0)),(.own 2 [])]],[]⟩)]⟩) (.h 31 (.loop (h132_1 l0_1 l0_2 a0 w0_0 0 []) (.exit 2) ⟨[(1,(.ptr ⟨(1,0,0),[],0,0,3⟩)),(2,(.ptr ⟨(2,0,0),[],0,0,3⟩)),(3,(.ptr ⟨(3,0,0),[],0,0,3⟩)),(30,(.one (.bor l0_2 (map b_U a0.f2)))),(31,(.oi ((length (map b_U a0.f2)):Int))),(32,(.oi w1_1)),(33,(.one (.val (.bool w2_1))))],[((1,0,0),.live ⟨3,[[(.i a0.f0),(.bor l0_1 (map b_N a0.f1)),(.bor l0_2 (map b_U a0.f2))]],[]⟩),((2,0,0),.live ⟨3,[[(.i 0),(.own 3 []),(.own 2 [])]],[]⟩),((3,0,0),.live ⟨3,[[(.i a0.f0),(.own 3 (map d_N w0_0)),(.own 2 (map d_U w0_1))]],[]⟩)]⟩) .nil))))))))))))
theorem q132 (a0:K_T) (hy0:length a0.f1*40≤140737488351232) (hy1:∀z∈a0.f1,ok_N z) (hy2:length a0.f2*32≤140737488351232) (hy3:∀z∈a0.f2,ok_U z) (hy4:SmT a0):(m132 a0)=a0:=by
  obtain⟨j,b,h⟩:=cp132_0 a0 a0.f1 0 []
  obtain⟨j2,b2,h2⟩:=cp132_1 a0 a0.f2 0 []
  unfold m132
  rw[h]
  simp only[]
  rw[h2]
  rfl
theorem g132 {l0_1:Nat} {l0_2:Nat} {a0:K_T} (hy0:length a0.f1*40≤140737488351232) (hy1:∀z∈a0.f1,ok_N z) (hy2:length a0.f2*32≤140737488351232) (hy3:∀z∈a0.f2,ok_U z) (hy4:SmT a0):Ev F X (.call 132 [(.agg (k_T l0_1 l0_2 a0))] [] [] [(.agg (d_T a0))]):=by
  have t:=e132 (l0_1:=l0_1) (l0_2:=l0_2) (a0:=a0) hy0 hy1 hy2 hy3 hy4
  rw[q132 a0 hy0 hy1 hy2 hy3 hy4] at t
  exact t
/-! loop 101_0 -/
inductive O101_0 where
  |k0 (w0:List K_T) (w1:Int) (w2:Bool)
def r101_0 (a0:(List K_T)):List K_T→Int→List K_T→O101_0
  |x0::y0,i,v0=>
    (r101_0 a0 y0 (i+1) (v0++([x0])))
  |[],i,v0=>(O101_0.k0 v0 i (decide (i <((length (map b_T a0)):Int))))
def h101_0 (l0_0:Nat) (a0:(List K_T)) (i:Int) (v0:List K_T):St:=⟨[(3,(.one (.ref ⟨(3,0,0),[],0,(length (map d_T v0))⟩))),(7,(.one (.bor l0_0 (map b_T a0)))),(8,(.one (.val (.int .i64 ((length (map b_T a0)):Int))))),(9,(.one (.val (.int .i64 i))))],[((3,0,0),.live ⟨3,(map d_T v0),[]⟩)]⟩
def ex101_0:O101_0→VX.Exit
  |.k0 _ _ _=>(.exit 0)
def fin101_0 (l0_0:Nat) (a0:(List K_T)):O101_0→St
  |.k0 w0 w1 w2=>⟨[(3,(.one (.ref ⟨(3,0,0),[],0,(length (map d_T w0))⟩))),(7,(.one (.bor l0_0 (map b_T a0)))),(8,(.one (.val (.int .i64 ((length (map b_T a0)):Int))))),(9,(.one (.val (.int .i64 w1)))),(10,(.one (.val (.bool w2))))],[((3,0,0),.live ⟨3,(map d_T w0),[]⟩)]⟩
theorem t101_0 {l0_0:Nat} {a0:(List K_T)} (hy0:length a0*56≤140737488351232) (hy1:∀z∈a0,ok_T z) (hy2:length a0≤4) (hy3:∀z∈a0,SmT z):∀(y0:List K_T) (p:List K_T) (v0:List K_T),p++y0=a0→(length v0+length y0)*56≤70368744177664→Ev F X (.code l101_0 (h101_0 l0_0 a0 (length p:Int) v0) (ex101_0 (r101_0 a0 y0 (length p:Int) v0)) (fin101_0 l0_0 a0 (r101_0 a0 y0 (length p:Int) v0)))
  |[],p,v0,hp0,hi0=>by
    have hc:=hcn b_T hp0
    have hj0:=hi0; try simp only[LN,Int.toNat_natCast] at hj0
    exact lx 3 ya (.f (nt hc) (.h 2 (.b false) .nil)) rfl
  |x0::y0,p,v0,hp0,hi0=>by
    have hc:=hcy b_T hp0
    have Hx0:=hxy hp0
    obtain⟨Mx0_0,Mx0_1,Mx0_2,Mx0_3⟩:=hy1 x0 (List.mem_of_getElem? Hx0)
    have hlen:=hly hp0
    have hw:wrap .i64 ((length p:Int)+1)=(length p:Int)+1:=wrap64 yb
    have hj0:=hi0; try simp only[LN,Int.toNat_natCast] at hj0
    simp only[r101_0]
    have f1:0≤(length p:Int):=yb
    have f8:0+(length (map d_T v0))≤(length (map d_T v0)):=yb
    have f9:1≤1:=yb
    have f10:((take 1 (drop 0 [[(.i x0.f0),(.own 3 (map d_N x0.f1)),(.own 2 (map d_U x0.f2))]])).all fun x=>x.all copyable)=false:=yL
    have f13:(length ((take (length (map d_T v0)) (drop 0 (map d_T v0)))++([[(.i x0.f0),(.own 3 (map d_N x0.f1)),(.own 2 (map d_U x0.f2))]]:List (List D))))*56≤70368744177664:=yr
    have f14:∀r∈([[(.i x0.f0),(.own 3 (map d_N x0.f1)),(.own 2 (map d_U x0.f2))]]:List (List D)),r.length=3:=yJ
    have f15:((take (length (map d_T v0)) (drop 0 (map d_T v0)))++([[(.i x0.f0),(.own 3 (map d_N x0.f1)),(.own 2 (map d_U x0.f2))]]:List (List D)))=(map d_T (v0++([x0]))):=(by simp[take_of_length_le,d_N,d_U,d_T,ol112,ol83,ol84,ol51,ol45_0,ol12_0,four_len,high4,high2]; done)
    have st:=ch b101_0 (h101_0 l0_0 a0 (length p:Int) v0) ⟨[(3,(.one (.ref ⟨(3,0,0),[],0,(length ((take (length (map d_T v0)) (drop 0 (map d_T v0)))++([[(.i x0.f0),(.own 3 (map d_N x0.f1)),(.own 2 (map d_U x0.f2))]]:List (List D))))⟩))),(7,(.one (.bor l0_0 (map b_T a0)))),(8,(.oi ((length (map b_T a0)):Int))),(9,(.oi (wrap .i64 ((length p:Int)+1))))],[((3,0,0),.live ⟨3,(map d_T (v0++([x0]))),[]⟩)]⟩ .normal 28 ya (.f hc (.f f1 (.f (mp_ b_T Hx0) (.h 2 (.b true) (.h 4 (.row [(.i x0.f0),(.sl (map b_N x0.f1)),(.sl (map b_U x0.f2))]) (.r 16 [] [] (g132 (l0_1:=(l0_0+1)) (l0_2:=(l0_0+1)) (a0:=x0) yw yw yw yw (by exact hy3 x0 (List.mem_of_getElem? Hx0))) (pe 0 (pe (length (map d_N x0.f1)) (pe 0 (pe (length (map d_U x0.f2)) (.f f8 (.f f9 (.f f10 (pe 0 (pe 1 (.f f13 (.f f14 (.f f15 (.f trivial (.h 20 (.b false) (.h 23 (.norm (3,0,0) (map d_T (v0++([x0])))) .nil)))))))))))))))))))))
    have ih:=t101_0 (l0_0:=l0_0) (a0:=a0) hy0 hy1 hy2 hy3 y0 (p++ [x0]) (v0++([x0])) ye yq
    rw[pl1] at ih
    rw[show (⟨[(3,(.one (.ref ⟨(3,0,0),[],0,(length ((take (length (map d_T v0)) (drop 0 (map d_T v0)))++([[(.i x0.f0),(.own 3 (map d_N x0.f1)),(.own 2 (map d_U x0.f2))]]:List (List D))))⟩))),(7,(.one (.bor l0_0 (map b_T a0)))),(8,(.oi ((length (map b_T a0)):Int))),(9,(.oi (wrap .i64 ((length p:Int)+1))))],[((3,0,0),.live ⟨3,(map d_T (v0++([x0]))),[]⟩)]⟩:St)=h101_0 l0_0 a0 ((length p:Int)+1) (v0++([x0])) from(by unfold h101_0; simp[hw,take_of_length_le,d_N,d_U,d_T,ol112,ol83,ol84,ol51,ol45_0,ol12_0,four_len,high4,high2]; done)] at st
    exact .loopN st ih
def post101_0 (n0:Nat):O101_0→Prop
  |.k0 w0 _ _=>length w0=n0
theorem z101_0 {a0:(List K_T)}:∀(y0:List K_T) (i:Int) (v0:List K_T),post101_0 (length v0+length y0) (r101_0 a0 y0 i v0)
  |[],i,v0=>by
    first | trivial |(simp only[post101_0,length_nil,Nat.add_zero]; done) |(simp[post101_0]; done)
  |x0::y0,i,v0=>by
    simp only[r101_0]
    have z:=z101_0 (a0:=a0) y0 (i+1) (v0++([x0]))
    rw[show (length v0+length (x0::y0))=(length (v0++([x0]))+length y0) from by first | omega |(simp only[LN]; done) |(simp only[LN]; omega)]
    exact z
theorem cp101_0 (a:List K_T):∀(l:List K_T) (i:Int) (v:List K_T),∃j b,r101_0 a l i v=.k0 (v++l) j b
  |[],i,v=>⟨_,_,by simp only[r101_0,List.append_nil]; rfl⟩
  |x::l,i,v=>by
    obtain⟨j,b,h⟩:=cp101_0 a l (i+1) (v++ [x])
    exact⟨j,b,by simp only[r101_0]; rw[h,append_assoc]; rfl⟩
/-! loop.example/g00539/impl.cloneTxs -/
def m101 (a0:(List K_T)):(List K_T):=
  (match r101_0 a0 a0 0 ([]) with | .k0 w0_0 w1_0 w2_0=>w0_0)
theorem e101 {l0_0:Nat} {a0:(List K_T)} (hy0:length a0*56≤140737488351232) (hy1:∀z∈a0,ok_T z) (hy2:length a0≤4) (hy3:∀z∈a0,SmT z):Ev F X (.call 101 [(.one (.bor l0_0 (map b_T a0)))] [] [] [(.one (.own 3 (map d_T (m101 a0))))]):=by
  unfold m101
  cases h0:r101_0 a0 a0 0 ([]) with
  |k0 w0_0 w1_0 w2_0=>
    try dsimp only
    have zh0:=z101_0 (a0:=a0) a0 0 ([]); rw[h0] at zh0; simp only[post101_0,length_map,length_set,length_append,length_replicate,length_cons,length_nil,Int.toNat_natCast] at zh0
    have f0:=Eq.refl (h101_0 l0_0 a0 0 ([]))
    exact cp ya (.f f0 (.f (ev_ (e:=ex101_0) (g:=(fin101_0 l0_0 a0)) h0 (t101_0 (l0_0:=l0_0) (a0:=a0) (by assumption) (by assumption) (by assumption) (by assumption) a0 [] ([]) rfl yq)) (pe 0 (pe (length (map d_T w0_0)) (.f (pureR_T w0_0) (.h 12 (.loop (h101_0 l0_0 a0 0 ([])) (.exit 0) ⟨[(3,(.one (.ref ⟨(3,0,0),[],0,(length (map d_T w0_0))⟩))),(7,(.one (.bor l0_0 (map b_T a0)))),(8,(.oi ((length (map b_T a0)):Int))),(9,(.oi w1_0)),(10,(.one (.val (.bool w2_0))))],[((3,0,0),.live ⟨3,(map d_T w0_0),[]⟩)]⟩) .nil))))))
theorem q101 (a0:(List K_T)) (hy0:length a0*56≤140737488351232) (hy1:∀z∈a0,ok_T z) (hy2:length a0≤4) (hy3:∀z∈a0,SmT z):(m101 a0)=a0:=by
  obtain⟨j,b,h⟩:=cp101_0 a0 a0 0 []
  unfold m101
  rw[h]
  rfl
theorem g101 {l0_0:Nat} {a0:(List K_T)} (hy0:length a0*56≤140737488351232) (hy1:∀z∈a0,ok_T z) (hy2:length a0≤4) (hy3:∀z∈a0,SmT z):Ev F X (.call 101 [(.one (.bor l0_0 (map b_T a0)))] [] [] [(.one (.own 3 (map d_T a0)))]):=by
  have t:=e101 (l0_0:=l0_0) (a0:=a0) hy0 hy1 hy2 hy3
  rw[q101 a0 hy0 hy1 hy2 hy3] at t
  exact t
theorem e73 {l0_4:Nat} {a0:K_G} (hy0:length a0.f4*56≤140737488351232) (hy1:∀z∈a0.f4,ok_T z) (hy2:length a0.f4≤4) (hy3:∀z∈a0.f4,SmT z):Ev F X (.call 73 [(.agg (k_G l0_4 a0))] [] [] [(.agg (d_G a0))]):=by
  exact cp ya (.r 9 [] [] (g101 (l0_0:=(l0_4+1)) (a0:=a0.f4) ‹_› ‹_› ‹_› ‹_›) (pe 0 (pe (length (map d_T a0.f4)) (pe 0 (pe (length (map d_T a0.f4)) (.f (pureR_T a0.f4) .nil))))))
/-! loop 49_0 -/
inductive O49_0 where
  |k0 (w0:List K_J) (w1:Int) (w2:Bool)
def r49_0 (a0:(List K_J)):List K_J→Int→List K_J→O49_0
  |x0::y0,i,v0=>
    (r49_0 a0 y0 (i+1) (v0++([x0])))
  |[],i,v0=>(O49_0.k0 v0 i (decide (i <((length (map b_J a0)):Int))))
def h49_0 (l0_0:Nat) (a0:(List K_J)) (i:Int) (v0:List K_J):St:=⟨[(3,(.one (.ref ⟨(3,0,0),[],0,(length (map d_J v0))⟩))),(7,(.one (.bor l0_0 (map b_J a0)))),(8,(.one (.val (.int .i64 ((length (map b_J a0)):Int))))),(9,(.one (.val (.int .i64 i))))],[((3,0,0),.live ⟨6,(map d_J v0),[]⟩)]⟩
def ex49_0:O49_0→VX.Exit
  |.k0 _ _ _=>(.exit 0)
def fin49_0 (l0_0:Nat) (a0:(List K_J)):O49_0→St
  |.k0 w0 w1 w2=>⟨[(3,(.one (.ref ⟨(3,0,0),[],0,(length (map d_J w0))⟩))),(7,(.one (.bor l0_0 (map b_J a0)))),(8,(.one (.val (.int .i64 ((length (map b_J a0)):Int))))),(9,(.one (.val (.int .i64 w1)))),(10,(.one (.val (.bool w2))))],[((3,0,0),.live ⟨6,(map d_J w0),[]⟩)]⟩
theorem t49_0 {l0_0:Nat} {a0:(List K_J)} (hy0:length a0*64≤140737488351232) (hy1:∀z∈a0,ok_J z) (hy2:length a0≤4) (hy3:∀z∈a0,SmJ z):∀(y0:List K_J) (p:List K_J) (v0:List K_J),p++y0=a0→(length v0+length y0)*64≤70368744177664→Ev F X (.code l49_0 (h49_0 l0_0 a0 (length p:Int) v0) (ex49_0 (r49_0 a0 y0 (length p:Int) v0)) (fin49_0 l0_0 a0 (r49_0 a0 y0 (length p:Int) v0)))
  |[],p,v0,hp0,hi0=>by
    have hc:=hcn b_J hp0
    have hj0:=hi0; try simp only[LN,Int.toNat_natCast] at hj0
    exact lx 3 ya (.f (nt hc) (.h 2 (.b false) .nil)) rfl
  |x0::y0,p,v0,hp0,hi0=>by
    have hc:=hcy b_J hp0
    have Hx0:=hxy hp0
    obtain⟨Mx0_0,Mx0_1⟩:=hy1 x0 (List.mem_of_getElem? Hx0)
    have hlen:=hly hp0
    have hw:wrap .i64 ((length p:Int)+1)=(length p:Int)+1:=wrap64 yb
    have hj0:=hi0; try simp only[LN,Int.toNat_natCast] at hj0
    simp only[r49_0]
    have f1:0≤(length p:Int):=yb
    have f6:0+(length (map d_J v0))≤(length (map d_J v0)):=yb
    have f7:1≤1:=yb
    have f8:((take 1 (drop 0 [[(.i x0.f0),(.i x0.f1),(.i x0.f2),(.i x0.f3),(.i x0.f4),(.own 3 (map d_T x0.f5))]])).all fun x=>x.all copyable)=false:=yL
    have f11:(length ((take (length (map d_J v0)) (drop 0 (map d_J v0)))++([[(.i x0.f0),(.i x0.f1),(.i x0.f2),(.i x0.f3),(.i x0.f4),(.own 3 (map d_T x0.f5))]]:List (List D))))*64≤70368744177664:=yr
    have f12:∀r∈([[(.i x0.f0),(.i x0.f1),(.i x0.f2),(.i x0.f3),(.i x0.f4),(.own 3 (map d_T x0.f5))]]:List (List D)),r.length=6:=yJ
    have f13:((take (length (map d_J v0)) (drop 0 (map d_J v0)))++([[(.i x0.f0),(.i x0.f1),(.i x0.f2),(.i x0.f3),(.i x0.f4),(.own 3 (map d_T x0.f5))]]:List (List D)))=(map d_J (v0++([x0]))):=yx
    have st:=ch b49_0 (h49_0 l0_0 a0 (length p:Int) v0) ⟨[(3,(.one (.ref ⟨(3,0,0),[],0,(length ((take (length (map d_J v0)) (drop 0 (map d_J v0)))++([[(.i x0.f0),(.i x0.f1),(.i x0.f2),(.i x0.f3),(.i x0.f4),(.own 3 (map d_T x0.f5))]]:List (List D))))⟩))),(7,(.one (.bor l0_0 (map b_J a0)))),(8,(.oi ((length (map b_J a0)):Int))),(9,(.oi (wrap .i64 ((length p:Int)+1))))],[((3,0,0),.live ⟨6,(map d_J (v0++([x0]))),[]⟩)]⟩ .normal 36 ya (.f hc (.f f1 (.f (mp_ b_J Hx0) (.h 2 (.b true) (.h 4 (.row [(.i x0.f0),(.i x0.f1),(.i x0.f2),(.i x0.f3),(.i x0.f4),(.sl (map b_T x0.f5))]) (.r 22 [] [] (e73 (l0_4:=(l0_0+1)) (a0:=(K_G.mk x0.f1 x0.f2 x0.f3 x0.f4 x0.f5)) yw yw (by exact(hy3 x0 (List.mem_of_getElem? Hx0)).2.1) (by exact(hy3 x0 (List.mem_of_getElem? Hx0)).2.2.1)) (pe 0 (pe (length (map d_T x0.f5)) (.f f6 (.f f7 (.f f8 (pe 0 (pe 1 (.f f11 (.f f12 (.f f13 (.f trivial (.h 28 (.b false) (.h 31 (.norm (3,0,0) (map d_J (v0++([x0])))) .nil)))))))))))))))))))
    have ih:=t49_0 (l0_0:=l0_0) (a0:=a0) hy0 hy1 hy2 hy3 y0 (p++ [x0]) (v0++([x0])) ye yq
    rw[pl1] at ih
    rw[show (⟨[(3,(.one (.ref ⟨(3,0,0),[],0,(length ((take (length (map d_J v0)) (drop 0 (map d_J v0)))++([[(.i x0.f0),(.i x0.f1),(.i x0.f2),(.i x0.f3),(.i x0.f4),(.own 3 (map d_T x0.f5))]]:List (List D))))⟩))),(7,(.one (.bor l0_0 (map b_J a0)))),(8,(.oi ((length (map b_J a0)):Int))),(9,(.oi (wrap .i64 ((length p:Int)+1))))],[((3,0,0),.live ⟨6,(map d_J (v0++([x0]))),[]⟩)]⟩:St)=h49_0 l0_0 a0 ((length p:Int)+1) (v0++([x0])) from(by unfold h49_0; simp[hw,take_of_length_le,d_T,d_J,ol112,ol83,ol84,ol51,ol45_0,ol12_0,four_len,high4,high2]; done)] at st
    exact .loopN st ih
def post49_0 (n0:Nat):O49_0→Prop
  |.k0 w0 _ _=>length w0=n0
theorem z49_0 {a0:(List K_J)}:∀(y0:List K_J) (i:Int) (v0:List K_J),post49_0 (length v0+length y0) (r49_0 a0 y0 i v0)
  |[],i,v0=>by
    first | trivial |(simp only[post49_0,length_nil,Nat.add_zero]; done) |(simp[post49_0]; done)
  |x0::y0,i,v0=>by
    simp only[r49_0]
    have z:=z49_0 (a0:=a0) y0 (i+1) (v0++([x0]))
    rw[show (length v0+length (x0::y0))=(length (v0++([x0]))+length y0) from by first | omega |(simp only[LN]; done) |(simp only[LN]; omega)]
    exact z
theorem cp49_0 (a:List K_J):∀(l:List K_J) (i:Int) (v:List K_J),∃j b,r49_0 a l i v=.k0 (v++l) j b
  |[],i,v=>⟨_,_,by simp only[r49_0,List.append_nil]; rfl⟩
  |x::l,i,v=>by
    obtain⟨j,b,h⟩:=cp49_0 a l (i+1) (v++ [x])
    exact⟨j,b,by simp only[r49_0]; rw[h,append_assoc]; rfl⟩
/-! loop.example/g00539/impl.cloneJobs -/
def m49 (a0:(List K_J)):(List K_J):=
  (match r49_0 a0 a0 0 ([]) with | .k0 w0_0 w1_0 w2_0=>w0_0)
theorem e49 {l0_0:Nat} {a0:(List K_J)} (hy0:length a0*64≤140737488351232) (hy1:∀z∈a0,ok_J z) (hy2:length a0≤4) (hy3:∀z∈a0,SmJ z):Ev F X (.call 49 [(.one (.bor l0_0 (map b_J a0)))] [] [] [(.one (.own 6 (map d_J (m49 a0))))]):=by
  unfold m49
  cases h0:r49_0 a0 a0 0 ([]) with
  |k0 w0_0 w1_0 w2_0=>
    try dsimp only
    have zh0:=z49_0 (a0:=a0) a0 0 ([]); rw[h0] at zh0; simp only[post49_0,length_map,length_set,length_append,length_replicate,length_cons,length_nil,Int.toNat_natCast] at zh0
    have f0:=Eq.refl (h49_0 l0_0 a0 0 ([]))
    exact cp ya (.f f0 (.f (ev_ (e:=ex49_0) (g:=(fin49_0 l0_0 a0)) h0 (t49_0 (l0_0:=l0_0) (a0:=a0) (by assumption) (by assumption) (by assumption) (by assumption) a0 [] ([]) rfl yq)) (pe 0 (pe (length (map d_J w0_0)) (.f (pureR_J w0_0) (.h 12 (.loop (h49_0 l0_0 a0 0 ([])) (.exit 0) ⟨[(3,(.one (.ref ⟨(3,0,0),[],0,(length (map d_J w0_0))⟩))),(7,(.one (.bor l0_0 (map b_J a0)))),(8,(.oi ((length (map b_J a0)):Int))),(9,(.oi w1_0)),(10,(.one (.val (.bool w2_0))))],[((3,0,0),.live ⟨6,(map d_J w0_0),[]⟩)]⟩) .nil))))))
theorem q49 (a0:(List K_J)) (hy0:length a0*64≤140737488351232) (hy1:∀z∈a0,ok_J z) (hy2:length a0≤4) (hy3:∀z∈a0,SmJ z):(m49 a0)=a0:=by
  obtain⟨j,b,h⟩:=cp49_0 a0 a0 0 []
  unfold m49
  rw[h]
  rfl
theorem g49 {l0_0:Nat} {a0:(List K_J)} (hy0:length a0*64≤140737488351232) (hy1:∀z∈a0,ok_J z) (hy2:length a0≤4) (hy3:∀z∈a0,SmJ z):Ev F X (.call 49 [(.one (.bor l0_0 (map b_J a0)))] [] [] [(.one (.own 6 (map d_J a0)))]):=by
  have t:=e49 (l0_0:=l0_0) (a0:=a0) hy0 hy1 hy2 hy3
  rw[q49 a0 hy0 hy1 hy2 hy3] at t
  exact t
/-! slices.Delete[[]loop.example/g00539/impl.Job,loop.example/g00539/impl.Job] -/
theorem dl50 (a0:List K_J) (i:Nat):(map d_J a0).take i++(map d_J a0).drop (i+1)=map d_J (take i a0++drop (i+1) a0):=by rw[List.map_append,map_take,map_drop]
theorem e50 {a0:List K_J} {a1 a2:Int} (hy0:0≤a1) (hy1:a1 <(length a0:Int)) (hy2:a2=a1+1) (hy3:length a0≤9223372036854775807):Ev F X (.call 50 [(.one (.ref ⟨(0,0,0),[],0,(length (map d_J a0))⟩)),(.one (.val (.int .i64 a1))),(.one (.val (.int .i64 a2)))] [((0,0,0),⟨6,(map d_J a0),[]⟩)] [] [(.one (.own 6 (map d_J (take (toNat a1) a0++drop (toNat a1+1) a0))))]):=
  .ext (.inr (⟨rfl,rfl,(⟨(0,0,0),_,toNat a1,by rw[length_map]; exact hy3,by first | exact pureR_J _ | simp[pureR_J],by rw[length_map]; omega,rfl,by rw[hy2,show ((toNat a1:Nat):Int)=a1 by omega,show ((toNat a1+1:Nat):Int)=a1+1 by omega],by rw[dl50]⟩)⟩)) rfl
/-! loop.example/g00539/impl.PutJob -/
def m18 (a0:(List K_J)) (a1:K_J):K_JR:=
  if((m40 a0) !=0)=true then(K_JR.mk (m40 a0) []) else
  if((m40 [a1]) !=0)=true then(K_JR.mk (m40 [a1]) []) else
    if (decide (((length (map b_J a0)) : Int) > 0)) = true then (if (decide (a1.f0 ≤ ((getD a0 (toNat (wrap .i64 (((length (map b_J a0)) : Int) - 1))) (K_J.mk 0 0 0 0 0 [])).f0))) = true then (K_JR.mk 6 []) else
        if(decide (((length ((take (length (map d_J a0)) (drop 0 (map d_J a0)))++(map d_J ([a1])))):Int) > 4))=true then(K_JR.mk 0 (take (toNat 0) (a0++([a1]))++drop (toNat 0+1) (a0++([a1])))) else
          (K_JR.mk 0 (a0++([a1])))) else
      if(decide (((length ((take (length (map d_J a0)) (drop 0 (map d_J a0)))++(map d_J ([a1])))):Int) > 4))=true then(K_JR.mk 0 (take (toNat 0) (a0++([a1]))++drop (toNat 0+1) (a0++([a1])))) else
        (K_JR.mk 0 (a0++([a1])))
theorem e18 {l0_0:Nat} {a0:(List K_J)} {l1_5:Nat} {a1:K_J} (hy0:length a0*64≤140737488351232) (hy1:∀z∈a0,ok_J z) (hy2:length a1.f5*56≤140737488351232) (hy3:∀z∈a1.f5,ok_T z):Ev F X (.call 18 [(.one (.bor l0_0 (map b_J a0))),(.agg (k_J l1_5 a1))] [] [] [(.agg (d_JR (m18 a0 a1)))]):=by
  unfold m18
  have P0 {hs q} (r:PS F X hs q):=(PS.r 7 [] [] (e40 (l0_0:=(l0_0+1)) (a0:=a0) ‹_› ‹_›) r)
  by_cases h0:((m40 a0) !=0)=true
  · try simp only[if_pos h0]
    have f2:pureR []=true:=yL
    exact cp ya (P0 (.f h0 (.f f2 (.h 14 (.b true) .nil))))
  · try simp only[if_neg h0]
    have f2:1≤1:=yb
    have f3:fullR (take 1 (drop 0 [[(.i a1.f0),(.i a1.f1),(.i a1.f2),(.i a1.f3),(.i a1.f4),(.bor l1_5 (map b_T a1.f5))]]))=true:=yL
    have f4:toBR (take 1 (drop 0 [[(.i a1.f0),(.i a1.f1),(.i a1.f2),(.i a1.f3),(.i a1.f4),(.bor l1_5 (map b_T a1.f5))]]))=[(b_J a1)]:=yL
    have P1 {hs q} (r:PS F X hs q):=(P0 (.f (nt h0) (.f f2 (.f f3 (.f f4 (.h 14 (.b false) (.r 20 [] [[(b_J a1)]] (e40 (l0_0:=0) (a0:=[a1]) yj yaa) r)))))))
    by_cases h1:((m40 [a1]) !=0)=true
    · try simp only[if_pos h1]
      have f7:pureR []=true:=(by assumption)
      exact cp ya (P1 (.f h1 (.f f7 (.h 27 (.b true) .nil))))
    · try simp only[if_neg h1]
      have P2 {hs q} (r:PS F X hs q):=(P1 (.f (nt h1) (.h 27 (.b false) r)))
      by_cases h2:(decide (((length (map b_J a0)):Int) > 0))=true
      · try simp only[if_pos h2]
        have f13:0≤(wrap .i64 (((length (map b_J a0)):Int) - 1)):=yX
        have P3 {hs q} (r:PS F X hs q):=(P2 (.f h2 (.f h2 (.f h2 (.f h2 (.f h2 (.f h2 (.f f13 (.f (mp_ b_J (getD_at a0 (toNat (wrap .i64 (((length (map b_J a0)):Int) - 1))) (K_J.mk 0 0 0 0 0 []) yX)) (.f h2 (.f h2 (.f h2 (.f h2 (.h 40 (.b true) (.h 42 (.b true) (.h 44 (.b true) (.h 46 (.b true) (.h 48 (.b true) (.h 50 (.b true) (.h 51 (.row (b_J (getD a0 (toNat (wrap .i64 (((length (map b_J a0)):Int) - 1))) (K_J.mk 0 0 0 0 0 [])))) (.h 52 (.b true) (.h 54 (.b true) (.h 56 (.b true) (.h 59 (.b true) r))))))))))))))))))))))))
        by_cases h3:(decide (a1.f0≤((getD a0 (toNat (wrap .i64 (((length (map b_J a0)):Int) - 1))) (K_J.mk 0 0 0 0 0 [])).f0)))=true
        · try simp only[if_pos h3]
          have f20:pureR []=true:=(by assumption)
          exact cp ya (P3 (.f h3 (.f f20 (.h 60 (.b true) .nil))))
        · try simp only[if_neg h3]
          have f25:0+(length (map d_J a0))≤(length (map d_J a0)):=yb
          have f26:0+(length (map d_J ([a1])))≤(length (map d_J ([a1]))):=yb
          have f27:((take (length (map d_J ([a1]))) (drop 0 (map d_J ([a1])))).all fun x=>x.all copyable)=false:=yL
          have f30:(length ((take (length (map d_J a0)) (drop 0 (map d_J a0)))++(map d_J ([a1]))))*64≤70368744177664:=yj
          have f31:∀r∈((map d_J ([a1])):List (List D)),r.length=6:=(by exact lenD_J _)
          have f32:((take (length (map d_J a0)) (drop 0 (map d_J a0)))++(map d_J ([a1])))=(map d_J (a0++([a1]))):=yae
          have P4 {hs q} (r:PS F X hs q):=(P3 (.f (nt h3) (.h 60 (.b false) (.r 64 [] [] (g49 (l0_0:=(l0_0+1)) (a0:=a0) ‹_› ‹_› (by have ha:=js40 (a:=a0) (by simpa using h0); exact ha.1) (by have ha:=js40 (a:=a0) (by simpa using h0); exact ha.2)) (.f f2 (.f f3 (.f f4 (.r 70 [] [[(b_J a1)]] (g49 (l0_0:=0) (a0:=[a1]) yj yaa yj yS) (.f f25 (.f f26 (.f f27 (pe 0 (pe (length (map d_J ([a1]))) (.f f30 (.f f31 (.f f32 (.h 72 (.b false) (.h 75 (.norm (8,0,0) (map d_J (a0++([a1])))) r))))))))))))))))))
          by_cases h4:(decide (((length ((take (length (map d_J a0)) (drop 0 (map d_J a0)))++(map d_J ([a1])))):Int) > 4))=true
          · try simp only[if_pos h4]
            have f35:Ev F X (.call 50 [(.one (.ref ⟨(0,0,0),[],0,(length ((take (length (map d_J a0)) (drop 0 (map d_J a0)))++(map d_J ([a1]))))⟩)),(.oi 0),(.oi 1)] [((0,0,0),⟨6,(map d_J (a0++([a1]))),[]⟩)] [] [(.one (.own 6 (map d_J (take (toNat 0) (a0++([a1]))++drop (toNat 0+1) (a0++([a1]))))))]):=yf
            exact cp ya (P4 (.f h4 (.f (pureR_J (a0++([a1]))) (.h 82 (.b true) (.r 86 [true] [] f35 (pe 0 (pe (length (map d_J (take (toNat 0) (a0++([a1]))++drop (toNat 0+1) (a0++([a1]))))) (.f (pureR_J (take (toNat 0) (a0++([a1]))++drop (toNat 0+1) (a0++([a1])))) .nil))))))))
          · try simp only[if_neg h4]
            have f35:(length ((take (length (map d_J a0)) (drop 0 (map d_J a0)))++(map d_J ([a1]))))=(length (map d_J (a0++([a1])))):=yi
            exact cp ya (P4 (.f (nt h4) (pe 0 (.f f35 (.f (pureR_J (a0++([a1]))) (.h 82 (.b false) .nil))))))
      · try simp only[if_neg h2]
        have f22:0+(length (map d_J a0))≤(length (map d_J a0)):=yb
        have f23:0+(length (map d_J ([a1])))≤(length (map d_J ([a1]))):=yb
        have f24:((take (length (map d_J ([a1]))) (drop 0 (map d_J ([a1])))).all fun x=>x.all copyable)=false:=yL
        have f27:(length ((take (length (map d_J a0)) (drop 0 (map d_J a0)))++(map d_J ([a1]))))*64≤70368744177664:=yj
        have f28:∀r∈((map d_J ([a1])):List (List D)),r.length=6:=(by exact lenD_J _)
        have f29:((take (length (map d_J a0)) (drop 0 (map d_J a0)))++(map d_J ([a1])))=(map d_J (a0++([a1]))):=yae
        have P3 {hs q} (r:PS F X hs q):=(P2 (.f (nt h2) (.f (nt h2) (.f (nt h2) (.f (nt h2) (.f (nt h2) (.f (nt h2) (.f (nt h2) (.f (nt h2) (.f (nt h2) (.f (nt h2) (.h 40 (.b false) (.h 42 (.b false) (.h 44 (.b false) (.h 46 (.b false) (.h 48 (.b false) (.h 50 (.b false) (.h 52 (.b false) (.h 54 (.b false) (.h 56 (.b false) (.h 59 (.b false) (.r 64 [] [] (g49 (l0_0:=(l0_0+1)) (a0:=a0) ‹_› ‹_› (by have ha:=js40 (a:=a0) (by simpa using h0); exact ha.1) (by have ha:=js40 (a:=a0) (by simpa using h0); exact ha.2)) (.f f2 (.f f3 (.f f4 (.r 70 [] [[(b_J a1)]] (g49 (l0_0:=0) (a0:=[a1]) yj yaa yj yS) (.f f22 (.f f23 (.f f24 (pe 0 (pe (length (map d_J ([a1]))) (.f f27 (.f f28 (.f f29 (.h 72 (.b false) (.h 75 (.norm (8,0,0) (map d_J (a0++([a1])))) r))))))))))))))))))))))))))))))))))))
        by_cases h3:(decide (((length ((take (length (map d_J a0)) (drop 0 (map d_J a0)))++(map d_J ([a1])))):Int) > 4))=true
        · try simp only[if_pos h3]
          have f32:Ev F X (.call 50 [(.one (.ref ⟨(0,0,0),[],0,(length ((take (length (map d_J a0)) (drop 0 (map d_J a0)))++(map d_J ([a1]))))⟩)),(.oi 0),(.oi 1)] [((0,0,0),⟨6,(map d_J (a0++([a1]))),[]⟩)] [] [(.one (.own 6 (map d_J (take (toNat 0) (a0++([a1]))++drop (toNat 0+1) (a0++([a1]))))))]):=yf
          exact cp ya (P3 (.f h3 (.f (pureR_J (a0++([a1]))) (.h 82 (.b true) (.r 86 [true] [] f32 (pe 0 (pe (length (map d_J (take (toNat 0) (a0++([a1]))++drop (toNat 0+1) (a0++([a1]))))) (.f (pureR_J (take (toNat 0) (a0++([a1]))++drop (toNat 0+1) (a0++([a1])))) .nil))))))))
        · try simp only[if_neg h3]
          have f32:(length ((take (length (map d_J a0)) (drop 0 (map d_J a0)))++(map d_J ([a1]))))=(length (map d_J (a0++([a1])))):=yi
          exact cp ya (P3 (.f (nt h3) (pe 0 (.f f32 (.f (pureR_J (a0++([a1]))) (.h 82 (.b false) .nil))))))
theorem okm18 (a0:(List K_J)) (a1:K_J):ok_JR (m18 a0 a1):=by
  by_cases h0:((m40 a0) !=0)=true
  · unfold m18; rw[if_pos h0]; simp[ok_N,ok_U,ok_T,ok_J,ok_JL,ok_JR,ok_G,ok_TL,ok_LiE,ok_NL,ok_UL,ok_LyE,ok_LLyEE]
  · have ha:=js40 (a:=a0) (by simpa using h0)
    by_cases h1:((m40 [a1]) !=0)=true
    · unfold m18; rw[if_neg h0,if_pos h1]; simp[ok_N,ok_U,ok_T,ok_J,ok_JL,ok_JR,ok_G,ok_TL,ok_LiE,ok_NL,ok_UL,ok_LyE,ok_LLyEE]
    · have hb:SmJ a1:=(js40 (by simpa using h1)).2 a1 (List.mem_singleton.2 rfl)
      have q:∀l:List K_J,length l≤5→(∀z∈l,SmJ z)→ok_JR (K_JR.mk 0 l):=fun l q1 q2=>⟨by simp only[]; omega,fun z hz=>(q2 z hz).ok⟩
      have e:∀z∈a0++ [a1],SmJ z:=fun z hz=>by
        rcases List.mem_append.1 hz with hz | hz
        · exact ha.2 z hz
        · rw[List.mem_singleton] at hz; subst hz; exact hb
      have el:(a0++ [a1]).length≤5:=by simp only[length_append,length_cons,length_nil]; omega
      unfold m18; rw[if_neg h0,if_neg h1]
      (repeat' split)<;>first | exact⟨by simp,fun z hz=>by cases hz⟩ | exact q _ el e | exact q _ yI (fun z hz=>(List.mem_append.1 hz).elim (fun hz=>e z (List.mem_of_mem_take hz)) (fun hz=>e z (List.mem_of_mem_drop hz))) | exact q _ yI (fun z hz=>(List.mem_append.1 hz).elim (fun hz=>ha.2 z (List.mem_of_mem_drop (List.mem_of_mem_take hz))) (fun hz=>by rw[List.mem_singleton] at hz; subst hz; exact hb))
/-! loop 20_0 -/
inductive O20_0 where
  |k0 (w0:Int) (w1:Bool)
  |k1
def r20_0 (a0:(List K_J)):List K_J→List K_J→Int→O20_0
  |x0::y0,x1::y1,i=>
    if(!(m11 x0 x1))=true then(O20_0.k1) else
    (r20_0 a0 y0 y1 (i+1))
  |_,_,i=>(O20_0.k0 i (decide (i <((length (map b_J a0)):Int))))
def h20_0 (l0_0:Nat) (l1_0:Nat) (a0:(List K_J)) (a1:(List K_J)) (i:Int) :St:=⟨[(0,(.one (.bor l0_0 (map b_J a0)))),(1,(.one (.bor l1_0 (map b_J a1)))),(5,(.one (.val (.int .i64 i))))],[]⟩
def ex20_0:O20_0→VX.Exit
  |.k0 _ _=>(.exit 0)
  |.k1=>.ret
def fin20_0 (l0_0:Nat) (l1_0:Nat) (a0:(List K_J)) (a1:(List K_J)):O20_0→St
  |.k0 w0 w1=>⟨[(0,(.one (.bor l0_0 (map b_J a0)))),(1,(.one (.bor l1_0 (map b_J a1)))),(5,(.one (.val (.int .i64 w0)))),(14,(.one (.val (.bool w1))))],[]⟩
  |.k1=>⟨[(4,(.one (.val (.bool false))))],[]⟩
theorem t20_0 {l0_0:Nat} {l1_0:Nat} {a0:(List K_J)} {a1:(List K_J)} (hy0:length a0*64≤140737488351232) (hy1:∀z∈a0,ok_J z) (hy2:length a1*64≤140737488351232) (hy3:∀z∈a1,ok_J z):∀(y0:List K_J) (y1:List K_J) (p:List K_J) (p_1:List K_J),p++y0=a0→p_1++y1=a1→length p=length p_1→length y0=length y1→Ev F X (.code l20_0 (h20_0 l0_0 l1_0 a0 a1 (length p:Int)) (ex20_0 (r20_0 a0 y0 y1 (length p:Int))) (fin20_0 l0_0 l1_0 a0 a1 (r20_0 a0 y0 y1 (length p:Int))))
  |[],[],p,p_1,hp0,hp1,hq1,hl1=>by
    have hc:=hcn b_J hp0
    exact lx 9 ya (.f (nt hc) (.h 8 (.b false) .nil)) rfl
  |x0::y0,x1::y1,p,p_1,hp0,hp1,hq1,hl1=>by
    have hc:=hcy b_J hp0
    have Hx0:=hxy hp0
    have Hx1:(a1)[toNat (length p:Int)]?=some x1:=by
      rw[← hp1,hq1,Int.toNat_natCast]; simp
    obtain⟨Mx0_0,Mx0_1⟩:=hy1 x0 (List.mem_of_getElem? Hx0)
    obtain⟨Mx1_0,Mx1_1⟩:=hy3 x1 (List.mem_of_getElem? Hx1)
    have hlen:=hly hp0
    have hw:wrap .i64 ((length p:Int)+1)=(length p:Int)+1:=wrap64 yb
    simp only[r20_0]
    have f1:0≤(length p:Int):=yb
    have P1 {hs q} (r:PS F X hs q):=(PS.f hc (.f f1 (.f (mp_ b_J Hx0) (.f f1 (.f (mp_ b_J Hx1) (.h 8 (.b true) (.h 14 (.row (b_J x0)) (.h 22 (.row (b_J x1)) (.r 26 [] [] (e11 (l0_5:=(l0_0+1)) (l1_5:=(l1_0+1)) (a0:=x0) (a1:=x1) ‹_› ‹_› ‹_› ‹_›) r)))))))))
    by_cases h_1:(!(m11 x0 x1))=true
    · try simp only[if_pos h_1]
      exact lx 32 ya (P1 (.f h_1 (.h 29 (.b true) .nil))) rfl
    · try simp only[if_neg h_1]
      have ih:=t20_0 (l0_0:=l0_0) (l1_0:=l1_0) (a0:=a0) (a1:=a1) hy0 hy1 hy2 hy3 y0 y1 (p++ [x0]) (p_1++ [x1]) ye yak yq yal
      rw[pl1,← hw] at ih; rw[← hw]
      exact ly 36 ya (P1 (.f (nt h_1) (.f trivial (.h 29 (.b false) .nil)))) ih
end Go.Proofs.YtmdocdnidilaiaaGreat.PutJob
