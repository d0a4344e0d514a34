/- What the functions compute. -/
import Derived.Test.YtmdocdnidilaiaaGreatEPutJobC
import Derived.KernelRfl
namespace Go.Proofs.YtmdocdnidilaiaaGreat.PutJob
open Go Go.Proofs.YtmdocdnidilaiaaGreat.V
set_option linter.unusedVariables false
set_option linter.unusedSimpArgs false
set_option maxRecDepth 20000
open Go.IntKind (wrap)
open Int (toNat)
open List (length_replicate length_map length_set length_append length_cons length_nil length_take length_drop take_of_length_le map_take map_drop map_set append_assoc getElem?_map map length take drop getD set)
attribute [local simp] toBR_i fullR_i pureR_i lenB_i lenD_i fromBR_i copy_i toBR_N fullR_N pureR_N lenB_N lenD_N toBR_U fullR_U pureR_U lenB_U lenD_U toBR_T fullR_T pureR_T lenB_T lenD_T toBR_J fullR_J pureR_J lenB_J lenD_J toBR_JL fullR_JL pureR_JL lenB_JL lenD_JL toBR_b fullR_b pureR_b lenB_b lenD_b fromBR_b copy_b toBR_JR fullR_JR pureR_JR lenB_JR lenD_JR toBR_G fullR_G pureR_G lenB_G lenD_G toBR_TL fullR_TL pureR_TL lenB_TL lenD_TL toBR_LiE fullR_LiE pureR_LiE lenB_LiE lenD_LiE toBR_NL fullR_NL pureR_NL lenB_NL lenD_NL toBR_UL fullR_UL pureR_UL lenB_UL lenD_UL strInts_len byteRows_len toBR_y fullR_y pureR_y lenB_y lenD_y fromBR_y copy_y toBR_LyE fullR_LyE pureR_LyE lenB_LyE lenD_LyE toBR_LLyEE fullR_LLyEE pureR_LLyEE lenB_LLyEE lenD_LLyEE
/-! loop.example/g00539/spec.l6Fault -/
def m38 (a0:K_G):Int:=
  if(!(m36 a0.f0 0 2147483646))=true then 3 else
  if(!(m36 a0.f1 1 99999))=true then 3 else
    if(!(m66 a0.f2))=true then 3 else
      if(!(m36 a0.f3 0 65535))=true then 3 else
        if(decide (((length (map b_T a0.f4)):Int) < 1))=true then 2 else
          if(decide (((length (map b_T a0.f4)):Int) > 4))=true then 2 else
            (match r38_0 a0 a0.f4 0 with | .k0 w0_34 w1_34=>(if(!(m68 a0))=true then 1 else if(m69 (m70 a0))=true then 6 else 0) | .k1 w0_34=>w0_34)
theorem e38 {l0:Nat} {a0:K_G} (hy0:length a0.f4*56≤140737488351232) (hy1:∀z∈a0.f4,ok_T z):Ev F X (.call 38 [(.bptr l0 (b_G a0))] [] [] [(.one (.val (.int .i64 (m38 a0))))]):=by
  unfold m38
  have P0 {hs q} (r:PS F X hs q):=(PS.r 11 [] [] (e65 (a0:=a0.f0)) r)
  by_cases h0:(!(m36 a0.f0 0 2147483646))=true
  · try simp only[if_pos h0]
    exact cp ya (P0 (.f h0 (.f h0 (.f h0 (.f h0 (.f h0 (.f h0 (.f h0 (.h 16 (.b true) (.h 18 (.b true) (.h 20 (.b true) (.h 22 (.b true) (.h 24 (.b true) (.h 26 (.b true) (.h 29 (.b true) .nil)))))))))))))))
  · try simp only[if_neg h0]
    have P1 {hs q} (r:PS F X hs q):=(P0 (.f (nt h0) (.f (nt h0) (.f (nt h0) (.f (nt h0) (.f (nt h0) (.h 16 (.b false) (.h 18 (.b false) (.h 20 (.b false) (.h 22 (.b false) (.h 24 (.b false) (.r 25 [] [] (e36 (a0:=a0.f1) (a1:=1) (a2:=99999)) (.f (nt h0) (.f (nt h0) (.h 26 (.b false) (.h 29 (.b false) r))))))))))))))))
    by_cases h1:(!(m36 a0.f1 1 99999))=true
    · try simp only[if_pos h1]
      exact cp ya (P1 (.f h1 (.f h1 (.f h1 (.f h1 (.f h1 (.f h1 (.f h1 (.h 32 (.b true) (.h 34 (.b true) (.h 36 (.b true) (.h 38 (.b true) (.h 40 (.b true) (.h 42 (.b true) (.h 45 (.b true) .nil)))))))))))))))
    · try simp only[if_neg h1]
      have P2 {hs q} (r:PS F X hs q):=(P1 (.f (nt h1) (.f (nt h1) (.f (nt h1) (.f (nt h1) (.f (nt h1) (.h 32 (.b false) (.h 34 (.b false) (.h 36 (.b false) (.h 38 (.b false) (.h 40 (.b false) (.r 41 [] [] (e66 (a0:=a0.f2)) (.f (nt h1) (.f (nt h1) (.h 42 (.b false) (.h 45 (.b false) r))))))))))))))))
      by_cases h2:(!(m66 a0.f2))=true
      · try simp only[if_pos h2]
        exact cp ya (P2 (.f h2 (.f h2 (.f h2 (.f h2 (.f h2 (.f h2 (.f h2 (.h 48 (.b true) (.h 50 (.b true) (.h 52 (.b true) (.h 54 (.b true) (.h 56 (.b true) (.h 58 (.b true) (.h 61 (.b true) .nil)))))))))))))))
      · try simp only[if_neg h2]
        have P3 {hs q} (r:PS F X hs q):=(P2 (.f (nt h2) (.f (nt h2) (.f (nt h2) (.f (nt h2) (.f (nt h2) (.h 48 (.b false) (.h 50 (.b false) (.h 52 (.b false) (.h 54 (.b false) (.h 56 (.b false) (.r 57 [] [] (e36 (a0:=a0.f3) (a1:=0) (a2:=65535)) (.f (nt h2) (.f (nt h2) (.h 58 (.b false) (.h 61 (.b false) r))))))))))))))))
        by_cases h3:(!(m36 a0.f3 0 65535))=true
        · try simp only[if_pos h3]
          exact cp ya (P3 (.f h3 (.h 62 (.b true) .nil)))
        · try simp only[if_neg h3]
          have P4 {hs q} (r:PS F X hs q):=(P3 (.f (nt h3) (.h 62 (.b false) r)))
          by_cases h4:(decide (((length (map b_T a0.f4)):Int) < 1))=true
          · try simp only[if_pos h4]
            exact cp ya (P4 (.f h4 (.f h4 (.f h4 (.f h4 (.f h4 (.f h4 (.f h4 (.h 77 (.b true) (.h 79 (.b true) (.h 81 (.b true) (.h 83 (.b true) (.h 85 (.b true) (.h 87 (.b true) (.h 90 (.b true) .nil)))))))))))))))
          · try simp only[if_neg h4]
            have P5 {hs q} (r:PS F X hs q):=(P4 (.f (nt h4) (.f (nt h4) (.f (nt h4) (.f (nt h4) (.f (nt h4) (.f (nt h4) (.f (nt h4) (.h 77 (.b false) (.h 79 (.b false) (.h 81 (.b false) (.h 83 (.b false) (.h 85 (.b false) (.h 87 (.b false) (.h 90 (.b false) r)))))))))))))))
            by_cases h5:(decide (((length (map b_T a0.f4)):Int) > 4))=true
            · try simp only[if_pos h5]
              exact cp ya (P5 (.f h5 (.h 91 (.b true) .nil)))
            · try simp only[if_neg h5]
              have P6 {hs q} (r:PS F X hs q):=(P5 (.f (nt h5) (.h 91 (.b false) r)))
              cases h6:r38_0 a0 a0.f4 0 with
              |k0 w0_34 w1_34=>
                try dsimp only
                have f34:=Eq.refl (h38_0 l0 a0 0 )
                have P7 {hs q} (r:PS F X hs q):=(P6 (.f f34 (.f (ev_ (e:=ex38_0) (g:=(fin38_0 l0 a0)) h6 (t38_0 (l0:=l0) (a0:=a0) (by assumption) (by assumption) a0.f4 []  rfl)) (.h 94 (.loop (h38_0 l0 a0 0) (.exit 0) ⟨[(0,(.bptr l0 (b_G a0))),(3,(.oi w0_34)),(55,(.one (.val (.bool w1_34))))],[]⟩) (.r 98 [] [] (e68 (l0:=(l0+1)) (a0:=a0) ‹_› ‹_›) r)))))
                by_cases h7:(!(m68 a0))=true
                · try simp only[if_pos h7]
                  exact cp ya (P7 (.f h7 (.h 101 (.b true) .nil)))
                · try simp only[if_neg h7]
                  have f40:Ev F X (.call 69 [(.one (.ref ⟨(0,0,0),[],0,(length (map d_i (m70 a0)))⟩))] [((0,0,0),⟨1,(map d_i (m70 a0)),[]⟩)] [] [(.one (.val (.bool (m69 (m70 a0)))))]):=(e69 (a0:=(m70 a0)) (by rw[ln70]; simp only[decide_eq_true_eq,length_map] at*; omega))
                  have P8 {hs q} (r:PS F X hs q):=(P7 (.f (nt h7) (.h 101 (.b false) (.r 105 [] [] (e70 (l0:=(l0+1)) (a0:=a0) ‹_› ‹_› yai (by exact fun z hz=>ft67 (lb38 ‹_› z hz))) (.f (pureR_i (m70 a0)) (.r 107 [true] [] f40 r))))))
                  by_cases h8:(m69 (m70 a0))=true
                  · try simp only[if_pos h8]
                    exact cp ya (P8 (.f h8 (.h 108 (.b true) .nil)))
                  · try simp only[if_neg h8]
                    exact cp ya (P8 (.f (nt h8) (.h 108 (.b false) .nil)))
              |k1 w0_34=>
                try dsimp only
                have f34:=Eq.refl (h38_0 l0 a0 0 )
                exact cp ya (P6 (.f f34 (.f (ev_ (e:=ex38_0) (g:=(fin38_0 l0 a0)) h6 (t38_0 (l0:=l0) (a0:=a0) (by assumption) (by assumption) a0.f4 []  rfl)) (.h 94 (.loop (h38_0 l0 a0 0) .ret ⟨[(2,(.oi w0_34))],[]⟩) .nil))))
theorem bs38 {a:K_G} (h:m38 a=0):1≤length a.f4∧length a.f4≤4∧∀z∈a.f4,SmT z:=by
  unfold m38 at h
  iterate 6 (split at h; exact absurd h yM)
  rename_i c1 c2
  simp only[decide_eq_true_eq,length_map] at c1 c2
  cases hr:r38_0 a a.f4 0 with
  |k1 w=>rw[hr] at h; simp only[] at h; subst h; exact absurd hr (ne38 _ _)
  |k0 j b=>exact⟨by omega,by omega,fun z hz=>ft67 (lb38 hr z hz)⟩
/-! loop.example/g00539/spec.l11One -/
def m35 (a0:K_J):Int:=
  if(!(m36 a0.f0 0 9999))=true then 3 else
  if((m38 (K_G.mk a0.f1 a0.f2 a0.f3 a0.f4 a0.f5)) !=0)=true then(m38 (K_G.mk a0.f1 a0.f2 a0.f3 a0.f4 a0.f5)) else
    if(((length (map b_U ((getD a0.f5 0 (K_T.mk 0 [] [])).f2))):Int) !=2)=true then 1 else
      0
theorem e35 {l0:Nat} {a0:K_J} (hy0:length a0.f5*56≤140737488351232) (hy1:∀z∈a0.f5,ok_T z):Ev F X (.call 35 [(.bptr l0 (b_J a0))] [] [] [(.one (.val (.int .i64 (m35 a0))))]):=by
  unfold m35
  have P0 {hs q} (r:PS F X hs q):=(PS.r 11 [] [] (e36 (a0:=a0.f0) (a1:=0) (a2:=9999)) r)
  by_cases h0:(!(m36 a0.f0 0 9999))=true
  · try simp only[if_pos h0]
    exact cp ya (P0 (.f h0 (.h 14 (.b true) .nil)))
  · try simp only[if_neg h0]
    have P1 {hs q} (r:PS F X hs q):=(P0 (.f (nt h0) (.h 14 (.b false) (.r 22 [] [] (e38 (l0:=(l0+1)) (a0:=(K_G.mk a0.f1 a0.f2 a0.f3 a0.f4 a0.f5)) ‹_› ‹_›) r))))
    by_cases h1:((m38 (K_G.mk a0.f1 a0.f2 a0.f3 a0.f4 a0.f5)) !=0)=true
    · try simp only[if_pos h1]
      exact cp ya (P1 (.f h1 (.h 29 (.b true) .nil)))
    · try simp only[if_neg h1]
      have f4:0≤(0:Int):=yb
      have P2 {hs q} (r:PS F X hs q):=(P1 (.f (nt h1) (.f f4 (.f (mp_ b_T (getD_at a0.f5 0 (K_T.mk 0 [] []) (by have q:=(bs38 (a:=K_G.mk a0.f1 a0.f2 a0.f3 a0.f4 a0.f5) (by simpa using h1)).1; simp only[length_map] at*; omega))) (.h 29 (.b false) (.h 41 (.row (b_T (getD a0.f5 0 (K_T.mk 0 [] [])))) r))))))
      by_cases h2:(((length (map b_U ((getD a0.f5 0 (K_T.mk 0 [] [])).f2))):Int) !=2)=true
      · try simp only[if_pos h2]
        exact cp ya (P2 (.f h2 (.h 50 (.b true) .nil)))
      · try simp only[if_neg h2]
        exact cp ya (P2 (.f (nt h2) (.h 50 (.b false) .nil)))
theorem js35 {a:K_J} (h:m35 a=0):SmJ a:=by
  unfold m35 at h
  split at h
  · exact absurd h yM
  · split at h
    · rename_i c; rw[h] at c; exact absurd c yM
    · split at h
      · exact absurd h yM
      · rename_i c1 c2
        have q:=bs38 (a:=(K_G.mk a.f1 a.f2 a.f3 a.f4 a.f5)) (by simpa using c1)
        simp only[length_map,bne_iff_ne,ne_eq,Decidable.not_not] at c2
        exact⟨q.1,q.2.1,q.2.2,by omega⟩
/-! loop 47_0 -/
inductive O47_0 where
  |k0 (w0:Int) (w1:Bool)
  |k1 (w0:Int)
  |k2
def r47_0 (a0:(List K_J)):List K_J→Int→O47_0
  |x0::y0,i=>
    if((m35 x0) !=0)=true then(O47_0.k1 (m35 x0)) else
    if (decide (i > 0)) = true then (if (decide (x0.f0 ≤ ((getD a0 (toNat (wrap .i64 (i - 1))) (K_J.mk 0 0 0 0 0 [])).f0))) = true then (O47_0.k2) else
        (r47_0 a0 y0 (i+1))) else
      (r47_0 a0 y0 (i+1))
  |[],i=>(O47_0.k0 i (decide (i <((length (map b_J a0)):Int))))
def h47_0 (l0_0:Nat) (a0:(List K_J)) (i:Int) :St:=⟨[(0,(.one (.bor l0_0 (map b_J a0)))),(3,(.one (.val (.int .i64 i))))],[]⟩
def ex47_0:O47_0→VX.Exit
  |.k0 _ _=>(.exit 0)
  |.k1 _=>.ret
  |.k2=>.ret
def fin47_0 (l0_0:Nat) (a0:(List K_J)):O47_0→St
  |.k0 w0 w1=>⟨[(0,(.one (.bor l0_0 (map b_J a0)))),(3,(.one (.val (.int .i64 w0)))),(11,(.one (.val (.bool w1))))],[]⟩
  |.k1 w0=>⟨[(2,(.one (.val (.int .i64 w0))))],[]⟩
  |.k2=>⟨[(2,(.one (.val (.int .i64 1))))],[]⟩
theorem t47_0 {l0_0:Nat} {a0:(List K_J)} (hy0:length a0*64≤140737488351232) (hy1:∀z∈a0,ok_J z):∀(y0:List K_J) (p:List K_J),p++y0=a0→Ev F X (.code l47_0 (h47_0 l0_0 a0 (length p:Int)) (ex47_0 (r47_0 a0 y0 (length p:Int))) (fin47_0 l0_0 a0 (r47_0 a0 y0 (length p:Int))))
  |[],p,hp0=>by
    have hc:=hcn b_J hp0
    exact lx 9 ya (.f (nt hc) (.h 8 (.b false) .nil)) rfl
  |x0::y0,p,hp0=>by
    have hc:=hcy b_J hp0
    have Hx0:=hxy hp0
    obtain⟨Mx0_0,Mx0_1⟩:=hy1 x0 (List.mem_of_getElem? Hx0)
    have hlen:=hly hp0
    have hw:wrap .i64 ((length p:Int)+1)=(length p:Int)+1:=wrap64 yb
    simp only[r47_0]
    have f1:0≤(length p:Int):=yb
    have P1 {hs q} (r:PS F X hs q):=(PS.f hc (.f f1 (.f (mp_ b_J Hx0) (.h 8 (.b true) (.h 14 (.row (b_J x0)) (.r 16 [] [] (e35 (l0:=(l0_0+1)) (a0:=x0) ‹_› ‹_›) r))))))
    by_cases h_1:((m35 x0) !=0)=true
    · try simp only[if_pos h_1]
      exact lx 28 ya (P1 (.f h_1 (.h 23 (.b true) .nil))) rfl
    · try simp only[if_neg h_1]
      have P2 {hs q} (r:PS F X hs q):=(P1 (.f (nt h_1) (.h 23 (.b false) r)))
      by_cases h_2:(decide ((length p:Int) > 0))=true
      · try simp only[if_pos h_2]
        have f16:0≤(wrap .i64 ((length p:Int) - 1)):=yO
        have P3 {hs q} (r:PS F X hs q):=(P2 (.f h_2 (.f h_2 (.f h_2 (.f f1 (.f (mp_ b_J Hx0) (.f h_2 (.f h_2 (.f h_2 (.f h_2 (.f h_2 (.f h_2 (.f f16 (.f (mp_ b_J (getD_at a0 (toNat (wrap .i64 ((length p:Int) - 1))) (K_J.mk 0 0 0 0 0 []) yO)) (.f h_2 (.f h_2 (.f h_2 (.f h_2 (.h 30 (.b true) (.h 32 (.b true) (.h 34 (.b true) (.h 35 (.row (b_J x0)) (.h 36 (.b true) (.h 38 (.b true) (.h 40 (.b true) (.h 42 (.b true) (.h 44 (.b true) (.h 46 (.b true) (.h 47 (.row (b_J (getD a0 (toNat (wrap .i64 ((length p:Int) - 1))) (K_J.mk 0 0 0 0 0 [])))) (.h 48 (.b true) (.h 50 (.b true) (.h 52 (.b true) (.h 55 (.b true) r)))))))))))))))))))))))))))))))))
        by_cases h_3:(decide (x0.f0≤((getD a0 (toNat (wrap .i64 ((length p:Int) - 1))) (K_J.mk 0 0 0 0 0 [])).f0)))=true
        · try simp only[if_pos h_3]
          exact lx 59 ya (P3 (.f h_3 (.h 56 (.b true) .nil))) rfl
        · try simp only[if_neg h_3]
          have ih:=t47_0 (l0_0:=l0_0) (a0:=a0) hy0 hy1 y0 (p++ [x0]) ye
          rw[pl1,← hw] at ih; rw[← hw]
          exact ly 63 ya (P3 (.f (nt h_3) (.f trivial (.h 56 (.b false) .nil)))) ih
      · try simp only[if_neg h_2]
        have ih:=t47_0 (l0_0:=l0_0) (a0:=a0) hy0 hy1 y0 (p++ [x0]) ye
        rw[pl1,← hw] at ih; rw[← hw]
        exact ly 63 ya (P2 (.f (nt h_2) (.f (nt h_2) (.f (nt h_2) (.f (nt h_2) (.f (nt h_2) (.f (nt h_2) (.f (nt h_2) (.f (nt h_2) (.f (nt h_2) (.f (nt h_2) (.f (nt h_2) (.f (nt h_2) (.f (nt h_2) (.f trivial (.h 30 (.b false) (.h 32 (.b false) (.h 34 (.b false) (.h 36 (.b false) (.h 38 (.b false) (.h 40 (.b false) (.h 42 (.b false) (.h 44 (.b false) (.h 46 (.b false) (.h 48 (.b false) (.h 50 (.b false) (.h 52 (.b false) (.h 55 (.b false) .nil)))))))))))))))))))))))))))) ih
theorem jl47 {a:List K_J}:∀ {l:List K_J} {i:Int} {j b},r47_0 a l i=.k0 j b→∀x∈l,SmJ x
  |[],i,j,b,h,x,hx=>by cases hx
  |y::l,i,j,b,h,x,hx=>by
    simp only[r47_0] at h
    by_cases c:((m35 y) !=0)=true
    · rw[if_pos c] at h; cases h
    · rw[if_neg c] at h
      have y0:=js35 (a:=y) (by simpa using c)
      have ih:∀j b,r47_0 a l (i+1)=.k0 j b→SmJ x:=fun j b e=>by
        rcases List.mem_cons.1 hx with rfl | hx
        · exact y0
        · exact jl47 e x hx
      (repeat' split at h)<;>first | exact ih _ _ h | cases h
theorem nj47 {a:List K_J}:∀(l:List K_J) (i:Int),r47_0 a l i≠.k1 0
  |[],i=>by simp only[r47_0]; intro h; cases h
  |y::l,i=>by
    simp only[r47_0]
    (repeat' split)<;>first | exact nj47 l _ |(intro q; cases q; done) |(rename_i h; intro q; injection q with q; rw[q] at h; exact absurd h yM) |(intro q; injection q with q; simp_all)
/-! loop.example/g00539/spec.l11Fault -/
def m47 (a0:(List K_J)):Int:=
  if(decide (((length (map b_J a0)):Int) > 4))=true then 2 else
  (match r47_0 a0 a0 0 with | .k0 w0_1 w1_1=>0 | .k1 w0_1=>w0_1 | .k2=>1)
theorem e47 {l0_0:Nat} {a0:(List K_J)} (hy0:length a0*64≤140737488351232) (hy1:∀z∈a0,ok_J z):Ev F X (.call 47 [(.one (.bor l0_0 (map b_J a0)))] [] [] [(.one (.val (.int .i64 (m47 a0))))]):=by
  unfold m47
  by_cases h0:(decide (((length (map b_J a0)):Int) > 4))=true
  · try simp only[if_pos h0]
    exact cp ya (.f h0 (.h 8 (.b true) .nil))
  · try simp only[if_neg h0]
    cases h1:r47_0 a0 a0 0 with
    |k0 w0_1 w1_1=>
      try dsimp only
      have f1:=Eq.refl (h47_0 l0_0 a0 0 )
      exact cp ya (.f (nt h0) (.f f1 (.f (ev_ (e:=ex47_0) (g:=(fin47_0 l0_0 a0)) h1 (t47_0 (l0_0:=l0_0) (a0:=a0) (by assumption) (by assumption) a0 []  rfl)) (.h 8 (.b false) (.h 11 (.loop (h47_0 l0_0 a0 0) (.exit 0) ⟨[(0,(.one (.bor l0_0 (map b_J a0)))),(3,(.oi w0_1)),(11,(.one (.val (.bool w1_1))))],[]⟩) .nil)))))
    |k1 w0_1=>
      try dsimp only
      have f1:=Eq.refl (h47_0 l0_0 a0 0 )
      exact cp ya (.f (nt h0) (.f f1 (.f (ev_ (e:=ex47_0) (g:=(fin47_0 l0_0 a0)) h1 (t47_0 (l0_0:=l0_0) (a0:=a0) (by assumption) (by assumption) a0 []  rfl)) (.h 8 (.b false) (.h 11 (.loop (h47_0 l0_0 a0 0) .ret ⟨[(2,(.oi w0_1))],[]⟩) .nil)))))
    |k2=>
      try dsimp only
      have f1:=Eq.refl (h47_0 l0_0 a0 0 )
      exact cp ya (.f (nt h0) (.f f1 (.f (ev_ (e:=ex47_0) (g:=(fin47_0 l0_0 a0)) h1 (t47_0 (l0_0:=l0_0) (a0:=a0) (by assumption) (by assumption) a0 []  rfl)) (.h 8 (.b false) (.h 11 (.loop (h47_0 l0_0 a0 0) .ret ⟨[(2,(.oi 1))],[]⟩) .nil)))))
theorem js47 {a:List K_J} (h:m47 a=0):length a≤4∧∀z∈a,SmJ z:=by
  unfold m47 at h
  split at h
  · exact absurd h yM
  · rename_i c
    simp only[decide_eq_true_eq,length_map] at c
    cases hr:r47_0 a a 0 with
    |k0 j b=>exact⟨by omega,jl47 hr⟩
    |k1 w=>rw[hr] at h; simp only[] at h; subst h; exact absurd hr (nj47 _ _)
    |_=>rw[hr] at h; exact absurd h yM
theorem e149 {l0_0:Nat} {a0:(List Int)} (hy0:length a0*8≤70368744177664):Ev F X (.call 149 [(.one (.bor l0_0 (map b_i a0)))] [] [] [(.one (.own 1 (map d_i a0)))]):=by
  have f0:0+0≤0:=yb
  have f1:(length ([]++(fromBR l0_0 (map b_i a0))))*8≤70368744177664:=(by simp[ol112,ol83,ol84,ol51,ol45_0,ol12_0,four_len]; omega)
  have f2:∀r∈((fromBR l0_0 (map b_i a0)):List (List D)),r.length=1:=(by simp[*,ol112,ol83,ol84,ol51,ol45_0,ol12_0,four_len,b_i,d_i,byteRows_eq,ints_y]; done)
  have f3:([]++(fromBR l0_0 (map b_i a0)))=(map d_i a0):=yV
  have f5:(length ([]++(fromBR l0_0 (map b_i a0))))=(length (map d_i a0)):=yC
  exact cp ya (.f f0 (.f f1 (.f f2 (.f f3 (pe 0 (.f f5 (.f (pureR_i a0) (.h 10 (.norm (2,0,0) (map d_i a0)) .nil))))))))
/-! loop 122_0 -/
inductive O122_0 where
  |k0 (w0:List K_N) (w1:Int) (w2:Bool)
def r122_0 (a0:K_T):List K_N→Int→List K_N→O122_0
  |x0::y0,i,v0=>
    (r122_0 a0 y0 (i+1) (v0++([x0])))
  |[],i,v0=>(O122_0.k0 v0 i (decide (i <((length (map b_N a0.f1)):Int))))
def h122_0 (l0_1:Nat) (l0_2:Nat) (a0:K_T) (i:Int) (v0:List K_N):St:=⟨[(1,(.ptr ⟨(1,0,0),[],0,0,3⟩)),(2,(.ptr ⟨(2,0,0),[],0,0,3⟩)),(3,(.ptr ⟨(3,0,0),[],0,0,3⟩)),(4,(.one (.val (.int .i64 i))))],[((1,0,0),.live ⟨3,[[(.val (.int .i64 a0.f0)),(.bor l0_1 (map b_N a0.f1)),(.bor l0_2 (map b_U a0.f2))]],[]⟩),((2,0,0),.live ⟨3,[[(.val (.int .i64 0)),(.own 3 []),(.own 2 [])]],[]⟩),((3,0,0),.live ⟨3,[[(.val (.int .i64 a0.f0)),(.own 3 (map d_N v0)),(.own 2 [])]],[]⟩)]⟩
def ex122_0:O122_0→VX.Exit
  |.k0 _ _ _=>(.exit 0)
def fin122_0 (l0_1:Nat) (l0_2:Nat) (a0:K_T):O122_0→St
  |.k0 w0 w1 w2=>⟨[(1,(.ptr ⟨(1,0,0),[],0,0,3⟩)),(2,(.ptr ⟨(2,0,0),[],0,0,3⟩)),(3,(.ptr ⟨(3,0,0),[],0,0,3⟩)),(4,(.one (.val (.int .i64 w1)))),(13,(.one (.val (.bool w2))))],[((1,0,0),.live ⟨3,[[(.val (.int .i64 a0.f0)),(.bor l0_1 (map b_N a0.f1)),(.bor l0_2 (map b_U a0.f2))]],[]⟩),((2,0,0),.live ⟨3,[[(.val (.int .i64 0)),(.own 3 []),(.own 2 [])]],[]⟩),((3,0,0),.live ⟨3,[[(.val (.int .i64 a0.f0)),(.own 3 (map d_N w0)),(.own 2 [])]],[]⟩)]⟩
theorem t122_0 {l0_1:Nat} {l0_2:Nat} {a0:K_T} (hy0:length a0.f1*40≤140737488351232) (hy1:∀z∈a0.f1,ok_N z) (hy2:length a0.f2*32≤140737488351232) (hy3:∀z∈a0.f2,ok_U z) (hy4:SmT a0):∀(y0:List K_N) (p:List K_N) (v0:List K_N),p++y0=a0.f1→(length v0+length y0)*40≤70368744177664→Ev F X (.code l122_0 (h122_0 l0_1 l0_2 a0 (length p:Int) v0) (ex122_0 (r122_0 a0 y0 (length p:Int) v0)) (fin122_0 l0_1 l0_2 a0 (r122_0 a0 y0 (length p:Int) v0)))
  |[],p,v0,hp0,hi0=>by
    have hc:=hcn b_N hp0
    have hj0:=hi0; try simp only[LN,Int.toNat_natCast] at hj0
    exact lx 11 ya (.f (nt hc) (.h 10 (.b false) .nil)) rfl
  |x0::y0,p,v0,hp0,hi0=>by
    have hc:=hcy b_N hp0
    have Hx0:=hxy hp0
    have Mx0_0:=hy1 x0 (List.mem_of_getElem? Hx0)
    have hlen:=hly hp0
    have hw:wrap .i64 ((length p:Int)+1)=(length p:Int)+1:=wrap64 yb
    have hj0:=hi0; try simp only[LN,Int.toNat_natCast] at hj0
    simp only[r122_0]
    have f1:0≤(length p:Int):=yb
    have f10:0+(length (map d_N v0))≤(length (map d_N v0)):=yb
    have f11:1≤1:=yb
    have f12:((take 1 (drop 0 [[(.i x0.f0),(.i x0.f1),(.own 1 (map d_i x0.f2))]])).all fun x=>x.all copyable)=false:=yL
    have f15:(length ((take (length (map d_N v0)) (drop 0 (map d_N v0)))++([[(.i x0.f0),(.i x0.f1),(.own 1 (map d_i x0.f2))]]:List (List D))))*40≤70368744177664:=yr
    have f16:∀r∈([[(.i x0.f0),(.i x0.f1),(.own 1 (map d_i x0.f2))]]:List (List D)),r.length=3:=yC
    have f19:([[(.i a0.f0),(.own 3 ((take (length (map d_N v0)) (drop 0 (map d_N v0)))++([[(.i x0.f0),(.i x0.f1),(.own 1 (map d_i x0.f2))]]:List (List D)))),(.own 2 [])]]:List (List D))=[[(.i a0.f0),(.own 3 (map d_N (v0++([x0])))),(.own 2 [])]]:=(by simp[take_of_length_le,d_i,d_N,ol112,ol83,ol84,ol51,ol45_0,ol12_0,four_len]; done)
    have ih:=t122_0 (l0_1:=l0_1) (l0_2:=l0_2) (a0:=a0) hy0 hy1 hy2 hy3 hy4 y0 (p++ [x0]) (v0++([x0])) ye yq
    rw[pl1,← hw] at ih; rw[← hw]
    exact ly 70 ya (.f hc (.f f1 (.f (mp_ b_N Hx0) (.f f1 (.f (mp_ b_N Hx0) (.f f1 (.f (mp_ b_N Hx0) (.h 10 (.b true) (.h 22 (.row [(.i x0.f0),(.i x0.f1),(.sl (map b_i x0.f2))]) (.h 34 (.row [(.i x0.f0),(.i x0.f1),(.sl (map b_i x0.f2))]) (.h 46 (.row [(.i x0.f0),(.i x0.f1),(.sl (map b_i x0.f2))]) (.r 52 [] [] (e149 (l0_0:=(l0_1+1)) (a0:=x0.f2) (by have q:=hy4.2.1 x0 (List.mem_of_getElem? Hx0); omega)) (pe 0 (pe (length (map d_i x0.f2)) (.f f10 (.f f11 (.f f12 (pe 0 (pe 1 (.f f15 (.f f16 (pe 0 (pe (length ((take (length (map d_N v0)) (drop 0 (map d_N v0)))++([[(.i x0.f0),(.i x0.f1),(.own 1 (map d_i x0.f2))]]:List (List D)))) (.f f19 (.f trivial (.h 58 (.b false) (.h 63 (.norm (3,0,0) [[(.i a0.f0),(.own 3 (map d_N (v0++([x0])))),(.own 2 [])]]) .nil))))))))))))))))))))))))))) ih
def post122_0 (n0:Nat):O122_0→Prop
  |.k0 w0 _ _=>length w0=n0
theorem z122_0 {a0:K_T}:∀(y0:List K_N) (i:Int) (v0:List K_N),post122_0 (length v0+length y0) (r122_0 a0 y0 i v0)
  |[],i,v0=>by
    first | trivial |(simp only[post122_0,length_nil,Nat.add_zero]; done) |(simp[post122_0]; done)
  |x0::y0,i,v0=>by
    simp only[r122_0]
    have z:=z122_0 (a0:=a0) y0 (i+1) (v0++([x0]))
    rw[show (length v0+length (x0::y0))=(length (v0++([x0]))+length y0) from by first | omega |(simp only[LN]; done) |(simp only[LN]; omega)]
    exact z
theorem cp122_0 (a:K_T):∀(l:List K_N) (i:Int) (v:List K_N),∃j b,r122_0 a l i v=.k0 (v++l) j b
  |[],i,v=>⟨_,_,by simp only[r122_0,List.append_nil]; rfl⟩
  |x::l,i,v=>by
    obtain⟨j,b,h⟩:=cp122_0 a l (i+1) (v++ [x])
    exact⟨j,b,by simp only[r122_0]; rw[h,append_assoc]; rfl⟩
/-! loop 122_1 -/
inductive O122_1 where
  |k0 (w0:List K_U) (w1:Int) (w2:Bool)
def r122_1 (a0:K_T):List K_U→Int→List K_U→O122_1
  |x0::y0,i,v0=>
    (r122_1 a0 y0 (i+1) (v0++([x0])))
  |[],i,v0=>(O122_1.k0 v0 i (decide (i <((length (map b_U a0.f2)):Int))))
def h122_1 (l0_1:Nat) (l0_2:Nat) (a0:K_T) (c0_122_1:List K_N) (i:Int) (v0:List K_U):St:=⟨[(1,(.ptr ⟨(1,0,0),[],0,0,3⟩)),(2,(.ptr ⟨(2,0,0),[],0,0,3⟩)),(3,(.ptr ⟨(3,0,0),[],0,0,3⟩)),(5,(.one (.val (.int .i64 i))))],[((1,0,0),.live ⟨3,[[(.val (.int .i64 a0.f0)),(.bor l0_1 (map b_N a0.f1)),(.bor l0_2 (map b_U a0.f2))]],[]⟩),((2,0,0),.live ⟨3,[[(.val (.int .i64 0)),(.own 3 []),(.own 2 [])]],[]⟩),((3,0,0),.live ⟨3,[[(.val (.int .i64 a0.f0)),(.own 3 (map d_N c0_122_1)),(.own 2 (map d_U v0))]],[]⟩)]⟩
def ex122_1:O122_1→VX.Exit
  |.k0 _ _ _=>(.exit 2)
def fin122_1 (l0_1:Nat) (l0_2:Nat) (a0:K_T) (c0_122_1:List K_N):O122_1→St
  |.k0 w0 w1 w2=>⟨[(1,(.ptr ⟨(1,0,0),[],0,0,3⟩)),(2,(.ptr ⟨(2,0,0),[],0,0,3⟩)),(3,(.ptr ⟨(3,0,0),[],0,0,3⟩)),(5,(.one (.val (.int .i64 w1)))),(45,(.one (.val (.bool w2))))],[((1,0,0),.live ⟨3,[[(.val (.int .i64 a0.f0)),(.bor l0_1 (map b_N a0.f1)),(.bor l0_2 (map b_U a0.f2))]],[]⟩),((2,0,0),.live ⟨3,[[(.val (.int .i64 0)),(.own 3 []),(.own 2 [])]],[]⟩),((3,0,0),.live ⟨3,[[(.val (.int .i64 a0.f0)),(.own 3 (map d_N c0_122_1)),(.own 2 (map d_U w0))]],[]⟩)]⟩
theorem t122_1 {l0_1:Nat} {l0_2:Nat} {a0:K_T} {c0_122_1:List K_N} (hy0:length a0.f1*40≤140737488351232) (hy1:∀z∈a0.f1,ok_N z) (hy2:length a0.f2*32≤140737488351232) (hy3:∀z∈a0.f2,ok_U z) (hy4:SmT a0) (hy5:length c0_122_1≤140737488351232):∀(y0:List K_U) (p:List K_U) (v0:List K_U),p++y0=a0.f2→(length v0+length y0)*32≤70368744177664→Ev F X (.code l122_1 (h122_1 l0_1 l0_2 a0 c0_122_1 (length p:Int) v0) (ex122_1 (r122_1 a0 y0 (length p:Int) v0)) (fin122_1 l0_1 l0_2 a0 c0_122_1 (r122_1 a0 y0 (length p:Int) v0)))
  |[],p,v0,hp0,hi0=>by
    have hc:=hcn b_U hp0
    have hj0:=hi0; try simp only[LN,Int.toNat_natCast] at hj0
    exact lx 11 ya (.f (nt hc) (.h 10 (.b false) .nil)) rfl
  |x0::y0,p,v0,hp0,hi0=>by
    have hc:=hcy b_U hp0
    have Hx0:=hxy hp0
    have Mx0_0:=hy3 x0 (List.mem_of_getElem? Hx0)
    have hlen:=hly hp0
    have hw:wrap .i64 ((length p:Int)+1)=(length p:Int)+1:=wrap64 yb
    have hj0:=hi0; try simp only[LN,Int.toNat_natCast] at hj0
    simp only[r122_1]
    have f1:0≤(length p:Int):=yb
    have f8:0+(length (map d_U v0))≤(length (map d_U v0)):=yb
    have f9:1≤1:=yb
    have f10:((take 1 (drop 0 [[(.i x0.f0),(.own 1 (map d_i x0.f1))]])).all fun x=>x.all copyable)=false:=yL
    have f13:(length ((take (length (map d_U v0)) (drop 0 (map d_U v0)))++([[(.i x0.f0),(.own 1 (map d_i x0.f1))]]:List (List D))))*32≤70368744177664:=yr
    have f14:∀r∈([[(.i x0.f0),(.own 1 (map d_i x0.f1))]]:List (List D)),r.length=2:=yC
    have f17:([[(.i a0.f0),(.own 3 (map d_N c0_122_1)),(.own 2 ((take (length (map d_U v0)) (drop 0 (map d_U v0)))++([[(.i x0.f0),(.own 1 (map d_i x0.f1))]]:List (List D))))]]:List (List D))=[[(.i a0.f0),(.own 3 (map d_N c0_122_1)),(.own 2 (map d_U (v0++([x0]))))]]:=(by simp[take_of_length_le,d_i,d_N,d_U,ol112,ol83,ol84,ol51,ol45_0,ol12_0,four_len]; done)
    have ih:=t122_1 (l0_1:=l0_1) (l0_2:=l0_2) (a0:=a0) (c0_122_1:=c0_122_1) hy0 hy1 hy2 hy3 hy4 hy5 y0 (p++ [x0]) (v0++([x0])) ye yq
    rw[pl1,← hw] at ih; rw[← hw]
    exact ly 58 ya (.f hc (.f f1 (.f (mp_ b_U Hx0) (.f f1 (.f (mp_ b_U Hx0) (.h 10 (.b true) (.h 22 (.row [(.i x0.f0),(.sl (map b_i x0.f1))]) (.h 34 (.row [(.i x0.f0),(.sl (map b_i x0.f1))]) (.r 40 [] [] (e149 (l0_0:=(l0_2+1)) (a0:=x0.f1) (by have q:=hy4.2.2.2 x0 (List.mem_of_getElem? Hx0); omega)) (pe 0 (pe (length (map d_i x0.f1)) (.f f8 (.f f9 (.f f10 (pe 0 (pe 1 (.f f13 (.f f14 (pe 0 (pe (length ((take (length (map d_U v0)) (drop 0 (map d_U v0)))++([[(.i x0.f0),(.own 1 (map d_i x0.f1))]]:List (List D)))) (.f f17 (.f trivial (.h 46 (.b false) (.h 51 (.norm (3,0,0) [[(.i a0.f0),(.own 3 (map d_N c0_122_1)),(.own 2 (map d_U (v0++([x0]))))]]) .nil)))))))))))))))))))))))) ih
def post122_1 (n0:Nat):O122_1→Prop
  |.k0 w0 _ _=>length w0=n0
theorem z122_1 {a0:K_T}:∀(y0:List K_U) (i:Int) (v0:List K_U),post122_1 (length v0+length y0) (r122_1 a0 y0 i v0)
  |[],i,v0=>by
    first | trivial |(simp only[post122_1,length_nil,Nat.add_zero]; done) |(simp[post122_1]; done)
  |x0::y0,i,v0=>by
    simp only[r122_1]
    have z:=z122_1 (a0:=a0) y0 (i+1) (v0++([x0]))
    rw[show (length v0+length (x0::y0))=(length (v0++([x0]))+length y0) from by first | omega |(simp only[LN]; done) |(simp only[LN]; omega)]
    exact z
theorem cp122_1 (a:K_T):∀(l:List K_U) (i:Int) (v:List K_U),∃j b,r122_1 a l i v=.k0 (v++l) j b
  |[],i,v=>⟨_,_,by simp only[r122_1,List.append_nil]; rfl⟩
  |x::l,i,v=>by
    obtain⟨j,b,h⟩:=cp122_1 a l (i+1) (v++ [x])
    exact⟨j,b,by simp only[r122_1]; rw[h,append_assoc]; rfl⟩
/-! loop.example/g00539/spec.l3Copy -/
def m122 (a0:K_T):K_T:=
  (match r122_0 a0 a0.f1 0 [] with | .k0 w0_0 w1_0 w2_0=>(match r122_1 a0 a0.f2 0 [] with | .k0 w0_1 w1_1 w2_1=>(K_T.mk a0.f0 w0_0 w0_1)))
theorem e122 {l0_1:Nat} {l0_2:Nat} {a0:K_T} (hy0:length a0.f1*40≤140737488351232) (hy1:∀z∈a0.f1,ok_N z) (hy2:length a0.f2*32≤140737488351232) (hy3:∀z∈a0.f2,ok_U z) (hy4:SmT a0):Ev F X (.call 122 [(.agg (k_T l0_1 l0_2 a0))] [] [] [(.agg (d_T (m122 a0)))]):=by
  unfold m122
  cases h0:r122_0 a0 a0.f1 0 [] with
  |k0 w0_0 w1_0 w2_0=>
    try dsimp only
    have zh0:=z122_0 (a0:=a0) a0.f1 0 []; rw[h0] at zh0; simp only[post122_0,length_map,length_set,length_append,length_replicate,length_cons,length_nil,Int.toNat_natCast] at zh0
    have f0:=Eq.refl (h122_0 l0_1 l0_2 a0 0 [])
    cases h1:r122_1 a0 a0.f2 0 [] with
    |k0 w0_1 w1_1 w2_1=>
      try dsimp only
      have zh1:=z122_1 (a0:=a0) a0.f2 0 []; rw[h1] at zh1; simp only[post122_1,length_map,length_set,length_append,length_replicate,length_cons,length_nil,Int.toNat_natCast] at zh1
      have f2:=Eq.refl (h122_1 l0_1 l0_2 a0 w0_0 0 [])
      exact cp ya (.f f0 (.f (ev_ (e:=ex122_0) (g:=(fin122_0 l0_1 l0_2 a0)) h0 (t122_0 (l0_1:=l0_1) (l0_2:=l0_2) (a0:=a0) (by assumption) (by assumption) (by assumption) (by assumption) (by assumption) a0.f1 [] [] rfl yT)) (.f f2 (.f (ev_ (e:=ex122_1) (g:=(fin122_1 l0_1 l0_2 a0 w0_0)) h1 (t122_1 (l0_1:=l0_1) (l0_2:=l0_2) (a0:=a0) (c0_122_1:=w0_0) (by assumption) (by assumption) (by assumption) (by assumption) (by assumption) yb a0.f2 [] [] rfl yT)) (pe 0 (pe (length (map d_N w0_0)) (pe 0 (pe (length (map d_U w0_1)) (.f (pureR_N w0_0) (.f (pureR_U w0_1) (.h 16 (.loop (h122_0 l0_1 l0_2 a0 0 []) (.exit 0) ⟨[(1,(.ptr ⟨(1,0,0),[],0,0,3⟩)),(2,(.ptr ⟨(2,0,0),[],0,0,3⟩)),(3,(.ptr ⟨(3,0,0),[],0,0,3⟩)),(4,(.oi w1_0)),(13,(.one (.val (.bool w2_0))))],[((1,0,0),.live ⟨3,[[(.i a0.f0),(.bor l0_1 (map b_N a0.f1)),(.bor l0_2 (map b_U a0.f2))]],[]⟩),((2,0,0),.live ⟨3,[[(.i 0),(.own 3 []),(.own 2 [])]],[]⟩),((3,0,0),.live ⟨3,[[(.i a0.f0),(.own 3 (map d_N w0_0)),(.own 2 [])]],[]⟩)]⟩) (.h 19 (.loop (h122_1 l0_1 l0_2 a0 w0_0 0 []) (.exit 2) ⟨[(1,(.ptr ⟨(1,0,0),[],0,0,3⟩)),(2,(.ptr ⟨(2,0,0),[],0,0,3⟩)),(3,(.ptr ⟨(3,0,0),[],0,0,3⟩)),(5,(.oi w1_1)),(45,(.one (.val (.bool w2_1))))],[((1,0,0),.live ⟨3,[[(.i a0.f0),(.bor l0_1 (map b_N a0.f1)),(.bor l0_2 (map b_U a0.f2))]],[]⟩),((2,0,0),.live ⟨3,[[(.i 0),(.own 3 []),(.own 2 [])]],[]⟩),((3,0,0),.live ⟨3,[[(.i a0.f0),(.own 3 (map d_N w0_0)),(.own 2 (map d_U w0_1))]],[]⟩)]⟩) .nil))))))))))))
theorem q122 (a0:K_T) (hy0:length a0.f1*40≤140737488351232) (hy1:∀z∈a0.f1,ok_N z) (hy2:length a0.f2*32≤140737488351232) (hy3:∀z∈a0.f2,ok_U z) (hy4:SmT a0):(m122 a0)=a0:=by
  obtain⟨j,b,h⟩:=cp122_0 a0 a0.f1 0 []
  obtain⟨j2,b2,h2⟩:=cp122_1 a0 a0.f2 0 []
  unfold m122
  rw[h]
  simp only[]
  rw[h2]
  rfl
theorem g122 {l0_1:Nat} {l0_2:Nat} {a0:K_T} (hy0:length a0.f1*40≤140737488351232) (hy1:∀z∈a0.f1,ok_N z) (hy2:length a0.f2*32≤140737488351232) (hy3:∀z∈a0.f2,ok_U z) (hy4:SmT a0):Ev F X (.call 122 [(.agg (k_T l0_1 l0_2 a0))] [] [] [(.agg (d_T a0))]):=by
  have t:=e122 (l0_1:=l0_1) (l0_2:=l0_2) (a0:=a0) hy0 hy1 hy2 hy3 hy4
  rw[q122 a0 hy0 hy1 hy2 hy3 hy4] at t
  exact t
/-! loop 95_0 -/
inductive O95_0 where
  |k0 (w0:List K_T) (w1:Int) (w2:Bool)
def r95_0 (a0:(List K_T)):List K_T→Int→List K_T→O95_0
  |x0::y0,i,v0=>
    (r95_0 a0 y0 (i+1) (v0++([x0])))
  |[],i,v0=>(O95_0.k0 v0 i (decide (i <((length (map b_T a0)):Int))))
def h95_0 (l0_0:Nat) (a0:(List K_T)) (i:Int) (v0:List K_T):St:=⟨[(0,(.one (.bor l0_0 (map b_T a0)))),(3,(.one (.ref ⟨(3,0,0),[],0,(length (map d_T v0))⟩))),(4,(.one (.val (.int .i64 i))))],[((3,0,0),.live ⟨3,(map d_T v0),[]⟩)]⟩
def ex95_0:O95_0→VX.Exit
  |.k0 _ _ _=>(.exit 0)
def fin95_0 (l0_0:Nat) (a0:(List K_T)):O95_0→St
  |.k0 w0 w1 w2=>⟨[(0,(.one (.bor l0_0 (map b_T a0)))),(3,(.one (.ref ⟨(3,0,0),[],0,(length (map d_T w0))⟩))),(4,(.one (.val (.int .i64 w1)))),(9,(.one (.val (.bool w2))))],[((3,0,0),.live ⟨3,(map d_T w0),[]⟩)]⟩
theorem t95_0 {l0_0:Nat} {a0:(List K_T)} (hy0:length a0*56≤140737488351232) (hy1:∀z∈a0,ok_T z) (hy2:length a0≤4) (hy3:∀z∈a0,SmT z):∀(y0:List K_T) (p:List K_T) (v0:List K_T),p++y0=a0→(length v0+length y0)*56≤70368744177664→Ev F X (.code l95_0 (h95_0 l0_0 a0 (length p:Int) v0) (ex95_0 (r95_0 a0 y0 (length p:Int) v0)) (fin95_0 l0_0 a0 (r95_0 a0 y0 (length p:Int) v0)))
  |[],p,v0,hp0,hi0=>by
    have hc:=hcn b_T hp0
    have hj0:=hi0; try simp only[LN,Int.toNat_natCast] at hj0
    exact lx 9 ya (.f (nt hc) (.h 8 (.b false) .nil)) rfl
  |x0::y0,p,v0,hp0,hi0=>by
    have hc:=hcy b_T hp0
    have Hx0:=hxy hp0
    obtain⟨Mx0_0,Mx0_1,Mx0_2,Mx0_3⟩:=hy1 x0 (List.mem_of_getElem? Hx0)
    have hlen:=hly hp0
    have hw:wrap .i64 ((length p:Int)+1)=(length p:Int)+1:=wrap64 yb
    have hj0:=hi0; try simp only[LN,Int.toNat_natCast] at hj0
    simp only[r95_0]
    have f1:0≤(length p:Int):=yb
    have f8:0+(length (map d_T v0))≤(length (map d_T v0)):=yb
    have f9:1≤1:=yb
    have f10:((take 1 (drop 0 [[(.i x0.f0),(.own 3 (map d_N x0.f1)),(.own 2 (map d_U x0.f2))]])).all fun x=>x.all copyable)=false:=yL
    have f13:(length ((take (length (map d_T v0)) (drop 0 (map d_T v0)))++([[(.i x0.f0),(.own 3 (map d_N x0.f1)),(.own 2 (map d_U x0.f2))]]:List (List D))))*56≤70368744177664:=yr
    have f14:∀r∈([[(.i x0.f0),(.own 3 (map d_N x0.f1)),(.own 2 (map d_U x0.f2))]]:List (List D)),r.length=3:=yC
    have f15:((take (length (map d_T v0)) (drop 0 (map d_T v0)))++([[(.i x0.f0),(.own 3 (map d_N x0.f1)),(.own 2 (map d_U x0.f2))]]:List (List D)))=(map d_T (v0++([x0]))):=(by simp[take_of_length_le,d_N,d_U,d_T,ol112,ol83,ol84,ol51,ol45_0,ol12_0,four_len]; done)
    have st:=ch b95_0 (h95_0 l0_0 a0 (length p:Int) v0) ⟨[(0,(.one (.bor l0_0 (map b_T a0)))),(3,(.one (.ref ⟨(3,0,0),[],0,(length ((take (length (map d_T v0)) (drop 0 (map d_T v0)))++([[(.i x0.f0),(.own 3 (map d_N x0.f1)),(.own 2 (map d_U x0.f2))]]:List (List D))))⟩))),(4,(.oi (wrap .i64 ((length p:Int)+1))))],[((3,0,0),.live ⟨3,(map d_T (v0++([x0]))),[]⟩)]⟩ .normal 34 ya (.f hc (.f f1 (.f (mp_ b_T Hx0) (.h 8 (.b true) (.h 16 (.row [(.i x0.f0),(.sl (map b_N x0.f1)),(.sl (map b_U x0.f2))]) (.r 20 [] [] (g122 (l0_1:=(l0_0+1)) (l0_2:=(l0_0+1)) (a0:=x0) yw yw yw yw (by exact hy3 x0 (List.mem_of_getElem? Hx0))) (pe 0 (pe (length (map d_N x0.f1)) (pe 0 (pe (length (map d_U x0.f2)) (.f f8 (.f f9 (.f f10 (pe 0 (pe 1 (.f f13 (.f f14 (.f f15 (.f trivial (.h 24 (.b false) (.h 27 (.norm (3,0,0) (map d_T (v0++([x0])))) .nil)))))))))))))))))))))
    have ih:=t95_0 (l0_0:=l0_0) (a0:=a0) hy0 hy1 hy2 hy3 y0 (p++ [x0]) (v0++([x0])) ye yq
    rw[pl1] at ih
    rw[show (⟨[(0,(.one (.bor l0_0 (map b_T a0)))),(3,(.one (.ref ⟨(3,0,0),[],0,(length ((take (length (map d_T v0)) (drop 0 (map d_T v0)))++([[(.i x0.f0),(.own 3 (map d_N x0.f1)),(.own 2 (map d_U x0.f2))]]:List (List D))))⟩))),(4,(.oi (wrap .i64 ((length p:Int)+1))))],[((3,0,0),.live ⟨3,(map d_T (v0++([x0]))),[]⟩)]⟩:St)=h95_0 l0_0 a0 ((length p:Int)+1) (v0++([x0])) from(by unfold h95_0; simp[hw,take_of_length_le,d_N,d_U,d_T,ol112,ol83,ol84,ol51,ol45_0,ol12_0,four_len]; done)] at st
    exact .loopN st ih
def post95_0 (n0:Nat):O95_0→Prop
  |.k0 w0 _ _=>length w0=n0
theorem z95_0 {a0:(List K_T)}:∀(y0:List K_T) (i:Int) (v0:List K_T),post95_0 (length v0+length y0) (r95_0 a0 y0 i v0)
  |[],i,v0=>by
    first | trivial |(simp only[post95_0,length_nil,Nat.add_zero]; done) |(simp[post95_0]; done)
  |x0::y0,i,v0=>by
    simp only[r95_0]
    have z:=z95_0 (a0:=a0) y0 (i+1) (v0++([x0]))
    rw[show (length v0+length (x0::y0))=(length (v0++([x0]))+length y0) from by first | omega |(simp only[LN]; done) |(simp only[LN]; omega)]
    exact z
theorem cp95_0 (a:List K_T):∀(l:List K_T) (i:Int) (v:List K_T),∃j b,r95_0 a l i v=.k0 (v++l) j b
  |[],i,v=>⟨_,_,by simp only[r95_0,List.append_nil]; rfl⟩
  |x::l,i,v=>by
    obtain⟨j,b,h⟩:=cp95_0 a l (i+1) (v++ [x])
    exact⟨j,b,by simp only[r95_0]; rw[h,append_assoc]; rfl⟩
/-! loop.example/g00539/spec.l3Txs -/
def m95 (a0:(List K_T)):(List K_T):=
  (match r95_0 a0 a0 0 ([]) with | .k0 w0_0 w1_0 w2_0=>w0_0)
theorem e95 {l0_0:Nat} {a0:(List K_T)} (hy0:length a0*56≤140737488351232) (hy1:∀z∈a0,ok_T z) (hy2:length a0≤4) (hy3:∀z∈a0,SmT z):Ev F X (.call 95 [(.one (.bor l0_0 (map b_T a0)))] [] [] [(.one (.own 3 (map d_T (m95 a0))))]):=by
  unfold m95
  cases h0:r95_0 a0 a0 0 ([]) with
  |k0 w0_0 w1_0 w2_0=>
    try dsimp only
    have zh0:=z95_0 (a0:=a0) a0 0 ([]); rw[h0] at zh0; simp only[post95_0,length_map,length_set,length_append,length_replicate,length_cons,length_nil,Int.toNat_natCast] at zh0
    have f0:=Eq.refl (h95_0 l0_0 a0 0 ([]))
    exact cp ya (.f f0 (.f (ev_ (e:=ex95_0) (g:=(fin95_0 l0_0 a0)) h0 (t95_0 (l0_0:=l0_0) (a0:=a0) (by assumption) (by assumption) (by assumption) (by assumption) a0 [] ([]) rfl yq)) (pe 0 (pe (length (map d_T w0_0)) (.f (pureR_T w0_0) (.h 8 (.loop (h95_0 l0_0 a0 0 ([])) (.exit 0) ⟨[(0,(.one (.bor l0_0 (map b_T a0)))),(3,(.one (.ref ⟨(3,0,0),[],0,(length (map d_T w0_0))⟩))),(4,(.oi w1_0)),(9,(.one (.val (.bool w2_0))))],[((3,0,0),.live ⟨3,(map d_T w0_0),[]⟩)]⟩) .nil))))))
theorem q95 (a0:(List K_T)) (hy0:length a0*56≤140737488351232) (hy1:∀z∈a0,ok_T z) (hy2:length a0≤4) (hy3:∀z∈a0,SmT z):(m95 a0)=a0:=by
  obtain⟨j,b,h⟩:=cp95_0 a0 a0 0 []
  unfold m95
  rw[h]
  rfl
theorem g95 {l0_0:Nat} {a0:(List K_T)} (hy0:length a0*56≤140737488351232) (hy1:∀z∈a0,ok_T z) (hy2:length a0≤4) (hy3:∀z∈a0,SmT z):Ev F X (.call 95 [(.one (.bor l0_0 (map b_T a0)))] [] [] [(.one (.own 3 (map d_T a0)))]):=by
  have t:=e95 (l0_0:=l0_0) (a0:=a0) hy0 hy1 hy2 hy3
  rw[q95 a0 hy0 hy1 hy2 hy3] at t
  exact t
theorem e64 {l0_4:Nat} {a0:K_G} (hy0:length a0.f4*56≤140737488351232) (hy1:∀z∈a0.f4,ok_T z) (hy2:length a0.f4≤4) (hy3:∀z∈a0.f4,SmT z):Ev F X (.call 64 [(.agg (k_G l0_4 a0))] [] [] [(.agg (d_G a0))]):=by
  exact cp ya (.r 9 [] [] (g95 (l0_0:=(l0_4+1)) (a0:=a0.f4) ‹_› ‹_› ‹_› ‹_›) (pe 0 (pe (length (map d_T a0.f4)) (pe 0 (pe (length (map d_T a0.f4)) (.f (pureR_T a0.f4) .nil))))))
/-! loop 82_0 -/
inductive O82_0 where
  |k0 (w0:List K_J) (w1:Int) (w2:Bool)
def r82_0 (a0:(List K_J)):List K_J→Int→List K_J→O82_0
  |x0::y0,i,v0=>
    (r82_0 a0 y0 (i+1) (v0++([x0])))
  |[],i,v0=>(O82_0.k0 v0 i (decide (i <((length (map b_J a0)):Int))))
def h82_0 (l0_0:Nat) (a0:(List K_J)) (i:Int) (v0:List K_J):St:=⟨[(0,(.one (.bor l0_0 (map b_J a0)))),(3,(.one (.ref ⟨(3,0,0),[],0,(length (map d_J v0))⟩))),(4,(.one (.val (.int .i64 i))))],[((3,0,0),.live ⟨6,(map d_J v0),[]⟩)]⟩
def ex82_0:O82_0→VX.Exit
  |.k0 _ _ _=>(.exit 0)
def fin82_0 (l0_0:Nat) (a0:(List K_J)):O82_0→St
  |.k0 w0 w1 w2=>⟨[(0,(.one (.bor l0_0 (map b_J a0)))),(3,(.one (.ref ⟨(3,0,0),[],0,(length (map d_J w0))⟩))),(4,(.one (.val (.int .i64 w1)))),(9,(.one (.val (.bool w2))))],[((3,0,0),.live ⟨6,(map d_J w0),[]⟩)]⟩
theorem t82_0 {l0_0:Nat} {a0:(List K_J)} (hy0:length a0*64≤140737488351232) (hy1:∀z∈a0,ok_J z) (hy2:length a0≤4) (hy3:∀z∈a0,SmJ z):∀(y0:List K_J) (p:List K_J) (v0:List K_J),p++y0=a0→(length v0+length y0)*64≤70368744177664→Ev F X (.code l82_0 (h82_0 l0_0 a0 (length p:Int) v0) (ex82_0 (r82_0 a0 y0 (length p:Int) v0)) (fin82_0 l0_0 a0 (r82_0 a0 y0 (length p:Int) v0)))
  |[],p,v0,hp0,hi0=>by
    have hc:=hcn b_J hp0
    have hj0:=hi0; try simp only[LN,Int.toNat_natCast] at hj0
    exact lx 9 ya (.f (nt hc) (.h 8 (.b false) .nil)) rfl
  |x0::y0,p,v0,hp0,hi0=>by
    have hc:=hcy b_J hp0
    have Hx0:=hxy hp0
    obtain⟨Mx0_0,Mx0_1⟩:=hy1 x0 (List.mem_of_getElem? Hx0)
    have hlen:=hly hp0
    have hw:wrap .i64 ((length p:Int)+1)=(length p:Int)+1:=wrap64 yb
    have hj0:=hi0; try simp only[LN,Int.toNat_natCast] at hj0
    simp only[r82_0]
    have f1:0≤(length p:Int):=yb
    have f8:0+(length (map d_J v0))≤(length (map d_J v0)):=yb
    have f9:1≤1:=yb
    have f10:((take 1 (drop 0 [[(.i x0.f0),(.i x0.f1),(.i x0.f2),(.i x0.f3),(.i x0.f4),(.own 3 (map d_T x0.f5))]])).all fun x=>x.all copyable)=false:=yL
    have f13:(length ((take (length (map d_J v0)) (drop 0 (map d_J v0)))++([[(.i x0.f0),(.i x0.f1),(.i x0.f2),(.i x0.f3),(.i x0.f4),(.own 3 (map d_T x0.f5))]]:List (List D))))*64≤70368744177664:=yr
    have f14:∀r∈([[(.i x0.f0),(.i x0.f1),(.i x0.f2),(.i x0.f3),(.i x0.f4),(.own 3 (map d_T x0.f5))]]:List (List D)),r.length=6:=yC
    have f15:((take (length (map d_J v0)) (drop 0 (map d_J v0)))++([[(.i x0.f0),(.i x0.f1),(.i x0.f2),(.i x0.f3),(.i x0.f4),(.own 3 (map d_T x0.f5))]]:List (List D)))=(map d_J (v0++([x0]))):=yU
    have st:=ch b82_0 (h82_0 l0_0 a0 (length p:Int) v0) ⟨[(0,(.one (.bor l0_0 (map b_J a0)))),(3,(.one (.ref ⟨(3,0,0),[],0,(length ((take (length (map d_J v0)) (drop 0 (map d_J v0)))++([[(.i x0.f0),(.i x0.f1),(.i x0.f2),(.i x0.f3),(.i x0.f4),(.own 3 (map d_T x0.f5))]]:List (List D))))⟩))),(4,(.oi (wrap .i64 ((length p:Int)+1))))],[((3,0,0),.live ⟨6,(map d_J (v0++([x0]))),[]⟩)]⟩ .normal 48 ya (.f hc (.f f1 (.f (mp_ b_J Hx0) (.f f1 (.f (mp_ b_J Hx0) (.h 8 (.b true) (.h 16 (.row [(.i x0.f0),(.i x0.f1),(.i x0.f2),(.i x0.f3),(.i x0.f4),(.sl (map b_T x0.f5))]) (.h 26 (.row [(.i x0.f0),(.i x0.f1),(.i x0.f2),(.i x0.f3),(.i x0.f4),(.sl (map b_T x0.f5))]) (.r 32 [] [] (e64 (l0_4:=(l0_0+1)) (a0:=(K_G.mk x0.f1 x0.f2 x0.f3 x0.f4 x0.f5)) yw yw (by exact(hy3 x0 (List.mem_of_getElem? Hx0)).2.1) (by exact(hy3 x0 (List.mem_of_getElem? Hx0)).2.2.1)) (pe 0 (pe (length (map d_T x0.f5)) (.f f8 (.f f9 (.f f10 (pe 0 (pe 1 (.f f13 (.f f14 (.f f15 (.f trivial (.h 38 (.b false) (.h 41 (.norm (3,0,0) (map d_J (v0++([x0])))) .nil))))))))))))))))))))))
    have ih:=t82_0 (l0_0:=l0_0) (a0:=a0) hy0 hy1 hy2 hy3 y0 (p++ [x0]) (v0++([x0])) ye yq
    rw[pl1] at ih
    rw[show (⟨[(0,(.one (.bor l0_0 (map b_J a0)))),(3,(.one (.ref ⟨(3,0,0),[],0,(length ((take (length (map d_J v0)) (drop 0 (map d_J v0)))++([[(.i x0.f0),(.i x0.f1),(.i x0.f2),(.i x0.f3),(.i x0.f4),(.own 3 (map d_T x0.f5))]]:List (List D))))⟩))),(4,(.oi (wrap .i64 ((length p:Int)+1))))],[((3,0,0),.live ⟨6,(map d_J (v0++([x0]))),[]⟩)]⟩:St)=h82_0 l0_0 a0 ((length p:Int)+1) (v0++([x0])) from(by unfold h82_0; simp[hw,take_of_length_le,d_T,d_J,ol112,ol83,ol84,ol51,ol45_0,ol12_0,four_len]; done)] at st
    exact .loopN st ih
def post82_0 (n0:Nat):O82_0→Prop
  |.k0 w0 _ _=>length w0=n0
theorem z82_0 {a0:(List K_J)}:∀(y0:List K_J) (i:Int) (v0:List K_J),post82_0 (length v0+length y0) (r82_0 a0 y0 i v0)
  |[],i,v0=>by
    first | trivial |(simp only[post82_0,length_nil,Nat.add_zero]; done) |(simp[post82_0]; done)
  |x0::y0,i,v0=>by
    simp only[r82_0]
    have z:=z82_0 (a0:=a0) y0 (i+1) (v0++([x0]))
    rw[show (length v0+length (x0::y0))=(length (v0++([x0]))+length y0) from by first | omega |(simp only[LN]; done) |(simp only[LN]; omega)]
    exact z
theorem cp82_0 (a:List K_J):∀(l:List K_J) (i:Int) (v:List K_J),∃j b,r82_0 a l i v=.k0 (v++l) j b
  |[],i,v=>⟨_,_,by simp only[r82_0,List.append_nil]; rfl⟩
  |x::l,i,v=>by
    obtain⟨j,b,h⟩:=cp82_0 a l (i+1) (v++ [x])
    exact⟨j,b,by simp only[r82_0]; rw[h,append_assoc]; rfl⟩
/-! loop.example/g00539/spec.l11Copy -/
def m82 (a0:(List K_J)):(List K_J):=
  (match r82_0 a0 a0 0 ([]) with | .k0 w0_0 w1_0 w2_0=>w0_0)
theorem e82 {l0_0:Nat} {a0:(List K_J)} (hy0:length a0*64≤140737488351232) (hy1:∀z∈a0,ok_J z) (hy2:length a0≤4) (hy3:∀z∈a0,SmJ z):Ev F X (.call 82 [(.one (.bor l0_0 (map b_J a0)))] [] [] [(.one (.own 6 (map d_J (m82 a0))))]):=by
  unfold m82
  cases h0:r82_0 a0 a0 0 ([]) with
  |k0 w0_0 w1_0 w2_0=>
    try dsimp only
    have zh0:=z82_0 (a0:=a0) a0 0 ([]); rw[h0] at zh0; simp only[post82_0,length_map,length_set,length_append,length_replicate,length_cons,length_nil,Int.toNat_natCast] at zh0
    have f0:=Eq.refl (h82_0 l0_0 a0 0 ([]))
    exact cp ya (.f f0 (.f (ev_ (e:=ex82_0) (g:=(fin82_0 l0_0 a0)) h0 (t82_0 (l0_0:=l0_0) (a0:=a0) (by assumption) (by assumption) (by assumption) (by assumption) a0 [] ([]) rfl yq)) (pe 0 (pe (length (map d_J w0_0)) (.f (pureR_J w0_0) (.h 8 (.loop (h82_0 l0_0 a0 0 ([])) (.exit 0) ⟨[(0,(.one (.bor l0_0 (map b_J a0)))),(3,(.one (.ref ⟨(3,0,0),[],0,(length (map d_J w0_0))⟩))),(4,(.oi w1_0)),(9,(.one (.val (.bool w2_0))))],[((3,0,0),.live ⟨6,(map d_J w0_0),[]⟩)]⟩) .nil))))))
theorem q82 (a0:(List K_J)) (hy0:length a0*64≤140737488351232) (hy1:∀z∈a0,ok_J z) (hy2:length a0≤4) (hy3:∀z∈a0,SmJ z):(m82 a0)=a0:=by
  obtain⟨j,b,h⟩:=cp82_0 a0 a0 0 []
  unfold m82
  rw[h]
  rfl
theorem g82 {l0_0:Nat} {a0:(List K_J)} (hy0:length a0*64≤140737488351232) (hy1:∀z∈a0,ok_J z) (hy2:length a0≤4) (hy3:∀z∈a0,SmJ z):Ev F X (.call 82 [(.one (.bor l0_0 (map b_J a0)))] [] [] [(.one (.own 6 (map d_J a0)))]):=by
  have t:=e82 (l0_0:=l0_0) (a0:=a0) hy0 hy1 hy2 hy3
  rw[q82 a0 hy0 hy1 hy2 hy3] at t
  exact t
/-! loop.example/g00539/spec.l11Put -/
def m48 (a0:(List K_J)) (a1:K_J):(List K_J):=
  if(decide (((length (map d_J a0)):Int)≥4))=true then((take (toNat ((length (map d_J a0)):Int) - toNat 1) (drop 1 a0))++([a1])) else
  (a0++([a1]))
theorem e48 {l0_0:Nat} {a0:(List K_J)} {l1_5:Nat} {a1:K_J} (hy0:length a0*64≤140737488351232) (hy1:∀z∈a0,ok_J z) (hy2:length a1.f5*56≤140737488351232) (hy3:∀z∈a1.f5,ok_T z) (hy4:length a0≤4) (hy5:∀z∈a0,SmJ z) (hy6:SmJ a1):Ev F X (.call 48 [(.one (.bor l0_0 (map b_J a0))),(.agg [(.val (.int .i64 a1.f0)),(.val (.int .i64 a1.f1)),(.val (.int .i64 a1.f2)),(.val (.int .i64 a1.f3)),(.val (.int .i64 a1.f4)),(.bor l1_5 (map b_T a1.f5))])] [] [] [(.one (.own 6 (map d_J (m48 a0 a1))))]):=by
  unfold m48
  have P0 {hs q} (r:PS F X hs q):=(PS.r 7 [] [] (g82 (l0_0:=(l0_0+1)) (a0:=a0) yw yw yw yw) r)
  by_cases h0:(decide (((length (map d_J a0)):Int)≥4))=true
  · try simp only[if_pos h0]
    have f2:0+(length (map d_J a0))≤(length (map d_J a0)):=yb
    have f3:0≤(1:Int)∧(1:Int)≤((length (map d_J a0)):Int)∧((length (map d_J a0)):Int)≤((length (map d_J a0)):Int):=yE
    have f7:1+(toNat ((length (map d_J a0)):Int) - toNat 1)≤(length (map d_J a0)):=yb
    have f8:1≤1:=yb
    have f9:((take 1 (drop 0 [[(.i a1.f0),(.i a1.f1),(.i a1.f2),(.i a1.f3),(.i a1.f4),(.own 3 (map d_T a1.f5))]])).all fun x=>x.all copyable)=false:=yL
    have f12:(length ((take (toNat ((length (map d_J a0)):Int) - toNat 1) (drop 1 (map d_J a0)))++([[(.i a1.f0),(.i a1.f1),(.i a1.f2),(.i a1.f3),(.i a1.f4),(.own 3 (map d_T a1.f5))]]:List (List D))))*64≤70368744177664:=yE
    have f13:∀r∈([[(.i a1.f0),(.i a1.f1),(.i a1.f2),(.i a1.f3),(.i a1.f4),(.own 3 (map d_T a1.f5))]]:List (List D)),r.length=6:=yC
    have f14:((take (toNat ((length (map d_J a0)):Int) - toNat 1) (drop 1 (map d_J a0)))++([[(.i a1.f0),(.i a1.f1),(.i a1.f2),(.i a1.f3),(.i a1.f4),(.own 3 (map d_T a1.f5))]]:List (List D)))=(map d_J ((take (toNat ((length (map d_J a0)):Int) - toNat 1) (drop 1 a0))++([a1]))):=yU
    have f16:(length ((take (toNat ((length (map d_J a0)):Int) - toNat 1) (drop 1 (map d_J a0)))++([[(.i a1.f0),(.i a1.f1),(.i a1.f2),(.i a1.f3),(.i a1.f4),(.own 3 (map d_T a1.f5))]]:List (List D))))=(length (map d_J ((take (toNat ((length (map d_J a0)):Int) - toNat 1) (drop 1 a0))++([a1])))):=yC
    exact cp ya (P0 (.f h0 (.f f2 (.f f3 (.h 16 (.b true) (.r 34 [] [] (e64 (l0_4:=(l1_5+1)) (a0:=(K_G.mk a1.f1 a1.f2 a1.f3 a1.f4 a1.f5)) yw yw (by exact hy6.2.1) (by exact hy6.2.2.1)) (pe 0 (pe (length (map d_T a1.f5)) (.f f7 (.f f8 (.f f9 (pe 0 (pe 1 (.f f12 (.f f13 (.f f14 (pe 0 (.f f16 (.f (pureR_J ((take (toNat ((length (map d_J a0)):Int) - toNat 1) (drop 1 a0))++([a1]))) (.h 40 (.b false) (.h 43 (.norm (4,0,0) (map d_J ((take (toNat ((length (map d_J a0)):Int) - toNat 1) (drop 1 a0))++([a1])))) .nil)))))))))))))))))))))
  · try simp only[if_neg h0]
    have f5:0+(length (map d_J a0))≤(length (map d_J a0)):=yb
    have f6:1≤1:=yb
    have f7:((take 1 (drop 0 [[(.i a1.f0),(.i a1.f1),(.i a1.f2),(.i a1.f3),(.i a1.f4),(.own 3 (map d_T a1.f5))]])).all fun x=>x.all copyable)=false:=yL
    have f10:(length ((take (length (map d_J a0)) (drop 0 (map d_J a0)))++([[(.i a1.f0),(.i a1.f1),(.i a1.f2),(.i a1.f3),(.i a1.f4),(.own 3 (map d_T a1.f5))]]:List (List D))))*64≤70368744177664:=yE
    have f11:∀r∈([[(.i a1.f0),(.i a1.f1),(.i a1.f2),(.i a1.f3),(.i a1.f4),(.own 3 (map d_T a1.f5))]]:List (List D)),r.length=6:=yC
    have f12:((take (length (map d_J a0)) (drop 0 (map d_J a0)))++([[(.i a1.f0),(.i a1.f1),(.i a1.f2),(.i a1.f3),(.i a1.f4),(.own 3 (map d_T a1.f5))]]:List (List D)))=(map d_J (a0++([a1]))):=yU
    have f14:(length ((take (length (map d_J a0)) (drop 0 (map d_J a0)))++([[(.i a1.f0),(.i a1.f1),(.i a1.f2),(.i a1.f3),(.i a1.f4),(.own 3 (map d_T a1.f5))]]:List (List D))))=(length (map d_J (a0++([a1])))):=yE
    exact cp ya (P0 (.f (nt h0) (.h 16 (.b false) (.r 28 [] [] (e64 (l0_4:=(l1_5+1)) (a0:=(K_G.mk a1.f1 a1.f2 a1.f3 a1.f4 a1.f5)) yw yw (by exact hy6.2.1) (by exact hy6.2.2.1)) (pe 0 (pe (length (map d_T a1.f5)) (.f f5 (.f f6 (.f f7 (pe 0 (pe 1 (.f f10 (.f f11 (.f f12 (pe 0 (.f f14 (.f (pureR_J (a0++([a1]))) (.h 34 (.b false) (.h 37 (.norm (4,0,0) (map d_J (a0++([a1])))) .nil)))))))))))))))))))
/-! loop.example/g00539/spec.PutJob -/
def m16 (a0:(List K_J)) (a1:K_J):K_JR:=
  if((m47 a0) !=0)=true then(K_JR.mk (m47 a0) []) else
  if((m35 a1) !=0)=true then(K_JR.mk (m35 a1) []) else
    if (decide (((length (map b_J a0)) : Int) > 0)) = true then (if (decide (a1.f0 ≤ ((getD a0 (toNat (wrap .i64 (((length (map b_J a0)) : Int) - 1))) (K_J.mk 0 0 0 0 0 [])).f0))) = true then (K_JR.mk 6 []) else
        (K_JR.mk 0 (m48 a0 a1))) else
      (K_JR.mk 0 (m48 a0 a1))
theorem e16 {l0_0:Nat} {a0:(List K_J)} {l1_5:Nat} {a1:K_J} (hy0:length a0*64≤140737488351232) (hy1:∀z∈a0,ok_J z) (hy2:length a1.f5*56≤140737488351232) (hy3:∀z∈a1.f5,ok_T z):Ev F X (.call 16 [(.one (.bor l0_0 (map b_J a0))),(.agg (k_J l1_5 a1))] [] [] [(.agg (d_JR (m16 a0 a1)))]):=by
  unfold m16
  have P0 {hs q} (r:PS F X hs q):=(PS.r 7 [] [] (e47 (l0_0:=(l0_0+1)) (a0:=a0) ‹_› ‹_›) r)
  by_cases h0:((m47 a0) !=0)=true
  · try simp only[if_pos h0]
    have f2:pureR []=true:=yL
    exact cp ya (P0 (.f h0 (.f f2 (.h 14 (.b true) .nil))))
  · try simp only[if_neg h0]
    have f2:fullL [(.i a1.f0),(.i a1.f1),(.i a1.f2),(.i a1.f3),(.i a1.f4),(.bor l1_5 (map b_T a1.f5))]=true:=yL
    have P1 {hs q} (r:PS F X hs q):=(P0 (.f (nt h0) (.f f2 (.h 14 (.b false) (.r 16 [] [] (e35 (l0:=0) (a0:=a1) ‹_› ‹_›) r)))))
    by_cases h1:((m35 a1) !=0)=true
    · try simp only[if_pos h1]
      have f5:pureR []=true:=(by assumption)
      exact cp ya (P1 (.f h1 (.f f5 (.h 23 (.b true) .nil))))
    · try simp only[if_neg h1]
      by_cases h2:(decide (((length (map b_J a0)):Int) > 0))=true
      · try simp only[if_pos h2]
        have f11:0≤(wrap .i64 (((length (map b_J a0)):Int) - 1)):=yW
        have P3 {hs q} (r:PS F X hs q):=(P1 (.f (nt h1) (.f h2 (.f h2 (.f h2 (.f h2 (.f h2 (.f h2 (.f f11 (.f (mp_ b_J (getD_at a0 (toNat (wrap .i64 (((length (map b_J a0)):Int) - 1))) (K_J.mk 0 0 0 0 0 []) yW)) (.f h2 (.f h2 (.f h2 (.f h2 (.h 23 (.b false) (.h 36 (.b true) (.h 38 (.b true) (.h 40 (.b true) (.h 42 (.b true) (.h 44 (.b true) (.h 46 (.b true) (.h 47 (.row (b_J (getD a0 (toNat (wrap .i64 (((length (map b_J a0)):Int) - 1))) (K_J.mk 0 0 0 0 0 [])))) (.h 48 (.b true) (.h 50 (.b true) (.h 52 (.b true) (.h 55 (.b true) r))))))))))))))))))))))))))
        by_cases h3:(decide (a1.f0≤((getD a0 (toNat (wrap .i64 (((length (map b_J a0)):Int) - 1))) (K_J.mk 0 0 0 0 0 [])).f0)))=true
        · try simp only[if_pos h3]
          have f18:pureR []=true:=(by assumption)
          exact cp ya (P3 (.f h3 (.f f18 (.h 56 (.b true) .nil))))
        · try simp only[if_neg h3]
          exact cp ya (P3 (.f (nt h3) (.h 56 (.b false) (.r 62 [] [] (e48 (l0_0:=(l0_0+1)) (l1_5:=(l1_5+1)) (a0:=a0) (a1:=a1) ‹_› ‹_› ‹_› ‹_› (by have ha:=js47 (a:=a0) (by simpa using h0); exact ha.1) (by have ha:=js47 (a:=a0) (by simpa using h0); exact ha.2) (by have hb:SmJ a1:=js35 (by simpa using h1); exact hb)) (pe 0 (pe (length (map d_J (m48 a0 a1))) (.f (pureR_J (m48 a0 a1)) .nil)))))))
      · try simp only[if_neg h2]
        exact cp ya (P1 (.f (nt h1) (.f (nt h2) (.f (nt h2) (.f (nt h2) (.f (nt h2) (.f (nt h2) (.f (nt h2) (.f (nt h2) (.f (nt h2) (.f (nt h2) (.f (nt h2) (.h 23 (.b false) (.h 36 (.b false) (.h 38 (.b false) (.h 40 (.b false) (.h 42 (.b false) (.h 44 (.b false) (.h 46 (.b false) (.h 48 (.b false) (.h 50 (.b false) (.h 52 (.b false) (.h 55 (.b false) (.r 62 [] [] (e48 (l0_0:=(l0_0+1)) (l1_5:=(l1_5+1)) (a0:=a0) (a1:=a1) ‹_› ‹_› ‹_› ‹_› (by have ha:=js47 (a:=a0) (by simpa using h0); exact ha.1) (by have ha:=js47 (a:=a0) (by simpa using h0); exact ha.2) (by have hb:SmJ a1:=js35 (by simpa using h1); exact hb)) (pe 0 (pe (length (map d_J (m48 a0 a1))) (.f (pureR_J (m48 a0 a1)) .nil)))))))))))))))))))))))))))
theorem okm16 (a0:(List K_J)) (a1:K_J):ok_JR (m16 a0 a1):=by
  by_cases h0:((m47 a0) !=0)=true
  · unfold m16; rw[if_pos h0]; simp[ok_N,ok_U,ok_T,ok_J,ok_JL,ok_JR,ok_G,ok_TL,ok_LiE,ok_NL,ok_UL,ok_LyE,ok_LLyEE]
  · have ha:=js47 (a:=a0) (by simpa using h0)
    by_cases h1:((m35 a1) !=0)=true
    · unfold m16; rw[if_neg h0,if_pos h1]; simp[ok_N,ok_U,ok_T,ok_J,ok_JL,ok_JR,ok_G,ok_TL,ok_LiE,ok_NL,ok_UL,ok_LyE,ok_LLyEE]
    · have hb:SmJ a1:=js35 (by simpa using h1)
      have q:∀l:List K_J,length l≤5→(∀z∈l,SmJ z)→ok_JR (K_JR.mk 0 l):=fun l q1 q2=>⟨by simp only[]; omega,fun z hz=>(q2 z hz).ok⟩
      have e:∀z∈a0++ [a1],SmJ z:=fun z hz=>by
        rcases List.mem_append.1 hz with hz | hz
        · exact ha.2 z hz
        · rw[List.mem_singleton] at hz; subst hz; exact hb
      have el:(a0++ [a1]).length≤5:=by simp only[length_append,length_cons,length_nil]; omega
      unfold m16; rw[if_neg h0,if_neg h1]
      unfold m48
      (repeat' split)<;>first | exact⟨by simp,fun z hz=>by cases hz⟩ | exact q _ el e | exact q _ yI (fun z hz=>(List.mem_append.1 hz).elim (fun hz=>e z (List.mem_of_mem_take hz)) (fun hz=>e z (List.mem_of_mem_drop hz))) | exact q _ yI (fun z hz=>(List.mem_append.1 hz).elim (fun hz=>ha.2 z (List.mem_of_mem_drop (List.mem_of_mem_take hz))) (fun hz=>by rw[List.mem_singleton] at hz; subst hz; exact hb))
/-! loop 17_0 -/
inductive O17_0 where
  |k0 (w0:List K_J) (w1:Int) (w2:Bool)
def r17_0 (a0:(List K_J)):List K_J→Int→List K_J→O17_0
  |x0::y0,i,v0=>
    (r17_0 a0 y0 (i+1) (set v0 (toNat i) x0))
  |[],i,v0=>(O17_0.k0 v0 i (decide (i <((length (map b_J a0)):Int))))
def h17_0 (l0_0:Nat) (a0:(List K_J)) (i:Int) (v0:List K_J):St:=⟨[(0,(.one (.bor l0_0 (map b_J a0)))),(3,(.one (.ref ⟨(3,0,0),[],0,(toNat ((length (map b_J a0)):Int))⟩))),(4,(.one (.val (.int .i64 i))))],[((3,0,0),.live ⟨6,(map d_J v0),[]⟩)]⟩
def ex17_0:O17_0→VX.Exit
  |.k0 _ _ _=>(.exit 0)
def fin17_0 (l0_0:Nat) (a0:(List K_J)):O17_0→St
  |.k0 w0 w1 w2=>⟨[(0,(.one (.bor l0_0 (map b_J a0)))),(3,(.one (.ref ⟨(3,0,0),[],0,(toNat ((length (map b_J a0)):Int))⟩))),(4,(.one (.val (.int .i64 w1)))),(11,(.one (.val (.bool w2))))],[((3,0,0),.live ⟨6,(map d_J w0),[]⟩)]⟩
theorem t17_0 {l0_0:Nat} {a0:(List K_J)} (hy0:length a0*64≤140737488351232) (hy1:∀z∈a0,ok_J z):∀(y0:List K_J) (p:List K_J) (v0:List K_J),p++y0=a0→length v0=(toNat ((length (map b_J a0)):Int))→Ev F X (.code l17_0 (h17_0 l0_0 a0 (length p:Int) v0) (ex17_0 (r17_0 a0 y0 (length p:Int) v0)) (fin17_0 l0_0 a0 (r17_0 a0 y0 (length p:Int) v0)))
  |[],p,v0,hp0,hi0=>by
    have hc:=hcn b_J hp0
    have hj0:=hi0; try simp only[LN,Int.toNat_natCast] at hj0
    exact lx 9 ya (.f (nt hc) (.h 8 (.b false) .nil)) rfl
  |x0::y0,p,v0,hp0,hi0=>by
    have hc:=hcy b_J hp0
    have Hx0:=hxy hp0
    obtain⟨Mx0_0,Mx0_1⟩:=hy1 x0 (List.mem_of_getElem? Hx0)
    have hlen:=hly hp0
    have hw:wrap .i64 ((length p:Int)+1)=(length p:Int)+1:=wrap64 yb
    have hj0:=hi0; try simp only[LN,Int.toNat_natCast] at hj0
    obtain⟨x1,Hx1⟩:∃y,v0[toNat (length p:Int)]?=some y:=⟨_,List.getElem?_eq_getElem yb⟩
    simp only[r17_0]
    have f1:0≤(length p:Int):=yb
    have f4:0+(toNat ((length (map b_J a0)):Int))≤(length (map d_J v0)):=yu
    have f5:0≤(length p:Int)∧(length p:Int) <((toNat ((length (map b_J a0)):Int)):Int):=yb
    have f9:(set (map d_J v0) (0+(toNat (length p:Int))) (d_J x0))=(map d_J (set v0 (toNat (length p:Int)) x0)):=yaj
    have ih:=t17_0 (l0_0:=l0_0) (a0:=a0) hy0 hy1 y0 (p++ [x0]) (set v0 (toNat (length p:Int)) x0) ye yq
    rw[pl1,← hw] at ih; rw[← hw]
    exact ly 34 ya (.f hc (.f f1 (.f (mp_ b_J Hx0) (.h 8 (.b true) (.h 18 (.row (b_J x0)) (.r 22 [] [] (e8 (l0_5:=(l0_0+1)) (a0:=x0) ‹_› ‹_›) (.f f4 (.f f5 (pe 0 (pe (length (map d_T x0.f5)) (.f (mz_ d_J Hx1) (.f f9 (.f trivial (.h 26 (.rowD (d_J x1)) (.h 27 (.norm (3,0,0) (map d_J (set v0 (toNat (length p:Int)) x0))) .nil))))))))))))))) ih
def post17_0 (n0:Nat):O17_0→Prop
  |.k0 w0 _ _=>length w0=n0
theorem z17_0 {a0:(List K_J)}:∀(y0:List K_J) (i:Int) (v0:List K_J),post17_0 (length v0) (r17_0 a0 y0 i v0)
  |[],i,v0=>by
    first | trivial |(simp only[post17_0,length_nil,Nat.add_zero]; done) |(simp[post17_0]; done)
  |x0::y0,i,v0=>by
    simp only[r17_0]
    have z:=z17_0 (a0:=a0) y0 (i+1) (set v0 (toNat i) x0)
    rw[show (length v0)=(length (set v0 (toNat i) x0)) from by first | omega |(simp only[LN]; done) |(simp only[LN]; omega)]
    exact z
/-! loop.example/g00539/laws.toJobS -/
def m17 (a0:(List K_J)):(List K_J):=
  (match r17_0 a0 a0 0 (List.replicate (toNat ((length (map b_J a0)):Int)) (K_J.mk 0 0 0 0 0 [])) with | .k0 w0_1 w1_1 w2_1=>w0_1)
theorem e17 {l0_0:Nat} {a0:(List K_J)} (hy0:length a0*64≤140737488351232) (hy1:∀z∈a0,ok_J z):Ev F X (.call 17 [(.one (.bor l0_0 (map b_J a0)))] [] [] [(.one (.own 6 (map d_J (m17 a0))))]):=by
  unfold m17
  have f0:0≤((length (map b_J a0)):Int)∧((length (map b_J a0)):Int)≤((length (map b_J a0)):Int)∧((length (map b_J a0)):Int)≤140737488355328∧((length (map b_J a0)):Int)*64≤140737488355328:=yu
  have f1:(List.replicate (toNat ((length (map b_J a0)):Int)) [(.i 0),(.i 0),(.i 0),(.i 0),(.i 0),(.own 3 [])])=(map d_J (List.replicate (toNat ((length (map b_J a0)):Int)) (K_J.mk 0 0 0 0 0 []))):=yaj
  cases h0:r17_0 a0 a0 0 (List.replicate (toNat ((length (map b_J a0)):Int)) (K_J.mk 0 0 0 0 0 [])) with
  |k0 w0_1 w1_1 w2_1=>
    try dsimp only
    have zh0:=z17_0 (a0:=a0) a0 0 (List.replicate (toNat ((length (map b_J a0)):Int)) (K_J.mk 0 0 0 0 0 [])); rw[h0] at zh0; simp only[post17_0,length_map,length_set,length_append,length_replicate,length_cons,length_nil,Int.toNat_natCast] at zh0
    have f2:=Eq.refl (h17_0 l0_0 a0 0 (List.replicate (toNat ((length (map b_J a0)):Int)) (K_J.mk 0 0 0 0 0 [])))
    have f5:(toNat ((length (map b_J a0)):Int))=(length (map d_J w0_1)):=yu
    exact cp ya (.f f0 (.f f1 (.f f2 (.f (ev_ (e:=ex17_0) (g:=(fin17_0 l0_0 a0)) h0 (t17_0 (l0_0:=l0_0) (a0:=a0) (by assumption) (by assumption) a0 [] (List.replicate (toNat ((length (map b_J a0)):Int)) (K_J.mk 0 0 0 0 0 [])) rfl yR)) (pe 0 (.f f5 (.f (pureR_J w0_1) (.h 10 (.norm (3,0,0) (map d_J (List.replicate (toNat ((length (map b_J a0)):Int)) (K_J.mk 0 0 0 0 0 [])))) (.h 13 (.loop (h17_0 l0_0 a0 0 (List.replicate (toNat ((length (map b_J a0)):Int)) (K_J.mk 0 0 0 0 0 []))) (.exit 0) ⟨[(0,(.one (.bor l0_0 (map b_J a0)))),(3,(.one (.ref ⟨(3,0,0),[],0,(toNat ((length (map b_J a0)):Int))⟩))),(4,(.oi w1_1)),(11,(.one (.val (.bool w2_1))))],[((3,0,0),.live ⟨6,(map d_J w0_1),[]⟩)]⟩) .nil)))))))))
theorem c17_0 (a0:List K_J):∀(l p q:List K_J),q.length=l.length→∃w1 w2,r17_0 a0 l (p.length:Int) (p++q)=.k0 (p++l) w1 w2
  |[],p,[],_=>⟨_,_,rfl⟩
  |[],_,_::_,h=>by simp at h
  |_::_,_,[],h=>by simp at h
  |x::l,p,y::q,h=>by
    have ih:=c17_0 a0 l (p++ [x]) q yaf
    have e:set (p++y::q) (toNat (p.length:Int)) x=(p++ [x])++q:=by simp
    have e2:((p++ [x]).length:Int)=(p.length:Int)+1:=by simp
    rw[e2] at ih
    simp only[r17_0]
    rw[show p++x::l=(p++ [x])++l by simp]
    first |(rw[e]; exact ih) |(simp only[e]; exact ih)
theorem q17 (a0:(List K_J)) (hy0:length a0*64≤140737488351232) (hy1:∀z∈a0,ok_J z):(m17 a0)=a0:=by
  have h:=c17_0 a0 a0 [] (List.replicate (toNat ((length (map b_J a0)):Int)) (K_J.mk 0 0 0 0 0 [])) (by simp)
  unfold m17
  simp only[List.nil_append,length_nil] at h
  obtain⟨_,_,h⟩:=h
  rw[show ((0:Nat):Int)=0 from rfl] at h
  rw[h]
theorem g17 {l0_0:Nat} {a0:(List K_J)} (hy0:length a0*64≤140737488351232) (hy1:∀z∈a0,ok_J z):Ev F X (.call 17 [(.one (.bor l0_0 (map b_J a0)))] [] [] [(.one (.own 6 (map d_J a0)))]):=by
  have t:=e17 (l0_0:=l0_0) (a0:=a0) hy0 hy1
  rw[q17 a0 hy0 hy1] at t
  exact t
/-! loop.example/g00539/impl.in -/
def m41 (a0:Int) (a1:Int) (a2:Int):Bool:=
  if(decide (a0≥a1))=true then(decide (a0≤a2)) else
  false
theorem e41 {a0:Int} {a1:Int} {a2:Int}:Ev F X (.call 41 [(.one (.val (.int .i64 a0))),(.one (.val (.int .i64 a1))),(.one (.val (.int .i64 a2)))] [] [] [(.one (.val (.bool (m41 a0 a1 a2))))]):=by
  unfold m41
  by_cases h0:(decide (a0≥a1))=true
  · try simp only[if_pos h0]
    exact cp ya (.f h0 (.f h0 (.f h0 (.f h0 (.h 10 (.b true) (.h 12 (.b true) (.h 14 (.b true) (.h 17 (.b true) .nil))))))))
  · try simp only[if_neg h0]
    exact cp ya (.f (nt h0) (.f (nt h0) (.f (nt h0) (.f (nt h0) (.h 10 (.b false) (.h 12 (.b false) (.h 14 (.b false) (.h 17 (.b false) .nil))))))))
theorem e74 {a0:Int}:Ev F X (.call 74 [(.one (.val (.int .i64 a0)))] [] [] [(.one (.val (.bool (m41 a0 0 2147483646))))]):=by
  exact cp ya (.r 5 [] [] (e41 (a0:=a0) (a1:=0) (a2:=2147483646)) .nil)
/-! loop.example/g00539/impl.bitsOk -/
def m75 (a0:Int):Bool:=
  if(m41 a0 1 1023)=true then(decide ((Int.tmod a0 256) > 0)) else
  false
theorem e75 {a0:Int}:Ev F X (.call 75 [(.one (.val (.int .i64 a0)))] [] [] [(.one (.val (.bool (m75 a0))))]):=by
  unfold m75
  by_cases h0:(m41 a0 1 1023)=true
  · try simp only[if_pos h0]
    have f3:(256:Int)≠0:=yb
    exact cp ya (.r 5 [] [] (e41 (a0:=a0) (a1:=1) (a2:=1023)) (.f h0 (.f h0 (.f f3 (.f h0 (.f h0 (.h 8 (.b true) (.h 10 (.b true) (.h 12 (.b true) (.h 15 (.b true) .nil))))))))))
  · try simp only[if_neg h0]
    exact cp ya (.r 5 [] [] (e41 (a0:=a0) (a1:=1) (a2:=1023)) (.f (nt h0) (.f (nt h0) (.f (nt h0) (.f (nt h0) (.h 8 (.b false) (.h 10 (.b false) (.h 12 (.b false) (.h 15 (.b false) .nil)))))))))
theorem e134 {a0:Int}:Ev F X (.call 134 [(.one (.val (.int .i64 a0)))] [] [] [(.one (.val (.bool (!(m41 a0 0 9999)))))]):=by
  exact cp ya (.r 5 [] [] (e41 (a0:=a0) (a1:=0) (a2:=9999)) .nil)
/-! loop 1015700_0 -/
inductive O1015700_0 where
  |k0 (w0:Int) (w1:Bool)
  |k1 (w0:Int)
def r1015700_0 (a0:(List Int)):List Int→Int→O1015700_0
  |x0::y0,i=>
    if(!(m41 x0 0 9999))=true then(O1015700_0.k1 i) else
    (r1015700_0 a0 y0 (i+1))
  |[],i=>(O1015700_0.k0 i (decide (i <((length (map b_i a0)):Int))))
def h1015700_0 (l0_0:Nat) (a0:(List Int)) (i:Int) :St:=⟨[(0,(.one (.bor l0_0 (map b_i a0)))),(1,(.clo 134 [] [])),(7,(.one (.val (.int .i64 ((length (map b_i a0)):Int))))),(8,(.one (.val (.int .i64 i))))],[]⟩
def ex1015700_0:O1015700_0→VX.Exit
  |.k0 _ _=>(.exit 0)
  |.k1 _=>.ret
def fin1015700_0 (l0_0:Nat) (a0:(List Int)):O1015700_0→St
  |.k0 w0 w1=>⟨[(0,(.one (.bor l0_0 (map b_i a0)))),(1,(.clo 134 [] [])),(7,(.one (.val (.int .i64 ((length (map b_i a0)):Int))))),(8,(.one (.val (.int .i64 w0)))),(9,(.one (.val (.bool w1))))],[]⟩
  |.k1 w0=>⟨[(4,(.one (.val (.int .i64 w0))))],[]⟩
theorem t1015700_0 {l0_0:Nat} {a0:(List Int)} (hy0:length a0*8≤140737488351232):∀(y0:List Int) (p:List Int),p++y0=a0→Ev F X (.code l157_0 (h1015700_0 l0_0 a0 (length p:Int)) (ex1015700_0 (r1015700_0 a0 y0 (length p:Int))) (fin1015700_0 l0_0 a0 (r1015700_0 a0 y0 (length p:Int))))
  |[],p,hp0=>by
    have hc:=hcn b_i hp0
    exact lx 3 ya (.f (nt hc) (.h 2 (.b false) .nil)) rfl
  |x0::y0,p,hp0=>by
    have hc:=hcy b_i hp0
    have Hx0:=hxy hp0
    have hlen:=hly hp0
    have hw:wrap .i64 ((length p:Int)+1)=(length p:Int)+1:=wrap64 yb
    simp only[r1015700_0]
    have f1:0≤(length p:Int):=yb
    have P1 {hs q} (r:PS F X hs q):=(PS.f hc (.f f1 (.f (mp_ b_i Hx0) (.h 2 (.b true) (.h 14 (.row [(.i x0)]) (.r 18 [] [] (e134 (a0:=x0)) r))))))
    by_cases h_1:(!(m41 x0 0 9999))=true
    · try simp only[if_pos h_1]
      exact lx 24 ya (P1 (.f h_1 (.h 19 (.b true) .nil))) rfl
    · try simp only[if_neg h_1]
      have ih:=t1015700_0 (l0_0:=l0_0) (a0:=a0) hy0 y0 (p++ [x0]) ye
      rw[pl1,← hw] at ih; rw[← hw]
      exact ly 24 ya (P1 (.f (nt h_1) (.f trivial (.h 19 (.b false) .nil)))) ih
/-! slices.IndexFunc[[]int64,int64] -/
def m1015700 (a0:(List Int)):Int:=
  (match r1015700_0 a0 a0 0 with | .k0 w0_0 w1_0=>(-1) | .k1 w0_0=>w0_0)
theorem e1015700 {l0_0:Nat} {a0:(List Int)} (hy0:length a0*8≤140737488351232):Ev F X (.call 157 [(.one (.bor l0_0 (map b_i a0))),(.clo 134 [] [])] [] [] [(.one (.val (.int .i64 (m1015700 a0))))]):=by
  unfold m1015700
  cases h0:r1015700_0 a0 a0 0 with
  |k0 w0_0 w1_0=>
    try dsimp only
    have f0:=Eq.refl (h1015700_0 l0_0 a0 0 )
    exact cp ya (.f f0 (.f (ev_ (e:=ex1015700_0) (g:=(fin1015700_0 l0_0 a0)) h0 (t1015700_0 (l0_0:=l0_0) (a0:=a0) (by assumption) a0 []  rfl)) (.h 8 (.loop (h1015700_0 l0_0 a0 0) (.exit 0) ⟨[(0,(.one (.bor l0_0 (map b_i a0)))),(1,(.clo 134 [] [])),(7,(.oi ((length (map b_i a0)):Int))),(8,(.oi w0_0)),(9,(.one (.val (.bool w1_0))))],[]⟩) .nil)))
  |k1 w0_0=>
    try dsimp only
    have f0:=Eq.refl (h1015700_0 l0_0 a0 0 )
    exact cp ya (.f f0 (.f (ev_ (e:=ex1015700_0) (g:=(fin1015700_0 l0_0 a0)) h0 (t1015700_0 (l0_0:=l0_0) (a0:=a0) (by assumption) a0 []  rfl)) (.h 8 (.loop (h1015700_0 l0_0 a0 0) .ret ⟨[(4,(.oi w0_0))],[]⟩) .nil)))
theorem e1013300 {l0_0:Nat} {a0:(List Int)} (hy0:length a0*8≤140737488351232):Ev F X (.call 133 [(.one (.bor l0_0 (map b_i a0))),(.clo 134 [] [])] [] [] [(.one (.val (.bool (decide ((m1015700 a0)≥0)))))]):=by
  exact cp ya (.r 7 [] [] (e1015700 (l0_0:=(l0_0+1)) (a0:=a0) ‹_›) .nil)
/-! loop.example/g00539/impl.inFault$1 -/
def m1013600 (a0:K_N) (a101001:Int) (a101002:Int) (a101003:List Int):Bool:=
  if(a101001==a0.f0)=true then(a101002==a0.f1) else
  false
theorem e1013600 {l0_2:Nat} {a0:K_N} {l101000:Nat} {a101001:Int} {a101002:Int} {a101003:List Int}:Ev F X (.call 136 [(.agg (k_N l0_2 a0)),(.bptr l101000 [(.val (.int .i64 a101001)),(.val (.int .i64 a101002)),(.sl (map b_i a101003))])] [] [] [(.one (.val (.bool (m1013600 a0 a101001 a101002 a101003))))]):=by
  unfold m1013600
  by_cases h0:(a101001==a0.f0)=true
  · try simp only[if_pos h0]
    exact cp ya (.f h0 (.f h0 (.f h0 (.f h0 (.f h0 (.f h0 (.h 16 (.b true) (.h 18 (.b true) (.h 20 (.b true) (.h 22 (.b true) (.h 24 (.b true) (.h 27 (.b true) .nil))))))))))))
  · try simp only[if_neg h0]
    exact cp ya (.f (nt h0) (.f (nt h0) (.f (nt h0) (.f (nt h0) (.f (nt h0) (.f (nt h0) (.h 16 (.b false) (.h 18 (.b false) (.h 20 (.b false) (.h 22 (.b false) (.h 24 (.b false) (.h 27 (.b false) .nil))))))))))))
/-! loop 1015800_0 -/
inductive O1015800_0 where
  |k0 (w0:Int) (w1:Bool)
  |k1 (w0:Int)
def r1015800_0 (a0:(List K_N)) (a2001:Int) (a2002:Int) (a2003:List Int):List K_N→Int→O1015800_0
  |x0::y0,i=>
    if(m1013600 x0 a2001 a2002 a2003)=true then(O1015800_0.k1 i) else
    (r1015800_0 a0 a2001 a2002 a2003 y0 (i+1))
  |[],i=>(O1015800_0.k0 i (decide (i <((length (map b_N a0)):Int))))
def h1015800_0 (l0_0:Nat) (l2000:Nat) (a0:(List K_N)) (a2001:Int) (a2002:Int) (a2003:List Int) (i:Int) :St:=⟨[(0,(.one (.bor l0_0 (map b_N a0)))),(1,(.clo 136 [] [(.bptr l2000 [(.val (.int .i64 a2001)),(.val (.int .i64 a2002)),(.sl (map b_i a2003))])])),(7,(.one (.val (.int .i64 ((length (map b_N a0)):Int))))),(8,(.one (.val (.int .i64 i))))],[]⟩
def ex1015800_0:O1015800_0→VX.Exit
  |.k0 _ _=>(.exit 0)
  |.k1 _=>.ret
def fin1015800_0 (l0_0:Nat) (l2000:Nat) (a0:(List K_N)) (a2001:Int) (a2002:Int) (a2003:List Int):O1015800_0→St
  |.k0 w0 w1=>⟨[(0,(.one (.bor l0_0 (map b_N a0)))),(1,(.clo 136 [] [(.bptr l2000 [(.val (.int .i64 a2001)),(.val (.int .i64 a2002)),(.sl (map b_i a2003))])])),(7,(.one (.val (.int .i64 ((length (map b_N a0)):Int))))),(8,(.one (.val (.int .i64 w0)))),(9,(.one (.val (.bool w1))))],[]⟩
  |.k1 w0=>⟨[(4,(.one (.val (.int .i64 w0))))],[]⟩
theorem t1015800_0 {l0_0:Nat} {l2000:Nat} {a0:(List K_N)} {a2001:Int} {a2002:Int} {a2003:List Int} (hy0:length a0*40≤140737488351232) (hy1:∀z∈a0,ok_N z) (hy2:length a2003*8≤140737488351232):∀(y0:List K_N) (p:List K_N),p++y0=a0→Ev F X (.code l158_0 (h1015800_0 l0_0 l2000 a0 a2001 a2002 a2003 (length p:Int)) (ex1015800_0 (r1015800_0 a0 a2001 a2002 a2003 y0 (length p:Int))) (fin1015800_0 l0_0 l2000 a0 a2001 a2002 a2003 (r1015800_0 a0 a2001 a2002 a2003 y0 (length p:Int))))
  |[],p,hp0=>by
    have hc:=hcn b_N hp0
    exact lx 3 ya (.f (nt hc) (.h 2 (.b false) .nil)) rfl
  |x0::y0,p,hp0=>by
    have hc:=hcy b_N hp0
    have Hx0:=hxy hp0
    have Mx0_0:=hy1 x0 (List.mem_of_getElem? Hx0)
    have hlen:=hly hp0
    have hw:wrap .i64 ((length p:Int)+1)=(length p:Int)+1:=wrap64 yb
    simp only[r1015800_0]
    have f1:0≤(length p:Int):=yb
    have P1 {hs q} (r:PS F X hs q):=(PS.f hc (.f f1 (.f (mp_ b_N Hx0) (.h 2 (.b true) (.h 14 (.row (b_N x0)) (.r 18 [] [] (e1013600 (l0_2:=(l0_0+1)) (l101000:=(l2000+1)) (a0:=x0) (a101001:=a2001) (a101002:=a2002) (a101003:=a2003)) r))))))
    by_cases h_1:(m1013600 x0 a2001 a2002 a2003)=true
    · try simp only[if_pos h_1]
      exact lx 24 ya (P1 (.f h_1 (.h 19 (.b true) .nil))) rfl
    · try simp only[if_neg h_1]
      have ih:=t1015800_0 (l0_0:=l0_0) (l2000:=l2000) (a0:=a0) (a2001:=a2001) (a2002:=a2002) (a2003:=a2003) hy0 hy1 hy2 y0 (p++ [x0]) ye
      rw[pl1,← hw] at ih; rw[← hw]
      exact ly 24 ya (P1 (.f (nt h_1) (.f trivial (.h 19 (.b false) .nil)))) ih
/-! slices.IndexFunc[[]loop.example/g00539/impl.In,loop.example/g00539/impl.In] -/
def m1015800 (a0:(List K_N)) (a2001:Int) (a2002:Int) (a2003:List Int):Int:=
  (match r1015800_0 a0 a2001 a2002 a2003 a0 0 with | .k0 w0_0 w1_0=>(-1) | .k1 w0_0=>w0_0)
theorem e1015800 {l0_0:Nat} {a0:(List K_N)} {l2000:Nat} {a2001:Int} {a2002:Int} {a2003:List Int} (hy0:length a0*40≤140737488351232) (hy1:∀z∈a0,ok_N z) (hy2:length a2003*8≤140737488351232):Ev F X (.call 158 [(.one (.bor l0_0 (map b_N a0))),(.clo 136 [] [(.bptr l2000 [(.val (.int .i64 a2001)),(.val (.int .i64 a2002)),(.sl (map b_i a2003))])])] [] [] [(.one (.val (.int .i64 (m1015800 a0 a2001 a2002 a2003))))]):=by
  unfold m1015800
  cases h0:r1015800_0 a0 a2001 a2002 a2003 a0 0 with
  |k0 w0_0 w1_0=>
    try dsimp only
    have f0:=Eq.refl (h1015800_0 l0_0 l2000 a0 a2001 a2002 a2003 0 )
    exact cp ya (.f f0 (.f (ev_ (e:=ex1015800_0) (g:=(fin1015800_0 l0_0 l2000 a0 a2001 a2002 a2003)) h0 (t1015800_0 (l0_0:=l0_0) (l2000:=l2000) (a0:=a0) (a2001:=a2001) (a2002:=a2002) (a2003:=a2003) (by assumption) (by assumption) (by assumption) a0 []  rfl)) (.h 8 (.loop (h1015800_0 l0_0 l2000 a0 a2001 a2002 a2003 0) (.exit 0) ⟨[(0,(.one (.bor l0_0 (map b_N a0)))),(1,(.clo 136 [] [(.bptr l2000 [(.i a2001),(.i a2002),(.sl (map b_i a2003))])])),(7,(.oi ((length (map b_N a0)):Int))),(8,(.oi w0_0)),(9,(.one (.val (.bool w1_0))))],[]⟩) .nil)))
  |k1 w0_0=>
    try dsimp only
    have f0:=Eq.refl (h1015800_0 l0_0 l2000 a0 a2001 a2002 a2003 0 )
    exact cp ya (.f f0 (.f (ev_ (e:=ex1015800_0) (g:=(fin1015800_0 l0_0 l2000 a0 a2001 a2002 a2003)) h0 (t1015800_0 (l0_0:=l0_0) (l2000:=l2000) (a0:=a0) (a2001:=a2001) (a2002:=a2002) (a2003:=a2003) (by assumption) (by assumption) (by assumption) a0 []  rfl)) (.h 8 (.loop (h1015800_0 l0_0 l2000 a0 a2001 a2002 a2003 0) .ret ⟨[(4,(.oi w0_0))],[]⟩) .nil)))
theorem e1013500 {l0_0:Nat} {a0:(List K_N)} {l2000:Nat} {a2001:Int} {a2002:Int} {a2003:List Int} (hy0:length a0*40≤140737488351232) (hy1:∀z∈a0,ok_N z) (hy2:length a2003*8≤140737488351232):Ev F X (.call 135 [(.one (.bor l0_0 (map b_N a0))),(.clo 136 [] [(.bptr l2000 [(.val (.int .i64 a2001)),(.val (.int .i64 a2002)),(.sl (map b_i a2003))])])] [] [] [(.one (.val (.bool (decide ((m1015800 a0 a2001 a2002 a2003)≥0)))))]):=by
  have f0:Ev F X (.call 158 [(.one (.bor (l0_0+1) (map b_N a0))),(.clo 136 [] [(.bptr (l2000+1) [(.i a2001),(.i a2002),(.sl (map b_i a2003))])])] [] [] [(.oi (m1015800 a0 a2001 a2002 a2003))]):=(e1015800 (a0:=a0) (a2001:=a2001) (a2002:=a2002) (a2003:=a2003) ‹_› ‹_› ‹_›)
  exact cp ya (.r 7 [] [] f0 .nil)
/-! loop.example/g00539/impl.inFault -/
def m102 (a0:K_N) (a1:(List K_N)):Int:=
  if(!(m41 a0.f0 0 2147483646))=true then 3 else
  if(!(m41 a0.f1 0 3))=true then 3 else
    if(decide (((length (map b_i a0.f2)):Int) > 8))=true then 2 else
      if(decide ((m1015700 a0.f2)≥0))=true then 3 else
        if(decide ((m1015800 a1 a0.f0 a0.f1 a0.f2)≥0))=true then 6 else
          0
theorem e102 {l0_2:Nat} {a0:K_N} {l1_0:Nat} {a1:(List K_N)} (hy0:length a0.f2*8≤140737488351232) (hy1:length a1*40≤140737488351232) (hy2:∀z∈a1,ok_N z):Ev F X (.call 102 [(.agg (k_N l0_2 a0)),(.one (.bor l1_0 (map b_N a1)))] [] [] [(.one (.val (.int .i64 (m102 a0 a1))))]):=by
  unfold m102
  have P0 {hs q} (r:PS F X hs q):=(PS.r 9 [] [] (e74 (a0:=a0.f0)) r)
  by_cases h0:(!(m41 a0.f0 0 2147483646))=true
  · try simp only[if_pos h0]
    exact cp ya (P0 (.f h0 (.f h0 (.f h0 (.f h0 (.f h0 (.h 14 (.b true) (.h 16 (.b true) (.h 18 (.b true) (.h 20 (.b true) (.h 23 (.b true) .nil)))))))))))
  · try simp only[if_neg h0]
    have P1 {hs q} (r:PS F X hs q):=(P0 (.f (nt h0) (.f (nt h0) (.f (nt h0) (.h 14 (.b false) (.h 16 (.b false) (.h 18 (.b false) (.r 19 [] [] (e41 (a0:=a0.f1) (a1:=0) (a2:=3)) (.f (nt h0) (.f (nt h0) (.h 20 (.b false) (.h 23 (.b false) r))))))))))))
    by_cases h1:(!(m41 a0.f1 0 3))=true
    · try simp only[if_pos h1]
      exact cp ya (P1 (.f h1 (.h 26 (.b true) .nil)))
    · try simp only[if_neg h1]
      have P2 {hs q} (r:PS F X hs q):=(P1 (.f (nt h1) (.h 26 (.b false) r)))
      by_cases h2:(decide (((length (map b_i a0.f2)):Int) > 8))=true
      · try simp only[if_pos h2]
        exact cp ya (P2 (.f h2 (.h 37 (.b true) .nil)))
      · try simp only[if_neg h2]
        have P3 {hs q} (r:PS F X hs q):=(P2 (.f (nt h2) (.h 37 (.b false) (.r 43 [] [] (e1013300 (l0_0:=(l0_2+1)) (a0:=a0.f2) ‹_›) r))))
        by_cases h3:(decide ((m1015700 a0.f2)≥0))=true
        · try simp only[if_pos h3]
          exact cp ya (P3 (.f h3 (.h 46 (.b true) .nil)))
        · try simp only[if_neg h3]
          have f11:fullL [(.i a0.f0),(.i a0.f1),(.bor l0_2 (map b_i a0.f2))]=true:=yL
          have f12:Ev F X (.call 135 [(.one (.bor (l1_0+1) (map b_N a1))),(.clo 136 [] [(.bptr 0 (b_N a0))])] [] [] [(.one (.val (.bool (decide ((m1015800 a1 a0.f0 a0.f1 a0.f2)≥0)))))]):=(e1013500 (a0:=a1) (a2001:=a0.f0) (a2002:=a0.f1) (a2003:=a0.f2) ‹_› ‹_› ‹_›)
          by_cases h4:(decide ((m1015800 a1 a0.f0 a0.f1 a0.f2)≥0))=true
          · try simp only[if_pos h4]
            exact cp ya (P3 (.f (nt h3) (.f f11 (.h 46 (.b false) (.r 52 [] [] f12 (.f h4 (.h 55 (.b true) .nil)))))))
          · try simp only[if_neg h4]
            exact cp ya (P3 (.f (nt h3) (.f f11 (.h 46 (.b false) (.r 52 [] [] f12 (.f (nt h4) (.h 55 (.b false) .nil)))))))
theorem inl102 {a:K_N} {l:List K_N} (h:m102 a l=0):length a.f2≤8:=by
  by_cases c:(decide (((length (map b_i a.f2)):Int) > 8))=true
  · unfold m102 at h
    simp only[if_pos c] at h
    (repeat' split at h)<;>exact absurd h yM
  · simp only[decide_eq_true_eq,length_map] at c; omega
theorem e103 {a0:Int}:Ev F X (.call 103 [(.one (.val (.int .i64 a0)))] [] [] [(.one (.val (.bool (m41 a0 0 1000000))))]):=by
  exact cp ya (.r 5 [] [] (e41 (a0:=a0) (a1:=0) (a2:=1000000)) .nil)
/-! loop.example/g00539/impl.ProgramFault$1 -/
def m137 (a0:Int):Bool:=
  if(!(m41 a0 1 9))=true then(!(m41 a0 100 1099)) else
  false
theorem e137 {a0:Int}:Ev F X (.call 137 [(.one (.val (.int .i64 a0)))] [] [] [(.one (.val (.bool (m137 a0))))]):=by
  unfold m137
  by_cases h0:(!(m41 a0 1 9))=true
  · try simp only[if_pos h0]
    exact cp ya (.r 5 [] [] (e41 (a0:=a0) (a1:=1) (a2:=9)) (.f h0 (.f h0 (.h 10 (.b true) (.h 12 (.b true) (.r 13 [] [] (e41 (a0:=a0) (a1:=100) (a2:=1099)) (.f h0 (.f h0 (.h 14 (.b true) (.h 17 (.b true) .nil))))))))))
  · try simp only[if_neg h0]
    exact cp ya (.r 5 [] [] (e41 (a0:=a0) (a1:=1) (a2:=9)) (.f (nt h0) (.f (nt h0) (.f (nt h0) (.f (nt h0) (.h 10 (.b false) (.h 12 (.b false) (.h 14 (.b false) (.h 17 (.b false) .nil)))))))))
end Go.Proofs.YtmdocdnidilaiaaGreat.PutJob
