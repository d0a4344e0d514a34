/- What the functions compute. -/
import Derived.Test.YtmdocdnidilaiaaGreatECheckShareD
import Derived.KernelRfl
namespace Go.Proofs.YtmdocdnidilaiaaGreat.CheckShare
open Go Go.Proofs.YtmdocdnidilaiaaGreat.V
set_option linter.unusedVariables false
set_option linter.unusedSimpArgs false
set_option maxRecDepth 20000
open Go.IntKind (wrap)
open Int (toNat)
open List (length_replicate length_map length_set length_append length_cons length_nil length_take length_drop take_of_length_le map_take map_drop map_set append_assoc getElem?_map map length take drop getD set)
attribute [local simp] toBR_i fullR_i pureR_i lenB_i lenD_i fromBR_i copy_i toBR_N fullR_N pureR_N lenB_N lenD_N toBR_U fullR_U pureR_U lenB_U lenD_U toBR_T fullR_T pureR_T lenB_T lenD_T toBR_J fullR_J pureR_J lenB_J lenD_J toBR_JL fullR_JL pureR_JL lenB_JL lenD_JL toBR_KY fullR_KY pureR_KY lenB_KY lenD_KY fromBR_KY copy_KY toBR_LiiiiE fullR_LiiiiE pureR_LiiiiE lenB_LiiiiE lenD_LiiiiE toBR_b fullR_b pureR_b lenB_b lenD_b fromBR_b copy_b toBR_SR fullR_SR pureR_SR lenB_SR lenD_SR toBR_G fullR_G pureR_G lenB_G lenD_G toBR_TL fullR_TL pureR_TL lenB_TL lenD_TL toBR_LiE fullR_LiE pureR_LiE lenB_LiE lenD_LiE toBR_NL fullR_NL pureR_NL lenB_NL lenD_NL toBR_UL fullR_UL pureR_UL lenB_UL lenD_UL strInts_len byteRows_len toBR_y fullR_y pureR_y lenB_y lenD_y fromBR_y copy_y toBR_LyE fullR_LyE pureR_LyE lenB_LyE lenD_LyE toBR_LLyEE fullR_LLyEE pureR_LLyEE lenB_LLyEE lenD_LLyEE
def m7 (a0:K_J) (a1:Int) (a2:Int) (a3:Int):K_J:=
  if((m35 a0) !=0)=true then(K_J.mk (m35 a0) 0 0 0 0 []) else
  if(!(m36 a1 0 999))=true then(K_J.mk 3 0 0 0 0 []) else
    if(!(m36 a2 1 99999))=true then(K_J.mk 3 0 0 0 0 []) else
      if(!(m36 a3 0 65535))=true then(K_J.mk 3 0 0 0 0 []) else
        if((m38 (m37 a0 a1 a2 a3)) !=0)=true then(K_J.mk (m38 (m37 a0 a1 a2 a3)) 0 0 0 0 []) else
          (K_J.mk 0 ((m37 a0 a1 a2 a3).f0) ((m37 a0 a1 a2 a3).f1) ((m37 a0 a1 a2 a3).f2) ((m37 a0 a1 a2 a3).f3) ((m37 a0 a1 a2 a3).f4))
theorem e7 {l0_5:Nat} {a0:K_J} {a1:Int} {a2:Int} {a3:Int} (hy0:length a0.f5*56≤140737488351232) (hy1:∀z∈a0.f5,ok_T z):Ev F X (.call 7 [(.agg [(.val (.int .i64 a0.f0)),(.val (.int .i64 a0.f1)),(.val (.int .i64 a0.f2)),(.val (.int .i64 a0.f3)),(.val (.int .i64 a0.f4)),(.bor l0_5 (map b_T a0.f5))]),(.one (.val (.int .i64 a1))),(.one (.val (.int .i64 a2))),(.one (.val (.int .i64 a3)))] [] [] [(.agg [(.val (.int .i64 ((m7 a0 a1 a2 a3).f0))),(.val (.int .i64 ((m7 a0 a1 a2 a3).f1))),(.val (.int .i64 ((m7 a0 a1 a2 a3).f2))),(.val (.int .i64 ((m7 a0 a1 a2 a3).f3))),(.val (.int .i64 ((m7 a0 a1 a2 a3).f4))),(.own 3 (map d_T ((m7 a0 a1 a2 a3).f5)))])]):=by
  unfold m7
  have f0:fullL [(.i a0.f0),(.i a0.f1),(.i a0.f2),(.i a0.f3),(.i a0.f4),(.bor l0_5 (map b_T a0.f5))]=true:=yE
  have P0 {hs q} (r:PS F X hs q):=(PS.f f0 (.r 5 [] [] (e35 (l0:=0) (a0:=a0) yK yK) r))
  by_cases h0:((m35 a0) !=0)=true
  · try simp only[if_pos h0]
    have f3:pureR []=true:=(by assumption)
    exact cp ya (P0 (.f h0 (.f f3 (.h 12 (.b true) .nil))))
  · try simp only[if_neg h0]
    have P1 {hs q} (r:PS F X hs q):=(P0 (.f (nt h0) (.h 12 (.b false) (.r 16 [] [] (e36 (a0:=a1) (a1:=0) (a2:=999)) r))))
    by_cases h1:(!(m36 a1 0 999))=true
    · try simp only[if_pos h1]
      have f8:pureR []=true:=(by assumption)
      exact cp ya (P1 (.f h1 (.f h1 (.f h1 (.f h1 (.f f8 (.h 21 (.b true) (.h 23 (.b true) (.h 25 (.b true) (.h 28 (.b true) .nil))))))))))
    · try simp only[if_neg h1]
      have P2 {hs q} (r:PS F X hs q):=(P1 (.f (nt h1) (.f (nt h1) (.h 21 (.b false) (.h 23 (.b false) (.r 24 [] [] (e36 (a0:=a2) (a1:=1) (a2:=99999)) (.f (nt h1) (.f (nt h1) (.h 25 (.b false) (.h 28 (.b false) r))))))))))
      by_cases h2:(!(m36 a2 1 99999))=true
      · try simp only[if_pos h2]
        have f13:pureR []=true:=(by assumption)
        exact cp ya (P2 (.f h2 (.f h2 (.f h2 (.f h2 (.f f13 (.h 31 (.b true) (.h 33 (.b true) (.h 35 (.b true) (.h 38 (.b true) .nil))))))))))
      · try simp only[if_neg h2]
        have P3 {hs q} (r:PS F X hs q):=(P2 (.f (nt h2) (.f (nt h2) (.h 31 (.b false) (.h 33 (.b false) (.r 34 [] [] (e36 (a0:=a3) (a1:=0) (a2:=65535)) (.f (nt h2) (.f (nt h2) (.h 35 (.b false) (.h 38 (.b false) r))))))))))
        by_cases h3:(!(m36 a3 0 65535))=true
        · try simp only[if_pos h3]
          have f15:pureR []=true:=(by assumption)
          exact cp ya (P3 (.f h3 (.f f15 (.h 39 (.b true) .nil))))
        · try simp only[if_neg h3]
          have f19:fullL [(.i ((m37 a0 a1 a2 a3).f0)),(.i ((m37 a0 a1 a2 a3).f1)),(.i ((m37 a0 a1 a2 a3).f2)),(.i ((m37 a0 a1 a2 a3).f3)),(.own 3 (map d_T ((m37 a0 a1 a2 a3).f4)))]=true:=(by simp[fullL,full]; done)
          have f20:Ev F X (.call 38 [(.bptr 0 [(.i ((m37 a0 a1 a2 a3).f0)),(.i ((m37 a0 a1 a2 a3).f1)),(.i ((m37 a0 a1 a2 a3).f2)),(.i ((m37 a0 a1 a2 a3).f3)),(.sl (toBR (map d_T ((m37 a0 a1 a2 a3).f4))))])] [] [] [(.oi (m38 (m37 a0 a1 a2 a3)))]):=(by rw[show (toBR (map d_T ((m37 a0 a1 a2 a3).f4)))=(map b_T ((m37 a0 a1 a2 a3).f4)) from by first | rfl |(simp[map_take,map_drop,ol112,ol83,ol84,ol51,ol21,four_len]; done) |(simp[byteRows_eq,map_take,map_drop,ol112,ol83,ol84,ol51,ol21,four_len]; done) |(simp[*,map_take,map_drop,ol112,ol83,ol84,ol51,ol21,four_len]; done) |(rw[take_of_length_le (by simp only[length_drop,length_take,length_map,Int.toNat_natCast]; omega)]; simp only[← map_drop,← map_take])]; exact(e38 (l0:=0) (a0:=(m37 a0 a1 a2 a3)) (by have hj:SmJ a0:=js35 (by simpa using h0); have q:=(ob37 (a1:=a1) (a2:=a2) (a3:=a3) hj).1; omega) (by have hj:SmJ a0:=js35 (by simpa using h0); exact fun z hz=>((ob37 (a1:=a1) (a2:=a2) (a3:=a3) hj).2 z hz).ok)))
          have P4 {hs q} (r:PS F X hs q):=(P3 (.f (nt h3) (.f f0 (.h 39 (.b false) (.r 47 [] [] (e37 (l0:=0) (a0:=a0) (a1:=a1) (a2:=a2) (a3:=a3) yK yK (by have hj:SmJ a0:=js35 (by simpa using h0); exact hj)) (pe 0 (pe (length (map d_T ((m37 a0 a1 a2 a3).f4))) (.f f19 (.r 53 [] [] f20 r)))))))))
          by_cases h4:((m38 (m37 a0 a1 a2 a3)) !=0)=true
          · try simp only[if_pos h4]
            have f22:pureR []=true:=(by assumption)
            exact cp ya (P4 (.f h4 (.f f22 (.h 60 (.b true) .nil))))
          · try simp only[if_neg h4]
            exact cp ya (P4 (.f (nt h4) (pe 0 (pe (length (map d_T ((m37 a0 a1 a2 a3).f4))) (.f (pureR_T ((m37 a0 a1 a2 a3).f4)) (.h 60 (.b false) .nil))))))
theorem okm7 (a0:K_J) (a1:Int) (a2:Int) (a3:Int):ok_J (m7 a0 a1 a2 a3):=by
  by_cases h0:((m35 a0) !=0)=true
  · unfold m7; rw[if_pos h0]; simp[ok_N,ok_U,ok_T,ok_J,ok_JL,ok_LiiiiE,ok_SR,ok_G,ok_TL,ok_LiE,ok_NL,ok_UL,ok_LyE,ok_LLyEE]
  · have hj:SmJ a0:=js35 (by simpa using h0)
    have q1:=(ob37 (a1:=a1) (a2:=a2) (a3:=a3) hj).1
    have q2:=fun z hz=>((ob37 (a1:=a1) (a2:=a2) (a3:=a3) hj).2 z hz).ok
    unfold m7; rw[if_neg h0]
    (repeat' split)<;>first | exact⟨by simp only[]; omega,q2⟩ | exact⟨by simp,fun z hz=>by cases hz⟩
theorem sb7 {a:K_J} {e t n:Int} (h:(m7 a e t n).f0=0):m38 (K_G.mk (m7 a e t n).f1 (m7 a e t n).f2 (m7 a e t n).f3 (m7 a e t n).f4 (m7 a e t n).f5)=0:=by
  unfold m7 at h⊢
  by_cases c0:((m35 a) !=0)=true
  · rw[if_pos c0] at h; simp only[] at h; rw[h] at c0; exact absurd c0 yG
  rw[if_neg c0] at h⊢
  by_cases c1:(!(m36 e 0 999))=true
  · rw[if_pos c1] at h; exact absurd h yG
  rw[if_neg c1] at h⊢
  by_cases c2:(!(m36 t 1 99999))=true
  · rw[if_pos c2] at h; exact absurd h yG
  rw[if_neg c2] at h⊢
  by_cases c3:(!(m36 n 0 65535))=true
  · rw[if_pos c3] at h; exact absurd h yG
  rw[if_neg c3] at h⊢
  by_cases c4:((m38 (m37 a e t n)) !=0)=true
  · rw[if_pos c4] at h; simp only[] at h; rw[h] at c4; exact absurd c4 yG
  rw[if_neg c4]
  exact nz0 c4
inductive O86_0 where
  |k0 (w0:Int) (w1:Bool)
  |k1 (w0:Int)
def r86_0 (a0:(List K_J)) (a1:Int):List K_J→Int→O86_0
  |x0::y0,i=>
    if(x0.f0==a1)=true then(O86_0.k1 i) else
    (r86_0 a0 a1 y0 (i+1))
  |[],i=>(O86_0.k0 i (decide (i <((length (map b_J a0)):Int))))
def h86_0 (l0_0:Nat) (a0:(List K_J)) (a1:Int) (i:Int) :St:=⟨[(0,(.one (.bor l0_0 (map b_J a0)))),(1,(.one (.val (.int .i64 a1)))),(5,(.one (.val (.int .i64 i))))],[]⟩
def ex86_0:O86_0→VX.Exit
  |.k0 _ _=>(.exit 0)
  |.k1 _=>.ret
def fin86_0 (l0_0:Nat) (a0:(List K_J)) (a1:Int):O86_0→St
  |.k0 w0 w1=>⟨[(0,(.one (.bor l0_0 (map b_J a0)))),(1,(.one (.val (.int .i64 a1)))),(5,(.one (.val (.int .i64 w0)))),(9,(.one (.val (.bool w1))))],[]⟩
  |.k1 w0=>⟨[(4,(.one (.val (.int .i64 w0))))],[]⟩
theorem t86_0 {l0_0:Nat} {a0:(List K_J)} {a1:Int} (hy0:length a0*64≤140737488351232) (hy1:∀z∈a0,ok_J z):∀(y0:List K_J) (p:List K_J),p++y0=a0→Ev F X (.code l86_0 (h86_0 l0_0 a0 a1 (length p:Int)) (ex86_0 (r86_0 a0 a1 y0 (length p:Int))) (fin86_0 l0_0 a0 a1 (r86_0 a0 a1 y0 (length p:Int))))
  |[],p,hp0=>by
    have hc:=hcn b_J hp0
    exact lx 9 ya (.f (nt hc) (.h 8 (.b false) .nil)) rfl
  |x0::y0,p,hp0=>by
    have hc:=hcy b_J hp0
    have Hx0:=hxy hp0
    obtain⟨Mx0_0,Mx0_1⟩:=hy1 x0 (List.mem_of_getElem? Hx0)
    have hlen:=hly hp0
    have hw:wrap .i64 ((length p:Int)+1)=(length p:Int)+1:=wrap64 yb
    simp only[r86_0]
    have f1:0≤(length p:Int):=yb
    have P1 {hs q} (r:PS F X hs q):=(PS.f hc (.f f1 (.f (mp_ b_J Hx0) (.h 8 (.b true) (.h 14 (.row (b_J x0)) r)))))
    by_cases h_1:(x0.f0==a1)=true
    · try simp only[if_pos h_1]
      exact lx 28 ya (P1 (.f h_1 (.h 23 (.b true) .nil))) rfl
    · try simp only[if_neg h_1]
      have ih:=t86_0 (l0_0:=l0_0) (a0:=a0) (a1:=a1) hy0 hy1 y0 (p++ [x0]) yd
      rw[pl1,← hw] at ih; rw[← hw]
      exact ly 30 ya (P1 (.f (nt h_1) (.f trivial (.h 23 (.b false) .nil)))) ih
def m86 (a0:(List K_J)) (a1:Int):Int:=
  (match r86_0 a0 a1 a0 0 with | .k0 w0_0 w1_0=>(-1) | .k1 w0_0=>w0_0)
theorem e86 {l0_0:Nat} {a0:(List K_J)} {a1:Int} (hy0:length a0*64≤140737488351232) (hy1:∀z∈a0,ok_J z):Ev F X (.call 86 [(.one (.bor l0_0 (map b_J a0))),(.one (.val (.int .i64 a1)))] [] [] [(.one (.val (.int .i64 (m86 a0 a1))))]):=by
  unfold m86
  cases h0:r86_0 a0 a1 a0 0 with
  |k0 w0_0 w1_0=>
    try dsimp only
    have f0:=Eq.refl (h86_0 l0_0 a0 a1 0 )
    exact cp ya (.f f0 (.f (ev_ (e:=ex86_0) (g:=(fin86_0 l0_0 a0 a1)) h0 (t86_0 (l0_0:=l0_0) (a0:=a0) (a1:=a1) (by assumption) (by assumption) a0 []  rfl)) (.h 4 (.loop (h86_0 l0_0 a0 a1 0) (.exit 0) (fin86_0 l0_0 a0 a1 (.k0 w0_0 w1_0))) .nil)))
  |k1 w0_0=>
    try dsimp only
    have f0:=Eq.refl (h86_0 l0_0 a0 a1 0 )
    exact cp ya (.f f0 (.f (ev_ (e:=ex86_0) (g:=(fin86_0 l0_0 a0 a1)) h0 (t86_0 (l0_0:=l0_0) (a0:=a0) (a1:=a1) (by assumption) (by assumption) a0 []  rfl)) (.h 4 (.loop (h86_0 l0_0 a0 a1 0) .ret (fin86_0 l0_0 a0 a1 (.k1 w0_0))) .nil)))
theorem ixr86_0 (a0:(List K_J)) (a1:Int):∀(l:List K_J) (i:Int),(∃(w0:_) (w1:_),r86_0 a0 a1 l i=.k0 w0 w1)∨(∃w,r86_0 a0 a1 l i=.k1 w∧i≤w∧w < i+l.length)
  |[],i=>.inl ⟨i,(decide (i <((length (map b_J a0)):Int))),rfl⟩
  |x::l,i=>by
    have ih:=ixr86_0 a0 a1 l (i+1)
    simp only[r86_0]
    (repeat' split)
    all_goals first
      |exact .inr ⟨i,rfl,by omega,by simp only[length_cons]; omega⟩
      | (rcases ih with ⟨w0, w1, h⟩ | ⟨w, h, h1, h2⟩
         · exact .inl ⟨w0,w1,h⟩
         · exact .inr ⟨w,h,by omega,by simp only[length_cons]; omega⟩)
theorem ix86 (a0:(List K_J)) (a1:Int): -1≤m86 a0 a1∧m86 a0 a1 <(length a0:Int):=by
  unfold m86
  rcases ixr86_0 a0 a1 a0 0 with⟨w0,w1,h⟩ |⟨w,h,h1,h2⟩<;>simp only[h]<;>omega
inductive O114_0 where
  |k0 (w0:List Int) (w1:Bool)
def r114_0 :Nat→List Int→O114_0
  |n+1,v0=>
    if(decide (((length (map d_i v0)):Int) > 1))=true then(r114_0 n (m98 v0)) else
    (O114_0.k0 v0 (decide (((length (map d_i v0)):Int) > 1)))
  |0,v0=>(O114_0.k0 v0 (decide (((length (map d_i v0)):Int) > 1)))
def h114_0 (a0:(List Int)) (v0:List Int):St:=⟨[(3,(.one (.ref ⟨(3,0,0),[],0,(length (map d_i v0))⟩)))],[((3,0,0),.live ⟨1,(map d_i v0),[]⟩)]⟩
def ex114_0:O114_0→VX.Exit
  |.k0 _ _=>(.exit 0)
def fin114_0 (a0:(List Int)):O114_0→St
  |.k0 w0 w1=>⟨[(3,(.one (.ref ⟨(3,0,0),[],0,(length (map d_i w0))⟩))),(7,(.one (.val (.bool w1))))],[((3,0,0),.live ⟨1,(map d_i w0),[]⟩)]⟩
theorem t114_0 {a0:(List Int)} (hy0:1≤length a0) (hy1:length a0≤1000):∀(n:Nat) (v0:List Int),1≤length v0→length v0≤1000→length v0≤n→Ev F X (.code l114_0 (h114_0 a0 v0) (ex114_0 (r114_0 n v0)) (fin114_0 a0 (r114_0 n v0)))
  |0,v0,hi0,hi1,hn=>by
    have hc:¬(decide (((length (map d_i v0)):Int) > 1))=true:=by first |(simp only[decide_eq_true_eq,length_map]; omega) |(exact fuel64_zero hn) |(simp only[decide_eq_true_eq] at*; omega) |(simp at*; omega)
    exact lx 7 ya (.f (nt hc) (.h 6 (.b false) .nil)) rfl
  |n+1,v0,hi0,hi1,hn=>by
    simp only[r114_0]
    by_cases h_0:(decide (((length (map d_i v0)):Int) > 1))=true
    · try simp only[if_pos h_0]
      have ih:=t114_0 (a0:=a0) hy0 hy1 n (m98 v0) yx yx yx
      exact ly 13 ya (.f h_0 (ln_i v0 (.h 6 (.b true) (.r 10 [] [(map b_i v0)] (e98 (l0_0:=0) (a0:=v0) ‹_›) (pe 0 (pe (length (map d_i (m98 v0))) .nil)))))) ih
    · try simp only[if_neg h_0]
      exact lx 7 ya (.f (nt h_0) (.h 6 (.b false) .nil)) rfl
def post114_0 (a0:(List Int)):O114_0→Prop
  |.k0 w0 _=>1≤length w0
theorem z114_0 {a0:(List Int)} (hy0:1≤length a0) (hy1:length a0≤1000):∀(n:Nat) (v0:List Int),1≤length v0→length v0≤1000→post114_0 a0 (r114_0 n v0)
  |0,v0,hi0,hi1=>by
    simp only[r114_0]
    first | trivial |(show _ ; simp only[post114_0]; omega) |(simp only[post114_0] at*; omega) |(have q:=abl98 v0 yb; have q2:=abu98 v0 yb; simp only[decide_eq_true_eq,length_map] at h_0; omega) |(have q:=abl98 v0 yb; have q2:=abu98 v0 yb; omega) |(simp only[decide_eq_true_eq] at*; omega)
  |n+1,v0,hi0,hi1=>by
    simp only[r114_0]
    by_cases h_0:(decide (((length (map d_i v0)):Int) > 1))=true
    · try simp only[if_pos h_0]
      exact z114_0 (a0:=a0) hy0 hy1 n (m98 v0) yx yx
    · try simp only[if_neg h_0]
      first | trivial |(show _ ; simp only[post114_0]; omega) |(simp only[post114_0] at*; omega) |(have q:=abl98 v0 yb; have q2:=abu98 v0 yb; simp only[decide_eq_true_eq,length_map] at h_0; omega) |(have q:=abl98 v0 yb; have q2:=abu98 v0 yb; omega) |(simp only[decide_eq_true_eq] at*; omega)
def m114 (a0:(List Int)):Int:=
  (match r114_0 (length a0) a0 with | .k0 w0_0 w1_0=>(getD w0_0 0 0))
theorem e114 {a0:(List Int)} (hy0:1≤length a0) (hy1:length a0≤1000):Ev F X (.call 114 [(.one (.ref ⟨(0,0,0),[],0,(length (map d_i a0))⟩))] [((0,0,0),⟨1,(map d_i a0),[]⟩)] [] [(.one (.val (.int .i64 (m114 a0))))]):=by
  unfold m114
  cases h0:r114_0 (length a0) a0 with
  |k0 w0_0 w1_0=>
    try dsimp only
    have zh0:=z114_0 (a0:=a0) (by assumption) (by assumption) (length a0) a0 yb yb; rw[h0] at zh0; simp only[post114_0] at zh0
    have f2:=Eq.refl (h114_0 a0 a0)
    have f4:0+(length (map d_i w0_0))≤(length (map d_i w0_0)):=yb
    have f5:0≤(0:Int)∧(0:Int) <((length (map d_i w0_0)):Int):=yl
    exact cq [] ya (pe 0 (pe (length (map d_i a0)) (.f f2 (.f (ev_ (e:=ex114_0) (g:=(fin114_0 a0)) h0 (t114_0 (a0:=a0) (by assumption) (by assumption) (length a0) a0 yb yb (Nat.le_refl _))) (.f f4 (.f f5 (.f (mp_ d_i (getD_at w0_0 0 0 yb)) (.h 6 (.loop (h114_0 a0 a0) (.exit 0) (fin114_0 a0 (.k0 w0_0 w1_0))) (.h 12 (.rowD [(.i (getD w0_0 0 0))]) .nil)))))))))
def m87 (a0:K_G):Int:=
  (m113 [a0.f0,(m114 (m70 a0)),a0.f1,a0.f2,a0.f3])
theorem e87 {l0:Nat} {a0:K_G} (hy0:length a0.f4*56≤140737488351232) (hy1:∀z∈a0.f4,ok_T z) (hy2:1≤length a0.f4) (hy3:length a0.f4≤4) (hy4:∀z∈a0.f4,SmT z):Ev F X (.call 87 [(.bptr l0 (b_G a0))] [] [] [(.one (.val (.int .i64 (m87 a0))))]):=by
  have f2:Ev F X (.call 114 [(.one (.ref ⟨(0,0,0),[],0,(length (map d_i (m70 a0)))⟩))] [((0,0,0),⟨1,(map d_i (m70 a0)),[]⟩)] [] [(.oi (m114 (m70 a0)))]):=(e114 (a0:=(m70 a0)) (by rw[ln70]; exact hy2) (by rw[ln70]; omega))
  have f3:5≤5:=yb
  have f4:fullR (take 5 (drop 0 [[(.i a0.f0)],[(.i (m114 (m70 a0)))],[(.i a0.f1)],[(.i a0.f2)],[(.i a0.f3)]]))=true:=yE
  have f5:toBR (take 5 (drop 0 [[(.i a0.f0)],[(.i (m114 (m70 a0)))],[(.i a0.f1)],[(.i a0.f2)],[(.i a0.f3)]]))=[[(.i a0.f0)],[(.i (m114 (m70 a0)))],[(.i a0.f1)],[(.i a0.f2)],[(.i a0.f3)]]:=yE
  exact cp ya (.r 13 [] [] (e70 (l0:=(l0+1)) (a0:=a0) ‹_› ‹_› ‹_› ‹_›) (.f (pureR_i (m70 a0)) (.r 15 [true] [] f2 (.f f3 (.f f4 (.f f5 (.r 43 [] [[[(.i a0.f0)],[(.i (m114 (m70 a0)))],[(.i a0.f1)],[(.i a0.f2)],[(.i a0.f3)]]] (e113 (l0_0:=0) (a0:=[a0.f0,(m114 (m70 a0)),a0.f1,a0.f2,a0.f3]) (by simp; done)) .nil)))))))
def m88 (a0:Int):Int:=
  (wrap .i64 ((wrap .i64 ((wrap .i64 ((Int.tmod a0 256)*2 ^(min (toNat (wrap .u64 ((wrap .i64 (7*(wrap .i64 (Int.tdiv a0 256))))))) (IntKind.bits .i64))))+(wrap .i64 (1*2 ^(min (toNat (wrap .u64 ((wrap .i64 (7*(wrap .i64 (Int.tdiv a0 256))))))) (IntKind.bits .i64)))))) - 1))
theorem e88 {a0:Int} (hy0:1≤a0) (hy1:a0≤1023):Ev F X (.call 88 [(.one (.val (.int .i64 a0)))] [] [] [(.one (.val (.int .i64 (m88 a0))))]):=by
  have f0:(256:Int)≠0:=yb
  have f2:0≤(wrap .u64 ((wrap .i64 (7*(wrap .i64 (Int.tdiv a0 256)))))):=(by exact wu0 _)
  exact cp ya (.f f0 (.f f0 (.f f2 (.f f2 (.f trivial .nil)))))
def m56 (a0:(List K_J)) (a1:(List K_KY)) (a2:K_KY) (a3:Int):K_SR:=
  if(decide ((m86 a0 a2.f0) < 0))=true then(K_SR.mk 4 false 0 0 0 0 ([]) ([])) else
  if(decide (a2.f2 <((getD a0 (toNat (m86 a0 a2.f0)) (K_J.mk 0 0 0 0 0 [])).f2)))=true then(K_SR.mk 9 false 0 0 0 0 ([]) ([])) else
    if(decide (a2.f2 >(wrap .i64 (((getD a0 (toNat (m86 a0 a2.f0)) (K_J.mk 0 0 0 0 0 [])).f2)+60))))=true then(K_SR.mk 9 false 0 0 0 0 ([]) ([])) else
      if(m85 a1 a2)=true then(K_SR.mk 6 false 0 0 0 0 ([]) ([])) else
        if(((m7 (getD a0 (toNat (m86 a0 a2.f0)) (K_J.mk 0 0 0 0 0 [])) a2.f1 a2.f2 a2.f3).f0) !=0)=true then(K_SR.mk ((m7 (getD a0 (toNat (m86 a0 a2.f0)) (K_J.mk 0 0 0 0 0 [])) a2.f1 a2.f2 a2.f3).f0) false 0 0 0 0 ([]) ([])) else
          if(decide ((m87 (K_G.mk ((m7 (getD a0 (toNat (m86 a0 a2.f0)) (K_J.mk 0 0 0 0 0 [])) a2.f1 a2.f2 a2.f3).f1) ((m7 (getD a0 (toNat (m86 a0 a2.f0)) (K_J.mk 0 0 0 0 0 [])) a2.f1 a2.f2 a2.f3).f2) ((m7 (getD a0 (toNat (m86 a0 a2.f0)) (K_J.mk 0 0 0 0 0 [])) a2.f1 a2.f2 a2.f3).f3) ((m7 (getD a0 (toNat (m86 a0 a2.f0)) (K_J.mk 0 0 0 0 0 [])) a2.f1 a2.f2 a2.f3).f4) ((m7 (getD a0 (toNat (m86 a0 a2.f0)) (K_J.mk 0 0 0 0 0 [])) a2.f1 a2.f2 a2.f3).f5))) >(wrap .i64 (Int.tdiv 2147483646 a3))))=true then(K_SR.mk 8 false 0 0 0 0 ([]) ([])) else
            if(decide (((length (map b_KY a1)):Int)≥40))=true then(K_SR.mk 10 false 0 0 0 0 ([]) ([])) else
              (K_SR.mk 0 (decide ((m87 (K_G.mk ((m7 (getD a0 (toNat (m86 a0 a2.f0)) (K_J.mk 0 0 0 0 0 [])) a2.f1 a2.f2 a2.f3).f1) ((m7 (getD a0 (toNat (m86 a0 a2.f0)) (K_J.mk 0 0 0 0 0 [])) a2.f1 a2.f2 a2.f3).f2) ((m7 (getD a0 (toNat (m86 a0 a2.f0)) (K_J.mk 0 0 0 0 0 [])) a2.f1 a2.f2 a2.f3).f3) ((m7 (getD a0 (toNat (m86 a0 a2.f0)) (K_J.mk 0 0 0 0 0 [])) a2.f1 a2.f2 a2.f3).f4) ((m7 (getD a0 (toNat (m86 a0 a2.f0)) (K_J.mk 0 0 0 0 0 [])) a2.f1 a2.f2 a2.f3).f5)))≤(m88 ((m7 (getD a0 (toNat (m86 a0 a2.f0)) (K_J.mk 0 0 0 0 0 [])) a2.f1 a2.f2 a2.f3).f3)))) ((m7 (getD a0 (toNat (m86 a0 a2.f0)) (K_J.mk 0 0 0 0 0 [])) a2.f1 a2.f2 a2.f3).f1) ((m7 (getD a0 (toNat (m86 a0 a2.f0)) (K_J.mk 0 0 0 0 0 [])) a2.f1 a2.f2 a2.f3).f2) ((m7 (getD a0 (toNat (m86 a0 a2.f0)) (K_J.mk 0 0 0 0 0 [])) a2.f1 a2.f2 a2.f3).f3) ((m7 (getD a0 (toNat (m86 a0 a2.f0)) (K_J.mk 0 0 0 0 0 [])) a2.f1 a2.f2 a2.f3).f4) ((m7 (getD a0 (toNat (m86 a0 a2.f0)) (K_J.mk 0 0 0 0 0 [])) a2.f1 a2.f2 a2.f3).f5) (a1++([a2])))
theorem e56 {l0_0:Nat} {a0:(List K_J)} {l1_0:Nat} {a1:(List K_KY)} {a2:K_KY} {a3:Int} (hy0:length a0*64≤140737488351232) (hy1:∀z∈a0,ok_J z) (hy2:length a1*32≤140737488351232) (hy3:1≤a3):Ev F X (.call 56 [(.one (.bor l0_0 (map b_J a0))),(.one (.bor l1_0 (map b_KY a1))),(.agg [(.val (.int .i64 a2.f0)),(.val (.int .i64 a2.f1)),(.val (.int .i64 a2.f2)),(.val (.int .i64 a2.f3))]),(.one (.val (.int .i64 a3)))] [] [] [(.agg (d_SR (m56 a0 a1 a2 a3)))]):=by
  unfold m56
  have P0 {hs q} (r:PS F X hs q):=(PS.r 11 [] [] (e86 (l0_0:=(l0_0+1)) (a0:=a0) (a1:=a2.f0) ‹_› ‹_›) r)
  by_cases h0:(decide ((m86 a0 a2.f0) < 0))=true
  · try simp only[if_pos h0]
    exact cp ya (P0 (.f h0 (.h 18 (.b true) (.r 20 [] [] (e53 (a0:=4)) (pe 0 (pe (length (map d_T ([]))) (pe 0 (pe (length (map d_KY ([]))) (.f (pureR_T ([])) (.f (pureR_KY ([])) .nil))))))))))
  · try simp only[if_neg h0]
    have f2:0≤(m86 a0 a2.f0):=yU
    have P1 {hs q} (r:PS F X hs q):=(P0 (.f (nt h0) (.f f2 (.f (mp_ b_J (getD_at a0 (toNat (m86 a0 a2.f0)) (K_J.mk 0 0 0 0 0 []) yan)) (.h 18 (.b false) (.h 24 (.row (b_J (getD a0 (toNat (m86 a0 a2.f0)) (K_J.mk 0 0 0 0 0 [])))) r))))))
    by_cases h1:(decide (a2.f2 <((getD a0 (toNat (m86 a0 a2.f0)) (K_J.mk 0 0 0 0 0 [])).f2)))=true
    · try simp only[if_pos h1]
      exact cp ya (P1 (.f h1 (.f h1 (.f h1 (.f h1 (.f h1 (.f h1 (.h 43 (.b true) (.h 45 (.b true) (.h 47 (.b true) (.h 49 (.b true) (.h 51 (.b true) (.h 54 (.b true) (.r 57 [] [] (e53 (a0:=9)) (pe 0 (pe (length (map d_T ([]))) (pe 0 (pe (length (map d_KY ([]))) (.f (pureR_T ([])) (.f (pureR_KY ([])) .nil))))))))))))))))))))
    · try simp only[if_neg h1]
      have P2 {hs q} (r:PS F X hs q):=(P1 (.f (nt h1) (.f (nt h1) (.f (nt h1) (.f (nt h1) (.f trivial (.f (nt h1) (.f (nt h1) (.h 43 (.b false) (.h 45 (.b false) (.h 47 (.b false) (.h 49 (.b false) (.h 51 (.b false) (.h 54 (.b false) r))))))))))))))
      by_cases h2:(decide (a2.f2 >(wrap .i64 (((getD a0 (toNat (m86 a0 a2.f0)) (K_J.mk 0 0 0 0 0 [])).f2)+60))))=true
      · try simp only[if_pos h2]
        exact cp ya (P2 (.f h2 (.h 55 (.b true) (.r 57 [] [] (e53 (a0:=9)) (pe 0 (pe (length (map d_T ([]))) (pe 0 (pe (length (map d_KY ([]))) (.f (pureR_T ([])) (.f (pureR_KY ([])) .nil))))))))))
      · try simp only[if_neg h2]
        have P3 {hs q} (r:PS F X hs q):=(P2 (.f (nt h2) (.h 55 (.b false) (.r 61 [] [] (e85 (l0_0:=(l1_0+1)) (a0:=a1) (a1:=a2) ‹_›) r))))
        by_cases h3:(m85 a1 a2)=true
        · try simp only[if_pos h3]
          exact cp ya (P3 (.f h3 (.h 62 (.b true) (.r 64 [] [] (e53 (a0:=6)) (pe 0 (pe (length (map d_T ([]))) (pe 0 (pe (length (map d_KY ([]))) (.f (pureR_T ([])) (.f (pureR_KY ([])) .nil))))))))))
        · try simp only[if_neg h3]
          have P4 {hs q} (r:PS F X hs q):=(P3 (.f (nt h3) (.f f2 (.f (mp_ b_J (getD_at a0 (toNat (m86 a0 a2.f0)) (K_J.mk 0 0 0 0 0 []) yan)) (.h 62 (.b false) (.h 68 (.row (b_J (getD a0 (toNat (m86 a0 a2.f0)) (K_J.mk 0 0 0 0 0 [])))) (.r 84 [] [] (e7 (l0_5:=(l0_0+1)) (a0:=(getD a0 (toNat (m86 a0 a2.f0)) (K_J.mk 0 0 0 0 0 []))) (a1:=a2.f1) (a2:=a2.f2) (a3:=a2.f3) ys ys) (pe 0 (pe (length (map d_T ((m7 (getD a0 (toNat (m86 a0 a2.f0)) (K_J.mk 0 0 0 0 0 [])) a2.f1 a2.f2 a2.f3).f5))) r)))))))))
          by_cases h4:(((m7 (getD a0 (toNat (m86 a0 a2.f0)) (K_J.mk 0 0 0 0 0 [])) a2.f1 a2.f2 a2.f3).f0) !=0)=true
          · try simp only[if_pos h4]
            exact cp ya (P4 (.f h4 (.h 95 (.b true) (.r 101 [] [] (e53 (a0:=((m7 (getD a0 (toNat (m86 a0 a2.f0)) (K_J.mk 0 0 0 0 0 [])) a2.f1 a2.f2 a2.f3).f0))) (pe 0 (pe (length (map d_T ([]))) (pe 0 (pe (length (map d_KY ([]))) (.f (pureR_T ([])) (.f (pureR_KY ([])) .nil))))))))))
          · try simp only[if_neg h4]
            have f20:fullL [(.i ((m7 (getD a0 (toNat (m86 a0 a2.f0)) (K_J.mk 0 0 0 0 0 [])) a2.f1 a2.f2 a2.f3).f1)),(.i ((m7 (getD a0 (toNat (m86 a0 a2.f0)) (K_J.mk 0 0 0 0 0 [])) a2.f1 a2.f2 a2.f3).f2)),(.i ((m7 (getD a0 (toNat (m86 a0 a2.f0)) (K_J.mk 0 0 0 0 0 [])) a2.f1 a2.f2 a2.f3).f3)),(.i ((m7 (getD a0 (toNat (m86 a0 a2.f0)) (K_J.mk 0 0 0 0 0 [])) a2.f1 a2.f2 a2.f3).f4)),(.own 3 (map d_T ((m7 (getD a0 (toNat (m86 a0 a2.f0)) (K_J.mk 0 0 0 0 0 [])) a2.f1 a2.f2 a2.f3).f5)))]=true:=(by simp[fullL,full]; done)
            have f21:Ev F X (.call 87 [(.bptr 0 [(.i ((m7 (getD a0 (toNat (m86 a0 a2.f0)) (K_J.mk 0 0 0 0 0 [])) a2.f1 a2.f2 a2.f3).f1)),(.i ((m7 (getD a0 (toNat (m86 a0 a2.f0)) (K_J.mk 0 0 0 0 0 [])) a2.f1 a2.f2 a2.f3).f2)),(.i ((m7 (getD a0 (toNat (m86 a0 a2.f0)) (K_J.mk 0 0 0 0 0 [])) a2.f1 a2.f2 a2.f3).f3)),(.i ((m7 (getD a0 (toNat (m86 a0 a2.f0)) (K_J.mk 0 0 0 0 0 [])) a2.f1 a2.f2 a2.f3).f4)),(.sl (toBR (map d_T ((m7 (getD a0 (toNat (m86 a0 a2.f0)) (K_J.mk 0 0 0 0 0 [])) a2.f1 a2.f2 a2.f3).f5))))])] [] [] [(.oi (m87 (K_G.mk ((m7 (getD a0 (toNat (m86 a0 a2.f0)) (K_J.mk 0 0 0 0 0 [])) a2.f1 a2.f2 a2.f3).f1) ((m7 (getD a0 (toNat (m86 a0 a2.f0)) (K_J.mk 0 0 0 0 0 [])) a2.f1 a2.f2 a2.f3).f2) ((m7 (getD a0 (toNat (m86 a0 a2.f0)) (K_J.mk 0 0 0 0 0 [])) a2.f1 a2.f2 a2.f3).f3) ((m7 (getD a0 (toNat (m86 a0 a2.f0)) (K_J.mk 0 0 0 0 0 [])) a2.f1 a2.f2 a2.f3).f4) ((m7 (getD a0 (toNat (m86 a0 a2.f0)) (K_J.mk 0 0 0 0 0 [])) a2.f1 a2.f2 a2.f3).f5))))]):=(by rw[show (toBR (map d_T ((m7 (getD a0 (toNat (m86 a0 a2.f0)) (K_J.mk 0 0 0 0 0 [])) a2.f1 a2.f2 a2.f3).f5)))=(map b_T ((m7 (getD a0 (toNat (m86 a0 a2.f0)) (K_J.mk 0 0 0 0 0 [])) a2.f1 a2.f2 a2.f3).f5)) from by first | rfl |(simp[map_take,map_drop,ol112,ol83,ol84,ol51,ol21,four_len]; done) |(simp[byteRows_eq,map_take,map_drop,ol112,ol83,ol84,ol51,ol21,four_len]; done) |(simp[*,map_take,map_drop,ol112,ol83,ol84,ol51,ol21,four_len]; done) |(rw[take_of_length_le (by simp only[length_drop,length_take,length_map,Int.toNat_natCast]; omega)]; simp only[← map_drop,← map_take])]; exact(e87 (l0:=0) (a0:=(K_G.mk ((m7 (getD a0 (toNat (m86 a0 a2.f0)) (K_J.mk 0 0 0 0 0 [])) a2.f1 a2.f2 a2.f3).f1) ((m7 (getD a0 (toNat (m86 a0 a2.f0)) (K_J.mk 0 0 0 0 0 [])) a2.f1 a2.f2 a2.f3).f2) ((m7 (getD a0 (toNat (m86 a0 a2.f0)) (K_J.mk 0 0 0 0 0 [])) a2.f1 a2.f2 a2.f3).f3) ((m7 (getD a0 (toNat (m86 a0 a2.f0)) (K_J.mk 0 0 0 0 0 [])) a2.f1 a2.f2 a2.f3).f4) ((m7 (getD a0 (toNat (m86 a0 a2.f0)) (K_J.mk 0 0 0 0 0 [])) a2.f1 a2.f2 a2.f3).f5))) (by have q:=bs38 (sb7 (nz0 h4)); have q1:=q.2.1; omega) (by have q:=bs38 (sb7 (nz0 h4)); with_reducible exact fun z hz=>(q.2.2 z hz).ok) (by have q:=bs38 (sb7 (nz0 h4)); with_reducible exact q.1) (by have q:=bs38 (sb7 (nz0 h4)); with_reducible exact q.2.1) (by have q:=bs38 (sb7 (nz0 h4)); with_reducible exact q.2.2)))
            have f22:a3≠0:=yb
            have P5 {hs q} (r:PS F X hs q):=(P4 (.f (nt h4) (.f f20 (.h 95 (.b false) (.r 99 [] [] f21 (.f f22 r))))))
            by_cases h5:(decide ((m87 (K_G.mk ((m7 (getD a0 (toNat (m86 a0 a2.f0)) (K_J.mk 0 0 0 0 0 [])) a2.f1 a2.f2 a2.f3).f1) ((m7 (getD a0 (toNat (m86 a0 a2.f0)) (K_J.mk 0 0 0 0 0 [])) a2.f1 a2.f2 a2.f3).f2) ((m7 (getD a0 (toNat (m86 a0 a2.f0)) (K_J.mk 0 0 0 0 0 [])) a2.f1 a2.f2 a2.f3).f3) ((m7 (getD a0 (toNat (m86 a0 a2.f0)) (K_J.mk 0 0 0 0 0 [])) a2.f1 a2.f2 a2.f3).f4) ((m7 (getD a0 (toNat (m86 a0 a2.f0)) (K_J.mk 0 0 0 0 0 [])) a2.f1 a2.f2 a2.f3).f5))) >(wrap .i64 (Int.tdiv 2147483646 a3))))=true
            · try simp only[if_pos h5]
              exact cp ya (P5 (.f h5 (.h 110 (.b true) (.r 112 [] [] (e53 (a0:=8)) (pe 0 (pe (length (map d_T ([]))) (pe 0 (pe (length (map d_KY ([]))) (.f (pureR_T ([])) (.f (pureR_KY ([])) .nil))))))))))
            · try simp only[if_neg h5]
              by_cases h6:(decide (((length (map b_KY a1)):Int)≥40))=true
              · try simp only[if_pos h6]
                exact cp ya (P5 (.f (nt h5) (.f h6 (.h 110 (.b false) (.h 117 (.b true) (.r 119 [] [] (e53 (a0:=10)) (pe 0 (pe (length (map d_T ([]))) (pe 0 (pe (length (map d_KY ([]))) (.f (pureR_T ([])) (.f (pureR_KY ([])) .nil))))))))))))
              · try simp only[if_neg h6]
                have f26:0+0≤0:=yb
                have f27:(length ([]++(fromBR l1_0 (map b_KY a1))))*32≤70368744177664:=yF
                have f28:∀r∈((fromBR l1_0 (map b_KY a1)):List (List D)),r.length=4:=(by simp[*,ol112,ol83,ol84,ol51,ol21,four_len,b_KY,d_KY,byteRows_eq,ints_y]; done)
                have f29:0+(length ([]++(fromBR l1_0 (map b_KY a1))))≤(length ([]++(fromBR l1_0 (map b_KY a1)))):=yb
                have f30:1≤1:=yb
                have f31:((take 1 (drop 0 [[(.i a2.f0),(.i a2.f1),(.i a2.f2),(.i a2.f3)]])).all fun x=>x.all copyable)=true:=yap
                have f32:(length ((take (length ([]++(fromBR l1_0 (map b_KY a1)))) (drop 0 ([]++(fromBR l1_0 (map b_KY a1)))))++([[(.i a2.f0),(.i a2.f1),(.i a2.f2),(.i a2.f3)]]:List (List D))))*32≤70368744177664:=yF
                have f33:∀r∈([[(.i a2.f0),(.i a2.f1),(.i a2.f2),(.i a2.f3)]]:List (List D)),r.length=4:=yW
                have f38:([[(.i 0),(.val (.bool (decide ((m87 (K_G.mk ((m7 (getD a0 (toNat (m86 a0 a2.f0)) (K_J.mk 0 0 0 0 0 [])) a2.f1 a2.f2 a2.f3).f1) ((m7 (getD a0 (toNat (m86 a0 a2.f0)) (K_J.mk 0 0 0 0 0 [])) a2.f1 a2.f2 a2.f3).f2) ((m7 (getD a0 (toNat (m86 a0 a2.f0)) (K_J.mk 0 0 0 0 0 [])) a2.f1 a2.f2 a2.f3).f3) ((m7 (getD a0 (toNat (m86 a0 a2.f0)) (K_J.mk 0 0 0 0 0 [])) a2.f1 a2.f2 a2.f3).f4) ((m7 (getD a0 (toNat (m86 a0 a2.f0)) (K_J.mk 0 0 0 0 0 [])) a2.f1 a2.f2 a2.f3).f5)))≤(m88 ((m7 (getD a0 (toNat (m86 a0 a2.f0)) (K_J.mk 0 0 0 0 0 [])) a2.f1 a2.f2 a2.f3).f3)))))),(.i ((m7 (getD a0 (toNat (m86 a0 a2.f0)) (K_J.mk 0 0 0 0 0 [])) a2.f1 a2.f2 a2.f3).f1)),(.i ((m7 (getD a0 (toNat (m86 a0 a2.f0)) (K_J.mk 0 0 0 0 0 [])) a2.f1 a2.f2 a2.f3).f2)),(.i ((m7 (getD a0 (toNat (m86 a0 a2.f0)) (K_J.mk 0 0 0 0 0 [])) a2.f1 a2.f2 a2.f3).f3)),(.i ((m7 (getD a0 (toNat (m86 a0 a2.f0)) (K_J.mk 0 0 0 0 0 [])) a2.f1 a2.f2 a2.f3).f4)),(.own 3 (map d_T ((m7 (getD a0 (toNat (m86 a0 a2.f0)) (K_J.mk 0 0 0 0 0 [])) a2.f1 a2.f2 a2.f3).f5))),(.own 4 ((take (length ([]++(fromBR l1_0 (map b_KY a1)))) (drop 0 ([]++(fromBR l1_0 (map b_KY a1)))))++([[(.i a2.f0),(.i a2.f1),(.i a2.f2),(.i a2.f3)]]:List (List D))))]]:List (List D))=[[(.i 0),(.val (.bool (decide ((m87 (K_G.mk ((m7 (getD a0 (toNat (m86 a0 a2.f0)) (K_J.mk 0 0 0 0 0 [])) a2.f1 a2.f2 a2.f3).f1) ((m7 (getD a0 (toNat (m86 a0 a2.f0)) (K_J.mk 0 0 0 0 0 [])) a2.f1 a2.f2 a2.f3).f2) ((m7 (getD a0 (toNat (m86 a0 a2.f0)) (K_J.mk 0 0 0 0 0 [])) a2.f1 a2.f2 a2.f3).f3) ((m7 (getD a0 (toNat (m86 a0 a2.f0)) (K_J.mk 0 0 0 0 0 [])) a2.f1 a2.f2 a2.f3).f4) ((m7 (getD a0 (toNat (m86 a0 a2.f0)) (K_J.mk 0 0 0 0 0 [])) a2.f1 a2.f2 a2.f3).f5)))≤(m88 ((m7 (getD a0 (toNat (m86 a0 a2.f0)) (K_J.mk 0 0 0 0 0 [])) a2.f1 a2.f2 a2.f3).f3)))))),(.i ((m7 (getD a0 (toNat (m86 a0 a2.f0)) (K_J.mk 0 0 0 0 0 [])) a2.f1 a2.f2 a2.f3).f1)),(.i ((m7 (getD a0 (toNat (m86 a0 a2.f0)) (K_J.mk 0 0 0 0 0 [])) a2.f1 a2.f2 a2.f3).f2)),(.i ((m7 (getD a0 (toNat (m86 a0 a2.f0)) (K_J.mk 0 0 0 0 0 [])) a2.f1 a2.f2 a2.f3).f3)),(.i ((m7 (getD a0 (toNat (m86 a0 a2.f0)) (K_J.mk 0 0 0 0 0 [])) a2.f1 a2.f2 a2.f3).f4)),(.own 3 (map d_T ((m7 (getD a0 (toNat (m86 a0 a2.f0)) (K_J.mk 0 0 0 0 0 [])) a2.f1 a2.f2 a2.f3).f5))),(.own 4 (map d_KY (a1++([a2]))))]]:=(by simp[take_of_length_le,d_T,d_KY,ol112,ol83,ol84,ol51,ol21,four_len]; done)
                exact cp ya (P5 (.f (nt h5) (.f (nt h6) (.h 110 (.b false) (.h 117 (.b false) (.r 127 [] [] (e88 (a0:=((m7 (getD a0 (toNat (m86 a0 a2.f0)) (K_J.mk 0 0 0 0 0 [])) a2.f1 a2.f2 a2.f3).f3)) (by have q:=bt38 (sb7 (nz0 h4)); with_reducible exact q.1) (by have q:=bt38 (sb7 (nz0 h4)); with_reducible exact q.2)) (.f f26 (.f f27 (.f f28 (.f f29 (.f f30 (.f f31 (.f f32 (.f f33 (pe 0 (pe (length (map d_T ((m7 (getD a0 (toNat (m86 a0 a2.f0)) (K_J.mk 0 0 0 0 0 [])) a2.f1 a2.f2 a2.f3).f5))) (pe 0 (pe (length ((take (length ([]++(fromBR l1_0 (map b_KY a1)))) (drop 0 ([]++(fromBR l1_0 (map b_KY a1)))))++([[(.i a2.f0),(.i a2.f1),(.i a2.f2),(.i a2.f3)]]:List (List D)))) (.f f38 (.f (pureR_T ((m7 (getD a0 (toNat (m86 a0 a2.f0)) (K_J.mk 0 0 0 0 0 [])) a2.f1 a2.f2 a2.f3).f5)) (.f (pureR_KY (a1++([a2]))) (.h 145 (.b true) (.h 150 (.norm (8,0,0) [[(.i 0),(.val (.bool (decide ((m87 (K_G.mk ((m7 (getD a0 (toNat (m86 a0 a2.f0)) (K_J.mk 0 0 0 0 0 [])) a2.f1 a2.f2 a2.f3).f1) ((m7 (getD a0 (toNat (m86 a0 a2.f0)) (K_J.mk 0 0 0 0 0 [])) a2.f1 a2.f2 a2.f3).f2) ((m7 (getD a0 (toNat (m86 a0 a2.f0)) (K_J.mk 0 0 0 0 0 [])) a2.f1 a2.f2 a2.f3).f3) ((m7 (getD a0 (toNat (m86 a0 a2.f0)) (K_J.mk 0 0 0 0 0 [])) a2.f1 a2.f2 a2.f3).f4) ((m7 (getD a0 (toNat (m86 a0 a2.f0)) (K_J.mk 0 0 0 0 0 [])) a2.f1 a2.f2 a2.f3).f5)))≤(m88 ((m7 (getD a0 (toNat (m86 a0 a2.f0)) (K_J.mk 0 0 0 0 0 [])) a2.f1 a2.f2 a2.f3).f3)))))),(.i ((m7 (getD a0 (toNat (m86 a0 a2.f0)) (K_J.mk 0 0 0 0 0 [])) a2.f1 a2.f2 a2.f3).f1)),(.i ((m7 (getD a0 (toNat (m86 a0 a2.f0)) (K_J.mk 0 0 0 0 0 [])) a2.f1 a2.f2 a2.f3).f2)),(.i ((m7 (getD a0 (toNat (m86 a0 a2.f0)) (K_J.mk 0 0 0 0 0 [])) a2.f1 a2.f2 a2.f3).f3)),(.i ((m7 (getD a0 (toNat (m86 a0 a2.f0)) (K_J.mk 0 0 0 0 0 [])) a2.f1 a2.f2 a2.f3).f4)),(.own 3 (map d_T ((m7 (getD a0 (toNat (m86 a0 a2.f0)) (K_J.mk 0 0 0 0 0 [])) a2.f1 a2.f2 a2.f3).f5))),(.own 4 (map d_KY (a1++([a2]))))]]) .nil)))))))))))))))))))))))
theorem okm56 (a0:(List K_J)) (a1:(List K_KY)) (a2:K_KY) (a3:Int):ok_SR (m56 a0 a1 a2 a3):=by
  unfold m56
  (repeat' split)<;>first
    |exact⟨by simp,fun z hz=>(by cases hz),by simp⟩
    |exact⟨(okm7 _ _ _ _).1,(okm7 _ _ _ _).2,by simp only[decide_eq_true_eq,length_map,length_append,length_cons,length_nil] at*; omega⟩
def m25 (a0:(List K_J)) (a1:(List K_KY)) (a2:K_KY) (a3:Int):K_SR:=
  if((m47 a0) !=0)=true then(K_SR.mk (m47 a0) false 0 0 0 0 ([]) ([])) else
  if((m54 a1) !=0)=true then(K_SR.mk (m54 a1) false 0 0 0 0 ([]) ([])) else
    if(!(m55 a2))=true then(K_SR.mk 3 false 0 0 0 0 ([]) ([])) else
      if(!(m36 a3 1 9999))=true then(K_SR.mk 3 false 0 0 0 0 ([]) ([])) else
        (m56 a0 a1 a2 a3)
theorem e25 {l0_0:Nat} {a0:(List K_J)} {l1_0:Nat} {a1:(List K_KY)} {a2:K_KY} {a3:Int} (hy0:length a0*64≤140737488351232) (hy1:∀z∈a0,ok_J z) (hy2:length a1*32≤140737488351232):Ev F X (.call 25 [(.one (.bor l0_0 (map b_J a0))),(.one (.bor l1_0 (map b_KY a1))),(.agg [(.val (.int .i64 a2.f0)),(.val (.int .i64 a2.f1)),(.val (.int .i64 a2.f2)),(.val (.int .i64 a2.f3))]),(.one (.val (.int .i64 a3)))] [] [] [(.agg (d_SR (m25 a0 a1 a2 a3)))]):=by
  unfold m25
  have P0 {hs q} (r:PS F X hs q):=(PS.r 7 [] [] (e47 (l0_0:=(l0_0+1)) (a0:=a0) ‹_› ‹_›) r)
  by_cases h0:((m47 a0) !=0)=true
  · try simp only[if_pos h0]
    exact cp ya (P0 (.f h0 (.h 14 (.b true) (.r 18 [] [] (e53 (a0:=(m47 a0))) (pe 0 (pe (length (map d_T ([]))) (pe 0 (pe (length (map d_KY ([]))) (.f (pureR_T ([])) (.f (pureR_KY ([])) .nil))))))))))
  · try simp only[if_neg h0]
    have P1 {hs q} (r:PS F X hs q):=(P0 (.f (nt h0) (.h 14 (.b false) (.r 18 [] [] (e54 (l0_0:=(l1_0+1)) (a0:=a1) ‹_›) r))))
    by_cases h1:((m54 a1) !=0)=true
    · try simp only[if_pos h1]
      exact cp ya (P1 (.f h1 (.h 25 (.b true) (.r 29 [] [] (e53 (a0:=(m54 a1))) (pe 0 (pe (length (map d_T ([]))) (pe 0 (pe (length (map d_KY ([]))) (.f (pureR_T ([])) (.f (pureR_KY ([])) .nil))))))))))
    · try simp only[if_neg h1]
      have f4:fullL [(.i a2.f0),(.i a2.f1),(.i a2.f2),(.i a2.f3)]=true:=yE
      have P2 {hs q} (r:PS F X hs q):=(P1 (.f (nt h1) (.f f4 (.h 25 (.b false) (.r 27 [] [] (e55 (l0:=0) (a0:=a2)) r)))))
      by_cases h2:(!(m55 a2))=true
      · try simp only[if_pos h2]
        exact cp ya (P2 (.f h2 (.f h2 (.f h2 (.f h2 (.h 32 (.b true) (.h 34 (.b true) (.h 36 (.b true) (.h 39 (.b true) (.r 42 [] [] (e53 (a0:=3)) (pe 0 (pe (length (map d_T ([]))) (pe 0 (pe (length (map d_KY ([]))) (.f (pureR_T ([])) (.f (pureR_KY ([])) .nil))))))))))))))))
      · try simp only[if_neg h2]
        have P3 {hs q} (r:PS F X hs q):=(P2 (.f (nt h2) (.f (nt h2) (.h 32 (.b false) (.h 34 (.b false) (.r 35 [] [] (e36 (a0:=a3) (a1:=1) (a2:=9999)) (.f (nt h2) (.f (nt h2) (.h 36 (.b false) (.h 39 (.b false) r))))))))))
        by_cases h3:(!(m36 a3 1 9999))=true
        · try simp only[if_pos h3]
          exact cp ya (P3 (.f h3 (.h 40 (.b true) (.r 42 [] [] (e53 (a0:=3)) (pe 0 (pe (length (map d_T ([]))) (pe 0 (pe (length (map d_KY ([]))) (.f (pureR_T ([])) (.f (pureR_KY ([])) .nil))))))))))
        · try simp only[if_neg h3]
          exact cp ya (P3 (.f (nt h3) (.h 40 (.b false) (.r 50 [] [] (e56 (l0_0:=(l0_0+1)) (l1_0:=(l1_0+1)) (a0:=a0) (a1:=a1) (a2:=a2) (a3:=a3) ‹_› ‹_› ‹_› (by exact(jn36 ‹_›).1)) (pe 0 (pe (length (map d_T ((m56 a0 a1 a2 a3).f6))) (pe 0 (pe (length (map d_KY ((m56 a0 a1 a2 a3).f7))) (.f (pureR_T ((m56 a0 a1 a2 a3).f6)) (.f (pureR_KY ((m56 a0 a1 a2 a3).f7)) .nil))))))))))
theorem okm25 (a0:(List K_J)) (a1:(List K_KY)) (a2:K_KY) (a3:Int):ok_SR (m25 a0 a1 a2 a3):=by
  unfold m25
  (repeat' split)<;>first
    |exact⟨by simp,fun z hz=>(by cases hz),by simp⟩
    |exact okm56 _ _ _ _
theorem e27 {a0:K_KY}:Ev F X (.call 27 [(.agg [(.val (.int .i64 a0.f0)),(.val (.int .i64 a0.f1)),(.val (.int .i64 a0.f2)),(.val (.int .i64 a0.f3))])] [] [] [(.agg [(.val (.int .i64 a0.f0)),(.val (.int .i64 a0.f1)),(.val (.int .i64 a0.f2)),(.val (.int .i64 a0.f3))])]):=by
  exact cp ya .nil
inductive O26_0 where
  |k0 (w0:List K_KY) (w1:Int) (w2:Bool)
def r26_0 (a0:(List K_KY)):List K_KY→Int→List K_KY→O26_0
  |x0::y0,i,v0=>
    (r26_0 a0 y0 (i+1) (set v0 (toNat i) x0))
  |[],i,v0=>(O26_0.k0 v0 i (decide (i <((length (map b_KY a0)):Int))))
def h26_0 (l0_0:Nat) (a0:(List K_KY)) (i:Int) (v0:List K_KY):St:=⟨[(0,(.one (.bor l0_0 (map b_KY a0)))),(3,(.one (.ref ⟨(3,0,0),[],0,(toNat ((length (map b_KY a0)):Int))⟩))),(4,(.one (.val (.int .i64 i))))],[((3,0,0),.live ⟨4,(map d_KY v0),[]⟩)]⟩
def ex26_0:O26_0→VX.Exit
  |.k0 _ _ _=>(.exit 0)
def fin26_0 (l0_0:Nat) (a0:(List K_KY)):O26_0→St
  |.k0 w0 w1 w2=>⟨[(0,(.one (.bor l0_0 (map b_KY a0)))),(3,(.one (.ref ⟨(3,0,0),[],0,(toNat ((length (map b_KY a0)):Int))⟩))),(4,(.one (.val (.int .i64 w1)))),(11,(.one (.val (.bool w2))))],[((3,0,0),.live ⟨4,(map d_KY w0),[]⟩)]⟩
theorem t26_0 {l0_0:Nat} {a0:(List K_KY)} (hy0:length a0*32≤140737488351232):∀(y0:List K_KY) (p:List K_KY) (v0:List K_KY),p++y0=a0→length v0=(toNat ((length (map b_KY a0)):Int))→Ev F X (.code l26_0 (h26_0 l0_0 a0 (length p:Int) v0) (ex26_0 (r26_0 a0 y0 (length p:Int) v0)) (fin26_0 l0_0 a0 (r26_0 a0 y0 (length p:Int) v0)))
  |[],p,v0,hp0,hi0=>by
    have hc:=hcn b_KY hp0
    have hj0:=hi0; try simp only[LN,Int.toNat_natCast] at hj0
    exact lx 9 ya (.f (nt hc) (.h 8 (.b false) .nil)) rfl
  |x0::y0,p,v0,hp0,hi0=>by
    have hc:=hcy b_KY hp0
    have Hx0:=hxy hp0
    have hlen:=hly hp0
    have hw:wrap .i64 ((length p:Int)+1)=(length p:Int)+1:=wrap64 yb
    have hj0:=hi0; try simp only[LN,Int.toNat_natCast] at hj0
    obtain⟨x1,Hx1⟩:∃y,v0[toNat (length p:Int)]?=some y:=⟨_,List.getElem?_eq_getElem yb⟩
    simp only[r26_0]
    have f1:0≤(length p:Int):=yb
    have f4:0+(toNat ((length (map b_KY a0)):Int))≤(length (map d_KY v0)):=yl
    have f5:0≤(length p:Int)∧(length p:Int) <((toNat ((length (map b_KY a0)):Int)):Int):=yb
    have f7:(set (map d_KY v0) (0+(toNat (length p:Int))) [(.i x0.f0),(.i x0.f1),(.i x0.f2),(.i x0.f3)])=(map d_KY (set v0 (toNat (length p:Int)) x0)):=yaq
    have ih:=t26_0 (l0_0:=l0_0) (a0:=a0) hy0 y0 (p++ [x0]) (set v0 (toNat (length p:Int)) x0) yd yo
    rw[pl1,← hw] at ih; rw[← hw]
    exact ly 34 ya (.f hc (.f f1 (.f (mp_ b_KY Hx0) (.h 8 (.b true) (.h 18 (.row (b_KY x0)) (.r 22 [] [] (e27 (a0:=x0)) (.f f4 (.f f5 (.f (mz_ d_KY Hx1) (.f f7 (.f trivial (.h 26 (.rowD (d_KY x1)) (.h 27 (.norm (3,0,0) (map d_KY (set v0 (toNat (length p:Int)) x0))) .nil))))))))))))) ih
def post26_0 (n0:Nat):O26_0→Prop
  |.k0 w0 _ _=>length w0=n0
theorem z26_0 {a0:(List K_KY)}:∀(y0:List K_KY) (i:Int) (v0:List K_KY),post26_0 (length v0) (r26_0 a0 y0 i v0)
  |[],i,v0=>by
    first | trivial |(simp only[post26_0,length_nil,Nat.add_zero]; done) |(simp[post26_0]; done)
  |x0::y0,i,v0=>by
    simp only[r26_0]
    have z:=z26_0 (a0:=a0) y0 (i+1) (set v0 (toNat i) x0)
    rw[show (length v0)=(length (set v0 (toNat i) x0)) from by first | omega |(simp only[LN]; done) |(simp only[LN]; omega)]
    exact z
def m26 (a0:(List K_KY)):(List K_KY):=
  (match r26_0 a0 a0 0 (List.replicate (toNat ((length (map b_KY a0)):Int)) (K_KY.mk 0 0 0 0)) with | .k0 w0_1 w1_1 w2_1=>w0_1)
theorem e26 {l0_0:Nat} {a0:(List K_KY)} (hy0:length a0*32≤140737488351232):Ev F X (.call 26 [(.one (.bor l0_0 (map b_KY a0)))] [] [] [(.one (.own 4 (map d_KY (m26 a0))))]):=by
  unfold m26
  have f0:0≤((length (map b_KY a0)):Int)∧((length (map b_KY a0)):Int)≤((length (map b_KY a0)):Int)∧((length (map b_KY a0)):Int)≤140737488355328∧((length (map b_KY a0)):Int)*32≤140737488355328:=yl
  have f1:(List.replicate (toNat ((length (map b_KY a0)):Int)) [(.i 0),(.i 0),(.i 0),(.i 0)])=(map d_KY (List.replicate (toNat ((length (map b_KY a0)):Int)) (K_KY.mk 0 0 0 0))):=yaq
  cases h0:r26_0 a0 a0 0 (List.replicate (toNat ((length (map b_KY a0)):Int)) (K_KY.mk 0 0 0 0)) with
  |k0 w0_1 w1_1 w2_1=>
    try dsimp only
    have zh0:=z26_0 (a0:=a0) a0 0 (List.replicate (toNat ((length (map b_KY a0)):Int)) (K_KY.mk 0 0 0 0)); rw[h0] at zh0; simp only[post26_0,length_map,length_set,length_append,length_replicate,length_cons,length_nil,Int.toNat_natCast] at zh0
    have f2:=Eq.refl (h26_0 l0_0 a0 0 (List.replicate (toNat ((length (map b_KY a0)):Int)) (K_KY.mk 0 0 0 0)))
    have f5:(toNat ((length (map b_KY a0)):Int))=(length (map d_KY w0_1)):=yl
    exact cp ya (.f f0 (.f f1 (.f f2 (.f (ev_ (e:=ex26_0) (g:=(fin26_0 l0_0 a0)) h0 (t26_0 (l0_0:=l0_0) (a0:=a0) (by assumption) a0 [] (List.replicate (toNat ((length (map b_KY a0)):Int)) (K_KY.mk 0 0 0 0)) rfl yM)) (pe 0 (.f f5 (.f (pureR_KY w0_1) (.h 10 (.norm (3,0,0) (map d_KY (List.replicate (toNat ((length (map b_KY a0)):Int)) (K_KY.mk 0 0 0 0)))) (.h 13 (.loop (h26_0 l0_0 a0 0 (List.replicate (toNat ((length (map b_KY a0)):Int)) (K_KY.mk 0 0 0 0))) (.exit 0) (fin26_0 l0_0 a0 (.k0 w0_1 w1_1 w2_1))) .nil)))))))))
theorem c26_0 (a0:List K_KY):∀(l p q:List K_KY),q.length=l.length→∃w1 w2,r26_0 a0 l (p.length:Int) (p++q)=.k0 (p++l) w1 w2
  |[],p,[],_=>⟨_,_,rfl⟩
  |[],_,_::_,h=>by simp at h
  |_::_,_,[],h=>by simp at h
  |x::l,p,y::q,h=>by
    have ih:=c26_0 a0 l (p++ [x]) q yab
    have e:set (p++y::q) (toNat (p.length:Int)) x=(p++ [x])++q:=by simp
    have e2:((p++ [x]).length:Int)=(p.length:Int)+1:=by simp
    rw[e2] at ih
    simp only[r26_0]
    rw[show p++x::l=(p++ [x])++l by simp]
    first |(rw[e]; exact ih) |(simp only[e]; exact ih)
theorem q26 (a0:(List K_KY)) (hy0:length a0*32≤140737488351232):(m26 a0)=a0:=by
  have h:=c26_0 a0 a0 [] (List.replicate (toNat ((length (map b_KY a0)):Int)) (K_KY.mk 0 0 0 0)) yay
  unfold m26
  simp only[List.nil_append,length_nil] at h
  obtain⟨_,_,h⟩:=h
  rw[show ((0:Nat):Int)=0 from rfl] at h
  rw[h]
theorem g26 {l0_0:Nat} {a0:(List K_KY)} (hy0:length a0*32≤140737488351232):Ev F X (.call 26 [(.one (.bor l0_0 (map b_KY a0)))] [] [] [(.one (.own 4 (map d_KY a0)))]):=by
  have t:=e26 (l0_0:=l0_0) (a0:=a0) hy0
  rw[q26 a0 hy0] at t
  exact t
def m41 (a0:Int) (a1:Int) (a2:Int):Bool:=
  if(decide (a0≥a1))=true then(decide (a0≤a2)) else
  false
theorem e41 {a0:Int} {a1:Int} {a2:Int}:Ev F X (.call 41 [(.one (.val (.int .i64 a0))),(.one (.val (.int .i64 a1))),(.one (.val (.int .i64 a2)))] [] [] [(.one (.val (.bool (m41 a0 a1 a2))))]):=by
  unfold m41
  by_cases h0:(decide (a0≥a1))=true
  · try simp only[if_pos h0]
    exact cp ya (.f h0 (.f h0 (.f h0 (.f h0 (.h 10 (.b true) (.h 12 (.b true) (.h 14 (.b true) (.h 17 (.b true) .nil))))))))
  · try simp only[if_neg h0]
    exact cp ya (.f (nt h0) (.f (nt h0) (.f (nt h0) (.f (nt h0) (.h 10 (.b false) (.h 12 (.b false) (.h 14 (.b false) (.h 17 (.b false) .nil))))))))
theorem jn41 {a b c:Int} (h:¬(!(m41 a b c))=true):b≤a∧a≤c:=by
  simp only[Bool.not_eq_true',Bool.not_eq_false] at h
  unfold m41 at h; split at h<;>simp_all<;>omega
theorem e74 {a0:Int}:Ev F X (.call 74 [(.one (.val (.int .i64 a0)))] [] [] [(.one (.val (.bool (m41 a0 0 2147483646))))]):=by
  exact cp ya (.r 5 [] [] (e41 (a0:=a0) (a1:=0) (a2:=2147483646)) .nil)
def m75 (a0:Int):Bool:=
  if(m41 a0 1 1023)=true then(decide ((Int.tmod a0 256) > 0)) else
  false
theorem e75 {a0:Int}:Ev F X (.call 75 [(.one (.val (.int .i64 a0)))] [] [] [(.one (.val (.bool (m75 a0))))]):=by
  unfold m75
  by_cases h0:(m41 a0 1 1023)=true
  · try simp only[if_pos h0]
    have f3:(256:Int)≠0:=yb
    exact cp ya (.r 5 [] [] (e41 (a0:=a0) (a1:=1) (a2:=1023)) (.f h0 (.f h0 (.f f3 (.f h0 (.f h0 (.h 8 (.b true) (.h 10 (.b true) (.h 12 (.b true) (.h 15 (.b true) .nil))))))))))
  · try simp only[if_neg h0]
    exact cp ya (.r 5 [] [] (e41 (a0:=a0) (a1:=1) (a2:=1023)) (.f (nt h0) (.f (nt h0) (.f (nt h0) (.f (nt h0) (.h 8 (.b false) (.h 10 (.b false) (.h 12 (.b false) (.h 15 (.b false) .nil)))))))))
theorem e134 {a0:Int}:Ev F X (.call 134 [(.one (.val (.int .i64 a0)))] [] [] [(.one (.val (.bool (!(m41 a0 0 9999)))))]):=by
  exact cp ya (.r 5 [] [] (e41 (a0:=a0) (a1:=0) (a2:=9999)) .nil)
inductive O1015700_0 where
  |k0 (w0:Int) (w1:Bool)
  |k1 (w0:Int)
def r1015700_0 (a0:(List Int)):List Int→Int→O1015700_0
  |x0::y0,i=>
    if(!(m41 x0 0 9999))=true then(O1015700_0.k1 i) else
    (r1015700_0 a0 y0 (i+1))
  |[],i=>(O1015700_0.k0 i (decide (i <((length (map b_i a0)):Int))))
def h1015700_0 (l0_0:Nat) (a0:(List Int)) (i:Int) :St:=⟨[(0,(.one (.bor l0_0 (map b_i a0)))),(1,(.clo 134 [] [])),(7,(.one (.val (.int .i64 ((length (map b_i a0)):Int))))),(8,(.one (.val (.int .i64 i))))],[]⟩
def ex1015700_0:O1015700_0→VX.Exit
  |.k0 _ _=>(.exit 0)
  |.k1 _=>.ret
def fin1015700_0 (l0_0:Nat) (a0:(List Int)):O1015700_0→St
  |.k0 w0 w1=>⟨[(0,(.one (.bor l0_0 (map b_i a0)))),(1,(.clo 134 [] [])),(7,(.one (.val (.int .i64 ((length (map b_i a0)):Int))))),(8,(.one (.val (.int .i64 w0)))),(9,(.one (.val (.bool w1))))],[]⟩
  |.k1 w0=>⟨[(4,(.one (.val (.int .i64 w0))))],[]⟩
theorem t1015700_0 {l0_0:Nat} {a0:(List Int)} (hy0:length a0*8≤140737488351232):∀(y0:List Int) (p:List Int),p++y0=a0→Ev F X (.code l157_0 (h1015700_0 l0_0 a0 (length p:Int)) (ex1015700_0 (r1015700_0 a0 y0 (length p:Int))) (fin1015700_0 l0_0 a0 (r1015700_0 a0 y0 (length p:Int))))
  |[],p,hp0=>by
    have hc:=hcn b_i hp0
    exact lx 3 ya (.f (nt hc) (.h 2 (.b false) .nil)) rfl
  |x0::y0,p,hp0=>by
    have hc:=hcy b_i hp0
    have Hx0:=hxy hp0
    have hlen:=hly hp0
    have hw:wrap .i64 ((length p:Int)+1)=(length p:Int)+1:=wrap64 yb
    simp only[r1015700_0]
    have f1:0≤(length p:Int):=yb
    have P1 {hs q} (r:PS F X hs q):=(PS.f hc (.f f1 (.f (mp_ b_i Hx0) (.h 2 (.b true) (.h 14 (.row [(.i x0)]) (.r 18 [] [] (e134 (a0:=x0)) r))))))
    by_cases h_1:(!(m41 x0 0 9999))=true
    · try simp only[if_pos h_1]
      exact lx 24 ya (P1 (.f h_1 (.h 19 (.b true) .nil))) rfl
    · try simp only[if_neg h_1]
      have ih:=t1015700_0 (l0_0:=l0_0) (a0:=a0) hy0 y0 (p++ [x0]) yd
      rw[pl1,← hw] at ih; rw[← hw]
      exact ly 24 ya (P1 (.f (nt h_1) (.f trivial (.h 19 (.b false) .nil)))) ih
def m1015700 (a0:(List Int)):Int:=
  (match r1015700_0 a0 a0 0 with | .k0 w0_0 w1_0=>(-1) | .k1 w0_0=>w0_0)
theorem e1015700 {l0_0:Nat} {a0:(List Int)} (hy0:length a0*8≤140737488351232):Ev F X (.call 157 [(.one (.bor l0_0 (map b_i a0))),(.clo 134 [] [])] [] [] [(.one (.val (.int .i64 (m1015700 a0))))]):=by
  unfold m1015700
  cases h0:r1015700_0 a0 a0 0 with
  |k0 w0_0 w1_0=>
    try dsimp only
    have f0:=Eq.refl (h1015700_0 l0_0 a0 0 )
    exact cp ya (.f f0 (.f (ev_ (e:=ex1015700_0) (g:=(fin1015700_0 l0_0 a0)) h0 (t1015700_0 (l0_0:=l0_0) (a0:=a0) (by assumption) a0 []  rfl)) (.h 8 (.loop (h1015700_0 l0_0 a0 0) (.exit 0) (fin1015700_0 l0_0 a0 (.k0 w0_0 w1_0))) .nil)))
  |k1 w0_0=>
    try dsimp only
    have f0:=Eq.refl (h1015700_0 l0_0 a0 0 )
    exact cp ya (.f f0 (.f (ev_ (e:=ex1015700_0) (g:=(fin1015700_0 l0_0 a0)) h0 (t1015700_0 (l0_0:=l0_0) (a0:=a0) (by assumption) a0 []  rfl)) (.h 8 (.loop (h1015700_0 l0_0 a0 0) .ret (fin1015700_0 l0_0 a0 (.k1 w0_0))) .nil)))
theorem e1013300 {l0_0:Nat} {a0:(List Int)} (hy0:length a0*8≤140737488351232):Ev F X (.call 133 [(.one (.bor l0_0 (map b_i a0))),(.clo 134 [] [])] [] [] [(.one (.val (.bool (decide ((m1015700 a0)≥0)))))]):=by
  exact cp ya (.r 7 [] [] (e1015700 (l0_0:=(l0_0+1)) (a0:=a0) ‹_›) .nil)
def m1013600 (a0:K_N) (a101001:Int) (a101002:Int) (a101003:List Int):Bool:=
  if(a101001==a0.f0)=true then(a101002==a0.f1) else
  false
theorem e1013600 {l0_2:Nat} {a0:K_N} {l101000:Nat} {a101001:Int} {a101002:Int} {a101003:List Int}:Ev F X (.call 136 [(.agg (k_N l0_2 a0)),(.bptr l101000 [(.val (.int .i64 a101001)),(.val (.int .i64 a101002)),(.sl (map b_i a101003))])] [] [] [(.one (.val (.bool (m1013600 a0 a101001 a101002 a101003))))]):=by
  unfold m1013600
  by_cases h0:(a101001==a0.f0)=true
  · try simp only[if_pos h0]
    exact cp ya (.f h0 (.f h0 (.f h0 (.f h0 (.f h0 (.f h0 (.h 16 (.b true) (.h 18 (.b true) (.h 20 (.b true) (.h 22 (.b true) (.h 24 (.b true) (.h 27 (.b true) .nil))))))))))))
  · try simp only[if_neg h0]
    exact cp ya (.f (nt h0) (.f (nt h0) (.f (nt h0) (.f (nt h0) (.f (nt h0) (.f (nt h0) (.h 16 (.b false) (.h 18 (.b false) (.h 20 (.b false) (.h 22 (.b false) (.h 24 (.b false) (.h 27 (.b false) .nil))))))))))))
inductive O1015800_0 where
  |k0 (w0:Int) (w1:Bool)
  |k1 (w0:Int)
def r1015800_0 (a0:(List K_N)) (a2001:Int) (a2002:Int) (a2003:List Int):List K_N→Int→O1015800_0
  |x0::y0,i=>
    if(m1013600 x0 a2001 a2002 a2003)=true then(O1015800_0.k1 i) else
    (r1015800_0 a0 a2001 a2002 a2003 y0 (i+1))
  |[],i=>(O1015800_0.k0 i (decide (i <((length (map b_N a0)):Int))))
def h1015800_0 (l0_0:Nat) (l2000:Nat) (a0:(List K_N)) (a2001:Int) (a2002:Int) (a2003:List Int) (i:Int) :St:=⟨[(0,(.one (.bor l0_0 (map b_N a0)))),(1,(.clo 136 [] [(.bptr l2000 [(.val (.int .i64 a2001)),(.val (.int .i64 a2002)),(.sl (map b_i a2003))])])),(7,(.one (.val (.int .i64 ((length (map b_N a0)):Int))))),(8,(.one (.val (.int .i64 i))))],[]⟩
def ex1015800_0:O1015800_0→VX.Exit
  |.k0 _ _=>(.exit 0)
  |.k1 _=>.ret
def fin1015800_0 (l0_0:Nat) (l2000:Nat) (a0:(List K_N)) (a2001:Int) (a2002:Int) (a2003:List Int):O1015800_0→St
  |.k0 w0 w1=>⟨[(0,(.one (.bor l0_0 (map b_N a0)))),(1,(.clo 136 [] [(.bptr l2000 [(.val (.int .i64 a2001)),(.val (.int .i64 a2002)),(.sl (map b_i a2003))])])),(7,(.one (.val (.int .i64 ((length (map b_N a0)):Int))))),(8,(.one (.val (.int .i64 w0)))),(9,(.one (.val (.bool w1))))],[]⟩
  |.k1 w0=>⟨[(4,(.one (.val (.int .i64 w0))))],[]⟩
theorem t1015800_0 {l0_0:Nat} {l2000:Nat} {a0:(List K_N)} {a2001:Int} {a2002:Int} {a2003:List Int} (hy0:length a0*40≤140737488351232) (hy1:∀z∈a0,ok_N z) (hy2:length a2003*8≤140737488351232):∀(y0:List K_N) (p:List K_N),p++y0=a0→Ev F X (.code l158_0 (h1015800_0 l0_0 l2000 a0 a2001 a2002 a2003 (length p:Int)) (ex1015800_0 (r1015800_0 a0 a2001 a2002 a2003 y0 (length p:Int))) (fin1015800_0 l0_0 l2000 a0 a2001 a2002 a2003 (r1015800_0 a0 a2001 a2002 a2003 y0 (length p:Int))))
  |[],p,hp0=>by
    have hc:=hcn b_N hp0
    exact lx 3 ya (.f (nt hc) (.h 2 (.b false) .nil)) rfl
  |x0::y0,p,hp0=>by
    have hc:=hcy b_N hp0
    have Hx0:=hxy hp0
    have Mx0_0:=hy1 x0 (List.mem_of_getElem? Hx0)
    have hlen:=hly hp0
    have hw:wrap .i64 ((length p:Int)+1)=(length p:Int)+1:=wrap64 yb
    simp only[r1015800_0]
    have f1:0≤(length p:Int):=yb
    have P1 {hs q} (r:PS F X hs q):=(PS.f hc (.f f1 (.f (mp_ b_N Hx0) (.h 2 (.b true) (.h 14 (.row (b_N x0)) (.r 18 [] [] (e1013600 (l0_2:=(l0_0+1)) (l101000:=(l2000+1)) (a0:=x0) (a101001:=a2001) (a101002:=a2002) (a101003:=a2003)) r))))))
    by_cases h_1:(m1013600 x0 a2001 a2002 a2003)=true
    · try simp only[if_pos h_1]
      exact lx 24 ya (P1 (.f h_1 (.h 19 (.b true) .nil))) rfl
    · try simp only[if_neg h_1]
      have ih:=t1015800_0 (l0_0:=l0_0) (l2000:=l2000) (a0:=a0) (a2001:=a2001) (a2002:=a2002) (a2003:=a2003) hy0 hy1 hy2 y0 (p++ [x0]) yd
      rw[pl1,← hw] at ih; rw[← hw]
      exact ly 24 ya (P1 (.f (nt h_1) (.f trivial (.h 19 (.b false) .nil)))) ih
def m1015800 (a0:(List K_N)) (a2001:Int) (a2002:Int) (a2003:List Int):Int:=
  (match r1015800_0 a0 a2001 a2002 a2003 a0 0 with | .k0 w0_0 w1_0=>(-1) | .k1 w0_0=>w0_0)
theorem e1015800 {l0_0:Nat} {a0:(List K_N)} {l2000:Nat} {a2001:Int} {a2002:Int} {a2003:List Int} (hy0:length a0*40≤140737488351232) (hy1:∀z∈a0,ok_N z) (hy2:length a2003*8≤140737488351232):Ev F X (.call 158 [(.one (.bor l0_0 (map b_N a0))),(.clo 136 [] [(.bptr l2000 [(.val (.int .i64 a2001)),(.val (.int .i64 a2002)),(.sl (map b_i a2003))])])] [] [] [(.one (.val (.int .i64 (m1015800 a0 a2001 a2002 a2003))))]):=by
  unfold m1015800
  cases h0:r1015800_0 a0 a2001 a2002 a2003 a0 0 with
  |k0 w0_0 w1_0=>
    try dsimp only
    have f0:=Eq.refl (h1015800_0 l0_0 l2000 a0 a2001 a2002 a2003 0 )
    exact cp ya (.f f0 (.f (ev_ (e:=ex1015800_0) (g:=(fin1015800_0 l0_0 l2000 a0 a2001 a2002 a2003)) h0 (t1015800_0 (l0_0:=l0_0) (l2000:=l2000) (a0:=a0) (a2001:=a2001) (a2002:=a2002) (a2003:=a2003) (by assumption) (by assumption) (by assumption) a0 []  rfl)) (.h 8 (.loop (h1015800_0 l0_0 l2000 a0 a2001 a2002 a2003 0) (.exit 0) (fin1015800_0 l0_0 l2000 a0 a2001 a2002 a2003 (.k0 w0_0 w1_0))) .nil)))
  |k1 w0_0=>
    try dsimp only
    have f0:=Eq.refl (h1015800_0 l0_0 l2000 a0 a2001 a2002 a2003 0 )
    exact cp ya (.f f0 (.f (ev_ (e:=ex1015800_0) (g:=(fin1015800_0 l0_0 l2000 a0 a2001 a2002 a2003)) h0 (t1015800_0 (l0_0:=l0_0) (l2000:=l2000) (a0:=a0) (a2001:=a2001) (a2002:=a2002) (a2003:=a2003) (by assumption) (by assumption) (by assumption) a0 []  rfl)) (.h 8 (.loop (h1015800_0 l0_0 l2000 a0 a2001 a2002 a2003 0) .ret (fin1015800_0 l0_0 l2000 a0 a2001 a2002 a2003 (.k1 w0_0))) .nil)))
theorem e1013500 {l0_0:Nat} {a0:(List K_N)} {l2000:Nat} {a2001:Int} {a2002:Int} {a2003:List Int} (hy0:length a0*40≤140737488351232) (hy1:∀z∈a0,ok_N z) (hy2:length a2003*8≤140737488351232):Ev F X (.call 135 [(.one (.bor l0_0 (map b_N a0))),(.clo 136 [] [(.bptr l2000 [(.val (.int .i64 a2001)),(.val (.int .i64 a2002)),(.sl (map b_i a2003))])])] [] [] [(.one (.val (.bool (decide ((m1015800 a0 a2001 a2002 a2003)≥0)))))]):=by
  have f0:Ev F X (.call 158 [(.one (.bor (l0_0+1) (map b_N a0))),(.clo 136 [] [(.bptr (l2000+1) [(.i a2001),(.i a2002),(.sl (map b_i a2003))])])] [] [] [(.oi (m1015800 a0 a2001 a2002 a2003))]):=(e1015800 (a0:=a0) (a2001:=a2001) (a2002:=a2002) (a2003:=a2003) ‹_› ‹_› ‹_›)
  exact cp ya (.r 7 [] [] f0 .nil)
def m102 (a0:K_N) (a1:(List K_N)):Int:=
  if(!(m41 a0.f0 0 2147483646))=true then 3 else
  if(!(m41 a0.f1 0 3))=true then 3 else
    if(decide (((length (map b_i a0.f2)):Int) > 8))=true then 2 else
      if(decide ((m1015700 a0.f2)≥0))=true then 3 else
        if(decide ((m1015800 a1 a0.f0 a0.f1 a0.f2)≥0))=true then 6 else
          0
theorem e102 {l0_2:Nat} {a0:K_N} {l1_0:Nat} {a1:(List K_N)} (hy0:length a0.f2*8≤140737488351232) (hy1:length a1*40≤140737488351232) (hy2:∀z∈a1,ok_N z):Ev F X (.call 102 [(.agg (k_N l0_2 a0)),(.one (.bor l1_0 (map b_N a1)))] [] [] [(.one (.val (.int .i64 (m102 a0 a1))))]):=by
  unfold m102
  have P0 {hs q} (r:PS F X hs q):=(PS.r 9 [] [] (e74 (a0:=a0.f0)) r)
  by_cases h0:(!(m41 a0.f0 0 2147483646))=true
  · try simp only[if_pos h0]
    exact cp ya (P0 (.f h0 (.f h0 (.f h0 (.f h0 (.f h0 (.h 14 (.b true) (.h 16 (.b true) (.h 18 (.b true) (.h 20 (.b true) (.h 23 (.b true) .nil)))))))))))
  · try simp only[if_neg h0]
    have P1 {hs q} (r:PS F X hs q):=(P0 (.f (nt h0) (.f (nt h0) (.f (nt h0) (.h 14 (.b false) (.h 16 (.b false) (.h 18 (.b false) (.r 19 [] [] (e41 (a0:=a0.f1) (a1:=0) (a2:=3)) (.f (nt h0) (.f (nt h0) (.h 20 (.b false) (.h 23 (.b false) r))))))))))))
    by_cases h1:(!(m41 a0.f1 0 3))=true
    · try simp only[if_pos h1]
      exact cp ya (P1 (.f h1 (.h 26 (.b true) .nil)))
    · try simp only[if_neg h1]
      have P2 {hs q} (r:PS F X hs q):=(P1 (.f (nt h1) (.h 26 (.b false) r)))
      by_cases h2:(decide (((length (map b_i a0.f2)):Int) > 8))=true
      · try simp only[if_pos h2]
        exact cp ya (P2 (.f h2 (.h 37 (.b true) .nil)))
      · try simp only[if_neg h2]
        have P3 {hs q} (r:PS F X hs q):=(P2 (.f (nt h2) (.h 37 (.b false) (.r 43 [] [] (e1013300 (l0_0:=(l0_2+1)) (a0:=a0.f2) ‹_›) r))))
        by_cases h3:(decide ((m1015700 a0.f2)≥0))=true
        · try simp only[if_pos h3]
          exact cp ya (P3 (.f h3 (.h 46 (.b true) .nil)))
        · try simp only[if_neg h3]
          have f11:fullL [(.i a0.f0),(.i a0.f1),(.bor l0_2 (map b_i a0.f2))]=true:=yE
          have f12:Ev F X (.call 135 [(.one (.bor (l1_0+1) (map b_N a1))),(.clo 136 [] [(.bptr 0 (b_N a0))])] [] [] [(.one (.val (.bool (decide ((m1015800 a1 a0.f0 a0.f1 a0.f2)≥0)))))]):=(e1013500 (a0:=a1) (a2001:=a0.f0) (a2002:=a0.f1) (a2003:=a0.f2) ‹_› ‹_› ‹_›)
          by_cases h4:(decide ((m1015800 a1 a0.f0 a0.f1 a0.f2)≥0))=true
          · try simp only[if_pos h4]
            exact cp ya (P3 (.f (nt h3) (.f f11 (.h 46 (.b false) (.r 52 [] [] f12 (.f h4 (.h 55 (.b true) .nil)))))))
          · try simp only[if_neg h4]
            exact cp ya (P3 (.f (nt h3) (.f f11 (.h 46 (.b false) (.r 52 [] [] f12 (.f (nt h4) (.h 55 (.b false) .nil)))))))
theorem inl102 {a:K_N} {l:List K_N} (h:m102 a l=0):length a.f2≤8:=by
  by_cases c:(decide (((length (map b_i a.f2)):Int) > 8))=true
  · unfold m102 at h
    simp only[if_pos c] at h
    (repeat' split at h)<;>exact absurd h yG
  · simp only[decide_eq_true_eq,length_map] at c; omega
theorem e103 {a0:Int}:Ev F X (.call 103 [(.one (.val (.int .i64 a0)))] [] [] [(.one (.val (.bool (m41 a0 0 1000000))))]):=by
  exact cp ya (.r 5 [] [] (e41 (a0:=a0) (a1:=0) (a2:=1000000)) .nil)
def m137 (a0:Int):Bool:=
  if(!(m41 a0 1 9))=true then(!(m41 a0 100 1099)) else
  false
theorem e137 {a0:Int}:Ev F X (.call 137 [(.one (.val (.int .i64 a0)))] [] [] [(.one (.val (.bool (m137 a0))))]):=by
  unfold m137
  by_cases h0:(!(m41 a0 1 9))=true
  · try simp only[if_pos h0]
    exact cp ya (.r 5 [] [] (e41 (a0:=a0) (a1:=1) (a2:=9)) (.f h0 (.f h0 (.h 10 (.b true) (.h 12 (.b true) (.r 13 [] [] (e41 (a0:=a0) (a1:=100) (a2:=1099)) (.f h0 (.f h0 (.h 14 (.b true) (.h 17 (.b true) .nil))))))))))
  · try simp only[if_neg h0]
    exact cp ya (.r 5 [] [] (e41 (a0:=a0) (a1:=1) (a2:=9)) (.f (nt h0) (.f (nt h0) (.f (nt h0) (.f (nt h0) (.h 10 (.b false) (.h 12 (.b false) (.h 14 (.b false) (.h 17 (.b false) .nil)))))))))
inductive O1015701_0 where
  |k0 (w0:Int) (w1:Bool)
  |k1 (w0:Int)
def r1015701_0 (a0:(List Int)):List Int→Int→O1015701_0
  |x0::y0,i=>
    if(m137 x0)=true then(O1015701_0.k1 i) else
    (r1015701_0 a0 y0 (i+1))
  |[],i=>(O1015701_0.k0 i (decide (i <((length (map b_i a0)):Int))))
def h1015701_0 (l0_0:Nat) (a0:(List Int)) (i:Int) :St:=⟨[(0,(.one (.bor l0_0 (map b_i a0)))),(1,(.clo 137 [] [])),(7,(.one (.val (.int .i64 ((length (map b_i a0)):Int))))),(8,(.one (.val (.int .i64 i))))],[]⟩
def ex1015701_0:O1015701_0→VX.Exit
  |.k0 _ _=>(.exit 0)
  |.k1 _=>.ret
def fin1015701_0 (l0_0:Nat) (a0:(List Int)):O1015701_0→St
  |.k0 w0 w1=>⟨[(0,(.one (.bor l0_0 (map b_i a0)))),(1,(.clo 137 [] [])),(7,(.one (.val (.int .i64 ((length (map b_i a0)):Int))))),(8,(.one (.val (.int .i64 w0)))),(9,(.one (.val (.bool w1))))],[]⟩
  |.k1 w0=>⟨[(4,(.one (.val (.int .i64 w0))))],[]⟩
theorem t1015701_0 {l0_0:Nat} {a0:(List Int)} (hy0:length a0*8≤140737488351232):∀(y0:List Int) (p:List Int),p++y0=a0→Ev F X (.code l157_0 (h1015701_0 l0_0 a0 (length p:Int)) (ex1015701_0 (r1015701_0 a0 y0 (length p:Int))) (fin1015701_0 l0_0 a0 (r1015701_0 a0 y0 (length p:Int))))
  |[],p,hp0=>by
    have hc:=hcn b_i hp0
    exact lx 3 ya (.f (nt hc) (.h 2 (.b false) .nil)) rfl
  |x0::y0,p,hp0=>by
    have hc:=hcy b_i hp0
    have Hx0:=hxy hp0
    have hlen:=hly hp0
    have hw:wrap .i64 ((length p:Int)+1)=(length p:Int)+1:=wrap64 yb
    simp only[r1015701_0]
    have f1:0≤(length p:Int):=yb
    have P1 {hs q} (r:PS F X hs q):=(PS.f hc (.f f1 (.f (mp_ b_i Hx0) (.h 2 (.b true) (.h 14 (.row [(.i x0)]) (.r 18 [] [] (e137 (a0:=x0)) r))))))
    by_cases h_1:(m137 x0)=true
    · try simp only[if_pos h_1]
      exact lx 24 ya (P1 (.f h_1 (.h 19 (.b true) .nil))) rfl
    · try simp only[if_neg h_1]
      have ih:=t1015701_0 (l0_0:=l0_0) (a0:=a0) hy0 y0 (p++ [x0]) yd
      rw[pl1,← hw] at ih; rw[← hw]
      exact ly 24 ya (P1 (.f (nt h_1) (.f trivial (.h 19 (.b false) .nil)))) ih
def m1015701 (a0:(List Int)):Int:=
  (match r1015701_0 a0 a0 0 with | .k0 w0_0 w1_0=>(-1) | .k1 w0_0=>w0_0)
theorem e1015701 {l0_0:Nat} {a0:(List Int)} (hy0:length a0*8≤140737488351232):Ev F X (.call 157 [(.one (.bor l0_0 (map b_i a0))),(.clo 137 [] [])] [] [] [(.one (.val (.int .i64 (m1015701 a0))))]):=by
  unfold m1015701
  cases h0:r1015701_0 a0 a0 0 with
  |k0 w0_0 w1_0=>
    try dsimp only
    have f0:=Eq.refl (h1015701_0 l0_0 a0 0 )
    exact cp ya (.f f0 (.f (ev_ (e:=ex1015701_0) (g:=(fin1015701_0 l0_0 a0)) h0 (t1015701_0 (l0_0:=l0_0) (a0:=a0) (by assumption) a0 []  rfl)) (.h 8 (.loop (h1015701_0 l0_0 a0 0) (.exit 0) (fin1015701_0 l0_0 a0 (.k0 w0_0 w1_0))) .nil)))
  |k1 w0_0=>
    try dsimp only
    have f0:=Eq.refl (h1015701_0 l0_0 a0 0 )
    exact cp ya (.f f0 (.f (ev_ (e:=ex1015701_0) (g:=(fin1015701_0 l0_0 a0)) h0 (t1015701_0 (l0_0:=l0_0) (a0:=a0) (by assumption) a0 []  rfl)) (.h 8 (.loop (h1015701_0 l0_0 a0 0) .ret (fin1015701_0 l0_0 a0 (.k1 w0_0))) .nil)))
theorem e1013301 {l0_0:Nat} {a0:(List Int)} (hy0:length a0*8≤140737488351232):Ev F X (.call 133 [(.one (.bor l0_0 (map b_i a0))),(.clo 137 [] [])] [] [] [(.one (.val (.bool (decide ((m1015701 a0)≥0)))))]):=by
  exact cp ya (.r 7 [] [] (e1015701 (l0_0:=(l0_0+1)) (a0:=a0) ‹_›) .nil)
def m104 (a0:(List Int)):Int:=
  if(decide (((length (map b_i a0)):Int) > 12))=true then 2 else
  if(decide ((m1015701 a0)≥0))=true then 1 else
    0
theorem e104 {l0_0:Nat} {a0:(List Int)} (hy0:length a0*8≤140737488351232):Ev F X (.call 104 [(.one (.bor l0_0 (map b_i a0)))] [] [] [(.one (.val (.int .i64 (m104 a0))))]):=by
  unfold m104
  by_cases h0:(decide (((length (map b_i a0)):Int) > 12))=true
  · try simp only[if_pos h0]
    exact cp ya (.f h0 (.h 8 (.b true) .nil))
  · try simp only[if_neg h0]
    have P1 {hs q} (r:PS F X hs q):=(PS.f (nt h0) (.h 8 (.b false) (.r 12 [] [] (e1013301 (l0_0:=(l0_0+1)) (a0:=a0) ‹_›) r)))
    by_cases h1:(decide ((m1015701 a0)≥0))=true
    · try simp only[if_pos h1]
      exact cp ya (P1 (.f h1 (.h 13 (.b true) .nil)))
    · try simp only[if_neg h1]
      exact cp ya (P1 (.f (nt h1) (.h 13 (.b false) .nil)))
theorem lk104 {a:List Int} (h:m104 a=0):length a≤12:=by
  by_cases c:(decide (((length (map b_i a)):Int) > 12))=true
  · unfold m104 at h
    simp only[if_pos c] at h
    exact absurd h yG
  · simp only[decide_eq_true_eq,length_map] at c; omega
inductive O105_0 where
  |k0 (w0:Int) (w1:Int) (w2:Bool)
def r105_0 (a0:(List K_U)):List K_U→Int→Int→O105_0
  |x0::y0,i,v0=>
    (r105_0 a0 y0 (i+1) (wrap .i64 (v0+x0.f0)))
  |[],i,v0=>(O105_0.k0 v0 i (decide (i <((length (map b_U a0)):Int))))
def h105_0 (l0_0:Nat) (a0:(List K_U)) (i:Int) (v0:Int):St:=⟨[(3,(.one (.val (.int .i64 v0)))),(6,(.one (.bor l0_0 (map b_U a0)))),(7,(.one (.val (.int .i64 ((length (map b_U a0)):Int))))),(8,(.one (.val (.int .i64 i))))],[]⟩
def ex105_0:O105_0→VX.Exit
  |.k0 _ _ _=>(.exit 0)
def fin105_0 (l0_0:Nat) (a0:(List K_U)):O105_0→St
  |.k0 w0 w1 w2=>⟨[(3,(.one (.val (.int .i64 w0)))),(6,(.one (.bor l0_0 (map b_U a0)))),(7,(.one (.val (.int .i64 ((length (map b_U a0)):Int))))),(8,(.one (.val (.int .i64 w1)))),(9,(.one (.val (.bool w2))))],[]⟩
theorem t105_0 {l0_0:Nat} {a0:(List K_U)} (hy0:length a0*32≤140737488351232) (hy1:∀z∈a0,ok_U z):∀(y0:List K_U) (p:List K_U) (v0:Int),p++y0=a0→Ev F X (.code l105_0 (h105_0 l0_0 a0 (length p:Int) v0) (ex105_0 (r105_0 a0 y0 (length p:Int) v0)) (fin105_0 l0_0 a0 (r105_0 a0 y0 (length p:Int) v0)))
  |[],p,v0,hp0=>by
    have hc:=hcn b_U hp0
    exact lx 3 ya (.f (nt hc) (.h 2 (.b false) .nil)) rfl
  |x0::y0,p,v0,hp0=>by
    have hc:=hcy b_U hp0
    have Hx0:=hxy hp0
    have Mx0_0:=hy1 x0 (List.mem_of_getElem? Hx0)
    have hlen:=hly hp0
    have hw:wrap .i64 ((length p:Int)+1)=(length p:Int)+1:=wrap64 yb
    simp only[r105_0]
    have f1:0≤(length p:Int):=yb
    have ih:=t105_0 (l0_0:=l0_0) (a0:=a0) hy0 hy1 y0 (p++ [x0]) (wrap .i64 (v0+x0.f0)) yd
    rw[pl1,← hw] at ih; rw[← hw]
    exact ly 25 ya (.f hc (.f f1 (.f (mp_ b_U Hx0) (.f trivial (.f trivial (.h 2 (.b true) (.h 4 (.row (b_U x0)) .nil))))))) ih
def m105 (a0:(List K_U)):Int:=
  (match r105_0 a0 a0 0 0 with | .k0 w0_0 w1_0 w2_0=>w0_0)
theorem e105 {l0_0:Nat} {a0:(List K_U)} (hy0:length a0*32≤140737488351232) (hy1:∀z∈a0,ok_U z):Ev F X (.call 105 [(.one (.bor l0_0 (map b_U a0)))] [] [] [(.one (.val (.int .i64 (m105 a0))))]):=by
  unfold m105
  cases h0:r105_0 a0 a0 0 0 with
  |k0 w0_0 w1_0 w2_0=>
    try dsimp only
    have f0:=Eq.refl (h105_0 l0_0 a0 0 0)
    exact cp ya (.f f0 (.f (ev_ (e:=ex105_0) (g:=(fin105_0 l0_0 a0)) h0 (t105_0 (l0_0:=l0_0) (a0:=a0) (by assumption) (by assumption) a0 [] 0 rfl)) (.h 10 (.loop (h105_0 l0_0 a0 0 0) (.exit 0) (fin105_0 l0_0 a0 (.k0 w0_0 w1_0 w2_0))) .nil)))
inductive O76_0 where
  |k0 (w0:Int) (w1:Bool)
  |k1 (w0:Int)
def r76_0 (a0:K_T):List K_N→Int→O76_0
  |x0::y0,i=>
    if((m102 x0 (take (toNat i) a0.f1)) !=0)=true then(O76_0.k1 (m102 x0 (take (toNat i) a0.f1))) else
    (r76_0 a0 y0 (i+1))
  |[],i=>(O76_0.k0 i (decide (i <((length (map b_N a0.f1)):Int))))
def h76_0 (l0_1:Nat) (l0_2:Nat) (a0:K_T) (i:Int) :St:=⟨[(1,(.ptr ⟨(1,0,0),[],0,0,3⟩)),(27,(.one (.bor l0_1 (map b_N a0.f1)))),(28,(.one (.val (.int .i64 ((length (map b_N a0.f1)):Int))))),(29,(.one (.val (.int .i64 i))))],[((1,0,0),.live ⟨3,[[(.val (.int .i64 a0.f0)),(.bor l0_1 (map b_N a0.f1)),(.bor l0_2 (map b_U a0.f2))]],[]⟩)]⟩
def ex76_0:O76_0→VX.Exit
  |.k0 _ _=>(.exit 1)
  |.k1 _=>.ret
def fin76_0 (l0_1:Nat) (l0_2:Nat) (a0:K_T):O76_0→St
  |.k0 w0 w1=>⟨[(1,(.ptr ⟨(1,0,0),[],0,0,3⟩)),(27,(.one (.bor l0_1 (map b_N a0.f1)))),(28,(.one (.val (.int .i64 ((length (map b_N a0.f1)):Int))))),(29,(.one (.val (.int .i64 w0)))),(30,(.one (.val (.bool w1))))],[((1,0,0),.live ⟨3,[[(.val (.int .i64 a0.f0)),(.bor l0_1 (map b_N a0.f1)),(.bor l0_2 (map b_U a0.f2))]],[]⟩)]⟩
  |.k1 w0=>⟨[(2,(.one (.val (.int .i64 w0))))],[]⟩
theorem t76_0 {l0_1:Nat} {l0_2:Nat} {a0:K_T} (hy0:length a0.f1*40≤140737488351232) (hy1:∀z∈a0.f1,ok_N z) (hy2:length a0.f2*32≤140737488351232) (hy3:∀z∈a0.f2,ok_U z):∀(y0:List K_N) (p:List K_N),p++y0=a0.f1→Ev F X (.code l76_0 (h76_0 l0_1 l0_2 a0 (length p:Int)) (ex76_0 (r76_0 a0 y0 (length p:Int))) (fin76_0 l0_1 l0_2 a0 (r76_0 a0 y0 (length p:Int))))
  |[],p,hp0=>by
    have hc:=hcn b_N hp0
    exact lx 3 ya (.f (nt hc) (.h 2 (.b false) .nil)) rfl
  |x0::y0,p,hp0=>by
    have hc:=hcy b_N hp0
    have Hx0:=hxy hp0
    have Mx0_0:=hy1 x0 (List.mem_of_getElem? Hx0)
    have hlen:=hly hp0
    have hw:wrap .i64 ((length p:Int)+1)=(length p:Int)+1:=wrap64 yb
    simp only[r76_0]
    have f1:0≤(length p:Int):=yb
    have f3:(0≤(0:Int)∧(0:Int)≤(length p:Int)∧(length p:Int)≤((length (map b_N a0.f1)):Int))∧∀r∈((map b_N a0.f1):List (List B)),r.length=3:=(by refine⟨?_,lenB_N _⟩; simp only[LN]; omega)
    have f4:Ev F X (.call 102 [(.agg (k_N (l0_1+1) x0)),(.one (.bor (l0_1+1) (take (toNat (length p:Int) - toNat 0) (drop 0 (map b_N a0.f1)))))] [] [] [(.oi (m102 x0 (take (toNat (length p:Int)) a0.f1)))]):=(by rw[show (take (toNat (length p:Int) - toNat 0) (drop 0 (map b_N a0.f1)))=(map b_N (take (toNat (length p:Int)) a0.f1)) from by first | rfl |(simp[map_take,map_drop,ol112,ol83,ol84,ol51,ol21,four_len]; done) |(simp[byteRows_eq,map_take,map_drop,ol112,ol83,ol84,ol51,ol21,four_len]; done) |(simp[*,map_take,map_drop,ol112,ol83,ol84,ol51,ol21,four_len]; done) |(rw[take_of_length_le (by simp only[length_drop,length_take,length_map,Int.toNat_natCast]; omega)]; simp only[← map_drop,← map_take])]; exact(e102 (l0_2:=(l0_1+1)) (l1_0:=(l0_1+1)) (a0:=x0) (a1:=(take (toNat (length p:Int)) a0.f1)) (by assumption) (by simp only[length_take]; omega) (by intro z hz; exact(by assumption:∀z∈_,ok_N z) z (List.mem_of_mem_take hz))))
    have P1 {hs q} (r:PS F X hs q):=(PS.f hc (.f f1 (.f (mp_ b_N Hx0) (.f f3 (.h 2 (.b true) (.h 6 (.row (b_N x0)) (.r 26 [] [] f4 r)))))))
    by_cases h_1:((m102 x0 (take (toNat (length p:Int)) a0.f1)) !=0)=true
    · try simp only[if_pos h_1]
      exact lx 38 ya (P1 (.f h_1 (.h 33 (.b true) .nil))) rfl
    · try simp only[if_neg h_1]
      have ih:=t76_0 (l0_1:=l0_1) (l0_2:=l0_2) (a0:=a0) hy0 hy1 hy2 hy3 y0 (p++ [x0]) yd
      rw[pl1,← hw] at ih; rw[← hw]
      exact ly 38 ya (P1 (.f (nt h_1) (.f trivial (.h 33 (.b false) .nil)))) ih
theorem lf76 {a:K_T}:∀ {l:List K_N} {i:Int} {j b},r76_0 a l i=.k0 j b→∀x∈l,length x.f2≤8
  |[],i,j,b,h,x,hx=>by cases hx
  |y::l,i,j,b,h,x,hx=>by
    simp only[r76_0] at h
    split at h
    · cases h
    · rename_i h1
      rcases List.mem_cons.1 hx with rfl | hx
      · have h2:m102 x (take (toNat i) a.f1)=0:=by simpa using h1
        exact inl102 h2
      · exact lf76 h x hx
theorem ne76 {a:K_T}:∀(l:List K_N) (i:Int),r76_0 a l i≠.k1 0
  |[],i=>by simp only[r76_0]; intro h; cases h
  |y::l,i=>by
    simp only[r76_0]
    split
    · rename_i h; intro q; injection q with q; rw[q] at h; exact absurd h yG
    · exact ne76 l _
inductive O76_1 where
  |k0 (w0:Int) (w1:Bool)
  |k1
  |k2 (w0:Int)
def r76_1 (a0:K_T):List K_U→Int→O76_1
  |x0::y0,i=>
    if(!(m41 x0.f0 0 1000000))=true then(O76_1.k1) else
    if((m104 x0.f1) !=0)=true then(O76_1.k2 (m104 x0.f1)) else
      (r76_1 a0 y0 (i+1))
  |[],i=>(O76_1.k0 i (decide (i <((length (map b_U a0.f2)):Int))))
def h76_1 (l0_1:Nat) (l0_2:Nat) (a0:K_T) (i:Int) :St:=⟨[(1,(.ptr ⟨(1,0,0),[],0,0,3⟩)),(45,(.one (.bor l0_2 (map b_U a0.f2)))),(46,(.one (.val (.int .i64 ((length (map b_U a0.f2)):Int))))),(47,(.one (.val (.int .i64 i))))],[((1,0,0),.live ⟨3,[[(.val (.int .i64 a0.f0)),(.bor l0_1 (map b_N a0.f1)),(.bor l0_2 (map b_U a0.f2))]],[]⟩)]⟩
def ex76_1:O76_1→VX.Exit
  |.k0 _ _=>(.exit 3)
  |.k1=>.ret
  |.k2 _=>.ret
def fin76_1 (l0_1:Nat) (l0_2:Nat) (a0:K_T):O76_1→St
  |.k0 w0 w1=>⟨[(1,(.ptr ⟨(1,0,0),[],0,0,3⟩)),(45,(.one (.bor l0_2 (map b_U a0.f2)))),(46,(.one (.val (.int .i64 ((length (map b_U a0.f2)):Int))))),(47,(.one (.val (.int .i64 w0)))),(48,(.one (.val (.bool w1))))],[((1,0,0),.live ⟨3,[[(.val (.int .i64 a0.f0)),(.bor l0_1 (map b_N a0.f1)),(.bor l0_2 (map b_U a0.f2))]],[]⟩)]⟩
  |.k1=>⟨[(2,(.one (.val (.int .i64 3))))],[]⟩
  |.k2 w0=>⟨[(2,(.one (.val (.int .i64 w0))))],[]⟩
theorem t76_1 {l0_1:Nat} {l0_2:Nat} {a0:K_T} (hy0:length a0.f1*40≤140737488351232) (hy1:∀z∈a0.f1,ok_N z) (hy2:length a0.f2*32≤140737488351232) (hy3:∀z∈a0.f2,ok_U z):∀(y0:List K_U) (p:List K_U),p++y0=a0.f2→Ev F X (.code l76_1 (h76_1 l0_1 l0_2 a0 (length p:Int)) (ex76_1 (r76_1 a0 y0 (length p:Int))) (fin76_1 l0_1 l0_2 a0 (r76_1 a0 y0 (length p:Int))))
  |[],p,hp0=>by
    have hc:=hcn b_U hp0
    exact lx 3 ya (.f (nt hc) (.h 2 (.b false) .nil)) rfl
  |x0::y0,p,hp0=>by
    have hc:=hcy b_U hp0
    have Hx0:=hxy hp0
    have Mx0_0:=hy3 x0 (List.mem_of_getElem? Hx0)
    have hlen:=hly hp0
    have hw:wrap .i64 ((length p:Int)+1)=(length p:Int)+1:=wrap64 yb
    simp only[r76_1]
    have f1:0≤(length p:Int):=yb
    have P1 {hs q} (r:PS F X hs q):=(PS.f hc (.f f1 (.f (mp_ b_U Hx0) (.h 2 (.b true) (.h 4 (.row (b_U x0)) (.r 16 [] [] (e103 (a0:=x0.f0)) r))))))
    by_cases h_1:(!(m41 x0.f0 0 1000000))=true
    · try simp only[if_pos h_1]
      exact lx 22 ya (P1 (.f h_1 (.h 19 (.b true) .nil))) rfl
    · try simp only[if_neg h_1]
      have P2 {hs q} (r:PS F X hs q):=(P1 (.f (nt h_1) (.h 19 (.b false) (.r 25 [] [] (e104 (l0_0:=(l0_2+1)) (a0:=x0.f1) (by assumption)) r))))
      by_cases h_2:((m104 x0.f1) !=0)=true
      · try simp only[if_pos h_2]
        exact lx 37 ya (P2 (.f h_2 (.h 32 (.b true) .nil))) rfl
      · try simp only[if_neg h_2]
        have ih:=t76_1 (l0_1:=l0_1) (l0_2:=l0_2) (a0:=a0) hy0 hy1 hy2 hy3 y0 (p++ [x0]) yd
        rw[pl1,← hw] at ih; rw[← hw]
        exact ly 37 ya (P2 (.f (nt h_2) (.f trivial (.h 32 (.b false) .nil)))) ih
theorem lo76 {a:K_T}:∀ {l:List K_U} {i:Int} {j b},r76_1 a l i=.k0 j b→∀x∈l,m104 x.f1=0
  |[],i,j,b,h,x,hx=>by cases hx
  |y::l,i,j,b,h,x,hx=>by
    simp only[r76_1] at h
    split at h
    · cases h
    · split at h
      · cases h
      · rename_i h1
        rcases List.mem_cons.1 hx with rfl | hx
        · simpa using h1
        · exact lo76 h x hx
theorem nf76 {a:K_T}:∀(l:List K_U) (i:Int),r76_1 a l i≠.k2 0
  |[],i=>by simp only[r76_1]; intro h; cases h
  |y::l,i=>by
    simp only[r76_1]
    split
    · intro q; cases q
    · split
      · rename_i h; intro q; injection q with q; rw[q] at h; exact absurd h yG
      · exact nf76 l _
def m76 (a0:K_T):Int:=
  if(!(m41 a0.f0 0 65535))=true then 3 else
  if(decide (((length (map b_N a0.f1)):Int) > 4))=true then 2 else
    if(!(m41 ((length (map b_U a0.f2)):Int) 1 4))=true then 2 else
      (match r76_0 a0 a0.f1 0 with | .k0 w0_10 w1_10=>(match r76_1 a0 a0.f2 0 with | .k0 w0_11 w1_11=>(if(!(m41 (m105 a0.f2) 0 1000000))=true then 7 else 0) | .k1=>3 | .k2 w0_11=>w0_11) | .k1 w0_10=>w0_10)
theorem e76 {l0_1:Nat} {l0_2:Nat} {a0:K_T} (hy0:length a0.f1*40≤140737488351232) (hy1:∀z∈a0.f1,ok_N z) (hy2:length a0.f2*32≤140737488351232) (hy3:∀z∈a0.f2,ok_U z):Ev F X (.call 76 [(.agg (k_T l0_1 l0_2 a0))] [] [] [(.one (.val (.int .i64 (m76 a0))))]):=by
  unfold m76
  have P0 {hs q} (r:PS F X hs q):=(PS.r 9 [] [] (e41 (a0:=a0.f0) (a1:=0) (a2:=65535)) r)
  by_cases h0:(!(m41 a0.f0 0 65535))=true
  · try simp only[if_pos h0]
    exact cp ya (P0 (.f h0 (.h 14 (.b true) .nil)))
  · try simp only[if_neg h0]
    have P1 {hs q} (r:PS F X hs q):=(P0 (.f (nt h0) (.h 14 (.b false) r)))
    by_cases h1:(decide (((length (map b_N a0.f1)):Int) > 4))=true
    · try simp only[if_pos h1]
      exact cp ya (P1 (.f h1 (.f h1 (.f h1 (.f h1 (.f h1 (.f h1 (.h 25 (.b true) (.h 27 (.b true) (.h 29 (.b true) (.h 31 (.b true) (.h 33 (.b true) (.h 36 (.b true) .nil)))))))))))))
    · try simp only[if_neg h1]
      have P2 {hs q} (r:PS F X hs q):=(P1 (.f (nt h1) (.f (nt h1) (.f (nt h1) (.f (nt h1) (.h 25 (.b false) (.h 27 (.b false) (.h 29 (.b false) (.h 31 (.b false) (.r 32 [] [] (e41 (a0:=((length (map b_U a0.f2)):Int)) (a1:=1) (a2:=4)) (.f (nt h1) (.f (nt h1) (.h 33 (.b false) (.h 36 (.b false) r))))))))))))))
      by_cases h2:(!(m41 ((length (map b_U a0.f2)):Int) 1 4))=true
      · try simp only[if_pos h2]
        exact cp ya (P2 (.f h2 (.h 39 (.b true) .nil)))
      · try simp only[if_neg h2]
        have P3 {hs q} (r:PS F X hs q):=(P2 (.f (nt h2) (.h 39 (.b false) r)))
        cases h3:r76_0 a0 a0.f1 0 with
        |k0 w0_10 w1_10=>
          try dsimp only
          have f10:=Eq.refl (h76_0 l0_1 l0_2 a0 0 )
          have P4 {hs q} (r:PS F X hs q):=(P3 (.f f10 (.f (ev_ (e:=ex76_0) (g:=(fin76_0 l0_1 l0_2 a0)) h3 (t76_0 (l0_1:=l0_1) (l0_2:=l0_2) (a0:=a0) (by assumption) (by assumption) (by assumption) (by assumption) a0.f1 []  rfl)) (.h 48 (.loop (h76_0 l0_1 l0_2 a0 0) (.exit 1) (fin76_0 l0_1 l0_2 a0 (.k0 w0_10 w1_10))) r))))
          cases h4:r76_1 a0 a0.f2 0 with
          |k0 w0_11 w1_11=>
            try dsimp only
            have f12:=Eq.refl (h76_1 l0_1 l0_2 a0 0 )
            have P5 {hs q} (r:PS F X hs q):=(P4 (.f f12 (.f (ev_ (e:=ex76_1) (g:=(fin76_1 l0_1 l0_2 a0)) h4 (t76_1 (l0_1:=l0_1) (l0_2:=l0_2) (a0:=a0) (by assumption) (by assumption) (by assumption) (by assumption) a0.f2 []  rfl)) (.h 57 (.loop (h76_1 l0_1 l0_2 a0 0) (.exit 3) (fin76_1 l0_1 l0_2 a0 (.k0 w0_11 w1_11))) (.r 63 [] [] (e105 (l0_0:=(l0_2+1)) (a0:=a0.f2) ‹_› ‹_›) (.r 65 [] [] (e103 (a0:=(m105 a0.f2))) r))))))
            by_cases h5:(!(m41 (m105 a0.f2) 0 1000000))=true
            · try simp only[if_pos h5]
              exact cp ya (P5 (.f h5 (.h 68 (.b true) .nil)))
            · try simp only[if_neg h5]
              exact cp ya (P5 (.f (nt h5) (.h 68 (.b false) .nil)))
          |k1=>
            try dsimp only
            have f12:=Eq.refl (h76_1 l0_1 l0_2 a0 0 )
            exact cp ya (P4 (.f f12 (.f (ev_ (e:=ex76_1) (g:=(fin76_1 l0_1 l0_2 a0)) h4 (t76_1 (l0_1:=l0_1) (l0_2:=l0_2) (a0:=a0) (by assumption) (by assumption) (by assumption) (by assumption) a0.f2 []  rfl)) (.h 57 (.loop (h76_1 l0_1 l0_2 a0 0) .ret (fin76_1 l0_1 l0_2 a0 (.k1))) .nil))))
          |k2 w0_11=>
            try dsimp only
            have f12:=Eq.refl (h76_1 l0_1 l0_2 a0 0 )
            exact cp ya (P4 (.f f12 (.f (ev_ (e:=ex76_1) (g:=(fin76_1 l0_1 l0_2 a0)) h4 (t76_1 (l0_1:=l0_1) (l0_2:=l0_2) (a0:=a0) (by assumption) (by assumption) (by assumption) (by assumption) a0.f2 []  rfl)) (.h 57 (.loop (h76_1 l0_1 l0_2 a0 0) .ret (fin76_1 l0_1 l0_2 a0 (.k2 w0_11))) .nil))))
        |k1 w0_10=>
          try dsimp only
          have f10:=Eq.refl (h76_0 l0_1 l0_2 a0 0 )
          exact cp ya (P3 (.f f10 (.f (ev_ (e:=ex76_0) (g:=(fin76_0 l0_1 l0_2 a0)) h3 (t76_0 (l0_1:=l0_1) (l0_2:=l0_2) (a0:=a0) (by assumption) (by assumption) (by assumption) (by assumption) a0.f1 []  rfl)) (.h 48 (.loop (h76_0 l0_1 l0_2 a0 0) .ret (fin76_0 l0_1 l0_2 a0 (.k1 w0_10))) .nil))))
theorem ft76 {a:K_T} (h:m76 a=0):SmT a:=by
  unfold m76 at h
  split at h
  · exact absurd h yG
  · split at h
    · exact absurd h yG
    · split at h
      · exact absurd h yG
      · rename_i c1 c2 c3
        simp only[decide_eq_true_eq,length_map] at c2
        have c4:length a.f2≤4:=by
          unfold m41 at c3
          simp only[length_map] at c3
          split at c3
          · by_cases e:(a.f2.length:Int)≤4
            · omega
            · simp[e] at c3
          · simp at c3
        cases hr:r76_0 a a.f1 0 with
        |k1 w=>rw[hr] at h; simp only[] at h; subst h; exact absurd hr (ne76 _ _)
        |k0 j b=>
          rw[hr] at h; simp only[] at h
          refine⟨by omega,lf76 hr,c4,?_⟩
          cases ho:r76_1 a a.f2 0 with
          |k0 j b=>exact fun x hx=>lk104 (lo76 ho x hx)
          |k1=>rw[ho] at h; simp only[] at h; exact absurd h yG
          |k2 w=>rw[ho] at h; simp only[] at h; subst h; exact absurd ho (nf76 _ _)
theorem e77 {l0_1:Nat} {l0_2:Nat} {a0:K_T}:Ev F X (.call 77 [(.agg (k_T l0_1 l0_2 a0))] [] [] [(.one (.val (.bool (((length (map b_N a0.f1)):Int)==0))))]):=by
  exact cp ya .nil
theorem e159 {a0:Int}:Ev F X (.call 159 [(.one (.val (.int .i64 a0)))] [] [] [(.one (.val (.bool (!(m41 a0 0 2147483646)))))]):=by
  exact cp ya (.r 5 [] [] (e74 (a0:=a0)) .nil)
inductive O1015702_0 where
  |k0 (w0:Int) (w1:Bool)
  |k1 (w0:Int)
def r1015702_0 (a0:(List Int)):List Int→Int→O1015702_0
  |x0::y0,i=>
    if(!(m41 x0 0 2147483646))=true then(O1015702_0.k1 i) else
    (r1015702_0 a0 y0 (i+1))
  |[],i=>(O1015702_0.k0 i (decide (i <((length (map b_i a0)):Int))))
def h1015702_0 (l0_0:Nat) (a0:(List Int)) (i:Int) :St:=⟨[(0,(.one (.bor l0_0 (map b_i a0)))),(1,(.clo 159 [] [])),(7,(.one (.val (.int .i64 ((length (map b_i a0)):Int))))),(8,(.one (.val (.int .i64 i))))],[]⟩
def ex1015702_0:O1015702_0→VX.Exit
  |.k0 _ _=>(.exit 0)
  |.k1 _=>.ret
def fin1015702_0 (l0_0:Nat) (a0:(List Int)):O1015702_0→St
  |.k0 w0 w1=>⟨[(0,(.one (.bor l0_0 (map b_i a0)))),(1,(.clo 159 [] [])),(7,(.one (.val (.int .i64 ((length (map b_i a0)):Int))))),(8,(.one (.val (.int .i64 w0)))),(9,(.one (.val (.bool w1))))],[]⟩
  |.k1 w0=>⟨[(4,(.one (.val (.int .i64 w0))))],[]⟩
theorem t1015702_0 {l0_0:Nat} {a0:(List Int)} (hy0:length a0*8≤140737488351232):∀(y0:List Int) (p:List Int),p++y0=a0→Ev F X (.code l157_0 (h1015702_0 l0_0 a0 (length p:Int)) (ex1015702_0 (r1015702_0 a0 y0 (length p:Int))) (fin1015702_0 l0_0 a0 (r1015702_0 a0 y0 (length p:Int))))
  |[],p,hp0=>by
    have hc:=hcn b_i hp0
    exact lx 3 ya (.f (nt hc) (.h 2 (.b false) .nil)) rfl
  |x0::y0,p,hp0=>by
    have hc:=hcy b_i hp0
    have Hx0:=hxy hp0
    have hlen:=hly hp0
    have hw:wrap .i64 ((length p:Int)+1)=(length p:Int)+1:=wrap64 yb
    simp only[r1015702_0]
    have f1:0≤(length p:Int):=yb
    have P1 {hs q} (r:PS F X hs q):=(PS.f hc (.f f1 (.f (mp_ b_i Hx0) (.h 2 (.b true) (.h 14 (.row [(.i x0)]) (.r 18 [] [] (e159 (a0:=x0)) r))))))
    by_cases h_1:(!(m41 x0 0 2147483646))=true
    · try simp only[if_pos h_1]
      exact lx 24 ya (P1 (.f h_1 (.h 19 (.b true) .nil))) rfl
    · try simp only[if_neg h_1]
      have ih:=t1015702_0 (l0_0:=l0_0) (a0:=a0) hy0 y0 (p++ [x0]) yd
      rw[pl1,← hw] at ih; rw[← hw]
      exact ly 24 ya (P1 (.f (nt h_1) (.f trivial (.h 19 (.b false) .nil)))) ih
def m1015702 (a0:(List Int)):Int:=
  (match r1015702_0 a0 a0 0 with | .k0 w0_0 w1_0=>(-1) | .k1 w0_0=>w0_0)
theorem e1015702 {l0_0:Nat} {a0:(List Int)} (hy0:length a0*8≤140737488351232):Ev F X (.call 157 [(.one (.bor l0_0 (map b_i a0))),(.clo 159 [] [])] [] [] [(.one (.val (.int .i64 (m1015702 a0))))]):=by
  unfold m1015702
  cases h0:r1015702_0 a0 a0 0 with
  |k0 w0_0 w1_0=>
    try dsimp only
    have f0:=Eq.refl (h1015702_0 l0_0 a0 0 )
    exact cp ya (.f f0 (.f (ev_ (e:=ex1015702_0) (g:=(fin1015702_0 l0_0 a0)) h0 (t1015702_0 (l0_0:=l0_0) (a0:=a0) (by assumption) a0 []  rfl)) (.h 8 (.loop (h1015702_0 l0_0 a0 0) (.exit 0) (fin1015702_0 l0_0 a0 (.k0 w0_0 w1_0))) .nil)))
  |k1 w0_0=>
    try dsimp only
    have f0:=Eq.refl (h1015702_0 l0_0 a0 0 )
    exact cp ya (.f f0 (.f (ev_ (e:=ex1015702_0) (g:=(fin1015702_0 l0_0 a0)) h0 (t1015702_0 (l0_0:=l0_0) (a0:=a0) (by assumption) a0 []  rfl)) (.h 8 (.loop (h1015702_0 l0_0 a0 0) .ret (fin1015702_0 l0_0 a0 (.k1 w0_0))) .nil)))
theorem e1013302 {l0_0:Nat} {a0:(List Int)} (hy0:length a0*8≤140737488351232):Ev F X (.call 133 [(.one (.bor l0_0 (map b_i a0))),(.clo 159 [] [])] [] [] [(.one (.val (.bool (decide ((m1015702 a0)≥0)))))]):=by
  exact cp ya (.r 7 [] [] (e1015702 (l0_0:=(l0_0+1)) (a0:=a0) ‹_›) .nil)
def m138 (a0:(List Int)):Int:=
  if(decide ((m1015702 a0)≥0))=true then 3 else
  0
theorem e138 {l0_0:Nat} {a0:(List Int)} (hy0:length a0*8≤140737488351232):Ev F X (.call 138 [(.one (.bor l0_0 (map b_i a0)))] [] [] [(.one (.val (.int .i64 (m138 a0))))]):=by
  unfold m138
  have P0 {hs q} (r:PS F X hs q):=(PS.r 5 [] [] (e1013302 (l0_0:=(l0_0+1)) (a0:=a0) ‹_›) r)
  by_cases h0:(decide ((m1015702 a0)≥0))=true
  · try simp only[if_pos h0]
    exact cp ya (P0 (.f h0 (.h 6 (.b true) .nil)))
  · try simp only[if_neg h0]
    exact cp ya (P0 (.f (nt h0) (.h 6 (.b false) .nil)))
def m106 (a0:(List Int)):Int:=
  if(!(m41 ((length (map b_i a0)):Int) 1 8))=true then 2 else
  (m138 a0)
theorem e106 {l0_0:Nat} {a0:(List Int)} (hy0:length a0*8≤140737488351232):Ev F X (.call 106 [(.one (.bor l0_0 (map b_i a0)))] [] [] [(.one (.val (.int .i64 (m106 a0))))]):=by
  unfold m106
  have P0 {hs q} (r:PS F X hs q):=(PS.r 7 [] [] (e41 (a0:=((length (map b_i a0)):Int)) (a1:=1) (a2:=8)) r)
  by_cases h0:(!(m41 ((length (map b_i a0)):Int) 1 8))=true
  · try simp only[if_pos h0]
    exact cp ya (P0 (.f h0 (.h 10 (.b true) .nil)))
  · try simp only[if_neg h0]
    exact cp ya (P0 (.f (nt h0) (.h 10 (.b false) (.r 14 [] [] (e138 (l0_0:=(l0_0+1)) (a0:=a0) ‹_›) .nil))))
inductive O140_0 where
  |k0 (w0:Int) (w1:Int) (w2:Bool)
def r140_0 (a0:(List Int)):List Int→Int→Int→O140_0
  |x0::y0,i,v0=>
    (r140_0 a0 y0 (i+1) (Int.tmod (wrap .i64 ((wrap .i64 ((wrap .i64 (33*v0))+(wrap .i64 (x0))))+1)) 2147483647))
  |[],i,v0=>(O140_0.k0 v0 i (decide (i <((length (map b_y a0)):Int))))
def h140_0 (l0_0:Nat) (a0:(List Int)) (i:Int) (v0:Int):St:=⟨[(3,(.one (.val (.int .i64 v0)))),(6,(.one (.bor l0_0 (map b_y a0)))),(7,(.one (.val (.int .i64 ((length (map b_y a0)):Int))))),(8,(.one (.val (.int .i64 i))))],[]⟩
def ex140_0:O140_0→VX.Exit
  |.k0 _ _ _=>(.exit 0)
def fin140_0 (l0_0:Nat) (a0:(List Int)):O140_0→St
  |.k0 w0 w1 w2=>⟨[(3,(.one (.val (.int .i64 w0)))),(6,(.one (.bor l0_0 (map b_y a0)))),(7,(.one (.val (.int .i64 ((length (map b_y a0)):Int))))),(8,(.one (.val (.int .i64 w1)))),(9,(.one (.val (.bool w2))))],[]⟩
theorem t140_0 {l0_0:Nat} {a0:(List Int)} (hy0:length a0*1≤140737488351232):∀(y0:List Int) (p:List Int) (v0:Int),p++y0=a0→Ev F X (.code l140_0 (h140_0 l0_0 a0 (length p:Int) v0) (ex140_0 (r140_0 a0 y0 (length p:Int) v0)) (fin140_0 l0_0 a0 (r140_0 a0 y0 (length p:Int) v0)))
  |[],p,v0,hp0=>by
    have hc:=hcn b_y hp0
    exact lx 3 ya (.f (nt hc) (.h 2 (.b false) .nil)) rfl
  |x0::y0,p,v0,hp0=>by
    have hc:=hcy b_y hp0
    have Hx0:=hxy hp0
    have hlen:=hly hp0
    have hw:wrap .i64 ((length p:Int)+1)=(length p:Int)+1:=wrap64 yb
    simp only[r140_0]
    have f1:0≤(length p:Int):=yb
    have f5:(2147483647:Int)≠0:=yb
    have ih:=t140_0 (l0_0:=l0_0) (a0:=a0) hy0 y0 (p++ [x0]) (Int.tmod (wrap .i64 ((wrap .i64 ((wrap .i64 (33*v0))+(wrap .i64 (x0))))+1)) 2147483647) yd
    rw[pl1,← hw] at ih; rw[← hw]
    exact ly 29 ya (.f hc (.f f1 (.f (mp_ b_y Hx0) (.f trivial (.f trivial (.f f5 (.f trivial (.h 2 (.b true) (.h 4 (.row [(.val (.int .u8 x0))]) .nil))))))))) ih
def m140 (a0:(List Int)):Int:=
  (match r140_0 a0 a0 0 5381 with | .k0 w0_0 w1_0 w2_0=>w0_0)
theorem e140 {l0_0:Nat} {a0:(List Int)} (hy0:length a0*1≤140737488351232):Ev F X (.call 140 [(.one (.bor l0_0 (map b_y a0)))] [] [] [(.one (.val (.int .i64 (m140 a0))))]):=by
  unfold m140
  cases h0:r140_0 a0 a0 0 5381 with
  |k0 w0_0 w1_0 w2_0=>
    try dsimp only
    have f0:=Eq.refl (h140_0 l0_0 a0 0 5381)
    exact cp ya (.f f0 (.f (ev_ (e:=ex140_0) (g:=(fin140_0 l0_0 a0)) h0 (t140_0 (l0_0:=l0_0) (a0:=a0) (by assumption) a0 [] 5381 rfl)) (.h 10 (.loop (h140_0 l0_0 a0 0 5381) (.exit 0) (fin140_0 l0_0 a0 (.k0 w0_0 w1_0 w2_0))) .nil)))
end Go.Proofs.YtmdocdnidilaiaaGreat.CheckShare
