/- What the functions compute. -/
import Derived.Test.YtihjlmgakpgkeaaDoorERipenRewardB
import Derived.KernelRfl
namespace Go.Proofs.YtihjlmgakpgkeaaDoor.RipenReward
open Go Go.Proofs.YtihjlmgakpgkeaaDoor.V
set_option linter.unusedVariables false
set_option linter.unusedSimpArgs false
set_option maxRecDepth 20000
open List (length_replicate length_map length_set length_append length_cons length_nil length_take length_drop take_of_length_le map_take map_drop map_set append_assoc getElem?_map map length take drop getD set)
attribute [local simp] toBR_si fullR_si pureR_si lenB_si lenD_si fromBR_si copy_si toBR_R fullR_R pureR_R lenB_R lenD_R toBR_B fullR_B pureR_B lenB_B lenD_B toBR_i fullR_i pureR_i lenB_i lenD_i fromBR_i copy_i toBR_b fullR_b pureR_b lenB_b lenD_b fromBR_b copy_b toBR_C fullR_C pureR_C lenB_C lenD_C toBR_LsiE fullR_LsiE pureR_LsiE lenB_LsiE lenD_LsiE toBR_s fullR_s pureR_s lenB_s lenD_s fromBR_s copy_s toBR_Q fullR_Q pureR_Q lenB_Q lenD_Q strInts_len byteRows_len toBR_y fullR_y pureR_y lenB_y lenD_y fromBR_y copy_y
/-! loop.example/g00539/impl.rewardFault -/
def m56 (a0:K_R) (a1:(List K_R)):Int:=
  if(!(m45 a0.f0 0 2147483646))=true then 3 else
  if(!(m45 a0.f1 0 1000000))=true then 3 else
    if(!(m45 a0.f2 0 1000000))=true then 3 else
      if(!(m45 a0.f4 1 3))=true then 3 else
        if(!(m57 a0.f3 12))=true then 1 else
          if((IntKind.wrap .i64 ((m58 a0.f3)+a0.f2)) !=a0.f1)=true then 1 else
            if(decide ((m1012800 a1 a0.f0)≥0))=true then 6 else
              0
theorem e56 {l0_3:Nat} {a0:K_R} {l1_0:Nat} {a1:(List K_R)} (hy0:length a0.f3*24≤140737488351232) (hy1:length a1*56≤140737488351232) (hy2:∀z∈a1,ok_R z):Ev F X (.call 56 [(.agg [(.val (.int .i64 a0.f0)),(.val (.int .i64 a0.f1)),(.val (.int .i64 a0.f2)),(.bor l0_3 (map b_si a0.f3)),(.val (.int .i64 a0.f4))]),(.one (.bor l1_0 (map b_R a1)))] [] [] [(.one (.val (.int .i64 (m56 a0 a1))))]):=by
  unfold m56
  have f0:Ev F X (.call 72 [(.oi a0.f0)] [] [] [(.one (.val (.bool (m45 a0.f0 0 2147483646))))]):=(e72 (a0:=a0.f0))
  by_cases h0:(!(m45 a0.f0 0 2147483646))=true
  · try simp only[if_pos h0]
    exact callP_ok (ps:=[]) (os:=[]) (rs:=[(.oi 3)]) (by kernel_rfl) (.r 9 [] [] f0 (.f h0 (.f h0 (.f h0 (.f h0 (.f h0 (.h 14 (.b true) (.h 16 (.b true) (.h 18 (.b true) (.h 20 (.b true) (.h 23 (.b true) .nil)))))))))))
  · try simp only[if_neg h0]
    have f4:Ev F X (.call 46 [(.oi a0.f1)] [] [] [(.one (.val (.bool (m45 a0.f1 0 1000000))))]):=(e46 (a0:=a0.f1))
    by_cases h1:(!(m45 a0.f1 0 1000000))=true
    · try simp only[if_pos h1]
      exact callP_ok (ps:=[]) (os:=[]) (rs:=[(.oi 3)]) (by kernel_rfl) (.r 9 [] [] f0 (.f (nt h0) (.f (nt h0) (.f (nt h0) (.h 14 (.b false) (.h 16 (.b false) (.h 18 (.b false) (.r 19 [] [] f4 (.f (nt h0) (.f (nt h0) (.f h1 (.f h1 (.f h1 (.f h1 (.f h1 (.h 20 (.b false) (.h 23 (.b false) (.h 26 (.b true) (.h 28 (.b true) (.h 30 (.b true) (.h 32 (.b true) (.h 35 (.b true) .nil))))))))))))))))))))))
    · try simp only[if_neg h1]
      have f10:Ev F X (.call 46 [(.oi a0.f2)] [] [] [(.one (.val (.bool (m45 a0.f2 0 1000000))))]):=(e46 (a0:=a0.f2))
      by_cases h2:(!(m45 a0.f2 0 1000000))=true
      · try simp only[if_pos h2]
        exact callP_ok (ps:=[]) (os:=[]) (rs:=[(.oi 3)]) (by kernel_rfl) (.r 9 [] [] f0 (.f (nt h0) (.f (nt h0) (.f (nt h0) (.h 14 (.b false) (.h 16 (.b false) (.h 18 (.b false) (.r 19 [] [] f4 (.f (nt h0) (.f (nt h0) (.f (nt h1) (.f (nt h1) (.f (nt h1) (.h 20 (.b false) (.h 23 (.b false) (.h 26 (.b false) (.h 28 (.b false) (.h 30 (.b false) (.r 31 [] [] f10 (.f (nt h1) (.f (nt h1) (.f h2 (.f h2 (.f h2 (.f h2 (.f h2 (.h 32 (.b false) (.h 35 (.b false) (.h 38 (.b true) (.h 40 (.b true) (.h 42 (.b true) (.h 44 (.b true) (.h 47 (.b true) .nil)))))))))))))))))))))))))))))))))
      · try simp only[if_neg h2]
        have f16:Ev F X (.call 45 [(.oi a0.f4),(.oi 1),(.oi 3)] [] [] [(.one (.val (.bool (m45 a0.f4 1 3))))]):=(e45 (a0:=a0.f4) (a1:=1) (a2:=3))
        by_cases h3:(!(m45 a0.f4 1 3))=true
        · try simp only[if_pos h3]
          exact callP_ok (ps:=[]) (os:=[]) (rs:=[(.oi 3)]) (by kernel_rfl) (.r 9 [] [] f0 (.f (nt h0) (.f (nt h0) (.f (nt h0) (.h 14 (.b false) (.h 16 (.b false) (.h 18 (.b false) (.r 19 [] [] f4 (.f (nt h0) (.f (nt h0) (.f (nt h1) (.f (nt h1) (.f (nt h1) (.h 20 (.b false) (.h 23 (.b false) (.h 26 (.b false) (.h 28 (.b false) (.h 30 (.b false) (.r 31 [] [] f10 (.f (nt h1) (.f (nt h1) (.f (nt h2) (.f (nt h2) (.f (nt h2) (.h 32 (.b false) (.h 35 (.b false) (.h 38 (.b false) (.h 40 (.b false) (.h 42 (.b false) (.r 43 [] [] f16 (.f (nt h2) (.f (nt h2) (.f h3 (.h 44 (.b false) (.h 47 (.b false) (.h 50 (.b true) .nil))))))))))))))))))))))))))))))))))))
        · try simp only[if_neg h3]
          have f20:Ev F X (.call 57 [(.one (.bor (l0_3+1) (map b_si a0.f3))),(.oi 12)] [] [] [(.one (.val (.bool (m57 a0.f3 12))))]):=(e57 (a0:=a0.f3) (a1:=12) (by with_reducible assumption))
          by_cases h4:(!(m57 a0.f3 12))=true
          · try simp only[if_pos h4]
            exact callP_ok (ps:=[]) (os:=[]) (rs:=[(.oi 1)]) (by kernel_rfl) (.r 9 [] [] f0 (.f (nt h0) (.f (nt h0) (.f (nt h0) (.h 14 (.b false) (.h 16 (.b false) (.h 18 (.b false) (.r 19 [] [] f4 (.f (nt h0) (.f (nt h0) (.f (nt h1) (.f (nt h1) (.f (nt h1) (.h 20 (.b false) (.h 23 (.b false) (.h 26 (.b false) (.h 28 (.b false) (.h 30 (.b false) (.r 31 [] [] f10 (.f (nt h1) (.f (nt h1) (.f (nt h2) (.f (nt h2) (.f (nt h2) (.h 32 (.b false) (.h 35 (.b false) (.h 38 (.b false) (.h 40 (.b false) (.h 42 (.b false) (.r 43 [] [] f16 (.f (nt h2) (.f (nt h2) (.f (nt h3) (.h 44 (.b false) (.h 47 (.b false) (.h 50 (.b false) (.r 56 [] [] f20 (.f h4 (.f h4 (.f h4 (.f h4 (.f h4 (.f h4 (.f h4 (.f h4 (.f h4 (.f h4 (.h 61 (.b true) (.h 63 (.b true) (.h 65 (.b true) (.h 67 (.b true) (.h 69 (.b true) (.h 71 (.b true) (.h 73 (.b true) (.h 75 (.b true) (.h 77 (.b true) (.h 80 (.b true) .nil)))))))))))))))))))))))))))))))))))))))))))))))))))))))))
          · try simp only[if_neg h4]
            have f24:Ev F X (.call 58 [(.one (.bor (l0_3+1) (map b_si a0.f3)))] [] [] [(.oi (m58 a0.f3))]):=(e58 (a0:=a0.f3) (by with_reducible assumption))
            by_cases h5:((IntKind.wrap .i64 ((m58 a0.f3)+a0.f2)) !=a0.f1)=true
            · try simp only[if_pos h5]
              exact callP_ok (ps:=[]) (os:=[]) (rs:=[(.oi 1)]) (by kernel_rfl) (.r 9 [] [] f0 (.f (nt h0) (.f (nt h0) (.f (nt h0) (.h 14 (.b false) (.h 16 (.b false) (.h 18 (.b false) (.r 19 [] [] f4 (.f (nt h0) (.f (nt h0) (.f (nt h1) (.f (nt h1) (.f (nt h1) (.h 20 (.b false) (.h 23 (.b false) (.h 26 (.b false) (.h 28 (.b false) (.h 30 (.b false) (.r 31 [] [] f10 (.f (nt h1) (.f (nt h1) (.f (nt h2) (.f (nt h2) (.f (nt h2) (.h 32 (.b false) (.h 35 (.b false) (.h 38 (.b false) (.h 40 (.b false) (.h 42 (.b false) (.r 43 [] [] f16 (.f (nt h2) (.f (nt h2) (.f (nt h3) (.h 44 (.b false) (.h 47 (.b false) (.h 50 (.b false) (.r 56 [] [] f20 (.f (nt h4) (.f (nt h4) (.f (nt h4) (.h 61 (.b false) (.h 63 (.b false) (.h 65 (.b false) (.r 66 [] [] f24 (.f (nt h4) (.f (nt h4) (.f (nt h4) (.f trivial (.f (nt h4) (.f (nt h4) (.f (nt h4) (.f (nt h4) (.f h5 (.h 67 (.b false) (.h 69 (.b false) (.h 71 (.b false) (.h 73 (.b false) (.h 75 (.b false) (.h 77 (.b false) (.h 80 (.b false) (.h 83 (.b true) .nil)))))))))))))))))))))))))))))))))))))))))))))))))))))))))))))
            · try simp only[if_neg h5]
              have f34:Ev F X (.call 82 [(.one (.bor (l1_0+1) (map b_R a1))),(.oi a0.f0)] [] [] [(.oi (m1012800 a1 a0.f0))]):=(e82 (a0:=a1) (a1:=a0.f0) (by with_reducible assumption) (by with_reducible assumption))
              by_cases h6:(decide ((m1012800 a1 a0.f0)≥0))=true
              · try simp only[if_pos h6]
                exact callP_ok (ps:=[]) (os:=[]) (rs:=[(.oi 6)]) (by kernel_rfl) (.r 9 [] [] f0 (.f (nt h0) (.f (nt h0) (.f (nt h0) (.h 14 (.b false) (.h 16 (.b false) (.h 18 (.b false) (.r 19 [] [] f4 (.f (nt h0) (.f (nt h0) (.f (nt h1) (.f (nt h1) (.f (nt h1) (.h 20 (.b false) (.h 23 (.b false) (.h 26 (.b false) (.h 28 (.b false) (.h 30 (.b false) (.r 31 [] [] f10 (.f (nt h1) (.f (nt h1) (.f (nt h2) (.f (nt h2) (.f (nt h2) (.h 32 (.b false) (.h 35 (.b false) (.h 38 (.b false) (.h 40 (.b false) (.h 42 (.b false) (.r 43 [] [] f16 (.f (nt h2) (.f (nt h2) (.f (nt h3) (.h 44 (.b false) (.h 47 (.b false) (.h 50 (.b false) (.r 56 [] [] f20 (.f (nt h4) (.f (nt h4) (.f (nt h4) (.h 61 (.b false) (.h 63 (.b false) (.h 65 (.b false) (.r 66 [] [] f24 (.f (nt h4) (.f (nt h4) (.f (nt h4) (.f trivial (.f (nt h4) (.f (nt h4) (.f (nt h4) (.f (nt h4) (.f (nt h5) (.h 67 (.b false) (.h 69 (.b false) (.h 71 (.b false) (.h 73 (.b false) (.h 75 (.b false) (.h 77 (.b false) (.h 80 (.b false) (.h 83 (.b false) (.r 91 [] [] f34 (.f h6 (.h 96 (.b true) .nil))))))))))))))))))))))))))))))))))))))))))))))))))))))))))))))))
              · try simp only[if_neg h6]
                exact callP_ok (ps:=[]) (os:=[]) (rs:=[(.oi 0)]) (by kernel_rfl) (.r 9 [] [] f0 (.f (nt h0) (.f (nt h0) (.f (nt h0) (.h 14 (.b false) (.h 16 (.b false) (.h 18 (.b false) (.r 19 [] [] f4 (.f (nt h0) (.f (nt h0) (.f (nt h1) (.f (nt h1) (.f (nt h1) (.h 20 (.b false) (.h 23 (.b false) (.h 26 (.b false) (.h 28 (.b false) (.h 30 (.b false) (.r 31 [] [] f10 (.f (nt h1) (.f (nt h1) (.f (nt h2) (.f (nt h2) (.f (nt h2) (.h 32 (.b false) (.h 35 (.b false) (.h 38 (.b false) (.h 40 (.b false) (.h 42 (.b false) (.r 43 [] [] f16 (.f (nt h2) (.f (nt h2) (.f (nt h3) (.h 44 (.b false) (.h 47 (.b false) (.h 50 (.b false) (.r 56 [] [] f20 (.f (nt h4) (.f (nt h4) (.f (nt h4) (.h 61 (.b false) (.h 63 (.b false) (.h 65 (.b false) (.r 66 [] [] f24 (.f (nt h4) (.f (nt h4) (.f (nt h4) (.f trivial (.f (nt h4) (.f (nt h4) (.f (nt h4) (.f (nt h4) (.f (nt h5) (.h 67 (.b false) (.h 69 (.b false) (.h 71 (.b false) (.h 73 (.b false) (.h 75 (.b false) (.h 77 (.b false) (.h 80 (.b false) (.h 83 (.b false) (.r 91 [] [] f34 (.f (nt h6) (.h 96 (.b false) .nil))))))))))))))))))))))))))))))))))))))))))))))))))))))))))))))))
/-! loop 59_0 -/
inductive O59_0 where
  |k0 (w0:Int) (w1:Int) (w2:Bool)
def r59_0 (a0:(List K_R)) (a1:Int):List K_R→Int→Int→O59_0
  |x0::y0,i,v1=>
    if(a1==0)=true then(r59_0 a0 a1 y0 (i+1) (IntKind.wrap .i64 (v1+x0.f1))) else
    if(x0.f4==a1)=true then(r59_0 a0 a1 y0 (i+1) (IntKind.wrap .i64 (v1+x0.f1))) else
      (r59_0 a0 a1 y0 (i+1) v1)
  |[],i,v1=>(O59_0.k0 v1 i (decide (i <((length (map b_R a0)):Int))))
def h59_0 (l0_0:Nat) (a0:(List K_R)) (a1:Int) (i:Int) (v1:Int):St:=⟨[(1,(.one (.val (.int .i64 a1)))),(5,(.one (.val (.int .i64 v1)))),(8,(.one (.bor l0_0 (map b_R a0)))),(9,(.one (.val (.int .i64 ((length (map b_R a0)):Int))))),(10,(.one (.val (.int .i64 i))))],[]⟩
def ex59_0:O59_0→VX.Exit
  |.k0 _ _ _=>(.exit 0)
def fin59_0 (l0_0:Nat) (a0:(List K_R)) (a1:Int):O59_0→St
  |.k0 w0 w1 w2=>⟨[(1,(.one (.val (.int .i64 a1)))),(5,(.one (.val (.int .i64 w0)))),(8,(.one (.bor l0_0 (map b_R a0)))),(9,(.one (.val (.int .i64 ((length (map b_R a0)):Int))))),(10,(.one (.val (.int .i64 w1)))),(11,(.one (.val (.bool w2))))],[]⟩
theorem t59_0 {l0_0:Nat} {a0:(List K_R)} {a1:Int} (hy0:length a0*56≤140737488351232) (hy1:∀z∈a0,ok_R z):∀(y0:List K_R) (p:List K_R) (v1:Int),p++y0=a0→Ev F X (.code l59_0 (h59_0 l0_0 a0 a1 (length p:Int) v1) (ex59_0 (r59_0 a0 a1 y0 (length p:Int) v1)) (fin59_0 l0_0 a0 a1 (r59_0 a0 a1 y0 (length p:Int) v1)))
  |[],p,v1,hp0=>by
    have hc:¬(decide ((length p:Int) <((length (map b_R a0)):Int)))=true:=by
      rw[← hp0]; simp only[length_map,length_set,length_append,length_replicate,length_cons,length_nil,decide_eq_true_eq]; omega
    have st:=codeH_ok (F:=F) (X:=X) (c:=b59_0) (t:=0) (hs:=[(2,.b false)]) (σ:=h59_0 l0_0 a0 a1 (length p:Int) v1) (σ':=fin59_0 l0_0 a0 a1 (.k0 v1 (length p:Int) (decide ((length p:Int) <((length (map b_R a0)):Int))))) (e:=(.exit 0)) (t':=3) (hs':=[]) (q:=[(decide ((length p:Int) <((length (map b_R a0)):Int)))=false]) (by kernel_rfl) ⟨(nt hc),trivial⟩
    exact .loopX st (show ((.exit 0):VX.Exit)≠.normal from by simp)
  |x0::y0,p,v1,hp0=>by
    have hc:(decide ((length p:Int) <((length (map b_R a0)):Int)))=true:=by
      rw[← hp0]; simp only[length_map,length_set,length_append,length_replicate,length_cons,length_nil,decide_eq_true_eq]; omega
    have Hx0:(a0)[Int.toNat (length p:Int)]?=some x0:=by
      rw[← hp0,Int.toNat_natCast]; simp
    have Mx0_0:=hy1 x0 (List.mem_of_getElem? Hx0)
    have hlen:length (a0)=length p+length y0+1:=by rw[← hp0]; simp; omega
    have hw:IntKind.wrap .i64 ((length p:Int)+1)=(length p:Int)+1:=wrap64 (by omega)
    simp only[r59_0]
    by_cases h_1:(a1==0)=true
    · try simp only[if_pos h_1]
      have st:=codeH_ok (F:=F) (X:=X) (c:=b59_0) (t:=0) (hs:=[(2,.b true),(4,.row [(.i x0.f0),(.i x0.f1),(.i x0.f2),(.sl (map b_si x0.f3)),(.i x0.f4)]),(17,.b true),(19,.b true),(21,.b true),(23,.b true),(26,.b true)]) (σ:=h59_0 l0_0 a0 a1 (length p:Int) v1) (σ':=⟨[(1,(.oi a1)),(5,(.oi (IntKind.wrap .i64 (v1+x0.f1)))),(8,(.one (.bor l0_0 (map b_R a0)))),(9,(.oi ((length (map b_R a0)):Int))),(10,(.oi (IntKind.wrap .i64 ((length p:Int)+1))))],[]⟩) (e:=.normal) (t':=42) (hs':=[]) (q:=[(decide ((length p:Int) <((length (map b_R a0)):Int)))=true,0≤(length p:Int),(map b_R a0)[(Int.toNat (length p:Int))]?=some [(.i x0.f0),(.i x0.f1),(.i x0.f2),(.sl (map b_si x0.f3)),(.i x0.f4)],(a1==0)=true,(a1==0)=true,(a1==0)=true,(a1==0)=true,(a1==0)=true,True,True]) (by kernel_rfl) ⟨hc,(by omega),(by rw[getElem?_map,Hx0]; rfl),h_1,h_1,h_1,h_1,h_1,trivial,trivial,trivial⟩
      have ih:=t59_0 (l0_0:=l0_0) (a0:=a0) (a1:=a1) hy0 hy1 y0 (p++ [x0]) (IntKind.wrap .i64 (v1+x0.f1)) (by rw[append_assoc]; exact hp0)
      rw[show ((p++ [x0]).length:Int)=(p.length:Int)+1 from by simp] at ih
      rw[show (⟨[(1,(.oi a1)),(5,(.oi (IntKind.wrap .i64 (v1+x0.f1)))),(8,(.one (.bor l0_0 (map b_R a0)))),(9,(.oi ((length (map b_R a0)):Int))),(10,(.oi (IntKind.wrap .i64 ((length p:Int)+1))))],[]⟩:St)=h59_0 l0_0 a0 a1 ((length p:Int)+1) (IntKind.wrap .i64 (v1+x0.f1)) from(by unfold h59_0; simp only[hw]; done)] at st
      exact .loopN st ih
    · try simp only[if_neg h_1]
      by_cases h_2:(x0.f4==a1)=true
      · try simp only[if_pos h_2]
        have st:=codeH_ok (F:=F) (X:=X) (c:=b59_0) (t:=0) (hs:=[(2,.b true),(4,.row [(.i x0.f0),(.i x0.f1),(.i x0.f2),(.sl (map b_si x0.f3)),(.i x0.f4)]),(17,.b false),(19,.b false),(21,.b false),(23,.b false),(26,.b false),(27,.b true)]) (σ:=h59_0 l0_0 a0 a1 (length p:Int) v1) (σ':=⟨[(1,(.oi a1)),(5,(.oi (IntKind.wrap .i64 (v1+x0.f1)))),(8,(.one (.bor l0_0 (map b_R a0)))),(9,(.oi ((length (map b_R a0)):Int))),(10,(.oi (IntKind.wrap .i64 ((length p:Int)+1))))],[]⟩) (e:=.normal) (t':=42) (hs':=[]) (q:=[(decide ((length p:Int) <((length (map b_R a0)):Int)))=true,0≤(length p:Int),(map b_R a0)[(Int.toNat (length p:Int))]?=some [(.i x0.f0),(.i x0.f1),(.i x0.f2),(.sl (map b_si x0.f3)),(.i x0.f4)],(a1==0)=false,(a1==0)=false,(a1==0)=false,(a1==0)=false,(a1==0)=false,(x0.f4==a1)=true,True,True]) (by kernel_rfl) ⟨hc,(by omega),(by rw[getElem?_map,Hx0]; rfl),(nt h_1),(nt h_1),(nt h_1),(nt h_1),(nt h_1),h_2,trivial,trivial,trivial⟩
        have ih:=t59_0 (l0_0:=l0_0) (a0:=a0) (a1:=a1) hy0 hy1 y0 (p++ [x0]) (IntKind.wrap .i64 (v1+x0.f1)) (by rw[append_assoc]; exact hp0)
        rw[show ((p++ [x0]).length:Int)=(p.length:Int)+1 from by simp] at ih
        rw[show (⟨[(1,(.oi a1)),(5,(.oi (IntKind.wrap .i64 (v1+x0.f1)))),(8,(.one (.bor l0_0 (map b_R a0)))),(9,(.oi ((length (map b_R a0)):Int))),(10,(.oi (IntKind.wrap .i64 ((length p:Int)+1))))],[]⟩:St)=h59_0 l0_0 a0 a1 ((length p:Int)+1) (IntKind.wrap .i64 (v1+x0.f1)) from(by unfold h59_0; simp only[hw]; done)] at st
        exact .loopN st ih
      · try simp only[if_neg h_2]
        have st:=codeH_ok (F:=F) (X:=X) (c:=b59_0) (t:=0) (hs:=[(2,.b true),(4,.row [(.i x0.f0),(.i x0.f1),(.i x0.f2),(.sl (map b_si x0.f3)),(.i x0.f4)]),(17,.b false),(19,.b false),(21,.b false),(23,.b false),(26,.b false),(27,.b false)]) (σ:=h59_0 l0_0 a0 a1 (length p:Int) v1) (σ':=⟨[(1,(.oi a1)),(5,(.oi v1)),(8,(.one (.bor l0_0 (map b_R a0)))),(9,(.oi ((length (map b_R a0)):Int))),(10,(.oi (IntKind.wrap .i64 ((length p:Int)+1))))],[]⟩) (e:=.normal) (t':=32) (hs':=[]) (q:=[(decide ((length p:Int) <((length (map b_R a0)):Int)))=true,0≤(length p:Int),(map b_R a0)[(Int.toNat (length p:Int))]?=some [(.i x0.f0),(.i x0.f1),(.i x0.f2),(.sl (map b_si x0.f3)),(.i x0.f4)],(a1==0)=false,(a1==0)=false,(a1==0)=false,(a1==0)=false,(a1==0)=false,(x0.f4==a1)=false,True]) (by kernel_rfl) ⟨hc,(by omega),(by rw[getElem?_map,Hx0]; rfl),(nt h_1),(nt h_1),(nt h_1),(nt h_1),(nt h_1),(nt h_2),trivial,trivial⟩
        have ih:=t59_0 (l0_0:=l0_0) (a0:=a0) (a1:=a1) hy0 hy1 y0 (p++ [x0]) v1 (by rw[append_assoc]; exact hp0)
        rw[show ((p++ [x0]).length:Int)=(p.length:Int)+1 from by simp] at ih
        rw[show (⟨[(1,(.oi a1)),(5,(.oi v1)),(8,(.one (.bor l0_0 (map b_R a0)))),(9,(.oi ((length (map b_R a0)):Int))),(10,(.oi (IntKind.wrap .i64 ((length p:Int)+1))))],[]⟩:St)=h59_0 l0_0 a0 a1 ((length p:Int)+1) v1 from(by unfold h59_0; simp only[hw]; done)] at st
        exact .loopN st ih
/-! loop.example/g00539/impl.totals -/
def m59 (a0:(List K_R)) (a1:Int):Int:=
  (match r59_0 a0 a1 a0 0 0 with | .k0 w0_0 w1_0 w2_0=>w0_0)
theorem e59 {l0_0:Nat} {a0:(List K_R)} {a1:Int} (hy0:length a0*56≤140737488351232) (hy1:∀z∈a0,ok_R z):Ev F X (.call 59 [(.one (.bor l0_0 (map b_R a0))),(.one (.val (.int .i64 a1)))] [] [] [(.one (.val (.int .i64 (m59 a0 a1))))]):=by
  unfold m59
  cases h0:r59_0 a0 a1 a0 0 0 with
  |k0 w0_0 w1_0 w2_0=>
    try dsimp only
    have f0:(⟨[(1,(.oi a1)),(5,(.oi 0)),(8,(.one (.bor l0_0 (map b_R a0)))),(9,(.oi ((length (map b_R a0)):Int))),(10,(.oi 0))],[]⟩:St)=h59_0 l0_0 a0 a1 0 0:=(by rfl)
    have f1:Ev F X (.code l59_0 (h59_0 l0_0 a0 a1 0 0) (.exit 0) ⟨[(1,(.oi a1)),(5,(.oi w0_0)),(8,(.one (.bor l0_0 (map b_R a0)))),(9,(.oi ((length (map b_R a0)):Int))),(10,(.oi w1_0)),(11,(.one (.val (.bool w2_0))))],[]⟩):=(by have t:Ev F X (.code l59_0 (h59_0 l0_0 a0 a1 0 0) (ex59_0 (r59_0 a0 a1 a0 0 0)) (fin59_0 l0_0 a0 a1 (r59_0 a0 a1 a0 0 0))):=t59_0 (l0_0:=l0_0) (a0:=a0) (a1:=a1) (by assumption) (by assumption) a0 [] 0 rfl; rw[h0] at t; exact t)
    exact callP_ok (ps:=[]) (os:=[]) (rs:=[(.oi w0_0)]) (by kernel_rfl) (.f f0 (.f f1 (.h 10 (.loop (h59_0 l0_0 a0 a1 0 0) (.exit 0) ⟨[(1,(.oi a1)),(5,(.oi w0_0)),(8,(.one (.bor l0_0 (map b_R a0)))),(9,(.oi ((length (map b_R a0)):Int))),(10,(.oi w1_0)),(11,(.one (.val (.bool w2_0))))],[]⟩) .nil)))
/-! loop 13_0 -/
inductive O13_0 where
  |k0 (w0:Int) (w1:Bool)
  |k1 (w0:Int)
def r13_0 (a0:K_B):List K_R→Int→O13_0
  |x0::y0,i=>
    if((m56 x0 (take (Int.toNat i) a0.f3)) !=0)=true then(O13_0.k1 (m56 x0 (take (Int.toNat i) a0.f3))) else
    (r13_0 a0 y0 (i+1))
  |[],i=>(O13_0.k0 i (decide (i <((length (map b_R a0.f3)):Int))))
def h13_0 (l0_2:Nat) (l0_3:Nat) (l0_4:Nat) (a0:K_B) (i:Int) :St:=⟨[(1,(.ptr ⟨(1,0,0),[],0,0,8⟩)),(56,(.one (.bor l0_3 (map b_R a0.f3)))),(57,(.one (.val (.int .i64 ((length (map b_R a0.f3)):Int))))),(58,(.one (.val (.int .i64 i))))],[((1,0,0),.live ⟨8,[[(.val (.int .i64 a0.f0)),(.val (.int .i64 a0.f1)),(.bor l0_2 (map b_si a0.f2)),(.bor l0_3 (map b_R a0.f3)),(.bor l0_4 (map b_si a0.f4)),(.val (.int .i64 a0.f5)),(.val (.int .i64 a0.f6)),(.val (.int .i64 a0.f7))]],[]⟩)]⟩
def ex13_0:O13_0→VX.Exit
  |.k0 _ _=>(.exit 0)
  |.k1 _=>.ret
def fin13_0 (l0_2:Nat) (l0_3:Nat) (l0_4:Nat) (a0:K_B):O13_0→St
  |.k0 w0 w1=>⟨[(1,(.ptr ⟨(1,0,0),[],0,0,8⟩)),(56,(.one (.bor l0_3 (map b_R a0.f3)))),(57,(.one (.val (.int .i64 ((length (map b_R a0.f3)):Int))))),(58,(.one (.val (.int .i64 w0)))),(59,(.one (.val (.bool w1))))],[((1,0,0),.live ⟨8,[[(.val (.int .i64 a0.f0)),(.val (.int .i64 a0.f1)),(.bor l0_2 (map b_si a0.f2)),(.bor l0_3 (map b_R a0.f3)),(.bor l0_4 (map b_si a0.f4)),(.val (.int .i64 a0.f5)),(.val (.int .i64 a0.f6)),(.val (.int .i64 a0.f7))]],[]⟩)]⟩
  |.k1 w0=>⟨[(2,(.one (.val (.int .i64 w0))))],[]⟩
theorem t13_0 {l0_2:Nat} {l0_3:Nat} {l0_4:Nat} {a0:K_B} (hy0:length a0.f2*24≤140737488351232) (hy1:length a0.f3*56≤140737488351232) (hy2:∀z∈a0.f3,ok_R z) (hy3:length a0.f4*24≤140737488351232):∀(y0:List K_R) (p:List K_R),p++y0=a0.f3→Ev F X (.code l13_0 (h13_0 l0_2 l0_3 l0_4 a0 (length p:Int)) (ex13_0 (r13_0 a0 y0 (length p:Int))) (fin13_0 l0_2 l0_3 l0_4 a0 (r13_0 a0 y0 (length p:Int))))
  |[],p,hp0=>by
    have hc:¬(decide ((length p:Int) <((length (map b_R a0.f3)):Int)))=true:=by
      rw[← hp0]; simp only[length_map,length_set,length_append,length_replicate,length_cons,length_nil,decide_eq_true_eq]; omega
    have st:=codeH_ok (F:=F) (X:=X) (c:=b13_0) (t:=0) (hs:=[(2,.b false)]) (σ:=h13_0 l0_2 l0_3 l0_4 a0 (length p:Int)) (σ':=fin13_0 l0_2 l0_3 l0_4 a0 (.k0 (length p:Int) (decide ((length p:Int) <((length (map b_R a0.f3)):Int))))) (e:=(.exit 0)) (t':=3) (hs':=[]) (q:=[(decide ((length p:Int) <((length (map b_R a0.f3)):Int)))=false]) (by kernel_rfl) ⟨(nt hc),trivial⟩
    exact .loopX st (show ((.exit 0):VX.Exit)≠.normal from by simp)
  |x0::y0,p,hp0=>by
    have hc:(decide ((length p:Int) <((length (map b_R a0.f3)):Int)))=true:=by
      rw[← hp0]; simp only[length_map,length_set,length_append,length_replicate,length_cons,length_nil,decide_eq_true_eq]; omega
    have Hx0:(a0.f3)[Int.toNat (length p:Int)]?=some x0:=by
      rw[← hp0,Int.toNat_natCast]; simp
    have Mx0_0:=hy2 x0 (List.mem_of_getElem? Hx0)
    have hlen:length (a0.f3)=length p+length y0+1:=by rw[← hp0]; simp; omega
    have hw:IntKind.wrap .i64 ((length p:Int)+1)=(length p:Int)+1:=wrap64 (by omega)
    simp only[r13_0]
    by_cases h_1:((m56 x0 (take (Int.toNat (length p:Int)) a0.f3)) !=0)=true
    · try simp only[if_pos h_1]
      have st:=codeH_ok (F:=F) (X:=X) (c:=b13_0) (t:=0) (hs:=[(2,.b true),(6,.row [(.i x0.f0),(.i x0.f1),(.i x0.f2),(.sl (map b_si x0.f3)),(.i x0.f4)]),(26,.ret [] [(.oi (m56 x0 (take (Int.toNat (length p:Int)) a0.f3)))] [] []),(33,.b true)]) (σ:=h13_0 l0_2 l0_3 l0_4 a0 (length p:Int)) (σ':=fin13_0 l0_2 l0_3 l0_4 a0 (.k1 (m56 x0 (take (Int.toNat (length p:Int)) a0.f3)))) (e:=.ret) (t':=38) (hs':=[]) (q:=[(decide ((length p:Int) <((length (map b_R a0.f3)):Int)))=true,0≤(length p:Int),(map b_R a0.f3)[(Int.toNat (length p:Int))]?=some [(.i x0.f0),(.i x0.f1),(.i x0.f2),(.sl (map b_si x0.f3)),(.i x0.f4)],(0≤(0:Int)∧(0:Int)≤(length p:Int)∧(length p:Int)≤((length (map b_R a0.f3)):Int))∧∀r∈((map b_R a0.f3):List (List B)),r.length=5,Ev F X (.call 56 [(.agg [(.i x0.f0),(.i x0.f1),(.i x0.f2),(.bor (l0_3+1) (map b_si x0.f3)),(.i x0.f4)]),(.one (.bor (l0_3+1) (take (Int.toNat (length p:Int) - Int.toNat 0) (drop 0 (map b_R a0.f3)))))] [] [] [(.oi (m56 x0 (take (Int.toNat (length p:Int)) a0.f3)))]),((m56 x0 (take (Int.toNat (length p:Int)) a0.f3)) !=0)=true]) (by kernel_rfl) ⟨hc,(by omega),(by rw[getElem?_map,Hx0]; rfl),(by refine⟨?_,lenB_R _⟩; simp only[length_map,length_set,length_append,length_replicate,length_cons,length_nil]; omega),(by rw[show (take (Int.toNat (length p:Int) - Int.toNat 0) (drop 0 (map b_R a0.f3)))=(map b_R (take (Int.toNat (length p:Int)) a0.f3)) from by first | rfl |(simp[map_take,map_drop]; done) |(simp[byteRows_eq,map_take,map_drop]; done) |(simp[*,map_take,map_drop]; done) |(rw[take_of_length_le (by simp only[length_drop,length_take,length_map,Int.toNat_natCast]; omega)]; simp only[← map_drop,← map_take])]; exact(e56 (a0:=x0) (a1:=(take (Int.toNat (length p:Int)) a0.f3)) (by assumption) (by simp only[length_take]; omega) (by intro z hz; exact(by assumption:∀z∈_,ok_R z) z (List.mem_of_mem_take hz)))),h_1,trivial⟩
      exact .loopX st (show (.ret:VX.Exit)≠.normal from by simp)
    · try simp only[if_neg h_1]
      have st:=codeH_ok (F:=F) (X:=X) (c:=b13_0) (t:=0) (hs:=[(2,.b true),(6,.row [(.i x0.f0),(.i x0.f1),(.i x0.f2),(.sl (map b_si x0.f3)),(.i x0.f4)]),(26,.ret [] [(.oi (m56 x0 (take (Int.toNat (length p:Int)) a0.f3)))] [] []),(33,.b false)]) (σ:=h13_0 l0_2 l0_3 l0_4 a0 (length p:Int)) (σ':=⟨[(1,(.ptr ⟨(1,0,0),[],0,0,8⟩)),(56,(.one (.bor l0_3 (map b_R a0.f3)))),(57,(.oi ((length (map b_R a0.f3)):Int))),(58,(.oi (IntKind.wrap .i64 ((length p:Int)+1))))],[((1,0,0),.live ⟨8,[[(.i a0.f0),(.i a0.f1),(.bor l0_2 (map b_si a0.f2)),(.bor l0_3 (map b_R a0.f3)),(.bor l0_4 (map b_si a0.f4)),(.i a0.f5),(.i a0.f6),(.i a0.f7)]],[]⟩)]⟩) (e:=.normal) (t':=38) (hs':=[]) (q:=[(decide ((length p:Int) <((length (map b_R a0.f3)):Int)))=true,0≤(length p:Int),(map b_R a0.f3)[(Int.toNat (length p:Int))]?=some [(.i x0.f0),(.i x0.f1),(.i x0.f2),(.sl (map b_si x0.f3)),(.i x0.f4)],(0≤(0:Int)∧(0:Int)≤(length p:Int)∧(length p:Int)≤((length (map b_R a0.f3)):Int))∧∀r∈((map b_R a0.f3):List (List B)),r.length=5,Ev F X (.call 56 [(.agg [(.i x0.f0),(.i x0.f1),(.i x0.f2),(.bor (l0_3+1) (map b_si x0.f3)),(.i x0.f4)]),(.one (.bor (l0_3+1) (take (Int.toNat (length p:Int) - Int.toNat 0) (drop 0 (map b_R a0.f3)))))] [] [] [(.oi (m56 x0 (take (Int.toNat (length p:Int)) a0.f3)))]),((m56 x0 (take (Int.toNat (length p:Int)) a0.f3)) !=0)=false,True]) (by kernel_rfl) ⟨hc,(by omega),(by rw[getElem?_map,Hx0]; rfl),(by refine⟨?_,lenB_R _⟩; simp only[length_map,length_set,length_append,length_replicate,length_cons,length_nil]; omega),(by rw[show (take (Int.toNat (length p:Int) - Int.toNat 0) (drop 0 (map b_R a0.f3)))=(map b_R (take (Int.toNat (length p:Int)) a0.f3)) from by first | rfl |(simp[map_take,map_drop]; done) |(simp[byteRows_eq,map_take,map_drop]; done) |(simp[*,map_take,map_drop]; done) |(rw[take_of_length_le (by simp only[length_drop,length_take,length_map,Int.toNat_natCast]; omega)]; simp only[← map_drop,← map_take])]; exact(e56 (a0:=x0) (a1:=(take (Int.toNat (length p:Int)) a0.f3)) (by assumption) (by simp only[length_take]; omega) (by intro z hz; exact(by assumption:∀z∈_,ok_R z) z (List.mem_of_mem_take hz)))),(nt h_1),trivial,trivial⟩
      have ih:=t13_0 (l0_2:=l0_2) (l0_3:=l0_3) (l0_4:=l0_4) (a0:=a0) hy0 hy1 hy2 hy3 y0 (p++ [x0]) (by rw[append_assoc]; exact hp0)
      rw[show ((p++ [x0]).length:Int)=(p.length:Int)+1 from by simp] at ih
      rw[show (⟨[(1,(.ptr ⟨(1,0,0),[],0,0,8⟩)),(56,(.one (.bor l0_3 (map b_R a0.f3)))),(57,(.oi ((length (map b_R a0.f3)):Int))),(58,(.oi (IntKind.wrap .i64 ((length p:Int)+1))))],[((1,0,0),.live ⟨8,[[(.i a0.f0),(.i a0.f1),(.bor l0_2 (map b_si a0.f2)),(.bor l0_3 (map b_R a0.f3)),(.bor l0_4 (map b_si a0.f4)),(.i a0.f5),(.i a0.f6),(.i a0.f7)]],[]⟩)]⟩:St)=h13_0 l0_2 l0_3 l0_4 a0 ((length p:Int)+1)  from(by unfold h13_0; simp only[hw]; done)] at st
      exact .loopN st ih
/-! loop.example/g00539/impl.LedgerFault -/
def m13 (a0:K_B):Int:=
  if(!(m54 a0.f0 a0.f1))=true then 3 else
  if(!(m45 a0.f5 0 1000000))=true then 3 else
    if(!(m45 a0.f6 0 1000000))=true then 3 else
      if(!(m45 a0.f7 0 1000000))=true then 3 else
        if((m55 a0.f2) !=0)=true then(m55 a0.f2) else
          if(decide (((length (map b_si a0.f2)):Int) > a0.f0))=true then 2 else
            if(decide (((length (map b_R a0.f3)):Int) > 6))=true then 2 else
              if(decide (((length (map b_si a0.f4)):Int) > 8))=true then 2 else
                (match r13_0 a0 a0.f3 0 with | .k0 w0_33 w1_33=>(if(!(m57 a0.f4 8))=true then 1 else if((IntKind.wrap .i64 ((IntKind.wrap .i64 ((m58 a0.f4)+a0.f6))+a0.f5)) !=(IntKind.wrap .i64 ((m59 a0.f3 2)+a0.f7)))=true then 7 else if(!(m45 (m59 a0.f3 0) 0 1000000))=true then 7 else 0) | .k1 w0_33=>w0_33)
theorem e13 {l0_2:Nat} {l0_3:Nat} {l0_4:Nat} {a0:K_B} (hy0:length a0.f2*24≤140737488351232) (hy1:length a0.f3*56≤140737488351232) (hy2:∀z∈a0.f3,ok_R z) (hy3:length a0.f4*24≤140737488351232):Ev F X (.call 13 [(.agg [(.val (.int .i64 a0.f0)),(.val (.int .i64 a0.f1)),(.bor l0_2 (map b_si a0.f2)),(.bor l0_3 (map b_R a0.f3)),(.bor l0_4 (map b_si a0.f4)),(.val (.int .i64 a0.f5)),(.val (.int .i64 a0.f6)),(.val (.int .i64 a0.f7))])] [] [] [(.one (.val (.int .i64 (m13 a0))))]):=by
  unfold m13
  have f0:Ev F X (.call 54 [(.oi a0.f0),(.oi a0.f1)] [] [] [(.one (.val (.bool (m54 a0.f0 a0.f1))))]):=(e54 (a0:=a0.f0) (a1:=a0.f1))
  by_cases h0:(!(m54 a0.f0 a0.f1))=true
  · try simp only[if_pos h0]
    exact callP_ok (ps:=[]) (os:=[]) (rs:=[(.oi 3)]) (by kernel_rfl) (.r 13 [] [] f0 (.f h0 (.f h0 (.f h0 (.f h0 (.f h0 (.h 18 (.b true) (.h 20 (.b true) (.h 22 (.b true) (.h 24 (.b true) (.h 27 (.b true) .nil)))))))))))
  · try simp only[if_neg h0]
    have f4:Ev F X (.call 46 [(.oi a0.f5)] [] [] [(.one (.val (.bool (m45 a0.f5 0 1000000))))]):=(e46 (a0:=a0.f5))
    by_cases h1:(!(m45 a0.f5 0 1000000))=true
    · try simp only[if_pos h1]
      exact callP_ok (ps:=[]) (os:=[]) (rs:=[(.oi 3)]) (by kernel_rfl) (.r 13 [] [] f0 (.f (nt h0) (.f (nt h0) (.f (nt h0) (.h 18 (.b false) (.h 20 (.b false) (.h 22 (.b false) (.r 23 [] [] f4 (.f (nt h0) (.f (nt h0) (.f h1 (.f h1 (.f h1 (.f h1 (.f h1 (.h 24 (.b false) (.h 27 (.b false) (.h 30 (.b true) (.h 32 (.b true) (.h 34 (.b true) (.h 36 (.b true) (.h 39 (.b true) .nil))))))))))))))))))))))
    · try simp only[if_neg h1]
      have f10:Ev F X (.call 46 [(.oi a0.f6)] [] [] [(.one (.val (.bool (m45 a0.f6 0 1000000))))]):=(e46 (a0:=a0.f6))
      by_cases h2:(!(m45 a0.f6 0 1000000))=true
      · try simp only[if_pos h2]
        exact callP_ok (ps:=[]) (os:=[]) (rs:=[(.oi 3)]) (by kernel_rfl) (.r 13 [] [] f0 (.f (nt h0) (.f (nt h0) (.f (nt h0) (.h 18 (.b false) (.h 20 (.b false) (.h 22 (.b false) (.r 23 [] [] f4 (.f (nt h0) (.f (nt h0) (.f (nt h1) (.f (nt h1) (.f (nt h1) (.h 24 (.b false) (.h 27 (.b false) (.h 30 (.b false) (.h 32 (.b false) (.h 34 (.b false) (.r 35 [] [] f10 (.f (nt h1) (.f (nt h1) (.f h2 (.f h2 (.f h2 (.f h2 (.f h2 (.h 36 (.b false) (.h 39 (.b false) (.h 42 (.b true) (.h 44 (.b true) (.h 46 (.b true) (.h 48 (.b true) (.h 51 (.b true) .nil)))))))))))))))))))))))))))))))))
      · try simp only[if_neg h2]
        have f16:Ev F X (.call 46 [(.oi a0.f7)] [] [] [(.one (.val (.bool (m45 a0.f7 0 1000000))))]):=(e46 (a0:=a0.f7))
        by_cases h3:(!(m45 a0.f7 0 1000000))=true
        · try simp only[if_pos h3]
          exact callP_ok (ps:=[]) (os:=[]) (rs:=[(.oi 3)]) (by kernel_rfl) (.r 13 [] [] f0 (.f (nt h0) (.f (nt h0) (.f (nt h0) (.h 18 (.b false) (.h 20 (.b false) (.h 22 (.b false) (.r 23 [] [] f4 (.f (nt h0) (.f (nt h0) (.f (nt h1) (.f (nt h1) (.f (nt h1) (.h 24 (.b false) (.h 27 (.b false) (.h 30 (.b false) (.h 32 (.b false) (.h 34 (.b false) (.r 35 [] [] f10 (.f (nt h1) (.f (nt h1) (.f (nt h2) (.f (nt h2) (.f (nt h2) (.h 36 (.b false) (.h 39 (.b false) (.h 42 (.b false) (.h 44 (.b false) (.h 46 (.b false) (.r 47 [] [] f16 (.f (nt h2) (.f (nt h2) (.f h3 (.h 48 (.b false) (.h 51 (.b false) (.h 52 (.b true) .nil))))))))))))))))))))))))))))))))))))
        · try simp only[if_neg h3]
          have f20:Ev F X (.call 55 [(.one (.bor (l0_2+1) (map b_si a0.f2)))] [] [] [(.oi (m55 a0.f2))]):=(e55 (a0:=a0.f2) (by with_reducible assumption))
          by_cases h4:((m55 a0.f2) !=0)=true
          · try simp only[if_pos h4]
            exact callP_ok (ps:=[]) (os:=[]) (rs:=[(.oi (m55 a0.f2))]) (by kernel_rfl) (.r 13 [] [] f0 (.f (nt h0) (.f (nt h0) (.f (nt h0) (.h 18 (.b false) (.h 20 (.b false) (.h 22 (.b false) (.r 23 [] [] f4 (.f (nt h0) (.f (nt h0) (.f (nt h1) (.f (nt h1) (.f (nt h1) (.h 24 (.b false) (.h 27 (.b false) (.h 30 (.b false) (.h 32 (.b false) (.h 34 (.b false) (.r 35 [] [] f10 (.f (nt h1) (.f (nt h1) (.f (nt h2) (.f (nt h2) (.f (nt h2) (.h 36 (.b false) (.h 39 (.b false) (.h 42 (.b false) (.h 44 (.b false) (.h 46 (.b false) (.r 47 [] [] f16 (.f (nt h2) (.f (nt h2) (.f (nt h3) (.h 48 (.b false) (.h 51 (.b false) (.h 52 (.b false) (.r 58 [] [] f20 (.f h4 (.h 65 (.b true) .nil)))))))))))))))))))))))))))))))))))))))
          · try simp only[if_neg h4]
            by_cases h5:(decide (((length (map b_si a0.f2)):Int) > a0.f0))=true
            · try simp only[if_pos h5]
              exact callP_ok (ps:=[]) (os:=[]) (rs:=[(.oi 2)]) (by kernel_rfl) (.r 13 [] [] f0 (.f (nt h0) (.f (nt h0) (.f (nt h0) (.h 18 (.b false) (.h 20 (.b false) (.h 22 (.b false) (.r 23 [] [] f4 (.f (nt h0) (.f (nt h0) (.f (nt h1) (.f (nt h1) (.f (nt h1) (.h 24 (.b false) (.h 27 (.b false) (.h 30 (.b false) (.h 32 (.b false) (.h 34 (.b false) (.r 35 [] [] f10 (.f (nt h1) (.f (nt h1) (.f (nt h2) (.f (nt h2) (.f (nt h2) (.h 36 (.b false) (.h 39 (.b false) (.h 42 (.b false) (.h 44 (.b false) (.h 46 (.b false) (.r 47 [] [] f16 (.f (nt h2) (.f (nt h2) (.f (nt h3) (.h 48 (.b false) (.h 51 (.b false) (.h 52 (.b false) (.r 58 [] [] f20 (.f (nt h4) (.f h5 (.f h5 (.f h5 (.f h5 (.f h5 (.h 65 (.b false) (.h 80 (.b true) (.h 82 (.b true) (.h 84 (.b true) (.h 86 (.b true) (.h 89 (.b true) .nil)))))))))))))))))))))))))))))))))))))))))))))))))
            · try simp only[if_neg h5]
              by_cases h6:(decide (((length (map b_R a0.f3)):Int) > 6))=true
              · try simp only[if_pos h6]
                exact callP_ok (ps:=[]) (os:=[]) (rs:=[(.oi 2)]) (by kernel_rfl) (.r 13 [] [] f0 (.f (nt h0) (.f (nt h0) (.f (nt h0) (.h 18 (.b false) (.h 20 (.b false) (.h 22 (.b false) (.r 23 [] [] f4 (.f (nt h0) (.f (nt h0) (.f (nt h1) (.f (nt h1) (.f (nt h1) (.h 24 (.b false) (.h 27 (.b false) (.h 30 (.b false) (.h 32 (.b false) (.h 34 (.b false) (.r 35 [] [] f10 (.f (nt h1) (.f (nt h1) (.f (nt h2) (.f (nt h2) (.f (nt h2) (.h 36 (.b false) (.h 39 (.b false) (.h 42 (.b false) (.h 44 (.b false) (.h 46 (.b false) (.r 47 [] [] f16 (.f (nt h2) (.f (nt h2) (.f (nt h3) (.h 48 (.b false) (.h 51 (.b false) (.h 52 (.b false) (.r 58 [] [] f20 (.f (nt h4) (.f (nt h5) (.f (nt h5) (.f (nt h5) (.f (nt h5) (.f (nt h5) (.f h6 (.f h6 (.f h6 (.f h6 (.f h6 (.h 65 (.b false) (.h 80 (.b false) (.h 82 (.b false) (.h 84 (.b false) (.h 86 (.b false) (.h 89 (.b false) (.h 92 (.b true) (.h 94 (.b true) (.h 96 (.b true) (.h 98 (.b true) (.h 101 (.b true) .nil)))))))))))))))))))))))))))))))))))))))))))))))))))))))))))
              · try simp only[if_neg h6]
                by_cases h7:(decide (((length (map b_si a0.f4)):Int) > 8))=true
                · try simp only[if_pos h7]
                  exact callP_ok (ps:=[]) (os:=[]) (rs:=[(.oi 2)]) (by kernel_rfl) (.r 13 [] [] f0 (.f (nt h0) (.f (nt h0) (.f (nt h0) (.h 18 (.b false) (.h 20 (.b false) (.h 22 (.b false) (.r 23 [] [] f4 (.f (nt h0) (.f (nt h0) (.f (nt h1) (.f (nt h1) (.f (nt h1) (.h 24 (.b false) (.h 27 (.b false) (.h 30 (.b false) (.h 32 (.b false) (.h 34 (.b false) (.r 35 [] [] f10 (.f (nt h1) (.f (nt h1) (.f (nt h2) (.f (nt h2) (.f (nt h2) (.h 36 (.b false) (.h 39 (.b false) (.h 42 (.b false) (.h 44 (.b false) (.h 46 (.b false) (.r 47 [] [] f16 (.f (nt h2) (.f (nt h2) (.f (nt h3) (.h 48 (.b false) (.h 51 (.b false) (.h 52 (.b false) (.r 58 [] [] f20 (.f (nt h4) (.f (nt h5) (.f (nt h5) (.f (nt h5) (.f (nt h5) (.f (nt h5) (.f (nt h6) (.f (nt h6) (.f (nt h6) (.f (nt h6) (.f (nt h6) (.f h7 (.h 65 (.b false) (.h 80 (.b false) (.h 82 (.b false) (.h 84 (.b false) (.h 86 (.b false) (.h 89 (.b false) (.h 92 (.b false) (.h 94 (.b false) (.h 96 (.b false) (.h 98 (.b false) (.h 101 (.b false) (.h 102 (.b true) .nil)))))))))))))))))))))))))))))))))))))))))))))))))))))))))))))
                · try simp only[if_neg h7]
                  cases h8:r13_0 a0 a0.f3 0 with
                  |k0 w0_33 w1_33=>
                    try dsimp only
                    have f33:(⟨[(1,(.ptr ⟨(1,0,0),[],0,0,8⟩)),(56,(.one (.bor l0_3 (map b_R a0.f3)))),(57,(.oi ((length (map b_R a0.f3)):Int))),(58,(.oi 0))],[((1,0,0),.live ⟨8,[[(.i a0.f0),(.i a0.f1),(.bor l0_2 (map b_si a0.f2)),(.bor l0_3 (map b_R a0.f3)),(.bor l0_4 (map b_si a0.f4)),(.i a0.f5),(.i a0.f6),(.i a0.f7)]],[]⟩)]⟩:St)=h13_0 l0_2 l0_3 l0_4 a0 0 :=(by rfl)
                    have f34:Ev F X (.code l13_0 (h13_0 l0_2 l0_3 l0_4 a0 0) (.exit 0) ⟨[(1,(.ptr ⟨(1,0,0),[],0,0,8⟩)),(56,(.one (.bor l0_3 (map b_R a0.f3)))),(57,(.oi ((length (map b_R a0.f3)):Int))),(58,(.oi w0_33)),(59,(.one (.val (.bool w1_33))))],[((1,0,0),.live ⟨8,[[(.i a0.f0),(.i a0.f1),(.bor l0_2 (map b_si a0.f2)),(.bor l0_3 (map b_R a0.f3)),(.bor l0_4 (map b_si a0.f4)),(.i a0.f5),(.i a0.f6),(.i a0.f7)]],[]⟩)]⟩):=(by have t:Ev F X (.code l13_0 (h13_0 l0_2 l0_3 l0_4 a0 0) (ex13_0 (r13_0 a0 a0.f3 0)) (fin13_0 l0_2 l0_3 l0_4 a0 (r13_0 a0 a0.f3 0))):=t13_0 (l0_2:=l0_2) (l0_3:=l0_3) (l0_4:=l0_4) (a0:=a0) (by assumption) (by assumption) (by assumption) (by assumption) a0.f3 []  rfl; rw[h8] at t; exact t)
                    have f35:Ev F X (.call 57 [(.one (.bor (l0_4+1) (map b_si a0.f4))),(.oi 8)] [] [] [(.one (.val (.bool (m57 a0.f4 8))))]):=(e57 (a0:=a0.f4) (a1:=8) (by with_reducible assumption))
                    by_cases h9:(!(m57 a0.f4 8))=true
                    · try simp only[if_pos h9]
                      exact callP_ok (ps:=[]) (os:=[]) (rs:=[(.oi 1)]) (by kernel_rfl) (.r 13 [] [] f0 (.f (nt h0) (.f (nt h0) (.f (nt h0) (.h 18 (.b false) (.h 20 (.b false) (.h 22 (.b false) (.r 23 [] [] f4 (.f (nt h0) (.f (nt h0) (.f (nt h1) (.f (nt h1) (.f (nt h1) (.h 24 (.b false) (.h 27 (.b false) (.h 30 (.b false) (.h 32 (.b false) (.h 34 (.b false) (.r 35 [] [] f10 (.f (nt h1) (.f (nt h1) (.f (nt h2) (.f (nt h2) (.f (nt h2) (.h 36 (.b false) (.h 39 (.b false) (.h 42 (.b false) (.h 44 (.b false) (.h 46 (.b false) (.r 47 [] [] f16 (.f (nt h2) (.f (nt h2) (.f (nt h3) (.h 48 (.b false) (.h 51 (.b false) (.h 52 (.b false) (.r 58 [] [] f20 (.f (nt h4) (.f (nt h5) (.f (nt h5) (.f (nt h5) (.f (nt h5) (.f (nt h5) (.f (nt h6) (.f (nt h6) (.f (nt h6) (.f (nt h6) (.f (nt h6) (.f (nt h7) (.f f33 (.f f34 (.h 65 (.b false) (.h 80 (.b false) (.h 82 (.b false) (.h 84 (.b false) (.h 86 (.b false) (.h 89 (.b false) (.h 92 (.b false) (.h 94 (.b false) (.h 96 (.b false) (.h 98 (.b false) (.h 101 (.b false) (.h 102 (.b false) (.h 111 (.loop (h13_0 l0_2 l0_3 l0_4 a0 0) (.exit 0) ⟨[(1,(.ptr ⟨(1,0,0),[],0,0,8⟩)),(56,(.one (.bor l0_3 (map b_R a0.f3)))),(57,(.oi ((length (map b_R a0.f3)):Int))),(58,(.oi w0_33)),(59,(.one (.val (.bool w1_33))))],[((1,0,0),.live ⟨8,[[(.i a0.f0),(.i a0.f1),(.bor l0_2 (map b_si a0.f2)),(.bor l0_3 (map b_R a0.f3)),(.bor l0_4 (map b_si a0.f4)),(.i a0.f5),(.i a0.f6),(.i a0.f7)]],[]⟩)]⟩) (.r 117 [] [] f35 (.f h9 (.h 122 (.b true) .nil)))))))))))))))))))))))))))))))))))))))))))))))))))))))))))))))))))
                    · try simp only[if_neg h9]
                      have f37:Ev F X (.call 58 [(.one (.bor (l0_4+1) (map b_si a0.f4)))] [] [] [(.oi (m58 a0.f4))]):=(e58 (a0:=a0.f4) (by with_reducible assumption))
                      have f40:Ev F X (.call 59 [(.one (.bor (l0_3+1) (map b_R a0.f3))),(.oi 2)] [] [] [(.oi (m59 a0.f3 2))]):=(e59 (a0:=a0.f3) (a1:=2) (by with_reducible assumption) (by with_reducible assumption))
                      by_cases h10:((IntKind.wrap .i64 ((IntKind.wrap .i64 ((m58 a0.f4)+a0.f6))+a0.f5)) !=(IntKind.wrap .i64 ((m59 a0.f3 2)+a0.f7)))=true
                      · try simp only[if_pos h10]
                        exact callP_ok (ps:=[]) (os:=[]) (rs:=[(.oi 7)]) (by kernel_rfl) (.r 13 [] [] f0 (.f (nt h0) (.f (nt h0) (.f (nt h0) (.h 18 (.b false) (.h 20 (.b false) (.h 22 (.b false) (.r 23 [] [] f4 (.f (nt h0) (.f (nt h0) (.f (nt h1) (.f (nt h1) (.f (nt h1) (.h 24 (.b false) (.h 27 (.b false) (.h 30 (.b false) (.h 32 (.b false) (.h 34 (.b false) (.r 35 [] [] f10 (.f (nt h1) (.f (nt h1) (.f (nt h2) (.f (nt h2) (.f (nt h2) (.h 36 (.b false) (.h 39 (.b false) (.h 42 (.b false) (.h 44 (.b false) (.h 46 (.b false) (.r 47 [] [] f16 (.f (nt h2) (.f (nt h2) (.f (nt h3) (.h 48 (.b false) (.h 51 (.b false) (.h 52 (.b false) (.r 58 [] [] f20 (.f (nt h4) (.f (nt h5) (.f (nt h5) (.f (nt h5) (.f (nt h5) (.f (nt h5) (.f (nt h6) (.f (nt h6) (.f (nt h6) (.f (nt h6) (.f (nt h6) (.f (nt h7) (.f f33 (.f f34 (.h 65 (.b false) (.h 80 (.b false) (.h 82 (.b false) (.h 84 (.b false) (.h 86 (.b false) (.h 89 (.b false) (.h 92 (.b false) (.h 94 (.b false) (.h 96 (.b false) (.h 98 (.b false) (.h 101 (.b false) (.h 102 (.b false) (.h 111 (.loop (h13_0 l0_2 l0_3 l0_4 a0 0) (.exit 0) ⟨[(1,(.ptr ⟨(1,0,0),[],0,0,8⟩)),(56,(.one (.bor l0_3 (map b_R a0.f3)))),(57,(.oi ((length (map b_R a0.f3)):Int))),(58,(.oi w0_33)),(59,(.one (.val (.bool w1_33))))],[((1,0,0),.live ⟨8,[[(.i a0.f0),(.i a0.f1),(.bor l0_2 (map b_si a0.f2)),(.bor l0_3 (map b_R a0.f3)),(.bor l0_4 (map b_si a0.f4)),(.i a0.f5),(.i a0.f6),(.i a0.f7)]],[]⟩)]⟩) (.r 117 [] [] f35 (.f (nt h9) (.h 122 (.b false) (.r 128 [] [] f37 (.f trivial (.f trivial (.r 146 [] [] f40 (.f trivial (.f h10 (.f h10 (.f h10 (.f h10 (.f h10 (.f h10 (.h 157 (.b true) (.h 159 (.b true) (.h 161 (.b true) (.h 163 (.b true) (.h 165 (.b true) (.h 168 (.b true) .nil))))))))))))))))))))))))))))))))))))))))))))))))))))))))))))))))))))))))))))))))))))
                      · try simp only[if_neg h10]
                        have f45:Ev F X (.call 59 [(.one (.bor (l0_3+1) (map b_R a0.f3))),(.oi 0)] [] [] [(.oi (m59 a0.f3 0))]):=(e59 (a0:=a0.f3) (a1:=0) (by with_reducible assumption) (by with_reducible assumption))
                        have f47:Ev F X (.call 46 [(.oi (m59 a0.f3 0))] [] [] [(.one (.val (.bool (m45 (m59 a0.f3 0) 0 1000000))))]):=(e46 (a0:=(m59 a0.f3 0)))
                        by_cases h11:(!(m45 (m59 a0.f3 0) 0 1000000))=true
                        · try simp only[if_pos h11]
                          exact callP_ok (ps:=[]) (os:=[]) (rs:=[(.oi 7)]) (by kernel_rfl) (.r 13 [] [] f0 (.f (nt h0) (.f (nt h0) (.f (nt h0) (.h 18 (.b false) (.h 20 (.b false) (.h 22 (.b false) (.r 23 [] [] f4 (.f (nt h0) (.f (nt h0) (.f (nt h1) (.f (nt h1) (.f (nt h1) (.h 24 (.b false) (.h 27 (.b false) (.h 30 (.b false) (.h 32 (.b false) (.h 34 (.b false) (.r 35 [] [] f10 (.f (nt h1) (.f (nt h1) (.f (nt h2) (.f (nt h2) (.f (nt h2) (.h 36 (.b false) (.h 39 (.b false) (.h 42 (.b false) (.h 44 (.b false) (.h 46 (.b false) (.r 47 [] [] f16 (.f (nt h2) (.f (nt h2) (.f (nt h3) (.h 48 (.b false) (.h 51 (.b false) (.h 52 (.b false) (.r 58 [] [] f20 (.f (nt h4) (.f (nt h5) (.f (nt h5) (.f (nt h5) (.f (nt h5) (.f (nt h5) (.f (nt h6) (.f (nt h6) (.f (nt h6) (.f (nt h6) (.f (nt h6) (.f (nt h7) (.f f33 (.f f34 (.h 65 (.b false) (.h 80 (.b false) (.h 82 (.b false) (.h 84 (.b false) (.h 86 (.b false) (.h 89 (.b false) (.h 92 (.b false) (.h 94 (.b false) (.h 96 (.b false) (.h 98 (.b false) (.h 101 (.b false) (.h 102 (.b false) (.h 111 (.loop (h13_0 l0_2 l0_3 l0_4 a0 0) (.exit 0) ⟨[(1,(.ptr ⟨(1,0,0),[],0,0,8⟩)),(56,(.one (.bor l0_3 (map b_R a0.f3)))),(57,(.oi ((length (map b_R a0.f3)):Int))),(58,(.oi w0_33)),(59,(.one (.val (.bool w1_33))))],[((1,0,0),.live ⟨8,[[(.i a0.f0),(.i a0.f1),(.bor l0_2 (map b_si a0.f2)),(.bor l0_3 (map b_R a0.f3)),(.bor l0_4 (map b_si a0.f4)),(.i a0.f5),(.i a0.f6),(.i a0.f7)]],[]⟩)]⟩) (.r 117 [] [] f35 (.f (nt h9) (.h 122 (.b false) (.r 128 [] [] f37 (.f trivial (.f trivial (.r 146 [] [] f40 (.f trivial (.f (nt h10) (.f (nt h10) (.f (nt h10) (.h 157 (.b false) (.h 159 (.b false) (.h 161 (.b false) (.r 162 [] [] f45 (.f (nt h10) (.h 163 (.b false) (.r 164 [] [] f47 (.f (nt h10) (.f (nt h10) (.f h11 (.h 165 (.b false) (.h 168 (.b false) (.h 171 (.b true) .nil))))))))))))))))))))))))))))))))))))))))))))))))))))))))))))))))))))))))))))))))))))))))
                        · try simp only[if_neg h11]
                          exact callP_ok (ps:=[]) (os:=[]) (rs:=[(.oi 0)]) (by kernel_rfl) (.r 13 [] [] f0 (.f (nt h0) (.f (nt h0) (.f (nt h0) (.h 18 (.b false) (.h 20 (.b false) (.h 22 (.b false) (.r 23 [] [] f4 (.f (nt h0) (.f (nt h0) (.f (nt h1) (.f (nt h1) (.f (nt h1) (.h 24 (.b false) (.h 27 (.b false) (.h 30 (.b false) (.h 32 (.b false) (.h 34 (.b false) (.r 35 [] [] f10 (.f (nt h1) (.f (nt h1) (.f (nt h2) (.f (nt h2) (.f (nt h2) (.h 36 (.b false) (.h 39 (.b false) (.h 42 (.b false) (.h 44 (.b false) (.h 46 (.b false) (.r 47 [] [] f16 (.f (nt h2) (.f (nt h2) (.f (nt h3) (.h 48 (.b false) (.h 51 (.b false) (.h 52 (.b false) (.r 58 [] [] f20 (.f (nt h4) (.f (nt h5) (.f (nt h5) (.f (nt h5) (.f (nt h5) (.f (nt h5) (.f (nt h6) (.f (nt h6) (.f (nt h6) (.f (nt h6) (.f (nt h6) (.f (nt h7) (.f f33 (.f f34 (.h 65 (.b false) (.h 80 (.b false) (.h 82 (.b false) (.h 84 (.b false) (.h 86 (.b false) (.h 89 (.b false) (.h 92 (.b false) (.h 94 (.b false) (.h 96 (.b false) (.h 98 (.b false) (.h 101 (.b false) (.h 102 (.b false) (.h 111 (.loop (h13_0 l0_2 l0_3 l0_4 a0 0) (.exit 0) ⟨[(1,(.ptr ⟨(1,0,0),[],0,0,8⟩)),(56,(.one (.bor l0_3 (map b_R a0.f3)))),(57,(.oi ((length (map b_R a0.f3)):Int))),(58,(.oi w0_33)),(59,(.one (.val (.bool w1_33))))],[((1,0,0),.live ⟨8,[[(.i a0.f0),(.i a0.f1),(.bor l0_2 (map b_si a0.f2)),(.bor l0_3 (map b_R a0.f3)),(.bor l0_4 (map b_si a0.f4)),(.i a0.f5),(.i a0.f6),(.i a0.f7)]],[]⟩)]⟩) (.r 117 [] [] f35 (.f (nt h9) (.h 122 (.b false) (.r 128 [] [] f37 (.f trivial (.f trivial (.r 146 [] [] f40 (.f trivial (.f (nt h10) (.f (nt h10) (.f (nt h10) (.h 157 (.b false) (.h 159 (.b false) (.h 161 (.b false) (.r 162 [] [] f45 (.f (nt h10) (.h 163 (.b false) (.r 164 [] [] f47 (.f (nt h10) (.f (nt h10) (.f (nt h11) (.h 165 (.b false) (.h 168 (.b false) (.h 171 (.b false) .nil))))))))))))))))))))))))))))))))))))))))))))))))))))))))))))))))))))))))))))))))))))))))
                  |k1 w0_33=>
                    try dsimp only
                    have f33:(⟨[(1,(.ptr ⟨(1,0,0),[],0,0,8⟩)),(56,(.one (.bor l0_3 (map b_R a0.f3)))),(57,(.oi ((length (map b_R a0.f3)):Int))),(58,(.oi 0))],[((1,0,0),.live ⟨8,[[(.i a0.f0),(.i a0.f1),(.bor l0_2 (map b_si a0.f2)),(.bor l0_3 (map b_R a0.f3)),(.bor l0_4 (map b_si a0.f4)),(.i a0.f5),(.i a0.f6),(.i a0.f7)]],[]⟩)]⟩:St)=h13_0 l0_2 l0_3 l0_4 a0 0 :=(by rfl)
                    have f34:Ev F X (.code l13_0 (h13_0 l0_2 l0_3 l0_4 a0 0) .ret ⟨[(2,(.oi w0_33))],[]⟩):=(by have t:Ev F X (.code l13_0 (h13_0 l0_2 l0_3 l0_4 a0 0) (ex13_0 (r13_0 a0 a0.f3 0)) (fin13_0 l0_2 l0_3 l0_4 a0 (r13_0 a0 a0.f3 0))):=t13_0 (l0_2:=l0_2) (l0_3:=l0_3) (l0_4:=l0_4) (a0:=a0) (by assumption) (by assumption) (by assumption) (by assumption) a0.f3 []  rfl; rw[h8] at t; exact t)
                    exact callP_ok (ps:=[]) (os:=[]) (rs:=[(.oi w0_33)]) (by kernel_rfl) (.r 13 [] [] f0 (.f (nt h0) (.f (nt h0) (.f (nt h0) (.h 18 (.b false) (.h 20 (.b false) (.h 22 (.b false) (.r 23 [] [] f4 (.f (nt h0) (.f (nt h0) (.f (nt h1) (.f (nt h1) (.f (nt h1) (.h 24 (.b false) (.h 27 (.b false) (.h 30 (.b false) (.h 32 (.b false) (.h 34 (.b false) (.r 35 [] [] f10 (.f (nt h1) (.f (nt h1) (.f (nt h2) (.f (nt h2) (.f (nt h2) (.h 36 (.b false) (.h 39 (.b false) (.h 42 (.b false) (.h 44 (.b false) (.h 46 (.b false) (.r 47 [] [] f16 (.f (nt h2) (.f (nt h2) (.f (nt h3) (.h 48 (.b false) (.h 51 (.b false) (.h 52 (.b false) (.r 58 [] [] f20 (.f (nt h4) (.f (nt h5) (.f (nt h5) (.f (nt h5) (.f (nt h5) (.f (nt h5) (.f (nt h6) (.f (nt h6) (.f (nt h6) (.f (nt h6) (.f (nt h6) (.f (nt h7) (.f f33 (.f f34 (.h 65 (.b false) (.h 80 (.b false) (.h 82 (.b false) (.h 84 (.b false) (.h 86 (.b false) (.h 89 (.b false) (.h 92 (.b false) (.h 94 (.b false) (.h 96 (.b false) (.h 98 (.b false) (.h 101 (.b false) (.h 102 (.b false) (.h 111 (.loop (h13_0 l0_2 l0_3 l0_4 a0 0) .ret ⟨[(2,(.oi w0_33))],[]⟩) .nil))))))))))))))))))))))))))))))))))))))))))))))))))))))))))))))))
theorem ow13 {a:List K_si} {k:Int} (h:m57 a k=true):(a.length:Int)≤k:=by
  unfold m57 at h
  split at h
  · simpa using h
  · cases h
theorem rl56 {x:K_R} {a:List K_R} (h:m56 x a=0):x.f3.length≤12:=by
  unfold m56 at h
  by_cases c:m57 x.f3 12=true
  · have:=ow13 c; omega
  · exfalso
    have c:m57 x.f3 12=false:=by simpa using c
    simp only[c,Bool.not_false,if_true] at h
    (repeat' split at h)<;>simp at h
theorem rz13 (a0:K_B):∀(l:List K_R) (i:Int),((∃u v,r13_0 a0 l i=.k0 u v)∧∀z∈l,z.f3.length≤12)∨(∃w,r13_0 a0 l i=.k1 w∧w≠0)
  |[],i=>.inl ⟨⟨_,_,rfl⟩,fun z hz=>by cases hz⟩
  |x::l,i=>by
    have ih:=rz13 a0 l (i+1)
    simp only[r13_0]
    by_cases c:((m56 x (take (Int.toNat i) a0.f3)) !=0)=true
    · rw[if_pos c]; exact .inr ⟨_,rfl,by simpa using c⟩
    · rw[if_neg c]
      rcases ih with⟨h1,h2⟩ | h
      · refine .inl ⟨h1,fun z hz=>?_⟩
        rcases List.mem_cons.1 hz with rfl | hz
        · exact rl56 (by simpa using c)
        · exact h2 z hz
      · exact .inr h
theorem fs13 {a0:K_B} (h:¬((m13 a0) !=0)=true):a0.f2.length≤12∧a0.f3.length≤6∧(∀z∈a0.f3,z.f3.length≤12)∧a0.f4.length≤8:=by
  have h:m13 a0=0:=by simpa using h
  unfold m13 at h
  split at h
  · cases h
  split at h
  · cases h
  split at h
  · cases h
  split at h
  · cases h
  split at h
  · rename_i h2; rw[h] at h2; simp at h2
  rename_i h2
  split at h
  · cases h
  split at h
  · cases h
  rename_i h4
  split at h
  · cases h
  rename_i h5
  simp only[length_map,decide_eq_true_eq] at h4 h5
  rcases rz13 a0 a0.f3 0 with⟨_,hz⟩ |⟨w,hw,hn⟩
  · exact⟨len12_55 _ h2,by omega,hz,by omega⟩
  · rw[hw] at h; exact absurd h hn
/-! slices.Clone[[]loop.example/g00539/impl.Weight,loop.example/g00539/impl.Weight] -/
theorem e94 {a0:List K_si} {l0:Nat} (hy0:length a0*24≤70368744177664):Ev F X (.call 94 [(.one (.bor l0 (map b_si a0)))] [] [] [(.one (.own 2 (map d_si a0)))]):=by
  refine .ext (.inl ⟨rfl,rfl,?_⟩) rfl
  have e:fromBR l0 (map b_si a0)=map d_si a0:=by first | exact fromBR_si .. | simp[fromBR_si]
  refine⟨l0,_,rfl,by rw[e],by rw[e]; simpa using hy0,by rw[e]; exact lenD_si _,by rw[e]; first | exact pureR_si _ | simp[pureR_si]⟩
/-! loop 91_0 -/
inductive O91_0 where
  |k0 (w0:List K_R) (w1:Int) (w2:Bool)
def r91_0 (a0:K_B):List K_R→Int→List K_R→O91_0
  |x0::y0,i,v0=>
    (r91_0 a0 y0 (i+1) (v0++([x0])))
  |[],i,v0=>(O91_0.k0 v0 i (decide (i <((length (map b_R a0.f3)):Int))))
def h91_0 (l0_2:Nat) (l0_3:Nat) (l0_4:Nat) (a0:K_B) (i:Int) (v0:List K_R):St:=⟨[(1,(.ptr ⟨(1,0,0),[],0,0,8⟩)),(2,(.ptr ⟨(2,0,0),[],0,0,8⟩)),(3,(.one (.ref ⟨(3,0,0),[],0,(length (map d_R v0))⟩))),(16,(.one (.bor l0_3 (map b_R a0.f3)))),(17,(.one (.val (.int .i64 ((length (map b_R a0.f3)):Int))))),(18,(.one (.val (.int .i64 i))))],[((1,0,0),.live ⟨8,[[(.val (.int .i64 a0.f0)),(.val (.int .i64 a0.f1)),(.own 2 (map d_si a0.f2)),(.bor l0_3 (map b_R a0.f3)),(.own 2 (map d_si a0.f4)),(.val (.int .i64 a0.f5)),(.val (.int .i64 a0.f6)),(.val (.int .i64 a0.f7))]],[]⟩),((2,0,0),.live ⟨8,[[(.val (.int .i64 0)),(.val (.int .i64 0)),(.own 2 []),(.own 5 []),(.own 2 []),(.val (.int .i64 0)),(.val (.int .i64 0)),(.val (.int .i64 0))]],[]⟩),((3,0,0),.live ⟨5,(map d_R v0),[]⟩)]⟩
def ex91_0:O91_0→VX.Exit
  |.k0 _ _ _=>(.exit 0)
def fin91_0 (l0_2:Nat) (l0_3:Nat) (l0_4:Nat) (a0:K_B):O91_0→St
  |.k0 w0 w1 w2=>⟨[(1,(.ptr ⟨(1,0,0),[],0,0,8⟩)),(2,(.ptr ⟨(2,0,0),[],0,0,8⟩)),(3,(.one (.ref ⟨(3,0,0),[],0,(length (map d_R w0))⟩))),(16,(.one (.bor l0_3 (map b_R a0.f3)))),(17,(.one (.val (.int .i64 ((length (map b_R a0.f3)):Int))))),(18,(.one (.val (.int .i64 w1)))),(19,(.one (.val (.bool w2))))],[((1,0,0),.live ⟨8,[[(.val (.int .i64 a0.f0)),(.val (.int .i64 a0.f1)),(.own 2 (map d_si a0.f2)),(.bor l0_3 (map b_R a0.f3)),(.own 2 (map d_si a0.f4)),(.val (.int .i64 a0.f5)),(.val (.int .i64 a0.f6)),(.val (.int .i64 a0.f7))]],[]⟩),((2,0,0),.live ⟨8,[[(.val (.int .i64 0)),(.val (.int .i64 0)),(.own 2 []),(.own 5 []),(.own 2 []),(.val (.int .i64 0)),(.val (.int .i64 0)),(.val (.int .i64 0))]],[]⟩),((3,0,0),.live ⟨5,(map d_R w0),[]⟩)]⟩
theorem t91_0 {l0_2:Nat} {l0_3:Nat} {l0_4:Nat} {a0:K_B} (hy0:length a0.f2≤100) (hy1:length a0.f3≤100) (hy2:∀z∈a0.f3,length z.f3≤100) (hy3:length a0.f4≤100) (hy4:∀z∈a0.f3,ok_R z):∀(y0:List K_R) (p:List K_R) (v0:List K_R),p++y0=a0.f3→(length v0+length y0)*56≤70368744177664→Ev F X (.code l91_0 (h91_0 l0_2 l0_3 l0_4 a0 (length p:Int) v0) (ex91_0 (r91_0 a0 y0 (length p:Int) v0)) (fin91_0 l0_2 l0_3 l0_4 a0 (r91_0 a0 y0 (length p:Int) v0)))
  |[],p,v0,hp0,hi0=>by
    have hc:¬(decide ((length p:Int) <((length (map b_R a0.f3)):Int)))=true:=by
      rw[← hp0]; simp only[length_map,length_set,length_append,length_replicate,length_cons,length_nil,decide_eq_true_eq]; omega
    have hj0:=hi0; try simp only[length_map,length_set,length_append,length_replicate,length_cons,length_nil,Int.toNat_natCast] at hj0
    have st:=codeH_ok (F:=F) (X:=X) (c:=b91_0) (t:=0) (hs:=[(2,.b false)]) (σ:=h91_0 l0_2 l0_3 l0_4 a0 (length p:Int) v0) (σ':=fin91_0 l0_2 l0_3 l0_4 a0 (.k0 v0 (length p:Int) (decide ((length p:Int) <((length (map b_R a0.f3)):Int))))) (e:=(.exit 0)) (t':=3) (hs':=[]) (q:=[(decide ((length p:Int) <((length (map b_R a0.f3)):Int)))=false]) (by kernel_rfl) ⟨(nt hc),trivial⟩
    exact .loopX st (show ((.exit 0):VX.Exit)≠.normal from by simp)
  |x0::y0,p,v0,hp0,hi0=>by
    have hc:(decide ((length p:Int) <((length (map b_R a0.f3)):Int)))=true:=by
      rw[← hp0]; simp only[length_map,length_set,length_append,length_replicate,length_cons,length_nil,decide_eq_true_eq]; omega
    have Hx0:(a0.f3)[Int.toNat (length p:Int)]?=some x0:=by
      rw[← hp0,Int.toNat_natCast]; simp
    have Nx0_2:=hy2 x0 (List.mem_of_getElem? Hx0)
    have Mx0_0:=hy4 x0 (List.mem_of_getElem? Hx0)
    have hlen:length (a0.f3)=length p+length y0+1:=by rw[← hp0]; simp; omega
    have hw:IntKind.wrap .i64 ((length p:Int)+1)=(length p:Int)+1:=wrap64 (by omega)
    have hj0:=hi0; try simp only[length_map,length_set,length_append,length_replicate,length_cons,length_nil,Int.toNat_natCast] at hj0
    simp only[r91_0]
    have st:=codeH_ok (F:=F) (X:=X) (c:=b91_0) (t:=0) (hs:=[(2,.b true),(4,.row [(.i x0.f0),(.i x0.f1),(.i x0.f2),(.sl (map b_si x0.f3)),(.i x0.f4)]),(16,.ret [] [(.one (.own 2 (map d_si x0.f3)))] [] []),(28,.b false),(31,.norm (3,0,0) (map d_R (v0++([x0]))))]) (σ:=h91_0 l0_2 l0_3 l0_4 a0 (length p:Int) v0) (σ':=⟨[(1,(.ptr ⟨(1,0,0),[],0,0,8⟩)),(2,(.ptr ⟨(2,0,0),[],0,0,8⟩)),(3,(.one (.ref ⟨(3,0,0),[],0,(length ((take (length (map d_R v0)) (drop 0 (map d_R v0)))++([[(.i x0.f0),(.i x0.f1),(.i x0.f2),(.own 2 (map d_si x0.f3)),(.i x0.f4)]]:List (List D))))⟩))),(16,(.one (.bor l0_3 (map b_R a0.f3)))),(17,(.oi ((length (map b_R a0.f3)):Int))),(18,(.oi (IntKind.wrap .i64 ((length p:Int)+1))))],[((1,0,0),.live ⟨8,[[(.i a0.f0),(.i a0.f1),(.own 2 (map d_si a0.f2)),(.bor l0_3 (map b_R a0.f3)),(.own 2 (map d_si a0.f4)),(.i a0.f5),(.i a0.f6),(.i a0.f7)]],[]⟩),((2,0,0),.live ⟨8,[[(.i 0),(.i 0),(.own 2 []),(.own 5 []),(.own 2 []),(.i 0),(.i 0),(.i 0)]],[]⟩),((3,0,0),.live ⟨5,(map d_R (v0++([x0]))),[]⟩)]⟩) (e:=.normal) (t':=36) (hs':=[]) (q:=[(decide ((length p:Int) <((length (map b_R a0.f3)):Int)))=true,0≤(length p:Int),(map b_R a0.f3)[(Int.toNat (length p:Int))]?=some [(.i x0.f0),(.i x0.f1),(.i x0.f2),(.sl (map b_si x0.f3)),(.i x0.f4)],Ev F X (.call 94 [(.one (.bor (l0_3+1) (map b_si x0.f3)))] [] [] [(.one (.own 2 (map d_si x0.f3)))]),0=0,(length (map d_si x0.f3))=(length (map d_si x0.f3)),0=0,(length (map d_si x0.f3))=(length (map d_si x0.f3)),0+(length (map d_R v0))≤(length (map d_R v0)),1≤1,((take 1 (drop 0 [[(.i x0.f0),(.i x0.f1),(.i x0.f2),(.own 2 (map d_si x0.f3)),(.i x0.f4)]])).all fun x=>x.all copyable)=false,0=0,1=1,(length ((take (length (map d_R v0)) (drop 0 (map d_R v0)))++([[(.i x0.f0),(.i x0.f1),(.i x0.f2),(.own 2 (map d_si x0.f3)),(.i x0.f4)]]:List (List D))))*56≤70368744177664,∀r∈([[(.i x0.f0),(.i x0.f1),(.i x0.f2),(.own 2 (map d_si x0.f3)),(.i x0.f4)]]:List (List D)),r.length=5,((take (length (map d_R v0)) (drop 0 (map d_R v0)))++([[(.i x0.f0),(.i x0.f1),(.i x0.f2),(.own 2 (map d_si x0.f3)),(.i x0.f4)]]:List (List D)))=(map d_R (v0++([x0]))),True]) (by kernel_rfl) ⟨hc,(by omega),(by rw[getElem?_map,Hx0]; rfl),(e94 (a0:=x0.f3) (by omega)),rfl,rfl,rfl,rfl,(by omega),(by omega),(by trivial),rfl,rfl,(by simp only[length_map,length_append,length_cons,length_nil,length_take,length_drop]; omega),(by simp; done),(by simp[byteRows_eq,ints_y,take_of_length_le,d_si,d_R,d_B,d_i,d_b,d_C,d_LsiE,d_s,d_Q,d_y,fromBR_si,fromBR_i,fromBR_b,fromBR_s,fromBR_y]; done),trivial,trivial⟩
    have ih:=t91_0 (l0_2:=l0_2) (l0_3:=l0_3) (l0_4:=l0_4) (a0:=a0) hy0 hy1 hy2 hy3 hy4 y0 (p++ [x0]) (v0++([x0])) (by rw[append_assoc]; exact hp0) (by simp only[length_map,length_set,length_append,length_replicate,length_cons,length_nil]; omega)
    rw[show ((p++ [x0]).length:Int)=(p.length:Int)+1 from by simp] at ih
    rw[show (⟨[(1,(.ptr ⟨(1,0,0),[],0,0,8⟩)),(2,(.ptr ⟨(2,0,0),[],0,0,8⟩)),(3,(.one (.ref ⟨(3,0,0),[],0,(length ((take (length (map d_R v0)) (drop 0 (map d_R v0)))++([[(.i x0.f0),(.i x0.f1),(.i x0.f2),(.own 2 (map d_si x0.f3)),(.i x0.f4)]]:List (List D))))⟩))),(16,(.one (.bor l0_3 (map b_R a0.f3)))),(17,(.oi ((length (map b_R a0.f3)):Int))),(18,(.oi (IntKind.wrap .i64 ((length p:Int)+1))))],[((1,0,0),.live ⟨8,[[(.i a0.f0),(.i a0.f1),(.own 2 (map d_si a0.f2)),(.bor l0_3 (map b_R a0.f3)),(.own 2 (map d_si a0.f4)),(.i a0.f5),(.i a0.f6),(.i a0.f7)]],[]⟩),((2,0,0),.live ⟨8,[[(.i 0),(.i 0),(.own 2 []),(.own 5 []),(.own 2 []),(.i 0),(.i 0),(.i 0)]],[]⟩),((3,0,0),.live ⟨5,(map d_R (v0++([x0]))),[]⟩)]⟩:St)=h91_0 l0_2 l0_3 l0_4 a0 ((length p:Int)+1) (v0++([x0])) from(by unfold h91_0; simp[hw,byteRows_eq,ints_y,take_of_length_le,d_si,d_R,d_B,d_i,d_b,d_C,d_LsiE,d_s,d_Q,d_y,fromBR_si,fromBR_i,fromBR_b,fromBR_s,fromBR_y]; done)] at st
    exact .loopN st ih
def post91_0 (n0:Nat):O91_0→Prop
  |.k0 w0 _ _=>length w0=n0
theorem z91_0 {a0:K_B}:∀(y0:List K_R) (i:Int) (v0:List K_R),post91_0 (length v0+length y0) (r91_0 a0 y0 i v0)
  |[],i,v0=>by
    first | trivial |(simp only[post91_0,length_nil,Nat.add_zero]; done) |(simp[post91_0]; done)
  |x0::y0,i,v0=>by
    simp only[r91_0]
    have z:=z91_0 (a0:=a0) y0 (i+1) (v0++([x0]))
    rw[show (length v0+length (x0::y0))=(length (v0++([x0]))+length y0) from by first | omega |(simp only[length_map,length_set,length_append,length_replicate,length_cons,length_nil]; done) |(simp only[length_map,length_set,length_append,length_replicate,length_cons,length_nil]; omega)]
    exact z
/-! loop.example/g00539/impl.cloneLedger -/
def m91 (a0:K_B):K_B:=
  (match r91_0 a0 a0.f3 0 ([]) with | .k0 w0_2 w1_2 w2_2=>(K_B.mk a0.f0 a0.f1 a0.f2 w0_2 a0.f4 a0.f5 a0.f6 a0.f7))
theorem e91 {l0_2:Nat} {l0_3:Nat} {l0_4:Nat} {a0:K_B} (hy0:length a0.f2≤100) (hy1:length a0.f3≤100) (hy2:∀z∈a0.f3,length z.f3≤100) (hy3:length a0.f4≤100) (hy4:∀z∈a0.f3,ok_R z):Ev F X (.call 91 [(.agg [(.val (.int .i64 a0.f0)),(.val (.int .i64 a0.f1)),(.bor l0_2 (map b_si a0.f2)),(.bor l0_3 (map b_R a0.f3)),(.bor l0_4 (map b_si a0.f4)),(.val (.int .i64 a0.f5)),(.val (.int .i64 a0.f6)),(.val (.int .i64 a0.f7))])] [] [] [(.agg [(.val (.int .i64 ((m91 a0).f0))),(.val (.int .i64 ((m91 a0).f1))),(.own 2 (map d_si ((m91 a0).f2))),(.own 5 (map d_R ((m91 a0).f3))),(.own 2 (map d_si ((m91 a0).f4))),(.val (.int .i64 ((m91 a0).f5))),(.val (.int .i64 ((m91 a0).f6))),(.val (.int .i64 ((m91 a0).f7)))])]):=by
  unfold m91
  have f0:Ev F X (.call 94 [(.one (.bor (l0_2+1) (map b_si a0.f2)))] [] [] [(.one (.own 2 (map d_si a0.f2)))]):=(e94 (a0:=a0.f2) (by omega))
  have f1:Ev F X (.call 94 [(.one (.bor (l0_4+1) (map b_si a0.f4)))] [] [] [(.one (.own 2 (map d_si a0.f4)))]):=(e94 (a0:=a0.f4) (by omega))
  have f2:0=0:=rfl
  have f3:(length (map d_si a0.f2))=(length (map d_si a0.f2)):=rfl
  have f4:0=0:=rfl
  have f5:(length (map d_si a0.f4))=(length (map d_si a0.f4)):=rfl
  cases h0:r91_0 a0 a0.f3 0 ([]) with
  |k0 w0_2 w1_2 w2_2=>
    try dsimp only
    have zh0:=z91_0 (a0:=a0) a0.f3 0 ([]); rw[h0] at zh0; simp only[post91_0,length_map,length_set,length_append,length_replicate,length_cons,length_nil,Int.toNat_natCast] at zh0
    have f6:(⟨[(1,(.ptr ⟨(1,0,0),[],0,0,8⟩)),(2,(.ptr ⟨(2,0,0),[],0,0,8⟩)),(3,(.one (.ref ⟨(3,0,0),[],0,0⟩))),(16,(.one (.bor l0_3 (map b_R a0.f3)))),(17,(.oi ((length (map b_R a0.f3)):Int))),(18,(.oi 0))],[((1,0,0),.live ⟨8,[[(.i a0.f0),(.i a0.f1),(.own 2 (map d_si a0.f2)),(.bor l0_3 (map b_R a0.f3)),(.own 2 (map d_si a0.f4)),(.i a0.f5),(.i a0.f6),(.i a0.f7)]],[]⟩),((2,0,0),.live ⟨8,[[(.i 0),(.i 0),(.own 2 []),(.own 5 []),(.own 2 []),(.i 0),(.i 0),(.i 0)]],[]⟩),((3,0,0),.live ⟨5,[],[]⟩)]⟩:St)=h91_0 l0_2 l0_3 l0_4 a0 0 ([]):=(by rfl)
    have f7:Ev F X (.code l91_0 (h91_0 l0_2 l0_3 l0_4 a0 0 ([])) (.exit 0) ⟨[(1,(.ptr ⟨(1,0,0),[],0,0,8⟩)),(2,(.ptr ⟨(2,0,0),[],0,0,8⟩)),(3,(.one (.ref ⟨(3,0,0),[],0,(length (map d_R w0_2))⟩))),(16,(.one (.bor l0_3 (map b_R a0.f3)))),(17,(.oi ((length (map b_R a0.f3)):Int))),(18,(.oi w1_2)),(19,(.one (.val (.bool w2_2))))],[((1,0,0),.live ⟨8,[[(.i a0.f0),(.i a0.f1),(.own 2 (map d_si a0.f2)),(.bor l0_3 (map b_R a0.f3)),(.own 2 (map d_si a0.f4)),(.i a0.f5),(.i a0.f6),(.i a0.f7)]],[]⟩),((2,0,0),.live ⟨8,[[(.i 0),(.i 0),(.own 2 []),(.own 5 []),(.own 2 []),(.i 0),(.i 0),(.i 0)]],[]⟩),((3,0,0),.live ⟨5,(map d_R w0_2),[]⟩)]⟩):=(by have t:Ev F X (.code l91_0 (h91_0 l0_2 l0_3 l0_4 a0 0 ([])) (ex91_0 (r91_0 a0 a0.f3 0 ([]))) (fin91_0 l0_2 l0_3 l0_4 a0 (r91_0 a0 a0.f3 0 ([])))):=t91_0 (l0_2:=l0_2) (l0_3:=l0_3) (l0_4:=l0_4) (a0:=a0) (by assumption) (by assumption) (by assumption) (by assumption) (by assumption) a0.f3 [] ([]) rfl (by simp only[length_map,length_set,length_append,length_replicate,length_cons,length_nil]; omega); rw[h0] at t; exact t)
    have f8:0=0:=rfl
    have f9:(length (map d_R w0_2))=(length (map d_R w0_2)):=rfl
    have f10:0=0:=rfl
    have f11:(length (map d_si a0.f2))=(length (map d_si a0.f2)):=rfl
    have f12:0=0:=rfl
    have f13:(length (map d_R w0_2))=(length (map d_R w0_2)):=rfl
    have f14:0=0:=rfl
    have f15:(length (map d_si a0.f4))=(length (map d_si a0.f4)):=rfl
    have f16:pureR (map d_si a0.f2)=true:=(pureR_si _)
    have f17:pureR (map d_R w0_2)=true:=(pureR_R _)
    have f18:pureR (map d_si a0.f4)=true:=(pureR_si _)
    exact callP_ok (ps:=[]) (os:=[]) (rs:=[(.agg [(.i a0.f0),(.i a0.f1),(.own 2 (map d_si a0.f2)),(.own 5 (map d_R w0_2)),(.own 2 (map d_si a0.f4)),(.i a0.f5),(.i a0.f6),(.i a0.f7)])]) (by kernel_rfl) (.r 9 [] [] f0 (.r 15 [] [] f1 (.f f2 (.f f3 (.f f4 (.f f5 (.f f6 (.f f7 (.f f8 (.f f9 (.f f10 (.f f11 (.f f12 (.f f13 (.f f14 (.f f15 (.f f16 (.f f17 (.f f18 (.h 36 (.loop (h91_0 l0_2 l0_3 l0_4 a0 0 ([])) (.exit 0) ⟨[(1,(.ptr ⟨(1,0,0),[],0,0,8⟩)),(2,(.ptr ⟨(2,0,0),[],0,0,8⟩)),(3,(.one (.ref ⟨(3,0,0),[],0,(length (map d_R w0_2))⟩))),(16,(.one (.bor l0_3 (map b_R a0.f3)))),(17,(.oi ((length (map b_R a0.f3)):Int))),(18,(.oi w1_2)),(19,(.one (.val (.bool w2_2))))],[((1,0,0),.live ⟨8,[[(.i a0.f0),(.i a0.f1),(.own 2 (map d_si a0.f2)),(.bor l0_3 (map b_R a0.f3)),(.own 2 (map d_si a0.f4)),(.i a0.f5),(.i a0.f6),(.i a0.f7)]],[]⟩),((2,0,0),.live ⟨8,[[(.i 0),(.i 0),(.own 2 []),(.own 5 []),(.own 2 []),(.i 0),(.i 0),(.i 0)]],[]⟩),((3,0,0),.live ⟨5,(map d_R w0_2),[]⟩)]⟩) .nil))))))))))))))))))))
theorem cl91 (a0:K_B):∀(l:List K_R) (i:Int) (v:List K_R),∃j b,r91_0 a0 l i v=.k0 (v++l) j b
  |[],i,v=>⟨_,_,by rw[List.append_nil]; rfl⟩
  |x::l,i,v=>by
    obtain⟨j,b,h⟩:=cl91 a0 l (i+1) (v++ [x])
    refine⟨j,b,?_⟩
    simp only[r91_0]
    rw[show v++x::l=(v++ [x])++l by simp,← h]
theorem cp91 (a0:K_B):m91 a0=a0:=by
  unfold m91
  obtain⟨j,b,h⟩:=cl91 a0 a0.f3 0 []
  rw[h]; rfl
/-! loop 83_0 -/
inductive O83_0 where
  |k0 (w0:List K_si) (w1:Int) (w2:Bool)
def r83_0 (a0:K_B) (a1:Nat):List K_si→Int→List K_si→O83_0
  |x0::y0,i,v0=>
    if(decide ((m1009200 v0 x0.f0)≥0))=true then(r83_0 a0 a1 y0 (i+1) (set v0 (Int.toNat (m1009200 v0 x0.f0)) (K_si.mk ((getD v0 (Int.toNat (m1009200 v0 x0.f0)) (K_si.mk (⟨#[]⟩:ByteArray) 0)).f0) (IntKind.wrap .i64 (((getD v0 (Int.toNat (m1009200 v0 x0.f0)) (K_si.mk (⟨#[]⟩:ByteArray) 0)).f1)+x0.f1))))) else
    (r83_0 a0 a1 y0 (i+1) (v0++([x0])))
  |[],i,v0=>(O83_0.k0 v0 i (decide (i <((length (map d_si ((getD a0.f3 a1 (K_R.mk 0 0 0 [] 0)).f3))):Int))))
def h83_0 (a0:K_B) (a1:Nat) (i:Int) (v0:List K_si):St:=⟨[(0,(.ptr ⟨(0,0,0),[],0,0,8⟩)),(1,(.ptr ⟨(0,0,0),[(0,3)],a1,0,5⟩)),(5,(.one (.ref ⟨(5,0,0),[],0,(length (map d_si v0))⟩))),(17,(.one (.ref ⟨(0,0,0),[(0,3),(a1,3)],0,(length (map d_si ((getD a0.f3 a1 (K_R.mk 0 0 0 [] 0)).f3)))⟩))),(18,(.one (.val (.int .i64 ((length (map d_si ((getD a0.f3 a1 (K_R.mk 0 0 0 [] 0)).f3))):Int))))),(19,(.one (.val (.int .i64 i))))],[((0,0,0),.live ⟨8,[[(.val (.int .i64 a0.f0)),(.val (.int .i64 a0.f1)),(.own 2 (map d_si a0.f2)),(.own 5 (map d_R a0.f3)),(.own 2 (map d_si a0.f4)),(.val (.int .i64 a0.f5)),(.val (.int .i64 a0.f6)),(.val (.int .i64 a0.f7))]],[]⟩),((5,0,0),.live ⟨2,(map d_si v0),[]⟩)]⟩
def ex83_0:O83_0→VX.Exit
  |.k0 _ _ _=>(.exit 0)
def fin83_0 (a0:K_B) (a1:Nat):O83_0→St
  |.k0 w0 w1 w2=>⟨[(0,(.ptr ⟨(0,0,0),[],0,0,8⟩)),(1,(.ptr ⟨(0,0,0),[(0,3)],a1,0,5⟩)),(5,(.one (.ref ⟨(5,0,0),[],0,(length (map d_si w0))⟩))),(17,(.one (.ref ⟨(0,0,0),[(0,3),(a1,3)],0,(length (map d_si ((getD a0.f3 a1 (K_R.mk 0 0 0 [] 0)).f3)))⟩))),(18,(.one (.val (.int .i64 ((length (map d_si ((getD a0.f3 a1 (K_R.mk 0 0 0 [] 0)).f3))):Int))))),(19,(.one (.val (.int .i64 w1)))),(20,(.one (.val (.bool w2))))],[((0,0,0),.live ⟨8,[[(.val (.int .i64 a0.f0)),(.val (.int .i64 a0.f1)),(.own 2 (map d_si a0.f2)),(.own 5 (map d_R a0.f3)),(.own 2 (map d_si a0.f4)),(.val (.int .i64 a0.f5)),(.val (.int .i64 a0.f6)),(.val (.int .i64 a0.f7))]],[]⟩),((5,0,0),.live ⟨2,(map d_si w0),[]⟩)]⟩
theorem t83_0 {a0:K_B} {a1:Nat} (hy0:length a0.f2≤100) (hy1:length a0.f3≤100) (hy2:∀z∈a0.f3,length z.f3≤100) (hy3:length a0.f4≤100) (hy4:∀z∈a0.f3,ok_R z) (hy5:a1 < length a0.f3):∀(y0:List K_si) (p:List K_si) (v0:List K_si),p++y0=(getD a0.f3 a1 (K_R.mk 0 0 0 [] 0)).f3→(length v0+length y0)*24≤70368744177664→Ev F X (.code l83_0 (h83_0 a0 a1 (length p:Int) v0) (ex83_0 (r83_0 a0 a1 y0 (length p:Int) v0)) (fin83_0 a0 a1 (r83_0 a0 a1 y0 (length p:Int) v0)))
  |[],p,v0,hp0,hi0=>by
    have hc:¬(decide ((length p:Int) <((length (map d_si ((getD a0.f3 a1 (K_R.mk 0 0 0 [] 0)).f3))):Int)))=true:=by
      rw[← hp0]; simp only[length_map,length_set,length_append,length_replicate,length_cons,length_nil,decide_eq_true_eq]; omega
    have hj0:=hi0; try simp only[length_map,length_set,length_append,length_replicate,length_cons,length_nil,Int.toNat_natCast] at hj0
    have st:=codeH_ok (F:=F) (X:=X) (c:=b83_0) (t:=0) (hs:=[(2,.b false)]) (σ:=h83_0 a0 a1 (length p:Int) v0) (σ':=fin83_0 a0 a1 (.k0 v0 (length p:Int) (decide ((length p:Int) <((length (map d_si ((getD a0.f3 a1 (K_R.mk 0 0 0 [] 0)).f3))):Int))))) (e:=(.exit 0)) (t':=3) (hs':=[]) (q:=[(decide ((length p:Int) <((length (map d_si ((getD a0.f3 a1 (K_R.mk 0 0 0 [] 0)).f3))):Int)))=false]) (by kernel_rfl) ⟨(nt hc),trivial⟩
    exact .loopX st (show ((.exit 0):VX.Exit)≠.normal from by simp)
  |x0::y0,p,v0,hp0,hi0=>by
    have hc:(decide ((length p:Int) <((length (map d_si ((getD a0.f3 a1 (K_R.mk 0 0 0 [] 0)).f3))):Int)))=true:=by
      rw[← hp0]; simp only[length_map,length_set,length_append,length_replicate,length_cons,length_nil,decide_eq_true_eq]; omega
    have Hx0:((getD a0.f3 a1 (K_R.mk 0 0 0 [] 0)).f3)[Int.toNat (length p:Int)]?=some x0:=by
      rw[← hp0,Int.toNat_natCast]; simp
    have hlen:length ((getD a0.f3 a1 (K_R.mk 0 0 0 [] 0)).f3)=length p+length y0+1:=by rw[← hp0]; simp; omega
    have hw:IntKind.wrap .i64 ((length p:Int)+1)=(length p:Int)+1:=wrap64 (by have q2:=og100 (by with_reducible assumption) a1; omega)
    have hj0:=hi0; try simp only[length_map,length_set,length_append,length_replicate,length_cons,length_nil,Int.toNat_natCast] at hj0
    simp only[r83_0]
    by_cases h_1:(decide ((m1009200 v0 x0.f0)≥0))=true
    · try simp only[if_pos h_1]
      have st:=codeH_ok (F:=F) (X:=X) (c:=b83_0) (t:=0) (hs:=[(2,.b true),(4,.nav [((0,0,0),[3,3],2,(map d_si ((getD a0.f3 a1 (K_R.mk 0 0 0 [] 0)).f3)))] [] (.nop)),(6,.nav [((0,0,0),[3,3],2,(map d_si ((getD a0.f3 a1 (K_R.mk 0 0 0 [] 0)).f3)))] [] (.rowD [(.val (.string x0.f0)),(.i x0.f1)])),(18,.ret [] [(.oi (m1009200 v0 x0.f0))] [] [(map b_si v0)]),(25,.b true),(35,.rowD [(.val (.string ((getD v0 (Int.toNat (m1009200 v0 x0.f0)) (K_si.mk (⟨#[]⟩:ByteArray) 0)).f0))),(.i ((getD v0 (Int.toNat (m1009200 v0 x0.f0)) (K_si.mk (⟨#[]⟩:ByteArray) 0)).f1))]),(47,.rowD [(.val (.string ((getD v0 (Int.toNat (m1009200 v0 x0.f0)) (K_si.mk (⟨#[]⟩:ByteArray) 0)).f0))),(.i ((getD v0 (Int.toNat (m1009200 v0 x0.f0)) (K_si.mk (⟨#[]⟩:ByteArray) 0)).f1))]),(48,.norm (5,0,0) (map d_si (set v0 (Int.toNat (m1009200 v0 x0.f0)) (K_si.mk ((getD v0 (Int.toNat (m1009200 v0 x0.f0)) (K_si.mk (⟨#[]⟩:ByteArray) 0)).f0) (IntKind.wrap .i64 (((getD v0 (Int.toNat (m1009200 v0 x0.f0)) (K_si.mk (⟨#[]⟩:ByteArray) 0)).f1)+x0.f1))))))]) (σ:=h83_0 a0 a1 (length p:Int) v0) (σ':=⟨[(0,(.ptr ⟨(0,0,0),[],0,0,8⟩)),(1,(.ptr ⟨(0,0,0),[(0,3)],a1,0,5⟩)),(5,(.one (.ref ⟨(5,0,0),[],0,(length (map d_si v0))⟩))),(17,(.one (.ref ⟨(0,0,0),[(0,3),(a1,3)],0,(length (map d_si ((getD a0.f3 a1 (K_R.mk 0 0 0 [] 0)).f3)))⟩))),(18,(.oi ((length (map d_si ((getD a0.f3 a1 (K_R.mk 0 0 0 [] 0)).f3))):Int))),(19,(.oi (IntKind.wrap .i64 ((length p:Int)+1))))],[((0,0,0),.live ⟨8,[[(.i a0.f0),(.i a0.f1),(.own 2 (map d_si a0.f2)),(.own 5 (map d_R a0.f3)),(.own 2 (map d_si a0.f4)),(.i a0.f5),(.i a0.f6),(.i a0.f7)]],[]⟩),((5,0,0),.live ⟨2,(map d_si (set v0 (Int.toNat (m1009200 v0 x0.f0)) (K_si.mk ((getD v0 (Int.toNat (m1009200 v0 x0.f0)) (K_si.mk (⟨#[]⟩:ByteArray) 0)).f0) (IntKind.wrap .i64 (((getD v0 (Int.toNat (m1009200 v0 x0.f0)) (K_si.mk (⟨#[]⟩:ByteArray) 0)).f1)+x0.f1))))),[]⟩)]⟩) (e:=.normal) (t':=53) (hs':=[]) (q:=[(decide ((length p:Int) <((length (map d_si ((getD a0.f3 a1 (K_R.mk 0 0 0 [] 0)).f3))):Int)))=true,nav 8 [[(.i a0.f0),(.i a0.f1),(.own 2 (map d_si a0.f2)),(.own 5 (map d_R a0.f3)),(.own 2 (map d_si a0.f4)),(.i a0.f5),(.i a0.f6),(.i a0.f7)]] [(0,3),(a1,3)]=some (2,(map d_si ((getD a0.f3 a1 (K_R.mk 0 0 0 [] 0)).f3))),0+(length (map d_si ((getD a0.f3 a1 (K_R.mk 0 0 0 [] 0)).f3)))≤(length (map d_si ((getD a0.f3 a1 (K_R.mk 0 0 0 [] 0)).f3))),0≤(length p:Int)∧(length p:Int) <((length (map d_si ((getD a0.f3 a1 (K_R.mk 0 0 0 [] 0)).f3))):Int),nav 8 [[(.i a0.f0),(.i a0.f1),(.own 2 (map d_si a0.f2)),(.own 5 (map d_R a0.f3)),(.own 2 (map d_si a0.f4)),(.i a0.f5),(.i a0.f6),(.i a0.f7)]] [(0,3),(a1,3)]=some (2,(map d_si ((getD a0.f3 a1 (K_R.mk 0 0 0 [] 0)).f3))),(map d_si ((getD a0.f3 a1 (K_R.mk 0 0 0 [] 0)).f3))[(0+(Int.toNat (length p:Int)))]?=some [(.val (.string x0.f0)),(.i x0.f1)],0+(length (map d_si v0))≤(length (map d_si v0)),fullR (take (length (map d_si v0)) (drop 0 (map d_si v0)))=true,toBR (take (length (map d_si v0)) (drop 0 (map d_si v0)))=(map b_si v0),Ev F X (.call 47 [(.one (.bor 0 (map b_si v0))),(.one (.val (.string x0.f0)))] [] [] [(.oi (m1009200 v0 x0.f0))]),(decide ((m1009200 v0 x0.f0)≥0))=true,0+(length (map d_si v0))≤(length (map d_si v0)),0≤(m1009200 v0 x0.f0)∧(m1009200 v0 x0.f0) <((length (map d_si v0)):Int),(map d_si v0)[(0+(Int.toNat (m1009200 v0 x0.f0)))]?=some [(.val (.string ((getD v0 (Int.toNat (m1009200 v0 x0.f0)) (K_si.mk (⟨#[]⟩:ByteArray) 0)).f0))),(.i ((getD v0 (Int.toNat (m1009200 v0 x0.f0)) (K_si.mk (⟨#[]⟩:ByteArray) 0)).f1))],True,0+(length (map d_si v0))≤(length (map d_si v0)),0≤(m1009200 v0 x0.f0)∧(m1009200 v0 x0.f0) <((length (map d_si v0)):Int),(map d_si v0)[(0+(Int.toNat (m1009200 v0 x0.f0)))]?=some [(.val (.string ((getD v0 (Int.toNat (m1009200 v0 x0.f0)) (K_si.mk (⟨#[]⟩:ByteArray) 0)).f0))),(.i ((getD v0 (Int.toNat (m1009200 v0 x0.f0)) (K_si.mk (⟨#[]⟩:ByteArray) 0)).f1))],(set (map d_si v0) (0+(Int.toNat (m1009200 v0 x0.f0))) [(.val (.string ((getD v0 (Int.toNat (m1009200 v0 x0.f0)) (K_si.mk (⟨#[]⟩:ByteArray) 0)).f0))),(.i (IntKind.wrap .i64 (((getD v0 (Int.toNat (m1009200 v0 x0.f0)) (K_si.mk (⟨#[]⟩:ByteArray) 0)).f1)+x0.f1)))])=(map d_si (set v0 (Int.toNat (m1009200 v0 x0.f0)) (K_si.mk ((getD v0 (Int.toNat (m1009200 v0 x0.f0)) (K_si.mk (⟨#[]⟩:ByteArray) 0)).f0) (IntKind.wrap .i64 (((getD v0 (Int.toNat (m1009200 v0 x0.f0)) (K_si.mk (⟨#[]⟩:ByteArray) 0)).f1)+x0.f1))))),True]) (by kernel_rfl) ⟨hc,(by simp[nav, *,byteRows_eq,ints_y,take_of_length_le,d_si,d_R,d_B,d_i,d_b,d_C,d_LsiE,d_s,d_Q,d_y,fromBR_si,fromBR_i,fromBR_b,fromBR_s,fromBR_y]; done),(by omega),(by have q2:=og100 (by with_reducible assumption) a1; simp only[length_map] at*; omega),(by simp[nav, *,byteRows_eq,ints_y,take_of_length_le,d_si,d_R,d_B,d_i,d_b,d_C,d_LsiE,d_s,d_Q,d_y,fromBR_si,fromBR_i,fromBR_b,fromBR_s,fromBR_y]; done),(by rw[Nat.zero_add,getElem?_map,Hx0]; rfl),(by omega),(ft_si _ _ _),(tb_si _),(e47 (a0:=v0) (a1:=x0.f0) (by omega)),h_1,(by omega),(by have q:=ix1009200 v0 x0.f0; simp only[decide_eq_true_eq,length_map] at*; omega),(by rw[Nat.zero_add,getElem?_map,getD_at v0 (Int.toNat (m1009200 v0 x0.f0)) (K_si.mk (⟨#[]⟩:ByteArray) 0) (by first | exact True.intro | with_reducible rfl | with_reducible assumption | omega |(have q:=al83 (by with_reducible assumption); have q2:=og100 (by with_reducible assumption) a1; simp only[decide_eq_true_eq,length_map,length_append,length_nil,length_cons] at*; omega) |(have q2:=og100 (by with_reducible assumption) a1; simp only[length_map] at*; omega) |(exact og100 (by with_reducible assumption) _) |(have q:=ix1009200 v0 x0.f0; simp only[decide_eq_true_eq,length_map] at*; omega) |(unfold m1009200;(repeat' split)<;>simp_all<;>omega) |(simp only[decide_eq_true_eq] at*; omega) |(simp only[length_map]; omega) |(simp; omega) |(simp[take_of_length_le]; done) | assumption | trivial |(simp[*,byteRows_eq,ints_y]; done))]; rfl),trivial,(by omega),(by have q:=ix1009200 v0 x0.f0; simp only[decide_eq_true_eq,length_map] at*; omega),(by rw[Nat.zero_add,getElem?_map,getD_at v0 (Int.toNat (m1009200 v0 x0.f0)) (K_si.mk (⟨#[]⟩:ByteArray) 0) (by first | exact True.intro | with_reducible rfl | with_reducible assumption | omega |(have q:=al83 (by with_reducible assumption); have q2:=og100 (by with_reducible assumption) a1; simp only[decide_eq_true_eq,length_map,length_append,length_nil,length_cons] at*; omega) |(have q2:=og100 (by with_reducible assumption) a1; simp only[length_map] at*; omega) |(exact og100 (by with_reducible assumption) _) |(have q:=ix1009200 v0 x0.f0; simp only[decide_eq_true_eq,length_map] at*; omega) |(unfold m1009200;(repeat' split)<;>simp_all<;>omega) |(simp only[decide_eq_true_eq] at*; omega) |(simp only[length_map]; omega) |(simp; omega) |(simp[take_of_length_le]; done) | assumption | trivial |(simp[*,byteRows_eq,ints_y]; done))]; rfl),(by simp[byteRows_eq,ints_y,take_of_length_le,d_si,d_R,d_B,d_i,d_b,d_C,d_LsiE,d_s,d_Q,d_y,fromBR_si,fromBR_i,fromBR_b,fromBR_s,fromBR_y]; done),trivial,trivial⟩
      have ih:=t83_0 (a0:=a0) (a1:=a1) hy0 hy1 hy2 hy3 hy4 hy5 y0 (p++ [x0]) (set v0 (Int.toNat (m1009200 v0 x0.f0)) (K_si.mk ((getD v0 (Int.toNat (m1009200 v0 x0.f0)) (K_si.mk (⟨#[]⟩:ByteArray) 0)).f0) (IntKind.wrap .i64 (((getD v0 (Int.toNat (m1009200 v0 x0.f0)) (K_si.mk (⟨#[]⟩:ByteArray) 0)).f1)+x0.f1)))) (by rw[append_assoc]; exact hp0) (by simp only[length_map,length_set,length_append,length_replicate,length_cons,length_nil]; omega)
      rw[show ((p++ [x0]).length:Int)=(p.length:Int)+1 from by simp] at ih
      rw[show (⟨[(0,(.ptr ⟨(0,0,0),[],0,0,8⟩)),(1,(.ptr ⟨(0,0,0),[(0,3)],a1,0,5⟩)),(5,(.one (.ref ⟨(5,0,0),[],0,(length (map d_si v0))⟩))),(17,(.one (.ref ⟨(0,0,0),[(0,3),(a1,3)],0,(length (map d_si ((getD a0.f3 a1 (K_R.mk 0 0 0 [] 0)).f3)))⟩))),(18,(.oi ((length (map d_si ((getD a0.f3 a1 (K_R.mk 0 0 0 [] 0)).f3))):Int))),(19,(.oi (IntKind.wrap .i64 ((length p:Int)+1))))],[((0,0,0),.live ⟨8,[[(.i a0.f0),(.i a0.f1),(.own 2 (map d_si a0.f2)),(.own 5 (map d_R a0.f3)),(.own 2 (map d_si a0.f4)),(.i a0.f5),(.i a0.f6),(.i a0.f7)]],[]⟩),((5,0,0),.live ⟨2,(map d_si (set v0 (Int.toNat (m1009200 v0 x0.f0)) (K_si.mk ((getD v0 (Int.toNat (m1009200 v0 x0.f0)) (K_si.mk (⟨#[]⟩:ByteArray) 0)).f0) (IntKind.wrap .i64 (((getD v0 (Int.toNat (m1009200 v0 x0.f0)) (K_si.mk (⟨#[]⟩:ByteArray) 0)).f1)+x0.f1))))),[]⟩)]⟩:St)=h83_0 a0 a1 ((length p:Int)+1) (set v0 (Int.toNat (m1009200 v0 x0.f0)) (K_si.mk ((getD v0 (Int.toNat (m1009200 v0 x0.f0)) (K_si.mk (⟨#[]⟩:ByteArray) 0)).f0) (IntKind.wrap .i64 (((getD v0 (Int.toNat (m1009200 v0 x0.f0)) (K_si.mk (⟨#[]⟩:ByteArray) 0)).f1)+x0.f1)))) from(by unfold h83_0; simp only[hw,length_map,length_set,length_append,length_replicate,length_cons,length_nil]; done)] at st
      exact .loopN st ih
    · try simp only[if_neg h_1]
      have st:=codeH_ok (F:=F) (X:=X) (c:=b83_0) (t:=0) (hs:=[(2,.b true),(4,.nav [((0,0,0),[3,3],2,(map d_si ((getD a0.f3 a1 (K_R.mk 0 0 0 [] 0)).f3)))] [] (.nop)),(6,.nav [((0,0,0),[3,3],2,(map d_si ((getD a0.f3 a1 (K_R.mk 0 0 0 [] 0)).f3)))] [] (.rowD [(.val (.string x0.f0)),(.i x0.f1)])),(18,.ret [] [(.oi (m1009200 v0 x0.f0))] [] [(map b_si v0)]),(25,.b false),(33,.b true),(36,.norm (5,0,0) (map d_si (v0++([x0]))))]) (σ:=h83_0 a0 a1 (length p:Int) v0) (σ':=⟨[(0,(.ptr ⟨(0,0,0),[],0,0,8⟩)),(1,(.ptr ⟨(0,0,0),[(0,3)],a1,0,5⟩)),(5,(.one (.ref ⟨(5,0,0),[],0,(length ((take (length (map d_si v0)) (drop 0 (map d_si v0)))++([[(.val (.string x0.f0)),(.i x0.f1)]]:List (List D))))⟩))),(17,(.one (.ref ⟨(0,0,0),[(0,3),(a1,3)],0,(length (map d_si ((getD a0.f3 a1 (K_R.mk 0 0 0 [] 0)).f3)))⟩))),(18,(.oi ((length (map d_si ((getD a0.f3 a1 (K_R.mk 0 0 0 [] 0)).f3))):Int))),(19,(.oi (IntKind.wrap .i64 ((length p:Int)+1))))],[((0,0,0),.live ⟨8,[[(.i a0.f0),(.i a0.f1),(.own 2 (map d_si a0.f2)),(.own 5 (map d_R a0.f3)),(.own 2 (map d_si a0.f4)),(.i a0.f5),(.i a0.f6),(.i a0.f7)]],[]⟩),((5,0,0),.live ⟨2,(map d_si (v0++([x0]))),[]⟩)]⟩) (e:=.normal) (t':=41) (hs':=[]) (q:=[(decide ((length p:Int) <((length (map d_si ((getD a0.f3 a1 (K_R.mk 0 0 0 [] 0)).f3))):Int)))=true,nav 8 [[(.i a0.f0),(.i a0.f1),(.own 2 (map d_si a0.f2)),(.own 5 (map d_R a0.f3)),(.own 2 (map d_si a0.f4)),(.i a0.f5),(.i a0.f6),(.i a0.f7)]] [(0,3),(a1,3)]=some (2,(map d_si ((getD a0.f3 a1 (K_R.mk 0 0 0 [] 0)).f3))),0+(length (map d_si ((getD a0.f3 a1 (K_R.mk 0 0 0 [] 0)).f3)))≤(length (map d_si ((getD a0.f3 a1 (K_R.mk 0 0 0 [] 0)).f3))),0≤(length p:Int)∧(length p:Int) <((length (map d_si ((getD a0.f3 a1 (K_R.mk 0 0 0 [] 0)).f3))):Int),nav 8 [[(.i a0.f0),(.i a0.f1),(.own 2 (map d_si a0.f2)),(.own 5 (map d_R a0.f3)),(.own 2 (map d_si a0.f4)),(.i a0.f5),(.i a0.f6),(.i a0.f7)]] [(0,3),(a1,3)]=some (2,(map d_si ((getD a0.f3 a1 (K_R.mk 0 0 0 [] 0)).f3))),(map d_si ((getD a0.f3 a1 (K_R.mk 0 0 0 [] 0)).f3))[(0+(Int.toNat (length p:Int)))]?=some [(.val (.string x0.f0)),(.i x0.f1)],0+(length (map d_si v0))≤(length (map d_si v0)),fullR (take (length (map d_si v0)) (drop 0 (map d_si v0)))=true,toBR (take (length (map d_si v0)) (drop 0 (map d_si v0)))=(map b_si v0),Ev F X (.call 47 [(.one (.bor 0 (map b_si v0))),(.one (.val (.string x0.f0)))] [] [] [(.oi (m1009200 v0 x0.f0))]),(decide ((m1009200 v0 x0.f0)≥0))=false,0+(length (map d_si v0))≤(length (map d_si v0)),1≤1,((take 1 (drop 0 [[(.val (.string x0.f0)),(.i x0.f1)]])).all fun x=>x.all copyable)=true,(length ((take (length (map d_si v0)) (drop 0 (map d_si v0)))++([[(.val (.string x0.f0)),(.i x0.f1)]]:List (List D))))*24≤70368744177664,∀r∈([[(.val (.string x0.f0)),(.i x0.f1)]]:List (List D)),r.length=2,((take (length (map d_si v0)) (drop 0 (map d_si v0)))++([[(.val (.string x0.f0)),(.i x0.f1)]]:List (List D)))=(map d_si (v0++([x0]))),True]) (by kernel_rfl) ⟨hc,(by simp[nav, *,byteRows_eq,ints_y,take_of_length_le,d_si,d_R,d_B,d_i,d_b,d_C,d_LsiE,d_s,d_Q,d_y,fromBR_si,fromBR_i,fromBR_b,fromBR_s,fromBR_y]; done),(by omega),(by have q2:=og100 (by with_reducible assumption) a1; simp only[length_map] at*; omega),(by simp[nav, *,byteRows_eq,ints_y,take_of_length_le,d_si,d_R,d_B,d_i,d_b,d_C,d_LsiE,d_s,d_Q,d_y,fromBR_si,fromBR_i,fromBR_b,fromBR_s,fromBR_y]; done),(by rw[Nat.zero_add,getElem?_map,Hx0]; rfl),(by omega),(ft_si _ _ _),(tb_si _),(e47 (a0:=v0) (a1:=x0.f0) (by omega)),(nt h_1),(by omega),(by omega),(by trivial),(by simp only[length_map,length_append,length_cons,length_nil,length_take,length_drop]; omega),(by simp; done),(by simp[byteRows_eq,ints_y,take_of_length_le,d_si,d_R,d_B,d_i,d_b,d_C,d_LsiE,d_s,d_Q,d_y,fromBR_si,fromBR_i,fromBR_b,fromBR_s,fromBR_y]; done),trivial,trivial⟩
      have ih:=t83_0 (a0:=a0) (a1:=a1) hy0 hy1 hy2 hy3 hy4 hy5 y0 (p++ [x0]) (v0++([x0])) (by rw[append_assoc]; exact hp0) (by simp only[length_map,length_set,length_append,length_replicate,length_cons,length_nil]; omega)
      rw[show ((p++ [x0]).length:Int)=(p.length:Int)+1 from by simp] at ih
      rw[show (⟨[(0,(.ptr ⟨(0,0,0),[],0,0,8⟩)),(1,(.ptr ⟨(0,0,0),[(0,3)],a1,0,5⟩)),(5,(.one (.ref ⟨(5,0,0),[],0,(length ((take (length (map d_si v0)) (drop 0 (map d_si v0)))++([[(.val (.string x0.f0)),(.i x0.f1)]]:List (List D))))⟩))),(17,(.one (.ref ⟨(0,0,0),[(0,3),(a1,3)],0,(length (map d_si ((getD a0.f3 a1 (K_R.mk 0 0 0 [] 0)).f3)))⟩))),(18,(.oi ((length (map d_si ((getD a0.f3 a1 (K_R.mk 0 0 0 [] 0)).f3))):Int))),(19,(.oi (IntKind.wrap .i64 ((length p:Int)+1))))],[((0,0,0),.live ⟨8,[[(.i a0.f0),(.i a0.f1),(.own 2 (map d_si a0.f2)),(.own 5 (map d_R a0.f3)),(.own 2 (map d_si a0.f4)),(.i a0.f5),(.i a0.f6),(.i a0.f7)]],[]⟩),((5,0,0),.live ⟨2,(map d_si (v0++([x0]))),[]⟩)]⟩:St)=h83_0 a0 a1 ((length p:Int)+1) (v0++([x0])) from(by unfold h83_0; simp[hw,byteRows_eq,ints_y,take_of_length_le,d_si,d_R,d_B,d_i,d_b,d_C,d_LsiE,d_s,d_Q,d_y,fromBR_si,fromBR_i,fromBR_b,fromBR_s,fromBR_y]; done)] at st
      exact .loopN st ih
theorem al83 {a:K_B} {c:Nat}:∀ {l:List K_si} {i:Int} {v:List K_si} {w:List K_si} {j b},r83_0 a c l i v=.k0 w j b→w.length≤v.length+l.length
  |[],i,v,w,j,b,h=>by simp only[r83_0] at h; injection h with h; subst h; simp
  |x::l,i,v,w,j,b,h=>by
    simp only[r83_0] at h
    split at h
    · have q:=al83 h; simp only[length_set,length_cons] at q⊢; omega
    · have q:=al83 h; simp only[length_append,length_cons,length_nil] at q⊢; omega
/-! (*loop.example/g00539/impl.Ledger).ripen -/
def o83_0 (a0:K_B) (a1:Nat):K_B:=
  (match r83_0 a0 a1 ((getD a0.f3 a1 (K_R.mk 0 0 0 [] 0)).f3) 0 a0.f4 with | .k0 w0_2 w1_2 w2_2=>(if(decide (((length (map d_si w0_2)):Int) > 8))=true then a0 else if(!(m45 (IntKind.wrap .i64 (a0.f6+((getD a0.f3 a1 (K_R.mk 0 0 0 [] 0)).f2))) 0 1000000))=true then a0 else if(!(m57 w0_2 8))=true then a0 else(K_B.mk a0.f0 a0.f1 a0.f2 (set a0.f3 a1 (K_R.mk ((getD a0.f3 a1 (K_R.mk 0 0 0 [] 0)).f0) ((getD a0.f3 a1 (K_R.mk 0 0 0 [] 0)).f1) ((getD a0.f3 a1 (K_R.mk 0 0 0 [] 0)).f2) ((getD a0.f3 a1 (K_R.mk 0 0 0 [] 0)).f3) 2)) w0_2 a0.f5 (IntKind.wrap .i64 (a0.f6+((getD a0.f3 a1 (K_R.mk 0 0 0 [] 0)).f2))) a0.f7)))
def m83 (a0:K_B) (a1:Nat):Int:=
  (match r83_0 a0 a1 ((getD a0.f3 a1 (K_R.mk 0 0 0 [] 0)).f3) 0 a0.f4 with | .k0 w0_2 w1_2 w2_2=>(if(decide (((length (map d_si w0_2)):Int) > 8))=true then 10 else if(!(m45 (IntKind.wrap .i64 (a0.f6+((getD a0.f3 a1 (K_R.mk 0 0 0 [] 0)).f2))) 0 1000000))=true then 7 else if(!(m57 w0_2 8))=true then 7 else 0))
theorem e83 {a0:K_B} {a1:Nat} (hy0:length a0.f2≤100) (hy1:length a0.f3≤100) (hy2:∀z∈a0.f3,length z.f3≤100) (hy3:length a0.f4≤100) (hy4:∀z∈a0.f3,ok_R z) (hy5:a1 < length a0.f3):Ev F X (.call 83 [(.ptr ⟨(0,0,0),[],0,0,8⟩),(.ptr ⟨(0,0,0),[(0,3)],a1,0,5⟩)] [((0,0,0),⟨8,[[(.val (.int .i64 a0.f0)),(.val (.int .i64 a0.f1)),(.own 2 (map d_si a0.f2)),(.own 5 (map d_R a0.f3)),(.own 2 (map d_si a0.f4)),(.val (.int .i64 a0.f5)),(.val (.int .i64 a0.f6)),(.val (.int .i64 a0.f7))]],[]⟩)] [[[(.val (.int .i64 ((o83_0 a0 a1).f0))),(.val (.int .i64 ((o83_0 a0 a1).f1))),(.own 2 (map d_si ((o83_0 a0 a1).f2))),(.own 5 (map d_R ((o83_0 a0 a1).f3))),(.own 2 (map d_si ((o83_0 a0 a1).f4))),(.val (.int .i64 ((o83_0 a0 a1).f5))),(.val (.int .i64 ((o83_0 a0 a1).f6))),(.val (.int .i64 ((o83_0 a0 a1).f7)))]]] [(.one (.val (.int .i64 (m83 a0 a1))))]):=by
  unfold m83 o83_0
  have f0:0+(length (map d_si a0.f4))≤(length (map d_si a0.f4)):=(by omega)
  have f1:fullR (take (length (map d_si a0.f4)) (drop 0 (map d_si a0.f4)))=true:=(ft_si _ _ _)
  have f2:toBR (take (length (map d_si a0.f4)) (drop 0 (map d_si a0.f4)))=(map b_si a0.f4):=(tb_si _)
  have f3:Ev F X (.call 94 [(.one (.bor 0 (map b_si a0.f4)))] [] [] [(.one (.own 2 (map d_si a0.f4)))]):=(e94 (a0:=a0.f4) (by omega))
  have f4:(map d_R a0.f3)[a1]?=some [(.val (.int .i64 ((getD a0.f3 a1 (K_R.mk 0 0 0 [] 0)).f0))),(.val (.int .i64 ((getD a0.f3 a1 (K_R.mk 0 0 0 [] 0)).f1))),(.val (.int .i64 ((getD a0.f3 a1 (K_R.mk 0 0 0 [] 0)).f2))),(.own 2 (map d_si ((getD a0.f3 a1 (K_R.mk 0 0 0 [] 0)).f3))),(.val (.int .i64 ((getD a0.f3 a1 (K_R.mk 0 0 0 [] 0)).f4)))]:=(by rw[getElem?_map,getD_at a0.f3 a1 (K_R.mk 0 0 0 [] 0) (by first | exact True.intro | with_reducible rfl | with_reducible assumption | omega |(have q:=al83 (by with_reducible assumption); have q2:=og100 (by with_reducible assumption) a1; simp only[decide_eq_true_eq,length_map,length_append,length_nil,length_cons] at*; omega) |(have q2:=og100 (by with_reducible assumption) a1; simp only[length_map] at*; omega) |(exact og100 (by with_reducible assumption) _) |(simp only[decide_eq_true_eq] at*; omega) |(simp only[length_map]; omega) |(simp; omega) |(simp[take_of_length_le]; done) | assumption | trivial |(simp[*,byteRows_eq,ints_y]; done))]; rfl)
  cases h0:r83_0 a0 a1 ((getD a0.f3 a1 (K_R.mk 0 0 0 [] 0)).f3) 0 a0.f4 with
  |k0 w0_2 w1_2 w2_2=>
    try dsimp only
    have f5:(⟨[(0,(.ptr ⟨(0,0,0),[],0,0,8⟩)),(1,(.ptr ⟨(0,0,0),[(0,3)],a1,0,5⟩)),(5,(.one (.ref ⟨(5,0,0),[],0,(length (map d_si a0.f4))⟩))),(17,(.one (.ref ⟨(0,0,0),[(0,3),(a1,3)],0,(length (map d_si ((getD a0.f3 a1 (K_R.mk 0 0 0 [] 0)).f3)))⟩))),(18,(.oi ((length (map d_si ((getD a0.f3 a1 (K_R.mk 0 0 0 [] 0)).f3))):Int))),(19,(.oi 0))],[((0,0,0),.live ⟨8,[[(.i a0.f0),(.i a0.f1),(.own 2 (map d_si a0.f2)),(.own 5 (map d_R a0.f3)),(.own 2 (map d_si a0.f4)),(.i a0.f5),(.i a0.f6),(.i a0.f7)]],[]⟩),((5,0,0),.live ⟨2,(map d_si a0.f4),[]⟩)]⟩:St)=h83_0 a0 a1 0 a0.f4:=(by rfl)
    have f6:Ev F X (.code l83_0 (h83_0 a0 a1 0 a0.f4) (.exit 0) ⟨[(0,(.ptr ⟨(0,0,0),[],0,0,8⟩)),(1,(.ptr ⟨(0,0,0),[(0,3)],a1,0,5⟩)),(5,(.one (.ref ⟨(5,0,0),[],0,(length (map d_si w0_2))⟩))),(17,(.one (.ref ⟨(0,0,0),[(0,3),(a1,3)],0,(length (map d_si ((getD a0.f3 a1 (K_R.mk 0 0 0 [] 0)).f3)))⟩))),(18,(.oi ((length (map d_si ((getD a0.f3 a1 (K_R.mk 0 0 0 [] 0)).f3))):Int))),(19,(.oi w1_2)),(20,(.one (.val (.bool w2_2))))],[((0,0,0),.live ⟨8,[[(.i a0.f0),(.i a0.f1),(.own 2 (map d_si a0.f2)),(.own 5 (map d_R a0.f3)),(.own 2 (map d_si a0.f4)),(.i a0.f5),(.i a0.f6),(.i a0.f7)]],[]⟩),((5,0,0),.live ⟨2,(map d_si w0_2),[]⟩)]⟩):=(by have t:Ev F X (.code l83_0 (h83_0 a0 a1 0 a0.f4) (ex83_0 (r83_0 a0 a1 ((getD a0.f3 a1 (K_R.mk 0 0 0 [] 0)).f3) 0 a0.f4)) (fin83_0 a0 a1 (r83_0 a0 a1 ((getD a0.f3 a1 (K_R.mk 0 0 0 [] 0)).f3) 0 a0.f4))):=t83_0 (a0:=a0) (a1:=a1) (by assumption) (by assumption) (by assumption) (by assumption) (by assumption) (by assumption) ((getD a0.f3 a1 (K_R.mk 0 0 0 [] 0)).f3) [] a0.f4 rfl (by have q2:=og100 (by with_reducible assumption) a1; simp only[length_map] at*; omega); rw[h0] at t; exact t)
    by_cases h1:(decide (((length (map d_si w0_2)):Int) > 8))=true
    · try simp only[if_pos h1]
      have f8:pureR (map d_si a0.f2)=true:=(pureR_si _)
      have f9:pureR (map d_R a0.f3)=true:=(pureR_R _)
      have f10:pureR (map d_si a0.f4)=true:=(pureR_si _)
      exact callP_ok (ps:=[false]) (os:=[[[(.i a0.f0),(.i a0.f1),(.own 2 (map d_si a0.f2)),(.own 5 (map d_R a0.f3)),(.own 2 (map d_si a0.f4)),(.i a0.f5),(.i a0.f6),(.i a0.f7)]]]) (rs:=[(.oi 10)]) (by kernel_rfl) (.f f0 (.f f1 (.f f2 (.r 11 [] [(map b_si a0.f4)] f3 (.f f4 (.f f5 (.f f6 (.f h1 (.f f8 (.f f9 (.f f10 (.h 21 (.rowD [(.i ((getD a0.f3 a1 (K_R.mk 0 0 0 [] 0)).f0)),(.i ((getD a0.f3 a1 (K_R.mk 0 0 0 [] 0)).f1)),(.i ((getD a0.f3 a1 (K_R.mk 0 0 0 [] 0)).f2)),(.own 2 (map d_si ((getD a0.f3 a1 (K_R.mk 0 0 0 [] 0)).f3))),(.i ((getD a0.f3 a1 (K_R.mk 0 0 0 [] 0)).f4))]) (.h 26 (.loop (h83_0 a0 a1 0 a0.f4) (.exit 0) ⟨[(0,(.ptr ⟨(0,0,0),[],0,0,8⟩)),(1,(.ptr ⟨(0,0,0),[(0,3)],a1,0,5⟩)),(5,(.one (.ref ⟨(5,0,0),[],0,(length (map d_si w0_2))⟩))),(17,(.one (.ref ⟨(0,0,0),[(0,3),(a1,3)],0,(length (map d_si ((getD a0.f3 a1 (K_R.mk 0 0 0 [] 0)).f3)))⟩))),(18,(.oi ((length (map d_si ((getD a0.f3 a1 (K_R.mk 0 0 0 [] 0)).f3))):Int))),(19,(.oi w1_2)),(20,(.one (.val (.bool w2_2))))],[((0,0,0),.live ⟨8,[[(.i a0.f0),(.i a0.f1),(.own 2 (map d_si a0.f2)),(.own 5 (map d_R a0.f3)),(.own 2 (map d_si a0.f4)),(.i a0.f5),(.i a0.f6),(.i a0.f7)]],[]⟩),((5,0,0),.live ⟨2,(map d_si w0_2),[]⟩)]⟩) (.h 35 (.b true) .nil))))))))))))))
    · try simp only[if_neg h1]
      have f8:(map d_R a0.f3)[a1]?=some [(.val (.int .i64 ((getD a0.f3 a1 (K_R.mk 0 0 0 [] 0)).f0))),(.val (.int .i64 ((getD a0.f3 a1 (K_R.mk 0 0 0 [] 0)).f1))),(.val (.int .i64 ((getD a0.f3 a1 (K_R.mk 0 0 0 [] 0)).f2))),(.own 2 (map d_si ((getD a0.f3 a1 (K_R.mk 0 0 0 [] 0)).f3))),(.val (.int .i64 ((getD a0.f3 a1 (K_R.mk 0 0 0 [] 0)).f4)))]:=(by rw[getElem?_map,getD_at a0.f3 a1 (K_R.mk 0 0 0 [] 0) (by first | exact True.intro | with_reducible rfl | with_reducible assumption | omega |(have q:=al83 (by with_reducible assumption); have q2:=og100 (by with_reducible assumption) a1; simp only[decide_eq_true_eq,length_map,length_append,length_nil,length_cons] at*; omega) |(have q2:=og100 (by with_reducible assumption) a1; simp only[length_map] at*; omega) |(exact og100 (by with_reducible assumption) _) |(simp only[decide_eq_true_eq] at*; omega) |(simp only[length_map]; omega) |(simp; omega) |(simp[take_of_length_le]; done) | assumption | trivial |(simp[*,byteRows_eq,ints_y]; done))]; rfl)
      have f10:Ev F X (.call 46 [(.oi (IntKind.wrap .i64 (a0.f6+((getD a0.f3 a1 (K_R.mk 0 0 0 [] 0)).f2))))] [] [] [(.one (.val (.bool (m45 (IntKind.wrap .i64 (a0.f6+((getD a0.f3 a1 (K_R.mk 0 0 0 [] 0)).f2))) 0 1000000))))]):=(e46 (a0:=(IntKind.wrap .i64 (a0.f6+((getD a0.f3 a1 (K_R.mk 0 0 0 [] 0)).f2)))))
      by_cases h2:(!(m45 (IntKind.wrap .i64 (a0.f6+((getD a0.f3 a1 (K_R.mk 0 0 0 [] 0)).f2))) 0 1000000))=true
      · try simp only[if_pos h2]
        have f15:pureR (map d_si a0.f2)=true:=(pureR_si _)
        have f16:pureR (map d_R a0.f3)=true:=(pureR_R _)
        have f17:pureR (map d_si a0.f4)=true:=(pureR_si _)
        exact callP_ok (ps:=[false]) (os:=[[[(.i a0.f0),(.i a0.f1),(.own 2 (map d_si a0.f2)),(.own 5 (map d_R a0.f3)),(.own 2 (map d_si a0.f4)),(.i a0.f5),(.i a0.f6),(.i a0.f7)]]]) (rs:=[(.oi 7)]) (by kernel_rfl) (.f f0 (.f f1 (.f f2 (.r 11 [] [(map b_si a0.f4)] f3 (.f f4 (.f f5 (.f f6 (.f (nt h1) (.f f8 (.f trivial (.h 21 (.rowD [(.i ((getD a0.f3 a1 (K_R.mk 0 0 0 [] 0)).f0)),(.i ((getD a0.f3 a1 (K_R.mk 0 0 0 [] 0)).f1)),(.i ((getD a0.f3 a1 (K_R.mk 0 0 0 [] 0)).f2)),(.own 2 (map d_si ((getD a0.f3 a1 (K_R.mk 0 0 0 [] 0)).f3))),(.i ((getD a0.f3 a1 (K_R.mk 0 0 0 [] 0)).f4))]) (.h 26 (.loop (h83_0 a0 a1 0 a0.f4) (.exit 0) ⟨[(0,(.ptr ⟨(0,0,0),[],0,0,8⟩)),(1,(.ptr ⟨(0,0,0),[(0,3)],a1,0,5⟩)),(5,(.one (.ref ⟨(5,0,0),[],0,(length (map d_si w0_2))⟩))),(17,(.one (.ref ⟨(0,0,0),[(0,3),(a1,3)],0,(length (map d_si ((getD a0.f3 a1 (K_R.mk 0 0 0 [] 0)).f3)))⟩))),(18,(.oi ((length (map d_si ((getD a0.f3 a1 (K_R.mk 0 0 0 [] 0)).f3))):Int))),(19,(.oi w1_2)),(20,(.one (.val (.bool w2_2))))],[((0,0,0),.live ⟨8,[[(.i a0.f0),(.i a0.f1),(.own 2 (map d_si a0.f2)),(.own 5 (map d_R a0.f3)),(.own 2 (map d_si a0.f4)),(.i a0.f5),(.i a0.f6),(.i a0.f7)]],[]⟩),((5,0,0),.live ⟨2,(map d_si w0_2),[]⟩)]⟩) (.h 35 (.b false) (.h 51 (.rowD [(.i ((getD a0.f3 a1 (K_R.mk 0 0 0 [] 0)).f0)),(.i ((getD a0.f3 a1 (K_R.mk 0 0 0 [] 0)).f1)),(.i ((getD a0.f3 a1 (K_R.mk 0 0 0 [] 0)).f2)),(.own 2 (map d_si ((getD a0.f3 a1 (K_R.mk 0 0 0 [] 0)).f3))),(.i ((getD a0.f3 a1 (K_R.mk 0 0 0 [] 0)).f4))]) (.r 55 [] [] f10 (.f h2 (.f h2 (.f h2 (.f h2 (.f f15 (.f f16 (.f f17 (.h 60 (.b true) (.h 62 (.b true) (.h 64 (.b true) (.h 67 (.b true) .nil))))))))))))))))))))))))))
      · try simp only[if_neg h2]
        have f13:0+(length (map d_si w0_2))≤(length (map d_si w0_2)):=(by omega)
        have f14:fullR (take (length (map d_si w0_2)) (drop 0 (map d_si w0_2)))=true:=(ft_si _ _ _)
        have f15:toBR (take (length (map d_si w0_2)) (drop 0 (map d_si w0_2)))=(map b_si w0_2):=(tb_si _)
        have f16:Ev F X (.call 57 [(.one (.bor 0 (map b_si w0_2))),(.oi 8)] [] [] [(.one (.val (.bool (m57 w0_2 8))))]):=(e57 (a0:=w0_2) (a1:=8) (by have q:=al83 (by with_reducible assumption); have q2:=og100 (by with_reducible assumption) a1; simp only[decide_eq_true_eq,length_map,length_append,length_nil,length_cons] at*; omega))
        by_cases h3:(!(m57 w0_2 8))=true
        · try simp only[if_pos h3]
          have f20:pureR (map d_si a0.f2)=true:=(pureR_si _)
          have f21:pureR (map d_R a0.f3)=true:=(pureR_R _)
          have f22:pureR (map d_si a0.f4)=true:=(pureR_si _)
          exact callP_ok (ps:=[false]) (os:=[[[(.i a0.f0),(.i a0.f1),(.own 2 (map d_si a0.f2)),(.own 5 (map d_R a0.f3)),(.own 2 (map d_si a0.f4)),(.i a0.f5),(.i a0.f6),(.i a0.f7)]]]) (rs:=[(.oi 7)]) (by kernel_rfl) (.f f0 (.f f1 (.f f2 (.r 11 [] [(map b_si a0.f4)] f3 (.f f4 (.f f5 (.f f6 (.f (nt h1) (.f f8 (.f trivial (.h 21 (.rowD [(.i ((getD a0.f3 a1 (K_R.mk 0 0 0 [] 0)).f0)),(.i ((getD a0.f3 a1 (K_R.mk 0 0 0 [] 0)).f1)),(.i ((getD a0.f3 a1 (K_R.mk 0 0 0 [] 0)).f2)),(.own 2 (map d_si ((getD a0.f3 a1 (K_R.mk 0 0 0 [] 0)).f3))),(.i ((getD a0.f3 a1 (K_R.mk 0 0 0 [] 0)).f4))]) (.h 26 (.loop (h83_0 a0 a1 0 a0.f4) (.exit 0) ⟨[(0,(.ptr ⟨(0,0,0),[],0,0,8⟩)),(1,(.ptr ⟨(0,0,0),[(0,3)],a1,0,5⟩)),(5,(.one (.ref ⟨(5,0,0),[],0,(length (map d_si w0_2))⟩))),(17,(.one (.ref ⟨(0,0,0),[(0,3),(a1,3)],0,(length (map d_si ((getD a0.f3 a1 (K_R.mk 0 0 0 [] 0)).f3)))⟩))),(18,(.oi ((length (map d_si ((getD a0.f3 a1 (K_R.mk 0 0 0 [] 0)).f3))):Int))),(19,(.oi w1_2)),(20,(.one (.val (.bool w2_2))))],[((0,0,0),.live ⟨8,[[(.i a0.f0),(.i a0.f1),(.own 2 (map d_si a0.f2)),(.own 5 (map d_R a0.f3)),(.own 2 (map d_si a0.f4)),(.i a0.f5),(.i a0.f6),(.i a0.f7)]],[]⟩),((5,0,0),.live ⟨2,(map d_si w0_2),[]⟩)]⟩) (.h 35 (.b false) (.h 51 (.rowD [(.i ((getD a0.f3 a1 (K_R.mk 0 0 0 [] 0)).f0)),(.i ((getD a0.f3 a1 (K_R.mk 0 0 0 [] 0)).f1)),(.i ((getD a0.f3 a1 (K_R.mk 0 0 0 [] 0)).f2)),(.own 2 (map d_si ((getD a0.f3 a1 (K_R.mk 0 0 0 [] 0)).f3))),(.i ((getD a0.f3 a1 (K_R.mk 0 0 0 [] 0)).f4))]) (.r 55 [] [] f10 (.f (nt h2) (.f (nt h2) (.f f13 (.f f14 (.f f15 (.h 60 (.b false) (.h 62 (.b false) (.r 63 [] [(map b_si w0_2)] f16 (.f (nt h2) (.f (nt h2) (.f h3 (.f f20 (.f f21 (.f f22 (.h 64 (.b false) (.h 67 (.b false) (.h 70 (.b true) .nil))))))))))))))))))))))))))))))))
        · try simp only[if_neg h3]
          have f20:(map d_R a0.f3)[a1]?=some [(.val (.int .i64 ((getD a0.f3 a1 (K_R.mk 0 0 0 [] 0)).f0))),(.val (.int .i64 ((getD a0.f3 a1 (K_R.mk 0 0 0 [] 0)).f1))),(.val (.int .i64 ((getD a0.f3 a1 (K_R.mk 0 0 0 [] 0)).f2))),(.own 2 (map d_si ((getD a0.f3 a1 (K_R.mk 0 0 0 [] 0)).f3))),(.val (.int .i64 ((getD a0.f3 a1 (K_R.mk 0 0 0 [] 0)).f4)))]:=(by rw[getElem?_map,getD_at a0.f3 a1 (K_R.mk 0 0 0 [] 0) (by first | exact True.intro | with_reducible rfl | with_reducible assumption | omega |(have q:=al83 (by with_reducible assumption); have q2:=og100 (by with_reducible assumption) a1; simp only[decide_eq_true_eq,length_map,length_append,length_nil,length_cons] at*; omega) |(have q2:=og100 (by with_reducible assumption) a1; simp only[length_map] at*; omega) |(exact og100 (by with_reducible assumption) _) |(simp only[decide_eq_true_eq] at*; omega) |(simp only[length_map]; omega) |(simp; omega) |(simp[take_of_length_le]; done) | assumption | trivial |(simp[*,byteRows_eq,ints_y]; done))]; rfl)
          have f22:0=0:=rfl
          have f23:(length (map d_si w0_2))=(length (map d_si w0_2)):=rfl
          have f24:(map d_R a0.f3)[a1]?=some [(.val (.int .i64 ((getD a0.f3 a1 (K_R.mk 0 0 0 [] 0)).f0))),(.val (.int .i64 ((getD a0.f3 a1 (K_R.mk 0 0 0 [] 0)).f1))),(.val (.int .i64 ((getD a0.f3 a1 (K_R.mk 0 0 0 [] 0)).f2))),(.own 2 (map d_si ((getD a0.f3 a1 (K_R.mk 0 0 0 [] 0)).f3))),(.val (.int .i64 ((getD a0.f3 a1 (K_R.mk 0 0 0 [] 0)).f4)))]:=(by rw[getElem?_map,getD_at a0.f3 a1 (K_R.mk 0 0 0 [] 0) (by first | exact True.intro | with_reducible rfl | with_reducible assumption | omega |(have q:=al83 (by with_reducible assumption); have q2:=og100 (by with_reducible assumption) a1; simp only[decide_eq_true_eq,length_map,length_append,length_nil,length_cons] at*; omega) |(have q2:=og100 (by with_reducible assumption) a1; simp only[length_map] at*; omega) |(exact og100 (by with_reducible assumption) _) |(simp only[decide_eq_true_eq] at*; omega) |(simp only[length_map]; omega) |(simp; omega) |(simp[take_of_length_le]; done) | assumption | trivial |(simp[*,byteRows_eq,ints_y]; done))]; rfl)
          have f25:([[(.val (.int .i64 a0.f0)),(.val (.int .i64 a0.f1)),(.own 2 (map d_si a0.f2)),(.own 5 (set (map d_R a0.f3) a1 [(.val (.int .i64 ((getD a0.f3 a1 (K_R.mk 0 0 0 [] 0)).f0))),(.val (.int .i64 ((getD a0.f3 a1 (K_R.mk 0 0 0 [] 0)).f1))),(.val (.int .i64 ((getD a0.f3 a1 (K_R.mk 0 0 0 [] 0)).f2))),(.own 2 (map d_si ((getD a0.f3 a1 (K_R.mk 0 0 0 [] 0)).f3))),(.val (.int .i64 2))])),(.own 2 (map d_si w0_2)),(.val (.int .i64 a0.f5)),(.val (.int .i64 (IntKind.wrap .i64 (a0.f6+((getD a0.f3 a1 (K_R.mk 0 0 0 [] 0)).f2))))),(.val (.int .i64 a0.f7))]]:List (List D))=[[(.val (.int .i64 a0.f0)),(.val (.int .i64 a0.f1)),(.own 2 (map d_si a0.f2)),(.own 5 (map d_R (set a0.f3 a1 (K_R.mk ((getD a0.f3 a1 (K_R.mk 0 0 0 [] 0)).f0) ((getD a0.f3 a1 (K_R.mk 0 0 0 [] 0)).f1) ((getD a0.f3 a1 (K_R.mk 0 0 0 [] 0)).f2) ((getD a0.f3 a1 (K_R.mk 0 0 0 [] 0)).f3) 2)))),(.own 2 (map d_si w0_2)),(.val (.int .i64 a0.f5)),(.val (.int .i64 (IntKind.wrap .i64 (a0.f6+((getD a0.f3 a1 (K_R.mk 0 0 0 [] 0)).f2))))),(.val (.int .i64 a0.f7))]]:=(by simp[byteRows_eq,ints_y,take_of_length_le,d_si,d_R,d_B,d_i,d_b,d_C,d_LsiE,d_s,d_Q,d_y,fromBR_si,fromBR_i,fromBR_b,fromBR_s,fromBR_y]; done)
          have f26:pureR (map d_si a0.f2)=true:=(pureR_si _)
          have f27:pureR (map d_R (set a0.f3 a1 (K_R.mk ((getD a0.f3 a1 (K_R.mk 0 0 0 [] 0)).f0) ((getD a0.f3 a1 (K_R.mk 0 0 0 [] 0)).f1) ((getD a0.f3 a1 (K_R.mk 0 0 0 [] 0)).f2) ((getD a0.f3 a1 (K_R.mk 0 0 0 [] 0)).f3) 2)))=true:=(pureR_R _)
          have f28:pureR (map d_si w0_2)=true:=(pureR_si _)
          exact callP_ok (ps:=[false]) (os:=[[[(.i a0.f0),(.i a0.f1),(.own 2 (map d_si a0.f2)),(.own 5 (map d_R (set a0.f3 a1 (K_R.mk ((getD a0.f3 a1 (K_R.mk 0 0 0 [] 0)).f0) ((getD a0.f3 a1 (K_R.mk 0 0 0 [] 0)).f1) ((getD a0.f3 a1 (K_R.mk 0 0 0 [] 0)).f2) ((getD a0.f3 a1 (K_R.mk 0 0 0 [] 0)).f3) 2)))),(.own 2 (map d_si w0_2)),(.i a0.f5),(.i (IntKind.wrap .i64 (a0.f6+((getD a0.f3 a1 (K_R.mk 0 0 0 [] 0)).f2)))),(.i a0.f7)]]]) (rs:=[(.oi 0)]) (by kernel_rfl) (.f f0 (.f f1 (.f f2 (.r 11 [] [(map b_si a0.f4)] f3 (.f f4 (.f f5 (.f f6 (.f (nt h1) (.f f8 (.f trivial (.h 21 (.rowD [(.i ((getD a0.f3 a1 (K_R.mk 0 0 0 [] 0)).f0)),(.i ((getD a0.f3 a1 (K_R.mk 0 0 0 [] 0)).f1)),(.i ((getD a0.f3 a1 (K_R.mk 0 0 0 [] 0)).f2)),(.own 2 (map d_si ((getD a0.f3 a1 (K_R.mk 0 0 0 [] 0)).f3))),(.i ((getD a0.f3 a1 (K_R.mk 0 0 0 [] 0)).f4))]) (.h 26 (.loop (h83_0 a0 a1 0 a0.f4) (.exit 0) ⟨[(0,(.ptr ⟨(0,0,0),[],0,0,8⟩)),(1,(.ptr ⟨(0,0,0),[(0,3)],a1,0,5⟩)),(5,(.one (.ref ⟨(5,0,0),[],0,(length (map d_si w0_2))⟩))),(17,(.one (.ref ⟨(0,0,0),[(0,3),(a1,3)],0,(length (map d_si ((getD a0.f3 a1 (K_R.mk 0 0 0 [] 0)).f3)))⟩))),(18,(.oi ((length (map d_si ((getD a0.f3 a1 (K_R.mk 0 0 0 [] 0)).f3))):Int))),(19,(.oi w1_2)),(20,(.one (.val (.bool w2_2))))],[((0,0,0),.live ⟨8,[[(.i a0.f0),(.i a0.f1),(.own 2 (map d_si a0.f2)),(.own 5 (map d_R a0.f3)),(.own 2 (map d_si a0.f4)),(.i a0.f5),(.i a0.f6),(.i a0.f7)]],[]⟩),((5,0,0),.live ⟨2,(map d_si w0_2),[]⟩)]⟩) (.h 35 (.b false) (.h 51 (.rowD [(.i ((getD a0.f3 a1 (K_R.mk 0 0 0 [] 0)).f0)),(.i ((getD a0.f3 a1 (K_R.mk 0 0 0 [] 0)).f1)),(.i ((getD a0.f3 a1 (K_R.mk 0 0 0 [] 0)).f2)),(.own 2 (map d_si ((getD a0.f3 a1 (K_R.mk 0 0 0 [] 0)).f3))),(.i ((getD a0.f3 a1 (K_R.mk 0 0 0 [] 0)).f4))]) (.r 55 [] [] f10 (.f (nt h2) (.f (nt h2) (.f f13 (.f f14 (.f f15 (.h 60 (.b false) (.h 62 (.b false) (.r 63 [] [(map b_si w0_2)] f16 (.f (nt h2) (.f (nt h2) (.f (nt h3) (.f f20 (.f trivial (.f f22 (.f f23 (.f f24 (.f f25 (.f f26 (.f f27 (.f f28 (.h 64 (.b false) (.h 67 (.b false) (.h 70 (.b false) (.h 94 (.rowD [(.i ((getD a0.f3 a1 (K_R.mk 0 0 0 [] 0)).f0)),(.i ((getD a0.f3 a1 (K_R.mk 0 0 0 [] 0)).f1)),(.i ((getD a0.f3 a1 (K_R.mk 0 0 0 [] 0)).f2)),(.own 2 (map d_si ((getD a0.f3 a1 (K_R.mk 0 0 0 [] 0)).f3))),(.i ((getD a0.f3 a1 (K_R.mk 0 0 0 [] 0)).f4))]) (.h 114 (.rowD [(.i ((getD a0.f3 a1 (K_R.mk 0 0 0 [] 0)).f0)),(.i ((getD a0.f3 a1 (K_R.mk 0 0 0 [] 0)).f1)),(.i ((getD a0.f3 a1 (K_R.mk 0 0 0 [] 0)).f2)),(.own 2 (map d_si ((getD a0.f3 a1 (K_R.mk 0 0 0 [] 0)).f3))),(.i ((getD a0.f3 a1 (K_R.mk 0 0 0 [] 0)).f4))]) (.h 115 (.norm (0,0,0) [[(.i a0.f0),(.i a0.f1),(.own 2 (map d_si a0.f2)),(.own 5 (map d_R (set a0.f3 a1 (K_R.mk ((getD a0.f3 a1 (K_R.mk 0 0 0 [] 0)).f0) ((getD a0.f3 a1 (K_R.mk 0 0 0 [] 0)).f1) ((getD a0.f3 a1 (K_R.mk 0 0 0 [] 0)).f2) ((getD a0.f3 a1 (K_R.mk 0 0 0 [] 0)).f3) 2)))),(.own 2 (map d_si w0_2)),(.i a0.f5),(.i (IntKind.wrap .i64 (a0.f6+((getD a0.f3 a1 (K_R.mk 0 0 0 [] 0)).f2)))),(.i a0.f7)]]) .nil)))))))))))))))))))))))))))))))))))))))))
theorem rp8 (a:K_B) (c:Nat) (h:a.f4.length≤8):(o83_0 a c).f4.length≤8:=by
  unfold o83_0
  cases h0:r83_0 a c ((getD a.f3 c (K_R.mk 0 0 0 [] 0)).f3) 0 a.f4 with
  |k0 w i b=>
    simp only[]
    split
    · exact h
    · rename_i h1
      simp only[decide_eq_true_eq,length_map] at h1
      split
      · exact h
      · split
        · exact h
        · simp only[]; omega
theorem rpw (a:K_B) (c:Nat):(o83_0 a c).f2=a.f2:=by
  unfold o83_0
  cases h0:r83_0 a c ((getD a.f3 c (K_R.mk 0 0 0 [] 0)).f3) 0 a.f4 with
  |k0 w i b=>
    simp only[]
    (repeat' split)<;>rfl
theorem rpl (a:K_B) (c:Nat):(o83_0 a c).f3.length=a.f3.length:=by
  unfold o83_0
  cases h0:r83_0 a c ((getD a.f3 c (K_R.mk 0 0 0 [] 0)).f3) 0 a.f4 with
  |k0 w i b=>
    simp only[]
    (repeat' split)<;>first | rfl | simp only[length_set]
theorem rpr {a:K_B} (h:∀z∈a.f3,z.f3.length≤12) (c:Nat):∀z∈(o83_0 a c).f3,z.f3.length≤12:=by
  unfold o83_0
  cases h0:r83_0 a c ((getD a.f3 c (K_R.mk 0 0 0 [] 0)).f3) 0 a.f4 with
  |k0 w i b=>
    simp only[]
    split
    · exact h
    · split
      · exact h
      · split
        · exact h
        · intro z hz
          rcases List.mem_or_eq_of_mem_set hz with hz | rfl
          · exact h z hz
          · exact oget h _
/-! loop.example/g00539/impl.RipenReward$1 -/
def o1008100_0 (a0:K_B) (a101001:Int):K_B:=
  if(decide ((m1012800 a0.f3 a101001) < 0))=true then a0 else
  if(((getD a0.f3 (Int.toNat (m1012800 a0.f3 a101001)) (K_R.mk 0 0 0 [] 0)).f4) !=1)=true then a0 else
    (o83_0 a0 (0+(Int.toNat (m1012800 a0.f3 a101001))))
def m1008100 (a0:K_B) (a101001:Int):Int:=
  if(decide ((m1012800 a0.f3 a101001) < 0))=true then 4 else
  if(((getD a0.f3 (Int.toNat (m1012800 a0.f3 a101001)) (K_R.mk 0 0 0 [] 0)).f4) !=1)=true then 9 else
    (m83 a0 (0+(Int.toNat (m1012800 a0.f3 a101001))))
theorem e1008100 {a0:K_B} {l101000:Nat} {a101001:Int} (hy0:length a0.f2≤100) (hy1:length a0.f3≤100) (hy2:∀z∈a0.f3,length z.f3≤100) (hy3:length a0.f4≤100) (hy4:∀z∈a0.f3,ok_R z):Ev F X (.call 81 [(.ptr ⟨(0,0,0),[],0,0,8⟩),(.bptr l101000 [(.val (.int .i64 a101001))])] [((0,0,0),⟨8,[[(.val (.int .i64 a0.f0)),(.val (.int .i64 a0.f1)),(.own 2 (map d_si a0.f2)),(.own 5 (map d_R a0.f3)),(.own 2 (map d_si a0.f4)),(.val (.int .i64 a0.f5)),(.val (.int .i64 a0.f6)),(.val (.int .i64 a0.f7))]],[]⟩)] [[[(.val (.int .i64 ((o1008100_0 a0 a101001).f0))),(.val (.int .i64 ((o1008100_0 a0 a101001).f1))),(.own 2 (map d_si ((o1008100_0 a0 a101001).f2))),(.own 5 (map d_R ((o1008100_0 a0 a101001).f3))),(.own 2 (map d_si ((o1008100_0 a0 a101001).f4))),(.val (.int .i64 ((o1008100_0 a0 a101001).f5))),(.val (.int .i64 ((o1008100_0 a0 a101001).f6))),(.val (.int .i64 ((o1008100_0 a0 a101001).f7)))]]] [(.one (.val (.int .i64 (m1008100 a0 a101001))))]):=by
  unfold m1008100 o1008100_0
  have f0:0+(length (map d_R a0.f3))≤(length (map d_R a0.f3)):=(by omega)
  have f1:fullR (take (length (map d_R a0.f3)) (drop 0 (map d_R a0.f3)))=true:=(ft_R _ _ _)
  have f2:toBR (take (length (map d_R a0.f3)) (drop 0 (map d_R a0.f3)))=(map b_R a0.f3):=(tb_R _)
  have f3:Ev F X (.call 82 [(.one (.bor 0 (map b_R a0.f3))),(.oi a101001)] [] [] [(.oi (m1012800 a0.f3 a101001))]):=(e82 (a0:=a0.f3) (a1:=a101001) (by omega) (by with_reducible assumption))
  by_cases h0:(decide ((m1012800 a0.f3 a101001) < 0))=true
  · try simp only[if_pos h0]
    have f5:pureR (map d_si a0.f2)=true:=(pureR_si _)
    have f6:pureR (map d_R a0.f3)=true:=(pureR_R _)
    have f7:pureR (map d_si a0.f4)=true:=(pureR_si _)
    exact callP_ok (ps:=[false]) (os:=[[[(.i a0.f0),(.i a0.f1),(.own 2 (map d_si a0.f2)),(.own 5 (map d_R a0.f3)),(.own 2 (map d_si a0.f4)),(.i a0.f5),(.i a0.f6),(.i a0.f7)]]]) (rs:=[(.oi 4)]) (by kernel_rfl) (.f f0 (.f f1 (.f f2 (.r 13 [] [(map b_R a0.f3)] f3 (.f h0 (.f f5 (.f f6 (.f f7 (.h 22 (.b true) .nil)))))))))
  · try simp only[if_neg h0]
    have f5:0+(length (map d_R a0.f3))≤(length (map d_R a0.f3)):=(by omega)
    have f6:0≤(m1012800 a0.f3 a101001)∧(m1012800 a0.f3 a101001) <((length (map d_R a0.f3)):Int):=(by have q:=ix1012800 a0.f3 a101001; simp only[decide_eq_true_eq,length_map] at*; omega)
    have f7:(map d_R a0.f3)[(0+(Int.toNat (m1012800 a0.f3 a101001)))]?=some [(.val (.int .i64 ((getD a0.f3 (Int.toNat (m1012800 a0.f3 a101001)) (K_R.mk 0 0 0 [] 0)).f0))),(.val (.int .i64 ((getD a0.f3 (Int.toNat (m1012800 a0.f3 a101001)) (K_R.mk 0 0 0 [] 0)).f1))),(.val (.int .i64 ((getD a0.f3 (Int.toNat (m1012800 a0.f3 a101001)) (K_R.mk 0 0 0 [] 0)).f2))),(.own 2 (map d_si ((getD a0.f3 (Int.toNat (m1012800 a0.f3 a101001)) (K_R.mk 0 0 0 [] 0)).f3))),(.val (.int .i64 ((getD a0.f3 (Int.toNat (m1012800 a0.f3 a101001)) (K_R.mk 0 0 0 [] 0)).f4)))]:=(by rw[Nat.zero_add,getElem?_map,getD_at a0.f3 (Int.toNat (m1012800 a0.f3 a101001)) (K_R.mk 0 0 0 [] 0) (by first | exact True.intro | with_reducible rfl | with_reducible assumption | omega |(have q:=ix1012800 a0.f3 a101001; simp only[decide_eq_true_eq,length_map] at*; omega) |(have q:=ix1012800 a0.f3 a101001; simp only[decide_eq_true_eq,length_map] at*; omega) |(unfold m1012800;(repeat' split)<;>simp_all<;>omega) |(simp only[decide_eq_true_eq] at*; omega) |(simp only[length_map]; omega) |(simp; omega) |(simp[take_of_length_le]; done) | assumption | trivial |(simp[*,byteRows_eq,ints_y]; done))]; rfl)
    by_cases h1:(((getD a0.f3 (Int.toNat (m1012800 a0.f3 a101001)) (K_R.mk 0 0 0 [] 0)).f4) !=1)=true
    · try simp only[if_pos h1]
      have f9:pureR (map d_si a0.f2)=true:=(pureR_si _)
      have f10:pureR (map d_R a0.f3)=true:=(pureR_R _)
      have f11:pureR (map d_si a0.f4)=true:=(pureR_si _)
      exact callP_ok (ps:=[false]) (os:=[[[(.i a0.f0),(.i a0.f1),(.own 2 (map d_si a0.f2)),(.own 5 (map d_R a0.f3)),(.own 2 (map d_si a0.f4)),(.i a0.f5),(.i a0.f6),(.i a0.f7)]]]) (rs:=[(.oi 9)]) (by kernel_rfl) (.f f0 (.f f1 (.f f2 (.r 13 [] [(map b_R a0.f3)] f3 (.f (nt h0) (.f f5 (.f f6 (.f f7 (.f h1 (.f f9 (.f f10 (.f f11 (.h 22 (.b false) (.h 38 (.rowD [(.i ((getD a0.f3 (Int.toNat (m1012800 a0.f3 a101001)) (K_R.mk 0 0 0 [] 0)).f0)),(.i ((getD a0.f3 (Int.toNat (m1012800 a0.f3 a101001)) (K_R.mk 0 0 0 [] 0)).f1)),(.i ((getD a0.f3 (Int.toNat (m1012800 a0.f3 a101001)) (K_R.mk 0 0 0 [] 0)).f2)),(.own 2 (map d_si ((getD a0.f3 (Int.toNat (m1012800 a0.f3 a101001)) (K_R.mk 0 0 0 [] 0)).f3))),(.i ((getD a0.f3 (Int.toNat (m1012800 a0.f3 a101001)) (K_R.mk 0 0 0 [] 0)).f4))]) (.h 43 (.b true) .nil)))))))))))))))
    · try simp only[if_neg h1]
      have f9:0+(length (map d_R a0.f3))≤(length (map d_R a0.f3)):=(by omega)
      have f10:0≤(m1012800 a0.f3 a101001)∧(m1012800 a0.f3 a101001) <((length (map d_R a0.f3)):Int):=(by with_reducible assumption)
      have f11:pureR (map d_si a0.f2)=true:=(pureR_si _)
      have f12:pureR (map d_R a0.f3)=true:=(pureR_R _)
      have f13:pureR (map d_si a0.f4)=true:=(pureR_si _)
      have f14:Ev F X (.call 83 [(.ptr ⟨(0,0,0),[],0,0,8⟩),(.ptr ⟨(0,0,0),[(0,3)],(0+(Int.toNat (m1012800 a0.f3 a101001))),0,5⟩)] [((0,0,0),⟨8,[[(.i a0.f0),(.i a0.f1),(.own 2 (map d_si a0.f2)),(.own 5 (map d_R a0.f3)),(.own 2 (map d_si a0.f4)),(.i a0.f5),(.i a0.f6),(.i a0.f7)]],[]⟩)] [[[(.i ((o83_0 a0 (0+(Int.toNat (m1012800 a0.f3 a101001)))).f0)),(.i ((o83_0 a0 (0+(Int.toNat (m1012800 a0.f3 a101001)))).f1)),(.own 2 (map d_si ((o83_0 a0 (0+(Int.toNat (m1012800 a0.f3 a101001)))).f2))),(.own 5 (map d_R ((o83_0 a0 (0+(Int.toNat (m1012800 a0.f3 a101001)))).f3))),(.own 2 (map d_si ((o83_0 a0 (0+(Int.toNat (m1012800 a0.f3 a101001)))).f4))),(.i ((o83_0 a0 (0+(Int.toNat (m1012800 a0.f3 a101001)))).f5)),(.i ((o83_0 a0 (0+(Int.toNat (m1012800 a0.f3 a101001)))).f6)),(.i ((o83_0 a0 (0+(Int.toNat (m1012800 a0.f3 a101001)))).f7))]]] [(.oi (m83 a0 (0+(Int.toNat (m1012800 a0.f3 a101001)))))]):=(e83 (a0:=a0) (a1:=(0+(Int.toNat (m1012800 a0.f3 a101001)))) (by with_reducible assumption) (by with_reducible assumption) (by with_reducible assumption) (by with_reducible assumption) (by with_reducible assumption) (by have q:=ix1012800 a0.f3 a101001; simp only[decide_eq_true_eq,length_map] at*; omega))
      have f15:pureR (map d_si ((o83_0 a0 (0+(Int.toNat (m1012800 a0.f3 a101001)))).f2))=true:=(pureR_si _)
      have f16:pureR (map d_R ((o83_0 a0 (0+(Int.toNat (m1012800 a0.f3 a101001)))).f3))=true:=(pureR_R _)
      have f17:pureR (map d_si ((o83_0 a0 (0+(Int.toNat (m1012800 a0.f3 a101001)))).f4))=true:=(pureR_si _)
      exact callP_ok (ps:=[false]) (os:=[[[(.i ((o83_0 a0 (0+(Int.toNat (m1012800 a0.f3 a101001)))).f0)),(.i ((o83_0 a0 (0+(Int.toNat (m1012800 a0.f3 a101001)))).f1)),(.own 2 (map d_si ((o83_0 a0 (0+(Int.toNat (m1012800 a0.f3 a101001)))).f2))),(.own 5 (map d_R ((o83_0 a0 (0+(Int.toNat (m1012800 a0.f3 a101001)))).f3))),(.own 2 (map d_si ((o83_0 a0 (0+(Int.toNat (m1012800 a0.f3 a101001)))).f4))),(.i ((o83_0 a0 (0+(Int.toNat (m1012800 a0.f3 a101001)))).f5)),(.i ((o83_0 a0 (0+(Int.toNat (m1012800 a0.f3 a101001)))).f6)),(.i ((o83_0 a0 (0+(Int.toNat (m1012800 a0.f3 a101001)))).f7))]]]) (rs:=[(.oi (m83 a0 (0+(Int.toNat (m1012800 a0.f3 a101001)))))]) (by kernel_rfl) (.f f0 (.f f1 (.f f2 (.r 13 [] [(map b_R a0.f3)] f3 (.f (nt h0) (.f f5 (.f f6 (.f f7 (.f (nt h1) (.f f9 (.f f10 (.f f11 (.f f12 (.f f13 (.h 22 (.b false) (.h 38 (.rowD [(.i ((getD a0.f3 (Int.toNat (m1012800 a0.f3 a101001)) (K_R.mk 0 0 0 [] 0)).f0)),(.i ((getD a0.f3 (Int.toNat (m1012800 a0.f3 a101001)) (K_R.mk 0 0 0 [] 0)).f1)),(.i ((getD a0.f3 (Int.toNat (m1012800 a0.f3 a101001)) (K_R.mk 0 0 0 [] 0)).f2)),(.own 2 (map d_si ((getD a0.f3 (Int.toNat (m1012800 a0.f3 a101001)) (K_R.mk 0 0 0 [] 0)).f3))),(.i ((getD a0.f3 (Int.toNat (m1012800 a0.f3 a101001)) (K_R.mk 0 0 0 [] 0)).f4))]) (.h 43 (.b false) (.r 59 [false] [] f14 (.f f15 (.f f16 (.f f17 .nil)))))))))))))))))))))
/-! loop.example/g00539/impl.changed -/
def m1004200 (a0:K_B) (a2001:Int):K_C:=
  if((m13 a0) !=0)=true then(K_C.mk (m13 a0) 0 0 0 [] [] [] 0 0 0) else
  if((m1008100 (m91 a0) a2001) !=0)=true then(K_C.mk (m1008100 (m91 a0) a2001) 0 0 0 [] [] [] 0 0 0) else
    (K_C.mk 0 0 ((o1008100_0 (m91 a0) a2001).f0) ((o1008100_0 (m91 a0) a2001).f1) ((o1008100_0 (m91 a0) a2001).f2) ((o1008100_0 (m91 a0) a2001).f3) ((o1008100_0 (m91 a0) a2001).f4) ((o1008100_0 (m91 a0) a2001).f5) ((o1008100_0 (m91 a0) a2001).f6) ((o1008100_0 (m91 a0) a2001).f7))
theorem e1004200 {l0_2:Nat} {l0_3:Nat} {l0_4:Nat} {a0:K_B} {l2000:Nat} {a2001:Int} (hy0:length a0.f2*24≤140737488351232) (hy1:length a0.f3*56≤140737488351232) (hy2:∀z∈a0.f3,ok_R z) (hy3:length a0.f4*24≤140737488351232):Ev F X (.call 42 [(.agg [(.val (.int .i64 a0.f0)),(.val (.int .i64 a0.f1)),(.bor l0_2 (map b_si a0.f2)),(.bor l0_3 (map b_R a0.f3)),(.bor l0_4 (map b_si a0.f4)),(.val (.int .i64 a0.f5)),(.val (.int .i64 a0.f6)),(.val (.int .i64 a0.f7))]),(.clo 81 [] [(.bptr l2000 [(.val (.int .i64 a2001))])])] [] [] [(.agg [(.val (.int .i64 ((m1004200 a0 a2001).f0))),(.val (.int .i64 ((m1004200 a0 a2001).f1))),(.val (.int .i64 ((m1004200 a0 a2001).f2))),(.val (.int .i64 ((m1004200 a0 a2001).f3))),(.own 2 (map d_si ((m1004200 a0 a2001).f4))),(.own 5 (map d_R ((m1004200 a0 a2001).f5))),(.own 2 (map d_si ((m1004200 a0 a2001).f6))),(.val (.int .i64 ((m1004200 a0 a2001).f7))),(.val (.int .i64 ((m1004200 a0 a2001).f8))),(.val (.int .i64 ((m1004200 a0 a2001).f9)))])]):=by
  unfold m1004200
  have f0:Ev F X (.call 13 [(.agg [(.i a0.f0),(.i a0.f1),(.bor (l0_2+1) (map b_si a0.f2)),(.bor (l0_3+1) (map b_R a0.f3)),(.bor (l0_4+1) (map b_si a0.f4)),(.i a0.f5),(.i a0.f6),(.i a0.f7)])] [] [] [(.oi (m13 a0))]):=(e13 (a0:=a0) (by with_reducible assumption) (by with_reducible assumption) (by with_reducible assumption) (by with_reducible assumption))
  by_cases h0:((m13 a0) !=0)=true
  · try simp only[if_pos h0]
    have f2:pureR []=true:=(by trivial)
    have f3:pureR []=true:=(by with_reducible assumption)
    have f4:pureR []=true:=(by with_reducible assumption)
    exact callP_ok (ps:=[]) (os:=[]) (rs:=[(.agg [(.i (m13 a0)),(.i 0),(.i 0),(.i 0),(.own 2 []),(.own 5 []),(.own 2 []),(.i 0),(.i 0),(.i 0)])]) (by kernel_rfl) (.r 7 [] [] f0 (.f h0 (.f f2 (.f f3 (.f f4 (.h 14 (.b true) .nil))))))
  · try simp only[if_neg h0]
    have f2:Ev F X (.call 91 [(.agg [(.i a0.f0),(.i a0.f1),(.bor (l0_2+1) (map b_si a0.f2)),(.bor (l0_3+1) (map b_R a0.f3)),(.bor (l0_4+1) (map b_si a0.f4)),(.i a0.f5),(.i a0.f6),(.i a0.f7)])] [] [] [(.agg [(.i ((m91 a0).f0)),(.i ((m91 a0).f1)),(.own 2 (map d_si ((m91 a0).f2))),(.own 5 (map d_R ((m91 a0).f3))),(.own 2 (map d_si ((m91 a0).f4))),(.i ((m91 a0).f5)),(.i ((m91 a0).f6)),(.i ((m91 a0).f7))])]):=(e91 (a0:=a0) (by have q:=fs13 (a0:=a0) (by with_reducible assumption); omega) (by have q:=fs13 (a0:=a0) (by with_reducible assumption); omega) (by have q:=fs13 (a0:=a0) (by with_reducible assumption); intro z hz; have q2:=q.2.2.1 z hz; omega) (by have q:=fs13 (a0:=a0) (by with_reducible assumption); omega) (by with_reducible assumption))
    have f3:0=0:=rfl
    have f4:(length (map d_si ((m91 a0).f2)))=(length (map d_si ((m91 a0).f2))):=rfl
    have f5:0=0:=rfl
    have f6:(length (map d_R ((m91 a0).f3)))=(length (map d_R ((m91 a0).f3))):=rfl
    have f7:0=0:=rfl
    have f8:(length (map d_si ((m91 a0).f4)))=(length (map d_si ((m91 a0).f4))):=rfl
    have f9:pureR (map d_si ((m91 a0).f2))=true:=(pureR_si _)
    have f10:pureR (map d_R ((m91 a0).f3))=true:=(pureR_R _)
    have f11:pureR (map d_si ((m91 a0).f4))=true:=(pureR_si _)
    have f12:Ev F X (.call 81 [(.ptr ⟨(0,0,0),[],0,0,8⟩),(.bptr (l2000+1) [(.i a2001)])] [((0,0,0),⟨8,[[(.i ((m91 a0).f0)),(.i ((m91 a0).f1)),(.own 2 (map d_si ((m91 a0).f2))),(.own 5 (map d_R ((m91 a0).f3))),(.own 2 (map d_si ((m91 a0).f4))),(.i ((m91 a0).f5)),(.i ((m91 a0).f6)),(.i ((m91 a0).f7))]],[]⟩)] [[[(.i ((o1008100_0 (m91 a0) a2001).f0)),(.i ((o1008100_0 (m91 a0) a2001).f1)),(.own 2 (map d_si ((o1008100_0 (m91 a0) a2001).f2))),(.own 5 (map d_R ((o1008100_0 (m91 a0) a2001).f3))),(.own 2 (map d_si ((o1008100_0 (m91 a0) a2001).f4))),(.i ((o1008100_0 (m91 a0) a2001).f5)),(.i ((o1008100_0 (m91 a0) a2001).f6)),(.i ((o1008100_0 (m91 a0) a2001).f7))]]] [(.oi (m1008100 (m91 a0) a2001))]):=(e1008100 (a0:=(m91 a0)) (a101001:=a2001) (by rw[cp91]; have q:=fs13 (a0:=a0) (by with_reducible assumption); omega) (by rw[cp91]; have q:=fs13 (a0:=a0) (by with_reducible assumption); omega) (by rw[cp91]; have q:=fs13 (a0:=a0) (by with_reducible assumption); intro z hz; have q2:=q.2.2.1 z hz; omega) (by rw[cp91]; have q:=fs13 (a0:=a0) (by with_reducible assumption); omega) (by rw[cp91]; assumption))
    by_cases h1:((m1008100 (m91 a0) a2001) !=0)=true
    · try simp only[if_pos h1]
      have f14:pureR []=true:=(by trivial)
      have f15:pureR []=true:=(by with_reducible assumption)
      have f16:pureR []=true:=(by with_reducible assumption)
      exact callP_ok (ps:=[]) (os:=[]) (rs:=[(.agg [(.i (m1008100 (m91 a0) a2001)),(.i 0),(.i 0),(.i 0),(.own 2 []),(.own 5 []),(.own 2 []),(.i 0),(.i 0),(.i 0)])]) (by kernel_rfl) (.r 7 [] [] f0 (.f (nt h0) (.h 14 (.b false) (.r 18 [] [] f2 (.f f3 (.f f4 (.f f5 (.f f6 (.f f7 (.f f8 (.f f9 (.f f10 (.f f11 (.r 26 [false] [] f12 (.f h1 (.f f14 (.f f15 (.f f16 (.h 33 (.b true) .nil)))))))))))))))))))
    · try simp only[if_neg h1]
      have f14:0=0:=rfl
      have f15:(length (map d_si ((o1008100_0 (m91 a0) a2001).f2)))=(length (map d_si ((o1008100_0 (m91 a0) a2001).f2))):=rfl
      have f16:0=0:=rfl
      have f17:(length (map d_R ((o1008100_0 (m91 a0) a2001).f3)))=(length (map d_R ((o1008100_0 (m91 a0) a2001).f3))):=rfl
      have f18:0=0:=rfl
      have f19:(length (map d_si ((o1008100_0 (m91 a0) a2001).f4)))=(length (map d_si ((o1008100_0 (m91 a0) a2001).f4))):=rfl
      have f20:pureR (map d_si ((o1008100_0 (m91 a0) a2001).f2))=true:=(pureR_si _)
      have f21:pureR (map d_R ((o1008100_0 (m91 a0) a2001).f3))=true:=(pureR_R _)
      have f22:pureR (map d_si ((o1008100_0 (m91 a0) a2001).f4))=true:=(pureR_si _)
      exact callP_ok (ps:=[]) (os:=[]) (rs:=[(.agg [(.i 0),(.i 0),(.i ((o1008100_0 (m91 a0) a2001).f0)),(.i ((o1008100_0 (m91 a0) a2001).f1)),(.own 2 (map d_si ((o1008100_0 (m91 a0) a2001).f2))),(.own 5 (map d_R ((o1008100_0 (m91 a0) a2001).f3))),(.own 2 (map d_si ((o1008100_0 (m91 a0) a2001).f4))),(.i ((o1008100_0 (m91 a0) a2001).f5)),(.i ((o1008100_0 (m91 a0) a2001).f6)),(.i ((o1008100_0 (m91 a0) a2001).f7))])]) (by kernel_rfl) (.r 7 [] [] f0 (.f (nt h0) (.h 14 (.b false) (.r 18 [] [] f2 (.f f3 (.f f4 (.f f5 (.f f6 (.f f7 (.f f8 (.f f9 (.f f10 (.f f11 (.r 26 [false] [] f12 (.f (nt h1) (.f f14 (.f f15 (.f f16 (.f f17 (.f f18 (.f f19 (.f f20 (.f f21 (.f f22 (.h 33 (.b false) .nil)))))))))))))))))))))))))
theorem okm1004200 (a0:K_B) (a2001:Int):ok_C (m1004200 a0 a2001):=by
  unfold m1004200
  split
  · simp[ok_R,ok_B,ok_C,ok_LsiE,ok_Q]
  · rename_i h
    obtain⟨q1,q2,q3,q4⟩:=fs13 h
    simp only[cp91]
    split
    · simp[ok_R,ok_B,ok_C,ok_LsiE,ok_Q]
    · unfold o1008100_0
      (repeat' split)<;>simp only[ok_R,ok_B,ok_C,ok_LsiE,ok_Q]<;>first |(refine⟨?_,?_,?_,?_⟩<;>(simp; done)) |(refine⟨?_,?_,?_,?_⟩<;>first | omega | exact Nat.le_trans (Nat.mul_le_mul_right _ (rp8 _ _ q4)) (by decide) |(rw[rpw]; omega) |(rw[rpl]; omega) | exact oall (rpr q3 _) |(simp only[length_set,length_append,length_cons,length_nil,length_take,length_drop]; omega) | exact oall q3 | exact oset q3 (oget q3 _) | exact oset q3 (by simp) | exact oapp q3 (by simp))
/-! loop.example/g00539/impl.RipenReward -/
def m32 (a0:K_B) (a1:Int):K_C:=
  (m1004200 a0 a1)
theorem e32 {l0_2:Nat} {l0_3:Nat} {l0_4:Nat} {a0:K_B} {a1:Int} (hy0:length a0.f2*24≤140737488351232) (hy1:length a0.f3*56≤140737488351232) (hy2:∀z∈a0.f3,ok_R z) (hy3:length a0.f4*24≤140737488351232):Ev F X (.call 32 [(.agg [(.val (.int .i64 a0.f0)),(.val (.int .i64 a0.f1)),(.bor l0_2 (map b_si a0.f2)),(.bor l0_3 (map b_R a0.f3)),(.bor l0_4 (map b_si a0.f4)),(.val (.int .i64 a0.f5)),(.val (.int .i64 a0.f6)),(.val (.int .i64 a0.f7))]),(.one (.val (.int .i64 a1)))] [] [] [(.agg [(.val (.int .i64 ((m1004200 a0 a1).f0))),(.val (.int .i64 ((m1004200 a0 a1).f1))),(.val (.int .i64 ((m1004200 a0 a1).f2))),(.val (.int .i64 ((m1004200 a0 a1).f3))),(.own 2 (map d_si ((m1004200 a0 a1).f4))),(.own 5 (map d_R ((m1004200 a0 a1).f5))),(.own 2 (map d_si ((m1004200 a0 a1).f6))),(.val (.int .i64 ((m1004200 a0 a1).f7))),(.val (.int .i64 ((m1004200 a0 a1).f8))),(.val (.int .i64 ((m1004200 a0 a1).f9)))])]):=by
  have f0:fullL [(.val (.int .i64 a1))]=true:=(by trivial)
  have f1:Ev F X (.call 42 [(.agg [(.i a0.f0),(.i a0.f1),(.bor (l0_2+1) (map b_si a0.f2)),(.bor (l0_3+1) (map b_R a0.f3)),(.bor (l0_4+1) (map b_si a0.f4)),(.i a0.f5),(.i a0.f6),(.i a0.f7)]),(.clo 81 [] [(.bptr 0 [(.i a1)])])] [] [] [(.agg [(.i ((m1004200 a0 a1).f0)),(.i ((m1004200 a0 a1).f1)),(.i ((m1004200 a0 a1).f2)),(.i ((m1004200 a0 a1).f3)),(.own 2 (map d_si ((m1004200 a0 a1).f4))),(.own 5 (map d_R ((m1004200 a0 a1).f5))),(.own 2 (map d_si ((m1004200 a0 a1).f6))),(.i ((m1004200 a0 a1).f7)),(.i ((m1004200 a0 a1).f8)),(.i ((m1004200 a0 a1).f9))])]):=(e1004200 (a0:=a0) (a2001:=a1) (by with_reducible assumption) (by with_reducible assumption) (by with_reducible assumption) (by with_reducible assumption))
  have f2:0=0:=rfl
  have f3:(length (map d_si ((m1004200 a0 a1).f4)))=(length (map d_si ((m1004200 a0 a1).f4))):=rfl
  have f4:0=0:=rfl
  have f5:(length (map d_R ((m1004200 a0 a1).f5)))=(length (map d_R ((m1004200 a0 a1).f5))):=rfl
  have f6:0=0:=rfl
  have f7:(length (map d_si ((m1004200 a0 a1).f6)))=(length (map d_si ((m1004200 a0 a1).f6))):=rfl
  have f8:pureR (map d_si ((m1004200 a0 a1).f4))=true:=(pureR_si _)
  have f9:pureR (map d_R ((m1004200 a0 a1).f5))=true:=(pureR_R _)
  have f10:pureR (map d_si ((m1004200 a0 a1).f6))=true:=(pureR_si _)
  exact callP_ok (ps:=[]) (os:=[]) (rs:=[(.agg [(.i ((m1004200 a0 a1).f0)),(.i ((m1004200 a0 a1).f1)),(.i ((m1004200 a0 a1).f2)),(.i ((m1004200 a0 a1).f3)),(.own 2 (map d_si ((m1004200 a0 a1).f4))),(.own 5 (map d_R ((m1004200 a0 a1).f5))),(.own 2 (map d_si ((m1004200 a0 a1).f6))),(.i ((m1004200 a0 a1).f7)),(.i ((m1004200 a0 a1).f8)),(.i ((m1004200 a0 a1).f9))])]) (by kernel_rfl) (.f f0 (.r 11 [] [] f1 (.f f2 (.f f3 (.f f4 (.f f5 (.f f6 (.f f7 (.f f8 (.f f9 (.f f10 .nil)))))))))))
/-! loop.example/g00539/laws.eqWeight -/
def m130 (a0:K_si) (a1:K_si):Bool:=
  if(!(a0.f0.toList==a1.f0.toList))=true then false else
  if(a0.f1 !=a1.f1)=true then false else
    true
theorem e130 {a0:K_si} {a1:K_si}:Ev F X (.call 130 [(.agg [(.val (.string a0.f0)),(.val (.int .i64 a0.f1))]),(.agg [(.val (.string a1.f0)),(.val (.int .i64 a1.f1))])] [] [] [(.one (.val (.bool (m130 a0 a1))))]):=by
  unfold m130
  by_cases h0:(!(a0.f0.toList==a1.f0.toList))=true
  · try simp only[if_pos h0]
    exact callP_ok (ps:=[]) (os:=[]) (rs:=[(.one (.val (.bool false)))]) (by kernel_rfl) (.f h0 (.h 16 (.b true) .nil))
  · try simp only[if_neg h0]
    by_cases h1:(a0.f1 !=a1.f1)=true
    · try simp only[if_pos h1]
      exact callP_ok (ps:=[]) (os:=[]) (rs:=[(.one (.val (.bool false)))]) (by kernel_rfl) (.f (nt h0) (.f h1 (.h 16 (.b false) (.h 27 (.b true) .nil))))
    · try simp only[if_neg h1]
      exact callP_ok (ps:=[]) (os:=[]) (rs:=[(.one (.val (.bool true)))]) (by kernel_rfl) (.f (nt h0) (.f (nt h1) (.h 16 (.b false) (.h 27 (.b false) .nil))))
open Classical in
theorem eqd130 (a b:K_si):m130 a b=decide (a=b):=by
  rw[Bool.eq_iff_iff,decide_eq_true_eq]
  constructor
  · intro h
    unfold m130 at h
    cases a; cases b
    (repeat' split at h)<;>simp_all [ba_eq]
  · rintro rfl
    simp[m130,ba_eq]
/-! loop 84_0 -/
inductive O84_0 where
  |k0 (w0:Int) (w1:Bool)
  |k1
def r84_0 (a0:(List K_si)):List K_si→List K_si→Int→O84_0
  |x0::y0,x1::y1,i=>
    if(!(m130 x0 x1))=true then(O84_0.k1) else
    (r84_0 a0 y0 y1 (i+1))
  |_,_,i=>(O84_0.k0 i (decide (i <((length (map b_si a0)):Int))))
def h84_0 (l0_0:Nat) (l1_0:Nat) (a0:(List K_si)) (a1:(List K_si)) (i:Int) :St:=⟨[(0,(.one (.bor l0_0 (map b_si a0)))),(1,(.one (.bor l1_0 (map b_si a1)))),(5,(.one (.val (.int .i64 i))))],[]⟩
def ex84_0:O84_0→VX.Exit
  |.k0 _ _=>(.exit 0)
  |.k1=>.ret
def fin84_0 (l0_0:Nat) (l1_0:Nat) (a0:(List K_si)) (a1:(List K_si)):O84_0→St
  |.k0 w0 w1=>⟨[(0,(.one (.bor l0_0 (map b_si a0)))),(1,(.one (.bor l1_0 (map b_si a1)))),(5,(.one (.val (.int .i64 w0)))),(14,(.one (.val (.bool w1))))],[]⟩
  |.k1=>⟨[(4,(.one (.val (.bool false))))],[]⟩
theorem t84_0 {l0_0:Nat} {l1_0:Nat} {a0:(List K_si)} {a1:(List K_si)} (hy0:length a0*24≤140737488351232) (hy1:length a1*24≤140737488351232):∀(y0:List K_si) (y1:List K_si) (p:List K_si) (p_1:List K_si),p++y0=a0→p_1++y1=a1→length p=length p_1→length y0=length y1→Ev F X (.code l84_0 (h84_0 l0_0 l1_0 a0 a1 (length p:Int)) (ex84_0 (r84_0 a0 y0 y1 (length p:Int))) (fin84_0 l0_0 l1_0 a0 a1 (r84_0 a0 y0 y1 (length p:Int))))
  |[],[],p,p_1,hp0,hp1,hq1,hl1=>by
    have hc:¬(decide ((length p:Int) <((length (map b_si a0)):Int)))=true:=by
      rw[← hp0]; simp only[length_map,length_set,length_append,length_replicate,length_cons,length_nil,decide_eq_true_eq]; omega
    have st:=codeH_ok (F:=F) (X:=X) (c:=b84_0) (t:=0) (hs:=[(8,.b false)]) (σ:=h84_0 l0_0 l1_0 a0 a1 (length p:Int)) (σ':=fin84_0 l0_0 l1_0 a0 a1 (.k0 (length p:Int) (decide ((length p:Int) <((length (map b_si a0)):Int))))) (e:=(.exit 0)) (t':=9) (hs':=[]) (q:=[(decide ((length p:Int) <((length (map b_si a0)):Int)))=false]) (by kernel_rfl) ⟨(nt hc),trivial⟩
    exact .loopX st (show ((.exit 0):VX.Exit)≠.normal from by simp)
  |x0::y0,x1::y1,p,p_1,hp0,hp1,hq1,hl1=>by
    have hc:(decide ((length p:Int) <((length (map b_si a0)):Int)))=true:=by
      rw[← hp0]; simp only[length_map,length_set,length_append,length_replicate,length_cons,length_nil,decide_eq_true_eq]; omega
    have Hx0:(a0)[Int.toNat (length p:Int)]?=some x0:=by
      rw[← hp0,Int.toNat_natCast]; simp
    have Hx1:(a1)[Int.toNat (length p:Int)]?=some x1:=by
      rw[← hp1,hq1,Int.toNat_natCast]; simp
    have hlen:length (a0)=length p+length y0+1:=by rw[← hp0]; simp; omega
    have hw:IntKind.wrap .i64 ((length p:Int)+1)=(length p:Int)+1:=wrap64 (by omega)
    simp only[r84_0]
    by_cases h_1:(!(m130 x0 x1))=true
    · try simp only[if_pos h_1]
      have st:=codeH_ok (F:=F) (X:=X) (c:=b84_0) (t:=0) (hs:=[(8,.b true),(14,.row [(.val (.string x0.f0)),(.i x0.f1)]),(22,.row [(.val (.string x1.f0)),(.i x1.f1)]),(26,.ret [] [(.one (.val (.bool (m130 x0 x1))))] [] []),(29,.b true)]) (σ:=h84_0 l0_0 l1_0 a0 a1 (length p:Int)) (σ':=fin84_0 l0_0 l1_0 a0 a1 (.k1)) (e:=.ret) (t':=32) (hs':=[]) (q:=[(decide ((length p:Int) <((length (map b_si a0)):Int)))=true,0≤(length p:Int),(map b_si a0)[(Int.toNat (length p:Int))]?=some [(.val (.string x0.f0)),(.i x0.f1)],0≤(length p:Int),(map b_si a1)[(Int.toNat (length p:Int))]?=some [(.val (.string x1.f0)),(.i x1.f1)],Ev F X (.call 130 [(.agg [(.val (.string x0.f0)),(.i x0.f1)]),(.agg [(.val (.string x1.f0)),(.i x1.f1)])] [] [] [(.one (.val (.bool (m130 x0 x1))))]),(!(m130 x0 x1))=true]) (by kernel_rfl) ⟨hc,(by omega),(by rw[getElem?_map,Hx0]; rfl),(by omega),(by rw[getElem?_map,Hx1]; rfl),(e130 (a0:=x0) (a1:=x1)),h_1,trivial⟩
      exact .loopX st (show (.ret:VX.Exit)≠.normal from by simp)
    · try simp only[if_neg h_1]
      have st:=codeH_ok (F:=F) (X:=X) (c:=b84_0) (t:=0) (hs:=[(8,.b true),(14,.row [(.val (.string x0.f0)),(.i x0.f1)]),(22,.row [(.val (.string x1.f0)),(.i x1.f1)]),(26,.ret [] [(.one (.val (.bool (m130 x0 x1))))] [] []),(29,.b false)]) (σ:=h84_0 l0_0 l1_0 a0 a1 (length p:Int)) (σ':=⟨[(0,(.one (.bor l0_0 (map b_si a0)))),(1,(.one (.bor l1_0 (map b_si a1)))),(5,(.oi (IntKind.wrap .i64 ((length p:Int)+1))))],[]⟩) (e:=.normal) (t':=36) (hs':=[]) (q:=[(decide ((length p:Int) <((length (map b_si a0)):Int)))=true,0≤(length p:Int),(map b_si a0)[(Int.toNat (length p:Int))]?=some [(.val (.string x0.f0)),(.i x0.f1)],0≤(length p:Int),(map b_si a1)[(Int.toNat (length p:Int))]?=some [(.val (.string x1.f0)),(.i x1.f1)],Ev F X (.call 130 [(.agg [(.val (.string x0.f0)),(.i x0.f1)]),(.agg [(.val (.string x1.f0)),(.i x1.f1)])] [] [] [(.one (.val (.bool (m130 x0 x1))))]),(!(m130 x0 x1))=false,True]) (by kernel_rfl) ⟨hc,(by omega),(by rw[getElem?_map,Hx0]; rfl),(by omega),(by rw[getElem?_map,Hx1]; rfl),(e130 (a0:=x0) (a1:=x1)),(nt h_1),trivial,trivial⟩
      have ih:=t84_0 (l0_0:=l0_0) (l1_0:=l1_0) (a0:=a0) (a1:=a1) hy0 hy1 y0 y1 (p++ [x0]) (p_1++ [x1]) (by rw[append_assoc]; exact hp0) (by rw[append_assoc]; exact hp1) (by simp only[length_map,length_set,length_append,length_replicate,length_cons,length_nil]; omega) (by simp only[length_map,length_set,length_append,length_replicate,length_cons,length_nil] at hl1; omega)
      rw[show ((p++ [x0]).length:Int)=(p.length:Int)+1 from by simp] at ih
      rw[show (⟨[(0,(.one (.bor l0_0 (map b_si a0)))),(1,(.one (.bor l1_0 (map b_si a1)))),(5,(.oi (IntKind.wrap .i64 ((length p:Int)+1))))],[]⟩:St)=h84_0 l0_0 l1_0 a0 a1 ((length p:Int)+1)  from(by unfold h84_0; simp only[hw]; done)] at st
      exact .loopN st ih
/-! loop.example/g00539/laws.eqWeightS -/
def m84 (a0:(List K_si)) (a1:(List K_si)):Bool:=
  if(((length (map b_si a0)):Int) !=((length (map b_si a1)):Int))=true then false else
  (match r84_0 a0 a0 a1 0 with | .k0 w0_1 w1_1=>true | .k1=>false)
theorem e84 {l0_0:Nat} {a0:(List K_si)} {l1_0:Nat} {a1:(List K_si)} (hy0:length a0*24≤140737488351232) (hy1:length a1*24≤140737488351232):Ev F X (.call 84 [(.one (.bor l0_0 (map b_si a0))),(.one (.bor l1_0 (map b_si a1)))] [] [] [(.one (.val (.bool (m84 a0 a1))))]):=by
  unfold m84
  by_cases h0:(((length (map b_si a0)):Int) !=((length (map b_si a1)):Int))=true
  · try simp only[if_pos h0]
    exact callP_ok (ps:=[]) (os:=[]) (rs:=[(.one (.val (.bool false)))]) (by kernel_rfl) (.f h0 (.h 12 (.b true) .nil))
  · try simp only[if_neg h0]
    cases h1:r84_0 a0 a0 a1 0 with
    |k0 w0_1 w1_1=>
      try dsimp only
      have f1:(⟨[(0,(.one (.bor l0_0 (map b_si a0)))),(1,(.one (.bor l1_0 (map b_si a1)))),(5,(.oi 0))],[]⟩:St)=h84_0 l0_0 l1_0 a0 a1 0 :=(by rfl)
      have f2:Ev F X (.code l84_0 (h84_0 l0_0 l1_0 a0 a1 0) (.exit 0) ⟨[(0,(.one (.bor l0_0 (map b_si a0)))),(1,(.one (.bor l1_0 (map b_si a1)))),(5,(.oi w0_1)),(14,(.one (.val (.bool w1_1))))],[]⟩):=(by have t:Ev F X (.code l84_0 (h84_0 l0_0 l1_0 a0 a1 0) (ex84_0 (r84_0 a0 a0 a1 0)) (fin84_0 l0_0 l1_0 a0 a1 (r84_0 a0 a0 a1 0))):=t84_0 (l0_0:=l0_0) (l1_0:=l1_0) (a0:=a0) (a1:=a1) (by assumption) (by assumption) a0 a1 [] []  rfl rfl rfl (by simp at*; omega); rw[h1] at t; exact t)
      exact callP_ok (ps:=[]) (os:=[]) (rs:=[(.one (.val (.bool true)))]) (by kernel_rfl) (.f (nt h0) (.f f1 (.f f2 (.h 12 (.b false) (.h 15 (.loop (h84_0 l0_0 l1_0 a0 a1 0) (.exit 0) ⟨[(0,(.one (.bor l0_0 (map b_si a0)))),(1,(.one (.bor l1_0 (map b_si a1)))),(5,(.oi w0_1)),(14,(.one (.val (.bool w1_1))))],[]⟩) .nil)))))
    |k1=>
      try dsimp only
      have f1:(⟨[(0,(.one (.bor l0_0 (map b_si a0)))),(1,(.one (.bor l1_0 (map b_si a1)))),(5,(.oi 0))],[]⟩:St)=h84_0 l0_0 l1_0 a0 a1 0 :=(by rfl)
      have f2:Ev F X (.code l84_0 (h84_0 l0_0 l1_0 a0 a1 0) .ret ⟨[(4,(.one (.val (.bool false))))],[]⟩):=(by have t:Ev F X (.code l84_0 (h84_0 l0_0 l1_0 a0 a1 0) (ex84_0 (r84_0 a0 a0 a1 0)) (fin84_0 l0_0 l1_0 a0 a1 (r84_0 a0 a0 a1 0))):=t84_0 (l0_0:=l0_0) (l1_0:=l1_0) (a0:=a0) (a1:=a1) (by assumption) (by assumption) a0 a1 [] []  rfl rfl rfl (by simp at*; omega); rw[h1] at t; exact t)
      exact callP_ok (ps:=[]) (os:=[]) (rs:=[(.one (.val (.bool false)))]) (by kernel_rfl) (.f (nt h0) (.f f1 (.f f2 (.h 12 (.b false) (.h 15 (.loop (h84_0 l0_0 l1_0 a0 a1 0) .ret ⟨[(4,(.one (.val (.bool false))))],[]⟩) .nil)))))
theorem eqr84_0 (a0:(List K_si)):∀(l m:List K_si) (i:Int),l.length=m.length→(r84_0 a0 l m i=.k1∧l≠m)∨(∃w0 w1,r84_0 a0 l m i=.k0 w0 w1∧l=m)
  |[],[],i,_=>.inr ⟨_,_,rfl,rfl⟩
  |[],_::_,i,h=>by simp at h
  |_::_,[],i,h=>by simp at h
  |x::l,y::m,i,h=>by
    have ih:=eqr84_0 a0 l m (i+1) (by simpa using h)
    by_cases hxy:x=y
    · subst hxy
      have e:r84_0 a0 (x::l) (x::m) i=r84_0 a0 l m (i+1):=by simp[r84_0,ba_eq,eqd130]
      rw[e]
      rcases ih with⟨h1,h2⟩ |⟨w0,w1,h1,h2⟩
      · exact .inl ⟨h1,by simp[h2]⟩
      · exact .inr ⟨_,_,h1,by rw[h2]⟩
    · have e:r84_0 a0 (x::l) (y::m) i=.k1:=by
        simp only[r84_0]
        first
          |((repeat' split)<;>simp_all [ba_eq,eqd130]; done)
          |(cases x; cases y;(repeat' split)<;>simp_all [ba_eq,eqd130])
      exact .inl ⟨e,by simp[hxy]⟩
open Classical in
theorem eqd84 (a b:(List K_si)):m84 a b=decide (a=b):=by
  rw[Bool.eq_iff_iff,decide_eq_true_eq]
  unfold m84
  by_cases hl:length a=length b
  · rcases eqr84_0 a a b 0 hl with⟨h1,h2⟩ |⟨w0,w1,h1,h2⟩
    · simp only[h1,length_map,hl]
      first
        |(simp[h2,ba_eq,eqd130]; done)
        |(cases a; cases b; simp_all [ba_eq,eqd130]; done)
        |(cases a; cases b;(repeat' split)<;>simp_all [ba_eq,eqd130])
    · simp only[h1,length_map,hl]
      first
        |(simp[h2,ba_eq,eqd130]; done)
        |(cases a; cases b; simp_all [ba_eq,eqd130]; done)
        |(cases a; cases b;(repeat' split)<;>simp_all [ba_eq,eqd130])
  · have hn:a≠b:=by rintro rfl; exact hl rfl
    simp only[length_map]
    first
      |(simp[hn,hl,ba_eq,eqd130]; done)
      |((repeat' split)<;>simp_all [ba_eq,eqd130]; done)
      |(simp[hn]; omega)
/-! loop.example/g00539/laws.eqReward -/
def m131 (a0:K_R) (a1:K_R):Bool:=
  if(a0.f0 !=a1.f0)=true then false else
  if(a0.f1 !=a1.f1)=true then false else
    if(a0.f2 !=a1.f2)=true then false else
      if(!(m84 a0.f3 a1.f3))=true then false else
        if(a0.f4 !=a1.f4)=true then false else
          true
theorem e131 {l0_3:Nat} {a0:K_R} {l1_3:Nat} {a1:K_R} (hy0:length a0.f3*24≤140737488351232) (hy1:length a1.f3*24≤140737488351232):Ev F X (.call 131 [(.agg [(.val (.int .i64 a0.f0)),(.val (.int .i64 a0.f1)),(.val (.int .i64 a0.f2)),(.bor l0_3 (map b_si a0.f3)),(.val (.int .i64 a0.f4))]),(.agg [(.val (.int .i64 a1.f0)),(.val (.int .i64 a1.f1)),(.val (.int .i64 a1.f2)),(.bor l1_3 (map b_si a1.f3)),(.val (.int .i64 a1.f4))])] [] [] [(.one (.val (.bool (m131 a0 a1))))]):=by
  unfold m131
  by_cases h0:(a0.f0 !=a1.f0)=true
  · try simp only[if_pos h0]
    exact callP_ok (ps:=[]) (os:=[]) (rs:=[(.one (.val (.bool false)))]) (by kernel_rfl) (.f h0 (.h 16 (.b true) .nil))
  · try simp only[if_neg h0]
    by_cases h1:(a0.f1 !=a1.f1)=true
    · try simp only[if_pos h1]
      exact callP_ok (ps:=[]) (os:=[]) (rs:=[(.one (.val (.bool false)))]) (by kernel_rfl) (.f (nt h0) (.f h1 (.h 16 (.b false) (.h 27 (.b true) .nil))))
    · try simp only[if_neg h1]
      by_cases h2:(a0.f2 !=a1.f2)=true
      · try simp only[if_pos h2]
        exact callP_ok (ps:=[]) (os:=[]) (rs:=[(.one (.val (.bool false)))]) (by kernel_rfl) (.f (nt h0) (.f (nt h1) (.f h2 (.h 16 (.b false) (.h 27 (.b false) (.h 38 (.b true) .nil))))))
      · try simp only[if_neg h2]
        have f3:Ev F X (.call 84 [(.one (.bor (l0_3+1) (map b_si a0.f3))),(.one (.bor (l1_3+1) (map b_si a1.f3)))] [] [] [(.one (.val (.bool (m84 a0.f3 a1.f3))))]):=(e84 (a0:=a0.f3) (a1:=a1.f3) (by with_reducible assumption) (by with_reducible assumption))
        by_cases h3:(!(m84 a0.f3 a1.f3))=true
        · try simp only[if_pos h3]
          exact callP_ok (ps:=[]) (os:=[]) (rs:=[(.one (.val (.bool false)))]) (by kernel_rfl) (.f (nt h0) (.f (nt h1) (.f (nt h2) (.h 16 (.b false) (.h 27 (.b false) (.h 38 (.b false) (.r 48 [] [] f3 (.f h3 (.h 51 (.b true) .nil)))))))))
        · try simp only[if_neg h3]
          by_cases h4:(a0.f4 !=a1.f4)=true
          · try simp only[if_pos h4]
            exact callP_ok (ps:=[]) (os:=[]) (rs:=[(.one (.val (.bool false)))]) (by kernel_rfl) (.f (nt h0) (.f (nt h1) (.f (nt h2) (.h 16 (.b false) (.h 27 (.b false) (.h 38 (.b false) (.r 48 [] [] f3 (.f (nt h3) (.f h4 (.h 51 (.b false) (.h 62 (.b true) .nil)))))))))))
          · try simp only[if_neg h4]
            exact callP_ok (ps:=[]) (os:=[]) (rs:=[(.one (.val (.bool true)))]) (by kernel_rfl) (.f (nt h0) (.f (nt h1) (.f (nt h2) (.h 16 (.b false) (.h 27 (.b false) (.h 38 (.b false) (.r 48 [] [] f3 (.f (nt h3) (.f (nt h4) (.h 51 (.b false) (.h 62 (.b false) .nil)))))))))))
open Classical in
theorem eqd131 (a b:K_R):m131 a b=decide (a=b):=by
  rw[Bool.eq_iff_iff,decide_eq_true_eq]
  constructor
  · intro h
    unfold m131 at h
    cases a; cases b
    (repeat' split at h)<;>simp_all [ba_eq,eqd84]
  · rintro rfl
    simp[m131,ba_eq,eqd84]
/-! loop 85_0 -/
inductive O85_0 where
  |k0 (w0:Int) (w1:Bool)
  |k1
def r85_0 (a0:(List K_R)):List K_R→List K_R→Int→O85_0
  |x0::y0,x1::y1,i=>
    if(!(m131 x0 x1))=true then(O85_0.k1) else
    (r85_0 a0 y0 y1 (i+1))
  |_,_,i=>(O85_0.k0 i (decide (i <((length (map b_R a0)):Int))))
def h85_0 (l0_0:Nat) (l1_0:Nat) (a0:(List K_R)) (a1:(List K_R)) (i:Int) :St:=⟨[(0,(.one (.bor l0_0 (map b_R a0)))),(1,(.one (.bor l1_0 (map b_R a1)))),(5,(.one (.val (.int .i64 i))))],[]⟩
def ex85_0:O85_0→VX.Exit
  |.k0 _ _=>(.exit 0)
  |.k1=>.ret
def fin85_0 (l0_0:Nat) (l1_0:Nat) (a0:(List K_R)) (a1:(List K_R)):O85_0→St
  |.k0 w0 w1=>⟨[(0,(.one (.bor l0_0 (map b_R a0)))),(1,(.one (.bor l1_0 (map b_R a1)))),(5,(.one (.val (.int .i64 w0)))),(14,(.one (.val (.bool w1))))],[]⟩
  |.k1=>⟨[(4,(.one (.val (.bool false))))],[]⟩
theorem t85_0 {l0_0:Nat} {l1_0:Nat} {a0:(List K_R)} {a1:(List K_R)} (hy0:length a0*56≤140737488351232) (hy1:∀z∈a0,ok_R z) (hy2:length a1*56≤140737488351232) (hy3:∀z∈a1,ok_R z):∀(y0:List K_R) (y1:List K_R) (p:List K_R) (p_1:List K_R),p++y0=a0→p_1++y1=a1→length p=length p_1→length y0=length y1→Ev F X (.code l85_0 (h85_0 l0_0 l1_0 a0 a1 (length p:Int)) (ex85_0 (r85_0 a0 y0 y1 (length p:Int))) (fin85_0 l0_0 l1_0 a0 a1 (r85_0 a0 y0 y1 (length p:Int))))
  |[],[],p,p_1,hp0,hp1,hq1,hl1=>by
    have hc:¬(decide ((length p:Int) <((length (map b_R a0)):Int)))=true:=by
      rw[← hp0]; simp only[length_map,length_set,length_append,length_replicate,length_cons,length_nil,decide_eq_true_eq]; omega
    have st:=codeH_ok (F:=F) (X:=X) (c:=b85_0) (t:=0) (hs:=[(8,.b false)]) (σ:=h85_0 l0_0 l1_0 a0 a1 (length p:Int)) (σ':=fin85_0 l0_0 l1_0 a0 a1 (.k0 (length p:Int) (decide ((length p:Int) <((length (map b_R a0)):Int))))) (e:=(.exit 0)) (t':=9) (hs':=[]) (q:=[(decide ((length p:Int) <((length (map b_R a0)):Int)))=false]) (by kernel_rfl) ⟨(nt hc),trivial⟩
    exact .loopX st (show ((.exit 0):VX.Exit)≠.normal from by simp)
  |x0::y0,x1::y1,p,p_1,hp0,hp1,hq1,hl1=>by
    have hc:(decide ((length p:Int) <((length (map b_R a0)):Int)))=true:=by
      rw[← hp0]; simp only[length_map,length_set,length_append,length_replicate,length_cons,length_nil,decide_eq_true_eq]; omega
    have Hx0:(a0)[Int.toNat (length p:Int)]?=some x0:=by
      rw[← hp0,Int.toNat_natCast]; simp
    have Hx1:(a1)[Int.toNat (length p:Int)]?=some x1:=by
      rw[← hp1,hq1,Int.toNat_natCast]; simp
    have Mx0_0:=hy1 x0 (List.mem_of_getElem? Hx0)
    have Mx1_0:=hy3 x1 (List.mem_of_getElem? Hx1)
    have hlen:length (a0)=length p+length y0+1:=by rw[← hp0]; simp; omega
    have hw:IntKind.wrap .i64 ((length p:Int)+1)=(length p:Int)+1:=wrap64 (by omega)
    simp only[r85_0]
    by_cases h_1:(!(m131 x0 x1))=true
    · try simp only[if_pos h_1]
      have st:=codeH_ok (F:=F) (X:=X) (c:=b85_0) (t:=0) (hs:=[(8,.b true),(14,.row [(.i x0.f0),(.i x0.f1),(.i x0.f2),(.sl (map b_si x0.f3)),(.i x0.f4)]),(22,.row [(.i x1.f0),(.i x1.f1),(.i x1.f2),(.sl (map b_si x1.f3)),(.i x1.f4)]),(26,.ret [] [(.one (.val (.bool (m131 x0 x1))))] [] []),(29,.b true)]) (σ:=h85_0 l0_0 l1_0 a0 a1 (length p:Int)) (σ':=fin85_0 l0_0 l1_0 a0 a1 (.k1)) (e:=.ret) (t':=32) (hs':=[]) (q:=[(decide ((length p:Int) <((length (map b_R a0)):Int)))=true,0≤(length p:Int),(map b_R a0)[(Int.toNat (length p:Int))]?=some [(.i x0.f0),(.i x0.f1),(.i x0.f2),(.sl (map b_si x0.f3)),(.i x0.f4)],0≤(length p:Int),(map b_R a1)[(Int.toNat (length p:Int))]?=some [(.i x1.f0),(.i x1.f1),(.i x1.f2),(.sl (map b_si x1.f3)),(.i x1.f4)],Ev F X (.call 131 [(.agg [(.i x0.f0),(.i x0.f1),(.i x0.f2),(.bor (l0_0+1) (map b_si x0.f3)),(.i x0.f4)]),(.agg [(.i x1.f0),(.i x1.f1),(.i x1.f2),(.bor (l1_0+1) (map b_si x1.f3)),(.i x1.f4)])] [] [] [(.one (.val (.bool (m131 x0 x1))))]),(!(m131 x0 x1))=true]) (by kernel_rfl) ⟨hc,(by omega),(by rw[getElem?_map,Hx0]; rfl),(by omega),(by rw[getElem?_map,Hx1]; rfl),(e131 (a0:=x0) (a1:=x1) (by assumption) (by assumption)),h_1,trivial⟩
      exact .loopX st (show (.ret:VX.Exit)≠.normal from by simp)
    · try simp only[if_neg h_1]
      have st:=codeH_ok (F:=F) (X:=X) (c:=b85_0) (t:=0) (hs:=[(8,.b true),(14,.row [(.i x0.f0),(.i x0.f1),(.i x0.f2),(.sl (map b_si x0.f3)),(.i x0.f4)]),(22,.row [(.i x1.f0),(.i x1.f1),(.i x1.f2),(.sl (map b_si x1.f3)),(.i x1.f4)]),(26,.ret [] [(.one (.val (.bool (m131 x0 x1))))] [] []),(29,.b false)]) (σ:=h85_0 l0_0 l1_0 a0 a1 (length p:Int)) (σ':=⟨[(0,(.one (.bor l0_0 (map b_R a0)))),(1,(.one (.bor l1_0 (map b_R a1)))),(5,(.oi (IntKind.wrap .i64 ((length p:Int)+1))))],[]⟩) (e:=.normal) (t':=36) (hs':=[]) (q:=[(decide ((length p:Int) <((length (map b_R a0)):Int)))=true,0≤(length p:Int),(map b_R a0)[(Int.toNat (length p:Int))]?=some [(.i x0.f0),(.i x0.f1),(.i x0.f2),(.sl (map b_si x0.f3)),(.i x0.f4)],0≤(length p:Int),(map b_R a1)[(Int.toNat (length p:Int))]?=some [(.i x1.f0),(.i x1.f1),(.i x1.f2),(.sl (map b_si x1.f3)),(.i x1.f4)],Ev F X (.call 131 [(.agg [(.i x0.f0),(.i x0.f1),(.i x0.f2),(.bor (l0_0+1) (map b_si x0.f3)),(.i x0.f4)]),(.agg [(.i x1.f0),(.i x1.f1),(.i x1.f2),(.bor (l1_0+1) (map b_si x1.f3)),(.i x1.f4)])] [] [] [(.one (.val (.bool (m131 x0 x1))))]),(!(m131 x0 x1))=false,True]) (by kernel_rfl) ⟨hc,(by omega),(by rw[getElem?_map,Hx0]; rfl),(by omega),(by rw[getElem?_map,Hx1]; rfl),(e131 (a0:=x0) (a1:=x1) (by assumption) (by assumption)),(nt h_1),trivial,trivial⟩
      have ih:=t85_0 (l0_0:=l0_0) (l1_0:=l1_0) (a0:=a0) (a1:=a1) hy0 hy1 hy2 hy3 y0 y1 (p++ [x0]) (p_1++ [x1]) (by rw[append_assoc]; exact hp0) (by rw[append_assoc]; exact hp1) (by simp only[length_map,length_set,length_append,length_replicate,length_cons,length_nil]; omega) (by simp only[length_map,length_set,length_append,length_replicate,length_cons,length_nil] at hl1; omega)
      rw[show ((p++ [x0]).length:Int)=(p.length:Int)+1 from by simp] at ih
      rw[show (⟨[(0,(.one (.bor l0_0 (map b_R a0)))),(1,(.one (.bor l1_0 (map b_R a1)))),(5,(.oi (IntKind.wrap .i64 ((length p:Int)+1))))],[]⟩:St)=h85_0 l0_0 l1_0 a0 a1 ((length p:Int)+1)  from(by unfold h85_0; simp only[hw]; done)] at st
      exact .loopN st ih
/-! loop.example/g00539/laws.eqRewardS -/
def m85 (a0:(List K_R)) (a1:(List K_R)):Bool:=
  if(((length (map b_R a0)):Int) !=((length (map b_R a1)):Int))=true then false else
  (match r85_0 a0 a0 a1 0 with | .k0 w0_1 w1_1=>true | .k1=>false)
theorem e85 {l0_0:Nat} {a0:(List K_R)} {l1_0:Nat} {a1:(List K_R)} (hy0:length a0*56≤140737488351232) (hy1:∀z∈a0,ok_R z) (hy2:length a1*56≤140737488351232) (hy3:∀z∈a1,ok_R z):Ev F X (.call 85 [(.one (.bor l0_0 (map b_R a0))),(.one (.bor l1_0 (map b_R a1)))] [] [] [(.one (.val (.bool (m85 a0 a1))))]):=by
  unfold m85
  by_cases h0:(((length (map b_R a0)):Int) !=((length (map b_R a1)):Int))=true
  · try simp only[if_pos h0]
    exact callP_ok (ps:=[]) (os:=[]) (rs:=[(.one (.val (.bool false)))]) (by kernel_rfl) (.f h0 (.h 12 (.b true) .nil))
  · try simp only[if_neg h0]
    cases h1:r85_0 a0 a0 a1 0 with
    |k0 w0_1 w1_1=>
      try dsimp only
      have f1:(⟨[(0,(.one (.bor l0_0 (map b_R a0)))),(1,(.one (.bor l1_0 (map b_R a1)))),(5,(.oi 0))],[]⟩:St)=h85_0 l0_0 l1_0 a0 a1 0 :=(by rfl)
      have f2:Ev F X (.code l85_0 (h85_0 l0_0 l1_0 a0 a1 0) (.exit 0) ⟨[(0,(.one (.bor l0_0 (map b_R a0)))),(1,(.one (.bor l1_0 (map b_R a1)))),(5,(.oi w0_1)),(14,(.one (.val (.bool w1_1))))],[]⟩):=(by have t:Ev F X (.code l85_0 (h85_0 l0_0 l1_0 a0 a1 0) (ex85_0 (r85_0 a0 a0 a1 0)) (fin85_0 l0_0 l1_0 a0 a1 (r85_0 a0 a0 a1 0))):=t85_0 (l0_0:=l0_0) (l1_0:=l1_0) (a0:=a0) (a1:=a1) (by assumption) (by assumption) (by assumption) (by assumption) a0 a1 [] []  rfl rfl rfl (by simp at*; omega); rw[h1] at t; exact t)
      exact callP_ok (ps:=[]) (os:=[]) (rs:=[(.one (.val (.bool true)))]) (by kernel_rfl) (.f (nt h0) (.f f1 (.f f2 (.h 12 (.b false) (.h 15 (.loop (h85_0 l0_0 l1_0 a0 a1 0) (.exit 0) ⟨[(0,(.one (.bor l0_0 (map b_R a0)))),(1,(.one (.bor l1_0 (map b_R a1)))),(5,(.oi w0_1)),(14,(.one (.val (.bool w1_1))))],[]⟩) .nil)))))
    |k1=>
      try dsimp only
      have f1:(⟨[(0,(.one (.bor l0_0 (map b_R a0)))),(1,(.one (.bor l1_0 (map b_R a1)))),(5,(.oi 0))],[]⟩:St)=h85_0 l0_0 l1_0 a0 a1 0 :=(by rfl)
      have f2:Ev F X (.code l85_0 (h85_0 l0_0 l1_0 a0 a1 0) .ret ⟨[(4,(.one (.val (.bool false))))],[]⟩):=(by have t:Ev F X (.code l85_0 (h85_0 l0_0 l1_0 a0 a1 0) (ex85_0 (r85_0 a0 a0 a1 0)) (fin85_0 l0_0 l1_0 a0 a1 (r85_0 a0 a0 a1 0))):=t85_0 (l0_0:=l0_0) (l1_0:=l1_0) (a0:=a0) (a1:=a1) (by assumption) (by assumption) (by assumption) (by assumption) a0 a1 [] []  rfl rfl rfl (by simp at*; omega); rw[h1] at t; exact t)
      exact callP_ok (ps:=[]) (os:=[]) (rs:=[(.one (.val (.bool false)))]) (by kernel_rfl) (.f (nt h0) (.f f1 (.f f2 (.h 12 (.b false) (.h 15 (.loop (h85_0 l0_0 l1_0 a0 a1 0) .ret ⟨[(4,(.one (.val (.bool false))))],[]⟩) .nil)))))
theorem eqr85_0 (a0:(List K_R)):∀(l m:List K_R) (i:Int),l.length=m.length→(r85_0 a0 l m i=.k1∧l≠m)∨(∃w0 w1,r85_0 a0 l m i=.k0 w0 w1∧l=m)
  |[],[],i,_=>.inr ⟨_,_,rfl,rfl⟩
  |[],_::_,i,h=>by simp at h
  |_::_,[],i,h=>by simp at h
  |x::l,y::m,i,h=>by
    have ih:=eqr85_0 a0 l m (i+1) (by simpa using h)
    by_cases hxy:x=y
    · subst hxy
      have e:r85_0 a0 (x::l) (x::m) i=r85_0 a0 l m (i+1):=by simp[r85_0,ba_eq,eqd131]
      rw[e]
      rcases ih with⟨h1,h2⟩ |⟨w0,w1,h1,h2⟩
      · exact .inl ⟨h1,by simp[h2]⟩
      · exact .inr ⟨_,_,h1,by rw[h2]⟩
    · have e:r85_0 a0 (x::l) (y::m) i=.k1:=by
        simp only[r85_0]
        first
          |((repeat' split)<;>simp_all [ba_eq,eqd131]; done)
          |(cases x; cases y;(repeat' split)<;>simp_all [ba_eq,eqd131])
      exact .inl ⟨e,by simp[hxy]⟩
open Classical in
theorem eqd85 (a b:(List K_R)):m85 a b=decide (a=b):=by
  rw[Bool.eq_iff_iff,decide_eq_true_eq]
  unfold m85
  by_cases hl:length a=length b
  · rcases eqr85_0 a a b 0 hl with⟨h1,h2⟩ |⟨w0,w1,h1,h2⟩
    · simp only[h1,length_map,hl]
      first
        |(simp[h2,ba_eq,eqd131]; done)
        |(cases a; cases b; simp_all [ba_eq,eqd131]; done)
        |(cases a; cases b;(repeat' split)<;>simp_all [ba_eq,eqd131])
    · simp only[h1,length_map,hl]
      first
        |(simp[h2,ba_eq,eqd131]; done)
        |(cases a; cases b; simp_all [ba_eq,eqd131]; done)
        |(cases a; cases b;(repeat' split)<;>simp_all [ba_eq,eqd131])
  · have hn:a≠b:=by rintro rfl; exact hl rfl
    simp only[length_map]
    first
      |(simp[hn,hl,ba_eq,eqd131]; done)
      |((repeat' split)<;>simp_all [ba_eq,eqd131]; done)
      |(simp[hn]; omega)
end Go.Proofs.YtihjlmgakpgkeaaDoor.RipenReward
