/- What the functions compute. -/
import Derived.Test.YtihjlmgakpgkeaaDoorERipenRewardD
import Derived.KernelRfl
namespace Go.Proofs.YtihjlmgakpgkeaaDoor.RipenReward
open Go Go.Proofs.YtihjlmgakpgkeaaDoor.V
set_option linter.unusedVariables false
set_option linter.unusedSimpArgs false
set_option maxRecDepth 20000
open List (length_replicate length_map length_set length_append length_cons length_nil length_take length_drop take_of_length_le map_take map_drop map_set append_assoc getElem?_map map length take drop getD set)
attribute [local simp] toBR_si fullR_si pureR_si lenB_si lenD_si fromBR_si copy_si toBR_R fullR_R pureR_R lenB_R lenD_R toBR_B fullR_B pureR_B lenB_B lenD_B toBR_i fullR_i pureR_i lenB_i lenD_i fromBR_i copy_i toBR_b fullR_b pureR_b lenB_b lenD_b fromBR_b copy_b toBR_C fullR_C pureR_C lenB_C lenD_C toBR_LsiE fullR_LsiE pureR_LsiE lenB_LsiE lenD_LsiE toBR_s fullR_s pureR_s lenB_s lenD_s fromBR_s copy_s toBR_Q fullR_Q pureR_Q lenB_Q lenD_Q strInts_len byteRows_len toBR_y fullR_y pureR_y lenB_y lenD_y fromBR_y copy_y
/-! loop.example/g00539/laws.FnExactRipenReward -/
def m5 (a0:K_B) (a1:Int):Bool:=
  if(decide ((m29 a0 1048576) < 0))=true then true else
  if(!(m33 (m1004200 a0 a1) (m30 a0 a1)))=true then false else
    if(!(m34 a0 a0))=true then false else
      if(decide ((m35 a0 1) < 0))=true then false else
        if(decide ((m37 (K_C.mk ((m1004200 a0 a1).f0) ((m1004200 a0 a1).f1) ((m1004200 a0 a1).f2) ((m1004200 a0 a1).f3) (o36_2 (m1004200 a0 a1) 1) (o36_1 (m1004200 a0 a1) 1) (o36_0 (m1004200 a0 a1) 1) ((m1004200 a0 a1).f7) ((m1004200 a0 a1).f8) ((m1004200 a0 a1).f9)) 1) < 0))=true then false else
          if((m37 (K_C.mk ((m1004200 a0 a1).f0) ((m1004200 a0 a1).f1) ((m1004200 a0 a1).f2) ((m1004200 a0 a1).f3) (o36_2 (m1004200 a0 a1) 1) (o36_1 (m1004200 a0 a1) 1) (o36_0 (m1004200 a0 a1) 1) ((m1004200 a0 a1).f7) ((m1004200 a0 a1).f8) ((m1004200 a0 a1).f9)) 1) !=(m36 (m1004200 a0 a1) 1))=true then false else
            true
set_option maxHeartbeats 8000000 in
theorem e5 {l0_2:Nat} {l0_3:Nat} {l0_4:Nat} {a0:K_B} {a1:Int} (hy0:length a0.f2*24≤140737488351232) (hy1:∀z∈a0.f2,os_si z) (hy2:length a0.f3*56≤140737488351232) (hy3:∀z∈a0.f3,os_R z) (hy4:length a0.f4*24≤140737488351232) (hy5:∀z∈a0.f4,os_si z):Ev F X (.call 5 [(.agg [(.val (.int .i64 a0.f0)),(.val (.int .i64 a0.f1)),(.bor l0_2 (map b_si a0.f2)),(.bor l0_3 (map b_R a0.f3)),(.bor l0_4 (map b_si a0.f4)),(.val (.int .i64 a0.f5)),(.val (.int .i64 a0.f6)),(.val (.int .i64 a0.f7))]),(.one (.val (.int .i64 a1)))] [] [] [(.one (.val (.bool (m5 a0 a1))))]):=by
  unfold m5
  have f0:Ev F X (.call 29 [(.agg [(.i a0.f0),(.i a0.f1),(.bor (l0_2+1) (map b_si a0.f2)),(.bor (l0_3+1) (map b_R a0.f3)),(.bor (l0_4+1) (map b_si a0.f4)),(.i a0.f5),(.i a0.f6),(.i a0.f7)]),(.oi 1048576)] [] [] [(.oi (m29 a0 1048576))]):=(e29 (a0:=a0) (a1:=1048576) (by with_reducible assumption) (by with_reducible assumption) (by intro z hz; exact os_ok_R z ((by assumption:∀z∈a0.f3,os_R z) z hz)) (by with_reducible assumption))
  by_cases h0:(decide ((m29 a0 1048576) < 0))=true
  · try simp only[if_pos h0]
    exact callP_ok (ps:=[]) (os:=[]) (rs:=[(.one (.val (.bool true)))]) (by kernel_rfl) (.r 11 [] [] f0 (.f h0 (.h 18 (.b true) .nil)))
  · try simp only[if_neg h0]
    have f2:Ev F X (.call 31 [(.agg [(.i a0.f0),(.i a0.f1),(.bor (l0_2+1) (map b_si a0.f2)),(.bor (l0_3+1) (map b_R a0.f3)),(.bor (l0_4+1) (map b_si a0.f4)),(.i a0.f5),(.i a0.f6),(.i a0.f7)])] [] [] [(.agg [(.i a0.f0),(.i a0.f1),(.own 2 (map d_si a0.f2)),(.own 5 (map d_R a0.f3)),(.own 2 (map d_si a0.f4)),(.i a0.f5),(.i a0.f6),(.i a0.f7)])]):=(e31 (a0:=a0) (by with_reducible assumption) (by with_reducible assumption) (by intro z hz; exact os_ok_R z ((by assumption:∀z∈a0.f3,os_R z) z hz)) (by with_reducible assumption))
    have f3:0+(length (map d_si a0.f2))≤(length (map d_si a0.f2)):=(by omega)
    have f4:fullR (take (length (map d_si a0.f2)) (drop 0 (map d_si a0.f2)))=true:=(ft_si _ _ _)
    have f5:toBR (take (length (map d_si a0.f2)) (drop 0 (map d_si a0.f2)))=(map b_si a0.f2):=(tb_si _)
    have f6:0+(length (map d_R a0.f3))≤(length (map d_R a0.f3)):=(by omega)
    have f7:fullR (take (length (map d_R a0.f3)) (drop 0 (map d_R a0.f3)))=true:=(ft_R _ _ _)
    have f8:toBR (take (length (map d_R a0.f3)) (drop 0 (map d_R a0.f3)))=(map b_R a0.f3):=(tb_R _)
    have f9:0+(length (map d_si a0.f4))≤(length (map d_si a0.f4)):=(by omega)
    have f10:fullR (take (length (map d_si a0.f4)) (drop 0 (map d_si a0.f4)))=true:=(ft_si _ _ _)
    have f11:toBR (take (length (map d_si a0.f4)) (drop 0 (map d_si a0.f4)))=(map b_si a0.f4):=(tb_si _)
    have f12:Ev F X (.call 30 [(.agg [(.i a0.f0),(.i a0.f1),(.bor 0 (map b_si a0.f2)),(.bor 0 (map b_R a0.f3)),(.bor 0 (map b_si a0.f4)),(.i a0.f5),(.i a0.f6),(.i a0.f7)]),(.oi a1)] [] [] [(.agg [(.i ((m30 a0 a1).f0)),(.i ((m30 a0 a1).f1)),(.i ((m30 a0 a1).f2)),(.i ((m30 a0 a1).f3)),(.own 2 (map d_si ((m30 a0 a1).f4))),(.own 5 (map d_R ((m30 a0 a1).f5))),(.own 2 (map d_si ((m30 a0 a1).f6))),(.i ((m30 a0 a1).f7)),(.i ((m30 a0 a1).f8)),(.i ((m30 a0 a1).f9))])]):=(e30 (a0:=a0) (a1:=a1) (by with_reducible assumption) (by with_reducible assumption) (by with_reducible assumption) (by with_reducible assumption) (by with_reducible assumption) (by with_reducible assumption))
    have f13:0=0:=rfl
    have f14:(length (map d_si ((m30 a0 a1).f4)))=(length (map d_si ((m30 a0 a1).f4))):=rfl
    have f15:0=0:=rfl
    have f16:(length (map d_R ((m30 a0 a1).f5)))=(length (map d_R ((m30 a0 a1).f5))):=rfl
    have f17:0=0:=rfl
    have f18:(length (map d_si ((m30 a0 a1).f6)))=(length (map d_si ((m30 a0 a1).f6))):=rfl
    have f19:Ev F X (.call 31 [(.agg [(.i a0.f0),(.i a0.f1),(.bor (l0_2+1) (map b_si a0.f2)),(.bor (l0_3+1) (map b_R a0.f3)),(.bor (l0_4+1) (map b_si a0.f4)),(.i a0.f5),(.i a0.f6),(.i a0.f7)])] [] [] [(.agg [(.i a0.f0),(.i a0.f1),(.own 2 (map d_si a0.f2)),(.own 5 (map d_R a0.f3)),(.own 2 (map d_si a0.f4)),(.i a0.f5),(.i a0.f6),(.i a0.f7)])]):=(e31 (a0:=a0) (by with_reducible assumption) (by with_reducible assumption) (by intro z hz; exact os_ok_R z ((by assumption:∀z∈a0.f3,os_R z) z hz)) (by with_reducible assumption))
    have f20:0=0:=rfl
    have f21:(length (map d_si a0.f2))=(length (map d_si a0.f2)):=rfl
    have f22:0=0:=rfl
    have f23:(length (map d_R a0.f3))=(length (map d_R a0.f3)):=rfl
    have f24:0=0:=rfl
    have f25:(length (map d_si a0.f4))=(length (map d_si a0.f4)):=rfl
    have f26:0+(length (map d_si a0.f2))≤(length (map d_si a0.f2)):=(by omega)
    have f27:fullR (take (length (map d_si a0.f2)) (drop 0 (map d_si a0.f2)))=true:=(ft_si _ _ _)
    have f28:toBR (take (length (map d_si a0.f2)) (drop 0 (map d_si a0.f2)))=(map b_si a0.f2):=(tb_si _)
    have f29:0+(length (map d_R a0.f3))≤(length (map d_R a0.f3)):=(by omega)
    have f30:fullR (take (length (map d_R a0.f3)) (drop 0 (map d_R a0.f3)))=true:=(ft_R _ _ _)
    have f31:toBR (take (length (map d_R a0.f3)) (drop 0 (map d_R a0.f3)))=(map b_R a0.f3):=(tb_R _)
    have f32:0+(length (map d_si a0.f4))≤(length (map d_si a0.f4)):=(by omega)
    have f33:fullR (take (length (map d_si a0.f4)) (drop 0 (map d_si a0.f4)))=true:=(ft_si _ _ _)
    have f34:toBR (take (length (map d_si a0.f4)) (drop 0 (map d_si a0.f4)))=(map b_si a0.f4):=(tb_si _)
    have f35:Ev F X (.call 32 [(.agg [(.i a0.f0),(.i a0.f1),(.bor 0 (map b_si a0.f2)),(.bor 0 (map b_R a0.f3)),(.bor 0 (map b_si a0.f4)),(.i a0.f5),(.i a0.f6),(.i a0.f7)]),(.oi a1)] [] [] [(.agg [(.i ((m1004200 a0 a1).f0)),(.i ((m1004200 a0 a1).f1)),(.i ((m1004200 a0 a1).f2)),(.i ((m1004200 a0 a1).f3)),(.own 2 (map d_si ((m1004200 a0 a1).f4))),(.own 5 (map d_R ((m1004200 a0 a1).f5))),(.own 2 (map d_si ((m1004200 a0 a1).f6))),(.i ((m1004200 a0 a1).f7)),(.i ((m1004200 a0 a1).f8)),(.i ((m1004200 a0 a1).f9))])]):=(e32 (a0:=a0) (a1:=a1) (by with_reducible assumption) (by with_reducible assumption) (by intro z hz; exact os_ok_R z ((by assumption:∀z∈a0.f3,os_R z) z hz)) (by with_reducible assumption))
    have f36:0=0:=rfl
    have f37:(length (map d_si ((m1004200 a0 a1).f4)))=(length (map d_si ((m1004200 a0 a1).f4))):=rfl
    have f38:0=0:=rfl
    have f39:(length (map d_R ((m1004200 a0 a1).f5)))=(length (map d_R ((m1004200 a0 a1).f5))):=rfl
    have f40:0=0:=rfl
    have f41:(length (map d_si ((m1004200 a0 a1).f6)))=(length (map d_si ((m1004200 a0 a1).f6))):=rfl
    have f42:0+(length (map d_si ((m1004200 a0 a1).f4)))≤(length (map d_si ((m1004200 a0 a1).f4))):=(by omega)
    have f43:fullR (take (length (map d_si ((m1004200 a0 a1).f4))) (drop 0 (map d_si ((m1004200 a0 a1).f4))))=true:=(ft_si _ _ _)
    have f44:toBR (take (length (map d_si ((m1004200 a0 a1).f4))) (drop 0 (map d_si ((m1004200 a0 a1).f4))))=(map b_si ((m1004200 a0 a1).f4)):=(tb_si _)
    have f45:0+(length (map d_R ((m1004200 a0 a1).f5)))≤(length (map d_R ((m1004200 a0 a1).f5))):=(by omega)
    have f46:fullR (take (length (map d_R ((m1004200 a0 a1).f5))) (drop 0 (map d_R ((m1004200 a0 a1).f5))))=true:=(ft_R _ _ _)
    have f47:toBR (take (length (map d_R ((m1004200 a0 a1).f5))) (drop 0 (map d_R ((m1004200 a0 a1).f5))))=(map b_R ((m1004200 a0 a1).f5)):=(tb_R _)
    have f48:0+(length (map d_si ((m1004200 a0 a1).f6)))≤(length (map d_si ((m1004200 a0 a1).f6))):=(by omega)
    have f49:fullR (take (length (map d_si ((m1004200 a0 a1).f6))) (drop 0 (map d_si ((m1004200 a0 a1).f6))))=true:=(ft_si _ _ _)
    have f50:toBR (take (length (map d_si ((m1004200 a0 a1).f6))) (drop 0 (map d_si ((m1004200 a0 a1).f6))))=(map b_si ((m1004200 a0 a1).f6)):=(tb_si _)
    have f51:0+(length (map d_si ((m30 a0 a1).f4)))≤(length (map d_si ((m30 a0 a1).f4))):=(by omega)
    have f52:fullR (take (length (map d_si ((m30 a0 a1).f4))) (drop 0 (map d_si ((m30 a0 a1).f4))))=true:=(ft_si _ _ _)
    have f53:toBR (take (length (map d_si ((m30 a0 a1).f4))) (drop 0 (map d_si ((m30 a0 a1).f4))))=(map b_si ((m30 a0 a1).f4)):=(tb_si _)
    have f54:0+(length (map d_R ((m30 a0 a1).f5)))≤(length (map d_R ((m30 a0 a1).f5))):=(by omega)
    have f55:fullR (take (length (map d_R ((m30 a0 a1).f5))) (drop 0 (map d_R ((m30 a0 a1).f5))))=true:=(ft_R _ _ _)
    have f56:toBR (take (length (map d_R ((m30 a0 a1).f5))) (drop 0 (map d_R ((m30 a0 a1).f5))))=(map b_R ((m30 a0 a1).f5)):=(tb_R _)
    have f57:0+(length (map d_si ((m30 a0 a1).f6)))≤(length (map d_si ((m30 a0 a1).f6))):=(by omega)
    have f58:fullR (take (length (map d_si ((m30 a0 a1).f6))) (drop 0 (map d_si ((m30 a0 a1).f6))))=true:=(ft_si _ _ _)
    have f59:toBR (take (length (map d_si ((m30 a0 a1).f6))) (drop 0 (map d_si ((m30 a0 a1).f6))))=(map b_si ((m30 a0 a1).f6)):=(tb_si _)
    have f60:Ev F X (.call 33 [(.agg [(.i ((m1004200 a0 a1).f0)),(.i ((m1004200 a0 a1).f1)),(.i ((m1004200 a0 a1).f2)),(.i ((m1004200 a0 a1).f3)),(.bor 0 (map b_si ((m1004200 a0 a1).f4))),(.bor 0 (map b_R ((m1004200 a0 a1).f5))),(.bor 0 (map b_si ((m1004200 a0 a1).f6))),(.i ((m1004200 a0 a1).f7)),(.i ((m1004200 a0 a1).f8)),(.i ((m1004200 a0 a1).f9))]),(.agg [(.i ((m30 a0 a1).f0)),(.i ((m30 a0 a1).f1)),(.i ((m30 a0 a1).f2)),(.i ((m30 a0 a1).f3)),(.bor 0 (map b_si ((m30 a0 a1).f4))),(.bor 0 (map b_R ((m30 a0 a1).f5))),(.bor 0 (map b_si ((m30 a0 a1).f6))),(.i ((m30 a0 a1).f7)),(.i ((m30 a0 a1).f8)),(.i ((m30 a0 a1).f9))])] [] [] [(.one (.val (.bool (m33 (m1004200 a0 a1) (m30 a0 a1)))))]):=(e33 (a0:=(m1004200 a0 a1)) (a1:=(m30 a0 a1)) (by have q:=okm1004200 a0 a1; exact q.1) (by have q:=okm1004200 a0 a1; exact q.2.1) (by have q:=okm1004200 a0 a1; exact q.2.2.1) (by have q:=okm1004200 a0 a1; exact q.2.2.2) (by have q:=okm30 a0 a1; exact q.1) (by have q:=okm30 a0 a1; exact q.2.1) (by have q:=okm30 a0 a1; exact q.2.2.1) (by have q:=okm30 a0 a1; exact q.2.2.2))
    by_cases h1:(!(m33 (m1004200 a0 a1) (m30 a0 a1)))=true
    · try simp only[if_pos h1]
      exact callP_ok (ps:=[]) (os:=[]) (rs:=[(.one (.val (.bool false)))]) (by kernel_rfl) (.r 11 [] [] f0 (.f (nt h0) (.h 18 (.b false) (.r 22 [] [] f2 (.f f3 (.f f4 (.f f5 (.f f6 (.f f7 (.f f8 (.f f9 (.f f10 (.f f11 (.r 26 [] [(map b_si a0.f2),(map b_R a0.f3),(map b_si a0.f4)] f12 (.f f13 (.f f14 (.f f15 (.f f16 (.f f17 (.f f18 (.r 34 [] [] f19 (.f f20 (.f f21 (.f f22 (.f f23 (.f f24 (.f f25 (.f f26 (.f f27 (.f f28 (.f f29 (.f f30 (.f f31 (.f f32 (.f f33 (.f f34 (.r 44 [] [(map b_si a0.f2),(map b_R a0.f3),(map b_si a0.f4)] f35 (.f f36 (.f f37 (.f f38 (.f f39 (.f f40 (.f f41 (.f f42 (.f f43 (.f f44 (.f f45 (.f f46 (.f f47 (.f f48 (.f f49 (.f f50 (.f f51 (.f f52 (.f f53 (.f f54 (.f f55 (.f f56 (.f f57 (.f f58 (.f f59 (.r 54 [] [(map b_si ((m1004200 a0 a1).f4)),(map b_R ((m1004200 a0 a1).f5)),(map b_si ((m1004200 a0 a1).f6)),(map b_si ((m30 a0 a1).f4)),(map b_R ((m30 a0 a1).f5)),(map b_si ((m30 a0 a1).f6))] f60 (.f h1 (.h 57 (.b true) .nil))))))))))))))))))))))))))))))))))))))))))))))))))))))))))))))))
    · try simp only[if_neg h1]
      have f62:Ev F X (.call 31 [(.agg [(.i a0.f0),(.i a0.f1),(.bor (l0_2+1) (map b_si a0.f2)),(.bor (l0_3+1) (map b_R a0.f3)),(.bor (l0_4+1) (map b_si a0.f4)),(.i a0.f5),(.i a0.f6),(.i a0.f7)])] [] [] [(.agg [(.i a0.f0),(.i a0.f1),(.own 2 (map d_si a0.f2)),(.own 5 (map d_R a0.f3)),(.own 2 (map d_si a0.f4)),(.i a0.f5),(.i a0.f6),(.i a0.f7)])]):=(e31 (a0:=a0) (by with_reducible assumption) (by with_reducible assumption) (by intro z hz; exact os_ok_R z ((by assumption:∀z∈a0.f3,os_R z) z hz)) (by with_reducible assumption))
      have f63:0+(length (map d_si a0.f2))≤(length (map d_si a0.f2)):=(by omega)
      have f64:fullR (take (length (map d_si a0.f2)) (drop 0 (map d_si a0.f2)))=true:=(ft_si _ _ _)
      have f65:toBR (take (length (map d_si a0.f2)) (drop 0 (map d_si a0.f2)))=(map b_si a0.f2):=(tb_si _)
      have f66:0+(length (map d_R a0.f3))≤(length (map d_R a0.f3)):=(by omega)
      have f67:fullR (take (length (map d_R a0.f3)) (drop 0 (map d_R a0.f3)))=true:=(ft_R _ _ _)
      have f68:toBR (take (length (map d_R a0.f3)) (drop 0 (map d_R a0.f3)))=(map b_R a0.f3):=(tb_R _)
      have f69:0+(length (map d_si a0.f4))≤(length (map d_si a0.f4)):=(by omega)
      have f70:fullR (take (length (map d_si a0.f4)) (drop 0 (map d_si a0.f4)))=true:=(ft_si _ _ _)
      have f71:toBR (take (length (map d_si a0.f4)) (drop 0 (map d_si a0.f4)))=(map b_si a0.f4):=(tb_si _)
      have f72:0+(length (map d_si a0.f2))≤(length (map d_si a0.f2)):=(by omega)
      have f73:fullR (take (length (map d_si a0.f2)) (drop 0 (map d_si a0.f2)))=true:=(ft_si _ _ _)
      have f74:toBR (take (length (map d_si a0.f2)) (drop 0 (map d_si a0.f2)))=(map b_si a0.f2):=(tb_si _)
      have f75:0+(length (map d_R a0.f3))≤(length (map d_R a0.f3)):=(by omega)
      have f76:fullR (take (length (map d_R a0.f3)) (drop 0 (map d_R a0.f3)))=true:=(ft_R _ _ _)
      have f77:toBR (take (length (map d_R a0.f3)) (drop 0 (map d_R a0.f3)))=(map b_R a0.f3):=(tb_R _)
      have f78:0+(length (map d_si a0.f4))≤(length (map d_si a0.f4)):=(by omega)
      have f79:fullR (take (length (map d_si a0.f4)) (drop 0 (map d_si a0.f4)))=true:=(ft_si _ _ _)
      have f80:toBR (take (length (map d_si a0.f4)) (drop 0 (map d_si a0.f4)))=(map b_si a0.f4):=(tb_si _)
      have f81:Ev F X (.call 34 [(.agg [(.i a0.f0),(.i a0.f1),(.bor 0 (map b_si a0.f2)),(.bor 0 (map b_R a0.f3)),(.bor 0 (map b_si a0.f4)),(.i a0.f5),(.i a0.f6),(.i a0.f7)]),(.agg [(.i a0.f0),(.i a0.f1),(.bor 0 (map b_si a0.f2)),(.bor 0 (map b_R a0.f3)),(.bor 0 (map b_si a0.f4)),(.i a0.f5),(.i a0.f6),(.i a0.f7)])] [] [] [(.one (.val (.bool (m34 a0 a0))))]):=(e34 (a0:=a0) (a1:=a0) (by with_reducible assumption) (by with_reducible assumption) (by intro z hz; exact os_ok_R z ((by assumption:∀z∈a0.f3,os_R z) z hz)) (by with_reducible assumption) (by with_reducible assumption) (by with_reducible assumption) (by intro z hz; exact os_ok_R z ((by assumption:∀z∈a0.f3,os_R z) z hz)) (by with_reducible assumption))
      by_cases h2:(!(m34 a0 a0))=true
      · try simp only[if_pos h2]
        exact callP_ok (ps:=[]) (os:=[]) (rs:=[(.one (.val (.bool false)))]) (by kernel_rfl) (.r 11 [] [] f0 (.f (nt h0) (.h 18 (.b false) (.r 22 [] [] f2 (.f f3 (.f f4 (.f f5 (.f f6 (.f f7 (.f f8 (.f f9 (.f f10 (.f f11 (.r 26 [] [(map b_si a0.f2),(map b_R a0.f3),(map b_si a0.f4)] f12 (.f f13 (.f f14 (.f f15 (.f f16 (.f f17 (.f f18 (.r 34 [] [] f19 (.f f20 (.f f21 (.f f22 (.f f23 (.f f24 (.f f25 (.f f26 (.f f27 (.f f28 (.f f29 (.f f30 (.f f31 (.f f32 (.f f33 (.f f34 (.r 44 [] [(map b_si a0.f2),(map b_R a0.f3),(map b_si a0.f4)] f35 (.f f36 (.f f37 (.f f38 (.f f39 (.f f40 (.f f41 (.f f42 (.f f43 (.f f44 (.f f45 (.f f46 (.f f47 (.f f48 (.f f49 (.f f50 (.f f51 (.f f52 (.f f53 (.f f54 (.f f55 (.f f56 (.f f57 (.f f58 (.f f59 (.r 54 [] [(map b_si ((m1004200 a0 a1).f4)),(map b_R ((m1004200 a0 a1).f5)),(map b_si ((m1004200 a0 a1).f6)),(map b_si ((m30 a0 a1).f4)),(map b_R ((m30 a0 a1).f5)),(map b_si ((m30 a0 a1).f6))] f60 (.f (nt h1) (.h 57 (.b false) (.r 63 [] [] f62 (.f f63 (.f f64 (.f f65 (.f f66 (.f f67 (.f f68 (.f f69 (.f f70 (.f f71 (.f f72 (.f f73 (.f f74 (.f f75 (.f f76 (.f f77 (.f f78 (.f f79 (.f f80 (.r 65 [] [(map b_si a0.f2),(map b_R a0.f3),(map b_si a0.f4),(map b_si a0.f2),(map b_R a0.f3),(map b_si a0.f4)] f81 (.f h2 (.h 68 (.b true) .nil))))))))))))))))))))))))))))))))))))))))))))))))))))))))))))))))))))))))))))))))))))))
      · try simp only[if_neg h2]
        have f83:pureR (map d_si a0.f2)=true:=(pureR_si _)
        have f84:pureR (map d_R a0.f3)=true:=(pureR_R _)
        have f85:pureR (map d_si a0.f4)=true:=(pureR_si _)
        have f86:Ev F X (.call 35 [(.agg [(.i a0.f0),(.i a0.f1),(.ref ⟨(0,0,0),[],0,(length (map d_si a0.f2))⟩),(.ref ⟨(0,1,0),[],0,(length (map d_R a0.f3))⟩),(.ref ⟨(0,2,0),[],0,(length (map d_si a0.f4))⟩),(.i a0.f5),(.i a0.f6),(.i a0.f7)]),(.oi 1)] [((0,2,0),⟨2,(map d_si a0.f4),[]⟩),((0,1,0),⟨5,(map d_R a0.f3),[]⟩),((0,0,0),⟨2,(map d_si a0.f2),[]⟩)] [(map d_si (o35_0 a0 1)),(map d_R (o35_1 a0 1)),(map d_si (o35_2 a0 1))] [(.oi (m35 a0 1))]):=(e35 (a0:=a0) (a1:=1) (by with_reducible assumption) (by with_reducible assumption) (by intro z hz; exact os_ok_R z ((by assumption:∀z∈a0.f3,os_R z) z hz)) (by with_reducible assumption))
        by_cases h3:(decide ((m35 a0 1) < 0))=true
        · try simp only[if_pos h3]
          exact callP_ok (ps:=[]) (os:=[]) (rs:=[(.one (.val (.bool false)))]) (by kernel_rfl) (.r 11 [] [] f0 (.f (nt h0) (.h 18 (.b false) (.r 22 [] [] f2 (.f f3 (.f f4 (.f f5 (.f f6 (.f f7 (.f f8 (.f f9 (.f f10 (.f f11 (.r 26 [] [(map b_si a0.f2),(map b_R a0.f3),(map b_si a0.f4)] f12 (.f f13 (.f f14 (.f f15 (.f f16 (.f f17 (.f f18 (.r 34 [] [] f19 (.f f20 (.f f21 (.f f22 (.f f23 (.f f24 (.f f25 (.f f26 (.f f27 (.f f28 (.f f29 (.f f30 (.f f31 (.f f32 (.f f33 (.f f34 (.r 44 [] [(map b_si a0.f2),(map b_R a0.f3),(map b_si a0.f4)] f35 (.f f36 (.f f37 (.f f38 (.f f39 (.f f40 (.f f41 (.f f42 (.f f43 (.f f44 (.f f45 (.f f46 (.f f47 (.f f48 (.f f49 (.f f50 (.f f51 (.f f52 (.f f53 (.f f54 (.f f55 (.f f56 (.f f57 (.f f58 (.f f59 (.r 54 [] [(map b_si ((m1004200 a0 a1).f4)),(map b_R ((m1004200 a0 a1).f5)),(map b_si ((m1004200 a0 a1).f6)),(map b_si ((m30 a0 a1).f4)),(map b_R ((m30 a0 a1).f5)),(map b_si ((m30 a0 a1).f6))] f60 (.f (nt h1) (.h 57 (.b false) (.r 63 [] [] f62 (.f f63 (.f f64 (.f f65 (.f f66 (.f f67 (.f f68 (.f f69 (.f f70 (.f f71 (.f f72 (.f f73 (.f f74 (.f f75 (.f f76 (.f f77 (.f f78 (.f f79 (.f f80 (.r 65 [] [(map b_si a0.f2),(map b_R a0.f3),(map b_si a0.f4),(map b_si a0.f2),(map b_R a0.f3),(map b_si a0.f4)] f81 (.f (nt h2) (.f f83 (.f f84 (.f f85 (.h 68 (.b false) (.r 76 [true,true,true] [] f86 (.f h3 (.f h3 (.f h3 (.f h3 (.f h3 (.h 85 (.b true) (.h 87 (.b true) (.h 89 (.b true) (.h 91 (.b true) (.h 94 (.b true) .nil))))))))))))))))))))))))))))))))))))))))))))))))))))))))))))))))))))))))))))))))))))))))))))))))))))
        · try simp only[if_neg h3]
          have f90:0+(length (map d_si ((m1004200 a0 a1).f4)))≤(length (map d_si ((m1004200 a0 a1).f4))):=(by omega)
          have f91:fullR (take (length (map d_si ((m1004200 a0 a1).f4))) (drop 0 (map d_si ((m1004200 a0 a1).f4))))=true:=(ft_si _ _ _)
          have f92:toBR (take (length (map d_si ((m1004200 a0 a1).f4))) (drop 0 (map d_si ((m1004200 a0 a1).f4))))=(map b_si ((m1004200 a0 a1).f4)):=(tb_si _)
          have f93:0+(length (map d_R ((m1004200 a0 a1).f5)))≤(length (map d_R ((m1004200 a0 a1).f5))):=(by omega)
          have f94:fullR (take (length (map d_R ((m1004200 a0 a1).f5))) (drop 0 (map d_R ((m1004200 a0 a1).f5))))=true:=(ft_R _ _ _)
          have f95:toBR (take (length (map d_R ((m1004200 a0 a1).f5))) (drop 0 (map d_R ((m1004200 a0 a1).f5))))=(map b_R ((m1004200 a0 a1).f5)):=(tb_R _)
          have f96:0+(length (map d_si ((m1004200 a0 a1).f6)))≤(length (map d_si ((m1004200 a0 a1).f6))):=(by omega)
          have f97:fullR (take (length (map d_si ((m1004200 a0 a1).f6))) (drop 0 (map d_si ((m1004200 a0 a1).f6))))=true:=(ft_si _ _ _)
          have f98:toBR (take (length (map d_si ((m1004200 a0 a1).f6))) (drop 0 (map d_si ((m1004200 a0 a1).f6))))=(map b_si ((m1004200 a0 a1).f6)):=(tb_si _)
          have f99:0+(length (map d_si ((m30 a0 a1).f4)))≤(length (map d_si ((m30 a0 a1).f4))):=(by omega)
          have f100:fullR (take (length (map d_si ((m30 a0 a1).f4))) (drop 0 (map d_si ((m30 a0 a1).f4))))=true:=(ft_si _ _ _)
          have f101:toBR (take (length (map d_si ((m30 a0 a1).f4))) (drop 0 (map d_si ((m30 a0 a1).f4))))=(map b_si ((m30 a0 a1).f4)):=(tb_si _)
          have f102:0+(length (map d_R ((m30 a0 a1).f5)))≤(length (map d_R ((m30 a0 a1).f5))):=(by omega)
          have f103:fullR (take (length (map d_R ((m30 a0 a1).f5))) (drop 0 (map d_R ((m30 a0 a1).f5))))=true:=(ft_R _ _ _)
          have f104:toBR (take (length (map d_R ((m30 a0 a1).f5))) (drop 0 (map d_R ((m30 a0 a1).f5))))=(map b_R ((m30 a0 a1).f5)):=(tb_R _)
          have f105:0+(length (map d_si ((m30 a0 a1).f6)))≤(length (map d_si ((m30 a0 a1).f6))):=(by omega)
          have f106:fullR (take (length (map d_si ((m30 a0 a1).f6))) (drop 0 (map d_si ((m30 a0 a1).f6))))=true:=(ft_si _ _ _)
          have f107:toBR (take (length (map d_si ((m30 a0 a1).f6))) (drop 0 (map d_si ((m30 a0 a1).f6))))=(map b_si ((m30 a0 a1).f6)):=(tb_si _)
          have f108:Ev F X (.call 33 [(.agg [(.i ((m1004200 a0 a1).f0)),(.i ((m1004200 a0 a1).f1)),(.i ((m1004200 a0 a1).f2)),(.i ((m1004200 a0 a1).f3)),(.bor 0 (map b_si ((m1004200 a0 a1).f4))),(.bor 0 (map b_R ((m1004200 a0 a1).f5))),(.bor 0 (map b_si ((m1004200 a0 a1).f6))),(.i ((m1004200 a0 a1).f7)),(.i ((m1004200 a0 a1).f8)),(.i ((m1004200 a0 a1).f9))]),(.agg [(.i ((m30 a0 a1).f0)),(.i ((m30 a0 a1).f1)),(.i ((m30 a0 a1).f2)),(.i ((m30 a0 a1).f3)),(.bor 0 (map b_si ((m30 a0 a1).f4))),(.bor 0 (map b_R ((m30 a0 a1).f5))),(.bor 0 (map b_si ((m30 a0 a1).f6))),(.i ((m30 a0 a1).f7)),(.i ((m30 a0 a1).f8)),(.i ((m30 a0 a1).f9))])] [] [] [(.one (.val (.bool (m33 (m1004200 a0 a1) (m30 a0 a1)))))]):=(e33 (a0:=(m1004200 a0 a1)) (a1:=(m30 a0 a1)) (by have q:=okm1004200 a0 a1; exact q.1) (by have q:=okm1004200 a0 a1; exact q.2.1) (by have q:=okm1004200 a0 a1; exact q.2.2.1) (by have q:=okm1004200 a0 a1; exact q.2.2.2) (by have q:=okm30 a0 a1; exact q.1) (by have q:=okm30 a0 a1; exact q.2.1) (by have q:=okm30 a0 a1; exact q.2.2.1) (by have q:=okm30 a0 a1; exact q.2.2.2))
          have f112:pureR (map d_si ((m1004200 a0 a1).f4))=true:=(pureR_si _)
          have f113:pureR (map d_R ((m1004200 a0 a1).f5))=true:=(pureR_R _)
          have f114:pureR (map d_si ((m1004200 a0 a1).f6))=true:=(pureR_si _)
          have f115:Ev F X (.call 36 [(.agg [(.i ((m1004200 a0 a1).f0)),(.i ((m1004200 a0 a1).f1)),(.i ((m1004200 a0 a1).f2)),(.i ((m1004200 a0 a1).f3)),(.ref ⟨(0,0,0),[],0,(length (map d_si ((m1004200 a0 a1).f4)))⟩),(.ref ⟨(0,1,0),[],0,(length (map d_R ((m1004200 a0 a1).f5)))⟩),(.ref ⟨(0,2,0),[],0,(length (map d_si ((m1004200 a0 a1).f6)))⟩),(.i ((m1004200 a0 a1).f7)),(.i ((m1004200 a0 a1).f8)),(.i ((m1004200 a0 a1).f9))]),(.oi 1)] [((0,2,0),⟨2,(map d_si ((m1004200 a0 a1).f6)),[]⟩),((0,1,0),⟨5,(map d_R ((m1004200 a0 a1).f5)),[]⟩),((0,0,0),⟨2,(map d_si ((m1004200 a0 a1).f4)),[]⟩)] [(map d_si (o36_0 (m1004200 a0 a1) 1)),(map d_R (o36_1 (m1004200 a0 a1) 1)),(map d_si (o36_2 (m1004200 a0 a1) 1))] [(.oi (m36 (m1004200 a0 a1) 1))]):=(e36 (a0:=(m1004200 a0 a1)) (a1:=1) (by have q:=okm1004200 a0 a1; exact q.1) (by have q:=okm1004200 a0 a1; exact q.2.1) (by have q:=okm1004200 a0 a1; exact q.2.2.1) (by have q:=okm1004200 a0 a1; exact q.2.2.2))
          have f116:0+(length (map d_si (o36_2 (m1004200 a0 a1) 1)))≤(length (map d_si (o36_2 (m1004200 a0 a1) 1))):=(by omega)
          have f117:fullR (take (length (map d_si (o36_2 (m1004200 a0 a1) 1))) (drop 0 (map d_si (o36_2 (m1004200 a0 a1) 1))))=true:=(ft_si _ _ _)
          have f118:toBR (take (length (map d_si (o36_2 (m1004200 a0 a1) 1))) (drop 0 (map d_si (o36_2 (m1004200 a0 a1) 1))))=(map b_si (o36_2 (m1004200 a0 a1) 1)):=(tb_si _)
          have f119:0+(length (map d_R (o36_1 (m1004200 a0 a1) 1)))≤(length (map d_R (o36_1 (m1004200 a0 a1) 1))):=(by omega)
          have f120:fullR (take (length (map d_R (o36_1 (m1004200 a0 a1) 1))) (drop 0 (map d_R (o36_1 (m1004200 a0 a1) 1))))=true:=(ft_R _ _ _)
          have f121:toBR (take (length (map d_R (o36_1 (m1004200 a0 a1) 1))) (drop 0 (map d_R (o36_1 (m1004200 a0 a1) 1))))=(map b_R (o36_1 (m1004200 a0 a1) 1)):=(tb_R _)
          have f122:0+(length (map d_si (o36_0 (m1004200 a0 a1) 1)))≤(length (map d_si (o36_0 (m1004200 a0 a1) 1))):=(by omega)
          have f123:fullR (take (length (map d_si (o36_0 (m1004200 a0 a1) 1))) (drop 0 (map d_si (o36_0 (m1004200 a0 a1) 1))))=true:=(ft_si _ _ _)
          have f124:toBR (take (length (map d_si (o36_0 (m1004200 a0 a1) 1))) (drop 0 (map d_si (o36_0 (m1004200 a0 a1) 1))))=(map b_si (o36_0 (m1004200 a0 a1) 1)):=(tb_si _)
          have f125:Ev F X (.call 37 [(.agg [(.i ((m1004200 a0 a1).f0)),(.i ((m1004200 a0 a1).f1)),(.i ((m1004200 a0 a1).f2)),(.i ((m1004200 a0 a1).f3)),(.bor 0 (map b_si (o36_2 (m1004200 a0 a1) 1))),(.bor 0 (map b_R (o36_1 (m1004200 a0 a1) 1))),(.bor 0 (map b_si (o36_0 (m1004200 a0 a1) 1))),(.i ((m1004200 a0 a1).f7)),(.i ((m1004200 a0 a1).f8)),(.i ((m1004200 a0 a1).f9))]),(.oi 1)] [] [] [(.oi (m37 (K_C.mk ((m1004200 a0 a1).f0) ((m1004200 a0 a1).f1) ((m1004200 a0 a1).f2) ((m1004200 a0 a1).f3) (o36_2 (m1004200 a0 a1) 1) (o36_1 (m1004200 a0 a1) 1) (o36_0 (m1004200 a0 a1) 1) ((m1004200 a0 a1).f7) ((m1004200 a0 a1).f8) ((m1004200 a0 a1).f9)) 1))]):=(e37 (a0:=(K_C.mk ((m1004200 a0 a1).f0) ((m1004200 a0 a1).f1) ((m1004200 a0 a1).f2) ((m1004200 a0 a1).f3) (o36_2 (m1004200 a0 a1) 1) (o36_1 (m1004200 a0 a1) 1) (o36_0 (m1004200 a0 a1) 1) ((m1004200 a0 a1).f7) ((m1004200 a0 a1).f8) ((m1004200 a0 a1).f9))) (a1:=1) (by have q:=okm1004200 a0 a1; rw[ol36_2]; exact q.1) (by have q:=okm1004200 a0 a1; rw[ol36_1]; exact q.2.1) (by have q:=okm1004200 a0 a1; exact oo87 _ _ q.2.2.1) (by have q:=okm1004200 a0 a1; rw[ol36_0]; exact q.2.2.2))
          by_cases h4:(decide ((m37 (K_C.mk ((m1004200 a0 a1).f0) ((m1004200 a0 a1).f1) ((m1004200 a0 a1).f2) ((m1004200 a0 a1).f3) (o36_2 (m1004200 a0 a1) 1) (o36_1 (m1004200 a0 a1) 1) (o36_0 (m1004200 a0 a1) 1) ((m1004200 a0 a1).f7) ((m1004200 a0 a1).f8) ((m1004200 a0 a1).f9)) 1) < 0))=true
          · try simp only[if_pos h4]
            exact callP_ok (ps:=[]) (os:=[]) (rs:=[(.one (.val (.bool false)))]) (by kernel_rfl) (.r 11 [] [] f0 (.f (nt h0) (.h 18 (.b false) (.r 22 [] [] f2 (.f f3 (.f f4 (.f f5 (.f f6 (.f f7 (.f f8 (.f f9 (.f f10 (.f f11 (.r 26 [] [(map b_si a0.f2),(map b_R a0.f3),(map b_si a0.f4)] f12 (.f f13 (.f f14 (.f f15 (.f f16 (.f f17 (.f f18 (.r 34 [] [] f19 (.f f20 (.f f21 (.f f22 (.f f23 (.f f24 (.f f25 (.f f26 (.f f27 (.f f28 (.f f29 (.f f30 (.f f31 (.f f32 (.f f33 (.f f34 (.r 44 [] [(map b_si a0.f2),(map b_R a0.f3),(map b_si a0.f4)] f35 (.f f36 (.f f37 (.f f38 (.f f39 (.f f40 (.f f41 (.f f42 (.f f43 (.f f44 (.f f45 (.f f46 (.f f47 (.f f48 (.f f49 (.f f50 (.f f51 (.f f52 (.f f53 (.f f54 (.f f55 (.f f56 (.f f57 (.f f58 (.f f59 (.r 54 [] [(map b_si ((m1004200 a0 a1).f4)),(map b_R ((m1004200 a0 a1).f5)),(map b_si ((m1004200 a0 a1).f6)),(map b_si ((m30 a0 a1).f4)),(map b_R ((m30 a0 a1).f5)),(map b_si ((m30 a0 a1).f6))] f60 (.f (nt h1) (.h 57 (.b false) (.r 63 [] [] f62 (.f f63 (.f f64 (.f f65 (.f f66 (.f f67 (.f f68 (.f f69 (.f f70 (.f f71 (.f f72 (.f f73 (.f f74 (.f f75 (.f f76 (.f f77 (.f f78 (.f f79 (.f f80 (.r 65 [] [(map b_si a0.f2),(map b_R a0.f3),(map b_si a0.f4),(map b_si a0.f2),(map b_R a0.f3),(map b_si a0.f4)] f81 (.f (nt h2) (.f f83 (.f f84 (.f f85 (.h 68 (.b false) (.r 76 [true,true,true] [] f86 (.f (nt h3) (.f (nt h3) (.f (nt h3) (.f f90 (.f f91 (.f f92 (.f f93 (.f f94 (.f f95 (.f f96 (.f f97 (.f f98 (.f f99 (.f f100 (.f f101 (.f f102 (.f f103 (.f f104 (.f f105 (.f f106 (.f f107 (.h 85 (.b false) (.h 87 (.b false) (.h 89 (.b false) (.r 90 [] [(map b_si ((m1004200 a0 a1).f4)),(map b_R ((m1004200 a0 a1).f5)),(map b_si ((m1004200 a0 a1).f6)),(map b_si ((m30 a0 a1).f4)),(map b_R ((m30 a0 a1).f5)),(map b_si ((m30 a0 a1).f6))] f108 (.f (nt h3) (.f (nt h3) (.f (nt h1) (.f f112 (.f f113 (.f f114 (.h 91 (.b false) (.h 94 (.b false) (.h 95 (.b false) (.r 103 [true,true,true] [] f115 (.f f116 (.f f117 (.f f118 (.f f119 (.f f120 (.f f121 (.f f122 (.f f123 (.f f124 (.r 113 [] [(map b_si (o36_2 (m1004200 a0 a1) 1)),(map b_R (o36_1 (m1004200 a0 a1) 1)),(map b_si (o36_0 (m1004200 a0 a1) 1))] f125 (.f h4 (.h 120 (.b true) .nil)))))))))))))))))))))))))))))))))))))))))))))))))))))))))))))))))))))))))))))))))))))))))))))))))))))))))))))))))))))))))))))))))))))))))
          · try simp only[if_neg h4]
            by_cases h5:((m37 (K_C.mk ((m1004200 a0 a1).f0) ((m1004200 a0 a1).f1) ((m1004200 a0 a1).f2) ((m1004200 a0 a1).f3) (o36_2 (m1004200 a0 a1) 1) (o36_1 (m1004200 a0 a1) 1) (o36_0 (m1004200 a0 a1) 1) ((m1004200 a0 a1).f7) ((m1004200 a0 a1).f8) ((m1004200 a0 a1).f9)) 1) !=(m36 (m1004200 a0 a1) 1))=true
            · try simp only[if_pos h5]
              exact callP_ok (ps:=[]) (os:=[]) (rs:=[(.one (.val (.bool false)))]) (by kernel_rfl) (.r 11 [] [] f0 (.f (nt h0) (.h 18 (.b false) (.r 22 [] [] f2 (.f f3 (.f f4 (.f f5 (.f f6 (.f f7 (.f f8 (.f f9 (.f f10 (.f f11 (.r 26 [] [(map b_si a0.f2),(map b_R a0.f3),(map b_si a0.f4)] f12 (.f f13 (.f f14 (.f f15 (.f f16 (.f f17 (.f f18 (.r 34 [] [] f19 (.f f20 (.f f21 (.f f22 (.f f23 (.f f24 (.f f25 (.f f26 (.f f27 (.f f28 (.f f29 (.f f30 (.f f31 (.f f32 (.f f33 (.f f34 (.r 44 [] [(map b_si a0.f2),(map b_R a0.f3),(map b_si a0.f4)] f35 (.f f36 (.f f37 (.f f38 (.f f39 (.f f40 (.f f41 (.f f42 (.f f43 (.f f44 (.f f45 (.f f46 (.f f47 (.f f48 (.f f49 (.f f50 (.f f51 (.f f52 (.f f53 (.f f54 (.f f55 (.f f56 (.f f57 (.f f58 (.f f59 (.r 54 [] [(map b_si ((m1004200 a0 a1).f4)),(map b_R ((m1004200 a0 a1).f5)),(map b_si ((m1004200 a0 a1).f6)),(map b_si ((m30 a0 a1).f4)),(map b_R ((m30 a0 a1).f5)),(map b_si ((m30 a0 a1).f6))] f60 (.f (nt h1) (.h 57 (.b false) (.r 63 [] [] f62 (.f f63 (.f f64 (.f f65 (.f f66 (.f f67 (.f f68 (.f f69 (.f f70 (.f f71 (.f f72 (.f f73 (.f f74 (.f f75 (.f f76 (.f f77 (.f f78 (.f f79 (.f f80 (.r 65 [] [(map b_si a0.f2),(map b_R a0.f3),(map b_si a0.f4),(map b_si a0.f2),(map b_R a0.f3),(map b_si a0.f4)] f81 (.f (nt h2) (.f f83 (.f f84 (.f f85 (.h 68 (.b false) (.r 76 [true,true,true] [] f86 (.f (nt h3) (.f (nt h3) (.f (nt h3) (.f f90 (.f f91 (.f f92 (.f f93 (.f f94 (.f f95 (.f f96 (.f f97 (.f f98 (.f f99 (.f f100 (.f f101 (.f f102 (.f f103 (.f f104 (.f f105 (.f f106 (.f f107 (.h 85 (.b false) (.h 87 (.b false) (.h 89 (.b false) (.r 90 [] [(map b_si ((m1004200 a0 a1).f4)),(map b_R ((m1004200 a0 a1).f5)),(map b_si ((m1004200 a0 a1).f6)),(map b_si ((m30 a0 a1).f4)),(map b_R ((m30 a0 a1).f5)),(map b_si ((m30 a0 a1).f6))] f108 (.f (nt h3) (.f (nt h3) (.f (nt h1) (.f f112 (.f f113 (.f f114 (.h 91 (.b false) (.h 94 (.b false) (.h 95 (.b false) (.r 103 [true,true,true] [] f115 (.f f116 (.f f117 (.f f118 (.f f119 (.f f120 (.f f121 (.f f122 (.f f123 (.f f124 (.r 113 [] [(map b_si (o36_2 (m1004200 a0 a1) 1)),(map b_R (o36_1 (m1004200 a0 a1) 1)),(map b_si (o36_0 (m1004200 a0 a1) 1))] f125 (.f (nt h4) (.f h5 (.h 120 (.b false) (.h 127 (.b true) .nil)))))))))))))))))))))))))))))))))))))))))))))))))))))))))))))))))))))))))))))))))))))))))))))))))))))))))))))))))))))))))))))))))))))))))))
            · try simp only[if_neg h5]
              have f128:Ev F X (.call 31 [(.agg [(.i a0.f0),(.i a0.f1),(.bor (l0_2+1) (map b_si a0.f2)),(.bor (l0_3+1) (map b_R a0.f3)),(.bor (l0_4+1) (map b_si a0.f4)),(.i a0.f5),(.i a0.f6),(.i a0.f7)])] [] [] [(.agg [(.i a0.f0),(.i a0.f1),(.own 2 (map d_si a0.f2)),(.own 5 (map d_R a0.f3)),(.own 2 (map d_si a0.f4)),(.i a0.f5),(.i a0.f6),(.i a0.f7)])]):=(e31 (a0:=a0) (by with_reducible assumption) (by with_reducible assumption) (by intro z hz; exact os_ok_R z ((by assumption:∀z∈a0.f3,os_R z) z hz)) (by with_reducible assumption))
              have f129:0+(length (map d_si a0.f2))≤(length (map d_si a0.f2)):=(by omega)
              have f130:fullR (take (length (map d_si a0.f2)) (drop 0 (map d_si a0.f2)))=true:=(ft_si _ _ _)
              have f131:toBR (take (length (map d_si a0.f2)) (drop 0 (map d_si a0.f2)))=(map b_si a0.f2):=(tb_si _)
              have f132:0+(length (map d_R a0.f3))≤(length (map d_R a0.f3)):=(by omega)
              have f133:fullR (take (length (map d_R a0.f3)) (drop 0 (map d_R a0.f3)))=true:=(ft_R _ _ _)
              have f134:toBR (take (length (map d_R a0.f3)) (drop 0 (map d_R a0.f3)))=(map b_R a0.f3):=(tb_R _)
              have f135:0+(length (map d_si a0.f4))≤(length (map d_si a0.f4)):=(by omega)
              have f136:fullR (take (length (map d_si a0.f4)) (drop 0 (map d_si a0.f4)))=true:=(ft_si _ _ _)
              have f137:toBR (take (length (map d_si a0.f4)) (drop 0 (map d_si a0.f4)))=(map b_si a0.f4):=(tb_si _)
              have f138:Ev F X (.call 32 [(.agg [(.i a0.f0),(.i a0.f1),(.bor 0 (map b_si a0.f2)),(.bor 0 (map b_R a0.f3)),(.bor 0 (map b_si a0.f4)),(.i a0.f5),(.i a0.f6),(.i a0.f7)]),(.oi a1)] [] [] [(.agg [(.i ((m1004200 a0 a1).f0)),(.i ((m1004200 a0 a1).f1)),(.i ((m1004200 a0 a1).f2)),(.i ((m1004200 a0 a1).f3)),(.own 2 (map d_si ((m1004200 a0 a1).f4))),(.own 5 (map d_R ((m1004200 a0 a1).f5))),(.own 2 (map d_si ((m1004200 a0 a1).f6))),(.i ((m1004200 a0 a1).f7)),(.i ((m1004200 a0 a1).f8)),(.i ((m1004200 a0 a1).f9))])]):=(e32 (a0:=a0) (a1:=a1) (by with_reducible assumption) (by with_reducible assumption) (by intro z hz; exact os_ok_R z ((by assumption:∀z∈a0.f3,os_R z) z hz)) (by with_reducible assumption))
              have f139:0=0:=rfl
              have f140:(length (map d_si ((m1004200 a0 a1).f4)))=(length (map d_si ((m1004200 a0 a1).f4))):=rfl
              have f141:0=0:=rfl
              have f142:(length (map d_R ((m1004200 a0 a1).f5)))=(length (map d_R ((m1004200 a0 a1).f5))):=rfl
              have f143:0=0:=rfl
              have f144:(length (map d_si ((m1004200 a0 a1).f6)))=(length (map d_si ((m1004200 a0 a1).f6))):=rfl
              have f145:0+(length (map d_si ((m1004200 a0 a1).f4)))≤(length (map d_si ((m1004200 a0 a1).f4))):=(by omega)
              have f146:fullR (take (length (map d_si ((m1004200 a0 a1).f4))) (drop 0 (map d_si ((m1004200 a0 a1).f4))))=true:=(ft_si _ _ _)
              have f147:toBR (take (length (map d_si ((m1004200 a0 a1).f4))) (drop 0 (map d_si ((m1004200 a0 a1).f4))))=(map b_si ((m1004200 a0 a1).f4)):=(tb_si _)
              have f148:0+(length (map d_R ((m1004200 a0 a1).f5)))≤(length (map d_R ((m1004200 a0 a1).f5))):=(by omega)
              have f149:fullR (take (length (map d_R ((m1004200 a0 a1).f5))) (drop 0 (map d_R ((m1004200 a0 a1).f5))))=true:=(ft_R _ _ _)
              have f150:toBR (take (length (map d_R ((m1004200 a0 a1).f5))) (drop 0 (map d_R ((m1004200 a0 a1).f5))))=(map b_R ((m1004200 a0 a1).f5)):=(tb_R _)
              have f151:0+(length (map d_si ((m1004200 a0 a1).f6)))≤(length (map d_si ((m1004200 a0 a1).f6))):=(by omega)
              have f152:fullR (take (length (map d_si ((m1004200 a0 a1).f6))) (drop 0 (map d_si ((m1004200 a0 a1).f6))))=true:=(ft_si _ _ _)
              have f153:toBR (take (length (map d_si ((m1004200 a0 a1).f6))) (drop 0 (map d_si ((m1004200 a0 a1).f6))))=(map b_si ((m1004200 a0 a1).f6)):=(tb_si _)
              have f154:0+(length (map d_si ((m30 a0 a1).f4)))≤(length (map d_si ((m30 a0 a1).f4))):=(by omega)
              have f155:fullR (take (length (map d_si ((m30 a0 a1).f4))) (drop 0 (map d_si ((m30 a0 a1).f4))))=true:=(ft_si _ _ _)
              have f156:toBR (take (length (map d_si ((m30 a0 a1).f4))) (drop 0 (map d_si ((m30 a0 a1).f4))))=(map b_si ((m30 a0 a1).f4)):=(tb_si _)
              have f157:0+(length (map d_R ((m30 a0 a1).f5)))≤(length (map d_R ((m30 a0 a1).f5))):=(by omega)
              have f158:fullR (take (length (map d_R ((m30 a0 a1).f5))) (drop 0 (map d_R ((m30 a0 a1).f5))))=true:=(ft_R _ _ _)
              have f159:toBR (take (length (map d_R ((m30 a0 a1).f5))) (drop 0 (map d_R ((m30 a0 a1).f5))))=(map b_R ((m30 a0 a1).f5)):=(tb_R _)
              have f160:0+(length (map d_si ((m30 a0 a1).f6)))≤(length (map d_si ((m30 a0 a1).f6))):=(by omega)
              have f161:fullR (take (length (map d_si ((m30 a0 a1).f6))) (drop 0 (map d_si ((m30 a0 a1).f6))))=true:=(ft_si _ _ _)
              have f162:toBR (take (length (map d_si ((m30 a0 a1).f6))) (drop 0 (map d_si ((m30 a0 a1).f6))))=(map b_si ((m30 a0 a1).f6)):=(tb_si _)
              have f163:Ev F X (.call 33 [(.agg [(.i ((m1004200 a0 a1).f0)),(.i ((m1004200 a0 a1).f1)),(.i ((m1004200 a0 a1).f2)),(.i ((m1004200 a0 a1).f3)),(.bor 0 (map b_si ((m1004200 a0 a1).f4))),(.bor 0 (map b_R ((m1004200 a0 a1).f5))),(.bor 0 (map b_si ((m1004200 a0 a1).f6))),(.i ((m1004200 a0 a1).f7)),(.i ((m1004200 a0 a1).f8)),(.i ((m1004200 a0 a1).f9))]),(.agg [(.i ((m30 a0 a1).f0)),(.i ((m30 a0 a1).f1)),(.i ((m30 a0 a1).f2)),(.i ((m30 a0 a1).f3)),(.bor 0 (map b_si ((m30 a0 a1).f4))),(.bor 0 (map b_R ((m30 a0 a1).f5))),(.bor 0 (map b_si ((m30 a0 a1).f6))),(.i ((m30 a0 a1).f7)),(.i ((m30 a0 a1).f8)),(.i ((m30 a0 a1).f9))])] [] [] [(.one (.val (.bool (m33 (m1004200 a0 a1) (m30 a0 a1)))))]):=(e33 (a0:=(m1004200 a0 a1)) (a1:=(m30 a0 a1)) (by have q:=okm1004200 a0 a1; exact q.1) (by have q:=okm1004200 a0 a1; exact q.2.1) (by have q:=okm1004200 a0 a1; exact q.2.2.1) (by have q:=okm1004200 a0 a1; exact q.2.2.2) (by have q:=okm30 a0 a1; exact q.1) (by have q:=okm30 a0 a1; exact q.2.1) (by have q:=okm30 a0 a1; exact q.2.2.1) (by have q:=okm30 a0 a1; exact q.2.2.2))
              have f165:0+(length (map d_si (o36_2 (m1004200 a0 a1) 1)))≤(length (map d_si (o36_2 (m1004200 a0 a1) 1))):=(by omega)
              have f166:fullR (take (length (map d_si (o36_2 (m1004200 a0 a1) 1))) (drop 0 (map d_si (o36_2 (m1004200 a0 a1) 1))))=true:=(ft_si _ _ _)
              have f167:toBR (take (length (map d_si (o36_2 (m1004200 a0 a1) 1))) (drop 0 (map d_si (o36_2 (m1004200 a0 a1) 1))))=(map b_si (o36_2 (m1004200 a0 a1) 1)):=(tb_si _)
              have f168:0+(length (map d_R (o36_1 (m1004200 a0 a1) 1)))≤(length (map d_R (o36_1 (m1004200 a0 a1) 1))):=(by omega)
              have f169:fullR (take (length (map d_R (o36_1 (m1004200 a0 a1) 1))) (drop 0 (map d_R (o36_1 (m1004200 a0 a1) 1))))=true:=(ft_R _ _ _)
              have f170:toBR (take (length (map d_R (o36_1 (m1004200 a0 a1) 1))) (drop 0 (map d_R (o36_1 (m1004200 a0 a1) 1))))=(map b_R (o36_1 (m1004200 a0 a1) 1)):=(tb_R _)
              have f171:0+(length (map d_si (o36_0 (m1004200 a0 a1) 1)))≤(length (map d_si (o36_0 (m1004200 a0 a1) 1))):=(by omega)
              have f172:fullR (take (length (map d_si (o36_0 (m1004200 a0 a1) 1))) (drop 0 (map d_si (o36_0 (m1004200 a0 a1) 1))))=true:=(ft_si _ _ _)
              have f173:toBR (take (length (map d_si (o36_0 (m1004200 a0 a1) 1))) (drop 0 (map d_si (o36_0 (m1004200 a0 a1) 1))))=(map b_si (o36_0 (m1004200 a0 a1) 1)):=(tb_si _)
              have f174:Ev F X (.call 37 [(.agg [(.i ((m1004200 a0 a1).f0)),(.i ((m1004200 a0 a1).f1)),(.i ((m1004200 a0 a1).f2)),(.i ((m1004200 a0 a1).f3)),(.bor 0 (map b_si (o36_2 (m1004200 a0 a1) 1))),(.bor 0 (map b_R (o36_1 (m1004200 a0 a1) 1))),(.bor 0 (map b_si (o36_0 (m1004200 a0 a1) 1))),(.i ((m1004200 a0 a1).f7)),(.i ((m1004200 a0 a1).f8)),(.i ((m1004200 a0 a1).f9))]),(.oi 1)] [] [] [(.oi (m37 (K_C.mk ((m1004200 a0 a1).f0) ((m1004200 a0 a1).f1) ((m1004200 a0 a1).f2) ((m1004200 a0 a1).f3) (o36_2 (m1004200 a0 a1) 1) (o36_1 (m1004200 a0 a1) 1) (o36_0 (m1004200 a0 a1) 1) ((m1004200 a0 a1).f7) ((m1004200 a0 a1).f8) ((m1004200 a0 a1).f9)) 1))]):=(e37 (a0:=(K_C.mk ((m1004200 a0 a1).f0) ((m1004200 a0 a1).f1) ((m1004200 a0 a1).f2) ((m1004200 a0 a1).f3) (o36_2 (m1004200 a0 a1) 1) (o36_1 (m1004200 a0 a1) 1) (o36_0 (m1004200 a0 a1) 1) ((m1004200 a0 a1).f7) ((m1004200 a0 a1).f8) ((m1004200 a0 a1).f9))) (a1:=1) (by have q:=okm1004200 a0 a1; rw[ol36_2]; exact q.1) (by have q:=okm1004200 a0 a1; rw[ol36_1]; exact q.2.1) (by have q:=okm1004200 a0 a1; exact oo87 _ _ q.2.2.1) (by have q:=okm1004200 a0 a1; rw[ol36_0]; exact q.2.2.2))
              exact callP_ok (ps:=[]) (os:=[]) (rs:=[(.one (.val (.bool true)))]) (by kernel_rfl) (.r 11 [] [] f0 (.f (nt h0) (.h 18 (.b false) (.r 22 [] [] f2 (.f f3 (.f f4 (.f f5 (.f f6 (.f f7 (.f f8 (.f f9 (.f f10 (.f f11 (.r 26 [] [(map b_si a0.f2),(map b_R a0.f3),(map b_si a0.f4)] f12 (.f f13 (.f f14 (.f f15 (.f f16 (.f f17 (.f f18 (.r 34 [] [] f19 (.f f20 (.f f21 (.f f22 (.f f23 (.f f24 (.f f25 (.f f26 (.f f27 (.f f28 (.f f29 (.f f30 (.f f31 (.f f32 (.f f33 (.f f34 (.r 44 [] [(map b_si a0.f2),(map b_R a0.f3),(map b_si a0.f4)] f35 (.f f36 (.f f37 (.f f38 (.f f39 (.f f40 (.f f41 (.f f42 (.f f43 (.f f44 (.f f45 (.f f46 (.f f47 (.f f48 (.f f49 (.f f50 (.f f51 (.f f52 (.f f53 (.f f54 (.f f55 (.f f56 (.f f57 (.f f58 (.f f59 (.r 54 [] [(map b_si ((m1004200 a0 a1).f4)),(map b_R ((m1004200 a0 a1).f5)),(map b_si ((m1004200 a0 a1).f6)),(map b_si ((m30 a0 a1).f4)),(map b_R ((m30 a0 a1).f5)),(map b_si ((m30 a0 a1).f6))] f60 (.f (nt h1) (.h 57 (.b false) (.r 63 [] [] f62 (.f f63 (.f f64 (.f f65 (.f f66 (.f f67 (.f f68 (.f f69 (.f f70 (.f f71 (.f f72 (.f f73 (.f f74 (.f f75 (.f f76 (.f f77 (.f f78 (.f f79 (.f f80 (.r 65 [] [(map b_si a0.f2),(map b_R a0.f3),(map b_si a0.f4),(map b_si a0.f2),(map b_R a0.f3),(map b_si a0.f4)] f81 (.f (nt h2) (.f f83 (.f f84 (.f f85 (.h 68 (.b false) (.r 76 [true,true,true] [] f86 (.f (nt h3) (.f (nt h3) (.f (nt h3) (.f f90 (.f f91 (.f f92 (.f f93 (.f f94 (.f f95 (.f f96 (.f f97 (.f f98 (.f f99 (.f f100 (.f f101 (.f f102 (.f f103 (.f f104 (.f f105 (.f f106 (.f f107 (.h 85 (.b false) (.h 87 (.b false) (.h 89 (.b false) (.r 90 [] [(map b_si ((m1004200 a0 a1).f4)),(map b_R ((m1004200 a0 a1).f5)),(map b_si ((m1004200 a0 a1).f6)),(map b_si ((m30 a0 a1).f4)),(map b_R ((m30 a0 a1).f5)),(map b_si ((m30 a0 a1).f6))] f108 (.f (nt h3) (.f (nt h3) (.f (nt h1) (.f f112 (.f f113 (.f f114 (.h 91 (.b false) (.h 94 (.b false) (.h 95 (.b false) (.r 103 [true,true,true] [] f115 (.f f116 (.f f117 (.f f118 (.f f119 (.f f120 (.f f121 (.f f122 (.f f123 (.f f124 (.r 113 [] [(map b_si (o36_2 (m1004200 a0 a1) 1)),(map b_R (o36_1 (m1004200 a0 a1) 1)),(map b_si (o36_0 (m1004200 a0 a1) 1))] f125 (.f (nt h4) (.f (nt h5) (.h 120 (.b false) (.h 127 (.b false) (.r 131 [] [] f128 (.f f129 (.f f130 (.f f131 (.f f132 (.f f133 (.f f134 (.f f135 (.f f136 (.f f137 (.r 135 [] [(map b_si a0.f2),(map b_R a0.f3),(map b_si a0.f4)] f138 (.f f139 (.f f140 (.f f141 (.f f142 (.f f143 (.f f144 (.f f145 (.f f146 (.f f147 (.f f148 (.f f149 (.f f150 (.f f151 (.f f152 (.f f153 (.f f154 (.f f155 (.f f156 (.f f157 (.f f158 (.f f159 (.f f160 (.f f161 (.f f162 (.r 145 [] [(map b_si ((m1004200 a0 a1).f4)),(map b_R ((m1004200 a0 a1).f5)),(map b_si ((m1004200 a0 a1).f6)),(map b_si ((m30 a0 a1).f4)),(map b_R ((m30 a0 a1).f5)),(map b_si ((m30 a0 a1).f6))] f163 (.f (nt h1) (.f f165 (.f f166 (.f f167 (.f f168 (.f f169 (.f f170 (.f f171 (.f f172 (.f f173 (.h 148 (.b false) (.r 156 [] [(map b_si (o36_2 (m1004200 a0 a1) 1)),(map b_R (o36_1 (m1004200 a0 a1) 1)),(map b_si (o36_0 (m1004200 a0 a1) 1))] f174 (.f (nt h4) (.f (nt h5) (.h 163 (.b false) (.h 170 (.b false) .nil)))))))))))))))))))))))))))))))))))))))))))))))))))))))))))))))))))))))))))))))))))))))))))))))))))))))))))))))))))))))))))))))))))))))))))))))))))))))))))))))))))))))))))))))))))))))))))))))
/-! weights -/
def wt_si (x:K_si):Nat:=2
theorem wts_si:∀(l:List K_si),(map wt_si l).sum=l.length*2
  |[]=>rfl
  |x::l=>by simp only[List.map_cons,List.sum_cons,wts_si l,length_cons,wt_si]; omega
def wt_R (x:K_R):Nat:=4+(map wt_si x.f3).sum
def wt_B (x:K_B):Nat:=5+(map wt_si x.f2).sum+(map wt_R x.f3).sum+(map wt_si x.f4).sum
def wt_i (x:Int):Nat:=1
theorem wts_i:∀(l:List Int),(map wt_i l).sum=l.length*1
  |[]=>rfl
  |x::l=>by simp only[List.map_cons,List.sum_cons,wts_i l,length_cons,wt_i]; omega
def wt_b (x:Bool):Nat:=1
theorem wts_b:∀(l:List Bool),(map wt_b l).sum=l.length*1
  |[]=>rfl
  |x::l=>by simp only[List.map_cons,List.sum_cons,wts_b l,length_cons,wt_b]; omega
def wt_C (x:K_C):Nat:=7+(map wt_si x.f4).sum+(map wt_R x.f5).sum+(map wt_si x.f6).sum
def wt_LsiE (x:(List K_si)):Nat:=0+(map wt_si x).sum
def wt_s (x:ByteArray):Nat:=1
theorem wts_s:∀(l:List ByteArray),(map wt_s l).sum=l.length*1
  |[]=>rfl
  |x::l=>by simp only[List.map_cons,List.sum_cons,wts_s l,length_cons,wt_s]; omega
def wt_Q (x:(List K_R)):Nat:=0+(map wt_R x).sum
def wt_y (x:Int):Nat:=1
theorem wts_y:∀(l:List Int),(map wt_y l).sum=l.length*1
  |[]=>rfl
  |x::l=>by simp only[List.map_cons,List.sum_cons,wts_y l,length_cons,wt_y]; omega
/-! marks of loop.example/g00539/laws.markWeightS -/
theorem mr86_0 (a0:List K_si):∀(l p:List K_si) (v1:Int),0≤v1→v1+((map wt_si l).sum:Nat)≤4611686018427387904→∃(q:List K_si) (k':Int) (w2:_) (w3:_),r86_0 a0 l (p.length:Int) (p++l) v1=.k0 (p++q) k' w2 w3∧q.length=l.length∧v1≤k'∧k'≤v1+((map wt_si l).sum:Nat)∧∀(c:List K_si) (j:Int),∃u1 u2,r133_0 c q j v1=.k0 k' u1 u2
  |[],p,v1,h0,h1=>⟨[],v1,(p.length:Int),(decide ((p.length:Int) <((length (map d_si a0)):Int))),rfl,rfl,by omega,by simp,fun c j=>⟨j,(decide (j <((length (map b_si c)):Int))),rfl⟩⟩
  |x0::l,p,v1,h0,h1=>by
    simp only[List.map_cons,List.sum_cons,wt_si] at h1⊢
    obtain⟨q,k',w2,w3,e1,e2,e3,e4,e5⟩:=mr86_0 a0 l (p++ [(K_si.mk (m132 v1) (v1+1))]) ((v1+1)+1) (by omega) (by omega)
    refine⟨(K_si.mk (m132 v1) (v1+1))::q,k',w2,w3,?_,by simp[e2],by omega,by omega,?_⟩
    · have e:set (p++x0::l) (Int.toNat (p.length:Int)) (K_si.mk (m132 v1) (v1+1))=(p++ [(K_si.mk (m132 v1) (v1+1))])++l:=by simp
      have e0:((p++ [(K_si.mk (m132 v1) (v1+1))]).length:Int)=(p.length:Int)+1:=by simp
      rw[e0] at e1
      simp(disch:=omega) only[r86_0,wrap64d]
      first |(rw[e,e1]; simp; done) |(simp only[e,e1]; simp; done)
    · intro c j
      obtain⟨u1,u2,g⟩:=e5 c (j+1)
      refine⟨u1,u2,?_⟩
      simp(disch:=omega) only[r133_0,wrap64d]
      first |(simpa using g) |(simp_all; done)
theorem mh86 (a:List K_si) (k:Int) (h0:0≤k) (h1:k+((map wt_si a).sum:Nat)≤4611686018427387904):m133 (o86_0 a k) k=m86 a k∧k≤m86 a k∧m86 a k≤k+((map wt_si a).sum:Nat):=by
  obtain⟨q,k',w2,w3,e1,e2,e3,e4,e5⟩:=mr86_0 a a [] k h0 h1
  obtain⟨u1,u2,g⟩:=e5 q 0
  simp only[List.nil_append,length_nil] at e1
  rw[show ((0:Nat):Int)=0 from rfl] at e1
  unfold m86 o86_0 m133
  rw[e1]; simp only[]; rw[g]; exact⟨rfl,e3,e4⟩
/-! marks of loop.example/g00539/laws.markRewardS -/
theorem mr87_0 (a0:List K_R):∀(l p:List K_R) (v1:Int),0≤v1→v1+((map wt_R l).sum:Nat)≤4611686018427387904→∃(q:List K_R) (k':Int) (w2:_) (w3:_),r87_0 a0 l (p.length:Int) (p++l) v1=.k0 (p++q) k' w2 w3∧q.length=l.length∧v1≤k'∧k'≤v1+((map wt_R l).sum:Nat)∧∀(c:List K_R) (j:Int),∃u1 u2,r134_0 c q j v1=.k0 k' u1 u2
  |[],p,v1,h0,h1=>⟨[],v1,(p.length:Int),(decide ((p.length:Int) <((length (map d_R a0)):Int))),rfl,rfl,by omega,by simp,fun c j=>⟨j,(decide (j <((length (map b_R c)):Int))),rfl⟩⟩
  |x0::l,p,v1,h0,h1=>by
    simp only[List.map_cons,List.sum_cons,wt_R] at h1⊢
    have s0:=mh86 x0.f3 (((v1+1)+1)+1) (by omega) (by omega)
    obtain⟨q,k',w2,w3,e1,e2,e3,e4,e5⟩:=mr87_0 a0 l (p++ [(K_R.mk v1 (v1+1) ((v1+1)+1) (o86_0 x0.f3 (((v1+1)+1)+1)) (m86 x0.f3 (((v1+1)+1)+1)))]) ((m86 x0.f3 (((v1+1)+1)+1))+1) (by omega) (by omega)
    refine⟨(K_R.mk v1 (v1+1) ((v1+1)+1) (o86_0 x0.f3 (((v1+1)+1)+1)) (m86 x0.f3 (((v1+1)+1)+1)))::q,k',w2,w3,?_,by simp[e2],by omega,by omega,?_⟩
    · have e:set (p++x0::l) (Int.toNat (p.length:Int)) (K_R.mk v1 (v1+1) ((v1+1)+1) (o86_0 x0.f3 (((v1+1)+1)+1)) (m86 x0.f3 (((v1+1)+1)+1)))=(p++ [(K_R.mk v1 (v1+1) ((v1+1)+1) (o86_0 x0.f3 (((v1+1)+1)+1)) (m86 x0.f3 (((v1+1)+1)+1)))])++l:=by simp
      have e0:((p++ [(K_R.mk v1 (v1+1) ((v1+1)+1) (o86_0 x0.f3 (((v1+1)+1)+1)) (m86 x0.f3 (((v1+1)+1)+1)))]).length:Int)=(p.length:Int)+1:=by simp
      rw[e0] at e1
      simp(disch:=omega) only[r87_0,wrap64d]
      first |(rw[e,e1]; simp; done) |(simp only[e,e1]; simp; done)
    · intro c j
      obtain⟨u1,u2,g⟩:=e5 c (j+1)
      refine⟨u1,u2,?_⟩
      have t0:=s0.1
      have n0:¬(m86 x0.f3 (((v1+1)+1)+1) < 0):=by omega
      simp(disch:=omega) only[r134_0,wrap64d,t0]
      first |(simpa[n0] using g) |(simp_all; done)
theorem mh87 (a:List K_R) (k:Int) (h0:0≤k) (h1:k+((map wt_R a).sum:Nat)≤4611686018427387904):m134 (o87_0 a k) k=m87 a k∧k≤m87 a k∧m87 a k≤k+((map wt_R a).sum:Nat):=by
  obtain⟨q,k',w2,w3,e1,e2,e3,e4,e5⟩:=mr87_0 a a [] k h0 h1
  obtain⟨u1,u2,g⟩:=e5 q 0
  simp only[List.nil_append,length_nil] at e1
  rw[show ((0:Nat):Int)=0 from rfl] at e1
  unfold m87 o87_0 m134
  rw[e1]; simp only[]; rw[g]; exact⟨rfl,e3,e4⟩
/-! marks of loop.example/g00539/laws.markLedger -/
theorem mh35 (a:K_B) (k:Int) (h0:0≤k) (h1:k+(wt_B a:Nat)≤4611686018427387904):m88 (K_B.mk a.f0 a.f1 (o35_2 a k) (o35_1 a k) (o35_0 a k) a.f5 a.f6 a.f7) k=m35 a k∧k≤m35 a k∧m35 a k≤k+(wt_B a:Nat):=by
  simp only[wt_B] at h1⊢
  have s0:=mh86 a.f2 k (by omega) (by omega)
  have s1:=mh87 a.f3 (m86 a.f2 k) (by omega) (by omega)
  have s2:=mh86 a.f4 (m87 a.f3 (m86 a.f2 k)) (by omega) (by omega)
  have t0:=s0.1
  have t1:=s1.1
  have t2:=s2.1
  try simp only[length_map,wt_si,wt_R,wt_B,wt_i,wt_b,wt_C,wt_LsiE,wt_s,wt_Q,wt_y] at*
  unfold m88 m35 o35_0 o35_1 o35_2
  simp(disch:=omega) only[wrap64d,t0,t1,t2]
  refine⟨?_,by omega,by omega⟩
  (repeat' rw[if_neg (by simp only[decide_eq_true_eq]; omega)])<;>rfl
/-! marks of loop.example/g00539/laws.markLedgerResult -/
theorem mh36 (a:K_C) (k:Int) (h0:0≤k) (h1:k+(wt_C a:Nat)≤4611686018427387904):m37 (K_C.mk a.f0 a.f1 a.f2 a.f3 (o36_2 a k) (o36_1 a k) (o36_0 a k) a.f7 a.f8 a.f9) k=m36 a k∧k≤m36 a k∧m36 a k≤k+(wt_C a:Nat):=by
  simp only[wt_C] at h1⊢
  have s0:=mh35 (K_B.mk a.f2 a.f3 a.f4 a.f5 a.f6 a.f7 a.f8 a.f9) k (by omega) (by simp only[wt_si,wt_R,wt_B,wt_i,wt_b,wt_C,wt_LsiE,wt_s,wt_Q,wt_y] at*; omega)
  have t0:=s0.1
  try simp only[length_map,wt_si,wt_R,wt_B,wt_i,wt_b,wt_C,wt_LsiE,wt_s,wt_Q,wt_y] at*
  unfold m37 m36 o36_0 o36_1 o36_2
  simp(disch:=omega) only[wrap64d,t0]
  refine⟨?_,by omega,by omega⟩
  (repeat' rw[if_neg (by simp only[decide_eq_true_eq]; omega)])<;>rfl
theorem ck94 (F:FuncId→Option VFun) (X:Ext):CkD F X 24 34 2 24 [(.val (.string (⟨#[]⟩:ByteArray))),(.val (.int .i64 0))]:=by
  intro l rows h1 h2
  exact codeH_ok (t:=0) (hs:=[]) (q:=[0+0≤0,(([]:List (List D))++fromBR l rows).length*24≤70368744177664,∀r∈fromBR l rows,r.length=2]) (by rfl) ⟨by simp,by simpa using h1,h2,trivial⟩
theorem X_ok (f:FuncId) (args:List SV) (objs:List (V.Id × VObj)) (rs:List Ret) (h:X f args objs rs):CallOK Tryd.prog f args objs [] [] rs:=by
  rcases h with⟨rfl,rfl,h⟩ |⟨rfl,rfl,h⟩
  · exact clone_ok (X:=fun _ _ _ _=>False) (T:=24) (E:=34) (k:=2) (kb:=24) (zero:=[(.val (.string (⟨#[]⟩:ByteArray))),(.val (.int .i64 0))]) (by kernel_rfl) F_ok (fun _ _ _ _ h=>h.elim) (by kernel_rfl) (ck94 _ _) h
  · obtain⟨s,c,h1,h2,h3,rfl,rfl⟩:=h
    exact trim_ok s c h1 h2 h3
end Go.Proofs.YtihjlmgakpgkeaaDoor.RipenReward
