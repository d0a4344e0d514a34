/- What the functions compute. -/
import Derived.Test.YtihjlmgakpgkeaaDoorERipenRewardC
import Derived.KernelRfl
namespace Go.Proofs.YtihjlmgakpgkeaaDoor.RipenReward
open Go Go.Proofs.YtihjlmgakpgkeaaDoor.V
set_option linter.unusedVariables false
set_option linter.unusedSimpArgs false
set_option maxRecDepth 20000
open List (length_replicate length_map length_set length_append length_cons length_nil length_take length_drop take_of_length_le map_take map_drop map_set append_assoc getElem?_map map length take drop getD set)
attribute [local simp] toBR_si fullR_si pureR_si lenB_si lenD_si fromBR_si copy_si toBR_R fullR_R pureR_R lenB_R lenD_R toBR_B fullR_B pureR_B lenB_B lenD_B toBR_i fullR_i pureR_i lenB_i lenD_i fromBR_i copy_i toBR_b fullR_b pureR_b lenB_b lenD_b fromBR_b copy_b toBR_C fullR_C pureR_C lenB_C lenD_C toBR_LsiE fullR_LsiE pureR_LsiE lenB_LsiE lenD_LsiE toBR_s fullR_s pureR_s lenB_s lenD_s fromBR_s copy_s toBR_Q fullR_Q pureR_Q lenB_Q lenD_Q strInts_len byteRows_len toBR_y fullR_y pureR_y lenB_y lenD_y fromBR_y copy_y
/-! loop.example/g00539/laws.eqLedger -/
def m34 (a0:K_B) (a1:K_B):Bool:=
  if(a0.f0 !=a1.f0)=true then false else
  if(a0.f1 !=a1.f1)=true then false else
    if(!(m84 a0.f2 a1.f2))=true then false else
      if(!(m85 a0.f3 a1.f3))=true then false else
        if(!(m84 a0.f4 a1.f4))=true then false else
          if(a0.f5 !=a1.f5)=true then false else
            if(a0.f6 !=a1.f6)=true then false else
              if(a0.f7 !=a1.f7)=true then false else
                true
theorem e34 {l0_2:Nat} {l0_3:Nat} {l0_4:Nat} {a0:K_B} {l1_2:Nat} {l1_3:Nat} {l1_4:Nat} {a1:K_B} (hy0:length a0.f2*24≤140737488351232) (hy1:length a0.f3*56≤140737488351232) (hy2:∀z∈a0.f3,ok_R z) (hy3:length a0.f4*24≤140737488351232) (hy4:length a1.f2*24≤140737488351232) (hy5:length a1.f3*56≤140737488351232) (hy6:∀z∈a1.f3,ok_R z) (hy7:length a1.f4*24≤140737488351232):Ev F X (.call 34 [(.agg [(.val (.int .i64 a0.f0)),(.val (.int .i64 a0.f1)),(.bor l0_2 (map b_si a0.f2)),(.bor l0_3 (map b_R a0.f3)),(.bor l0_4 (map b_si a0.f4)),(.val (.int .i64 a0.f5)),(.val (.int .i64 a0.f6)),(.val (.int .i64 a0.f7))]),(.agg [(.val (.int .i64 a1.f0)),(.val (.int .i64 a1.f1)),(.bor l1_2 (map b_si a1.f2)),(.bor l1_3 (map b_R a1.f3)),(.bor l1_4 (map b_si a1.f4)),(.val (.int .i64 a1.f5)),(.val (.int .i64 a1.f6)),(.val (.int .i64 a1.f7))])] [] [] [(.one (.val (.bool (m34 a0 a1))))]):=by
  unfold m34
  by_cases h0:(a0.f0 !=a1.f0)=true
  · try simp only[if_pos h0]
    exact callP_ok (ps:=[]) (os:=[]) (rs:=[(.one (.val (.bool false)))]) (by kernel_rfl) (.f h0 (.h 16 (.b true) .nil))
  · try simp only[if_neg h0]
    by_cases h1:(a0.f1 !=a1.f1)=true
    · try simp only[if_pos h1]
      exact callP_ok (ps:=[]) (os:=[]) (rs:=[(.one (.val (.bool false)))]) (by kernel_rfl) (.f (nt h0) (.f h1 (.h 16 (.b false) (.h 27 (.b true) .nil))))
    · try simp only[if_neg h1]
      have f2:Ev F X (.call 84 [(.one (.bor (l0_2+1) (map b_si a0.f2))),(.one (.bor (l1_2+1) (map b_si a1.f2)))] [] [] [(.one (.val (.bool (m84 a0.f2 a1.f2))))]):=(e84 (a0:=a0.f2) (a1:=a1.f2) (by with_reducible assumption) (by with_reducible assumption))
      by_cases h2:(!(m84 a0.f2 a1.f2))=true
      · try simp only[if_pos h2]
        exact callP_ok (ps:=[]) (os:=[]) (rs:=[(.one (.val (.bool false)))]) (by kernel_rfl) (.f (nt h0) (.f (nt h1) (.h 16 (.b false) (.h 27 (.b false) (.r 37 [] [] f2 (.f h2 (.h 40 (.b true) .nil)))))))
      · try simp only[if_neg h2]
        have f4:Ev F X (.call 85 [(.one (.bor (l0_3+1) (map b_R a0.f3))),(.one (.bor (l1_3+1) (map b_R a1.f3)))] [] [] [(.one (.val (.bool (m85 a0.f3 a1.f3))))]):=(e85 (a0:=a0.f3) (a1:=a1.f3) (by with_reducible assumption) (by with_reducible assumption) (by with_reducible assumption) (by with_reducible assumption))
        by_cases h3:(!(m85 a0.f3 a1.f3))=true
        · try simp only[if_pos h3]
          exact callP_ok (ps:=[]) (os:=[]) (rs:=[(.one (.val (.bool false)))]) (by kernel_rfl) (.f (nt h0) (.f (nt h1) (.h 16 (.b false) (.h 27 (.b false) (.r 37 [] [] f2 (.f (nt h2) (.h 40 (.b false) (.r 50 [] [] f4 (.f h3 (.h 53 (.b true) .nil))))))))))
        · try simp only[if_neg h3]
          have f6:Ev F X (.call 84 [(.one (.bor (l0_4+1) (map b_si a0.f4))),(.one (.bor (l1_4+1) (map b_si a1.f4)))] [] [] [(.one (.val (.bool (m84 a0.f4 a1.f4))))]):=(e84 (a0:=a0.f4) (a1:=a1.f4) (by with_reducible assumption) (by with_reducible assumption))
          by_cases h4:(!(m84 a0.f4 a1.f4))=true
          · try simp only[if_pos h4]
            exact callP_ok (ps:=[]) (os:=[]) (rs:=[(.one (.val (.bool false)))]) (by kernel_rfl) (.f (nt h0) (.f (nt h1) (.h 16 (.b false) (.h 27 (.b false) (.r 37 [] [] f2 (.f (nt h2) (.h 40 (.b false) (.r 50 [] [] f4 (.f (nt h3) (.h 53 (.b false) (.r 63 [] [] f6 (.f h4 (.h 66 (.b true) .nil)))))))))))))
          · try simp only[if_neg h4]
            by_cases h5:(a0.f5 !=a1.f5)=true
            · try simp only[if_pos h5]
              exact callP_ok (ps:=[]) (os:=[]) (rs:=[(.one (.val (.bool false)))]) (by kernel_rfl) (.f (nt h0) (.f (nt h1) (.h 16 (.b false) (.h 27 (.b false) (.r 37 [] [] f2 (.f (nt h2) (.h 40 (.b false) (.r 50 [] [] f4 (.f (nt h3) (.h 53 (.b false) (.r 63 [] [] f6 (.f (nt h4) (.f h5 (.h 66 (.b false) (.h 77 (.b true) .nil)))))))))))))))
            · try simp only[if_neg h5]
              by_cases h6:(a0.f6 !=a1.f6)=true
              · try simp only[if_pos h6]
                exact callP_ok (ps:=[]) (os:=[]) (rs:=[(.one (.val (.bool false)))]) (by kernel_rfl) (.f (nt h0) (.f (nt h1) (.h 16 (.b false) (.h 27 (.b false) (.r 37 [] [] f2 (.f (nt h2) (.h 40 (.b false) (.r 50 [] [] f4 (.f (nt h3) (.h 53 (.b false) (.r 63 [] [] f6 (.f (nt h4) (.f (nt h5) (.f h6 (.h 66 (.b false) (.h 77 (.b false) (.h 88 (.b true) .nil)))))))))))))))))
              · try simp only[if_neg h6]
                by_cases h7:(a0.f7 !=a1.f7)=true
                · try simp only[if_pos h7]
                  exact callP_ok (ps:=[]) (os:=[]) (rs:=[(.one (.val (.bool false)))]) (by kernel_rfl) (.f (nt h0) (.f (nt h1) (.h 16 (.b false) (.h 27 (.b false) (.r 37 [] [] f2 (.f (nt h2) (.h 40 (.b false) (.r 50 [] [] f4 (.f (nt h3) (.h 53 (.b false) (.r 63 [] [] f6 (.f (nt h4) (.f (nt h5) (.f (nt h6) (.f h7 (.h 66 (.b false) (.h 77 (.b false) (.h 88 (.b false) (.h 99 (.b true) .nil)))))))))))))))))))
                · try simp only[if_neg h7]
                  exact callP_ok (ps:=[]) (os:=[]) (rs:=[(.one (.val (.bool true)))]) (by kernel_rfl) (.f (nt h0) (.f (nt h1) (.h 16 (.b false) (.h 27 (.b false) (.r 37 [] [] f2 (.f (nt h2) (.h 40 (.b false) (.r 50 [] [] f4 (.f (nt h3) (.h 53 (.b false) (.r 63 [] [] f6 (.f (nt h4) (.f (nt h5) (.f (nt h6) (.f (nt h7) (.h 66 (.b false) (.h 77 (.b false) (.h 88 (.b false) (.h 99 (.b false) .nil)))))))))))))))))))
open Classical in
theorem eqd34 (a b:K_B):m34 a b=decide (a=b):=by
  rw[Bool.eq_iff_iff,decide_eq_true_eq]
  constructor
  · intro h
    unfold m34 at h
    cases a; cases b
    (repeat' split at h)<;>simp_all [ba_eq,eqd84,eqd85]
  · rintro rfl
    simp[m34,ba_eq,eqd84,eqd85]
/-! loop.example/g00539/laws.eqLedgerResult -/
def m33 (a0:K_C) (a1:K_C):Bool:=
  if(a0.f0 !=a1.f0)=true then false else
  if(a0.f1 !=a1.f1)=true then false else
    if(!(m34 (K_B.mk a0.f2 a0.f3 a0.f4 a0.f5 a0.f6 a0.f7 a0.f8 a0.f9) (K_B.mk a1.f2 a1.f3 a1.f4 a1.f5 a1.f6 a1.f7 a1.f8 a1.f9)))=true then false else
      true
theorem e33 {l0_4:Nat} {l0_5:Nat} {l0_6:Nat} {a0:K_C} {l1_4:Nat} {l1_5:Nat} {l1_6:Nat} {a1:K_C} (hy0:length a0.f4*24≤140737488351232) (hy1:length a0.f5*56≤140737488351232) (hy2:∀z∈a0.f5,ok_R z) (hy3:length a0.f6*24≤140737488351232) (hy4:length a1.f4*24≤140737488351232) (hy5:length a1.f5*56≤140737488351232) (hy6:∀z∈a1.f5,ok_R z) (hy7:length a1.f6*24≤140737488351232):Ev F X (.call 33 [(.agg [(.val (.int .i64 a0.f0)),(.val (.int .i64 a0.f1)),(.val (.int .i64 a0.f2)),(.val (.int .i64 a0.f3)),(.bor l0_4 (map b_si a0.f4)),(.bor l0_5 (map b_R a0.f5)),(.bor l0_6 (map b_si a0.f6)),(.val (.int .i64 a0.f7)),(.val (.int .i64 a0.f8)),(.val (.int .i64 a0.f9))]),(.agg [(.val (.int .i64 a1.f0)),(.val (.int .i64 a1.f1)),(.val (.int .i64 a1.f2)),(.val (.int .i64 a1.f3)),(.bor l1_4 (map b_si a1.f4)),(.bor l1_5 (map b_R a1.f5)),(.bor l1_6 (map b_si a1.f6)),(.val (.int .i64 a1.f7)),(.val (.int .i64 a1.f8)),(.val (.int .i64 a1.f9))])] [] [] [(.one (.val (.bool (m33 a0 a1))))]):=by
  unfold m33
  by_cases h0:(a0.f0 !=a1.f0)=true
  · try simp only[if_pos h0]
    exact callP_ok (ps:=[]) (os:=[]) (rs:=[(.one (.val (.bool false)))]) (by kernel_rfl) (.f h0 (.h 16 (.b true) .nil))
  · try simp only[if_neg h0]
    by_cases h1:(a0.f1 !=a1.f1)=true
    · try simp only[if_pos h1]
      exact callP_ok (ps:=[]) (os:=[]) (rs:=[(.one (.val (.bool false)))]) (by kernel_rfl) (.f (nt h0) (.f h1 (.h 16 (.b false) (.h 27 (.b true) .nil))))
    · try simp only[if_neg h1]
      have f2:Ev F X (.call 34 [(.agg [(.i a0.f2),(.i a0.f3),(.bor (l0_4+1) (map b_si a0.f4)),(.bor (l0_5+1) (map b_R a0.f5)),(.bor (l0_6+1) (map b_si a0.f6)),(.i a0.f7),(.i a0.f8),(.i a0.f9)]),(.agg [(.i a1.f2),(.i a1.f3),(.bor (l1_4+1) (map b_si a1.f4)),(.bor (l1_5+1) (map b_R a1.f5)),(.bor (l1_6+1) (map b_si a1.f6)),(.i a1.f7),(.i a1.f8),(.i a1.f9)])] [] [] [(.one (.val (.bool (m34 (K_B.mk a0.f2 a0.f3 a0.f4 a0.f5 a0.f6 a0.f7 a0.f8 a0.f9) (K_B.mk a1.f2 a1.f3 a1.f4 a1.f5 a1.f6 a1.f7 a1.f8 a1.f9)))))]):=(e34 (a0:=(K_B.mk a0.f2 a0.f3 a0.f4 a0.f5 a0.f6 a0.f7 a0.f8 a0.f9)) (a1:=(K_B.mk a1.f2 a1.f3 a1.f4 a1.f5 a1.f6 a1.f7 a1.f8 a1.f9)) (by with_reducible assumption) (by with_reducible assumption) (by with_reducible assumption) (by with_reducible assumption) (by with_reducible assumption) (by with_reducible assumption) (by with_reducible assumption) (by with_reducible assumption))
      by_cases h2:(!(m34 (K_B.mk a0.f2 a0.f3 a0.f4 a0.f5 a0.f6 a0.f7 a0.f8 a0.f9) (K_B.mk a1.f2 a1.f3 a1.f4 a1.f5 a1.f6 a1.f7 a1.f8 a1.f9)))=true
      · try simp only[if_pos h2]
        exact callP_ok (ps:=[]) (os:=[]) (rs:=[(.one (.val (.bool false)))]) (by kernel_rfl) (.f (nt h0) (.f (nt h1) (.h 16 (.b false) (.h 27 (.b false) (.r 37 [] [] f2 (.f h2 (.h 40 (.b true) .nil)))))))
      · try simp only[if_neg h2]
        exact callP_ok (ps:=[]) (os:=[]) (rs:=[(.one (.val (.bool true)))]) (by kernel_rfl) (.f (nt h0) (.f (nt h1) (.h 16 (.b false) (.h 27 (.b false) (.r 37 [] [] f2 (.f (nt h2) (.h 40 (.b false) .nil)))))))
open Classical in
theorem eqd33 (a b:K_C):m33 a b=decide (a=b):=by
  rw[Bool.eq_iff_iff,decide_eq_true_eq]
  constructor
  · intro h
    unfold m33 at h
    cases a; cases b
    (repeat' split at h)<;>simp_all [ba_eq,eqd34]
  · rintro rfl
    simp[m33,ba_eq,eqd34]
/-! loop 132_0 -/
inductive O132_0 where
  |k0 (w0:Int) (w1:ByteArray) (w2:Bool)
def r132_0 :Nat→Int→ByteArray→O132_0
  |n+1,v0,v1=>
    if(decide (v0 > 0))=true then(r132_0 n (IntKind.wrap .i64 (Int.tdiv v0 10)) ((bytesOf [(IntKind.wrap .u8 ((IntKind.wrap .i64 (48+(Int.tmod v0 10)))))])++v1)) else
    (O132_0.k0 v0 v1 (decide (v0 > 0)))
  |0,v0,v1=>(O132_0.k0 v0 v1 (decide (v0 > 0)))
def h132_0 (a0:Int) (v0:Int) (v1:ByteArray):St:=⟨[(0,(.one (.val (.int .i64 v0)))),(3,(.one (.val (.string v1))))],[]⟩
def ex132_0:O132_0→VX.Exit
  |.k0 _ _ _=>(.exit 0)
def fin132_0 (a0:Int):O132_0→St
  |.k0 w0 w1 w2=>⟨[(0,(.one (.val (.int .i64 w0)))),(3,(.one (.val (.string w1)))),(7,(.one (.val (.bool w2))))],[]⟩
theorem t132_0 {a0:Int} :∀(n:Nat) (v0:Int) (v1:ByteArray),ByteArray.size v1+pot64 v0≤100→fuel64 v0≤n→Ev F X (.code l132_0 (h132_0 a0 v0 v1) (ex132_0 (r132_0 n v0 v1)) (fin132_0 a0 (r132_0 n v0 v1)))
  |0,v0,v1,hi0,hn=>by
    have hc:¬(decide (v0 > 0))=true:=by first |(exact fuel64_zero hn) |(simp only[decide_eq_true_eq] at*; omega) |(simp at*; omega)
    have st:=codeP_ok (F:=F) (X:=X) (c:=b132_0) (t:=0) (σ:=h132_0 a0 v0 v1) (σ':=⟨[(0,(.oi v0)),(3,(.one (.val (.string v1)))),(7,(.one (.val (.bool (decide (v0 > 0))))))],[]⟩) (e:=(.exit 0)) (t':=5) (by kernel_rfl) (.f (nt hc) (.h 4 (.b false) .nil))
    rw[show (⟨[(0,(.oi v0)),(3,(.one (.val (.string v1)))),(7,(.one (.val (.bool (decide (v0 > 0))))))],[]⟩:St)=fin132_0 a0 (.k0 v0 v1 (decide (v0 > 0))) from(by rfl)] at st
    exact .loopX st (show ((.exit 0):VX.Exit)≠.normal from by simp)
  |n+1,v0,v1,hi0,hn=>by
    simp only[r132_0]
    by_cases h_0:(decide (v0 > 0))=true
    · try simp only[if_pos h_0]
      have f1:(10:Int)≠0:=(by omega)
      have f3:1≤1:=(by omega)
      have f4:rowsInts .u8 [[(.val (.int .u8 (IntKind.wrap .u8 ((IntKind.wrap .i64 (48+(Int.tmod v0 10)))))))]]=some [(IntKind.wrap .u8 ((IntKind.wrap .i64 (48+(Int.tmod v0 10)))))]:=(by simp only[List.drop_zero,tbr,tsi,ly_y,ly0_y,← List.map_append,List.take_length,List.cons_append,List.nil_append,append_assoc,toBR_y,fullR_y,pureR_y,copy_y,ints_y]; done)
      have f5:ByteArray.size (bytesOf [(IntKind.wrap .u8 ((IntKind.wrap .i64 (48+(Int.tmod v0 10)))))])+ByteArray.size v1≤9223372036854775807:=(by simp only[bytesOf_size,length_cons,length_nil]; omega)
      have f6:(10:Int)≠0:=(by with_reducible assumption)
      have st:=codeP_ok (F:=F) (X:=X) (c:=b132_0) (t:=0) (σ:=h132_0 a0 v0 v1) (σ':=⟨[(0,(.oi (IntKind.wrap .i64 (Int.tdiv v0 10)))),(3,(.one (.val (.string ((bytesOf [(IntKind.wrap .u8 ((IntKind.wrap .i64 (48+(Int.tmod v0 10)))))])++v1)))))],[]⟩) (e:=.normal) (t':=29) (by kernel_rfl) (.f h_0 (.f f1 (.f trivial (.f f3 (.f f4 (.f f5 (.f f6 (.h 4 (.b true) (.h 16 (.ints [(IntKind.wrap .u8 ((IntKind.wrap .i64 (48+(Int.tmod v0 10)))))]) .nil)))))))))
      have ih:=t132_0 (a0:=a0)  n (IntKind.wrap .i64 (Int.tdiv v0 10)) ((bytesOf [(IntKind.wrap .u8 ((IntKind.wrap .i64 (48+(Int.tmod v0 10)))))])++v1) (by have q:=pot64_tdiv (x:=v0) (by assumption); simp only[ByteArray.size_append,bytesOf_size,length_cons,length_nil]; omega) (by exact fuel64_tdiv (by assumption) hn)
      rw[show (⟨[(0,(.oi (IntKind.wrap .i64 (Int.tdiv v0 10)))),(3,(.one (.val (.string ((bytesOf [(IntKind.wrap .u8 ((IntKind.wrap .i64 (48+(Int.tmod v0 10)))))])++v1)))))],[]⟩:St)=h132_0 a0 (IntKind.wrap .i64 (Int.tdiv v0 10)) ((bytesOf [(IntKind.wrap .u8 ((IntKind.wrap .i64 (48+(Int.tmod v0 10)))))])++v1) from(by rfl)] at st
      exact .loopN st ih
    · try simp only[if_neg h_0]
      have st:=codeP_ok (F:=F) (X:=X) (c:=b132_0) (t:=0) (σ:=h132_0 a0 v0 v1) (σ':=⟨[(0,(.oi v0)),(3,(.one (.val (.string v1)))),(7,(.one (.val (.bool (decide (v0 > 0))))))],[]⟩) (e:=(.exit 0)) (t':=5) (by kernel_rfl) (.f (nt h_0) (.h 4 (.b false) .nil))
      rw[show (⟨[(0,(.oi v0)),(3,(.one (.val (.string v1)))),(7,(.one (.val (.bool (decide (v0 > 0))))))],[]⟩:St)=fin132_0 a0 (.k0 v0 v1 (decide (v0 > 0))) from(by rfl)] at st
      exact .loopX st (show ((.exit 0):VX.Exit)≠.normal from by simp)
/-! loop 132_0,behind -/
def post132_0 (a0:Int):O132_0→Prop
  |.k0 _ w1 _=>ByteArray.size w1≤100
theorem z132_0 {a0:Int} :∀(n:Nat) (v0:Int) (v1:ByteArray),ByteArray.size v1+pot64 v0≤100→post132_0 a0 (r132_0 n v0 v1)
  |0,v0,v1,hi0=>by
    simp only[r132_0]
    first | trivial |(show _ ; simp only[post132_0]; omega) |(simp only[post132_0] at*; omega) |(have q:=pot64_tdiv (x:=v0) (by assumption); simp only[ByteArray.size_append,bytesOf_size,length_cons,length_nil]; omega) |(simp only[decide_eq_true_eq] at*; omega)
  |n+1,v0,v1,hi0=>by
    simp only[r132_0]
    by_cases h_0:(decide (v0 > 0))=true
    · try simp only[if_pos h_0]
      exact z132_0 (a0:=a0) n (IntKind.wrap .i64 (Int.tdiv v0 10)) ((bytesOf [(IntKind.wrap .u8 ((IntKind.wrap .i64 (48+(Int.tmod v0 10)))))])++v1) (by have q:=pot64_tdiv (x:=v0) (by assumption); simp only[ByteArray.size_append,bytesOf_size,length_cons,length_nil]; omega)
    · try simp only[if_neg h_0]
      first | trivial |(show _ ; simp only[post132_0]; omega) |(simp only[post132_0] at*; omega) |(have q:=pot64_tdiv (x:=v0) (by assumption); simp only[ByteArray.size_append,bytesOf_size,length_cons,length_nil]; omega) |(simp only[decide_eq_true_eq] at*; omega)
/-! loop.example/g00539/laws.markText -/
def m132 (a0:Int):ByteArray:=
  if(decide (a0≤0))=true then(⟨#[109,48]⟩:ByteArray) else
  (match r132_0 (fuel64 a0) a0 (⟨#[]⟩:ByteArray) with | .k0 w0_1 w1_1 w2_1=>((⟨#[109]⟩:ByteArray)++w1_1))
theorem e132 {a0:Int}:Ev F X (.call 132 [(.one (.val (.int .i64 a0)))] [] [] [(.one (.val (.string (m132 a0))))]):=by
  unfold m132
  by_cases h0:(decide (a0≤0))=true
  · try simp only[if_pos h0]
    exact callP_ok (ps:=[]) (os:=[]) (rs:=[(.one (.val (.string (⟨#[109,48]⟩:ByteArray))))]) (by kernel_rfl) (.f h0 (.h 6 (.b true) .nil))
  · try simp only[if_neg h0]
    cases h1:r132_0 (fuel64 a0) a0 (⟨#[]⟩:ByteArray) with
    |k0 w0_1 w1_1 w2_1=>
      try dsimp only
      have zh1:=z132_0 (a0:=a0) (fuel64 a0) a0 (⟨#[]⟩:ByteArray) (by have q:=pot64_le a0; show 0+pot64 a0≤100; omega); rw[h1] at zh1; simp only[post132_0] at zh1
      have f1:(⟨[(0,(.oi a0)),(3,(.one (.val (.string (⟨#[]⟩:ByteArray)))))],[]⟩:St)=h132_0 a0 a0 (⟨#[]⟩:ByteArray):=(by rfl)
      have f2:Ev F X (.code l132_0 (h132_0 a0 a0 (⟨#[]⟩:ByteArray)) (.exit 0) ⟨[(0,(.oi w0_1)),(3,(.one (.val (.string w1_1)))),(7,(.one (.val (.bool w2_1))))],[]⟩):=(by have t:Ev F X (.code l132_0 (h132_0 a0 a0 (⟨#[]⟩:ByteArray)) (ex132_0 (r132_0 (fuel64 a0) a0 (⟨#[]⟩:ByteArray))) (fin132_0 a0 (r132_0 (fuel64 a0) a0 (⟨#[]⟩:ByteArray)))):=t132_0 (a0:=a0) (fuel64 a0) a0 (⟨#[]⟩:ByteArray) (by have q:=pot64_le a0; show 0+pot64 a0≤100; omega) (Nat.le_refl _); rw[h1] at t; exact t)
      have f3:ByteArray.size (⟨#[109]⟩:ByteArray)+ByteArray.size w1_1≤9223372036854775807:=(by show 1+_≤_; omega)
      exact callP_ok (ps:=[]) (os:=[]) (rs:=[(.one (.val (.string ((⟨#[109]⟩:ByteArray)++w1_1))))]) (by kernel_rfl) (.f (nt h0) (.f f1 (.f f2 (.f f3 (.h 6 (.b false) (.h 9 (.loop (h132_0 a0 a0 (⟨#[]⟩:ByteArray)) (.exit 0) ⟨[(0,(.oi w0_1)),(3,(.one (.val (.string w1_1)))),(7,(.one (.val (.bool w2_1))))],[]⟩) .nil))))))
/-! loop 86_0 -/
inductive O86_0 where
  |k0 (w0:List K_si) (w1:Int) (w2:Int) (w3:Bool)
def r86_0 (a0:(List K_si)):List K_si→Int→List K_si→Int→O86_0
  |x0::y0,i,v0,v1=>
    (r86_0 a0 y0 (i+1) (set v0 (Int.toNat i) (K_si.mk (m132 v1) (IntKind.wrap .i64 (v1+1)))) (IntKind.wrap .i64 ((IntKind.wrap .i64 (v1+1))+1)))
  |[],i,v0,v1=>(O86_0.k0 v0 v1 i (decide (i <((length (map d_si a0)):Int))))
def h86_0 (a0:(List K_si)) (a1:Int) (i:Int) (v0:List K_si) (v1:Int):St:=⟨[(0,(.one (.ref ⟨(0,0,0),[],0,(length (map d_si a0))⟩))),(1,(.one (.val (.int .i64 v1)))),(5,(.one (.val (.int .i64 i))))],[((0,0,0),.live ⟨2,(map d_si v0),[]⟩)]⟩
def ex86_0:O86_0→VX.Exit
  |.k0 _ _ _ _=>(.exit 0)
def fin86_0 (a0:(List K_si)) (a1:Int):O86_0→St
  |.k0 w0 w1 w2 w3=>⟨[(0,(.one (.ref ⟨(0,0,0),[],0,(length (map d_si a0))⟩))),(1,(.one (.val (.int .i64 w1)))),(5,(.one (.val (.int .i64 w2)))),(9,(.one (.val (.bool w3))))],[((0,0,0),.live ⟨2,(map d_si w0),[]⟩)]⟩
theorem t86_0 {a0:(List K_si)} {a1:Int} (hy0:length a0*24≤140737488351232):∀(y0:List K_si) (p:List K_si) (v0:List K_si) (v1:Int),p++y0=a0→length v0=(length (map d_si a0))→drop (length p) v0=y0→Ev F X (.code l86_0 (h86_0 a0 a1 (length p:Int) v0 v1) (ex86_0 (r86_0 a0 y0 (length p:Int) v0 v1)) (fin86_0 a0 a1 (r86_0 a0 y0 (length p:Int) v0 v1)))
  |[],p,v0,v1,hp0,hi0,hi1=>by
    have hc:¬(decide ((length p:Int) <((length (map d_si a0)):Int)))=true:=by
      rw[← hp0]; simp only[length_map,length_set,length_append,length_replicate,length_cons,length_nil,decide_eq_true_eq]; omega
    have hj0:=hi0; try simp only[length_map,length_set,length_append,length_replicate,length_cons,length_nil,Int.toNat_natCast] at hj0
    have hj1:=hi1; try simp only[length_map,length_set,length_append,length_replicate,length_cons,length_nil,Int.toNat_natCast] at hj1
    have st:=codeH_ok (F:=F) (X:=X) (c:=b86_0) (t:=0) (hs:=[(8,.b false)]) (σ:=h86_0 a0 a1 (length p:Int) v0 v1) (σ':=fin86_0 a0 a1 (.k0 v0 v1 (length p:Int) (decide ((length p:Int) <((length (map d_si a0)):Int))))) (e:=(.exit 0)) (t':=9) (hs':=[]) (q:=[(decide ((length p:Int) <((length (map d_si a0)):Int)))=false]) (by kernel_rfl) ⟨(nt hc),trivial⟩
    exact .loopX st (show ((.exit 0):VX.Exit)≠.normal from by simp)
  |x0::y0,p,v0,v1,hp0,hi0,hi1=>by
    have hc:(decide ((length p:Int) <((length (map d_si a0)):Int)))=true:=by
      rw[← hp0]; simp only[length_map,length_set,length_append,length_replicate,length_cons,length_nil,decide_eq_true_eq]; omega
    have Hx0:(a0)[Int.toNat (length p:Int)]?=some x0:=by
      rw[← hp0,Int.toNat_natCast]; simp
    have hlen:length (a0)=length p+length y0+1:=by rw[← hp0]; simp; omega
    have hw:IntKind.wrap .i64 ((length p:Int)+1)=(length p:Int)+1:=wrap64 (by omega)
    have hj0:=hi0; try simp only[length_map,length_set,length_append,length_replicate,length_cons,length_nil,Int.toNat_natCast] at hj0
    have hj1:=hi1; try simp only[length_map,length_set,length_append,length_replicate,length_cons,length_nil,Int.toNat_natCast] at hj1
    have Hv0:v0[Int.toNat (length p:Int)]?=some x0:=by rw[Int.toNat_natCast]; exact drop_at hi1
    simp only[r86_0]
    have st:=codeH_ok (F:=F) (X:=X) (c:=b86_0) (t:=0) (hs:=[(8,.b true),(16,.ret [] [(.one (.val (.string (m132 v1))))] [] []),(22,.rowD [(.val (.string x0.f0)),(.i x0.f1)]),(23,.norm (0,0,0) (map d_si (set v0 (Int.toNat (length p:Int)) (K_si.mk (m132 v1) x0.f1)))),(41,.rowD [(.val (.string (m132 v1))),(.i x0.f1)]),(42,.norm (0,0,0) (map d_si (set v0 (Int.toNat (length p:Int)) (K_si.mk (m132 v1) (IntKind.wrap .i64 (v1+1))))))]) (σ:=h86_0 a0 a1 (length p:Int) v0 v1) (σ':=⟨[(0,(.one (.ref ⟨(0,0,0),[],0,(length (map d_si a0))⟩))),(1,(.oi (IntKind.wrap .i64 ((IntKind.wrap .i64 (v1+1))+1)))),(5,(.oi (IntKind.wrap .i64 ((length p:Int)+1))))],[((0,0,0),.live ⟨2,(map d_si (set v0 (Int.toNat (length p:Int)) (K_si.mk (m132 v1) (IntKind.wrap .i64 (v1+1))))),[]⟩)]⟩) (e:=.normal) (t':=55) (hs':=[]) (q:=[(decide ((length p:Int) <((length (map d_si a0)):Int)))=true,Ev F X (.call 132 [(.oi v1)] [] [] [(.one (.val (.string (m132 v1))))]),0+(length (map d_si a0))≤(length (map d_si v0)),0≤(length p:Int)∧(length p:Int) <((length (map d_si a0)):Int),(map d_si v0)[(0+(Int.toNat (length p:Int)))]?=some [(.val (.string x0.f0)),(.i x0.f1)],(set (map d_si v0) (0+(Int.toNat (length p:Int))) [(.val (.string (m132 v1))),(.i x0.f1)])=(map d_si (set v0 (Int.toNat (length p:Int)) (K_si.mk (m132 v1) x0.f1))),True,0+(length (map d_si a0))≤(length (map d_si (set v0 (Int.toNat (length p:Int)) (K_si.mk (m132 v1) x0.f1)))),0≤(length p:Int)∧(length p:Int) <((length (map d_si a0)):Int),(map d_si (set v0 (Int.toNat (length p:Int)) (K_si.mk (m132 v1) x0.f1)))[(0+(Int.toNat (length p:Int)))]?=some [(.val (.string (m132 v1))),(.i x0.f1)],(set (map d_si (set v0 (Int.toNat (length p:Int)) (K_si.mk (m132 v1) x0.f1))) (0+(Int.toNat (length p:Int))) [(.val (.string (m132 v1))),(.i (IntKind.wrap .i64 (v1+1)))])=(map d_si (set v0 (Int.toNat (length p:Int)) (K_si.mk (m132 v1) (IntKind.wrap .i64 (v1+1))))),True,True]) (by kernel_rfl) ⟨hc,(e132 (a0:=v1)),(by simp only[length_map]; omega),(by omega),(by rw[Nat.zero_add,getElem?_map,Hv0]; rfl),(by simp[byteRows_eq,ints_y,take_of_length_le,d_si,d_R,d_B,d_i,d_b,d_C,d_LsiE,d_s,d_Q,d_y,fromBR_si,fromBR_i,fromBR_b,fromBR_s,fromBR_y]; done),trivial,(by unfold m132;(repeat' split)<;>simp_all<;>omega),(by omega),(by rw[Nat.zero_add,map_set,List.getElem?_set_self (by simp only[length_map]; omega)]; rfl),(by simp[byteRows_eq,ints_y,take_of_length_le,d_si,d_R,d_B,d_i,d_b,d_C,d_LsiE,d_s,d_Q,d_y,fromBR_si,fromBR_i,fromBR_b,fromBR_s,fromBR_y]; done),trivial,trivial,trivial⟩
    have ih:=t86_0 (a0:=a0) (a1:=a1) hy0 y0 (p++ [x0]) (set v0 (Int.toNat (length p:Int)) (K_si.mk (m132 v1) (IntKind.wrap .i64 (v1+1)))) (IntKind.wrap .i64 ((IntKind.wrap .i64 (v1+1))+1)) (by rw[append_assoc]; exact hp0) (by simp only[length_map,length_set,length_append,length_replicate,length_cons,length_nil]; omega) (by simp only[length_map,length_set,length_append,length_replicate,length_cons,length_nil,Int.toNat_natCast]; first | exact drop_set_next hi1 _ | exact drop_next hi1)
    rw[show ((p++ [x0]).length:Int)=(p.length:Int)+1 from by simp] at ih
    rw[show (⟨[(0,(.one (.ref ⟨(0,0,0),[],0,(length (map d_si a0))⟩))),(1,(.oi (IntKind.wrap .i64 ((IntKind.wrap .i64 (v1+1))+1)))),(5,(.oi (IntKind.wrap .i64 ((length p:Int)+1))))],[((0,0,0),.live ⟨2,(map d_si (set v0 (Int.toNat (length p:Int)) (K_si.mk (m132 v1) (IntKind.wrap .i64 (v1+1))))),[]⟩)]⟩:St)=h86_0 a0 a1 ((length p:Int)+1) (set v0 (Int.toNat (length p:Int)) (K_si.mk (m132 v1) (IntKind.wrap .i64 (v1+1)))) (IntKind.wrap .i64 ((IntKind.wrap .i64 (v1+1))+1)) from(by unfold h86_0; simp only[hw]; done)] at st
    exact .loopN st ih
def post86_0 (n0:Nat):O86_0→Prop
  |.k0 w0 _ _ _=>length w0=n0
theorem z86_0 {a0:(List K_si)}:∀(y0:List K_si) (i:Int) (v0:List K_si) (v1:Int),post86_0 (length v0) (r86_0 a0 y0 i v0 v1)
  |[],i,v0,v1=>by
    first | trivial |(simp only[post86_0,length_nil,Nat.add_zero]; done) |(simp[post86_0]; done)
  |x0::y0,i,v0,v1=>by
    simp only[r86_0]
    have z:=z86_0 (a0:=a0) y0 (i+1) (set v0 (Int.toNat i) (K_si.mk (m132 v1) (IntKind.wrap .i64 (v1+1)))) (IntKind.wrap .i64 ((IntKind.wrap .i64 (v1+1))+1))
    rw[show (length v0)=(length (set v0 (Int.toNat i) (K_si.mk (m132 v1) (IntKind.wrap .i64 (v1+1))))) from by first | omega |(simp only[length_map,length_set,length_append,length_replicate,length_cons,length_nil]; done) |(simp only[length_map,length_set,length_append,length_replicate,length_cons,length_nil]; omega)]
    exact z
/-! loop.example/g00539/laws.markWeightS -/
def o86_0 (a0:(List K_si)) (a1:Int):List K_si:=
  (match r86_0 a0 a0 0 a0 a1 with | .k0 w0_0 w1_0 w2_0 w3_0=>w0_0)
def m86 (a0:(List K_si)) (a1:Int):Int:=
  (match r86_0 a0 a0 0 a0 a1 with | .k0 w0_0 w1_0 w2_0 w3_0=>w1_0)
theorem e86 {a0:(List K_si)} {a1:Int} (hy0:length a0*24≤140737488351232):Ev F X (.call 86 [(.one (.ref ⟨(0,0,0),[],0,(length (map d_si a0))⟩)),(.one (.val (.int .i64 a1)))] [((0,0,0),⟨2,(map d_si a0),[]⟩)] [(map d_si (o86_0 a0 a1))] [(.one (.val (.int .i64 (m86 a0 a1))))]):=by
  unfold m86 o86_0
  cases h0:r86_0 a0 a0 0 a0 a1 with
  |k0 w0_0 w1_0 w2_0 w3_0=>
    try dsimp only
    have zh0:=z86_0 (a0:=a0) a0 0 a0 a1; rw[h0] at zh0; simp only[post86_0,length_map,length_set,length_append,length_replicate,length_cons,length_nil,Int.toNat_natCast] at zh0
    have f0:(⟨[(0,(.one (.ref ⟨(0,0,0),[],0,(length (map d_si a0))⟩))),(1,(.oi a1)),(5,(.oi 0))],[((0,0,0),.live ⟨2,(map d_si a0),[]⟩)]⟩:St)=h86_0 a0 a1 0 a0 a1:=(by rfl)
    have f1:Ev F X (.code l86_0 (h86_0 a0 a1 0 a0 a1) (.exit 0) ⟨[(0,(.one (.ref ⟨(0,0,0),[],0,(length (map d_si a0))⟩))),(1,(.oi w1_0)),(5,(.oi w2_0)),(9,(.one (.val (.bool w3_0))))],[((0,0,0),.live ⟨2,(map d_si w0_0),[]⟩)]⟩):=(by have t:Ev F X (.code l86_0 (h86_0 a0 a1 0 a0 a1) (ex86_0 (r86_0 a0 a0 0 a0 a1)) (fin86_0 a0 a1 (r86_0 a0 a0 0 a0 a1))):=t86_0 (a0:=a0) (a1:=a1) (by assumption) a0 [] a0 a1 rfl (by simp only[length_map,length_set,length_append,length_replicate,length_cons,length_nil]; done) (by rfl); rw[h0] at t; exact t)
    have f2:pureR (map d_si w0_0)=true:=(pureR_si _)
    exact callP_ok (ps:=[true]) (os:=[(map d_si w0_0)]) (rs:=[(.oi w1_0)]) (by kernel_rfl) (.f f0 (.f f1 (.f f2 (.h 4 (.loop (h86_0 a0 a1 0 a0 a1) (.exit 0) ⟨[(0,(.one (.ref ⟨(0,0,0),[],0,(length (map d_si a0))⟩))),(1,(.oi w1_0)),(5,(.oi w2_0)),(9,(.one (.val (.bool w3_0))))],[((0,0,0),.live ⟨2,(map d_si w0_0),[]⟩)]⟩) .nil))))
theorem ow86_0 (a0:List K_si):∀(l p:List K_si) (v1:Int),∃(q:List K_si) (w1:_) (w2:_) (w3:_),r86_0 a0 l (p.length:Int) (p++l) v1=.k0 (p++q) w1 w2 w3∧q.length=l.length
  |[],p,v1=>⟨[],v1,(p.length:Int),(decide ((p.length:Int) <((length (map d_si a0)):Int))),rfl,rfl⟩
  |x0::l,p,v1=>by
    obtain⟨q,w1,w2,w3,e1,e2⟩:=ow86_0 a0 l (p++ [(K_si.mk (m132 v1) (IntKind.wrap .i64 (v1+1)))]) (IntKind.wrap .i64 ((IntKind.wrap .i64 (v1+1))+1))
    refine⟨(K_si.mk (m132 v1) (IntKind.wrap .i64 (v1+1)))::q,w1,w2,w3,?_,by simp[e2]⟩
    · have e:set (p++x0::l) (Int.toNat (p.length:Int)) (K_si.mk (m132 v1) (IntKind.wrap .i64 (v1+1)))=(p++ [(K_si.mk (m132 v1) (IntKind.wrap .i64 (v1+1)))])++l:=by simp
      have e0:((p++ [(K_si.mk (m132 v1) (IntKind.wrap .i64 (v1+1)))]).length:Int)=(p.length:Int)+1:=by simp
      rw[e0] at e1
      simp only[r86_0]
      first |(rw[e,e1]; simp; done) |(simp only[e,e1]; simp; done)

theorem ol86 (a:List K_si) (k:Int):(o86_0 a k).length=a.length:=by
  obtain⟨q,w1,w2,w3,e1,e2⟩:=ow86_0 a a [] k
  simp only[List.nil_append,length_nil] at e1
  rw[show ((0:Nat):Int)=0 from rfl] at e1
  unfold o86_0
  rw[e1]; exact e2
/-! loop 87_0 -/
inductive O87_0 where
  |k0 (w0:List K_R) (w1:Int) (w2:Int) (w3:Bool)
def r87_0 (a0:(List K_R)):List K_R→Int→List K_R→Int→O87_0
  |x0::y0,i,v0,v1=>
    (r87_0 a0 y0 (i+1) (set v0 (Int.toNat i) (K_R.mk v1 (IntKind.wrap .i64 (v1+1)) (IntKind.wrap .i64 ((IntKind.wrap .i64 (v1+1))+1)) (o86_0 x0.f3 (IntKind.wrap .i64 ((IntKind.wrap .i64 ((IntKind.wrap .i64 (v1+1))+1))+1))) (m86 x0.f3 (IntKind.wrap .i64 ((IntKind.wrap .i64 ((IntKind.wrap .i64 (v1+1))+1))+1))))) (IntKind.wrap .i64 ((m86 x0.f3 (IntKind.wrap .i64 ((IntKind.wrap .i64 ((IntKind.wrap .i64 (v1+1))+1))+1)))+1)))
  |[],i,v0,v1=>(O87_0.k0 v0 v1 i (decide (i <((length (map d_R a0)):Int))))
def h87_0 (a0:(List K_R)) (a1:Int) (i:Int) (v0:List K_R) (v1:Int):St:=⟨[(0,(.one (.ref ⟨(0,0,0),[],0,(length (map d_R a0))⟩))),(1,(.one (.val (.int .i64 v1)))),(5,(.one (.val (.int .i64 i))))],[((0,0,0),.live ⟨5,(map d_R v0),[]⟩)]⟩
def ex87_0:O87_0→VX.Exit
  |.k0 _ _ _ _=>(.exit 0)
def fin87_0 (a0:(List K_R)) (a1:Int):O87_0→St
  |.k0 w0 w1 w2 w3=>⟨[(0,(.one (.ref ⟨(0,0,0),[],0,(length (map d_R a0))⟩))),(1,(.one (.val (.int .i64 w1)))),(5,(.one (.val (.int .i64 w2)))),(9,(.one (.val (.bool w3))))],[((0,0,0),.live ⟨5,(map d_R w0),[]⟩)]⟩
theorem t87_0 {a0:(List K_R)} {a1:Int} (hy0:length a0*56≤140737488351232) (hy1:∀z∈a0,ok_R z):∀(y0:List K_R) (p:List K_R) (v0:List K_R) (v1:Int),p++y0=a0→length v0=(length (map d_R a0))→drop (length p) v0=y0→Ev F X (.code l87_0 (h87_0 a0 a1 (length p:Int) v0 v1) (ex87_0 (r87_0 a0 y0 (length p:Int) v0 v1)) (fin87_0 a0 a1 (r87_0 a0 y0 (length p:Int) v0 v1)))
  |[],p,v0,v1,hp0,hi0,hi1=>by
    have hc:¬(decide ((length p:Int) <((length (map d_R a0)):Int)))=true:=by
      rw[← hp0]; simp only[length_map,length_set,length_append,length_replicate,length_cons,length_nil,decide_eq_true_eq]; omega
    have hj0:=hi0; try simp only[length_map,length_set,length_append,length_replicate,length_cons,length_nil,Int.toNat_natCast] at hj0
    have hj1:=hi1; try simp only[length_map,length_set,length_append,length_replicate,length_cons,length_nil,Int.toNat_natCast] at hj1
    have st:=codeH_ok (F:=F) (X:=X) (c:=b87_0) (t:=0) (hs:=[(8,.b false)]) (σ:=h87_0 a0 a1 (length p:Int) v0 v1) (σ':=fin87_0 a0 a1 (.k0 v0 v1 (length p:Int) (decide ((length p:Int) <((length (map d_R a0)):Int))))) (e:=(.exit 0)) (t':=9) (hs':=[]) (q:=[(decide ((length p:Int) <((length (map d_R a0)):Int)))=false]) (by kernel_rfl) ⟨(nt hc),trivial⟩
    exact .loopX st (show ((.exit 0):VX.Exit)≠.normal from by simp)
  |x0::y0,p,v0,v1,hp0,hi0,hi1=>by
    have hc:(decide ((length p:Int) <((length (map d_R a0)):Int)))=true:=by
      rw[← hp0]; simp only[length_map,length_set,length_append,length_replicate,length_cons,length_nil,decide_eq_true_eq]; omega
    have Hx0:(a0)[Int.toNat (length p:Int)]?=some x0:=by
      rw[← hp0,Int.toNat_natCast]; simp
    have Mx0_0:=hy1 x0 (List.mem_of_getElem? Hx0)
    have hlen:length (a0)=length p+length y0+1:=by rw[← hp0]; simp; omega
    have hw:IntKind.wrap .i64 ((length p:Int)+1)=(length p:Int)+1:=wrap64 (by omega)
    have hj0:=hi0; try simp only[length_map,length_set,length_append,length_replicate,length_cons,length_nil,Int.toNat_natCast] at hj0
    have hj1:=hi1; try simp only[length_map,length_set,length_append,length_replicate,length_cons,length_nil,Int.toNat_natCast] at hj1
    have Hv0:v0[Int.toNat (length p:Int)]?=some x0:=by rw[Int.toNat_natCast]; exact drop_at hi1
    simp only[r87_0]
    have st:=codeH_ok (F:=F) (X:=X) (c:=b87_0) (t:=0) (hs:=[(8,.b true),(20,.rowD [(.i x0.f0),(.i x0.f1),(.i x0.f2),(.own 2 (map d_si x0.f3)),(.i x0.f4)]),(21,.norm (0,0,0) (map d_R (set v0 (Int.toNat (length p:Int)) (K_R.mk v1 x0.f1 x0.f2 x0.f3 x0.f4)))),(39,.rowD [(.i v1),(.i x0.f1),(.i x0.f2),(.own 2 (map d_si x0.f3)),(.i x0.f4)]),(40,.norm (0,0,0) (map d_R (set v0 (Int.toNat (length p:Int)) (K_R.mk v1 (IntKind.wrap .i64 (v1+1)) x0.f2 x0.f3 x0.f4)))),(58,.rowD [(.i v1),(.i (IntKind.wrap .i64 (v1+1))),(.i x0.f2),(.own 2 (map d_si x0.f3)),(.i x0.f4)]),(59,.norm (0,0,0) (map d_R (set v0 (Int.toNat (length p:Int)) (K_R.mk v1 (IntKind.wrap .i64 (v1+1)) (IntKind.wrap .i64 ((IntKind.wrap .i64 (v1+1))+1)) x0.f3 x0.f4)))),(75,.rowD [(.i v1),(.i (IntKind.wrap .i64 (v1+1))),(.i (IntKind.wrap .i64 ((IntKind.wrap .i64 (v1+1))+1))),(.own 2 (map d_si x0.f3)),(.i x0.f4)]),(79,.nav [((0,0,0),[3],2,(map d_si x0.f3))] [[([((0+(Int.toNat (length p:Int))),3)],true)]] (.ret [(map d_si (o86_0 x0.f3 (IntKind.wrap .i64 ((IntKind.wrap .i64 ((IntKind.wrap .i64 (v1+1))+1))+1))))] [(.oi (m86 x0.f3 (IntKind.wrap .i64 ((IntKind.wrap .i64 ((IntKind.wrap .i64 (v1+1))+1))+1))))] [true] [])),(82,.norm (0,0,0) (map d_R (set v0 (Int.toNat (length p:Int)) (K_R.mk v1 (IntKind.wrap .i64 (v1+1)) (IntKind.wrap .i64 ((IntKind.wrap .i64 (v1+1))+1)) (o86_0 x0.f3 (IntKind.wrap .i64 ((IntKind.wrap .i64 ((IntKind.wrap .i64 (v1+1))+1))+1))) x0.f4)))),(94,.rowD [(.i v1),(.i (IntKind.wrap .i64 (v1+1))),(.i (IntKind.wrap .i64 ((IntKind.wrap .i64 (v1+1))+1))),(.own 2 (map d_si (o86_0 x0.f3 (IntKind.wrap .i64 ((IntKind.wrap .i64 ((IntKind.wrap .i64 (v1+1))+1))+1))))),(.i x0.f4)]),(95,.norm (0,0,0) (map d_R (set v0 (Int.toNat (length p:Int)) (K_R.mk v1 (IntKind.wrap .i64 (v1+1)) (IntKind.wrap .i64 ((IntKind.wrap .i64 (v1+1))+1)) (o86_0 x0.f3 (IntKind.wrap .i64 ((IntKind.wrap .i64 ((IntKind.wrap .i64 (v1+1))+1))+1))) (m86 x0.f3 (IntKind.wrap .i64 ((IntKind.wrap .i64 ((IntKind.wrap .i64 (v1+1))+1))+1)))))))]) (σ:=h87_0 a0 a1 (length p:Int) v0 v1) (σ':=⟨[(0,(.one (.ref ⟨(0,0,0),[],0,(length (map d_R a0))⟩))),(1,(.oi (IntKind.wrap .i64 ((m86 x0.f3 (IntKind.wrap .i64 ((IntKind.wrap .i64 ((IntKind.wrap .i64 (v1+1))+1))+1)))+1)))),(5,(.oi (IntKind.wrap .i64 ((length p:Int)+1))))],[((0,0,0),.live ⟨5,(map d_R (set v0 (Int.toNat (length p:Int)) (K_R.mk v1 (IntKind.wrap .i64 (v1+1)) (IntKind.wrap .i64 ((IntKind.wrap .i64 (v1+1))+1)) (o86_0 x0.f3 (IntKind.wrap .i64 ((IntKind.wrap .i64 ((IntKind.wrap .i64 (v1+1))+1))+1))) (m86 x0.f3 (IntKind.wrap .i64 ((IntKind.wrap .i64 ((IntKind.wrap .i64 (v1+1))+1))+1)))))),[]⟩)]⟩) (e:=.normal) (t':=108) (hs':=[]) (q:=[(decide ((length p:Int) <((length (map d_R a0)):Int)))=true,0+(length (map d_R a0))≤(length (map d_R v0)),0≤(length p:Int)∧(length p:Int) <((length (map d_R a0)):Int),(map d_R v0)[(0+(Int.toNat (length p:Int)))]?=some [(.i x0.f0),(.i x0.f1),(.i x0.f2),(.own 2 (map d_si x0.f3)),(.i x0.f4)],(set (map d_R v0) (0+(Int.toNat (length p:Int))) [(.i v1),(.i x0.f1),(.i x0.f2),(.own 2 (map d_si x0.f3)),(.i x0.f4)])=(map d_R (set v0 (Int.toNat (length p:Int)) (K_R.mk v1 x0.f1 x0.f2 x0.f3 x0.f4))),True,0+(length (map d_R a0))≤(length (map d_R (set v0 (Int.toNat (length p:Int)) (K_R.mk v1 x0.f1 x0.f2 x0.f3 x0.f4)))),0≤(length p:Int)∧(length p:Int) <((length (map d_R a0)):Int),(map d_R (set v0 (Int.toNat (length p:Int)) (K_R.mk v1 x0.f1 x0.f2 x0.f3 x0.f4)))[(0+(Int.toNat (length p:Int)))]?=some [(.i v1),(.i x0.f1),(.i x0.f2),(.own 2 (map d_si x0.f3)),(.i x0.f4)],(set (map d_R (set v0 (Int.toNat (length p:Int)) (K_R.mk v1 x0.f1 x0.f2 x0.f3 x0.f4))) (0+(Int.toNat (length p:Int))) [(.i v1),(.i (IntKind.wrap .i64 (v1+1))),(.i x0.f2),(.own 2 (map d_si x0.f3)),(.i x0.f4)])=(map d_R (set v0 (Int.toNat (length p:Int)) (K_R.mk v1 (IntKind.wrap .i64 (v1+1)) x0.f2 x0.f3 x0.f4))),True,0+(length (map d_R a0))≤(length (map d_R (set v0 (Int.toNat (length p:Int)) (K_R.mk v1 (IntKind.wrap .i64 (v1+1)) x0.f2 x0.f3 x0.f4)))),0≤(length p:Int)∧(length p:Int) <((length (map d_R a0)):Int),(map d_R (set v0 (Int.toNat (length p:Int)) (K_R.mk v1 (IntKind.wrap .i64 (v1+1)) x0.f2 x0.f3 x0.f4)))[(0+(Int.toNat (length p:Int)))]?=some [(.i v1),(.i (IntKind.wrap .i64 (v1+1))),(.i x0.f2),(.own 2 (map d_si x0.f3)),(.i x0.f4)],(set (map d_R (set v0 (Int.toNat (length p:Int)) (K_R.mk v1 (IntKind.wrap .i64 (v1+1)) x0.f2 x0.f3 x0.f4))) (0+(Int.toNat (length p:Int))) [(.i v1),(.i (IntKind.wrap .i64 (v1+1))),(.i (IntKind.wrap .i64 ((IntKind.wrap .i64 (v1+1))+1))),(.own 2 (map d_si x0.f3)),(.i x0.f4)])=(map d_R (set v0 (Int.toNat (length p:Int)) (K_R.mk v1 (IntKind.wrap .i64 (v1+1)) (IntKind.wrap .i64 ((IntKind.wrap .i64 (v1+1))+1)) x0.f3 x0.f4))),True,0+(length (map d_R a0))≤(length (map d_R (set v0 (Int.toNat (length p:Int)) (K_R.mk v1 (IntKind.wrap .i64 (v1+1)) (IntKind.wrap .i64 ((IntKind.wrap .i64 (v1+1))+1)) x0.f3 x0.f4)))),0≤(length p:Int)∧(length p:Int) <((length (map d_R a0)):Int),(map d_R (set v0 (Int.toNat (length p:Int)) (K_R.mk v1 (IntKind.wrap .i64 (v1+1)) (IntKind.wrap .i64 ((IntKind.wrap .i64 (v1+1))+1)) x0.f3 x0.f4)))[(0+(Int.toNat (length p:Int)))]?=some [(.i v1),(.i (IntKind.wrap .i64 (v1+1))),(.i (IntKind.wrap .i64 ((IntKind.wrap .i64 (v1+1))+1))),(.own 2 (map d_si x0.f3)),(.i x0.f4)],nav 5 (map d_R (set v0 (Int.toNat (length p:Int)) (K_R.mk v1 (IntKind.wrap .i64 (v1+1)) (IntKind.wrap .i64 ((IntKind.wrap .i64 (v1+1))+1)) x0.f3 x0.f4))) [((0+(Int.toNat (length p:Int))),3)]=some (2,(map d_si x0.f3)),pureR (map d_si x0.f3)=true,Ev F X (.call 86 [(.one (.ref ⟨(0,0,0),[],0,(length (map d_si x0.f3))⟩)),(.oi (IntKind.wrap .i64 ((IntKind.wrap .i64 ((IntKind.wrap .i64 (v1+1))+1))+1)))] [((0,0,0),⟨2,(map d_si x0.f3),[]⟩)] [(map d_si (o86_0 x0.f3 (IntKind.wrap .i64 ((IntKind.wrap .i64 ((IntKind.wrap .i64 (v1+1))+1))+1))))] [(.oi (m86 x0.f3 (IntKind.wrap .i64 ((IntKind.wrap .i64 ((IntKind.wrap .i64 (v1+1))+1))+1))))]),undirt [((0+(Int.toNat (length p:Int))),3)] [([((0+(Int.toNat (length p:Int))),3)],false)]=[([((0+(Int.toNat (length p:Int))),3)],true)],(setCell (setCell (map d_R (set v0 (Int.toNat (length p:Int)) (K_R.mk v1 (IntKind.wrap .i64 (v1+1)) (IntKind.wrap .i64 ((IntKind.wrap .i64 (v1+1))+1)) x0.f3 x0.f4))) [((0+(Int.toNat (length p:Int))),3)] (.hole (lenAt ⟨5,(map d_R (set v0 (Int.toNat (length p:Int)) (K_R.mk v1 (IntKind.wrap .i64 (v1+1)) (IntKind.wrap .i64 ((IntKind.wrap .i64 (v1+1))+1)) x0.f3 x0.f4))),[]⟩ [((0+(Int.toNat (length p:Int))),3)]))) [((0+(Int.toNat (length p:Int))),3)] (.own 2 (map d_si (o86_0 x0.f3 (IntKind.wrap .i64 ((IntKind.wrap .i64 ((IntKind.wrap .i64 (v1+1))+1))+1))))))=(map d_R (set v0 (Int.toNat (length p:Int)) (K_R.mk v1 (IntKind.wrap .i64 (v1+1)) (IntKind.wrap .i64 ((IntKind.wrap .i64 (v1+1))+1)) (o86_0 x0.f3 (IntKind.wrap .i64 ((IntKind.wrap .i64 ((IntKind.wrap .i64 (v1+1))+1))+1))) x0.f4))),0+(length (map d_R a0))≤(length (map d_R (set v0 (Int.toNat (length p:Int)) (K_R.mk v1 (IntKind.wrap .i64 (v1+1)) (IntKind.wrap .i64 ((IntKind.wrap .i64 (v1+1))+1)) (o86_0 x0.f3 (IntKind.wrap .i64 ((IntKind.wrap .i64 ((IntKind.wrap .i64 (v1+1))+1))+1))) x0.f4)))),0≤(length p:Int)∧(length p:Int) <((length (map d_R a0)):Int),(map d_R (set v0 (Int.toNat (length p:Int)) (K_R.mk v1 (IntKind.wrap .i64 (v1+1)) (IntKind.wrap .i64 ((IntKind.wrap .i64 (v1+1))+1)) (o86_0 x0.f3 (IntKind.wrap .i64 ((IntKind.wrap .i64 ((IntKind.wrap .i64 (v1+1))+1))+1))) x0.f4)))[(0+(Int.toNat (length p:Int)))]?=some [(.i v1),(.i (IntKind.wrap .i64 (v1+1))),(.i (IntKind.wrap .i64 ((IntKind.wrap .i64 (v1+1))+1))),(.own 2 (map d_si (o86_0 x0.f3 (IntKind.wrap .i64 ((IntKind.wrap .i64 ((IntKind.wrap .i64 (v1+1))+1))+1))))),(.i x0.f4)],(set (map d_R (set v0 (Int.toNat (length p:Int)) (K_R.mk v1 (IntKind.wrap .i64 (v1+1)) (IntKind.wrap .i64 ((IntKind.wrap .i64 (v1+1))+1)) (o86_0 x0.f3 (IntKind.wrap .i64 ((IntKind.wrap .i64 ((IntKind.wrap .i64 (v1+1))+1))+1))) x0.f4))) (0+(Int.toNat (length p:Int))) [(.i v1),(.i (IntKind.wrap .i64 (v1+1))),(.i (IntKind.wrap .i64 ((IntKind.wrap .i64 (v1+1))+1))),(.own 2 (map d_si (o86_0 x0.f3 (IntKind.wrap .i64 ((IntKind.wrap .i64 ((IntKind.wrap .i64 (v1+1))+1))+1))))),(.i (m86 x0.f3 (IntKind.wrap .i64 ((IntKind.wrap .i64 ((IntKind.wrap .i64 (v1+1))+1))+1))))])=(map d_R (set v0 (Int.toNat (length p:Int)) (K_R.mk v1 (IntKind.wrap .i64 (v1+1)) (IntKind.wrap .i64 ((IntKind.wrap .i64 (v1+1))+1)) (o86_0 x0.f3 (IntKind.wrap .i64 ((IntKind.wrap .i64 ((IntKind.wrap .i64 (v1+1))+1))+1))) (m86 x0.f3 (IntKind.wrap .i64 ((IntKind.wrap .i64 ((IntKind.wrap .i64 (v1+1))+1))+1)))))),True,True]) (by kernel_rfl) ⟨hc,(by simp only[length_map]; omega),(by omega),(by rw[Nat.zero_add,getElem?_map,Hv0]; rfl),(by simp[byteRows_eq,ints_y,take_of_length_le,d_si,d_R,d_B,d_i,d_b,d_C,d_LsiE,d_s,d_Q,d_y,fromBR_si,fromBR_i,fromBR_b,fromBR_s,fromBR_y,ol86]; done),trivial,(by simp only[length_map,length_set]; omega),(by omega),(by rw[Nat.zero_add,map_set,List.getElem?_set_self (by simp only[length_map]; omega)]; rfl),(by simp[byteRows_eq,ints_y,take_of_length_le,d_si,d_R,d_B,d_i,d_b,d_C,d_LsiE,d_s,d_Q,d_y,fromBR_si,fromBR_i,fromBR_b,fromBR_s,fromBR_y,ol86]; done),trivial,(by simp only[length_map,length_set]; omega),(by omega),(by rw[Nat.zero_add,map_set,List.getElem?_set_self (by simp only[length_map]; omega)]; rfl),(by simp[byteRows_eq,ints_y,take_of_length_le,d_si,d_R,d_B,d_i,d_b,d_C,d_LsiE,d_s,d_Q,d_y,fromBR_si,fromBR_i,fromBR_b,fromBR_s,fromBR_y,ol86]; done),trivial,(by simp only[length_map,length_set]; omega),(by omega),(by rw[Nat.zero_add,map_set,List.getElem?_set_self (by simp only[length_map]; omega)]; rfl),(by simp only[nav];(rw[Nat.zero_add,map_set,List.getElem?_set_self (by simp only[length_map]; omega)]); rfl),(pureR_si _),(e86 (a0:=x0.f3) (a1:=(IntKind.wrap .i64 ((IntKind.wrap .i64 ((IntKind.wrap .i64 (v1+1))+1))+1))) (by assumption)),(by simp[undirt]),(by rw[setCell2At (i:=(0+(Int.toNat (length p:Int)))) (j:=3) (row:=[(.i v1),(.i (IntKind.wrap .i64 (v1+1))),(.i (IntKind.wrap .i64 ((IntKind.wrap .i64 (v1+1))+1))),(.own 2 (map d_si x0.f3)),(.i x0.f4)]) (by rw[Nat.zero_add,map_set,List.getElem?_set_self (by simp only[length_map]; omega)]; rfl)]; first | rfl |(simp[byteRows_eq,ints_y,take_of_length_le,d_si,d_R,d_B,d_i,d_b,d_C,d_LsiE,d_s,d_Q,d_y,fromBR_si,fromBR_i,fromBR_b,fromBR_s,fromBR_y,ol86]; done) |(simp[map_set,byteRows_eq,ints_y,take_of_length_le,d_si,d_R,d_B,d_i,d_b,d_C,d_LsiE,d_s,d_Q,d_y,fromBR_si,fromBR_i,fromBR_b,fromBR_s,fromBR_y,ol86]; done)),(by simp only[length_map,length_set]; omega),(by omega),(by rw[Nat.zero_add,map_set,List.getElem?_set_self (by simp only[length_map]; omega)]; rfl),(by simp[byteRows_eq,ints_y,take_of_length_le,d_si,d_R,d_B,d_i,d_b,d_C,d_LsiE,d_s,d_Q,d_y,fromBR_si,fromBR_i,fromBR_b,fromBR_s,fromBR_y,ol86]; done),trivial,trivial,trivial⟩
    have ih:=t87_0 (a0:=a0) (a1:=a1) hy0 hy1 y0 (p++ [x0]) (set v0 (Int.toNat (length p:Int)) (K_R.mk v1 (IntKind.wrap .i64 (v1+1)) (IntKind.wrap .i64 ((IntKind.wrap .i64 (v1+1))+1)) (o86_0 x0.f3 (IntKind.wrap .i64 ((IntKind.wrap .i64 ((IntKind.wrap .i64 (v1+1))+1))+1))) (m86 x0.f3 (IntKind.wrap .i64 ((IntKind.wrap .i64 ((IntKind.wrap .i64 (v1+1))+1))+1))))) (IntKind.wrap .i64 ((m86 x0.f3 (IntKind.wrap .i64 ((IntKind.wrap .i64 ((IntKind.wrap .i64 (v1+1))+1))+1)))+1)) (by rw[append_assoc]; exact hp0) (by simp only[length_map,length_set,length_append,length_replicate,length_cons,length_nil]; omega) (by simp only[length_map,length_set,length_append,length_replicate,length_cons,length_nil,Int.toNat_natCast]; first | exact drop_set_next hi1 _ | exact drop_next hi1)
    rw[show ((p++ [x0]).length:Int)=(p.length:Int)+1 from by simp] at ih
    rw[show (⟨[(0,(.one (.ref ⟨(0,0,0),[],0,(length (map d_R a0))⟩))),(1,(.oi (IntKind.wrap .i64 ((m86 x0.f3 (IntKind.wrap .i64 ((IntKind.wrap .i64 ((IntKind.wrap .i64 (v1+1))+1))+1)))+1)))),(5,(.oi (IntKind.wrap .i64 ((length p:Int)+1))))],[((0,0,0),.live ⟨5,(map d_R (set v0 (Int.toNat (length p:Int)) (K_R.mk v1 (IntKind.wrap .i64 (v1+1)) (IntKind.wrap .i64 ((IntKind.wrap .i64 (v1+1))+1)) (o86_0 x0.f3 (IntKind.wrap .i64 ((IntKind.wrap .i64 ((IntKind.wrap .i64 (v1+1))+1))+1))) (m86 x0.f3 (IntKind.wrap .i64 ((IntKind.wrap .i64 ((IntKind.wrap .i64 (v1+1))+1))+1)))))),[]⟩)]⟩:St)=h87_0 a0 a1 ((length p:Int)+1) (set v0 (Int.toNat (length p:Int)) (K_R.mk v1 (IntKind.wrap .i64 (v1+1)) (IntKind.wrap .i64 ((IntKind.wrap .i64 (v1+1))+1)) (o86_0 x0.f3 (IntKind.wrap .i64 ((IntKind.wrap .i64 ((IntKind.wrap .i64 (v1+1))+1))+1))) (m86 x0.f3 (IntKind.wrap .i64 ((IntKind.wrap .i64 ((IntKind.wrap .i64 (v1+1))+1))+1))))) (IntKind.wrap .i64 ((m86 x0.f3 (IntKind.wrap .i64 ((IntKind.wrap .i64 ((IntKind.wrap .i64 (v1+1))+1))+1)))+1)) from(by unfold h87_0; simp only[hw]; done)] at st
    exact .loopN st ih
def post87_0 (n0:Nat):O87_0→Prop
  |.k0 w0 _ _ _=>length w0=n0
theorem z87_0 {a0:(List K_R)}:∀(y0:List K_R) (i:Int) (v0:List K_R) (v1:Int),post87_0 (length v0) (r87_0 a0 y0 i v0 v1)
  |[],i,v0,v1=>by
    first | trivial |(simp only[post87_0,length_nil,Nat.add_zero]; done) |(simp[post87_0]; done)
  |x0::y0,i,v0,v1=>by
    simp only[r87_0]
    have z:=z87_0 (a0:=a0) y0 (i+1) (set v0 (Int.toNat i) (K_R.mk v1 (IntKind.wrap .i64 (v1+1)) (IntKind.wrap .i64 ((IntKind.wrap .i64 (v1+1))+1)) (o86_0 x0.f3 (IntKind.wrap .i64 ((IntKind.wrap .i64 ((IntKind.wrap .i64 (v1+1))+1))+1))) (m86 x0.f3 (IntKind.wrap .i64 ((IntKind.wrap .i64 ((IntKind.wrap .i64 (v1+1))+1))+1))))) (IntKind.wrap .i64 ((m86 x0.f3 (IntKind.wrap .i64 ((IntKind.wrap .i64 ((IntKind.wrap .i64 (v1+1))+1))+1)))+1))
    rw[show (length v0)=(length (set v0 (Int.toNat i) (K_R.mk v1 (IntKind.wrap .i64 (v1+1)) (IntKind.wrap .i64 ((IntKind.wrap .i64 (v1+1))+1)) (o86_0 x0.f3 (IntKind.wrap .i64 ((IntKind.wrap .i64 ((IntKind.wrap .i64 (v1+1))+1))+1))) (m86 x0.f3 (IntKind.wrap .i64 ((IntKind.wrap .i64 ((IntKind.wrap .i64 (v1+1))+1))+1)))))) from by first | omega |(simp only[length_map,length_set,length_append,length_replicate,length_cons,length_nil]; done) |(simp only[length_map,length_set,length_append,length_replicate,length_cons,length_nil]; omega)]
    exact z
/-! loop.example/g00539/laws.markRewardS -/
def o87_0 (a0:(List K_R)) (a1:Int):List K_R:=
  (match r87_0 a0 a0 0 a0 a1 with | .k0 w0_0 w1_0 w2_0 w3_0=>w0_0)
def m87 (a0:(List K_R)) (a1:Int):Int:=
  (match r87_0 a0 a0 0 a0 a1 with | .k0 w0_0 w1_0 w2_0 w3_0=>w1_0)
theorem e87 {a0:(List K_R)} {a1:Int} (hy0:length a0*56≤140737488351232) (hy1:∀z∈a0,ok_R z):Ev F X (.call 87 [(.one (.ref ⟨(0,0,0),[],0,(length (map d_R a0))⟩)),(.one (.val (.int .i64 a1)))] [((0,0,0),⟨5,(map d_R a0),[]⟩)] [(map d_R (o87_0 a0 a1))] [(.one (.val (.int .i64 (m87 a0 a1))))]):=by
  unfold m87 o87_0
  cases h0:r87_0 a0 a0 0 a0 a1 with
  |k0 w0_0 w1_0 w2_0 w3_0=>
    try dsimp only
    have zh0:=z87_0 (a0:=a0) a0 0 a0 a1; rw[h0] at zh0; simp only[post87_0,length_map,length_set,length_append,length_replicate,length_cons,length_nil,Int.toNat_natCast] at zh0
    have f0:(⟨[(0,(.one (.ref ⟨(0,0,0),[],0,(length (map d_R a0))⟩))),(1,(.oi a1)),(5,(.oi 0))],[((0,0,0),.live ⟨5,(map d_R a0),[]⟩)]⟩:St)=h87_0 a0 a1 0 a0 a1:=(by rfl)
    have f1:Ev F X (.code l87_0 (h87_0 a0 a1 0 a0 a1) (.exit 0) ⟨[(0,(.one (.ref ⟨(0,0,0),[],0,(length (map d_R a0))⟩))),(1,(.oi w1_0)),(5,(.oi w2_0)),(9,(.one (.val (.bool w3_0))))],[((0,0,0),.live ⟨5,(map d_R w0_0),[]⟩)]⟩):=(by have t:Ev F X (.code l87_0 (h87_0 a0 a1 0 a0 a1) (ex87_0 (r87_0 a0 a0 0 a0 a1)) (fin87_0 a0 a1 (r87_0 a0 a0 0 a0 a1))):=t87_0 (a0:=a0) (a1:=a1) (by assumption) (by assumption) a0 [] a0 a1 rfl (by simp only[length_map,length_set,length_append,length_replicate,length_cons,length_nil]; done) (by rfl); rw[h0] at t; exact t)
    have f2:pureR (map d_R w0_0)=true:=(pureR_R _)
    exact callP_ok (ps:=[true]) (os:=[(map d_R w0_0)]) (rs:=[(.oi w1_0)]) (by kernel_rfl) (.f f0 (.f f1 (.f f2 (.h 4 (.loop (h87_0 a0 a1 0 a0 a1) (.exit 0) ⟨[(0,(.one (.ref ⟨(0,0,0),[],0,(length (map d_R a0))⟩))),(1,(.oi w1_0)),(5,(.oi w2_0)),(9,(.one (.val (.bool w3_0))))],[((0,0,0),.live ⟨5,(map d_R w0_0),[]⟩)]⟩) .nil))))
theorem ow87_0 (a0:List K_R):∀(l p:List K_R) (v1:Int),(∀z∈l,ok_R z)→∃(q:List K_R) (w1:_) (w2:_) (w3:_),r87_0 a0 l (p.length:Int) (p++l) v1=.k0 (p++q) w1 w2 w3∧q.length=l.length∧∀z∈q,ok_R z
  |[],p,v1,_=>⟨[],v1,(p.length:Int),(decide ((p.length:Int) <((length (map d_R a0)):Int))),rfl,rfl,fun z h=>by cases h⟩
  |x0::l,p,v1,h=>by
    obtain⟨q,w1,w2,w3,e1,e2,e3⟩:=ow87_0 a0 l (p++ [(K_R.mk v1 (IntKind.wrap .i64 (v1+1)) (IntKind.wrap .i64 ((IntKind.wrap .i64 (v1+1))+1)) (o86_0 x0.f3 (IntKind.wrap .i64 ((IntKind.wrap .i64 ((IntKind.wrap .i64 (v1+1))+1))+1))) (m86 x0.f3 (IntKind.wrap .i64 ((IntKind.wrap .i64 ((IntKind.wrap .i64 (v1+1))+1))+1))))]) (IntKind.wrap .i64 ((m86 x0.f3 (IntKind.wrap .i64 ((IntKind.wrap .i64 ((IntKind.wrap .i64 (v1+1))+1))+1)))+1)) (fun z hz=>h z (List.mem_cons_of_mem _ hz))
    refine⟨(K_R.mk v1 (IntKind.wrap .i64 (v1+1)) (IntKind.wrap .i64 ((IntKind.wrap .i64 (v1+1))+1)) (o86_0 x0.f3 (IntKind.wrap .i64 ((IntKind.wrap .i64 ((IntKind.wrap .i64 (v1+1))+1))+1))) (m86 x0.f3 (IntKind.wrap .i64 ((IntKind.wrap .i64 ((IntKind.wrap .i64 (v1+1))+1))+1))))::q,w1,w2,w3,?_,by simp[e2],?_⟩
    · have e:set (p++x0::l) (Int.toNat (p.length:Int)) (K_R.mk v1 (IntKind.wrap .i64 (v1+1)) (IntKind.wrap .i64 ((IntKind.wrap .i64 (v1+1))+1)) (o86_0 x0.f3 (IntKind.wrap .i64 ((IntKind.wrap .i64 ((IntKind.wrap .i64 (v1+1))+1))+1))) (m86 x0.f3 (IntKind.wrap .i64 ((IntKind.wrap .i64 ((IntKind.wrap .i64 (v1+1))+1))+1))))=(p++ [(K_R.mk v1 (IntKind.wrap .i64 (v1+1)) (IntKind.wrap .i64 ((IntKind.wrap .i64 (v1+1))+1)) (o86_0 x0.f3 (IntKind.wrap .i64 ((IntKind.wrap .i64 ((IntKind.wrap .i64 (v1+1))+1))+1))) (m86 x0.f3 (IntKind.wrap .i64 ((IntKind.wrap .i64 ((IntKind.wrap .i64 (v1+1))+1))+1))))])++l:=by simp
      have e0:((p++ [(K_R.mk v1 (IntKind.wrap .i64 (v1+1)) (IntKind.wrap .i64 ((IntKind.wrap .i64 (v1+1))+1)) (o86_0 x0.f3 (IntKind.wrap .i64 ((IntKind.wrap .i64 ((IntKind.wrap .i64 (v1+1))+1))+1))) (m86 x0.f3 (IntKind.wrap .i64 ((IntKind.wrap .i64 ((IntKind.wrap .i64 (v1+1))+1))+1))))]).length:Int)=(p.length:Int)+1:=by simp
      rw[e0] at e1
      simp only[r87_0]
      first |(rw[e,e1]; simp; done) |(simp only[e,e1]; simp; done)
    · intro z hz
      rcases List.mem_cons.1 hz with rfl | hz
      · have hx:=h x0 (List.mem_cons_self ..)
        simp only[ok_R] at hx⊢
        simp only[length_map,ol86] at hx⊢
        first | exact hx |(simp_all [ol86]; done) |(obtain⟨_,_⟩:=hx; refine⟨?_,?_⟩<;>simp_all [ol86])
      · exact e3 z hz

theorem ov87_0 (a0:List K_R):∀(l p:List K_R) (v1:Int),∃(q:List K_R) (w1:_) (w2:_) (w3:_),r87_0 a0 l (p.length:Int) (p++l) v1=.k0 (p++q) w1 w2 w3∧q.length=l.length
  |[],p,v1=>⟨[],v1,(p.length:Int),(decide ((p.length:Int) <((length (map d_R a0)):Int))),rfl,rfl⟩
  |x0::l,p,v1=>by
    obtain⟨q,w1,w2,w3,e1,e2⟩:=ov87_0 a0 l (p++ [(K_R.mk v1 (IntKind.wrap .i64 (v1+1)) (IntKind.wrap .i64 ((IntKind.wrap .i64 (v1+1))+1)) (o86_0 x0.f3 (IntKind.wrap .i64 ((IntKind.wrap .i64 ((IntKind.wrap .i64 (v1+1))+1))+1))) (m86 x0.f3 (IntKind.wrap .i64 ((IntKind.wrap .i64 ((IntKind.wrap .i64 (v1+1))+1))+1))))]) (IntKind.wrap .i64 ((m86 x0.f3 (IntKind.wrap .i64 ((IntKind.wrap .i64 ((IntKind.wrap .i64 (v1+1))+1))+1)))+1))
    refine⟨(K_R.mk v1 (IntKind.wrap .i64 (v1+1)) (IntKind.wrap .i64 ((IntKind.wrap .i64 (v1+1))+1)) (o86_0 x0.f3 (IntKind.wrap .i64 ((IntKind.wrap .i64 ((IntKind.wrap .i64 (v1+1))+1))+1))) (m86 x0.f3 (IntKind.wrap .i64 ((IntKind.wrap .i64 ((IntKind.wrap .i64 (v1+1))+1))+1))))::q,w1,w2,w3,?_,by simp[e2]⟩
    · have e:set (p++x0::l) (Int.toNat (p.length:Int)) (K_R.mk v1 (IntKind.wrap .i64 (v1+1)) (IntKind.wrap .i64 ((IntKind.wrap .i64 (v1+1))+1)) (o86_0 x0.f3 (IntKind.wrap .i64 ((IntKind.wrap .i64 ((IntKind.wrap .i64 (v1+1))+1))+1))) (m86 x0.f3 (IntKind.wrap .i64 ((IntKind.wrap .i64 ((IntKind.wrap .i64 (v1+1))+1))+1))))=(p++ [(K_R.mk v1 (IntKind.wrap .i64 (v1+1)) (IntKind.wrap .i64 ((IntKind.wrap .i64 (v1+1))+1)) (o86_0 x0.f3 (IntKind.wrap .i64 ((IntKind.wrap .i64 ((IntKind.wrap .i64 (v1+1))+1))+1))) (m86 x0.f3 (IntKind.wrap .i64 ((IntKind.wrap .i64 ((IntKind.wrap .i64 (v1+1))+1))+1))))])++l:=by simp
      have e0:((p++ [(K_R.mk v1 (IntKind.wrap .i64 (v1+1)) (IntKind.wrap .i64 ((IntKind.wrap .i64 (v1+1))+1)) (o86_0 x0.f3 (IntKind.wrap .i64 ((IntKind.wrap .i64 ((IntKind.wrap .i64 (v1+1))+1))+1))) (m86 x0.f3 (IntKind.wrap .i64 ((IntKind.wrap .i64 ((IntKind.wrap .i64 (v1+1))+1))+1))))]).length:Int)=(p.length:Int)+1:=by simp
      rw[e0] at e1
      simp only[r87_0]
      first |(rw[e,e1]; simp; done) |(simp only[e,e1]; simp; done)
theorem ol87 (a:List K_R) (k:Int):(o87_0 a k).length=a.length:=by
  obtain⟨q,w1,w2,w3,e1,e2⟩:=ov87_0 a a [] k
  simp only[List.nil_append,length_nil] at e1
  rw[show ((0:Nat):Int)=0 from rfl] at e1
  unfold o87_0
  rw[e1]; exact e2
theorem oo87 (a:List K_R) (k:Int) (h:∀z∈a,ok_R z):∀z∈o87_0 a k,ok_R z:=by
  obtain⟨q,w1,w2,w3,e1,e2,e3⟩:=ow87_0 a a [] k h
  simp only[List.nil_append,length_nil] at e1
  rw[show ((0:Nat):Int)=0 from rfl] at e1
  unfold o87_0
  rw[e1]; exact e3
/-! loop.example/g00539/laws.markLedger -/
def o35_0 (a0:K_B) (a1:Int):List K_si:=
  (o86_0 a0.f4 (m87 a0.f3 (m86 a0.f2 a1)))
def o35_1 (a0:K_B) (a1:Int):List K_R:=
  (o87_0 a0.f3 (m86 a0.f2 a1))
def o35_2 (a0:K_B) (a1:Int):List K_si:=
  (o86_0 a0.f2 a1)
def m35 (a0:K_B) (a1:Int):Int:=
  (m86 a0.f4 (m87 a0.f3 (m86 a0.f2 a1)))
theorem e35 {a0:K_B} {a1:Int} (hy0:length a0.f2*24≤140737488351232) (hy1:length a0.f3*56≤140737488351232) (hy2:∀z∈a0.f3,ok_R z) (hy3:length a0.f4*24≤140737488351232):Ev F X (.call 35 [(.agg [(.val (.int .i64 a0.f0)),(.val (.int .i64 a0.f1)),(.ref ⟨(0,0,0),[],0,(length (map d_si a0.f2))⟩),(.ref ⟨(0,1,0),[],0,(length (map d_R a0.f3))⟩),(.ref ⟨(0,2,0),[],0,(length (map d_si a0.f4))⟩),(.val (.int .i64 a0.f5)),(.val (.int .i64 a0.f6)),(.val (.int .i64 a0.f7))]),(.one (.val (.int .i64 a1)))] [((0,2,0),⟨2,(map d_si a0.f4),[]⟩),((0,1,0),⟨5,(map d_R a0.f3),[]⟩),((0,0,0),⟨2,(map d_si a0.f2),[]⟩)] [(map d_si (o35_0 a0 a1)),(map d_R (o35_1 a0 a1)),(map d_si (o35_2 a0 a1))] [(.one (.val (.int .i64 (m35 a0 a1))))]):=by
  have f0:0=0:=rfl
  have f1:(length (map d_si a0.f2))=(length (map d_si a0.f2)):=rfl
  have f2:0=0:=rfl
  have f3:(length (map d_R a0.f3))=(length (map d_R a0.f3)):=rfl
  have f4:0=0:=rfl
  have f5:(length (map d_si a0.f4))=(length (map d_si a0.f4)):=rfl
  have f6:pureR (map d_si a0.f2)=true:=(pureR_si _)
  have f7:Ev F X (.call 86 [(.one (.ref ⟨(0,0,0),[],0,(length (map d_si a0.f2))⟩)),(.oi a1)] [((0,0,0),⟨2,(map d_si a0.f2),[]⟩)] [(map d_si (o86_0 a0.f2 a1))] [(.oi (m86 a0.f2 a1))]):=(e86 (a0:=a0.f2) (a1:=a1) (by with_reducible assumption))
  have f8:pureR (map d_R a0.f3)=true:=(pureR_R _)
  have f9:Ev F X (.call 87 [(.one (.ref ⟨(0,0,0),[],0,(length (map d_R a0.f3))⟩)),(.oi (m86 a0.f2 a1))] [((0,0,0),⟨5,(map d_R a0.f3),[]⟩)] [(map d_R (o87_0 a0.f3 (m86 a0.f2 a1)))] [(.oi (m87 a0.f3 (m86 a0.f2 a1)))]):=(e87 (a0:=a0.f3) (a1:=(m86 a0.f2 a1)) (by with_reducible assumption) (by with_reducible assumption))
  have f10:pureR (map d_si a0.f4)=true:=(pureR_si _)
  have f11:Ev F X (.call 86 [(.one (.ref ⟨(0,0,0),[],0,(length (map d_si a0.f4))⟩)),(.oi (m87 a0.f3 (m86 a0.f2 a1)))] [((0,0,0),⟨2,(map d_si a0.f4),[]⟩)] [(map d_si (o86_0 a0.f4 (m87 a0.f3 (m86 a0.f2 a1))))] [(.oi (m86 a0.f4 (m87 a0.f3 (m86 a0.f2 a1))))]):=(e86 (a0:=a0.f4) (a1:=(m87 a0.f3 (m86 a0.f2 a1))) (by with_reducible assumption))
  have f12:pureR (map d_si (o86_0 a0.f4 (m87 a0.f3 (m86 a0.f2 a1))))=true:=(pureR_si _)
  have f13:pureR (map d_R (o87_0 a0.f3 (m86 a0.f2 a1)))=true:=(pureR_R _)
  have f14:pureR (map d_si (o86_0 a0.f2 a1))=true:=(pureR_si _)
  exact callP_ok (ps:=[true,true,true]) (os:=[(map d_si (o86_0 a0.f4 (m87 a0.f3 (m86 a0.f2 a1)))),(map d_R (o87_0 a0.f3 (m86 a0.f2 a1))),(map d_si (o86_0 a0.f2 a1))]) (rs:=[(.oi (m86 a0.f4 (m87 a0.f3 (m86 a0.f2 a1))))]) (by kernel_rfl) (.f f0 (.f f1 (.f f2 (.f f3 (.f f4 (.f f5 (.f f6 (.r 11 [true] [] f7 (.f f8 (.r 21 [true] [] f9 (.f f10 (.r 31 [true] [] f11 (.f f12 (.f f13 (.f f14 .nil)))))))))))))))
theorem ol35_0 (a:K_B) (k:Int):(o35_0 a k).length=length a.f4:=by
  unfold o35_0
  simp[ol86,ol87]
theorem ol35_1 (a:K_B) (k:Int):(o35_1 a k).length=length a.f3:=by
  unfold o35_1
  simp[ol86,ol87]
theorem oo35_1 (a:K_B) (k:Int) (h:∀z∈a.f3,ok_R z):∀z∈o35_1 a k,ok_R z:=by
  unfold o35_1
  first | exact oo87 _ _ h | exact h
theorem ol35_2 (a:K_B) (k:Int):(o35_2 a k).length=length a.f2:=by
  unfold o35_2
  simp[ol86,ol87]
/-! loop.example/g00539/laws.markLedgerResult -/
def o36_0 (a0:K_C) (a1:Int):List K_si:=
  (o35_0 (K_B.mk a0.f2 a0.f3 a0.f4 a0.f5 a0.f6 a0.f7 a0.f8 a0.f9) a1)
def o36_1 (a0:K_C) (a1:Int):List K_R:=
  (o35_1 (K_B.mk a0.f2 a0.f3 a0.f4 a0.f5 a0.f6 a0.f7 a0.f8 a0.f9) a1)
def o36_2 (a0:K_C) (a1:Int):List K_si:=
  (o35_2 (K_B.mk a0.f2 a0.f3 a0.f4 a0.f5 a0.f6 a0.f7 a0.f8 a0.f9) a1)
def m36 (a0:K_C) (a1:Int):Int:=
  (m35 (K_B.mk a0.f2 a0.f3 a0.f4 a0.f5 a0.f6 a0.f7 a0.f8 a0.f9) a1)
theorem e36 {a0:K_C} {a1:Int} (hy0:length a0.f4*24≤140737488351232) (hy1:length a0.f5*56≤140737488351232) (hy2:∀z∈a0.f5,ok_R z) (hy3:length a0.f6*24≤140737488351232):Ev F X (.call 36 [(.agg [(.val (.int .i64 a0.f0)),(.val (.int .i64 a0.f1)),(.val (.int .i64 a0.f2)),(.val (.int .i64 a0.f3)),(.ref ⟨(0,0,0),[],0,(length (map d_si a0.f4))⟩),(.ref ⟨(0,1,0),[],0,(length (map d_R a0.f5))⟩),(.ref ⟨(0,2,0),[],0,(length (map d_si a0.f6))⟩),(.val (.int .i64 a0.f7)),(.val (.int .i64 a0.f8)),(.val (.int .i64 a0.f9))]),(.one (.val (.int .i64 a1)))] [((0,2,0),⟨2,(map d_si a0.f6),[]⟩),((0,1,0),⟨5,(map d_R a0.f5),[]⟩),((0,0,0),⟨2,(map d_si a0.f4),[]⟩)] [(map d_si (o36_0 a0 a1)),(map d_R (o36_1 a0 a1)),(map d_si (o36_2 a0 a1))] [(.one (.val (.int .i64 (m36 a0 a1))))]):=by
  have f0:0=0:=rfl
  have f1:(length (map d_si a0.f4))=(length (map d_si a0.f4)):=rfl
  have f2:0=0:=rfl
  have f3:(length (map d_R a0.f5))=(length (map d_R a0.f5)):=rfl
  have f4:0=0:=rfl
  have f5:(length (map d_si a0.f6))=(length (map d_si a0.f6)):=rfl
  have f6:pureR (map d_si a0.f4)=true:=(pureR_si _)
  have f7:pureR (map d_R a0.f5)=true:=(pureR_R _)
  have f8:pureR (map d_si a0.f6)=true:=(pureR_si _)
  have f9:Ev F X (.call 35 [(.agg [(.i a0.f2),(.i a0.f3),(.ref ⟨(0,0,0),[],0,(length (map d_si a0.f4))⟩),(.ref ⟨(0,1,0),[],0,(length (map d_R a0.f5))⟩),(.ref ⟨(0,2,0),[],0,(length (map d_si a0.f6))⟩),(.i a0.f7),(.i a0.f8),(.i a0.f9)]),(.oi a1)] [((0,2,0),⟨2,(map d_si a0.f6),[]⟩),((0,1,0),⟨5,(map d_R a0.f5),[]⟩),((0,0,0),⟨2,(map d_si a0.f4),[]⟩)] [(map d_si (o35_0 (K_B.mk a0.f2 a0.f3 a0.f4 a0.f5 a0.f6 a0.f7 a0.f8 a0.f9) a1)),(map d_R (o35_1 (K_B.mk a0.f2 a0.f3 a0.f4 a0.f5 a0.f6 a0.f7 a0.f8 a0.f9) a1)),(map d_si (o35_2 (K_B.mk a0.f2 a0.f3 a0.f4 a0.f5 a0.f6 a0.f7 a0.f8 a0.f9) a1))] [(.oi (m35 (K_B.mk a0.f2 a0.f3 a0.f4 a0.f5 a0.f6 a0.f7 a0.f8 a0.f9) a1))]):=(e35 (a0:=(K_B.mk a0.f2 a0.f3 a0.f4 a0.f5 a0.f6 a0.f7 a0.f8 a0.f9)) (a1:=a1) (by with_reducible assumption) (by with_reducible assumption) (by with_reducible assumption) (by with_reducible assumption))
  have f10:pureR (map d_si (o35_0 (K_B.mk a0.f2 a0.f3 a0.f4 a0.f5 a0.f6 a0.f7 a0.f8 a0.f9) a1))=true:=(pureR_si _)
  have f11:pureR (map d_R (o35_1 (K_B.mk a0.f2 a0.f3 a0.f4 a0.f5 a0.f6 a0.f7 a0.f8 a0.f9) a1))=true:=(pureR_R _)
  have f12:pureR (map d_si (o35_2 (K_B.mk a0.f2 a0.f3 a0.f4 a0.f5 a0.f6 a0.f7 a0.f8 a0.f9) a1))=true:=(pureR_si _)
  exact callP_ok (ps:=[true,true,true]) (os:=[(map d_si (o35_0 (K_B.mk a0.f2 a0.f3 a0.f4 a0.f5 a0.f6 a0.f7 a0.f8 a0.f9) a1)),(map d_R (o35_1 (K_B.mk a0.f2 a0.f3 a0.f4 a0.f5 a0.f6 a0.f7 a0.f8 a0.f9) a1)),(map d_si (o35_2 (K_B.mk a0.f2 a0.f3 a0.f4 a0.f5 a0.f6 a0.f7 a0.f8 a0.f9) a1))]) (rs:=[(.oi (m35 (K_B.mk a0.f2 a0.f3 a0.f4 a0.f5 a0.f6 a0.f7 a0.f8 a0.f9) a1))]) (by kernel_rfl) (.f f0 (.f f1 (.f f2 (.f f3 (.f f4 (.f f5 (.f f6 (.f f7 (.f f8 (.r 11 [true,true,true] [] f9 (.f f10 (.f f11 (.f f12 .nil)))))))))))))
theorem ol36_0 (a:K_C) (k:Int):(o36_0 a k).length=length a.f6:=by
  unfold o36_0
  simp[ol35_0,ol35_1,ol35_2]
theorem ol36_1 (a:K_C) (k:Int):(o36_1 a k).length=length a.f5:=by
  unfold o36_1
  simp[ol35_0,ol35_1,ol35_2]
theorem oo36_1 (a:K_C) (k:Int) (h:∀z∈a.f5,ok_R z):∀z∈o36_1 a k,ok_R z:=by
  unfold o36_1
  first | exact oo35_1 _ _ h | exact h
theorem ol36_2 (a:K_C) (k:Int):(o36_2 a k).length=length a.f4:=by
  unfold o36_2
  simp[ol35_0,ol35_1,ol35_2]
/-! loop 133_0 -/
inductive O133_0 where
  |k0 (w0:Int) (w1:Int) (w2:Bool)
  |k1
def r133_0 (a0:(List K_si)):List K_si→Int→Int→O133_0
  |x0::y0,i,v0=>
    if(!(x0.f0.toList==(m132 v0).toList))=true then(O133_0.k1) else
    if(x0.f1 !=(IntKind.wrap .i64 (v0+1)))=true then(O133_0.k1) else
      (r133_0 a0 y0 (i+1) (IntKind.wrap .i64 ((IntKind.wrap .i64 (v0+1))+1)))
  |[],i,v0=>(O133_0.k0 v0 i (decide (i <((length (map b_si a0)):Int))))
def h133_0 (l0_0:Nat) (a0:(List K_si)) (a1:Int) (i:Int) (v0:Int):St:=⟨[(0,(.one (.bor l0_0 (map b_si a0)))),(1,(.one (.val (.int .i64 v0)))),(5,(.one (.val (.int .i64 i))))],[]⟩
def ex133_0:O133_0→VX.Exit
  |.k0 _ _ _=>(.exit 0)
  |.k1=>.ret
def fin133_0 (l0_0:Nat) (a0:(List K_si)) (a1:Int):O133_0→St
  |.k0 w0 w1 w2=>⟨[(0,(.one (.bor l0_0 (map b_si a0)))),(1,(.one (.val (.int .i64 w0)))),(5,(.one (.val (.int .i64 w1)))),(9,(.one (.val (.bool w2))))],[]⟩
  |.k1=>⟨[(4,(.one (.val (.int .i64 (-1)))))],[]⟩
theorem t133_0 {l0_0:Nat} {a0:(List K_si)} {a1:Int} (hy0:length a0*24≤140737488351232):∀(y0:List K_si) (p:List K_si) (v0:Int),p++y0=a0→Ev F X (.code l133_0 (h133_0 l0_0 a0 a1 (length p:Int) v0) (ex133_0 (r133_0 a0 y0 (length p:Int) v0)) (fin133_0 l0_0 a0 a1 (r133_0 a0 y0 (length p:Int) v0)))
  |[],p,v0,hp0=>by
    have hc:¬(decide ((length p:Int) <((length (map b_si a0)):Int)))=true:=by
      rw[← hp0]; simp only[length_map,length_set,length_append,length_replicate,length_cons,length_nil,decide_eq_true_eq]; omega
    have st:=codeH_ok (F:=F) (X:=X) (c:=b133_0) (t:=0) (hs:=[(8,.b false)]) (σ:=h133_0 l0_0 a0 a1 (length p:Int) v0) (σ':=fin133_0 l0_0 a0 a1 (.k0 v0 (length p:Int) (decide ((length p:Int) <((length (map b_si a0)):Int))))) (e:=(.exit 0)) (t':=9) (hs':=[]) (q:=[(decide ((length p:Int) <((length (map b_si a0)):Int)))=false]) (by kernel_rfl) ⟨(nt hc),trivial⟩
    exact .loopX st (show ((.exit 0):VX.Exit)≠.normal from by simp)
  |x0::y0,p,v0,hp0=>by
    have hc:(decide ((length p:Int) <((length (map b_si a0)):Int)))=true:=by
      rw[← hp0]; simp only[length_map,length_set,length_append,length_replicate,length_cons,length_nil,decide_eq_true_eq]; omega
    have Hx0:(a0)[Int.toNat (length p:Int)]?=some x0:=by
      rw[← hp0,Int.toNat_natCast]; simp
    have hlen:length (a0)=length p+length y0+1:=by rw[← hp0]; simp; omega
    have hw:IntKind.wrap .i64 ((length p:Int)+1)=(length p:Int)+1:=wrap64 (by omega)
    simp only[r133_0]
    by_cases h_1:(!(x0.f0.toList==(m132 v0).toList))=true
    · try simp only[if_pos h_1]
      have st:=codeH_ok (F:=F) (X:=X) (c:=b133_0) (t:=0) (hs:=[(8,.b true),(14,.row [(.val (.string x0.f0)),(.i x0.f1)]),(22,.ret [] [(.one (.val (.string (m132 v0))))] [] []),(25,.b true)]) (σ:=h133_0 l0_0 a0 a1 (length p:Int) v0) (σ':=fin133_0 l0_0 a0 a1 (.k1)) (e:=.ret) (t':=28) (hs':=[]) (q:=[(decide ((length p:Int) <((length (map b_si a0)):Int)))=true,0≤(length p:Int),(map b_si a0)[(Int.toNat (length p:Int))]?=some [(.val (.string x0.f0)),(.i x0.f1)],Ev F X (.call 132 [(.oi v0)] [] [] [(.one (.val (.string (m132 v0))))]),(!(x0.f0.toList==(m132 v0).toList))=true]) (by kernel_rfl) ⟨hc,(by omega),(by rw[getElem?_map,Hx0]; rfl),(e132 (a0:=v0)),h_1,trivial⟩
      exact .loopX st (show (.ret:VX.Exit)≠.normal from by simp)
    · try simp only[if_neg h_1]
      by_cases h_2:(x0.f1 !=(IntKind.wrap .i64 (v0+1)))=true
      · try simp only[if_pos h_2]
        have st:=codeH_ok (F:=F) (X:=X) (c:=b133_0) (t:=0) (hs:=[(8,.b true),(14,.row [(.val (.string x0.f0)),(.i x0.f1)]),(22,.ret [] [(.one (.val (.string (m132 v0))))] [] []),(25,.b false),(37,.row [(.val (.string x0.f0)),(.i x0.f1)]),(46,.b true)]) (σ:=h133_0 l0_0 a0 a1 (length p:Int) v0) (σ':=fin133_0 l0_0 a0 a1 (.k1)) (e:=.ret) (t':=49) (hs':=[]) (q:=[(decide ((length p:Int) <((length (map b_si a0)):Int)))=true,0≤(length p:Int),(map b_si a0)[(Int.toNat (length p:Int))]?=some [(.val (.string x0.f0)),(.i x0.f1)],Ev F X (.call 132 [(.oi v0)] [] [] [(.one (.val (.string (m132 v0))))]),(!(x0.f0.toList==(m132 v0).toList))=false,True,0≤(length p:Int),(map b_si a0)[(Int.toNat (length p:Int))]?=some [(.val (.string x0.f0)),(.i x0.f1)],(x0.f1 !=(IntKind.wrap .i64 (v0+1)))=true]) (by kernel_rfl) ⟨hc,(by omega),(by rw[getElem?_map,Hx0]; rfl),(e132 (a0:=v0)),(nt h_1),trivial,(by omega),(by rw[getElem?_map,Hx0]; rfl),h_2,trivial⟩
        exact .loopX st (show (.ret:VX.Exit)≠.normal from by simp)
      · try simp only[if_neg h_2]
        have st:=codeH_ok (F:=F) (X:=X) (c:=b133_0) (t:=0) (hs:=[(8,.b true),(14,.row [(.val (.string x0.f0)),(.i x0.f1)]),(22,.ret [] [(.one (.val (.string (m132 v0))))] [] []),(25,.b false),(37,.row [(.val (.string x0.f0)),(.i x0.f1)]),(46,.b false)]) (σ:=h133_0 l0_0 a0 a1 (length p:Int) v0) (σ':=⟨[(0,(.one (.bor l0_0 (map b_si a0)))),(1,(.oi (IntKind.wrap .i64 ((IntKind.wrap .i64 (v0+1))+1)))),(5,(.oi (IntKind.wrap .i64 ((length p:Int)+1))))],[]⟩) (e:=.normal) (t':=59) (hs':=[]) (q:=[(decide ((length p:Int) <((length (map b_si a0)):Int)))=true,0≤(length p:Int),(map b_si a0)[(Int.toNat (length p:Int))]?=some [(.val (.string x0.f0)),(.i x0.f1)],Ev F X (.call 132 [(.oi v0)] [] [] [(.one (.val (.string (m132 v0))))]),(!(x0.f0.toList==(m132 v0).toList))=false,True,0≤(length p:Int),(map b_si a0)[(Int.toNat (length p:Int))]?=some [(.val (.string x0.f0)),(.i x0.f1)],(x0.f1 !=(IntKind.wrap .i64 (v0+1)))=false,True,True]) (by kernel_rfl) ⟨hc,(by omega),(by rw[getElem?_map,Hx0]; rfl),(e132 (a0:=v0)),(nt h_1),trivial,(by omega),(by rw[getElem?_map,Hx0]; rfl),(nt h_2),trivial,trivial,trivial⟩
        have ih:=t133_0 (l0_0:=l0_0) (a0:=a0) (a1:=a1) hy0 y0 (p++ [x0]) (IntKind.wrap .i64 ((IntKind.wrap .i64 (v0+1))+1)) (by rw[append_assoc]; exact hp0)
        rw[show ((p++ [x0]).length:Int)=(p.length:Int)+1 from by simp] at ih
        rw[show (⟨[(0,(.one (.bor l0_0 (map b_si a0)))),(1,(.oi (IntKind.wrap .i64 ((IntKind.wrap .i64 (v0+1))+1)))),(5,(.oi (IntKind.wrap .i64 ((length p:Int)+1))))],[]⟩:St)=h133_0 l0_0 a0 a1 ((length p:Int)+1) (IntKind.wrap .i64 ((IntKind.wrap .i64 (v0+1))+1)) from(by unfold h133_0; simp only[hw]; done)] at st
        exact .loopN st ih
/-! loop.example/g00539/laws.heldWeightS -/
def m133 (a0:(List K_si)) (a1:Int):Int:=
  (match r133_0 a0 a0 0 a1 with | .k0 w0_0 w1_0 w2_0=>w0_0 | .k1=>(-1))
theorem e133 {l0_0:Nat} {a0:(List K_si)} {a1:Int} (hy0:length a0*24≤140737488351232):Ev F X (.call 133 [(.one (.bor l0_0 (map b_si a0))),(.one (.val (.int .i64 a1)))] [] [] [(.one (.val (.int .i64 (m133 a0 a1))))]):=by
  unfold m133
  cases h0:r133_0 a0 a0 0 a1 with
  |k0 w0_0 w1_0 w2_0=>
    try dsimp only
    have f0:(⟨[(0,(.one (.bor l0_0 (map b_si a0)))),(1,(.oi a1)),(5,(.oi 0))],[]⟩:St)=h133_0 l0_0 a0 a1 0 a1:=(by rfl)
    have f1:Ev F X (.code l133_0 (h133_0 l0_0 a0 a1 0 a1) (.exit 0) ⟨[(0,(.one (.bor l0_0 (map b_si a0)))),(1,(.oi w0_0)),(5,(.oi w1_0)),(9,(.one (.val (.bool w2_0))))],[]⟩):=(by have t:Ev F X (.code l133_0 (h133_0 l0_0 a0 a1 0 a1) (ex133_0 (r133_0 a0 a0 0 a1)) (fin133_0 l0_0 a0 a1 (r133_0 a0 a0 0 a1))):=t133_0 (l0_0:=l0_0) (a0:=a0) (a1:=a1) (by assumption) a0 [] a1 rfl; rw[h0] at t; exact t)
    exact callP_ok (ps:=[]) (os:=[]) (rs:=[(.oi w0_0)]) (by kernel_rfl) (.f f0 (.f f1 (.h 4 (.loop (h133_0 l0_0 a0 a1 0 a1) (.exit 0) ⟨[(0,(.one (.bor l0_0 (map b_si a0)))),(1,(.oi w0_0)),(5,(.oi w1_0)),(9,(.one (.val (.bool w2_0))))],[]⟩) .nil)))
  |k1=>
    try dsimp only
    have f0:(⟨[(0,(.one (.bor l0_0 (map b_si a0)))),(1,(.oi a1)),(5,(.oi 0))],[]⟩:St)=h133_0 l0_0 a0 a1 0 a1:=(by rfl)
    have f1:Ev F X (.code l133_0 (h133_0 l0_0 a0 a1 0 a1) .ret ⟨[(4,(.oi (-1)))],[]⟩):=(by have t:Ev F X (.code l133_0 (h133_0 l0_0 a0 a1 0 a1) (ex133_0 (r133_0 a0 a0 0 a1)) (fin133_0 l0_0 a0 a1 (r133_0 a0 a0 0 a1))):=t133_0 (l0_0:=l0_0) (a0:=a0) (a1:=a1) (by assumption) a0 [] a1 rfl; rw[h0] at t; exact t)
    exact callP_ok (ps:=[]) (os:=[]) (rs:=[(.oi (-1))]) (by kernel_rfl) (.f f0 (.f f1 (.h 4 (.loop (h133_0 l0_0 a0 a1 0 a1) .ret ⟨[(4,(.oi (-1)))],[]⟩) .nil)))
/-! loop 134_0 -/
inductive O134_0 where
  |k0 (w0:Int) (w1:Int) (w2:Bool)
  |k1
def r134_0 (a0:(List K_R)):List K_R→Int→Int→O134_0
  |x0::y0,i,v0=>
    if(x0.f0 !=v0)=true then(O134_0.k1) else
    if(x0.f1 !=(IntKind.wrap .i64 (v0+1)))=true then(O134_0.k1) else
      if(x0.f2 !=(IntKind.wrap .i64 ((IntKind.wrap .i64 (v0+1))+1)))=true then(O134_0.k1) else
        if(decide ((m133 x0.f3 (IntKind.wrap .i64 ((IntKind.wrap .i64 ((IntKind.wrap .i64 (v0+1))+1))+1))) < 0))=true then(O134_0.k1) else
          if(x0.f4 !=(m133 x0.f3 (IntKind.wrap .i64 ((IntKind.wrap .i64 ((IntKind.wrap .i64 (v0+1))+1))+1))))=true then(O134_0.k1) else
            (r134_0 a0 y0 (i+1) (IntKind.wrap .i64 ((m133 x0.f3 (IntKind.wrap .i64 ((IntKind.wrap .i64 ((IntKind.wrap .i64 (v0+1))+1))+1)))+1)))
  |[],i,v0=>(O134_0.k0 v0 i (decide (i <((length (map b_R a0)):Int))))
def h134_0 (l0_0:Nat) (a0:(List K_R)) (a1:Int) (i:Int) (v0:Int):St:=⟨[(0,(.one (.bor l0_0 (map b_R a0)))),(1,(.one (.val (.int .i64 v0)))),(5,(.one (.val (.int .i64 i))))],[]⟩
def ex134_0:O134_0→VX.Exit
  |.k0 _ _ _=>(.exit 0)
  |.k1=>.ret
def fin134_0 (l0_0:Nat) (a0:(List K_R)) (a1:Int):O134_0→St
  |.k0 w0 w1 w2=>⟨[(0,(.one (.bor l0_0 (map b_R a0)))),(1,(.one (.val (.int .i64 w0)))),(5,(.one (.val (.int .i64 w1)))),(9,(.one (.val (.bool w2))))],[]⟩
  |.k1=>⟨[(4,(.one (.val (.int .i64 (-1)))))],[]⟩
theorem t134_0 {l0_0:Nat} {a0:(List K_R)} {a1:Int} (hy0:length a0*56≤140737488351232) (hy1:∀z∈a0,ok_R z):∀(y0:List K_R) (p:List K_R) (v0:Int),p++y0=a0→Ev F X (.code l134_0 (h134_0 l0_0 a0 a1 (length p:Int) v0) (ex134_0 (r134_0 a0 y0 (length p:Int) v0)) (fin134_0 l0_0 a0 a1 (r134_0 a0 y0 (length p:Int) v0)))
  |[],p,v0,hp0=>by
    have hc:¬(decide ((length p:Int) <((length (map b_R a0)):Int)))=true:=by
      rw[← hp0]; simp only[length_map,length_set,length_append,length_replicate,length_cons,length_nil,decide_eq_true_eq]; omega
    have st:=codeH_ok (F:=F) (X:=X) (c:=b134_0) (t:=0) (hs:=[(8,.b false)]) (σ:=h134_0 l0_0 a0 a1 (length p:Int) v0) (σ':=fin134_0 l0_0 a0 a1 (.k0 v0 (length p:Int) (decide ((length p:Int) <((length (map b_R a0)):Int))))) (e:=(.exit 0)) (t':=9) (hs':=[]) (q:=[(decide ((length p:Int) <((length (map b_R a0)):Int)))=false]) (by kernel_rfl) ⟨(nt hc),trivial⟩
    exact .loopX st (show ((.exit 0):VX.Exit)≠.normal from by simp)
  |x0::y0,p,v0,hp0=>by
    have hc:(decide ((length p:Int) <((length (map b_R a0)):Int)))=true:=by
      rw[← hp0]; simp only[length_map,length_set,length_append,length_replicate,length_cons,length_nil,decide_eq_true_eq]; omega
    have Hx0:(a0)[Int.toNat (length p:Int)]?=some x0:=by
      rw[← hp0,Int.toNat_natCast]; simp
    have Mx0_0:=hy1 x0 (List.mem_of_getElem? Hx0)
    have hlen:length (a0)=length p+length y0+1:=by rw[← hp0]; simp; omega
    have hw:IntKind.wrap .i64 ((length p:Int)+1)=(length p:Int)+1:=wrap64 (by omega)
    simp only[r134_0]
    by_cases h_1:(x0.f0 !=v0)=true
    · try simp only[if_pos h_1]
      have st:=codeH_ok (F:=F) (X:=X) (c:=b134_0) (t:=0) (hs:=[(8,.b true),(14,.row [(.i x0.f0),(.i x0.f1),(.i x0.f2),(.sl (map b_si x0.f3)),(.i x0.f4)]),(23,.b true)]) (σ:=h134_0 l0_0 a0 a1 (length p:Int) v0) (σ':=fin134_0 l0_0 a0 a1 (.k1)) (e:=.ret) (t':=26) (hs':=[]) (q:=[(decide ((length p:Int) <((length (map b_R a0)):Int)))=true,0≤(length p:Int),(map b_R a0)[(Int.toNat (length p:Int))]?=some [(.i x0.f0),(.i x0.f1),(.i x0.f2),(.sl (map b_si x0.f3)),(.i x0.f4)],(x0.f0 !=v0)=true]) (by kernel_rfl) ⟨hc,(by omega),(by rw[getElem?_map,Hx0]; rfl),h_1,trivial⟩
      exact .loopX st (show (.ret:VX.Exit)≠.normal from by simp)
    · try simp only[if_neg h_1]
      by_cases h_2:(x0.f1 !=(IntKind.wrap .i64 (v0+1)))=true
      · try simp only[if_pos h_2]
        have st:=codeH_ok (F:=F) (X:=X) (c:=b134_0) (t:=0) (hs:=[(8,.b true),(14,.row [(.i x0.f0),(.i x0.f1),(.i x0.f2),(.sl (map b_si x0.f3)),(.i x0.f4)]),(23,.b false),(35,.row [(.i x0.f0),(.i x0.f1),(.i x0.f2),(.sl (map b_si x0.f3)),(.i x0.f4)]),(44,.b true)]) (σ:=h134_0 l0_0 a0 a1 (length p:Int) v0) (σ':=fin134_0 l0_0 a0 a1 (.k1)) (e:=.ret) (t':=47) (hs':=[]) (q:=[(decide ((length p:Int) <((length (map b_R a0)):Int)))=true,0≤(length p:Int),(map b_R a0)[(Int.toNat (length p:Int))]?=some [(.i x0.f0),(.i x0.f1),(.i x0.f2),(.sl (map b_si x0.f3)),(.i x0.f4)],(x0.f0 !=v0)=false,True,0≤(length p:Int),(map b_R a0)[(Int.toNat (length p:Int))]?=some [(.i x0.f0),(.i x0.f1),(.i x0.f2),(.sl (map b_si x0.f3)),(.i x0.f4)],(x0.f1 !=(IntKind.wrap .i64 (v0+1)))=true]) (by kernel_rfl) ⟨hc,(by omega),(by rw[getElem?_map,Hx0]; rfl),(nt h_1),trivial,(by omega),(by rw[getElem?_map,Hx0]; rfl),h_2,trivial⟩
        exact .loopX st (show (.ret:VX.Exit)≠.normal from by simp)
      · try simp only[if_neg h_2]
        by_cases h_3:(x0.f2 !=(IntKind.wrap .i64 ((IntKind.wrap .i64 (v0+1))+1)))=true
        · try simp only[if_pos h_3]
          have st:=codeH_ok (F:=F) (X:=X) (c:=b134_0) (t:=0) (hs:=[(8,.b true),(14,.row [(.i x0.f0),(.i x0.f1),(.i x0.f2),(.sl (map b_si x0.f3)),(.i x0.f4)]),(23,.b false),(35,.row [(.i x0.f0),(.i x0.f1),(.i x0.f2),(.sl (map b_si x0.f3)),(.i x0.f4)]),(44,.b false),(56,.row [(.i x0.f0),(.i x0.f1),(.i x0.f2),(.sl (map b_si x0.f3)),(.i x0.f4)]),(65,.b true)]) (σ:=h134_0 l0_0 a0 a1 (length p:Int) v0) (σ':=fin134_0 l0_0 a0 a1 (.k1)) (e:=.ret) (t':=68) (hs':=[]) (q:=[(decide ((length p:Int) <((length (map b_R a0)):Int)))=true,0≤(length p:Int),(map b_R a0)[(Int.toNat (length p:Int))]?=some [(.i x0.f0),(.i x0.f1),(.i x0.f2),(.sl (map b_si x0.f3)),(.i x0.f4)],(x0.f0 !=v0)=false,True,0≤(length p:Int),(map b_R a0)[(Int.toNat (length p:Int))]?=some [(.i x0.f0),(.i x0.f1),(.i x0.f2),(.sl (map b_si x0.f3)),(.i x0.f4)],(x0.f1 !=(IntKind.wrap .i64 (v0+1)))=false,True,0≤(length p:Int),(map b_R a0)[(Int.toNat (length p:Int))]?=some [(.i x0.f0),(.i x0.f1),(.i x0.f2),(.sl (map b_si x0.f3)),(.i x0.f4)],(x0.f2 !=(IntKind.wrap .i64 ((IntKind.wrap .i64 (v0+1))+1)))=true]) (by kernel_rfl) ⟨hc,(by omega),(by rw[getElem?_map,Hx0]; rfl),(nt h_1),trivial,(by omega),(by rw[getElem?_map,Hx0]; rfl),(nt h_2),trivial,(by omega),(by rw[getElem?_map,Hx0]; rfl),h_3,trivial⟩
          exact .loopX st (show (.ret:VX.Exit)≠.normal from by simp)
        · try simp only[if_neg h_3]
          by_cases h_4:(decide ((m133 x0.f3 (IntKind.wrap .i64 ((IntKind.wrap .i64 ((IntKind.wrap .i64 (v0+1))+1))+1))) < 0))=true
          · try simp only[if_pos h_4]
            have st:=codeH_ok (F:=F) (X:=X) (c:=b134_0) (t:=0) (hs:=[(8,.b true),(14,.row [(.i x0.f0),(.i x0.f1),(.i x0.f2),(.sl (map b_si x0.f3)),(.i x0.f4)]),(23,.b false),(35,.row [(.i x0.f0),(.i x0.f1),(.i x0.f2),(.sl (map b_si x0.f3)),(.i x0.f4)]),(44,.b false),(56,.row [(.i x0.f0),(.i x0.f1),(.i x0.f2),(.sl (map b_si x0.f3)),(.i x0.f4)]),(65,.b false),(77,.row [(.i x0.f0),(.i x0.f1),(.i x0.f2),(.sl (map b_si x0.f3)),(.i x0.f4)]),(85,.ret [] [(.oi (m133 x0.f3 (IntKind.wrap .i64 ((IntKind.wrap .i64 ((IntKind.wrap .i64 (v0+1))+1))+1))))] [] []),(92,.b true)]) (σ:=h134_0 l0_0 a0 a1 (length p:Int) v0) (σ':=fin134_0 l0_0 a0 a1 (.k1)) (e:=.ret) (t':=95) (hs':=[]) (q:=[(decide ((length p:Int) <((length (map b_R a0)):Int)))=true,0≤(length p:Int),(map b_R a0)[(Int.toNat (length p:Int))]?=some [(.i x0.f0),(.i x0.f1),(.i x0.f2),(.sl (map b_si x0.f3)),(.i x0.f4)],(x0.f0 !=v0)=false,True,0≤(length p:Int),(map b_R a0)[(Int.toNat (length p:Int))]?=some [(.i x0.f0),(.i x0.f1),(.i x0.f2),(.sl (map b_si x0.f3)),(.i x0.f4)],(x0.f1 !=(IntKind.wrap .i64 (v0+1)))=false,True,0≤(length p:Int),(map b_R a0)[(Int.toNat (length p:Int))]?=some [(.i x0.f0),(.i x0.f1),(.i x0.f2),(.sl (map b_si x0.f3)),(.i x0.f4)],(x0.f2 !=(IntKind.wrap .i64 ((IntKind.wrap .i64 (v0+1))+1)))=false,True,0≤(length p:Int),(map b_R a0)[(Int.toNat (length p:Int))]?=some [(.i x0.f0),(.i x0.f1),(.i x0.f2),(.sl (map b_si x0.f3)),(.i x0.f4)],Ev F X (.call 133 [(.one (.bor (l0_0+1) (map b_si x0.f3))),(.oi (IntKind.wrap .i64 ((IntKind.wrap .i64 ((IntKind.wrap .i64 (v0+1))+1))+1)))] [] [] [(.oi (m133 x0.f3 (IntKind.wrap .i64 ((IntKind.wrap .i64 ((IntKind.wrap .i64 (v0+1))+1))+1))))]),(decide ((m133 x0.f3 (IntKind.wrap .i64 ((IntKind.wrap .i64 ((IntKind.wrap .i64 (v0+1))+1))+1))) < 0))=true]) (by kernel_rfl) ⟨hc,(by omega),(by rw[getElem?_map,Hx0]; rfl),(nt h_1),trivial,(by omega),(by rw[getElem?_map,Hx0]; rfl),(nt h_2),trivial,(by omega),(by rw[getElem?_map,Hx0]; rfl),(nt h_3),trivial,(by omega),(by rw[getElem?_map,Hx0]; rfl),(e133 (a0:=x0.f3) (a1:=(IntKind.wrap .i64 ((IntKind.wrap .i64 ((IntKind.wrap .i64 (v0+1))+1))+1))) (by assumption)),h_4,trivial⟩
            exact .loopX st (show (.ret:VX.Exit)≠.normal from by simp)
          · try simp only[if_neg h_4]
            by_cases h_5:(x0.f4 !=(m133 x0.f3 (IntKind.wrap .i64 ((IntKind.wrap .i64 ((IntKind.wrap .i64 (v0+1))+1))+1))))=true
            · try simp only[if_pos h_5]
              have st:=codeH_ok (F:=F) (X:=X) (c:=b134_0) (t:=0) (hs:=[(8,.b true),(14,.row [(.i x0.f0),(.i x0.f1),(.i x0.f2),(.sl (map b_si x0.f3)),(.i x0.f4)]),(23,.b false),(35,.row [(.i x0.f0),(.i x0.f1),(.i x0.f2),(.sl (map b_si x0.f3)),(.i x0.f4)]),(44,.b false),(56,.row [(.i x0.f0),(.i x0.f1),(.i x0.f2),(.sl (map b_si x0.f3)),(.i x0.f4)]),(65,.b false),(77,.row [(.i x0.f0),(.i x0.f1),(.i x0.f2),(.sl (map b_si x0.f3)),(.i x0.f4)]),(85,.ret [] [(.oi (m133 x0.f3 (IntKind.wrap .i64 ((IntKind.wrap .i64 ((IntKind.wrap .i64 (v0+1))+1))+1))))] [] []),(92,.b false),(98,.row [(.i x0.f0),(.i x0.f1),(.i x0.f2),(.sl (map b_si x0.f3)),(.i x0.f4)]),(107,.b true)]) (σ:=h134_0 l0_0 a0 a1 (length p:Int) v0) (σ':=fin134_0 l0_0 a0 a1 (.k1)) (e:=.ret) (t':=110) (hs':=[]) (q:=[(decide ((length p:Int) <((length (map b_R a0)):Int)))=true,0≤(length p:Int),(map b_R a0)[(Int.toNat (length p:Int))]?=some [(.i x0.f0),(.i x0.f1),(.i x0.f2),(.sl (map b_si x0.f3)),(.i x0.f4)],(x0.f0 !=v0)=false,True,0≤(length p:Int),(map b_R a0)[(Int.toNat (length p:Int))]?=some [(.i x0.f0),(.i x0.f1),(.i x0.f2),(.sl (map b_si x0.f3)),(.i x0.f4)],(x0.f1 !=(IntKind.wrap .i64 (v0+1)))=false,True,0≤(length p:Int),(map b_R a0)[(Int.toNat (length p:Int))]?=some [(.i x0.f0),(.i x0.f1),(.i x0.f2),(.sl (map b_si x0.f3)),(.i x0.f4)],(x0.f2 !=(IntKind.wrap .i64 ((IntKind.wrap .i64 (v0+1))+1)))=false,True,0≤(length p:Int),(map b_R a0)[(Int.toNat (length p:Int))]?=some [(.i x0.f0),(.i x0.f1),(.i x0.f2),(.sl (map b_si x0.f3)),(.i x0.f4)],Ev F X (.call 133 [(.one (.bor (l0_0+1) (map b_si x0.f3))),(.oi (IntKind.wrap .i64 ((IntKind.wrap .i64 ((IntKind.wrap .i64 (v0+1))+1))+1)))] [] [] [(.oi (m133 x0.f3 (IntKind.wrap .i64 ((IntKind.wrap .i64 ((IntKind.wrap .i64 (v0+1))+1))+1))))]),(decide ((m133 x0.f3 (IntKind.wrap .i64 ((IntKind.wrap .i64 ((IntKind.wrap .i64 (v0+1))+1))+1))) < 0))=false,0≤(length p:Int),(map b_R a0)[(Int.toNat (length p:Int))]?=some [(.i x0.f0),(.i x0.f1),(.i x0.f2),(.sl (map b_si x0.f3)),(.i x0.f4)],(x0.f4 !=(m133 x0.f3 (IntKind.wrap .i64 ((IntKind.wrap .i64 ((IntKind.wrap .i64 (v0+1))+1))+1))))=true]) (by kernel_rfl) ⟨hc,(by omega),(by rw[getElem?_map,Hx0]; rfl),(nt h_1),trivial,(by omega),(by rw[getElem?_map,Hx0]; rfl),(nt h_2),trivial,(by omega),(by rw[getElem?_map,Hx0]; rfl),(nt h_3),trivial,(by omega),(by rw[getElem?_map,Hx0]; rfl),(e133 (a0:=x0.f3) (a1:=(IntKind.wrap .i64 ((IntKind.wrap .i64 ((IntKind.wrap .i64 (v0+1))+1))+1))) (by assumption)),(nt h_4),(by omega),(by rw[getElem?_map,Hx0]; rfl),h_5,trivial⟩
              exact .loopX st (show (.ret:VX.Exit)≠.normal from by simp)
            · try simp only[if_neg h_5]
              have st:=codeH_ok (F:=F) (X:=X) (c:=b134_0) (t:=0) (hs:=[(8,.b true),(14,.row [(.i x0.f0),(.i x0.f1),(.i x0.f2),(.sl (map b_si x0.f3)),(.i x0.f4)]),(23,.b false),(35,.row [(.i x0.f0),(.i x0.f1),(.i x0.f2),(.sl (map b_si x0.f3)),(.i x0.f4)]),(44,.b false),(56,.row [(.i x0.f0),(.i x0.f1),(.i x0.f2),(.sl (map b_si x0.f3)),(.i x0.f4)]),(65,.b false),(77,.row [(.i x0.f0),(.i x0.f1),(.i x0.f2),(.sl (map b_si x0.f3)),(.i x0.f4)]),(85,.ret [] [(.oi (m133 x0.f3 (IntKind.wrap .i64 ((IntKind.wrap .i64 ((IntKind.wrap .i64 (v0+1))+1))+1))))] [] []),(92,.b false),(98,.row [(.i x0.f0),(.i x0.f1),(.i x0.f2),(.sl (map b_si x0.f3)),(.i x0.f4)]),(107,.b false)]) (σ:=h134_0 l0_0 a0 a1 (length p:Int) v0) (σ':=⟨[(0,(.one (.bor l0_0 (map b_R a0)))),(1,(.oi (IntKind.wrap .i64 ((m133 x0.f3 (IntKind.wrap .i64 ((IntKind.wrap .i64 ((IntKind.wrap .i64 (v0+1))+1))+1)))+1)))),(5,(.oi (IntKind.wrap .i64 ((length p:Int)+1))))],[]⟩) (e:=.normal) (t':=120) (hs':=[]) (q:=[(decide ((length p:Int) <((length (map b_R a0)):Int)))=true,0≤(length p:Int),(map b_R a0)[(Int.toNat (length p:Int))]?=some [(.i x0.f0),(.i x0.f1),(.i x0.f2),(.sl (map b_si x0.f3)),(.i x0.f4)],(x0.f0 !=v0)=false,True,0≤(length p:Int),(map b_R a0)[(Int.toNat (length p:Int))]?=some [(.i x0.f0),(.i x0.f1),(.i x0.f2),(.sl (map b_si x0.f3)),(.i x0.f4)],(x0.f1 !=(IntKind.wrap .i64 (v0+1)))=false,True,0≤(length p:Int),(map b_R a0)[(Int.toNat (length p:Int))]?=some [(.i x0.f0),(.i x0.f1),(.i x0.f2),(.sl (map b_si x0.f3)),(.i x0.f4)],(x0.f2 !=(IntKind.wrap .i64 ((IntKind.wrap .i64 (v0+1))+1)))=false,True,0≤(length p:Int),(map b_R a0)[(Int.toNat (length p:Int))]?=some [(.i x0.f0),(.i x0.f1),(.i x0.f2),(.sl (map b_si x0.f3)),(.i x0.f4)],Ev F X (.call 133 [(.one (.bor (l0_0+1) (map b_si x0.f3))),(.oi (IntKind.wrap .i64 ((IntKind.wrap .i64 ((IntKind.wrap .i64 (v0+1))+1))+1)))] [] [] [(.oi (m133 x0.f3 (IntKind.wrap .i64 ((IntKind.wrap .i64 ((IntKind.wrap .i64 (v0+1))+1))+1))))]),(decide ((m133 x0.f3 (IntKind.wrap .i64 ((IntKind.wrap .i64 ((IntKind.wrap .i64 (v0+1))+1))+1))) < 0))=false,0≤(length p:Int),(map b_R a0)[(Int.toNat (length p:Int))]?=some [(.i x0.f0),(.i x0.f1),(.i x0.f2),(.sl (map b_si x0.f3)),(.i x0.f4)],(x0.f4 !=(m133 x0.f3 (IntKind.wrap .i64 ((IntKind.wrap .i64 ((IntKind.wrap .i64 (v0+1))+1))+1))))=false,True,True]) (by kernel_rfl) ⟨hc,(by omega),(by rw[getElem?_map,Hx0]; rfl),(nt h_1),trivial,(by omega),(by rw[getElem?_map,Hx0]; rfl),(nt h_2),trivial,(by omega),(by rw[getElem?_map,Hx0]; rfl),(nt h_3),trivial,(by omega),(by rw[getElem?_map,Hx0]; rfl),(e133 (a0:=x0.f3) (a1:=(IntKind.wrap .i64 ((IntKind.wrap .i64 ((IntKind.wrap .i64 (v0+1))+1))+1))) (by assumption)),(nt h_4),(by omega),(by rw[getElem?_map,Hx0]; rfl),(nt h_5),trivial,trivial,trivial⟩
              have ih:=t134_0 (l0_0:=l0_0) (a0:=a0) (a1:=a1) hy0 hy1 y0 (p++ [x0]) (IntKind.wrap .i64 ((m133 x0.f3 (IntKind.wrap .i64 ((IntKind.wrap .i64 ((IntKind.wrap .i64 (v0+1))+1))+1)))+1)) (by rw[append_assoc]; exact hp0)
              rw[show ((p++ [x0]).length:Int)=(p.length:Int)+1 from by simp] at ih
              rw[show (⟨[(0,(.one (.bor l0_0 (map b_R a0)))),(1,(.oi (IntKind.wrap .i64 ((m133 x0.f3 (IntKind.wrap .i64 ((IntKind.wrap .i64 ((IntKind.wrap .i64 (v0+1))+1))+1)))+1)))),(5,(.oi (IntKind.wrap .i64 ((length p:Int)+1))))],[]⟩:St)=h134_0 l0_0 a0 a1 ((length p:Int)+1) (IntKind.wrap .i64 ((m133 x0.f3 (IntKind.wrap .i64 ((IntKind.wrap .i64 ((IntKind.wrap .i64 (v0+1))+1))+1)))+1)) from(by unfold h134_0; simp only[hw]; done)] at st
              exact .loopN st ih
/-! loop.example/g00539/laws.heldRewardS -/
def m134 (a0:(List K_R)) (a1:Int):Int:=
  (match r134_0 a0 a0 0 a1 with | .k0 w0_0 w1_0 w2_0=>w0_0 | .k1=>(-1))
theorem e134 {l0_0:Nat} {a0:(List K_R)} {a1:Int} (hy0:length a0*56≤140737488351232) (hy1:∀z∈a0,ok_R z):Ev F X (.call 134 [(.one (.bor l0_0 (map b_R a0))),(.one (.val (.int .i64 a1)))] [] [] [(.one (.val (.int .i64 (m134 a0 a1))))]):=by
  unfold m134
  cases h0:r134_0 a0 a0 0 a1 with
  |k0 w0_0 w1_0 w2_0=>
    try dsimp only
    have f0:(⟨[(0,(.one (.bor l0_0 (map b_R a0)))),(1,(.oi a1)),(5,(.oi 0))],[]⟩:St)=h134_0 l0_0 a0 a1 0 a1:=(by rfl)
    have f1:Ev F X (.code l134_0 (h134_0 l0_0 a0 a1 0 a1) (.exit 0) ⟨[(0,(.one (.bor l0_0 (map b_R a0)))),(1,(.oi w0_0)),(5,(.oi w1_0)),(9,(.one (.val (.bool w2_0))))],[]⟩):=(by have t:Ev F X (.code l134_0 (h134_0 l0_0 a0 a1 0 a1) (ex134_0 (r134_0 a0 a0 0 a1)) (fin134_0 l0_0 a0 a1 (r134_0 a0 a0 0 a1))):=t134_0 (l0_0:=l0_0) (a0:=a0) (a1:=a1) (by assumption) (by assumption) a0 [] a1 rfl; rw[h0] at t; exact t)
    exact callP_ok (ps:=[]) (os:=[]) (rs:=[(.oi w0_0)]) (by kernel_rfl) (.f f0 (.f f1 (.h 4 (.loop (h134_0 l0_0 a0 a1 0 a1) (.exit 0) ⟨[(0,(.one (.bor l0_0 (map b_R a0)))),(1,(.oi w0_0)),(5,(.oi w1_0)),(9,(.one (.val (.bool w2_0))))],[]⟩) .nil)))
  |k1=>
    try dsimp only
    have f0:(⟨[(0,(.one (.bor l0_0 (map b_R a0)))),(1,(.oi a1)),(5,(.oi 0))],[]⟩:St)=h134_0 l0_0 a0 a1 0 a1:=(by rfl)
    have f1:Ev F X (.code l134_0 (h134_0 l0_0 a0 a1 0 a1) .ret ⟨[(4,(.oi (-1)))],[]⟩):=(by have t:Ev F X (.code l134_0 (h134_0 l0_0 a0 a1 0 a1) (ex134_0 (r134_0 a0 a0 0 a1)) (fin134_0 l0_0 a0 a1 (r134_0 a0 a0 0 a1))):=t134_0 (l0_0:=l0_0) (a0:=a0) (a1:=a1) (by assumption) (by assumption) a0 [] a1 rfl; rw[h0] at t; exact t)
    exact callP_ok (ps:=[]) (os:=[]) (rs:=[(.oi (-1))]) (by kernel_rfl) (.f f0 (.f f1 (.h 4 (.loop (h134_0 l0_0 a0 a1 0 a1) .ret ⟨[(4,(.oi (-1)))],[]⟩) .nil)))
/-! loop.example/g00539/laws.heldLedger -/
def m88 (a0:K_B) (a1:Int):Int:=
  if(decide ((m133 a0.f2 a1) < 0))=true then(-1) else
  if(decide ((m134 a0.f3 (m133 a0.f2 a1)) < 0))=true then(-1) else
    if(decide ((m133 a0.f4 (m134 a0.f3 (m133 a0.f2 a1))) < 0))=true then(-1) else
      (m133 a0.f4 (m134 a0.f3 (m133 a0.f2 a1)))
theorem e88 {l0_2:Nat} {l0_3:Nat} {l0_4:Nat} {a0:K_B} {a1:Int} (hy0:length a0.f2*24≤140737488351232) (hy1:length a0.f3*56≤140737488351232) (hy2:∀z∈a0.f3,ok_R z) (hy3:length a0.f4*24≤140737488351232):Ev F X (.call 88 [(.agg [(.val (.int .i64 a0.f0)),(.val (.int .i64 a0.f1)),(.bor l0_2 (map b_si a0.f2)),(.bor l0_3 (map b_R a0.f3)),(.bor l0_4 (map b_si a0.f4)),(.val (.int .i64 a0.f5)),(.val (.int .i64 a0.f6)),(.val (.int .i64 a0.f7))]),(.one (.val (.int .i64 a1)))] [] [] [(.one (.val (.int .i64 (m88 a0 a1))))]):=by
  unfold m88
  have f0:Ev F X (.call 133 [(.one (.bor (l0_2+1) (map b_si a0.f2))),(.oi a1)] [] [] [(.oi (m133 a0.f2 a1))]):=(e133 (a0:=a0.f2) (a1:=a1) (by with_reducible assumption))
  by_cases h0:(decide ((m133 a0.f2 a1) < 0))=true
  · try simp only[if_pos h0]
    exact callP_ok (ps:=[]) (os:=[]) (rs:=[(.oi (-1))]) (by kernel_rfl) (.r 11 [] [] f0 (.f h0 (.h 18 (.b true) .nil)))
  · try simp only[if_neg h0]
    have f2:Ev F X (.call 134 [(.one (.bor (l0_3+1) (map b_R a0.f3))),(.oi (m133 a0.f2 a1))] [] [] [(.oi (m134 a0.f3 (m133 a0.f2 a1)))]):=(e134 (a0:=a0.f3) (a1:=(m133 a0.f2 a1)) (by with_reducible assumption) (by with_reducible assumption))
    by_cases h1:(decide ((m134 a0.f3 (m133 a0.f2 a1)) < 0))=true
    · try simp only[if_pos h1]
      exact callP_ok (ps:=[]) (os:=[]) (rs:=[(.oi (-1))]) (by kernel_rfl) (.r 11 [] [] f0 (.f (nt h0) (.h 18 (.b false) (.r 26 [] [] f2 (.f h1 (.h 33 (.b true) .nil))))))
    · try simp only[if_neg h1]
      have f4:Ev F X (.call 133 [(.one (.bor (l0_4+1) (map b_si a0.f4))),(.oi (m134 a0.f3 (m133 a0.f2 a1)))] [] [] [(.oi (m133 a0.f4 (m134 a0.f3 (m133 a0.f2 a1))))]):=(e133 (a0:=a0.f4) (a1:=(m134 a0.f3 (m133 a0.f2 a1))) (by with_reducible assumption))
      by_cases h2:(decide ((m133 a0.f4 (m134 a0.f3 (m133 a0.f2 a1))) < 0))=true
      · try simp only[if_pos h2]
        exact callP_ok (ps:=[]) (os:=[]) (rs:=[(.oi (-1))]) (by kernel_rfl) (.r 11 [] [] f0 (.f (nt h0) (.h 18 (.b false) (.r 26 [] [] f2 (.f (nt h1) (.h 33 (.b false) (.r 41 [] [] f4 (.f h2 (.h 48 (.b true) .nil)))))))))
      · try simp only[if_neg h2]
        exact callP_ok (ps:=[]) (os:=[]) (rs:=[(.oi (m133 a0.f4 (m134 a0.f3 (m133 a0.f2 a1))))]) (by kernel_rfl) (.r 11 [] [] f0 (.f (nt h0) (.h 18 (.b false) (.r 26 [] [] f2 (.f (nt h1) (.h 33 (.b false) (.r 41 [] [] f4 (.f (nt h2) (.h 48 (.b false) .nil)))))))))
/-! loop.example/g00539/laws.heldLedgerResult -/
def m37 (a0:K_C) (a1:Int):Int:=
  if(decide ((m88 (K_B.mk a0.f2 a0.f3 a0.f4 a0.f5 a0.f6 a0.f7 a0.f8 a0.f9) a1) < 0))=true then(-1) else
  (m88 (K_B.mk a0.f2 a0.f3 a0.f4 a0.f5 a0.f6 a0.f7 a0.f8 a0.f9) a1)
theorem e37 {l0_4:Nat} {l0_5:Nat} {l0_6:Nat} {a0:K_C} {a1:Int} (hy0:length a0.f4*24≤140737488351232) (hy1:length a0.f5*56≤140737488351232) (hy2:∀z∈a0.f5,ok_R z) (hy3:length a0.f6*24≤140737488351232):Ev F X (.call 37 [(.agg [(.val (.int .i64 a0.f0)),(.val (.int .i64 a0.f1)),(.val (.int .i64 a0.f2)),(.val (.int .i64 a0.f3)),(.bor l0_4 (map b_si a0.f4)),(.bor l0_5 (map b_R a0.f5)),(.bor l0_6 (map b_si a0.f6)),(.val (.int .i64 a0.f7)),(.val (.int .i64 a0.f8)),(.val (.int .i64 a0.f9))]),(.one (.val (.int .i64 a1)))] [] [] [(.one (.val (.int .i64 (m37 a0 a1))))]):=by
  unfold m37
  have f0:Ev F X (.call 88 [(.agg [(.i a0.f2),(.i a0.f3),(.bor (l0_4+1) (map b_si a0.f4)),(.bor (l0_5+1) (map b_R a0.f5)),(.bor (l0_6+1) (map b_si a0.f6)),(.i a0.f7),(.i a0.f8),(.i a0.f9)]),(.oi a1)] [] [] [(.oi (m88 (K_B.mk a0.f2 a0.f3 a0.f4 a0.f5 a0.f6 a0.f7 a0.f8 a0.f9) a1))]):=(e88 (a0:=(K_B.mk a0.f2 a0.f3 a0.f4 a0.f5 a0.f6 a0.f7 a0.f8 a0.f9)) (a1:=a1) (by with_reducible assumption) (by with_reducible assumption) (by with_reducible assumption) (by with_reducible assumption))
  by_cases h0:(decide ((m88 (K_B.mk a0.f2 a0.f3 a0.f4 a0.f5 a0.f6 a0.f7 a0.f8 a0.f9) a1) < 0))=true
  · try simp only[if_pos h0]
    exact callP_ok (ps:=[]) (os:=[]) (rs:=[(.oi (-1))]) (by kernel_rfl) (.r 11 [] [] f0 (.f h0 (.h 18 (.b true) .nil)))
  · try simp only[if_neg h0]
    exact callP_ok (ps:=[]) (os:=[]) (rs:=[(.oi (m88 (K_B.mk a0.f2 a0.f3 a0.f4 a0.f5 a0.f6 a0.f7 a0.f8 a0.f9) a1))]) (by kernel_rfl) (.r 11 [] [] f0 (.f (nt h0) (.h 18 (.b false) .nil)))
end Go.Proofs.YtihjlmgakpgkeaaDoor.RipenReward
