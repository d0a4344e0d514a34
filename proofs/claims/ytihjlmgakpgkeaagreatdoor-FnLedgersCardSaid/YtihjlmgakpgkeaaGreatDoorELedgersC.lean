/- What the functions compute. -/
import Derived.Test.YtihjlmgakpgkeaaGreatDoorELedgersB
import Derived.KernelRfl
namespace Go.Proofs.YtihjlmgakpgkeaaGreatDoor.Ledgers
open Go Go.Proofs.YtihjlmgakpgkeaaGreatDoor.V
set_option linter.unusedVariables false
set_option linter.unusedSimpArgs false
set_option maxRecDepth 20000
open Go.IntKind (wrap)
open Int (toNat)
open List (length_replicate length_map length_set length_append length_cons length_nil length_take length_drop take_of_length_le map_take map_drop map_set append_assoc getElem?_map map length take drop getD set)
attribute [local simp] strInts_len byteRows_len toBR_y fullR_y pureR_y lenB_y lenD_y fromBR_y copy_y toBR_LyE fullR_LyE pureR_LyE lenB_LyE lenD_LyE toBR_b fullR_b pureR_b lenB_b lenD_b fromBR_b copy_b toBR_si fullR_si pureR_si lenB_si lenD_si fromBR_si copy_si toBR_R fullR_R pureR_R lenB_R lenD_R toBR_B fullR_B pureR_B lenB_B lenD_B toBR_i fullR_i pureR_i lenB_i lenD_i fromBR_i copy_i toBR_C fullR_C pureR_C lenB_C lenD_C toBR_LyEi fullR_LyEi pureR_LyEi lenB_LyEi lenD_LyEi toBR_Q fullR_Q pureR_Q lenB_Q lenD_Q toBR_LiE fullR_LiE pureR_LiE lenB_LiE lenD_LiE toBR_LsiE fullR_LsiE pureR_LsiE lenB_LsiE lenD_LsiE toBR_s fullR_s pureR_s lenB_s lenD_s fromBR_s copy_s
def o74_0 (a0:K_LyEi) (a1:K_B):K_LyEi:=
  if((m23 a0 6)==0)=true then(K_LyEi.mk a0.f0 ((o30_0 (K_LyEi.mk a0.f0 ((o51_0 (K_LyEi.mk a0.f0 ((o23_0 a0 6).f1))).f1)) [1,2,5]).f1)) else
  if((m23 a0 6)==1)=true then(K_LyEi.mk a0.f0 ((o30_0 (K_LyEi.mk a0.f0 ((o51_0 (K_LyEi.mk a0.f0 ((o23_0 a0 6).f1))).f1)) [1,2,5]).f1)) else
    if((m23 a0 6)==2)=true then(K_LyEi.mk a0.f0 ((o30_0 (K_LyEi.mk a0.f0 ((o23_0 (K_LyEi.mk a0.f0 ((o23_0 a0 6).f1)) 5).f1)) [50,49,7,300000]).f1)) else
      if((m23 a0 6)==3)=true then(K_LyEi.mk a0.f0 ((o23_0 (K_LyEi.mk a0.f0 ((o23_0 a0 6).f1)) 5).f1)) else
        if((m23 a0 6)==4)=true then(K_LyEi.mk a0.f0 ((o23_0 (K_LyEi.mk a0.f0 ((o23_0 a0 6).f1)) 5).f1)) else
          (K_LyEi.mk a0.f0 ((o23_0 (K_LyEi.mk a0.f0 ((o51_0 (K_LyEi.mk a0.f0 ((o23_0 a0 6).f1))).f1)) 30).f1))
def m74 (a0:K_LyEi) (a1:K_B):K_B:=
  if ((m23 a0 6) == 0) = true then (if (((m84 a1 (K_si.mk (m51 (K_LyEi.mk a0.f0 ((o23_0 a0 6).f1))) (m30 (K_LyEi.mk a0.f0 ((o51_0 (K_LyEi.mk a0.f0 ((o23_0 a0 6).f1))).f1)) [1, 2, 5]))).f0) != 0) = true then a1 else
    (K_B.mk ((m84 a1 (K_si.mk (m51 (K_LyEi.mk a0.f0 ((o23_0 a0 6).f1))) (m30 (K_LyEi.mk a0.f0 ((o51_0 (K_LyEi.mk a0.f0 ((o23_0 a0 6).f1))).f1)) [1,2,5]))).f2) ((m84 a1 (K_si.mk (m51 (K_LyEi.mk a0.f0 ((o23_0 a0 6).f1))) (m30 (K_LyEi.mk a0.f0 ((o51_0 (K_LyEi.mk a0.f0 ((o23_0 a0 6).f1))).f1)) [1,2,5]))).f3) ((m84 a1 (K_si.mk (m51 (K_LyEi.mk a0.f0 ((o23_0 a0 6).f1))) (m30 (K_LyEi.mk a0.f0 ((o51_0 (K_LyEi.mk a0.f0 ((o23_0 a0 6).f1))).f1)) [1,2,5]))).f4) ((m84 a1 (K_si.mk (m51 (K_LyEi.mk a0.f0 ((o23_0 a0 6).f1))) (m30 (K_LyEi.mk a0.f0 ((o51_0 (K_LyEi.mk a0.f0 ((o23_0 a0 6).f1))).f1)) [1,2,5]))).f5) ((m84 a1 (K_si.mk (m51 (K_LyEi.mk a0.f0 ((o23_0 a0 6).f1))) (m30 (K_LyEi.mk a0.f0 ((o51_0 (K_LyEi.mk a0.f0 ((o23_0 a0 6).f1))).f1)) [1,2,5]))).f6) ((m84 a1 (K_si.mk (m51 (K_LyEi.mk a0.f0 ((o23_0 a0 6).f1))) (m30 (K_LyEi.mk a0.f0 ((o51_0 (K_LyEi.mk a0.f0 ((o23_0 a0 6).f1))).f1)) [1,2,5]))).f7) ((m84 a1 (K_si.mk (m51 (K_LyEi.mk a0.f0 ((o23_0 a0 6).f1))) (m30 (K_LyEi.mk a0.f0 ((o51_0 (K_LyEi.mk a0.f0 ((o23_0 a0 6).f1))).f1)) [1,2,5]))).f8) ((m84 a1 (K_si.mk (m51 (K_LyEi.mk a0.f0 ((o23_0 a0 6).f1))) (m30 (K_LyEi.mk a0.f0 ((o51_0 (K_LyEi.mk a0.f0 ((o23_0 a0 6).f1))).f1)) [1,2,5]))).f9))) else
  if ((m23 a0 6) == 1) = true then (if (((m84 a1 (K_si.mk (m51 (K_LyEi.mk a0.f0 ((o23_0 a0 6).f1))) (m30 (K_LyEi.mk a0.f0 ((o51_0 (K_LyEi.mk a0.f0 ((o23_0 a0 6).f1))).f1)) [1, 2, 5]))).f0) != 0) = true then a1 else
      (K_B.mk ((m84 a1 (K_si.mk (m51 (K_LyEi.mk a0.f0 ((o23_0 a0 6).f1))) (m30 (K_LyEi.mk a0.f0 ((o51_0 (K_LyEi.mk a0.f0 ((o23_0 a0 6).f1))).f1)) [1,2,5]))).f2) ((m84 a1 (K_si.mk (m51 (K_LyEi.mk a0.f0 ((o23_0 a0 6).f1))) (m30 (K_LyEi.mk a0.f0 ((o51_0 (K_LyEi.mk a0.f0 ((o23_0 a0 6).f1))).f1)) [1,2,5]))).f3) ((m84 a1 (K_si.mk (m51 (K_LyEi.mk a0.f0 ((o23_0 a0 6).f1))) (m30 (K_LyEi.mk a0.f0 ((o51_0 (K_LyEi.mk a0.f0 ((o23_0 a0 6).f1))).f1)) [1,2,5]))).f4) ((m84 a1 (K_si.mk (m51 (K_LyEi.mk a0.f0 ((o23_0 a0 6).f1))) (m30 (K_LyEi.mk a0.f0 ((o51_0 (K_LyEi.mk a0.f0 ((o23_0 a0 6).f1))).f1)) [1,2,5]))).f5) ((m84 a1 (K_si.mk (m51 (K_LyEi.mk a0.f0 ((o23_0 a0 6).f1))) (m30 (K_LyEi.mk a0.f0 ((o51_0 (K_LyEi.mk a0.f0 ((o23_0 a0 6).f1))).f1)) [1,2,5]))).f6) ((m84 a1 (K_si.mk (m51 (K_LyEi.mk a0.f0 ((o23_0 a0 6).f1))) (m30 (K_LyEi.mk a0.f0 ((o51_0 (K_LyEi.mk a0.f0 ((o23_0 a0 6).f1))).f1)) [1,2,5]))).f7) ((m84 a1 (K_si.mk (m51 (K_LyEi.mk a0.f0 ((o23_0 a0 6).f1))) (m30 (K_LyEi.mk a0.f0 ((o51_0 (K_LyEi.mk a0.f0 ((o23_0 a0 6).f1))).f1)) [1,2,5]))).f8) ((m84 a1 (K_si.mk (m51 (K_LyEi.mk a0.f0 ((o23_0 a0 6).f1))) (m30 (K_LyEi.mk a0.f0 ((o51_0 (K_LyEi.mk a0.f0 ((o23_0 a0 6).f1))).f1)) [1,2,5]))).f9))) else
    if ((m23 a0 6) == 2) = true then (if (((m43 a1 (m23 (K_LyEi.mk a0.f0 ((o23_0 a0 6).f1)) 5) (m30 (K_LyEi.mk a0.f0 ((o23_0 (K_LyEi.mk a0.f0 ((o23_0 a0 6).f1)) 5).f1)) [50, 49, 7, 300000])).f0) != 0) = true then a1 else
        (K_B.mk ((m43 a1 (m23 (K_LyEi.mk a0.f0 ((o23_0 a0 6).f1)) 5) (m30 (K_LyEi.mk a0.f0 ((o23_0 (K_LyEi.mk a0.f0 ((o23_0 a0 6).f1)) 5).f1)) [50,49,7,300000])).f2) ((m43 a1 (m23 (K_LyEi.mk a0.f0 ((o23_0 a0 6).f1)) 5) (m30 (K_LyEi.mk a0.f0 ((o23_0 (K_LyEi.mk a0.f0 ((o23_0 a0 6).f1)) 5).f1)) [50,49,7,300000])).f3) ((m43 a1 (m23 (K_LyEi.mk a0.f0 ((o23_0 a0 6).f1)) 5) (m30 (K_LyEi.mk a0.f0 ((o23_0 (K_LyEi.mk a0.f0 ((o23_0 a0 6).f1)) 5).f1)) [50,49,7,300000])).f4) ((m43 a1 (m23 (K_LyEi.mk a0.f0 ((o23_0 a0 6).f1)) 5) (m30 (K_LyEi.mk a0.f0 ((o23_0 (K_LyEi.mk a0.f0 ((o23_0 a0 6).f1)) 5).f1)) [50,49,7,300000])).f5) ((m43 a1 (m23 (K_LyEi.mk a0.f0 ((o23_0 a0 6).f1)) 5) (m30 (K_LyEi.mk a0.f0 ((o23_0 (K_LyEi.mk a0.f0 ((o23_0 a0 6).f1)) 5).f1)) [50,49,7,300000])).f6) ((m43 a1 (m23 (K_LyEi.mk a0.f0 ((o23_0 a0 6).f1)) 5) (m30 (K_LyEi.mk a0.f0 ((o23_0 (K_LyEi.mk a0.f0 ((o23_0 a0 6).f1)) 5).f1)) [50,49,7,300000])).f7) ((m43 a1 (m23 (K_LyEi.mk a0.f0 ((o23_0 a0 6).f1)) 5) (m30 (K_LyEi.mk a0.f0 ((o23_0 (K_LyEi.mk a0.f0 ((o23_0 a0 6).f1)) 5).f1)) [50,49,7,300000])).f8) ((m43 a1 (m23 (K_LyEi.mk a0.f0 ((o23_0 a0 6).f1)) 5) (m30 (K_LyEi.mk a0.f0 ((o23_0 (K_LyEi.mk a0.f0 ((o23_0 a0 6).f1)) 5).f1)) [50,49,7,300000])).f9))) else
      if ((m23 a0 6) == 3) = true then (if (((m45 a1 (m23 (K_LyEi.mk a0.f0 ((o23_0 a0 6).f1)) 5)).f0) != 0) = true then a1 else
          (K_B.mk ((m45 a1 (m23 (K_LyEi.mk a0.f0 ((o23_0 a0 6).f1)) 5)).f2) ((m45 a1 (m23 (K_LyEi.mk a0.f0 ((o23_0 a0 6).f1)) 5)).f3) ((m45 a1 (m23 (K_LyEi.mk a0.f0 ((o23_0 a0 6).f1)) 5)).f4) ((m45 a1 (m23 (K_LyEi.mk a0.f0 ((o23_0 a0 6).f1)) 5)).f5) ((m45 a1 (m23 (K_LyEi.mk a0.f0 ((o23_0 a0 6).f1)) 5)).f6) ((m45 a1 (m23 (K_LyEi.mk a0.f0 ((o23_0 a0 6).f1)) 5)).f7) ((m45 a1 (m23 (K_LyEi.mk a0.f0 ((o23_0 a0 6).f1)) 5)).f8) ((m45 a1 (m23 (K_LyEi.mk a0.f0 ((o23_0 a0 6).f1)) 5)).f9))) else
        if ((m23 a0 6) == 4) = true then (if (((m38 a1 (m23 (K_LyEi.mk a0.f0 ((o23_0 a0 6).f1)) 5)).f0) != 0) = true then a1 else
            (K_B.mk ((m38 a1 (m23 (K_LyEi.mk a0.f0 ((o23_0 a0 6).f1)) 5)).f2) ((m38 a1 (m23 (K_LyEi.mk a0.f0 ((o23_0 a0 6).f1)) 5)).f3) ((m38 a1 (m23 (K_LyEi.mk a0.f0 ((o23_0 a0 6).f1)) 5)).f4) ((m38 a1 (m23 (K_LyEi.mk a0.f0 ((o23_0 a0 6).f1)) 5)).f5) ((m38 a1 (m23 (K_LyEi.mk a0.f0 ((o23_0 a0 6).f1)) 5)).f6) ((m38 a1 (m23 (K_LyEi.mk a0.f0 ((o23_0 a0 6).f1)) 5)).f7) ((m38 a1 (m23 (K_LyEi.mk a0.f0 ((o23_0 a0 6).f1)) 5)).f8) ((m38 a1 (m23 (K_LyEi.mk a0.f0 ((o23_0 a0 6).f1)) 5)).f9))) else
          if(((m85 a1 (m51 (K_LyEi.mk a0.f0 ((o23_0 a0 6).f1))) (wrap .i64 (1+(m23 (K_LyEi.mk a0.f0 ((o51_0 (K_LyEi.mk a0.f0 ((o23_0 a0 6).f1))).f1)) 30)))).f0) !=0)=true then a1 else
            (K_B.mk ((m85 a1 (m51 (K_LyEi.mk a0.f0 ((o23_0 a0 6).f1))) (wrap .i64 (1+(m23 (K_LyEi.mk a0.f0 ((o51_0 (K_LyEi.mk a0.f0 ((o23_0 a0 6).f1))).f1)) 30)))).f2) ((m85 a1 (m51 (K_LyEi.mk a0.f0 ((o23_0 a0 6).f1))) (wrap .i64 (1+(m23 (K_LyEi.mk a0.f0 ((o51_0 (K_LyEi.mk a0.f0 ((o23_0 a0 6).f1))).f1)) 30)))).f3) ((m85 a1 (m51 (K_LyEi.mk a0.f0 ((o23_0 a0 6).f1))) (wrap .i64 (1+(m23 (K_LyEi.mk a0.f0 ((o51_0 (K_LyEi.mk a0.f0 ((o23_0 a0 6).f1))).f1)) 30)))).f4) ((m85 a1 (m51 (K_LyEi.mk a0.f0 ((o23_0 a0 6).f1))) (wrap .i64 (1+(m23 (K_LyEi.mk a0.f0 ((o51_0 (K_LyEi.mk a0.f0 ((o23_0 a0 6).f1))).f1)) 30)))).f5) ((m85 a1 (m51 (K_LyEi.mk a0.f0 ((o23_0 a0 6).f1))) (wrap .i64 (1+(m23 (K_LyEi.mk a0.f0 ((o51_0 (K_LyEi.mk a0.f0 ((o23_0 a0 6).f1))).f1)) 30)))).f6) ((m85 a1 (m51 (K_LyEi.mk a0.f0 ((o23_0 a0 6).f1))) (wrap .i64 (1+(m23 (K_LyEi.mk a0.f0 ((o51_0 (K_LyEi.mk a0.f0 ((o23_0 a0 6).f1))).f1)) 30)))).f7) ((m85 a1 (m51 (K_LyEi.mk a0.f0 ((o23_0 a0 6).f1))) (wrap .i64 (1+(m23 (K_LyEi.mk a0.f0 ((o51_0 (K_LyEi.mk a0.f0 ((o23_0 a0 6).f1))).f1)) 30)))).f8) ((m85 a1 (m51 (K_LyEi.mk a0.f0 ((o23_0 a0 6).f1))) (wrap .i64 (1+(m23 (K_LyEi.mk a0.f0 ((o51_0 (K_LyEi.mk a0.f0 ((o23_0 a0 6).f1))).f1)) 30)))).f9))
theorem e74 {l0_0:Nat} {a0:K_LyEi} {a1:K_B} (hy0:S a0 6) (hy1:GL a1):Ev F X (.call 74 [(.ptr ⟨(0,0,0),[],0,0,2⟩),(.agg [(.val (.int .i64 a1.f0)),(.val (.int .i64 a1.f1)),(.ref ⟨(1,1,0),[],0,(length (map d_si a1.f2))⟩),(.ref ⟨(1,2,0),[],0,(length (map d_R a1.f3))⟩),(.ref ⟨(1,3,0),[],0,(length (map d_si a1.f4))⟩),(.val (.int .i64 a1.f5)),(.val (.int .i64 a1.f6)),(.val (.int .i64 a1.f7))])] [((1,3,0),⟨2,(map d_si a1.f4),[]⟩),((1,2,0),⟨5,(map d_R a1.f3),[]⟩),((1,1,0),⟨2,(map d_si a1.f2),[]⟩),((0,0,0),⟨2,[[(.bor (l0_0+1) (map b_y a0.f0)),(.val (.int .i64 a0.f1))]],[]⟩)] [[[(.bor l0_0 (map b_y a0.f0)),(.val (.int .i64 ((o74_0 a0 a1).f1)))]]] [(.agg (d_B (m74 a0 a1)))]):=by
  unfold m74 o74_0
  have P0 {hs q} (r:PS F X hs q):=(p3 a1.f2 a1.f3 a1.f4 (.r 13 [false] [] (e23 (l0_0:=(l0_0+1)) (a0:=a0) (a1:=6) yh) r))
  by_cases h0:((m23 a0 6)==0)=true
  · try simp only[if_pos h0]
    have f10:3≤3:=yd
    have f11:fullR (take 3 (drop 0 [[(.i 1)],[(.i 2)],[(.i 5)]]))=true:=yA
    have f12:toBR (take 3 (drop 0 [[(.i 1)],[(.i 2)],[(.i 5)]]))=[[(.i 1)],[(.i 2)],[(.i 5)]]:=yA
    have P1 {hs q} (r:PS F X hs q):=(P0 (.f h0 (.f h0 (hT 18 (hT 19 (.r 25 [false] [] (e51 (l0_0:=(l0_0+1)) (a0:=(zz a0 (o23_0 a0 6))) yh) (.f f10 (.f f11 (.f f12 (.r 31 [false] [[[(.i 1)],[(.i 2)],[(.i 5)]]] (e30 (l0_0:=(l0_0+1)) (l1_0:=0) (a0:=(zz a0 (o51_0 (zz a0 (o23_0 a0 6))))) (a1:=[1,2,5]) yh yP yP) (l3 a1.f2 a1.f3 a1.f4 (.r 35 [] [(map b_si a1.f2),(map b_R a1.f3),(map b_si a1.f4)] (e84 (l0_2:=0) (l0_3:=0) (l0_4:=0) (a0:=a1) (a1:=(K_si.mk (m51 (zz a0 (o23_0 a0 6))) (m30 (zz a0 (o51_0 (zz a0 (o23_0 a0 6)))) [1,2,5]))) yC yC yay yC yaz (by with_reducible refine Nat.le_trans (wsz _) ?_; decide) yC yC) (p3 ((m84 a1 (K_si.mk (m51 (zz a0 (o23_0 a0 6))) (m30 (zz a0 (o51_0 (zz a0 (o23_0 a0 6)))) [1,2,5]))).f4) ((m84 a1 (K_si.mk (m51 (zz a0 (o23_0 a0 6))) (m30 (zz a0 (o51_0 (zz a0 (o23_0 a0 6)))) [1,2,5]))).f5) ((m84 a1 (K_si.mk (m51 (zz a0 (o23_0 a0 6))) (m30 (zz a0 (o51_0 (zz a0 (o23_0 a0 6)))) [1,2,5]))).f6) r)))))))))))))
    by_cases h1:(((m84 a1 (K_si.mk (m51 (zz a0 (o23_0 a0 6))) (m30 (zz a0 (o51_0 (zz a0 (o23_0 a0 6)))) [1,2,5]))).f0) !=0)=true
    · try simp only[if_pos h1]
      exact cq [false] ya (P1 (.f h1 (p3 a1.f2 a1.f3 a1.f4 (.f (pureR_si a1.f2) (.f (pureR_R a1.f3) (.f (pureR_si a1.f4) (hT 44 .nil)))))))
    try simp only[if_neg h1]
    exact cq [false] ya (P1 (N h1 (p3 ((m84 a1 (K_si.mk (m51 (zz a0 (o23_0 a0 6))) (m30 (zz a0 (o51_0 (zz a0 (o23_0 a0 6)))) [1,2,5]))).f4) ((m84 a1 (K_si.mk (m51 (zz a0 (o23_0 a0 6))) (m30 (zz a0 (o51_0 (zz a0 (o23_0 a0 6)))) [1,2,5]))).f5) ((m84 a1 (K_si.mk (m51 (zz a0 (o23_0 a0 6))) (m30 (zz a0 (o51_0 (zz a0 (o23_0 a0 6)))) [1,2,5]))).f6) (.f (pureR_si ((m84 a1 (K_si.mk (m51 (zz a0 (o23_0 a0 6))) (m30 (zz a0 (o51_0 (zz a0 (o23_0 a0 6)))) [1,2,5]))).f4)) (.f (pureR_R ((m84 a1 (K_si.mk (m51 (zz a0 (o23_0 a0 6))) (m30 (zz a0 (o51_0 (zz a0 (o23_0 a0 6)))) [1,2,5]))).f5)) (.f (pureR_si ((m84 a1 (K_si.mk (m51 (zz a0 (o23_0 a0 6))) (m30 (zz a0 (o51_0 (zz a0 (o23_0 a0 6)))) [1,2,5]))).f6)) (U 44 .nil)))))))
  try simp only[if_neg h0]
  have P1 {hs q} (r:PS F X hs q):=(P0 (N h0 (U 18 r)))
  by_cases h1:((m23 a0 6)==1)=true
  · try simp only[if_pos h1]
    have f10:3≤3:=yd
    have f11:fullR (take 3 (drop 0 [[(.i 1)],[(.i 2)],[(.i 5)]]))=true:=yA
    have f12:toBR (take 3 (drop 0 [[(.i 1)],[(.i 2)],[(.i 5)]]))=[[(.i 1)],[(.i 2)],[(.i 5)]]:=yA
    have P2 {hs q} (r:PS F X hs q):=(P1 (.f h1 (hT 23 (.r 29 [false] [] (e51 (l0_0:=(l0_0+1)) (a0:=(zz a0 (o23_0 a0 6))) yh) (.f f10 (.f f11 (.f f12 (.r 35 [false] [[[(.i 1)],[(.i 2)],[(.i 5)]]] (e30 (l0_0:=(l0_0+1)) (l1_0:=0) (a0:=(zz a0 (o51_0 (zz a0 (o23_0 a0 6))))) (a1:=[1,2,5]) yh yP yP) (l3 a1.f2 a1.f3 a1.f4 (.r 39 [] [(map b_si a1.f2),(map b_R a1.f3),(map b_si a1.f4)] (e84 (l0_2:=0) (l0_3:=0) (l0_4:=0) (a0:=a1) (a1:=(K_si.mk (m51 (zz a0 (o23_0 a0 6))) (m30 (zz a0 (o51_0 (zz a0 (o23_0 a0 6)))) [1,2,5]))) yC yC yay yC yaz (by with_reducible refine Nat.le_trans (wsz _) ?_; decide) yC yC) (p3 ((m84 a1 (K_si.mk (m51 (zz a0 (o23_0 a0 6))) (m30 (zz a0 (o51_0 (zz a0 (o23_0 a0 6)))) [1,2,5]))).f4) ((m84 a1 (K_si.mk (m51 (zz a0 (o23_0 a0 6))) (m30 (zz a0 (o51_0 (zz a0 (o23_0 a0 6)))) [1,2,5]))).f5) ((m84 a1 (K_si.mk (m51 (zz a0 (o23_0 a0 6))) (m30 (zz a0 (o51_0 (zz a0 (o23_0 a0 6)))) [1,2,5]))).f6) r)))))))))))
    by_cases h2:(((m84 a1 (K_si.mk (m51 (zz a0 (o23_0 a0 6))) (m30 (zz a0 (o51_0 (zz a0 (o23_0 a0 6)))) [1,2,5]))).f0) !=0)=true
    · try simp only[if_pos h2]
      exact cq [false] ya (P2 (.f h2 (p3 a1.f2 a1.f3 a1.f4 (.f (pureR_si a1.f2) (.f (pureR_R a1.f3) (.f (pureR_si a1.f4) (hT 48 .nil)))))))
    try simp only[if_neg h2]
    exact cq [false] ya (P2 (N h2 (p3 ((m84 a1 (K_si.mk (m51 (zz a0 (o23_0 a0 6))) (m30 (zz a0 (o51_0 (zz a0 (o23_0 a0 6)))) [1,2,5]))).f4) ((m84 a1 (K_si.mk (m51 (zz a0 (o23_0 a0 6))) (m30 (zz a0 (o51_0 (zz a0 (o23_0 a0 6)))) [1,2,5]))).f5) ((m84 a1 (K_si.mk (m51 (zz a0 (o23_0 a0 6))) (m30 (zz a0 (o51_0 (zz a0 (o23_0 a0 6)))) [1,2,5]))).f6) (.f (pureR_si ((m84 a1 (K_si.mk (m51 (zz a0 (o23_0 a0 6))) (m30 (zz a0 (o51_0 (zz a0 (o23_0 a0 6)))) [1,2,5]))).f4)) (.f (pureR_R ((m84 a1 (K_si.mk (m51 (zz a0 (o23_0 a0 6))) (m30 (zz a0 (o51_0 (zz a0 (o23_0 a0 6)))) [1,2,5]))).f5)) (.f (pureR_si ((m84 a1 (K_si.mk (m51 (zz a0 (o23_0 a0 6))) (m30 (zz a0 (o51_0 (zz a0 (o23_0 a0 6)))) [1,2,5]))).f6)) (U 48 .nil)))))))
  try simp only[if_neg h1]
  have P2 {hs q} (r:PS F X hs q):=(P1 (N h1 (U 23 r)))
  by_cases h2:((m23 a0 6)==2)=true
  · try simp only[if_pos h2]
    have f11:4≤4:=yd
    have f12:fullR (take 4 (drop 0 [[(.i 50)],[(.i 49)],[(.i 7)],[(.i 300000)]]))=true:=yA
    have f13:toBR (take 4 (drop 0 [[(.i 50)],[(.i 49)],[(.i 7)],[(.i 300000)]]))=[[(.i 50)],[(.i 49)],[(.i 7)],[(.i 300000)]]:=yA
    have P3 {hs q} (r:PS F X hs q):=(P2 (.f h2 (hT 28 (.r 34 [false] [] (e23 (l0_0:=(l0_0+1)) (a0:=(zz a0 (o23_0 a0 6))) (a1:=5) yh) (.f f11 (.f f12 (.f f13 (.r 40 [false] [[[(.i 50)],[(.i 49)],[(.i 7)],[(.i 300000)]]] (e30 (l0_0:=(l0_0+1)) (l1_0:=0) (a0:=(zz a0 (o23_0 (zz a0 (o23_0 a0 6)) 5))) (a1:=[50,49,7,300000]) yh yP yP) (l3 a1.f2 a1.f3 a1.f4 (.r 42 [] [(map b_si a1.f2),(map b_R a1.f3),(map b_si a1.f4)] (e43 (l0_2:=0) (l0_3:=0) (l0_4:=0) (a0:=a1) (a1:=(m23 (zz a0 (o23_0 a0 6)) 5)) (a2:=(m30 (zz a0 (o23_0 (zz a0 (o23_0 a0 6)) 5)) [50,49,7,300000])) yC yC yay yC yaz yC (by exact glw ‹_›) yC) (p3 ((m43 a1 (m23 (zz a0 (o23_0 a0 6)) 5) (m30 (zz a0 (o23_0 (zz a0 (o23_0 a0 6)) 5)) [50,49,7,300000])).f4) ((m43 a1 (m23 (zz a0 (o23_0 a0 6)) 5) (m30 (zz a0 (o23_0 (zz a0 (o23_0 a0 6)) 5)) [50,49,7,300000])).f5) ((m43 a1 (m23 (zz a0 (o23_0 a0 6)) 5) (m30 (zz a0 (o23_0 (zz a0 (o23_0 a0 6)) 5)) [50,49,7,300000])).f6) r)))))))))))
    by_cases h3:(((m43 a1 (m23 (zz a0 (o23_0 a0 6)) 5) (m30 (zz a0 (o23_0 (zz a0 (o23_0 a0 6)) 5)) [50,49,7,300000])).f0) !=0)=true
    · try simp only[if_pos h3]
      exact cq [false] ya (P3 (.f h3 (p3 a1.f2 a1.f3 a1.f4 (.f (pureR_si a1.f2) (.f (pureR_R a1.f3) (.f (pureR_si a1.f4) (hT 51 .nil)))))))
    try simp only[if_neg h3]
    exact cq [false] ya (P3 (N h3 (p3 ((m43 a1 (m23 (zz a0 (o23_0 a0 6)) 5) (m30 (zz a0 (o23_0 (zz a0 (o23_0 a0 6)) 5)) [50,49,7,300000])).f4) ((m43 a1 (m23 (zz a0 (o23_0 a0 6)) 5) (m30 (zz a0 (o23_0 (zz a0 (o23_0 a0 6)) 5)) [50,49,7,300000])).f5) ((m43 a1 (m23 (zz a0 (o23_0 a0 6)) 5) (m30 (zz a0 (o23_0 (zz a0 (o23_0 a0 6)) 5)) [50,49,7,300000])).f6) (.f (pureR_si ((m43 a1 (m23 (zz a0 (o23_0 a0 6)) 5) (m30 (zz a0 (o23_0 (zz a0 (o23_0 a0 6)) 5)) [50,49,7,300000])).f4)) (.f (pureR_R ((m43 a1 (m23 (zz a0 (o23_0 a0 6)) 5) (m30 (zz a0 (o23_0 (zz a0 (o23_0 a0 6)) 5)) [50,49,7,300000])).f5)) (.f (pureR_si ((m43 a1 (m23 (zz a0 (o23_0 a0 6)) 5) (m30 (zz a0 (o23_0 (zz a0 (o23_0 a0 6)) 5)) [50,49,7,300000])).f6)) (U 51 .nil)))))))
  try simp only[if_neg h2]
  have P3 {hs q} (r:PS F X hs q):=(P2 (N h2 (U 28 r)))
  by_cases h3:((m23 a0 6)==3)=true
  · try simp only[if_pos h3]
    have P4 {hs q} (r:PS F X hs q):=(P3 (.f h3 (hT 33 (.r 39 [false] [] (e23 (l0_0:=(l0_0+1)) (a0:=(zz a0 (o23_0 a0 6))) (a1:=5) yh) (l3 a1.f2 a1.f3 a1.f4 (.r 41 [] [(map b_si a1.f2),(map b_R a1.f3),(map b_si a1.f4)] (e45 (l0_2:=0) (l0_3:=0) (l0_4:=0) (a0:=a1) (a1:=(m23 (zz a0 (o23_0 a0 6)) 5)) yC yC yay yC yaz) (p3 ((m45 a1 (m23 (zz a0 (o23_0 a0 6)) 5)).f4) ((m45 a1 (m23 (zz a0 (o23_0 a0 6)) 5)).f5) ((m45 a1 (m23 (zz a0 (o23_0 a0 6)) 5)).f6) r)))))))
    by_cases h4:(((m45 a1 (m23 (zz a0 (o23_0 a0 6)) 5)).f0) !=0)=true
    · try simp only[if_pos h4]
      exact cq [false] ya (P4 (.f h4 (p3 a1.f2 a1.f3 a1.f4 (.f (pureR_si a1.f2) (.f (pureR_R a1.f3) (.f (pureR_si a1.f4) (hT 50 .nil)))))))
    try simp only[if_neg h4]
    exact cq [false] ya (P4 (N h4 (p3 ((m45 a1 (m23 (zz a0 (o23_0 a0 6)) 5)).f4) ((m45 a1 (m23 (zz a0 (o23_0 a0 6)) 5)).f5) ((m45 a1 (m23 (zz a0 (o23_0 a0 6)) 5)).f6) (.f (pureR_si ((m45 a1 (m23 (zz a0 (o23_0 a0 6)) 5)).f4)) (.f (pureR_R ((m45 a1 (m23 (zz a0 (o23_0 a0 6)) 5)).f5)) (.f (pureR_si ((m45 a1 (m23 (zz a0 (o23_0 a0 6)) 5)).f6)) (U 50 .nil)))))))
  try simp only[if_neg h3]
  have P4 {hs q} (r:PS F X hs q):=(P3 (N h3 (U 33 r)))
  by_cases h4:((m23 a0 6)==4)=true
  · try simp only[if_pos h4]
    have P5 {hs q} (r:PS F X hs q):=(P4 (.f h4 (hT 38 (.r 44 [false] [] (e23 (l0_0:=(l0_0+1)) (a0:=(zz a0 (o23_0 a0 6))) (a1:=5) yh) (l3 a1.f2 a1.f3 a1.f4 (.r 46 [] [(map b_si a1.f2),(map b_R a1.f3),(map b_si a1.f4)] (e38 (l0_2:=0) (l0_3:=0) (l0_4:=0) (a0:=a1) (a1:=(m23 (zz a0 (o23_0 a0 6)) 5)) yC yC yay yC yaz) (p3 ((m38 a1 (m23 (zz a0 (o23_0 a0 6)) 5)).f4) ((m38 a1 (m23 (zz a0 (o23_0 a0 6)) 5)).f5) ((m38 a1 (m23 (zz a0 (o23_0 a0 6)) 5)).f6) r)))))))
    by_cases h5:(((m38 a1 (m23 (zz a0 (o23_0 a0 6)) 5)).f0) !=0)=true
    · try simp only[if_pos h5]
      exact cq [false] ya (P5 (.f h5 (p3 a1.f2 a1.f3 a1.f4 (.f (pureR_si a1.f2) (.f (pureR_R a1.f3) (.f (pureR_si a1.f4) (hT 55 .nil)))))))
    try simp only[if_neg h5]
    exact cq [false] ya (P5 (N h5 (p3 ((m38 a1 (m23 (zz a0 (o23_0 a0 6)) 5)).f4) ((m38 a1 (m23 (zz a0 (o23_0 a0 6)) 5)).f5) ((m38 a1 (m23 (zz a0 (o23_0 a0 6)) 5)).f6) (.f (pureR_si ((m38 a1 (m23 (zz a0 (o23_0 a0 6)) 5)).f4)) (.f (pureR_R ((m38 a1 (m23 (zz a0 (o23_0 a0 6)) 5)).f5)) (.f (pureR_si ((m38 a1 (m23 (zz a0 (o23_0 a0 6)) 5)).f6)) (U 55 .nil)))))))
  try simp only[if_neg h4]
  have P5 {hs q} (r:PS F X hs q):=(P4 (N h4 (U 38 (.r 44 [false] [] (e51 (l0_0:=(l0_0+1)) (a0:=(zz a0 (o23_0 a0 6))) yh) (.r 48 [false] [] (e23 (l0_0:=(l0_0+1)) (a0:=(zz a0 (o51_0 (zz a0 (o23_0 a0 6))))) (a1:=30) yh) (.f trivial (l3 a1.f2 a1.f3 a1.f4 (.r 52 [] [(map b_si a1.f2),(map b_R a1.f3),(map b_si a1.f4)] (e85 (l0_2:=0) (l0_3:=0) (l0_4:=0) (a0:=a1) (a1:=(m51 (zz a0 (o23_0 a0 6)))) (a2:=(wrap .i64 (1+(m23 (zz a0 (o51_0 (zz a0 (o23_0 a0 6)))) 30)))) yC yC yay yC yaz) (p3 ((m85 a1 (m51 (zz a0 (o23_0 a0 6))) (wrap .i64 (1+(m23 (zz a0 (o51_0 (zz a0 (o23_0 a0 6)))) 30)))).f4) ((m85 a1 (m51 (zz a0 (o23_0 a0 6))) (wrap .i64 (1+(m23 (zz a0 (o51_0 (zz a0 (o23_0 a0 6)))) 30)))).f5) ((m85 a1 (m51 (zz a0 (o23_0 a0 6))) (wrap .i64 (1+(m23 (zz a0 (o51_0 (zz a0 (o23_0 a0 6)))) 30)))).f6) r)))))))))
  by_cases h5:(((m85 a1 (m51 (zz a0 (o23_0 a0 6))) (wrap .i64 (1+(m23 (zz a0 (o51_0 (zz a0 (o23_0 a0 6)))) 30)))).f0) !=0)=true
  · try simp only[if_pos h5]
    exact cq [false] ya (P5 (.f h5 (p3 a1.f2 a1.f3 a1.f4 (.f (pureR_si a1.f2) (.f (pureR_R a1.f3) (.f (pureR_si a1.f4) (hT 61 .nil)))))))
  try simp only[if_neg h5]
  exact cq [false] ya (P5 (N h5 (p3 ((m85 a1 (m51 (zz a0 (o23_0 a0 6))) (wrap .i64 (1+(m23 (zz a0 (o51_0 (zz a0 (o23_0 a0 6)))) 30)))).f4) ((m85 a1 (m51 (zz a0 (o23_0 a0 6))) (wrap .i64 (1+(m23 (zz a0 (o51_0 (zz a0 (o23_0 a0 6)))) 30)))).f5) ((m85 a1 (m51 (zz a0 (o23_0 a0 6))) (wrap .i64 (1+(m23 (zz a0 (o51_0 (zz a0 (o23_0 a0 6)))) 30)))).f6) (.f (pureR_si ((m85 a1 (m51 (zz a0 (o23_0 a0 6))) (wrap .i64 (1+(m23 (zz a0 (o51_0 (zz a0 (o23_0 a0 6)))) 30)))).f4)) (.f (pureR_R ((m85 a1 (m51 (zz a0 (o23_0 a0 6))) (wrap .i64 (1+(m23 (zz a0 (o51_0 (zz a0 (o23_0 a0 6)))) 30)))).f5)) (.f (pureR_si ((m85 a1 (m51 (zz a0 (o23_0 a0 6))) (wrap .i64 (1+(m23 (zz a0 (o51_0 (zz a0 (o23_0 a0 6)))) 30)))).f6)) (U 61 .nil)))))))
theorem st74 {a:K_LyEi} {l:K_B} {n:Nat} (h:S a (n+3)):S (o74_0 a l) n:=by
  unfold o74_0
  (repeat' split)<;>((repeat (first | with_reducible refine sm30 _ ?_ rfl | with_reducible refine sm23 _ ?_ rfl | with_reducible refine sm51 ?_ rfl)); exact S_le h yd)
theorem sm74 {a:K_LyEi} {l:K_B} {n:Nat} {f:List Int} (h:S a (n+3)) (e:a.f0=f):S (K_LyEi.mk f ((o74_0 a l).f1)) n:=by
  have e2:(o74_0 a l).f0=a.f0:=by unfold o74_0;(repeat' split)<;>rfl
  rw[← e,← e2]; exact st74 (l:=l) h
theorem tuG {a:K_LyEi} {l:K_B} (h:GL l):GL (m74 a l):=by
  unfold m74
  split
  · split
    · exact h
    exact crG h (wsz _) (by assumption)
  split
  · split
    · exact h
    exact crG h (wsz _) (by assumption)
  split
  · split
    · exact h
    exact foG h (by assumption)
  split
  · split
    · exact h
    exact riG h (by assumption)
  split
  · split
    · exact h
    exact loG h (by assumption)
  split
  · exact h
  exact paG h (by assumption)
theorem pk_in (a:K_LyEi) (l:List Int) (h:S a 1) (h1:0 < l.length) (h2:l.length≤1000):m30 a l∈l:=by
  have q:=rng a ((length (map b_i l)):Int) h (by simp; omega) (by simp; omega)
  simp only[length_map] at q
  unfold m30
  simp only[length_map]
  rw[List.getD_eq_getElem?_getD,List.getElem?_eq_getElem yd]
  exact List.getElem_mem _
theorem G0 {a:K_LyEi} (h:S a 80):GL (K_B.mk (m30 a [1,4,12]) (m30 (K_LyEi.mk a.f0 ((o30_0 a [1,4,12]).f1)) [0,10,333,1000]) [] [] [] 0 0 0):=by
  have h1:=pk_in a [1,4,12] (S_le h (by omega)) (by simp) (by simp)
  have h2:=pk_in (K_LyEi.mk a.f0 ((o30_0 a [1,4,12]).f1)) [0,10,333,1000] (sm30 _ (S_le h (by omega)) rfl) (by simp) (by simp)
  simp only[List.mem_cons,List.not_mem_nil,or_false] at h1 h2
  exact⟨by simp only[]; omega,by simp only[]; omega,⟨by simp,fun z hz=>(by cases hz),fun z hz=>(by cases hz)⟩,⟨by simp,fun z hz=>(by cases hz)⟩,⟨by simp,fun z hz=>(by cases hz)⟩⟩
theorem dN {a:K_LyEi} (h:S a 80):0≤m23 (K_LyEi.mk a.f0 ((o30_0 (K_LyEi.mk a.f0 ((o30_0 a [1,4,12]).f1)) [0,10,333,1000]).f1)) 20∧m23 (K_LyEi.mk a.f0 ((o30_0 (K_LyEi.mk a.f0 ((o30_0 a [1,4,12]).f1)) [0,10,333,1000]).f1)) 20 < 20:=rng _ 20 (sm30 _ (sm30 _ (S_le h (by omega)) rfl) rfl) (by omega) (by omega)
theorem dS {a:K_LyEi} (h:S a 80):S (K_LyEi.mk a.f0 ((o23_0 (K_LyEi.mk a.f0 ((o30_0 (K_LyEi.mk a.f0 ((o30_0 a [1,4,12]).f1)) [0,10,333,1000]).f1)) 20).f1)) (3*toNat (m23 (K_LyEi.mk a.f0 ((o30_0 (K_LyEi.mk a.f0 ((o30_0 a [1,4,12]).f1)) [0,10,333,1000]).f1)) 20)+10):=by
  have q:=rng (K_LyEi.mk a.f0 ((o30_0 (K_LyEi.mk a.f0 ((o30_0 a [1,4,12]).f1)) [0,10,333,1000]).f1)) 20 (sm30 _ (sm30 _ (S_le h (by omega)) rfl) rfl) (by omega) (by omega)
  exact sm23 _ (sm30 _ (sm30 _ (S_le h (by omega)) rfl) rfl) rfl
inductive O49_0 where
  |k0 (w0:Int) (w1:Int) (w2:Int) (w3:List K_si) (w4:List K_R) (w5:List K_si) (w6:Int) (w7:Int) (w8:Int) (w9:Int) (w10:Bool)
def r49_0 (a0:K_LyEi):Nat→Int→Int→Int→Int→List K_si→List K_R→List K_si→Int→Int→Int→O49_0
  |n+1,i,v0,v1,v2,v3,v4,v5,v6,v7,v8=>
    (r49_0 a0 n (i - 1) ((o74_0 (K_LyEi.mk a0.f0 v0) (K_B.mk v1 v2 v3 v4 v5 v6 v7 v8)).f1) ((m74 (K_LyEi.mk a0.f0 v0) (K_B.mk v1 v2 v3 v4 v5 v6 v7 v8)).f0) ((m74 (K_LyEi.mk a0.f0 v0) (K_B.mk v1 v2 v3 v4 v5 v6 v7 v8)).f1) ((m74 (K_LyEi.mk a0.f0 v0) (K_B.mk v1 v2 v3 v4 v5 v6 v7 v8)).f2) ((m74 (K_LyEi.mk a0.f0 v0) (K_B.mk v1 v2 v3 v4 v5 v6 v7 v8)).f3) ((m74 (K_LyEi.mk a0.f0 v0) (K_B.mk v1 v2 v3 v4 v5 v6 v7 v8)).f4) ((m74 (K_LyEi.mk a0.f0 v0) (K_B.mk v1 v2 v3 v4 v5 v6 v7 v8)).f5) ((m74 (K_LyEi.mk a0.f0 v0) (K_B.mk v1 v2 v3 v4 v5 v6 v7 v8)).f6) ((m74 (K_LyEi.mk a0.f0 v0) (K_B.mk v1 v2 v3 v4 v5 v6 v7 v8)).f7))
  |0,i,v0,v1,v2,v3,v4,v5,v6,v7,v8=>(O49_0.k0 v0 v1 v2 v3 v4 v5 v6 v7 v8 i (decide (i > 0)))
def h49_0 (l0_0:Nat) (a0:K_LyEi) (i:Int) (v0:Int) (v1:Int) (v2:Int) (v3:List K_si) (v4:List K_R) (v5:List K_si) (v6:Int) (v7:Int) (v8:Int):St:=⟨[(0,(.ptr ⟨(0,0,0),[],0,0,2⟩)),(2,(.ptr ⟨(2,0,0),[],0,0,8⟩)),(3,(.ptr ⟨(3,0,0),[],0,0,8⟩)),(4,(.one (.val (.int .i64 i))))],[((0,0,0),.live ⟨2,[[(.bor (l0_0+1) (map b_y a0.f0)),(.val (.int .i64 v0))]],[]⟩),((2,0,0),.live ⟨8,[[(.val (.int .i64 0)),(.val (.int .i64 0)),(.own 2 []),(.own 5 []),(.own 2 []),(.val (.int .i64 0)),(.val (.int .i64 0)),(.val (.int .i64 0))]],[]⟩),((3,0,0),.live ⟨8,[[(.val (.int .i64 v1)),(.val (.int .i64 v2)),(.own 2 (map d_si v3)),(.own 5 (map d_R v4)),(.own 2 (map d_si v5)),(.val (.int .i64 v6)),(.val (.int .i64 v7)),(.val (.int .i64 v8))]],[]⟩)]⟩
def ex49_0:O49_0→VX.Exit
  |.k0 _ _ _ _ _ _ _ _ _ _ _=>(.exit 0)
def fin49_0 (l0_0:Nat) (a0:K_LyEi):O49_0→St
  |.k0 w0 w1 w2 w3 w4 w5 w6 w7 w8 w9 w10=>⟨[(0,(.ptr ⟨(0,0,0),[],0,0,2⟩)),(2,(.ptr ⟨(2,0,0),[],0,0,8⟩)),(3,(.ptr ⟨(3,0,0),[],0,0,8⟩)),(4,(.one (.val (.int .i64 w9)))),(15,(.one (.val (.bool w10))))],[((0,0,0),.live ⟨2,[[(.bor (l0_0+1) (map b_y a0.f0)),(.val (.int .i64 w0))]],[]⟩),((2,0,0),.live ⟨8,[[(.val (.int .i64 0)),(.val (.int .i64 0)),(.own 2 []),(.own 5 []),(.own 2 []),(.val (.int .i64 0)),(.val (.int .i64 0)),(.val (.int .i64 0))]],[]⟩),((3,0,0),.live ⟨8,[[(.val (.int .i64 w1)),(.val (.int .i64 w2)),(.own 2 (map d_si w3)),(.own 5 (map d_R w4)),(.own 2 (map d_si w5)),(.val (.int .i64 w6)),(.val (.int .i64 w7)),(.val (.int .i64 w8))]],[]⟩)]⟩
theorem t49_0 {l0_0:Nat} {a0:K_LyEi} (hy0:S a0 80):∀(n:Nat) (i:Int) (v0:Int) (v1:Int) (v2:Int) (v3:List K_si) (v4:List K_R) (v5:List K_si) (v6:Int) (v7:Int) (v8:Int),n=toNat i→i≤9223372036854775807→S (K_LyEi.mk a0.f0 v0) (3*n+10)→GL (K_B.mk v1 v2 v3 v4 v5 v6 v7 v8)→Ev F X (.code l49_0 (h49_0 l0_0 a0 i v0 v1 v2 v3 v4 v5 v6 v7 v8) (ex49_0 (r49_0 a0 n i v0 v1 v2 v3 v4 v5 v6 v7 v8)) (fin49_0 l0_0 a0 (r49_0 a0 n i v0 v1 v2 v3 v4 v5 v6 v7 v8)))
  |0,i,v0,v1,v2,v3,v4,v5,v6,v7,v8,hn,hi0,hi1,hi2=>by
    have hc:¬(decide (i > 0))=true:=by
      simp only[decide_eq_true_eq]; omega
    have st:=ch b49_0 (h49_0 l0_0 a0 i v0 v1 v2 v3 v4 v5 v6 v7 v8) ⟨[(0,(.ptr ⟨(0,0,0),[],0,0,2⟩)),(2,(.ptr ⟨(2,0,0),[],0,0,8⟩)),(3,(.ptr ⟨(3,0,0),[],0,0,8⟩)),(4,(.oi i)),(15,(.one (.val (.bool (decide (i > 0))))))],[((0,0,0),.live ⟨2,[[(.bor (l0_0+1) (map b_y a0.f0)),(.i v0)]],[]⟩),((2,0,0),.live ⟨8,[[(.i 0),(.i 0),(.own 2 []),(.own 5 []),(.own 2 []),(.i 0),(.i 0),(.i 0)]],[]⟩),((3,0,0),.live ⟨8,[[(.i v1),(.i v2),(.own 2 (map d_si v3)),(.own 5 (map d_R v4)),(.own 2 (map d_si v5)),(.i v6),(.i v7),(.i v8)]],[]⟩)]⟩ (.exit 0) 5 (by kernel_rfl) (.f (nt hc) (U 4 .nil))
    rw[show (⟨[(0,(.ptr ⟨(0,0,0),[],0,0,2⟩)),(2,(.ptr ⟨(2,0,0),[],0,0,8⟩)),(3,(.ptr ⟨(3,0,0),[],0,0,8⟩)),(4,(.oi i)),(15,(.one (.val (.bool (decide (i > 0))))))],[((0,0,0),.live ⟨2,[[(.bor (l0_0+1) (map b_y a0.f0)),(.i v0)]],[]⟩),((2,0,0),.live ⟨8,[[(.i 0),(.i 0),(.own 2 []),(.own 5 []),(.own 2 []),(.i 0),(.i 0),(.i 0)]],[]⟩),((3,0,0),.live ⟨8,[[(.i v1),(.i v2),(.own 2 (map d_si v3)),(.own 5 (map d_R v4)),(.own 2 (map d_si v5)),(.i v6),(.i v7),(.i v8)]],[]⟩)]⟩:St)=fin49_0 l0_0 a0 (.k0 v0 v1 v2 v3 v4 v5 v6 v7 v8 i (decide (i > 0))) from(by rfl)] at st
    exact .loopX st (show ((.exit 0):VX.Exit)≠.normal from by simp)
  |n+1,i,v0,v1,v2,v3,v4,v5,v6,v7,v8,hn,hi0,hi1,hi2=>by
    have hc:(decide (i > 0))=true:=by
      simp only[decide_eq_true_eq]; omega
    have hw:wrap .i64 (i - 1)=i - 1:=wrap64 (by omega)
    have hj0:=hi0; try simp only[LN,Int.toNat_natCast] at hj0
    have hj1:=hi1; try simp only[LN,Int.toNat_natCast] at hj1
    have hj2:=hi2; try simp only[LN,Int.toNat_natCast] at hj2
    simp only[r49_0]
    have f4:Ev F X (.call 74 [(.ptr ⟨(0,0,0),[],0,0,2⟩),(.agg [(.i v1),(.i v2),(.ref ⟨(1,1,0),[],0,(length (map d_si v3))⟩),(.ref ⟨(1,2,0),[],0,(length (map d_R v4))⟩),(.ref ⟨(1,3,0),[],0,(length (map d_si v5))⟩),(.i v6),(.i v7),(.i v8)])] [((1,3,0),⟨2,(map d_si v5),[]⟩),((1,2,0),⟨5,(map d_R v4),[]⟩),((1,1,0),⟨2,(map d_si v3),[]⟩),((0,0,0),⟨2,[[(.bor (l0_0+2) (map b_y a0.f0)),(.i v0)]],[]⟩)] [[[(.bor (l0_0+1) (map b_y a0.f0)),(.i ((o74_0 (K_LyEi.mk a0.f0 v0) (K_B.mk v1 v2 v3 v4 v5 v6 v7 v8)).f1))]]] [(.agg [(.i ((m74 (K_LyEi.mk a0.f0 v0) (K_B.mk v1 v2 v3 v4 v5 v6 v7 v8)).f0)),(.i ((m74 (K_LyEi.mk a0.f0 v0) (K_B.mk v1 v2 v3 v4 v5 v6 v7 v8)).f1)),(.own 2 (map d_si ((m74 (K_LyEi.mk a0.f0 v0) (K_B.mk v1 v2 v3 v4 v5 v6 v7 v8)).f2))),(.own 5 (map d_R ((m74 (K_LyEi.mk a0.f0 v0) (K_B.mk v1 v2 v3 v4 v5 v6 v7 v8)).f3))),(.own 2 (map d_si ((m74 (K_LyEi.mk a0.f0 v0) (K_B.mk v1 v2 v3 v4 v5 v6 v7 v8)).f4))),(.i ((m74 (K_LyEi.mk a0.f0 v0) (K_B.mk v1 v2 v3 v4 v5 v6 v7 v8)).f5)),(.i ((m74 (K_LyEi.mk a0.f0 v0) (K_B.mk v1 v2 v3 v4 v5 v6 v7 v8)).f6)),(.i ((m74 (K_LyEi.mk a0.f0 v0) (K_B.mk v1 v2 v3 v4 v5 v6 v7 v8)).f7))])]):=(e74 (a0:=(K_LyEi.mk a0.f0 v0)) (a1:=(K_B.mk v1 v2 v3 v4 v5 v6 v7 v8)) (by (repeat (first | with_reducible refine sm74 ?_ rfl | with_reducible refine sm30 _ ?_ rfl | with_reducible refine sm23 _ ?_ rfl | with_reducible refine sm51 ?_ rfl)); exact S_le (by assumption) (by omega)) (by with_reducible assumption))
    have st:=ch b49_0 (h49_0 l0_0 a0 i v0 v1 v2 v3 v4 v5 v6 v7 v8) ⟨[(0,(.ptr ⟨(0,0,0),[],0,0,2⟩)),(2,(.ptr ⟨(2,0,0),[],0,0,8⟩)),(3,(.ptr ⟨(3,0,0),[],0,0,8⟩)),(4,(.oi (wrap .i64 (i - 1))))],[((0,0,0),.live ⟨2,[[(.bor (l0_0+1) (map b_y a0.f0)),(.i ((o74_0 (K_LyEi.mk a0.f0 v0) (K_B.mk v1 v2 v3 v4 v5 v6 v7 v8)).f1))]],[]⟩),((2,0,0),.live ⟨8,[[(.i 0),(.i 0),(.own 2 []),(.own 5 []),(.own 2 []),(.i 0),(.i 0),(.i 0)]],[]⟩),((3,0,0),.live ⟨8,[[(.i ((m74 (K_LyEi.mk a0.f0 v0) (K_B.mk v1 v2 v3 v4 v5 v6 v7 v8)).f0)),(.i ((m74 (K_LyEi.mk a0.f0 v0) (K_B.mk v1 v2 v3 v4 v5 v6 v7 v8)).f1)),(.own 2 (map d_si ((m74 (K_LyEi.mk a0.f0 v0) (K_B.mk v1 v2 v3 v4 v5 v6 v7 v8)).f2))),(.own 5 (map d_R ((m74 (K_LyEi.mk a0.f0 v0) (K_B.mk v1 v2 v3 v4 v5 v6 v7 v8)).f3))),(.own 2 (map d_si ((m74 (K_LyEi.mk a0.f0 v0) (K_B.mk v1 v2 v3 v4 v5 v6 v7 v8)).f4))),(.i ((m74 (K_LyEi.mk a0.f0 v0) (K_B.mk v1 v2 v3 v4 v5 v6 v7 v8)).f5)),(.i ((m74 (K_LyEi.mk a0.f0 v0) (K_B.mk v1 v2 v3 v4 v5 v6 v7 v8)).f6)),(.i ((m74 (K_LyEi.mk a0.f0 v0) (K_B.mk v1 v2 v3 v4 v5 v6 v7 v8)).f7))]],[]⟩)]⟩ .normal 19 (by kernel_rfl) (.f hc (.f (pureR_si v3) (.f (pureR_R v4) (.f (pureR_si v5) (hT 4 (.r 10 [false,true,true,true] [] f4 (p3 ((m74 (K_LyEi.mk a0.f0 v0) (K_B.mk v1 v2 v3 v4 v5 v6 v7 v8)).f2) ((m74 (K_LyEi.mk a0.f0 v0) (K_B.mk v1 v2 v3 v4 v5 v6 v7 v8)).f3) ((m74 (K_LyEi.mk a0.f0 v0) (K_B.mk v1 v2 v3 v4 v5 v6 v7 v8)).f4) .nil)))))))
    have ih:=t49_0 (l0_0:=l0_0) (a0:=a0) hy0 n (i - 1) ((o74_0 (K_LyEi.mk a0.f0 v0) (K_B.mk v1 v2 v3 v4 v5 v6 v7 v8)).f1) ((m74 (K_LyEi.mk a0.f0 v0) (K_B.mk v1 v2 v3 v4 v5 v6 v7 v8)).f0) ((m74 (K_LyEi.mk a0.f0 v0) (K_B.mk v1 v2 v3 v4 v5 v6 v7 v8)).f1) ((m74 (K_LyEi.mk a0.f0 v0) (K_B.mk v1 v2 v3 v4 v5 v6 v7 v8)).f2) ((m74 (K_LyEi.mk a0.f0 v0) (K_B.mk v1 v2 v3 v4 v5 v6 v7 v8)).f3) ((m74 (K_LyEi.mk a0.f0 v0) (K_B.mk v1 v2 v3 v4 v5 v6 v7 v8)).f4) ((m74 (K_LyEi.mk a0.f0 v0) (K_B.mk v1 v2 v3 v4 v5 v6 v7 v8)).f5) ((m74 (K_LyEi.mk a0.f0 v0) (K_B.mk v1 v2 v3 v4 v5 v6 v7 v8)).f6) ((m74 (K_LyEi.mk a0.f0 v0) (K_B.mk v1 v2 v3 v4 v5 v6 v7 v8)).f7) (by omega) (by omega) (by (repeat (first | with_reducible refine sm74 ?_ rfl | with_reducible refine sm30 _ ?_ rfl | with_reducible refine sm23 _ ?_ rfl | with_reducible refine sm51 ?_ rfl)); exact S_le (by assumption) (by omega)) (by exact tuG (by with_reducible assumption))
    rw[show (⟨[(0,(.ptr ⟨(0,0,0),[],0,0,2⟩)),(2,(.ptr ⟨(2,0,0),[],0,0,8⟩)),(3,(.ptr ⟨(3,0,0),[],0,0,8⟩)),(4,(.oi (wrap .i64 (i - 1))))],[((0,0,0),.live ⟨2,[[(.bor (l0_0+1) (map b_y a0.f0)),(.i ((o74_0 (K_LyEi.mk a0.f0 v0) (K_B.mk v1 v2 v3 v4 v5 v6 v7 v8)).f1))]],[]⟩),((2,0,0),.live ⟨8,[[(.i 0),(.i 0),(.own 2 []),(.own 5 []),(.own 2 []),(.i 0),(.i 0),(.i 0)]],[]⟩),((3,0,0),.live ⟨8,[[(.i ((m74 (K_LyEi.mk a0.f0 v0) (K_B.mk v1 v2 v3 v4 v5 v6 v7 v8)).f0)),(.i ((m74 (K_LyEi.mk a0.f0 v0) (K_B.mk v1 v2 v3 v4 v5 v6 v7 v8)).f1)),(.own 2 (map d_si ((m74 (K_LyEi.mk a0.f0 v0) (K_B.mk v1 v2 v3 v4 v5 v6 v7 v8)).f2))),(.own 5 (map d_R ((m74 (K_LyEi.mk a0.f0 v0) (K_B.mk v1 v2 v3 v4 v5 v6 v7 v8)).f3))),(.own 2 (map d_si ((m74 (K_LyEi.mk a0.f0 v0) (K_B.mk v1 v2 v3 v4 v5 v6 v7 v8)).f4))),(.i ((m74 (K_LyEi.mk a0.f0 v0) (K_B.mk v1 v2 v3 v4 v5 v6 v7 v8)).f5)),(.i ((m74 (K_LyEi.mk a0.f0 v0) (K_B.mk v1 v2 v3 v4 v5 v6 v7 v8)).f6)),(.i ((m74 (K_LyEi.mk a0.f0 v0) (K_B.mk v1 v2 v3 v4 v5 v6 v7 v8)).f7))]],[]⟩)]⟩:St)=h49_0 l0_0 a0 (i - 1) ((o74_0 (K_LyEi.mk a0.f0 v0) (K_B.mk v1 v2 v3 v4 v5 v6 v7 v8)).f1) ((m74 (K_LyEi.mk a0.f0 v0) (K_B.mk v1 v2 v3 v4 v5 v6 v7 v8)).f0) ((m74 (K_LyEi.mk a0.f0 v0) (K_B.mk v1 v2 v3 v4 v5 v6 v7 v8)).f1) ((m74 (K_LyEi.mk a0.f0 v0) (K_B.mk v1 v2 v3 v4 v5 v6 v7 v8)).f2) ((m74 (K_LyEi.mk a0.f0 v0) (K_B.mk v1 v2 v3 v4 v5 v6 v7 v8)).f3) ((m74 (K_LyEi.mk a0.f0 v0) (K_B.mk v1 v2 v3 v4 v5 v6 v7 v8)).f4) ((m74 (K_LyEi.mk a0.f0 v0) (K_B.mk v1 v2 v3 v4 v5 v6 v7 v8)).f5) ((m74 (K_LyEi.mk a0.f0 v0) (K_B.mk v1 v2 v3 v4 v5 v6 v7 v8)).f6) ((m74 (K_LyEi.mk a0.f0 v0) (K_B.mk v1 v2 v3 v4 v5 v6 v7 v8)).f7) from(by unfold h49_0; simp only[hw]; done)] at st
    exact .loopN st ih
def o49_0 (a0:K_LyEi):K_LyEi:=
  (match r49_0 a0 (toNat (m23 (K_LyEi.mk a0.f0 ((o30_0 (K_LyEi.mk a0.f0 ((o30_0 a0 [1,4,12]).f1)) [0,10,333,1000]).f1)) 20)) (m23 (K_LyEi.mk a0.f0 ((o30_0 (K_LyEi.mk a0.f0 ((o30_0 a0 [1,4,12]).f1)) [0,10,333,1000]).f1)) 20) ((o23_0 (K_LyEi.mk a0.f0 ((o30_0 (K_LyEi.mk a0.f0 ((o30_0 a0 [1,4,12]).f1)) [0,10,333,1000]).f1)) 20).f1) (m30 a0 [1,4,12]) (m30 (K_LyEi.mk a0.f0 ((o30_0 a0 [1,4,12]).f1)) [0,10,333,1000]) [] [] [] 0 0 0 with | .k0 w0_3 w1_3 w2_3 w3_3 w4_3 w5_3 w6_3 w7_3 w8_3 w9_3 w10_3=>(K_LyEi.mk a0.f0 w0_3))
def m49 (a0:K_LyEi):K_B:=
  (match r49_0 a0 (toNat (m23 (K_LyEi.mk a0.f0 ((o30_0 (K_LyEi.mk a0.f0 ((o30_0 a0 [1,4,12]).f1)) [0,10,333,1000]).f1)) 20)) (m23 (K_LyEi.mk a0.f0 ((o30_0 (K_LyEi.mk a0.f0 ((o30_0 a0 [1,4,12]).f1)) [0,10,333,1000]).f1)) 20) ((o23_0 (K_LyEi.mk a0.f0 ((o30_0 (K_LyEi.mk a0.f0 ((o30_0 a0 [1,4,12]).f1)) [0,10,333,1000]).f1)) 20).f1) (m30 a0 [1,4,12]) (m30 (K_LyEi.mk a0.f0 ((o30_0 a0 [1,4,12]).f1)) [0,10,333,1000]) [] [] [] 0 0 0 with | .k0 w0_3 w1_3 w2_3 w3_3 w4_3 w5_3 w6_3 w7_3 w8_3 w9_3 w10_3=>(K_B.mk w1_3 w2_3 w3_3 w4_3 w5_3 w6_3 w7_3 w8_3))
theorem e49 {l0_0:Nat} {a0:K_LyEi} (hy0:S a0 80):Ev F X (.call 49 [(.ptr ⟨(0,0,0),[],0,0,2⟩)] [((0,0,0),⟨2,[[(.bor (l0_0+1) (map b_y a0.f0)),(.val (.int .i64 a0.f1))]],[]⟩)] [[[(.bor l0_0 (map b_y a0.f0)),(.val (.int .i64 ((o49_0 a0).f1)))]]] [(.agg (d_B (m49 a0)))]):=by
  unfold m49 o49_0
  have f0:3≤3:=(by omega)
  have f1:fullR (take 3 (drop 0 [[(.val (.int .i64 1))],[(.val (.int .i64 4))],[(.val (.int .i64 12))]]))=true:=(by trivial)
  have f2:toBR (take 3 (drop 0 [[(.val (.int .i64 1))],[(.val (.int .i64 4))],[(.val (.int .i64 12))]]))=[[(.val (.int .i64 1))],[(.val (.int .i64 4))],[(.val (.int .i64 12))]]:=(by trivial)
  have f4:4≤4:=(by omega)
  have f5:fullR (take 4 (drop 0 [[(.val (.int .i64 0))],[(.val (.int .i64 10))],[(.val (.int .i64 333))],[(.val (.int .i64 1000))]]))=true:=(by assumption)
  have f6:toBR (take 4 (drop 0 [[(.val (.int .i64 0))],[(.val (.int .i64 10))],[(.val (.int .i64 333))],[(.val (.int .i64 1000))]]))=[[(.val (.int .i64 0))],[(.val (.int .i64 10))],[(.val (.int .i64 333))],[(.val (.int .i64 1000))]]:=(by trivial)
  cases h0:r49_0 a0 (toNat (m23 (K_LyEi.mk a0.f0 ((o30_0 (K_LyEi.mk a0.f0 ((o30_0 a0 [1,4,12]).f1)) [0,10,333,1000]).f1)) 20)) (m23 (K_LyEi.mk a0.f0 ((o30_0 (K_LyEi.mk a0.f0 ((o30_0 a0 [1,4,12]).f1)) [0,10,333,1000]).f1)) 20) ((o23_0 (K_LyEi.mk a0.f0 ((o30_0 (K_LyEi.mk a0.f0 ((o30_0 a0 [1,4,12]).f1)) [0,10,333,1000]).f1)) 20).f1) (m30 a0 [1,4,12]) (m30 (K_LyEi.mk a0.f0 ((o30_0 a0 [1,4,12]).f1)) [0,10,333,1000]) [] [] [] 0 0 0 with
  |k0 w0_3 w1_3 w2_3 w3_3 w4_3 w5_3 w6_3 w7_3 w8_3 w9_3 w10_3=>
    try dsimp only
    have f9:(⟨[(0,(.ptr ⟨(0,0,0),[],0,0,2⟩)),(2,(.ptr ⟨(2,0,0),[],0,0,8⟩)),(3,(.ptr ⟨(3,0,0),[],0,0,8⟩)),(4,(.oi (m23 (K_LyEi.mk a0.f0 ((o30_0 (K_LyEi.mk a0.f0 ((o30_0 a0 [1,4,12]).f1)) [0,10,333,1000]).f1)) 20)))],[((0,0,0),.live ⟨2,[[(.bor (l0_0+1) (map b_y a0.f0)),(.i ((o23_0 (K_LyEi.mk a0.f0 ((o30_0 (K_LyEi.mk a0.f0 ((o30_0 a0 [1,4,12]).f1)) [0,10,333,1000]).f1)) 20).f1))]],[]⟩),((2,0,0),.live ⟨8,[[(.i 0),(.i 0),(.own 2 []),(.own 5 []),(.own 2 []),(.i 0),(.i 0),(.i 0)]],[]⟩),((3,0,0),.live ⟨8,[[(.i (m30 a0 [1,4,12])),(.i (m30 (K_LyEi.mk a0.f0 ((o30_0 a0 [1,4,12]).f1)) [0,10,333,1000])),(.own 2 []),(.own 5 []),(.own 2 []),(.i 0),(.i 0),(.i 0)]],[]⟩)]⟩:St)=h49_0 l0_0 a0 (m23 (K_LyEi.mk a0.f0 ((o30_0 (K_LyEi.mk a0.f0 ((o30_0 a0 [1,4,12]).f1)) [0,10,333,1000]).f1)) 20) ((o23_0 (K_LyEi.mk a0.f0 ((o30_0 (K_LyEi.mk a0.f0 ((o30_0 a0 [1,4,12]).f1)) [0,10,333,1000]).f1)) 20).f1) (m30 a0 [1,4,12]) (m30 (K_LyEi.mk a0.f0 ((o30_0 a0 [1,4,12]).f1)) [0,10,333,1000]) [] [] [] 0 0 0:=(by rfl)
    exact cq [false] (by kernel_rfl) (.f f0 (.f f1 (.f f2 (.r 7 [false] [[[(.val (.int .i64 1))],[(.val (.int .i64 4))],[(.val (.int .i64 12))]]] (e30 (l0_0:=(l0_0+1)) (l1_0:=0) (a0:=a0) (a1:=[1,4,12]) (by (repeat (first | with_reducible refine sm74 ?_ rfl | with_reducible refine sm30 _ ?_ rfl | with_reducible refine sm23 _ ?_ rfl | with_reducible refine sm51 ?_ rfl)); exact S_le (by assumption) (by omega)) (by simp; done) (by simp; done)) (.f f4 (.f f5 (.f f6 (.r 13 [false] [[[(.val (.int .i64 0))],[(.val (.int .i64 10))],[(.val (.int .i64 333))],[(.val (.int .i64 1000))]]] (e30 (l0_0:=(l0_0+1)) (l1_0:=0) (a0:=(K_LyEi.mk a0.f0 ((o30_0 a0 [1,4,12]).f1))) (a1:=[0,10,333,1000]) (by (repeat (first | with_reducible refine sm74 ?_ rfl | with_reducible refine sm30 _ ?_ rfl | with_reducible refine sm23 _ ?_ rfl | with_reducible refine sm51 ?_ rfl)); exact S_le (by assumption) (by omega)) (by simp; done) (by simp; done)) (.r 23 [false] [] (e23 (l0_0:=(l0_0+1)) (a0:=(K_LyEi.mk a0.f0 ((o30_0 (K_LyEi.mk a0.f0 ((o30_0 a0 [1,4,12]).f1)) [0,10,333,1000]).f1))) (a1:=20) (by (repeat (first | with_reducible refine sm74 ?_ rfl | with_reducible refine sm30 _ ?_ rfl | with_reducible refine sm23 _ ?_ rfl | with_reducible refine sm51 ?_ rfl)); exact S_le (by assumption) (by omega))) (.f f9 (.f (ev_ (e:=ex49_0) (g:=(fin49_0 l0_0 a0)) h0 (t49_0 (l0_0:=l0_0) (a0:=a0) (by assumption) _ (m23 (K_LyEi.mk a0.f0 ((o30_0 (K_LyEi.mk a0.f0 ((o30_0 a0 [1,4,12]).f1)) [0,10,333,1000]).f1)) 20) ((o23_0 (K_LyEi.mk a0.f0 ((o30_0 (K_LyEi.mk a0.f0 ((o30_0 a0 [1,4,12]).f1)) [0,10,333,1000]).f1)) 20).f1) (m30 a0 [1,4,12]) (m30 (K_LyEi.mk a0.f0 ((o30_0 a0 [1,4,12]).f1)) [0,10,333,1000]) [] [] [] 0 0 0 (by omega) (by have q:=dN hy0; omega) (by exact dS hy0) (by exact G0 hy0))) (pe 0 (pe (length (map d_si w3_3)) (pe 0 (pe (length (map d_R w4_3)) (pe 0 (pe (length (map d_si w5_3)) (.f (pureR_si w3_3) (.f (pureR_R w4_3) (.f (pureR_si w5_3) (.h 26 (.loop (h49_0 l0_0 a0 (m23 (K_LyEi.mk a0.f0 ((o30_0 (K_LyEi.mk a0.f0 ((o30_0 a0 [1,4,12]).f1)) [0,10,333,1000]).f1)) 20) ((o23_0 (K_LyEi.mk a0.f0 ((o30_0 (K_LyEi.mk a0.f0 ((o30_0 a0 [1,4,12]).f1)) [0,10,333,1000]).f1)) 20).f1) (m30 a0 [1,4,12]) (m30 (K_LyEi.mk a0.f0 ((o30_0 a0 [1,4,12]).f1)) [0,10,333,1000]) [] [] [] 0 0 0) (.exit 0) ⟨[(0,(.ptr ⟨(0,0,0),[],0,0,2⟩)),(2,(.ptr ⟨(2,0,0),[],0,0,8⟩)),(3,(.ptr ⟨(3,0,0),[],0,0,8⟩)),(4,(.one (.val (.int .i64 w9_3)))),(15,(.one (.val (.bool w10_3))))],[((0,0,0),.live ⟨2,[[(.bor (l0_0+1) (map b_y a0.f0)),(.val (.int .i64 w0_3))]],[]⟩),((2,0,0),.live ⟨8,[[(.val (.int .i64 0)),(.val (.int .i64 0)),(.own 2 []),(.own 5 []),(.own 2 []),(.val (.int .i64 0)),(.val (.int .i64 0)),(.val (.int .i64 0))]],[]⟩),((3,0,0),.live ⟨8,[[(.val (.int .i64 w1_3)),(.val (.int .i64 w2_3)),(.own 2 (map d_si w3_3)),(.own 5 (map d_R w4_3)),(.own 2 (map d_si w5_3)),(.val (.int .i64 w6_3)),(.val (.int .i64 w7_3)),(.val (.int .i64 w8_3))]],[]⟩)]⟩) .nil)))))))))))))))))))))
theorem rG49 (a:K_LyEi):∀(n:Nat) (i v0 v1 v2:Int) (v3:List K_si) (v4:List K_R) (v5:List K_si) (v6 v7 v8:Int) (m:Nat),S (K_LyEi.mk a.f0 v0) (3*n+m)→GL (K_B.mk v1 v2 v3 v4 v5 v6 v7 v8)→∀w0 w1 w2 w3 w4 w5 w6 w7 w8 w9 w10,r49_0 a n i v0 v1 v2 v3 v4 v5 v6 v7 v8=.k0 w0 w1 w2 w3 w4 w5 w6 w7 w8 w9 w10→S (K_LyEi.mk a.f0 w0) m∧GL (K_B.mk w1 w2 w3 w4 w5 w6 w7 w8)
  |0,i,v0,v1,v2,v3,v4,v5,v6,v7,v8,m,h,g,w0,w1,w2,w3,w4,w5,w6,w7,w8,w9,w10,e=>by
    simp only[r49_0] at e
    injection e with e0 e1 e2 e3 e4 e5 e6 e7 e8 e9 e10
    subst e0 e1 e2 e3 e4 e5 e6 e7 e8
    exact⟨S_le h yd,g⟩
  |n+1,i,v0,v1,v2,v3,v4,v5,v6,v7,v8,m,h,g,w0,w1,w2,w3,w4,w5,w6,w7,w8,w9,w10,e=>by
    simp only[r49_0] at e
    exact rG49 a n _ _ _ _ _ _ _ _ _ _ m (sm74 (S_le h yd) rfl) (tuG g) w0 w1 w2 w3 w4 w5 w6 w7 w8 w9 w10 e
theorem dG49 {a:K_LyEi} {m:Nat} (h:S a (m+80)):S (o49_0 a) m∧GL (m49 a):=by
  have h8:=dS (S_le h (show 80≤m+80 by omega))
  have q:=rng (zz a (o30_0 (zz a (o30_0 a [1,4,12])) [0,10,333,1000])) 20 (sm30 _ (sm30 _ (S_le h yd) rfl) rfl) yd yd
  have hS:S (zz a (o23_0 (zz a (o30_0 (zz a (o30_0 a [1,4,12])) [0,10,333,1000])) 20)) (3*toNat (m23 (zz a (o30_0 (zz a (o30_0 a [1,4,12])) [0,10,333,1000])) 20)+m):=sm23 _ (sm30 _ (sm30 _ (S_le h yd) rfl) rfl) rfl
  unfold o49_0 m49
  cases e:r49_0 a (toNat (m23 (zz a (o30_0 (zz a (o30_0 a [1,4,12])) [0,10,333,1000])) 20)) (m23 (zz a (o30_0 (zz a (o30_0 a [1,4,12])) [0,10,333,1000])) 20) ((o23_0 (zz a (o30_0 (zz a (o30_0 a [1,4,12])) [0,10,333,1000])) 20).f1) (m30 a [1,4,12]) (m30 (zz a (o30_0 a [1,4,12])) [0,10,333,1000]) [] [] [] 0 0 0 with
  |k0 w0 w1 w2 w3 w4 w5 w6 w7 w8 w9 w10=>
    exact rG49 a _ _ _ _ _ _ _ _ _ _ _ m hS (G0 (S_le h yd)) w0 w1 w2 w3 w4 w5 w6 w7 w8 w9 w10 e
theorem sm49 {a:K_LyEi} {n:Nat} {f:List Int} (h:S a (n+80)) (e:a.f0=f):S (K_LyEi.mk f ((o49_0 a).f1)) n:=by
  have e2:(o49_0 a).f0=a.f0:=by unfold o49_0; split; rfl
  rw[← e,← e2]; exact(dG49 h).1
inductive O75_0 where
  |k0 (w0:Int) (w1:List K_si) (w2:Int) (w3:Bool)
def r75_0 (a0:K_LyEi):Nat→Int→Int→List K_si→O75_0
  |n+1,i,v0,v1=>
    (r75_0 a0 n (i - 1) ((o30_0 (K_LyEi.mk a0.f0 ((o51_0 (K_LyEi.mk a0.f0 v0)).f1)) [1,2,3,7,9999]).f1) (v1++([(K_si.mk (m51 (K_LyEi.mk a0.f0 v0)) (m30 (K_LyEi.mk a0.f0 ((o51_0 (K_LyEi.mk a0.f0 v0)).f1)) [1,2,3,7,9999]))])))
  |0,i,v0,v1=>(O75_0.k0 v0 v1 i (decide (i > 0)))
def h75_0 (l0_0:Nat) (a0:K_LyEi) (i:Int) (v0:Int) (v1:List K_si):St:=⟨[(0,(.ptr ⟨(0,0,0),[],0,0,2⟩)),(3,(.one (.ref ⟨(3,0,0),[],0,(length (map d_si v1))⟩))),(4,(.one (.val (.int .i64 i))))],[((0,0,0),.live ⟨2,[[(.bor (l0_0+1) (map b_y a0.f0)),(.val (.int .i64 v0))]],[]⟩),((3,0,0),.live ⟨2,(map d_si v1),[]⟩)]⟩
def ex75_0:O75_0→VX.Exit
  |.k0 _ _ _ _=>(.exit 0)
def fin75_0 (l0_0:Nat) (a0:K_LyEi):O75_0→St
  |.k0 w0 w1 w2 w3=>⟨[(0,(.ptr ⟨(0,0,0),[],0,0,2⟩)),(3,(.one (.ref ⟨(3,0,0),[],0,(length (map d_si w1))⟩))),(4,(.one (.val (.int .i64 w2)))),(9,(.one (.val (.bool w3))))],[((0,0,0),.live ⟨2,[[(.bor (l0_0+1) (map b_y a0.f0)),(.val (.int .i64 w0))]],[]⟩),((3,0,0),.live ⟨2,(map d_si w1),[]⟩)]⟩
theorem t75_0 {l0_0:Nat} {a0:K_LyEi} (hy0:S a0 50):∀(n:Nat) (i:Int) (v0:Int) (v1:List K_si),n=toNat i→(length v1+n)*24≤70368744177664→i≤9223372036854775807→S (K_LyEi.mk a0.f0 v0) (2*n+1)→(n:Int)≤8→Ev F X (.code l75_0 (h75_0 l0_0 a0 i v0 v1) (ex75_0 (r75_0 a0 n i v0 v1)) (fin75_0 l0_0 a0 (r75_0 a0 n i v0 v1)))
  |0,i,v0,v1,hn,hi0,hi1,hi2,hi3=>by
    have hc:¬(decide (i > 0))=true:=by
      simp only[decide_eq_true_eq]; omega
    have st:=ch b75_0 (h75_0 l0_0 a0 i v0 v1) ⟨[(0,(.ptr ⟨(0,0,0),[],0,0,2⟩)),(3,(.one (.ref ⟨(3,0,0),[],0,(length (map d_si v1))⟩))),(4,(.oi i)),(9,(.one (.val (.bool (decide (i > 0))))))],[((0,0,0),.live ⟨2,[[(.bor (l0_0+1) (map b_y a0.f0)),(.i v0)]],[]⟩),((3,0,0),.live ⟨2,(map d_si v1),[]⟩)]⟩ (.exit 0) 5 (by kernel_rfl) (.f (nt hc) (U 4 .nil))
    rw[show (⟨[(0,(.ptr ⟨(0,0,0),[],0,0,2⟩)),(3,(.one (.ref ⟨(3,0,0),[],0,(length (map d_si v1))⟩))),(4,(.oi i)),(9,(.one (.val (.bool (decide (i > 0))))))],[((0,0,0),.live ⟨2,[[(.bor (l0_0+1) (map b_y a0.f0)),(.i v0)]],[]⟩),((3,0,0),.live ⟨2,(map d_si v1),[]⟩)]⟩:St)=fin75_0 l0_0 a0 (.k0 v0 v1 i (decide (i > 0))) from(by rfl)] at st
    exact .loopX st (show ((.exit 0):VX.Exit)≠.normal from by simp)
  |n+1,i,v0,v1,hn,hi0,hi1,hi2,hi3=>by
    have hc:(decide (i > 0))=true:=by
      simp only[decide_eq_true_eq]; omega
    have hw:wrap .i64 (i - 1)=i - 1:=wrap64 (by omega)
    have hj0:=hi0; try simp only[LN,Int.toNat_natCast] at hj0
    have hj1:=hi1; try simp only[LN,Int.toNat_natCast] at hj1
    have hj2:=hi2; try simp only[LN,Int.toNat_natCast] at hj2
    have hj3:=hi3; try simp only[LN,Int.toNat_natCast] at hj3
    simp only[r75_0]
    have f2:5≤5:=(by omega)
    have f3:fullR (take 5 (drop 0 [[(.i 1)],[(.i 2)],[(.i 3)],[(.i 7)],[(.i 9999)]]))=true:=(by trivial)
    have f4:toBR (take 5 (drop 0 [[(.i 1)],[(.i 2)],[(.i 3)],[(.i 7)],[(.i 9999)]]))=[[(.i 1)],[(.i 2)],[(.i 3)],[(.i 7)],[(.i 9999)]]:=(by trivial)
    have f6:0+(length (map d_si v1))≤(length (map d_si v1)):=(by omega)
    have f7:1≤1:=(by omega)
    have f8:((take 1 (drop 0 [[(.val (.string (m51 (K_LyEi.mk a0.f0 v0)))),(.i (m30 (zz a0 (o51_0 (K_LyEi.mk a0.f0 v0))) [1,2,3,7,9999]))]])).all fun x=>x.all copyable)=true:=(by assumption)
    have f9:(length ((take (length (map d_si v1)) (drop 0 (map d_si v1)))++([[(.val (.string (m51 (K_LyEi.mk a0.f0 v0)))),(.i (m30 (zz a0 (o51_0 (K_LyEi.mk a0.f0 v0))) [1,2,3,7,9999]))]]:List (List D))))*24≤70368744177664:=(by have q:=rng a0 8 (S_le (by assumption) (by omega)) (by omega) (by omega); simp; omega)
    have f10:∀r∈([[(.val (.string (m51 (K_LyEi.mk a0.f0 v0)))),(.i (m30 (zz a0 (o51_0 (K_LyEi.mk a0.f0 v0))) [1,2,3,7,9999]))]]:List (List D)),r.length=2:=(by unfold m51 m30;(repeat' split)<;>simp_all<;>omega)
    have f11:((take (length (map d_si v1)) (drop 0 (map d_si v1)))++([[(.val (.string (m51 (K_LyEi.mk a0.f0 v0)))),(.i (m30 (zz a0 (o51_0 (K_LyEi.mk a0.f0 v0))) [1,2,3,7,9999]))]]:List (List D)))=(map d_si (v1++([(K_si.mk (m51 (K_LyEi.mk a0.f0 v0)) (m30 (zz a0 (o51_0 (K_LyEi.mk a0.f0 v0))) [1,2,3,7,9999]))]))):=(by simp[take_of_length_le,d_si]; done)
    have st:=ch b75_0 (h75_0 l0_0 a0 i v0 v1) ⟨[(0,(.ptr ⟨(0,0,0),[],0,0,2⟩)),(3,(.one (.ref ⟨(3,0,0),[],0,(length ((take (length (map d_si v1)) (drop 0 (map d_si v1)))++([[(.val (.string (m51 (K_LyEi.mk a0.f0 v0)))),(.i (m30 (zz a0 (o51_0 (K_LyEi.mk a0.f0 v0))) [1,2,3,7,9999]))]]:List (List D))))⟩))),(4,(.oi (wrap .i64 (i - 1))))],[((0,0,0),.live ⟨2,[[(.bor (l0_0+1) (map b_y a0.f0)),(.i ((o30_0 (zz a0 (o51_0 (K_LyEi.mk a0.f0 v0))) [1,2,3,7,9999]).f1))]],[]⟩),((3,0,0),.live ⟨2,(map d_si (v1++([(K_si.mk (m51 (K_LyEi.mk a0.f0 v0)) (m30 (zz a0 (o51_0 (K_LyEi.mk a0.f0 v0))) [1,2,3,7,9999]))]))),[]⟩)]⟩ .normal 32 (by kernel_rfl) (.f hc (hT 4 (.r 10 [false] [] (e51 (l0_0:=(l0_0+1)) (a0:=(K_LyEi.mk a0.f0 v0)) (by (repeat (first | with_reducible refine sm30 _ ?_ rfl | with_reducible refine sm23 _ ?_ rfl | with_reducible refine sm51 ?_ rfl)); exact S_le (by assumption) (by omega))) (.f f2 (.f f3 (.f f4 (.r 16 [false] [[[(.i 1)],[(.i 2)],[(.i 3)],[(.i 7)],[(.i 9999)]]] (e30 (l0_0:=(l0_0+1)) (l1_0:=0) (a0:=(zz a0 (o51_0 (K_LyEi.mk a0.f0 v0)))) (a1:=[1,2,3,7,9999]) (by (repeat (first | with_reducible refine sm30 _ ?_ rfl | with_reducible refine sm23 _ ?_ rfl | with_reducible refine sm51 ?_ rfl)); exact S_le (by assumption) (by omega)) (by simp only[length_cons,length_nil]; omega) (by simp only[length_cons,length_nil]; omega)) (.f f6 (.f f7 (.f f8 (.f f9 (.f f10 (.f f11 (hT 22 (.h 25 (.norm (3,0,0) (map d_si (v1++([(K_si.mk (m51 (K_LyEi.mk a0.f0 v0)) (m30 (zz a0 (o51_0 (K_LyEi.mk a0.f0 v0))) [1,2,3,7,9999]))])))) .nil)))))))))))))))
    have ih:=t75_0 (l0_0:=l0_0) (a0:=a0) hy0 n (i - 1) ((o30_0 (zz a0 (o51_0 (K_LyEi.mk a0.f0 v0))) [1,2,3,7,9999]).f1) (v1++([(K_si.mk (m51 (K_LyEi.mk a0.f0 v0)) (m30 (zz a0 (o51_0 (K_LyEi.mk a0.f0 v0))) [1,2,3,7,9999]))])) (by omega) (by simp only[LN]; omega) (by omega) (by (repeat (first | with_reducible refine sm30 _ ?_ rfl | with_reducible refine sm23 _ ?_ rfl | with_reducible refine sm51 ?_ rfl)); exact S_le (by assumption) (by omega)) (by omega)
    rw[show (⟨[(0,(.ptr ⟨(0,0,0),[],0,0,2⟩)),(3,(.one (.ref ⟨(3,0,0),[],0,(length ((take (length (map d_si v1)) (drop 0 (map d_si v1)))++([[(.val (.string (m51 (K_LyEi.mk a0.f0 v0)))),(.i (m30 (zz a0 (o51_0 (K_LyEi.mk a0.f0 v0))) [1,2,3,7,9999]))]]:List (List D))))⟩))),(4,(.oi (wrap .i64 (i - 1))))],[((0,0,0),.live ⟨2,[[(.bor (l0_0+1) (map b_y a0.f0)),(.i ((o30_0 (zz a0 (o51_0 (K_LyEi.mk a0.f0 v0))) [1,2,3,7,9999]).f1))]],[]⟩),((3,0,0),.live ⟨2,(map d_si (v1++([(K_si.mk (m51 (K_LyEi.mk a0.f0 v0)) (m30 (zz a0 (o51_0 (K_LyEi.mk a0.f0 v0))) [1,2,3,7,9999]))]))),[]⟩)]⟩:St)=h75_0 l0_0 a0 (i - 1) ((o30_0 (zz a0 (o51_0 (K_LyEi.mk a0.f0 v0))) [1,2,3,7,9999]).f1) (v1++([(K_si.mk (m51 (K_LyEi.mk a0.f0 v0)) (m30 (zz a0 (o51_0 (K_LyEi.mk a0.f0 v0))) [1,2,3,7,9999]))])) from(by unfold h75_0; simp[hw,take_of_length_le,d_si]; done)] at st
    exact .loopN st ih
def post75_0 (n0:Nat):O75_0→Prop
  |.k0 _ w1 _ _=>length w1=n0
theorem z75_0 {a0:K_LyEi}:∀(n:Nat) (i:Int) (v0:Int) (v1:List K_si),post75_0 (length v1+n) (r75_0 a0 n i v0 v1)
  |0,i,v0,v1=>by
    first | trivial |(simp only[post75_0,length_nil,Nat.add_zero]; done) |(simp[post75_0]; done)
  |n+1,i,v0,v1=>by
    simp only[r75_0]
    have z:=z75_0 (a0:=a0) n (i - 1) ((o30_0 (zz a0 (o51_0 (K_LyEi.mk a0.f0 v0))) [1,2,3,7,9999]).f1) (v1++([(K_si.mk (m51 (K_LyEi.mk a0.f0 v0)) (m30 (zz a0 (o51_0 (K_LyEi.mk a0.f0 v0))) [1,2,3,7,9999]))]))
    rw[show (length v1+(n+1))=(length (v1++([(K_si.mk (m51 (K_LyEi.mk a0.f0 v0)) (m30 (zz a0 (o51_0 (K_LyEi.mk a0.f0 v0))) [1,2,3,7,9999]))]))+n) from by first | omega |(simp only[LN]; done) |(simp only[LN]; omega)]
    exact z
def o75_0 (a0:K_LyEi):K_LyEi:=
  (match r75_0 a0 (toNat (m23 a0 8)) (m23 a0 8) ((o23_0 a0 8).f1) ([]) with | .k0 w0_1 w1_1 w2_1 w3_1=>(K_LyEi.mk a0.f0 w0_1))
def m75 (a0:K_LyEi):(List K_si):=
  (match r75_0 a0 (toNat (m23 a0 8)) (m23 a0 8) ((o23_0 a0 8).f1) ([]) with | .k0 w0_1 w1_1 w2_1 w3_1=>w1_1)
theorem e75 {l0_0:Nat} {a0:K_LyEi} (hy0:S a0 50):Ev F X (.call 75 [(.ptr ⟨(0,0,0),[],0,0,2⟩)] [((0,0,0),⟨2,[[(.bor (l0_0+1) (map b_y a0.f0)),(.val (.int .i64 a0.f1))]],[]⟩)] [[[(.bor l0_0 (map b_y a0.f0)),(.val (.int .i64 ((o75_0 a0).f1)))]]] [(.one (.own 2 (map d_si (m75 a0))))]):=by
  unfold m75 o75_0
  cases h0:r75_0 a0 (toNat (m23 a0 8)) (m23 a0 8) ((o23_0 a0 8).f1) ([]) with
  |k0 w0_1 w1_1 w2_1 w3_1=>
    try dsimp only
    have zh0:=z75_0 (a0:=a0) (toNat (m23 a0 8)) (m23 a0 8) ((o23_0 a0 8).f1) ([]); rw[h0] at zh0; simp only[post75_0,length_map,length_set,length_append,length_replicate,length_cons,length_nil,Int.toNat_natCast] at zh0
    have f1:(⟨[(0,(.ptr ⟨(0,0,0),[],0,0,2⟩)),(3,(.one (.ref ⟨(3,0,0),[],0,0⟩))),(4,(.oi (m23 a0 8)))],[((0,0,0),.live ⟨2,[[(.bor (l0_0+1) (map b_y a0.f0)),(.i ((o23_0 a0 8).f1))]],[]⟩),((3,0,0),.live ⟨2,[],[]⟩)]⟩:St)=h75_0 l0_0 a0 (m23 a0 8) ((o23_0 a0 8).f1) ([]):=(by rfl)
    exact cq [false] (by kernel_rfl) (.r 9 [false] [] (e23 (l0_0:=(l0_0+1)) (a0:=a0) (a1:=8) (by (repeat (first | with_reducible refine sm30 _ ?_ rfl | with_reducible refine sm23 _ ?_ rfl | with_reducible refine sm51 ?_ rfl)); exact S_le (by assumption) (by omega))) (.f f1 (.f (ev_ (e:=ex75_0) (g:=(fin75_0 l0_0 a0)) h0 (t75_0 (l0_0:=l0_0) (a0:=a0) (by assumption) _ (m23 a0 8) ((o23_0 a0 8).f1) ([]) (by omega) (by have q:=rng a0 8 (S_le (by assumption) (by omega)) (by omega) (by omega); simp; omega) (by have q:=rng a0 8 (S_le (by assumption) (by omega)) (by omega) (by omega); omega) (by have q:=rng a0 8 (S_le (by assumption) (by omega)) (by omega) (by omega);(repeat (first | with_reducible refine sm30 _ ?_ rfl | with_reducible refine sm23 _ ?_ rfl | with_reducible refine sm51 ?_ rfl)); exact S_le (by assumption) (by omega)) (by have q:=rng a0 8 (S_le (by assumption) (by omega)) (by omega) (by omega); omega))) (pe 0 (pe (length (map d_si w1_1)) (.f (pureR_si w1_1) (.h 12 (.loop (h75_0 l0_0 a0 (m23 a0 8) ((o23_0 a0 8).f1) ([])) (.exit 0) ⟨[(0,(.ptr ⟨(0,0,0),[],0,0,2⟩)),(3,(.one (.ref ⟨(3,0,0),[],0,(length (map d_si w1_1))⟩))),(4,(.oi w2_1)),(9,(.one (.val (.bool w3_1))))],[((0,0,0),.live ⟨2,[[(.bor (l0_0+1) (map b_y a0.f0)),(.i w0_1)]],[]⟩),((3,0,0),.live ⟨2,(map d_si w1_1),[]⟩)]⟩) .nil)))))))
theorem sr75 (a0:K_LyEi):∀(n:Nat) (i v0:Int) (v1:List K_si) (m:Nat),S (K_LyEi.mk a0.f0 v0) (2*n+m)→∃w0 w1 w2 w3,r75_0 a0 n i v0 v1=.k0 w0 w1 w2 w3∧S (K_LyEi.mk a0.f0 w0) m
  |0,i,v0,v1,m,h=>⟨_,_,_,_,rfl,S_le h yd⟩
  |n+1,i,v0,v1,m,h=>by
    simp only[r75_0]
    exact sr75 a0 n _ _ _ m (sm30 _ (sm51 (S_le h yd) rfl) rfl)
theorem st75 {a:K_LyEi} {n:Nat} (h:S a (n+17)):S (o75_0 a) n:=by
  have q:=rng a 8 (S_le h yd) yd yd
  obtain⟨w0,w1,w2,w3,e,hs⟩:=sr75 a (toNat (m23 a 8)) (m23 a 8) ((o23_0 a 8).f1) [] n (sm23 8 (S_le h yd) rfl)
  unfold o75_0
  rw[e]; exact hs
theorem sm75 {a:K_LyEi} {n:Nat} {f:List Int} (h:S a (n+17)) (e:a.f0=f):S (K_LyEi.mk f ((o75_0 a).f1)) n:=by subst e; exact st75 h
theorem len75 {a:K_LyEi} (h:S a 50):(m75 a).length≤8:=by
  have q:=rng a 8 (S_le h yd) yd yd
  have z:=z75_0 (a0:=a) (toNat (m23 a 8)) (m23 a 8) ((o23_0 a 8).f1) []
  unfold m75
  cases hr:r75_0 a (toNat (m23 a 8)) (m23 a 8) ((o23_0 a 8).f1) [] with
  |k0 w0 w1 w2 w3=>rw[hr] at z; simp only[post75_0,length_nil] at z; simp only[]; omega
theorem szr (a0:K_LyEi):∀(n:Nat) (i v0:Int) (v1:List K_si),(∀z∈v1,ByteArray.size z.f0≤3)→∀w0 w1 w2 w3,r75_0 a0 n i v0 v1=.k0 w0 w1 w2 w3→∀z∈w1,ByteArray.size z.f0≤3
  |0,i,v0,v1,h,w0,w1,w2,w3,e=>by
    simp only[r75_0] at e
    injection e with e0 e1 e2 e3
    subst e1; exact h
  |n+1,i,v0,v1,h,w0,w1,w2,w3,e=>by
    simp only[r75_0] at e
    refine szr a0 n _ _ _ ?_ w0 w1 w2 w3 e
    intro z hz
    rcases List.mem_append.1 hz with hz | hz
    · exact h z hz
    rw[List.mem_singleton.1 hz]; exact wsz _
theorem dsz (a:K_LyEi):∀z∈m75 a,ByteArray.size z.f0≤3:=by
  unfold m75
  cases hr:r75_0 a (toNat (m23 a 8)) (m23 a 8) ((o23_0 a 8).f1) [] with
  |k0 w0 w1 w2 w3=>exact szr a _ _ _ [] yax w0 w1 w2 w3 hr
def o50_0 (a0:K_LyEi):K_LyEi:=
  if((m23 (K_LyEi.mk a0.f0 ((o75_0 a0).f1)) 12)==0)=true then(K_LyEi.mk a0.f0 ((o30_0 (K_LyEi.mk a0.f0 ((o23_0 (K_LyEi.mk a0.f0 ((o23_0 (K_LyEi.mk a0.f0 ((o75_0 a0).f1)) 12).f1)) 3).f1)) [0,1,10000]).f1)) else
  (K_LyEi.mk a0.f0 ((o23_0 (K_LyEi.mk a0.f0 ((o75_0 a0).f1)) 12).f1))
def m50 (a0:K_LyEi):(List K_si):=
  if((m23 (K_LyEi.mk a0.f0 ((o75_0 a0).f1)) 12)==0)=true then((m75 a0)++([(K_si.mk (getD ([(⟨#[]⟩:ByteArray),(⟨#[97,32,98]⟩:ByteArray),(⟨#[111,107]⟩:ByteArray)]) (toNat (m23 (K_LyEi.mk a0.f0 ((o23_0 (K_LyEi.mk a0.f0 ((o75_0 a0).f1)) 12).f1)) 3)) (⟨#[]⟩:ByteArray)) (m30 (K_LyEi.mk a0.f0 ((o23_0 (K_LyEi.mk a0.f0 ((o23_0 (K_LyEi.mk a0.f0 ((o75_0 a0).f1)) 12).f1)) 3).f1)) [0,1,10000]))])) else
  if((m23 (K_LyEi.mk a0.f0 ((o75_0 a0).f1)) 12)==1)=true then[(K_si.mk (⟨#[]⟩:ByteArray) 0),(K_si.mk (⟨#[]⟩:ByteArray) 0),(K_si.mk (⟨#[]⟩:ByteArray) 0),(K_si.mk (⟨#[]⟩:ByteArray) 0),(K_si.mk (⟨#[]⟩:ByteArray) 0),(K_si.mk (⟨#[]⟩:ByteArray) 0),(K_si.mk (⟨#[]⟩:ByteArray) 0),(K_si.mk (⟨#[]⟩:ByteArray) 0),(K_si.mk (⟨#[]⟩:ByteArray) 0),(K_si.mk (⟨#[]⟩:ByteArray) 0),(K_si.mk (⟨#[]⟩:ByteArray) 0),(K_si.mk (⟨#[]⟩:ByteArray) 0),(K_si.mk (⟨#[]⟩:ByteArray) 0)] else
    (m75 a0)
theorem e50 {l0_0:Nat} {a0:K_LyEi} (hy0:S a0 60):Ev F X (.call 50 [(.ptr ⟨(0,0,0),[],0,0,2⟩)] [((0,0,0),⟨2,[[(.bor (l0_0+1) (map b_y a0.f0)),(.val (.int .i64 a0.f1))]],[]⟩)] [[[(.bor l0_0 (map b_y a0.f0)),(.val (.int .i64 ((o50_0 a0).f1)))]]] [(.one (.own 2 (map d_si (m50 a0))))]):=by
  unfold m50 o50_0
  have P0 {hs q} (r:PS F X hs q):=(PS.r 5 [false] [] (e75 (l0_0:=(l0_0+1)) (a0:=a0) yx) (.r 11 [false] [] (e23 (l0_0:=(l0_0+1)) (a0:=(zz a0 (o75_0 a0))) (a1:=12) yx) r))
  by_cases h0:((m23 (zz a0 (o75_0 a0)) 12)==0)=true
  · try simp only[if_pos h0]
    have f4:3≤3:=yd
    have f5:0≤(m23 (zz a0 (o23_0 (zz a0 (o75_0 a0)) 12)) 3)∧(m23 (zz a0 (o23_0 (zz a0 (o75_0 a0)) 12)) 3) <(3:Int):=(by exact rng _ _ yx yd yd)
    have f6:([[(.val (.string (⟨#[]⟩:ByteArray)))],[(.val (.string (⟨#[97,32,98]⟩:ByteArray)))],[(.val (.string (⟨#[111,107]⟩:ByteArray)))]]:List (List D))[(0+(toNat (m23 (zz a0 (o23_0 (zz a0 (o75_0 a0)) 12)) 3)))]?=some [(.val (.string (getD ([(⟨#[]⟩:ByteArray),(⟨#[97,32,98]⟩:ByteArray),(⟨#[111,107]⟩:ByteArray)]) (toNat (m23 (zz a0 (o23_0 (zz a0 (o75_0 a0)) 12)) 3)) (⟨#[]⟩:ByteArray))))]:=(show (map d_s [(⟨#[]⟩:ByteArray),(⟨#[97,32,98]⟩:ByteArray),(⟨#[111,107]⟩:ByteArray)])[(0+(toNat (m23 (zz a0 (o23_0 (zz a0 (o75_0 a0)) 12)) 3)))]?=some [(.val (.string (getD ([(⟨#[]⟩:ByteArray),(⟨#[97,32,98]⟩:ByteArray),(⟨#[111,107]⟩:ByteArray)]) (toNat (m23 (zz a0 (o23_0 (zz a0 (o75_0 a0)) 12)) 3)) (⟨#[]⟩:ByteArray))))] from(by rw[Nat.zero_add,getElem?_map,getD_at ([(⟨#[]⟩:ByteArray),(⟨#[97,32,98]⟩:ByteArray),(⟨#[111,107]⟩:ByteArray)]) (toNat (m23 (zz a0 (o23_0 (zz a0 (o75_0 a0)) 12)) 3)) (⟨#[]⟩:ByteArray) (by first | exact True.intro | with_reducible rfl | with_reducible assumption | omega |((repeat (first | with_reducible refine sm75 ?_ rfl | with_reducible refine sm30 _ ?_ rfl | with_reducible refine sm23 _ ?_ rfl | with_reducible refine sm51 ?_ rfl)); exact S_le (by assumption) yd) |(exact rng _ _ yx yd yd) |(have q:=len75 (a:=a0) (S_le hy0 yd); simp only[length_map,length_append,length_cons,length_nil,length_take,length_drop]; omega) |(simp; done) |(unfold m23;(repeat' split)<;>simp_all<;>omega) |(simp only[decide_eq_true_eq] at*; omega) |(simp only[length_cons,length_nil]; omega) |(simp; omega) |(simp[take_of_length_le]; done) | assumption | trivial |(simp[*,byteRows_eq,ints_y]; done))]; rfl))
    have f8:fullR (take 3 (drop 0 [[(.i 0)],[(.i 1)],[(.i 10000)]]))=true:=yA
    have f9:toBR (take 3 (drop 0 [[(.i 0)],[(.i 1)],[(.i 10000)]]))=[[(.i 0)],[(.i 1)],[(.i 10000)]]:=yA
    have f11:0+(length (map d_si (m75 a0)))≤(length (map d_si (m75 a0))):=yd
    have f12:1≤1:=yd
    have f13:((take 1 (drop 0 [[(.val (.string (getD ([(⟨#[]⟩:ByteArray),(⟨#[97,32,98]⟩:ByteArray),(⟨#[111,107]⟩:ByteArray)]) (toNat (m23 (zz a0 (o23_0 (zz a0 (o75_0 a0)) 12)) 3)) (⟨#[]⟩:ByteArray)))),(.i (m30 (zz a0 (o23_0 (zz a0 (o23_0 (zz a0 (o75_0 a0)) 12)) 3)) [0,1,10000]))]])).all fun x=>x.all copyable)=true:=(by assumption)
    have f14:(length ((take (length (map d_si (m75 a0))) (drop 0 (map d_si (m75 a0))))++([[(.val (.string (getD ([(⟨#[]⟩:ByteArray),(⟨#[97,32,98]⟩:ByteArray),(⟨#[111,107]⟩:ByteArray)]) (toNat (m23 (zz a0 (o23_0 (zz a0 (o75_0 a0)) 12)) 3)) (⟨#[]⟩:ByteArray)))),(.i (m30 (zz a0 (o23_0 (zz a0 (o23_0 (zz a0 (o75_0 a0)) 12)) 3)) [0,1,10000]))]]:List (List D))))*24≤70368744177664:=yM
    have f15:∀r∈([[(.val (.string (getD ([(⟨#[]⟩:ByteArray),(⟨#[97,32,98]⟩:ByteArray),(⟨#[111,107]⟩:ByteArray)]) (toNat (m23 (zz a0 (o23_0 (zz a0 (o75_0 a0)) 12)) 3)) (⟨#[]⟩:ByteArray)))),(.i (m30 (zz a0 (o23_0 (zz a0 (o23_0 (zz a0 (o75_0 a0)) 12)) 3)) [0,1,10000]))]]:List (List D)),r.length=2:=yP
    have f16:((take (length (map d_si (m75 a0))) (drop 0 (map d_si (m75 a0))))++([[(.val (.string (getD ([(⟨#[]⟩:ByteArray),(⟨#[97,32,98]⟩:ByteArray),(⟨#[111,107]⟩:ByteArray)]) (toNat (m23 (zz a0 (o23_0 (zz a0 (o75_0 a0)) 12)) 3)) (⟨#[]⟩:ByteArray)))),(.i (m30 (zz a0 (o23_0 (zz a0 (o23_0 (zz a0 (o75_0 a0)) 12)) 3)) [0,1,10000]))]]:List (List D)))=(map d_si ((m75 a0)++([(K_si.mk (getD ([(⟨#[]⟩:ByteArray),(⟨#[97,32,98]⟩:ByteArray),(⟨#[111,107]⟩:ByteArray)]) (toNat (m23 (zz a0 (o23_0 (zz a0 (o75_0 a0)) 12)) 3)) (⟨#[]⟩:ByteArray)) (m30 (zz a0 (o23_0 (zz a0 (o23_0 (zz a0 (o75_0 a0)) 12)) 3)) [0,1,10000]))]))):=yH
    have f18:(length ((take (length (map d_si (m75 a0))) (drop 0 (map d_si (m75 a0))))++([[(.val (.string (getD ([(⟨#[]⟩:ByteArray),(⟨#[97,32,98]⟩:ByteArray),(⟨#[111,107]⟩:ByteArray)]) (toNat (m23 (zz a0 (o23_0 (zz a0 (o75_0 a0)) 12)) 3)) (⟨#[]⟩:ByteArray)))),(.i (m30 (zz a0 (o23_0 (zz a0 (o23_0 (zz a0 (o75_0 a0)) 12)) 3)) [0,1,10000]))]]:List (List D))))=(length (map d_si ((m75 a0)++([(K_si.mk (getD ([(⟨#[]⟩:ByteArray),(⟨#[97,32,98]⟩:ByteArray),(⟨#[111,107]⟩:ByteArray)]) (toNat (m23 (zz a0 (o23_0 (zz a0 (o75_0 a0)) 12)) 3)) (⟨#[]⟩:ByteArray)) (m30 (zz a0 (o23_0 (zz a0 (o23_0 (zz a0 (o75_0 a0)) 12)) 3)) [0,1,10000]))])))):=yM
    exact cq [false] ya (P0 (.f h0 (hT 16 (.r 24 [false] [] (e23 (l0_0:=(l0_0+1)) (a0:=(zz a0 (o23_0 (zz a0 (o75_0 a0)) 12))) (a1:=3) yx) (.f f4 (.f f5 (.f f6 (.f f4 (.f f8 (.f f9 (.h 28 (.rowD [(.val (.string (getD ([(⟨#[]⟩:ByteArray),(⟨#[97,32,98]⟩:ByteArray),(⟨#[111,107]⟩:ByteArray)]) (toNat (m23 (zz a0 (o23_0 (zz a0 (o75_0 a0)) 12)) 3)) (⟨#[]⟩:ByteArray))))]) (.r 34 [false] [[[(.i 0)],[(.i 1)],[(.i 10000)]]] (e30 (l0_0:=(l0_0+1)) (l1_0:=0) (a0:=(zz a0 (o23_0 (zz a0 (o23_0 (zz a0 (o75_0 a0)) 12)) 3))) (a1:=[0,1,10000]) yx yM yM) (.f f11 (.f f12 (.f f13 (.f f14 (.f f15 (.f f16 (pe 0 (.f f18 (.f (pureR_si ((m75 a0)++([(K_si.mk (getD ([(⟨#[]⟩:ByteArray),(⟨#[97,32,98]⟩:ByteArray),(⟨#[111,107]⟩:ByteArray)]) (toNat (m23 (zz a0 (o23_0 (zz a0 (o75_0 a0)) 12)) 3)) (⟨#[]⟩:ByteArray)) (m30 (zz a0 (o23_0 (zz a0 (o23_0 (zz a0 (o75_0 a0)) 12)) 3)) [0,1,10000]))]))) (hT 40 (.h 43 (.norm (3,0,0) (map d_si ((m75 a0)++([(K_si.mk (getD ([(⟨#[]⟩:ByteArray),(⟨#[97,32,98]⟩:ByteArray),(⟨#[111,107]⟩:ByteArray)]) (toNat (m23 (zz a0 (o23_0 (zz a0 (o75_0 a0)) 12)) 3)) (⟨#[]⟩:ByteArray)) (m30 (zz a0 (o23_0 (zz a0 (o23_0 (zz a0 (o75_0 a0)) 12)) 3)) [0,1,10000]))])))) .nil)))))))))))))))))))))))
  try simp only[if_neg h0]
  by_cases h1:((m23 (zz a0 (o75_0 a0)) 12)==1)=true
  · try simp only[if_pos h1]
    have f4:0≤(13:Int)∧(13:Int)≤(13:Int)∧(13:Int)≤140737488355328∧(13:Int)*24≤140737488355328:=yd
    have f7:pureR [[(.val (.string (⟨#[]⟩:ByteArray))),(.i 0)],[(.val (.string (⟨#[]⟩:ByteArray))),(.i 0)],[(.val (.string (⟨#[]⟩:ByteArray))),(.i 0)],[(.val (.string (⟨#[]⟩:ByteArray))),(.i 0)],[(.val (.string (⟨#[]⟩:ByteArray))),(.i 0)],[(.val (.string (⟨#[]⟩:ByteArray))),(.i 0)],[(.val (.string (⟨#[]⟩:ByteArray))),(.i 0)],[(.val (.string (⟨#[]⟩:ByteArray))),(.i 0)],[(.val (.string (⟨#[]⟩:ByteArray))),(.i 0)],[(.val (.string (⟨#[]⟩:ByteArray))),(.i 0)],[(.val (.string (⟨#[]⟩:ByteArray))),(.i 0)],[(.val (.string (⟨#[]⟩:ByteArray))),(.i 0)],[(.val (.string (⟨#[]⟩:ByteArray))),(.i 0)]]=true:=yA
    exact cq [false] ya (P0 (N h0 (.f h1 (.f f4 (pe 0 (pe 13 (.f f7 (U 16 (hT 21 .nil)))))))))
  try simp only[if_neg h1]
  exact cq [false] ya (P0 (N h0 (N h1 (pe 0 (pe (length (map d_si (m75 a0))) (.f (pureR_si (m75 a0)) (U 16 (U 21 .nil))))))))
theorem st50 {a:K_LyEi} {n:Nat} (h:S a (n+25)):S (o50_0 a) n:=by
  unfold o50_0
  (repeat' split)<;>((repeat (first | with_reducible refine sm75 ?_ rfl | with_reducible refine sm30 _ ?_ rfl | with_reducible refine sm23 _ ?_ rfl | with_reducible refine sm51 ?_ rfl)); exact S_le h yd)
theorem sm50 {a:K_LyEi} {n:Nat} {f:List Int} (h:S a (n+25)) (e:a.f0=f):S (K_LyEi.mk f ((o50_0 a).f1)) n:=by
  have e2:(o50_0 a).f0=a.f0:=by unfold o50_0;(repeat' split)<;>rfl
  rw[← e,← e2]; exact st50 h
theorem len50 {a:K_LyEi} (h:S a 60):(m50 a).length≤13:=by
  have q:=len75 (a:=a) (S_le h yd)
  unfold m50
  (repeat' split)<;>simp<;>omega
theorem bsz (a:K_LyEi):∀z∈m50 a,ByteArray.size z.f0≤3:=by
  unfold m50
  split
  · intro z hz
    rcases List.mem_append.1 hz with hz | hz
    · exact dsz a z hz
    rw[List.mem_singleton.1 hz]; exact gsz _ (by decide) _
  split
  · intro z hz
    simp at hz
    rw[hz]; simp[ByteArray.size]
  exact dsz a
def o22_0 (a0:K_LyEi):K_LyEi:=
  if((m23 (K_LyEi.mk a0.f0 ((o49_0 a0).f1)) 14)==0)=true then(K_LyEi.mk a0.f0 ((o30_0 (K_LyEi.mk a0.f0 ((o23_0 (K_LyEi.mk a0.f0 ((o49_0 a0).f1)) 14).f1)) [0,1,13]).f1)) else
  if((m23 (K_LyEi.mk a0.f0 ((o49_0 a0).f1)) 14)==1)=true then(K_LyEi.mk a0.f0 ((o30_0 (K_LyEi.mk a0.f0 ((o23_0 (K_LyEi.mk a0.f0 ((o49_0 a0).f1)) 14).f1)) [(-1),3,1000001]).f1)) else
    if((m23 (K_LyEi.mk a0.f0 ((o49_0 a0).f1)) 14)==2)=true then(K_LyEi.mk a0.f0 ((o50_0 (K_LyEi.mk a0.f0 ((o23_0 (K_LyEi.mk a0.f0 ((o49_0 a0).f1)) 14).f1))).f1)) else
      if((m23 (K_LyEi.mk a0.f0 ((o49_0 a0).f1)) 14)==3)=true then(K_LyEi.mk a0.f0 ((o30_0 (K_LyEi.mk a0.f0 ((o51_0 (K_LyEi.mk a0.f0 ((o23_0 (K_LyEi.mk a0.f0 ((o49_0 a0).f1)) 14).f1))).f1)) [0,5]).f1)) else
        if((m23 (K_LyEi.mk a0.f0 ((o49_0 a0).f1)) 14)==4)=true then(K_LyEi.mk a0.f0 ((o30_0 (K_LyEi.mk a0.f0 ((o30_0 (K_LyEi.mk a0.f0 ((o23_0 (K_LyEi.mk a0.f0 ((o23_0 (K_LyEi.mk a0.f0 ((o49_0 a0).f1)) 14).f1)) 5).f1)) [0,1,2]).f1)) [0,5]).f1)) else
          (K_LyEi.mk a0.f0 ((o23_0 (K_LyEi.mk a0.f0 ((o49_0 a0).f1)) 14).f1))
def m22 (a0:K_LyEi):K_B:=
  if((m23 (K_LyEi.mk a0.f0 ((o49_0 a0).f1)) 14)==0)=true then(K_B.mk (m30 (K_LyEi.mk a0.f0 ((o23_0 (K_LyEi.mk a0.f0 ((o49_0 a0).f1)) 14).f1)) [0,1,13]) ((m49 a0).f1) ((m49 a0).f2) ((m49 a0).f3) ((m49 a0).f4) ((m49 a0).f5) ((m49 a0).f6) ((m49 a0).f7)) else
  if((m23 (K_LyEi.mk a0.f0 ((o49_0 a0).f1)) 14)==1)=true then(K_B.mk ((m49 a0).f0) ((m49 a0).f1) ((m49 a0).f2) ((m49 a0).f3) ((m49 a0).f4) ((m49 a0).f5) (m30 (K_LyEi.mk a0.f0 ((o23_0 (K_LyEi.mk a0.f0 ((o49_0 a0).f1)) 14).f1)) [(-1),3,1000001]) ((m49 a0).f7)) else
    if((m23 (K_LyEi.mk a0.f0 ((o49_0 a0).f1)) 14)==2)=true then(K_B.mk ((m49 a0).f0) ((m49 a0).f1) (m50 (K_LyEi.mk a0.f0 ((o23_0 (K_LyEi.mk a0.f0 ((o49_0 a0).f1)) 14).f1))) ((m49 a0).f3) ((m49 a0).f4) ((m49 a0).f5) ((m49 a0).f6) ((m49 a0).f7)) else
      if((m23 (K_LyEi.mk a0.f0 ((o49_0 a0).f1)) 14)==3)=true then(K_B.mk ((m49 a0).f0) ((m49 a0).f1) ((m49 a0).f2) ((m49 a0).f3) (((m49 a0).f4)++([(K_si.mk (m51 (K_LyEi.mk a0.f0 ((o23_0 (K_LyEi.mk a0.f0 ((o49_0 a0).f1)) 14).f1))) (m30 (K_LyEi.mk a0.f0 ((o51_0 (K_LyEi.mk a0.f0 ((o23_0 (K_LyEi.mk a0.f0 ((o49_0 a0).f1)) 14).f1))).f1)) [0,5]))])) ((m49 a0).f5) ((m49 a0).f6) ((m49 a0).f7)) else
        if((m23 (K_LyEi.mk a0.f0 ((o49_0 a0).f1)) 14)==4)=true then(K_B.mk ((m49 a0).f0) ((m49 a0).f1) ((m49 a0).f2) (((m49 a0).f3)++([(K_R.mk (m23 (K_LyEi.mk a0.f0 ((o23_0 (K_LyEi.mk a0.f0 ((o49_0 a0).f1)) 14).f1)) 5) (m30 (K_LyEi.mk a0.f0 ((o30_0 (K_LyEi.mk a0.f0 ((o23_0 (K_LyEi.mk a0.f0 ((o23_0 (K_LyEi.mk a0.f0 ((o49_0 a0).f1)) 14).f1)) 5).f1)) [0,1,2]).f1)) [0,5]) 0 [] (m30 (K_LyEi.mk a0.f0 ((o23_0 (K_LyEi.mk a0.f0 ((o23_0 (K_LyEi.mk a0.f0 ((o49_0 a0).f1)) 14).f1)) 5).f1)) [0,1,2]))])) ((m49 a0).f4) ((m49 a0).f5) ((m49 a0).f6) ((m49 a0).f7)) else
          (m49 a0)
theorem e22 {l0_0:Nat} {a0:K_LyEi} (hy0:S a0 180):Ev F X (.call 22 [(.ptr ⟨(0,0,0),[],0,0,2⟩)] [((0,0,0),⟨2,[[(.bor (l0_0+1) (map b_y a0.f0)),(.val (.int .i64 a0.f1))]],[]⟩)] [[[(.bor l0_0 (map b_y a0.f0)),(.val (.int .i64 ((o22_0 a0).f1)))]]] [(.agg (d_B (m22 a0)))]):=by
  unfold m22 o22_0
  have P0 {hs q} (r:PS F X hs q):=(PS.r 5 [false] [] (e49 (l0_0:=(l0_0+1)) (a0:=a0) yg) (p3 ((m49 a0).f2) ((m49 a0).f3) ((m49 a0).f4) (.r 13 [false] [] (e23 (l0_0:=(l0_0+1)) (a0:=(zz a0 (o49_0 a0))) (a1:=14) yg) r)))
  by_cases h0:((m23 (zz a0 (o49_0 a0)) 14)==0)=true
  · try simp only[if_pos h0]
    have f9:3≤3:=yd
    have f10:fullR (take 3 (drop 0 [[(.i 0)],[(.i 1)],[(.i 13)]]))=true:=yA
    have f11:toBR (take 3 (drop 0 [[(.i 0)],[(.i 1)],[(.i 13)]]))=[[(.i 0)],[(.i 1)],[(.i 13)]]:=yA
    exact cq [false] ya (P0 (.f h0 (.f f9 (.f f10 (.f f11 (hT 18 (.r 24 [false] [[[(.i 0)],[(.i 1)],[(.i 13)]]] (e30 (l0_0:=(l0_0+1)) (l1_0:=0) (a0:=(zz a0 (o23_0 (zz a0 (o49_0 a0)) 14))) (a1:=[0,1,13]) yg ym ym) (p3 ((m49 a0).f2) ((m49 a0).f3) ((m49 a0).f4) (.f (pureR_si ((m49 a0).f2)) (.f (pureR_R ((m49 a0).f3)) (.f (pureR_si ((m49 a0).f4)) .nil)))))))))))
  try simp only[if_neg h0]
  have P1 {hs q} (r:PS F X hs q):=(P0 (N h0 (U 18 r)))
  by_cases h1:((m23 (zz a0 (o49_0 a0)) 14)==1)=true
  · try simp only[if_pos h1]
    have f10:3≤3:=yd
    have f11:fullR (take 3 (drop 0 [[(.i (-1))],[(.i 3)],[(.i 1000001)]]))=true:=yA
    have f12:toBR (take 3 (drop 0 [[(.i (-1))],[(.i 3)],[(.i 1000001)]]))=[[(.i (-1))],[(.i 3)],[(.i 1000001)]]:=yA
    exact cq [false] ya (P1 (.f h1 (.f f10 (.f f11 (.f f12 (hT 23 (.r 29 [false] [[[(.i (-1))],[(.i 3)],[(.i 1000001)]]] (e30 (l0_0:=(l0_0+1)) (l1_0:=0) (a0:=(zz a0 (o23_0 (zz a0 (o49_0 a0)) 14))) (a1:=[(-1),3,1000001]) yg ym ym) (p3 ((m49 a0).f2) ((m49 a0).f3) ((m49 a0).f4) (.f (pureR_si ((m49 a0).f2)) (.f (pureR_R ((m49 a0).f3)) (.f (pureR_si ((m49 a0).f4)) .nil)))))))))))
  try simp only[if_neg h1]
  have P2 {hs q} (r:PS F X hs q):=(P1 (N h1 (U 23 r)))
  by_cases h2:((m23 (zz a0 (o49_0 a0)) 14)==2)=true
  · try simp only[if_pos h2]
    exact cq [false] ya (P2 (.f h2 (hT 28 (.r 32 [false] [] (e50 (l0_0:=(l0_0+1)) (a0:=(zz a0 (o23_0 (zz a0 (o49_0 a0)) 14))) yg) (pe 0 (pe (length (map d_si (m50 (zz a0 (o23_0 (zz a0 (o49_0 a0)) 14))))) (p3 (m50 (zz a0 (o23_0 (zz a0 (o49_0 a0)) 14))) ((m49 a0).f3) ((m49 a0).f4) (.f (pureR_si (m50 (zz a0 (o23_0 (zz a0 (o49_0 a0)) 14)))) (.f (pureR_R ((m49 a0).f3)) (.f (pureR_si ((m49 a0).f4)) .nil))))))))))
  try simp only[if_neg h2]
  by_cases h3:((m23 (zz a0 (o49_0 a0)) 14)==3)=true
  · try simp only[if_pos h3]
    have f13:2≤2:=yd
    have f14:fullR (take 2 (drop 0 [[(.i 0)],[(.i 5)]]))=true:=yA
    have f15:toBR (take 2 (drop 0 [[(.i 0)],[(.i 5)]]))=[[(.i 0)],[(.i 5)]]:=yA
    have f17:0+(length (map d_si ((m49 a0).f4)))≤(length (map d_si ((m49 a0).f4))):=yd
    have f18:1≤1:=yd
    have f19:((take 1 (drop 0 [[(.val (.string (m51 (zz a0 (o23_0 (zz a0 (o49_0 a0)) 14))))),(.i (m30 (zz a0 (o51_0 (zz a0 (o23_0 (zz a0 (o49_0 a0)) 14)))) [0,5]))]])).all fun x=>x.all copyable)=true:=(by assumption)
    have f20:(length ((take (length (map d_si ((m49 a0).f4))) (drop 0 (map d_si ((m49 a0).f4))))++([[(.val (.string (m51 (zz a0 (o23_0 (zz a0 (o49_0 a0)) 14))))),(.i (m30 (zz a0 (o51_0 (zz a0 (o23_0 (zz a0 (o49_0 a0)) 14)))) [0,5]))]]:List (List D))))*24≤70368744177664:=ym
    have f21:∀r∈([[(.val (.string (m51 (zz a0 (o23_0 (zz a0 (o49_0 a0)) 14))))),(.i (m30 (zz a0 (o51_0 (zz a0 (o23_0 (zz a0 (o49_0 a0)) 14)))) [0,5]))]]:List (List D)),r.length=2:=yP
    have f24:([[(.i ((m49 a0).f0)),(.i ((m49 a0).f1)),(.own 2 (map d_si ((m49 a0).f2))),(.own 5 (map d_R ((m49 a0).f3))),(.own 2 ((take (length (map d_si ((m49 a0).f4))) (drop 0 (map d_si ((m49 a0).f4))))++([[(.val (.string (m51 (zz a0 (o23_0 (zz a0 (o49_0 a0)) 14))))),(.i (m30 (zz a0 (o51_0 (zz a0 (o23_0 (zz a0 (o49_0 a0)) 14)))) [0,5]))]]:List (List D)))),(.i ((m49 a0).f5)),(.i ((m49 a0).f6)),(.i ((m49 a0).f7))]]:List (List D))=[[(.i ((m49 a0).f0)),(.i ((m49 a0).f1)),(.own 2 (map d_si ((m49 a0).f2))),(.own 5 (map d_R ((m49 a0).f3))),(.own 2 (map d_si (((m49 a0).f4)++([(K_si.mk (m51 (zz a0 (o23_0 (zz a0 (o49_0 a0)) 14))) (m30 (zz a0 (o51_0 (zz a0 (o23_0 (zz a0 (o49_0 a0)) 14)))) [0,5]))])))),(.i ((m49 a0).f5)),(.i ((m49 a0).f6)),(.i ((m49 a0).f7))]]:=yI
    exact cq [false] ya (P2 (N h2 (.f h3 (U 28 (hT 33 (.r 41 [false] [] (e51 (l0_0:=(l0_0+1)) (a0:=(zz a0 (o23_0 (zz a0 (o49_0 a0)) 14))) yg) (.f f13 (.f f14 (.f f15 (.r 47 [false] [[[(.i 0)],[(.i 5)]]] (e30 (l0_0:=(l0_0+1)) (l1_0:=0) (a0:=(zz a0 (o51_0 (zz a0 (o23_0 (zz a0 (o49_0 a0)) 14))))) (a1:=[0,5]) yg ym ym) (.f f17 (.f f18 (.f f19 (.f f20 (.f f21 (pe 0 (pe (length ((take (length (map d_si ((m49 a0).f4))) (drop 0 (map d_si ((m49 a0).f4))))++([[(.val (.string (m51 (zz a0 (o23_0 (zz a0 (o49_0 a0)) 14))))),(.i (m30 (zz a0 (o51_0 (zz a0 (o23_0 (zz a0 (o49_0 a0)) 14)))) [0,5]))]]:List (List D)))) (.f f24 (p3 ((m49 a0).f2) ((m49 a0).f3) (((m49 a0).f4)++([(K_si.mk (m51 (zz a0 (o23_0 (zz a0 (o49_0 a0)) 14))) (m30 (zz a0 (o51_0 (zz a0 (o23_0 (zz a0 (o49_0 a0)) 14)))) [0,5]))])) (.f (pureR_si ((m49 a0).f2)) (.f (pureR_R ((m49 a0).f3)) (.f (pureR_si (((m49 a0).f4)++([(K_si.mk (m51 (zz a0 (o23_0 (zz a0 (o49_0 a0)) 14))) (m30 (zz a0 (o51_0 (zz a0 (o23_0 (zz a0 (o49_0 a0)) 14)))) [0,5]))]))) (hT 53 (.h 58 (.norm (3,0,0) [[(.i ((m49 a0).f0)),(.i ((m49 a0).f1)),(.own 2 (map d_si ((m49 a0).f2))),(.own 5 (map d_R ((m49 a0).f3))),(.own 2 (map d_si (((m49 a0).f4)++([(K_si.mk (m51 (zz a0 (o23_0 (zz a0 (o49_0 a0)) 14))) (m30 (zz a0 (o51_0 (zz a0 (o23_0 (zz a0 (o49_0 a0)) 14)))) [0,5]))])))),(.i ((m49 a0).f5)),(.i ((m49 a0).f6)),(.i ((m49 a0).f7))]]) .nil))))))))))))))))))))))))
  try simp only[if_neg h3]
  by_cases h4:((m23 (zz a0 (o49_0 a0)) 14)==4)=true
  · try simp only[if_pos h4]
    have f14:3≤3:=yd
    have f15:fullR (take 3 (drop 0 [[(.i 0)],[(.i 1)],[(.i 2)]]))=true:=yA
    have f16:toBR (take 3 (drop 0 [[(.i 0)],[(.i 1)],[(.i 2)]]))=[[(.i 0)],[(.i 1)],[(.i 2)]]:=yA
    have f18:2≤2:=yd
    have f19:fullR (take 2 (drop 0 [[(.i 0)],[(.i 5)]]))=true:=(by assumption)
    have f20:toBR (take 2 (drop 0 [[(.i 0)],[(.i 5)]]))=[[(.i 0)],[(.i 5)]]:=yA
    have f22:0+(length (map d_R ((m49 a0).f3)))≤(length (map d_R ((m49 a0).f3))):=yd
    have f23:1≤1:=yd
    have f24:((take 1 (drop 0 [[(.i (m23 (zz a0 (o23_0 (zz a0 (o49_0 a0)) 14)) 5)),(.i (m30 (zz a0 (o30_0 (zz a0 (o23_0 (zz a0 (o23_0 (zz a0 (o49_0 a0)) 14)) 5)) [0,1,2])) [0,5])),(.i 0),(.own 2 []),(.i (m30 (zz a0 (o23_0 (zz a0 (o23_0 (zz a0 (o49_0 a0)) 14)) 5)) [0,1,2]))]])).all fun x=>x.all copyable)=false:=yA
    have f27:(length ((take (length (map d_R ((m49 a0).f3))) (drop 0 (map d_R ((m49 a0).f3))))++([[(.i (m23 (zz a0 (o23_0 (zz a0 (o49_0 a0)) 14)) 5)),(.i (m30 (zz a0 (o30_0 (zz a0 (o23_0 (zz a0 (o23_0 (zz a0 (o49_0 a0)) 14)) 5)) [0,1,2])) [0,5])),(.i 0),(.own 2 []),(.i (m30 (zz a0 (o23_0 (zz a0 (o23_0 (zz a0 (o49_0 a0)) 14)) 5)) [0,1,2]))]]:List (List D))))*56≤70368744177664:=ym
    have f28:∀r∈([[(.i (m23 (zz a0 (o23_0 (zz a0 (o49_0 a0)) 14)) 5)),(.i (m30 (zz a0 (o30_0 (zz a0 (o23_0 (zz a0 (o23_0 (zz a0 (o49_0 a0)) 14)) 5)) [0,1,2])) [0,5])),(.i 0),(.own 2 []),(.i (m30 (zz a0 (o23_0 (zz a0 (o23_0 (zz a0 (o49_0 a0)) 14)) 5)) [0,1,2]))]]:List (List D)),r.length=5:=yP
    have f31:([[(.i ((m49 a0).f0)),(.i ((m49 a0).f1)),(.own 2 (map d_si ((m49 a0).f2))),(.own 5 ((take (length (map d_R ((m49 a0).f3))) (drop 0 (map d_R ((m49 a0).f3))))++([[(.i (m23 (zz a0 (o23_0 (zz a0 (o49_0 a0)) 14)) 5)),(.i (m30 (zz a0 (o30_0 (zz a0 (o23_0 (zz a0 (o23_0 (zz a0 (o49_0 a0)) 14)) 5)) [0,1,2])) [0,5])),(.i 0),(.own 2 []),(.i (m30 (zz a0 (o23_0 (zz a0 (o23_0 (zz a0 (o49_0 a0)) 14)) 5)) [0,1,2]))]]:List (List D)))),(.own 2 (map d_si ((m49 a0).f4))),(.i ((m49 a0).f5)),(.i ((m49 a0).f6)),(.i ((m49 a0).f7))]]:List (List D))=[[(.i ((m49 a0).f0)),(.i ((m49 a0).f1)),(.own 2 (map d_si ((m49 a0).f2))),(.own 5 (map d_R (((m49 a0).f3)++([(K_R.mk (m23 (zz a0 (o23_0 (zz a0 (o49_0 a0)) 14)) 5) (m30 (zz a0 (o30_0 (zz a0 (o23_0 (zz a0 (o23_0 (zz a0 (o49_0 a0)) 14)) 5)) [0,1,2])) [0,5]) 0 [] (m30 (zz a0 (o23_0 (zz a0 (o23_0 (zz a0 (o49_0 a0)) 14)) 5)) [0,1,2]))])))),(.own 2 (map d_si ((m49 a0).f4))),(.i ((m49 a0).f5)),(.i ((m49 a0).f6)),(.i ((m49 a0).f7))]]:=yI
    exact cq [false] ya (P2 (N h2 (N h3 (.f h4 (U 28 (U 33 (hT 38 (.r 46 [false] [] (e23 (l0_0:=(l0_0+1)) (a0:=(zz a0 (o23_0 (zz a0 (o49_0 a0)) 14))) (a1:=5) yg) (.f f14 (.f f15 (.f f16 (.r 52 [false] [[[(.i 0)],[(.i 1)],[(.i 2)]]] (e30 (l0_0:=(l0_0+1)) (l1_0:=0) (a0:=(zz a0 (o23_0 (zz a0 (o23_0 (zz a0 (o49_0 a0)) 14)) 5))) (a1:=[0,1,2]) yg ym ym) (.f f18 (.f f19 (.f f20 (.r 58 [false] [[[(.i 0)],[(.i 5)]]] (e30 (l0_0:=(l0_0+1)) (l1_0:=0) (a0:=(zz a0 (o30_0 (zz a0 (o23_0 (zz a0 (o23_0 (zz a0 (o49_0 a0)) 14)) 5)) [0,1,2]))) (a1:=[0,5]) yg ym ym) (.f f22 (.f f23 (.f f24 (pe 0 (pe 1 (.f f27 (.f f28 (pe 0 (pe (length ((take (length (map d_R ((m49 a0).f3))) (drop 0 (map d_R ((m49 a0).f3))))++([[(.i (m23 (zz a0 (o23_0 (zz a0 (o49_0 a0)) 14)) 5)),(.i (m30 (zz a0 (o30_0 (zz a0 (o23_0 (zz a0 (o23_0 (zz a0 (o49_0 a0)) 14)) 5)) [0,1,2])) [0,5])),(.i 0),(.own 2 []),(.i (m30 (zz a0 (o23_0 (zz a0 (o23_0 (zz a0 (o49_0 a0)) 14)) 5)) [0,1,2]))]]:List (List D)))) (.f f31 (p3 ((m49 a0).f2) (((m49 a0).f3)++([(K_R.mk (m23 (zz a0 (o23_0 (zz a0 (o49_0 a0)) 14)) 5) (m30 (zz a0 (o30_0 (zz a0 (o23_0 (zz a0 (o23_0 (zz a0 (o49_0 a0)) 14)) 5)) [0,1,2])) [0,5]) 0 [] (m30 (zz a0 (o23_0 (zz a0 (o23_0 (zz a0 (o49_0 a0)) 14)) 5)) [0,1,2]))])) ((m49 a0).f4) (.f (pureR_si ((m49 a0).f2)) (.f (pureR_R (((m49 a0).f3)++([(K_R.mk (m23 (zz a0 (o23_0 (zz a0 (o49_0 a0)) 14)) 5) (m30 (zz a0 (o30_0 (zz a0 (o23_0 (zz a0 (o23_0 (zz a0 (o49_0 a0)) 14)) 5)) [0,1,2])) [0,5]) 0 [] (m30 (zz a0 (o23_0 (zz a0 (o23_0 (zz a0 (o49_0 a0)) 14)) 5)) [0,1,2]))]))) (.f (pureR_si ((m49 a0).f4)) (U 64 (.h 69 (.norm (3,0,0) [[(.i ((m49 a0).f0)),(.i ((m49 a0).f1)),(.own 2 (map d_si ((m49 a0).f2))),(.own 5 (map d_R (((m49 a0).f3)++([(K_R.mk (m23 (zz a0 (o23_0 (zz a0 (o49_0 a0)) 14)) 5) (m30 (zz a0 (o30_0 (zz a0 (o23_0 (zz a0 (o23_0 (zz a0 (o49_0 a0)) 14)) 5)) [0,1,2])) [0,5]) 0 [] (m30 (zz a0 (o23_0 (zz a0 (o23_0 (zz a0 (o49_0 a0)) 14)) 5)) [0,1,2]))])))),(.own 2 (map d_si ((m49 a0).f4))),(.i ((m49 a0).f5)),(.i ((m49 a0).f6)),(.i ((m49 a0).f7))]]) .nil))))))))))))))))))))))))))))))))
  try simp only[if_neg h4]
  exact cq [false] ya (P2 (N h2 (N h3 (N h4 (p3 ((m49 a0).f2) ((m49 a0).f3) ((m49 a0).f4) (.f (pureR_si ((m49 a0).f2)) (.f (pureR_R ((m49 a0).f3)) (.f (pureR_si ((m49 a0).f4)) (U 28 (U 33 (U 38 .nil)))))))))))
theorem st22 {a:K_LyEi} {n:Nat} (h:S a (n+110)):S (o22_0 a) n:=by
  unfold o22_0
  (repeat' split)<;>((repeat (first | with_reducible refine sm50 ?_ rfl | with_reducible refine sm49 ?_ rfl | with_reducible refine sm75 ?_ rfl | with_reducible refine sm30 _ ?_ rfl | with_reducible refine sm23 _ ?_ rfl | with_reducible refine sm51 ?_ rfl)); exact S_le h yd)
theorem sm22 {a:K_LyEi} {n:Nat} {f:List Int} (h:S a (n+110)) (e:a.f0=f):S (K_LyEi.mk f ((o22_0 a).f1)) n:=by
  have e2:(o22_0 a).f0=a.f0:=by unfold o22_0;(repeat' split)<;>rfl
  rw[← e,← e2]; exact st22 h
theorem blG {a:K_LyEi} (h:S a 180):GB (m22 a):=by
  obtain⟨_,_,g3,g4,g5⟩:=(dG49 (m:=0) (S_le h yd)).2
  have w3:GP 13 (m49 a).f2:=⟨Nat.le_trans g3.1 (by decide),g3.2.2⟩
  have w4:=gr_le g4 (show 6≤7 by decide)
  have w5:=gp_le g5 (show 8≤9 by decide)
  unfold m22
  split
  · exact⟨w3,w4,w5⟩
  split
  · exact⟨w3,w4,w5⟩
  split
  · exact⟨⟨len50 (by (repeat (first | with_reducible refine sm50 ?_ rfl | with_reducible refine sm49 ?_ rfl | with_reducible refine sm75 ?_ rfl | with_reducible refine sm30 _ ?_ rfl | with_reducible refine sm23 _ ?_ rfl | with_reducible refine sm51 ?_ rfl)); exact S_le h yd),bsz _⟩,w4,w5⟩
  split
  · exact⟨w3,w4,gp_app g5 (wsz _)⟩
  split
  · exact⟨w3,gr_app g4 ⟨by simp,fun z hz=>(by cases hz)⟩,w5⟩
  exact⟨w3,w4,w5⟩
theorem blO (c:List Int) (h1:∀z∈c,(0:Int)≤z∧z≤255) (h2:length c≤140737488351232):os_B (m22 (m21 c)):=gb_os (blG (S_le (S_src c h1 h2) (by omega)))
def m5_0 (a0:(List Int)):K_B:=
  (m22 (m21 a0))
theorem e5 {l0_0:Nat} {a0:(List Int)} (hy0:∀z∈a0,(0:Int)≤z∧z≤255) (hy1:length a0≤140737488351232):Ev F X (.call 5 [(.one (.bor l0_0 (map b_y a0)))] [] [] [(.agg (d_B (m22 (m21 a0)))),(.one (.val (.int .i64 (m23 (K_LyEi.mk ((m21 a0).f0) ((o22_0 (m21 a0)).f1)) 6))))]):=by
  exact cp ya (.r 7 [] [] (e21 (l0_0:=l0_0) (a0:=a0)) (.r 13 [false] [] (e22 (l0_0:=l0_0) (a0:=(m21 a0)) yj) (.r 17 [false] [] (e23 (l0_0:=l0_0) (a0:=(zz (m21 a0) (o22_0 (m21 a0)))) (a1:=6) yj) (p3 ((m22 (m21 a0)).f2) ((m22 (m21 a0)).f3) ((m22 (m21 a0)).f4) (.f (pureR_si ((m22 (m21 a0)).f2)) (.f (pureR_R ((m22 (m21 a0)).f3)) (.f (pureR_si ((m22 (m21 a0)).f4)) .nil)))))))
def m57 (a0:Int) (a1:Int) (a2:Int):Bool:=
  if(decide (a0≥a1))=true then(decide (a0≤a2)) else
  false
theorem e57 {a0:Int} {a1:Int} {a2:Int}:Ev F X (.call 57 [(.one (.val (.int .i64 a0))),(.one (.val (.int .i64 a1))),(.one (.val (.int .i64 a2)))] [] [] [(.one (.val (.bool (m57 a0 a1 a2))))]):=by
  unfold m57
  by_cases h0:(decide (a0≥a1))=true
  · try simp only[if_pos h0]
    exact cp ya (.f h0 (.f h0 (.f h0 (.f h0 (hT 10 (hT 12 (hT 14 (hT 17 .nil))))))))
  try simp only[if_neg h0]
  exact cp ya (N h0 (N h0 (N h0 (N h0 (U 10 (U 12 (U 14 (U 17 .nil))))))))
theorem jn57 {a b c:Int} (h:¬(!(m57 a b c))=true):b≤a∧a≤c:=by
  simp only[Bool.not_eq_true',Bool.not_eq_false] at h
  unfold m57 at h; split at h<;>simp_all<;>omega
theorem e29 {a0:Int}:Ev F X (.call 29 [(.one (.val (.int .i64 a0)))] [] [] [(.one (.val (.bool (m57 a0 0 1000000))))]):=by
  exact cp ya (.r 5 [] [] (e57 (a0:=a0) (a1:=0) (a2:=1000000)) .nil)
inductive O33_0 where
  |k0 (w0:Int) (w1:Int) (w2:Bool)
def r33_0 (a0:(List K_R)) (a1:Int):List K_R→Int→Int→O33_0
  |x0::y0,i,v1=>
    if(a1==0)=true then(r33_0 a0 a1 y0 (i+1) (wrap .i64 (v1+x0.f1))) else
    if(x0.f4==a1)=true then(r33_0 a0 a1 y0 (i+1) (wrap .i64 (v1+x0.f1))) else
      (r33_0 a0 a1 y0 (i+1) v1)
  |[],i,v1=>(O33_0.k0 v1 i (decide (i <((length (map b_R a0)):Int))))
def h33_0 (l0_0:Nat) (a0:(List K_R)) (a1:Int) (i:Int) (v1:Int):St:=⟨[(1,(.one (.val (.int .i64 a1)))),(5,(.one (.val (.int .i64 v1)))),(8,(.one (.bor l0_0 (map b_R a0)))),(9,(.one (.val (.int .i64 ((length (map b_R a0)):Int))))),(10,(.one (.val (.int .i64 i))))],[]⟩
def ex33_0:O33_0→VX.Exit
  |.k0 _ _ _=>(.exit 0)
def fin33_0 (l0_0:Nat) (a0:(List K_R)) (a1:Int):O33_0→St
  |.k0 w0 w1 w2=>⟨[(1,(.one (.val (.int .i64 a1)))),(5,(.one (.val (.int .i64 w0)))),(8,(.one (.bor l0_0 (map b_R a0)))),(9,(.one (.val (.int .i64 ((length (map b_R a0)):Int))))),(10,(.one (.val (.int .i64 w1)))),(11,(.one (.val (.bool w2))))],[]⟩
theorem t33_0 {l0_0:Nat} {a0:(List K_R)} {a1:Int} (hy0:length a0*56≤140737488351232) (hy1:∀z∈a0,ok_R z):∀(y0:List K_R) (p:List K_R) (v1:Int),p++y0=a0→Ev F X (.code l33_0 (h33_0 l0_0 a0 a1 (length p:Int) v1) (ex33_0 (r33_0 a0 a1 y0 (length p:Int) v1)) (fin33_0 l0_0 a0 a1 (r33_0 a0 a1 y0 (length p:Int) v1)))
  |[],p,v1,hp0=>by
    have hc:¬(decide ((length p:Int) <((length (map b_R a0)):Int)))=true:=by
      rw[← hp0]; simp only[LN,decide_eq_true_eq]; omega
    have st:=ch b33_0 (h33_0 l0_0 a0 a1 (length p:Int) v1) ⟨[(1,(.oi a1)),(5,(.oi v1)),(8,(.one (.bor l0_0 (map b_R a0)))),(9,(.oi ((length (map b_R a0)):Int))),(10,(.oi (length p:Int))),(11,(.one (.val (.bool (decide ((length p:Int) <((length (map b_R a0)):Int)))))))],[]⟩ (.exit 0) 3 (by kernel_rfl) (.f (nt hc) (U 2 .nil))
    rw[show (⟨[(1,(.oi a1)),(5,(.oi v1)),(8,(.one (.bor l0_0 (map b_R a0)))),(9,(.oi ((length (map b_R a0)):Int))),(10,(.oi (length p:Int))),(11,(.one (.val (.bool (decide ((length p:Int) <((length (map b_R a0)):Int)))))))],[]⟩:St)=fin33_0 l0_0 a0 a1 (.k0 v1 (length p:Int) (decide ((length p:Int) <((length (map b_R a0)):Int)))) from(by rfl)] at st
    exact .loopX st (show ((.exit 0):VX.Exit)≠.normal from by simp)
  |x0::y0,p,v1,hp0=>by
    have hc:(decide ((length p:Int) <((length (map b_R a0)):Int)))=true:=by
      rw[← hp0]; simp only[LN,decide_eq_true_eq]; omega
    have Hx0:(a0)[toNat (length p:Int)]?=some x0:=by
      rw[← hp0,Int.toNat_natCast]; simp
    have Mx0_0:=hy1 x0 (List.mem_of_getElem? Hx0)
    have hlen:length (a0)=length p+length y0+1:=by rw[← hp0]; simp; omega
    have hw:wrap .i64 ((length p:Int)+1)=(length p:Int)+1:=wrap64 (by omega)
    simp only[r33_0]
    have f1:0≤(length p:Int):=(by omega)
    have P1 {hs q} (r:PS F X hs q):=(PS.f hc (.f f1 (.f (mp_ b_R Hx0) (hT 2 (.h 4 (.row (b_R x0)) r)))))
    by_cases h_1:(a1==0)=true
    · try simp only[if_pos h_1]
      have st:=ch b33_0 (h33_0 l0_0 a0 a1 (length p:Int) v1) ⟨[(1,(.oi a1)),(5,(.oi (wrap .i64 (v1+x0.f1)))),(8,(.one (.bor l0_0 (map b_R a0)))),(9,(.oi ((length (map b_R a0)):Int))),(10,(.oi (wrap .i64 ((length p:Int)+1))))],[]⟩ .normal 42 (by kernel_rfl) (P1 (.f h_1 (.f h_1 (.f h_1 (.f h_1 (.f h_1 (.f trivial (.f trivial (hT 17 (hT 19 (hT 21 (hT 23 (hT 26 .nil)))))))))))))
      have ih:=t33_0 (l0_0:=l0_0) (a0:=a0) (a1:=a1) hy0 hy1 y0 (p++ [x0]) (wrap .i64 (v1+x0.f1)) (by rw[append_assoc]; exact hp0)
      rw[show ((p++ [x0]).length:Int)=(p.length:Int)+1 from by simp] at ih
      rw[show (⟨[(1,(.oi a1)),(5,(.oi (wrap .i64 (v1+x0.f1)))),(8,(.one (.bor l0_0 (map b_R a0)))),(9,(.oi ((length (map b_R a0)):Int))),(10,(.oi (wrap .i64 ((length p:Int)+1))))],[]⟩:St)=h33_0 l0_0 a0 a1 ((length p:Int)+1) (wrap .i64 (v1+x0.f1)) from(by unfold h33_0; simp only[hw]; done)] at st
      exact .loopN st ih
    try simp only[if_neg h_1]
    have P2 {hs q} (r:PS F X hs q):=(P1 (.f (nt h_1) (.f (nt h_1) (.f (nt h_1) (.f (nt h_1) (.f (nt h_1) (U 17 (U 19 (U 21 (U 23 (U 26 r)))))))))))
    by_cases h_2:(x0.f4==a1)=true
    · try simp only[if_pos h_2]
      have st:=ch b33_0 (h33_0 l0_0 a0 a1 (length p:Int) v1) ⟨[(1,(.oi a1)),(5,(.oi (wrap .i64 (v1+x0.f1)))),(8,(.one (.bor l0_0 (map b_R a0)))),(9,(.oi ((length (map b_R a0)):Int))),(10,(.oi (wrap .i64 ((length p:Int)+1))))],[]⟩ .normal 42 (by kernel_rfl) (P2 (.f h_2 (.f trivial (.f trivial (hT 27 .nil)))))
      have ih:=t33_0 (l0_0:=l0_0) (a0:=a0) (a1:=a1) hy0 hy1 y0 (p++ [x0]) (wrap .i64 (v1+x0.f1)) (by rw[append_assoc]; exact hp0)
      rw[show ((p++ [x0]).length:Int)=(p.length:Int)+1 from by simp] at ih
      rw[show (⟨[(1,(.oi a1)),(5,(.oi (wrap .i64 (v1+x0.f1)))),(8,(.one (.bor l0_0 (map b_R a0)))),(9,(.oi ((length (map b_R a0)):Int))),(10,(.oi (wrap .i64 ((length p:Int)+1))))],[]⟩:St)=h33_0 l0_0 a0 a1 ((length p:Int)+1) (wrap .i64 (v1+x0.f1)) from(by unfold h33_0; simp only[hw]; done)] at st
      exact .loopN st ih
    try simp only[if_neg h_2]
    have st:=ch b33_0 (h33_0 l0_0 a0 a1 (length p:Int) v1) ⟨[(1,(.oi a1)),(5,(.oi v1)),(8,(.one (.bor l0_0 (map b_R a0)))),(9,(.oi ((length (map b_R a0)):Int))),(10,(.oi (wrap .i64 ((length p:Int)+1))))],[]⟩ .normal 32 (by kernel_rfl) (P2 (.f (nt h_2) (.f trivial (U 27 .nil))))
    have ih:=t33_0 (l0_0:=l0_0) (a0:=a0) (a1:=a1) hy0 hy1 y0 (p++ [x0]) v1 (by rw[append_assoc]; exact hp0)
    rw[show ((p++ [x0]).length:Int)=(p.length:Int)+1 from by simp] at ih
    rw[show (⟨[(1,(.oi a1)),(5,(.oi v1)),(8,(.one (.bor l0_0 (map b_R a0)))),(9,(.oi ((length (map b_R a0)):Int))),(10,(.oi (wrap .i64 ((length p:Int)+1))))],[]⟩:St)=h33_0 l0_0 a0 a1 ((length p:Int)+1) v1 from(by unfold h33_0; simp only[hw]; done)] at st
    exact .loopN st ih
def m33 (a0:(List K_R)) (a1:Int):Int:=
  (match r33_0 a0 a1 a0 0 0 with | .k0 w0_0 w1_0 w2_0=>w0_0)
theorem e33 {l0_0:Nat} {a0:(List K_R)} {a1:Int} (hy0:length a0*56≤140737488351232) (hy1:∀z∈a0,ok_R z):Ev F X (.call 33 [(.one (.bor l0_0 (map b_R a0))),(.one (.val (.int .i64 a1)))] [] [] [(.one (.val (.int .i64 (m33 a0 a1))))]):=by
  unfold m33
  cases h0:r33_0 a0 a1 a0 0 0 with
  |k0 w0_0 w1_0 w2_0=>
    try dsimp only
    have f0:(⟨[(1,(.oi a1)),(5,(.oi 0)),(8,(.one (.bor l0_0 (map b_R a0)))),(9,(.oi ((length (map b_R a0)):Int))),(10,(.oi 0))],[]⟩:St)=h33_0 l0_0 a0 a1 0 0:=yu
    exact cp ya (.f f0 (.f (ev_ (e:=ex33_0) (g:=(fin33_0 l0_0 a0 a1)) h0 (t33_0 (l0_0:=l0_0) (a0:=a0) (a1:=a1) (by assumption) (by assumption) a0 [] 0 rfl)) (.h 10 (.loop (h33_0 l0_0 a0 a1 0 0) (.exit 0) ⟨[(1,(.oi a1)),(5,(.oi w0_0)),(8,(.one (.bor l0_0 (map b_R a0)))),(9,(.oi ((length (map b_R a0)):Int))),(10,(.oi w1_0)),(11,(.one (.val (.bool w2_0))))],[]⟩) .nil)))
def m35 (a0:Int) (a1:Int):Bool:=
  if(m57 a0 1 12)=true then(m57 a1 0 1000) else
  false
theorem e35 {a0:Int} {a1:Int}:Ev F X (.call 35 [(.one (.val (.int .i64 a0))),(.one (.val (.int .i64 a1)))] [] [] [(.one (.val (.bool (m35 a0 a1))))]):=by
  unfold m35
  by_cases h0:(m57 a0 1 12)=true
  · try simp only[if_pos h0]
    exact cp ya (.r 5 [] [] (e57 (a0:=a0) (a1:=1) (a2:=12)) (.f h0 (.f h0 (hT 8 (hT 10 (.r 11 [] [] (e57 (a0:=a1) (a1:=0) (a2:=1000)) (.f h0 (hT 13 .nil))))))))
  try simp only[if_neg h0]
  exact cp ya (.r 5 [] [] (e57 (a0:=a0) (a1:=1) (a2:=12)) (N h0 (N h0 (N h0 (U 8 (U 10 (U 13 .nil)))))))
theorem e87 {a0 a1:ByteArray} (hy0:ByteArray.size a0≤9223372036854775807) (hy1:ByteArray.size a1 < 4294967281) (hy2:asciiB a1=true):Ev F X (.call 87 [(.one (.val (.string a0))),(.one (.val (.string a1)))] [] [] [(.one (.val (.string (trimB a0 a1))))]):=
  .ext (.inr (⟨rfl,rfl,(⟨a0,a1,hy0,hy1,hy2,rfl,rfl⟩)⟩)) rfl
end Go.Proofs.YtihjlmgakpgkeaaGreatDoor.Ledgers
