/- What the functions compute. -/
import Derived.Test.YtmdocdnidilaiaaGreatEPutJobE
import Derived.KernelRfl
namespace Go.Proofs.YtmdocdnidilaiaaGreat.PutJob
open Go Go.Proofs.YtmdocdnidilaiaaGreat.V
set_option linter.unusedVariables false
set_option linter.unusedSimpArgs false
set_option maxRecDepth 20000
open Go.IntKind (wrap)
open Int (toNat)
open List (length_replicate length_map length_set length_append length_cons length_nil length_take length_drop take_of_length_le map_take map_drop map_set append_assoc getElem?_map map length take drop getD set)
attribute [local simp] toBR_i fullR_i pureR_i lenB_i lenD_i fromBR_i copy_i toBR_N fullR_N pureR_N lenB_N lenD_N toBR_U fullR_U pureR_U lenB_U lenD_U toBR_T fullR_T pureR_T lenB_T lenD_T toBR_J fullR_J pureR_J lenB_J lenD_J toBR_JL fullR_JL pureR_JL lenB_JL lenD_JL toBR_b fullR_b pureR_b lenB_b lenD_b fromBR_b copy_b toBR_JR fullR_JR pureR_JR lenB_JR lenD_JR toBR_G fullR_G pureR_G lenB_G lenD_G toBR_TL fullR_TL pureR_TL lenB_TL lenD_TL toBR_LiE fullR_LiE pureR_LiE lenB_LiE lenD_LiE toBR_NL fullR_NL pureR_NL lenB_NL lenD_NL toBR_UL fullR_UL pureR_UL lenB_UL lenD_UL strInts_len byteRows_len toBR_y fullR_y pureR_y lenB_y lenD_y fromBR_y copy_y toBR_LyE fullR_LyE pureR_LyE lenB_LyE lenD_LyE toBR_LLyEE fullR_LLyEE pureR_LLyEE lenB_LLyEE lenD_LLyEE
/-! loop 141_0 -/
inductive O141_0 where
  |k0 (w0:List Int) (w1:Int) (w2:Bool)
def r141_0 (a0:K_T):List K_N→Int→List Int→O141_0
  |x0::y0,i,v0=>
    (r141_0 a0 y0 (i+1) (m161 [v0,(m162 x0.f0),(m160 x0.f1),(m163 x0.f2)]))
  |[],i,v0=>(O141_0.k0 v0 i (decide (i <((length (map b_N a0.f1)):Int))))
def h141_0 (l0_1:Nat) (l0_2:Nat) (a0:K_T) (i:Int) (v0:List Int):St:=⟨[(1,(.ptr ⟨(1,0,0),[],0,0,3⟩)),(3,(.one (.ref ⟨(3,0,0),[],0,(length (map d_y v0))⟩))),(17,(.one (.bor l0_1 (map b_N a0.f1)))),(18,(.one (.val (.int .i64 ((length (map b_N a0.f1)):Int))))),(19,(.one (.val (.int .i64 i))))],[((1,0,0),.live ⟨3,[[(.val (.int .i64 a0.f0)),(.bor l0_1 (map b_N a0.f1)),(.bor l0_2 (map b_U a0.f2))]],[]⟩),((3,0,0),.live ⟨1,(map d_y v0),[]⟩)]⟩
def ex141_0:O141_0→VX.Exit
  |.k0 _ _ _=>(.exit 0)
def fin141_0 (l0_1:Nat) (l0_2:Nat) (a0:K_T):O141_0→St
  |.k0 w0 w1 w2=>⟨[(1,(.ptr ⟨(1,0,0),[],0,0,3⟩)),(3,(.one (.ref ⟨(3,0,0),[],0,(length (map d_y w0))⟩))),(17,(.one (.bor l0_1 (map b_N a0.f1)))),(18,(.one (.val (.int .i64 ((length (map b_N a0.f1)):Int))))),(19,(.one (.val (.int .i64 w1)))),(20,(.one (.val (.bool w2))))],[((1,0,0),.live ⟨3,[[(.val (.int .i64 a0.f0)),(.bor l0_1 (map b_N a0.f1)),(.bor l0_2 (map b_U a0.f2))]],[]⟩),((3,0,0),.live ⟨1,(map d_y w0),[]⟩)]⟩
theorem t141_0 {l0_1:Nat} {l0_2:Nat} {a0:K_T} (hy0:length a0.f1*40≤140737488351232) (hy1:∀z∈a0.f1,ok_N z) (hy2:length a0.f2*32≤140737488351232) (hy3:∀z∈a0.f2,ok_U z) (hy4:length a0.f1≤4) (hy5:∀z∈a0.f1,length z.f2≤8) (hy6:length a0.f2≤4) (hy7:∀z∈a0.f2,length z.f1≤12):∀(y0:List K_N) (p:List K_N) (v0:List Int),p++y0=a0.f1→length v0+60*length y0≤260→Ev F X (.code l141_0 (h141_0 l0_1 l0_2 a0 (length p:Int) v0) (ex141_0 (r141_0 a0 y0 (length p:Int) v0)) (fin141_0 l0_1 l0_2 a0 (r141_0 a0 y0 (length p:Int) v0)))
  |[],p,v0,hp0,hi0=>by
    have hc:=hcn b_N hp0
    have hj0:=hi0; try simp only[LN,Int.toNat_natCast] at hj0
    exact lx 3 ya (.f (nt hc) (.h 2 (.b false) .nil)) rfl
  |x0::y0,p,v0,hp0,hi0=>by
    have hc:=hcy b_N hp0
    have Hx0:=hxy hp0
    have Nx0_5:=hy5 x0 (List.mem_of_getElem? Hx0)
    have Mx0_0:=hy1 x0 (List.mem_of_getElem? Hx0)
    have hlen:=hly hp0
    have hw:wrap .i64 ((length p:Int)+1)=(length p:Int)+1:=wrap64 yb
    have hj0:=hi0; try simp only[LN,Int.toNat_natCast] at hj0
    simp only[r141_0]
    have f1:0≤(length p:Int):=yb
    have f14:4≤4:=yb
    have f15:fullR (take 4 (drop 0 [[(.own 1 (map d_y v0))],[(.own 1 (map d_y (m162 x0.f0)))],[(.own 1 (map d_y (m160 x0.f1)))],[(.own 1 (map d_y (m163 x0.f2)))]]))=true:=yZ
    have f16:toBR (take 4 (drop 0 [[(.own 1 (map d_y v0))],[(.own 1 (map d_y (m162 x0.f0)))],[(.own 1 (map d_y (m160 x0.f1)))],[(.own 1 (map d_y (m163 x0.f2)))]]))=[[(.sl (toBR (map d_y v0)))],[(.sl (toBR (map d_y (m162 x0.f0))))],[(.sl (toBR (map d_y (m160 x0.f1))))],[(.sl (toBR (map d_y (m163 x0.f2))))]]:=yK
    have f17:Ev F X (.call 161 [(.one (.bor 0 [[(.sl (toBR (map d_y v0)))],[(.sl (toBR (map d_y (m162 x0.f0))))],[(.sl (toBR (map d_y (m160 x0.f1))))],[(.sl (toBR (map d_y (m163 x0.f2))))]]))] [] [] [(.one (.own 1 (map d_y (m161 [v0,(m162 x0.f0),(m160 x0.f1),(m163 x0.f2)]))))]):=(by rw[show (toBR (map d_y v0))=(map b_y v0) from by first | rfl |(simp[map_take,map_drop,ol112,ol83,ol84,ol51,ol45_0,ol12_0,four_len,high4,high2]; done) |(simp[byteRows_eq,map_take,map_drop,ol112,ol83,ol84,ol51,ol45_0,ol12_0,four_len,high4,high2]; done) |(simp[*,map_take,map_drop,ol112,ol83,ol84,ol51,ol45_0,ol12_0,four_len,high4,high2]; done) |(rw[take_of_length_le (by simp only[length_drop,length_take,length_map,Int.toNat_natCast]; omega)]; simp only[← map_drop,← map_take]),show (toBR (map d_y (m162 x0.f0)))=(map b_y (m162 x0.f0)) from by first | rfl |(simp[map_take,map_drop,ol112,ol83,ol84,ol51,ol45_0,ol12_0,four_len,high4,high2]; done) |(simp[byteRows_eq,map_take,map_drop,ol112,ol83,ol84,ol51,ol45_0,ol12_0,four_len,high4,high2]; done) |(simp[*,map_take,map_drop,ol112,ol83,ol84,ol51,ol45_0,ol12_0,four_len,high4,high2]; done) |(rw[take_of_length_le (by simp only[length_drop,length_take,length_map,Int.toNat_natCast]; omega)]; simp only[← map_drop,← map_take]),show (toBR (map d_y (m160 x0.f1)))=(map b_y (m160 x0.f1)) from by first | rfl |(simp[map_take,map_drop,ol112,ol83,ol84,ol51,ol45_0,ol12_0,four_len,high4,high2]; done) |(simp[byteRows_eq,map_take,map_drop,ol112,ol83,ol84,ol51,ol45_0,ol12_0,four_len,high4,high2]; done) |(simp[*,map_take,map_drop,ol112,ol83,ol84,ol51,ol45_0,ol12_0,four_len,high4,high2]; done) |(rw[take_of_length_le (by simp only[length_drop,length_take,length_map,Int.toNat_natCast]; omega)]; simp only[← map_drop,← map_take]),show (toBR (map d_y (m163 x0.f2)))=(map b_y (m163 x0.f2)) from by first | rfl |(simp[map_take,map_drop,ol112,ol83,ol84,ol51,ol45_0,ol12_0,four_len,high4,high2]; done) |(simp[byteRows_eq,map_take,map_drop,ol112,ol83,ol84,ol51,ol45_0,ol12_0,four_len,high4,high2]; done) |(simp[*,map_take,map_drop,ol112,ol83,ol84,ol51,ol45_0,ol12_0,four_len,high4,high2]; done) |(rw[take_of_length_le (by simp only[length_drop,length_take,length_map,Int.toNat_natCast]; omega)]; simp only[← map_drop,← map_take])]; exact(e161 (l0_0:=0) (a0:=[v0,(m162 x0.f0),(m160 x0.f1),(m163 x0.f2)]) (by have q0:=hy5 x0 (List.mem_of_getElem? Hx0); have q1:=pl160 x0.f1; have q2:=pb162 x0.f0; have q3:=pn163 x0.f2; simp only[length_map,length_append,length_take,length_drop,length_cons,length_nil,List.length_flatten,List.map_cons,List.map_nil,List.sum_cons,List.sum_nil] at*; omega) (by have q0:=hy5 x0 (List.mem_of_getElem? Hx0); have q1:=pl160 x0.f1; have q2:=pb162 x0.f0; have q3:=pn163 x0.f2; simp only[length_map,length_append,length_take,length_drop,length_cons,length_nil,List.length_flatten,List.map_cons,List.map_nil,List.sum_cons,List.sum_nil] at*; omega)))
    have ih:=t141_0 (l0_1:=l0_1) (l0_2:=l0_2) (a0:=a0) hy0 hy1 hy2 hy3 hy4 hy5 hy6 hy7 y0 (p++ [x0]) (m161 [v0,(m162 x0.f0),(m160 x0.f1),(m163 x0.f2)]) ye (by have q0:=hy5 x0 (List.mem_of_getElem? Hx0); have q1:=pl160 x0.f1; have q2:=pb162 x0.f0; have q3:=pn163 x0.f2; rw[cat4 (by simp only[length_cons] at*; omega)]; simp only[length_map,length_append,length_take,length_drop,length_cons,length_nil,List.length_flatten,List.map_cons,List.map_nil,List.sum_cons,List.sum_nil] at*; omega)
    rw[pl1,← hw] at ih; rw[← hw]
    exact ly 41 ya (.f hc (.f f1 (.f (mp_ b_N Hx0) (.h 2 (.b true) (.h 4 (.row (b_N x0)) (.r 18 [] [] (e162 (a0:=x0.f0)) (.r 24 [] [] (e160 (a0:=x0.f1)) (.r 30 [] [] (e163 (l0_0:=(l0_1+1)) (a0:=x0.f2) yb) (pe 0 (pe (length (map d_y v0)) (pe 0 (pe (length (map d_y (m162 x0.f0))) (pe 0 (pe (length (map d_y (m160 x0.f1))) (pe 0 (pe (length (map d_y (m163 x0.f2))) (.f f14 (.f f15 (.f f16 (.r 34 [] [[[(.sl (toBR (map d_y v0)))],[(.sl (toBR (map d_y (m162 x0.f0))))],[(.sl (toBR (map d_y (m160 x0.f1))))],[(.sl (toBR (map d_y (m163 x0.f2))))]]] f17 (.f trivial .nil))))))))))))))))))))) ih
theorem lk141_0 {a:K_T}:∀ {l:List K_N} {i:Int} {v w:List Int} {j b},(∀z∈l,length z.f2≤8)→r141_0 a l i v=.k0 w j b→v.length+60*l.length≤260→w.length≤v.length+60*l.length
  |[],i,v,w,j,b,_,h,_=>by simp only[r141_0] at h; injection h with h; subst h; simp
  |x::l,i,v,w,j,b,z,h,hv=>by
    simp only[r141_0] at h
    have q0:=z x (List.mem_cons_self ..)
    have z1:=fun u hu=>z u (List.mem_cons_of_mem _ hu)
    have q1:=pl160 x.f1
    have q2:=pb162 x.f0
    have q3:=pn163 x.f2
    simp only[length_cons] at hv⊢
    rw[cat4 yb] at h
    have q:=lk141_0 z1 h yam
    simp only[length_append] at q; omega
/-! loop 141_1 -/
inductive O141_1 where
  |k0 (w0:List Int) (w1:Int) (w2:Bool)
def r141_1 (a0:K_T):List K_U→Int→List Int→O141_1
  |x0::y0,i,v0=>
    (r141_1 a0 y0 (i+1) (m161 [v0,(m162 x0.f0),(m163 x0.f1)]))
  |[],i,v0=>(O141_1.k0 v0 i (decide (i <((length (map b_U a0.f2)):Int))))
def h141_1 (l0_1:Nat) (l0_2:Nat) (a0:K_T) (c0_141_1:List Int) (i:Int) (v0:List Int):St:=⟨[(1,(.ptr ⟨(1,0,0),[],0,0,3⟩)),(3,(.one (.ref ⟨(3,0,0),[],0,(length (map d_y v0))⟩))),(43,(.one (.bor l0_2 (map b_U a0.f2)))),(44,(.one (.val (.int .i64 ((length (map b_U a0.f2)):Int))))),(45,(.one (.val (.int .i64 i))))],[((1,0,0),.live ⟨3,[[(.val (.int .i64 a0.f0)),(.bor l0_1 (map b_N a0.f1)),(.bor l0_2 (map b_U a0.f2))]],[]⟩),((3,0,0),.live ⟨1,(map d_y v0),[]⟩)]⟩
def ex141_1:O141_1→VX.Exit
  |.k0 _ _ _=>(.exit 2)
def fin141_1 (l0_1:Nat) (l0_2:Nat) (a0:K_T) (c0_141_1:List Int):O141_1→St
  |.k0 w0 w1 w2=>⟨[(1,(.ptr ⟨(1,0,0),[],0,0,3⟩)),(3,(.one (.ref ⟨(3,0,0),[],0,(length (map d_y w0))⟩))),(43,(.one (.bor l0_2 (map b_U a0.f2)))),(44,(.one (.val (.int .i64 ((length (map b_U a0.f2)):Int))))),(45,(.one (.val (.int .i64 w1)))),(46,(.one (.val (.bool w2))))],[((1,0,0),.live ⟨3,[[(.val (.int .i64 a0.f0)),(.bor l0_1 (map b_N a0.f1)),(.bor l0_2 (map b_U a0.f2))]],[]⟩),((3,0,0),.live ⟨1,(map d_y w0),[]⟩)]⟩
theorem t141_1 {l0_1:Nat} {l0_2:Nat} {a0:K_T} {c0_141_1:List Int} (hy0:length a0.f1*40≤140737488351232) (hy1:∀z∈a0.f1,ok_N z) (hy2:length a0.f2*32≤140737488351232) (hy3:∀z∈a0.f2,ok_U z) (hy4:length a0.f1≤4) (hy5:∀z∈a0.f1,length z.f2≤8) (hy6:length a0.f2≤4) (hy7:∀z∈a0.f2,length z.f1≤12) (hy8:length c0_141_1≤140737488351232):∀(y0:List K_U) (p:List K_U) (v0:List Int),p++y0=a0.f2→length v0+60*length y0≤520→Ev F X (.code l141_1 (h141_1 l0_1 l0_2 a0 c0_141_1 (length p:Int) v0) (ex141_1 (r141_1 a0 y0 (length p:Int) v0)) (fin141_1 l0_1 l0_2 a0 c0_141_1 (r141_1 a0 y0 (length p:Int) v0)))
  |[],p,v0,hp0,hi0=>by
    have hc:=hcn b_U hp0
    have hj0:=hi0; try simp only[LN,Int.toNat_natCast] at hj0
    exact lx 3 ya (.f (nt hc) (.h 2 (.b false) .nil)) rfl
  |x0::y0,p,v0,hp0,hi0=>by
    have hc:=hcy b_U hp0
    have Hx0:=hxy hp0
    have Nx0_7:=hy7 x0 (List.mem_of_getElem? Hx0)
    have Mx0_0:=hy3 x0 (List.mem_of_getElem? Hx0)
    have hlen:=hly hp0
    have hw:wrap .i64 ((length p:Int)+1)=(length p:Int)+1:=wrap64 yb
    have hj0:=hi0; try simp only[LN,Int.toNat_natCast] at hj0
    simp only[r141_1]
    have f1:0≤(length p:Int):=yb
    have f11:3≤3:=yb
    have f12:fullR (take 3 (drop 0 [[(.own 1 (map d_y v0))],[(.own 1 (map d_y (m162 x0.f0)))],[(.own 1 (map d_y (m163 x0.f1)))]]))=true:=yZ
    have f13:toBR (take 3 (drop 0 [[(.own 1 (map d_y v0))],[(.own 1 (map d_y (m162 x0.f0)))],[(.own 1 (map d_y (m163 x0.f1)))]]))=[[(.sl (toBR (map d_y v0)))],[(.sl (toBR (map d_y (m162 x0.f0))))],[(.sl (toBR (map d_y (m163 x0.f1))))]]:=yK
    have f14:Ev F X (.call 161 [(.one (.bor 0 [[(.sl (toBR (map d_y v0)))],[(.sl (toBR (map d_y (m162 x0.f0))))],[(.sl (toBR (map d_y (m163 x0.f1))))]]))] [] [] [(.one (.own 1 (map d_y (m161 [v0,(m162 x0.f0),(m163 x0.f1)]))))]):=(by rw[show (toBR (map d_y v0))=(map b_y v0) from by first | rfl |(simp[map_take,map_drop,ol112,ol83,ol84,ol51,ol45_0,ol12_0,four_len,high4,high2]; done) |(simp[byteRows_eq,map_take,map_drop,ol112,ol83,ol84,ol51,ol45_0,ol12_0,four_len,high4,high2]; done) |(simp[*,map_take,map_drop,ol112,ol83,ol84,ol51,ol45_0,ol12_0,four_len,high4,high2]; done) |(rw[take_of_length_le (by simp only[length_drop,length_take,length_map,Int.toNat_natCast]; omega)]; simp only[← map_drop,← map_take]),show (toBR (map d_y (m162 x0.f0)))=(map b_y (m162 x0.f0)) from by first | rfl |(simp[map_take,map_drop,ol112,ol83,ol84,ol51,ol45_0,ol12_0,four_len,high4,high2]; done) |(simp[byteRows_eq,map_take,map_drop,ol112,ol83,ol84,ol51,ol45_0,ol12_0,four_len,high4,high2]; done) |(simp[*,map_take,map_drop,ol112,ol83,ol84,ol51,ol45_0,ol12_0,four_len,high4,high2]; done) |(rw[take_of_length_le (by simp only[length_drop,length_take,length_map,Int.toNat_natCast]; omega)]; simp only[← map_drop,← map_take]),show (toBR (map d_y (m163 x0.f1)))=(map b_y (m163 x0.f1)) from by first | rfl |(simp[map_take,map_drop,ol112,ol83,ol84,ol51,ol45_0,ol12_0,four_len,high4,high2]; done) |(simp[byteRows_eq,map_take,map_drop,ol112,ol83,ol84,ol51,ol45_0,ol12_0,four_len,high4,high2]; done) |(simp[*,map_take,map_drop,ol112,ol83,ol84,ol51,ol45_0,ol12_0,four_len,high4,high2]; done) |(rw[take_of_length_le (by simp only[length_drop,length_take,length_map,Int.toNat_natCast]; omega)]; simp only[← map_drop,← map_take])]; exact(e161 (l0_0:=0) (a0:=[v0,(m162 x0.f0),(m163 x0.f1)]) (by have q0:=hy7 x0 (List.mem_of_getElem? Hx0); have q2:=pb162 x0.f0; have q3:=pn163 x0.f1; simp only[length_map,length_append,length_take,length_drop,length_cons,length_nil,List.length_flatten,List.map_cons,List.map_nil,List.sum_cons,List.sum_nil] at*; omega) (by have q0:=hy7 x0 (List.mem_of_getElem? Hx0); have q2:=pb162 x0.f0; have q3:=pn163 x0.f1; simp only[length_map,length_append,length_take,length_drop,length_cons,length_nil,List.length_flatten,List.map_cons,List.map_nil,List.sum_cons,List.sum_nil] at*; omega)))
    have ih:=t141_1 (l0_1:=l0_1) (l0_2:=l0_2) (a0:=a0) (c0_141_1:=c0_141_1) hy0 hy1 hy2 hy3 hy4 hy5 hy6 hy7 hy8 y0 (p++ [x0]) (m161 [v0,(m162 x0.f0),(m163 x0.f1)]) ye (by have q0:=hy7 x0 (List.mem_of_getElem? Hx0); have q2:=pb162 x0.f0; have q3:=pn163 x0.f1; rw[cat3 (by simp only[length_cons] at*; omega)]; simp only[length_map,length_append,length_take,length_drop,length_cons,length_nil,List.length_flatten,List.map_cons,List.map_nil,List.sum_cons,List.sum_nil] at*; omega)
    rw[pl1,← hw] at ih; rw[← hw]
    exact ly 35 ya (.f hc (.f f1 (.f (mp_ b_U Hx0) (.h 2 (.b true) (.h 4 (.row (b_U x0)) (.r 18 [] [] (e162 (a0:=x0.f0)) (.r 24 [] [] (e163 (l0_0:=(l0_2+1)) (a0:=x0.f1) yb) (pe 0 (pe (length (map d_y v0)) (pe 0 (pe (length (map d_y (m162 x0.f0))) (pe 0 (pe (length (map d_y (m163 x0.f1))) (.f f11 (.f f12 (.f f13 (.r 28 [] [[[(.sl (toBR (map d_y v0)))],[(.sl (toBR (map d_y (m162 x0.f0))))],[(.sl (toBR (map d_y (m163 x0.f1))))]]] f14 (.f trivial .nil)))))))))))))))))) ih
theorem lk141_1 {a:K_T}:∀ {l:List K_U} {i:Int} {v w:List Int} {j b},(∀z∈l,length z.f1≤12)→r141_1 a l i v=.k0 w j b→v.length+60*l.length≤520→w.length≤v.length+60*l.length
  |[],i,v,w,j,b,_,h,_=>by simp only[r141_1] at h; injection h with h; subst h; simp
  |x::l,i,v,w,j,b,z,h,hv=>by
    simp only[r141_1] at h
    have q0:=z x (List.mem_cons_self ..)
    have z1:=fun u hu=>z u (List.mem_cons_of_mem _ hu)
    have q2:=pb162 x.f0
    have q3:=pn163 x.f1
    simp only[length_cons] at hv⊢
    rw[cat3 yb] at h
    have q:=lk141_1 z1 h yam
    simp only[length_append] at q; omega
/-! loop.example/g00539/impl.packTx -/
def m141 (a0:K_T):(List Int):=
  (match r141_0 a0 a0.f1 0 ((m160 a0.f0)++(m160 ((length (map b_N a0.f1)):Int))) with | .k0 w0_4 w1_4 w2_4=>(match r141_1 a0 a0.f2 0 (w0_4++(m160 ((length (map b_U a0.f2)):Int))) with | .k0 w0_8 w1_8 w2_8=>w0_8))
theorem e141 {l0_1:Nat} {l0_2:Nat} {a0:K_T} (hy0:length a0.f1*40≤140737488351232) (hy1:∀z∈a0.f1,ok_N z) (hy2:length a0.f2*32≤140737488351232) (hy3:∀z∈a0.f2,ok_U z) (hy4:length a0.f1≤4) (hy5:∀z∈a0.f1,length z.f2≤8) (hy6:length a0.f2≤4) (hy7:∀z∈a0.f2,length z.f1≤12):Ev F X (.call 141 [(.agg (k_T l0_1 l0_2 a0))] [] [] [(.one (.own 1 (map d_y (m141 a0))))]):=by
  unfold m141
  have f2:0+(length (map d_y (m160 a0.f0)))≤(length (map d_y (m160 a0.f0))):=yb
  have f3:0+(length (map d_y (m160 ((length (map b_N a0.f1)):Int))))≤(length (map d_y (m160 ((length (map b_N a0.f1)):Int)))):=yb
  have f4:((take (length (map d_y (m160 ((length (map b_N a0.f1)):Int)))) (drop 0 (map d_y (m160 ((length (map b_N a0.f1)):Int))))).all fun x=>x.all copyable)=true:=(ct_y _ _ _)
  have f5:(length ((take (length (map d_y (m160 a0.f0))) (drop 0 (map d_y (m160 a0.f0))))++(take (length (map d_y (m160 ((length (map b_N a0.f1)):Int)))) (drop 0 (map d_y (m160 ((length (map b_N a0.f1)):Int)))))))*1≤70368744177664:=yp
  have f6:∀r∈((take (length (map d_y (m160 ((length (map b_N a0.f1)):Int)))) (drop 0 (map d_y (m160 ((length (map b_N a0.f1)):Int))))):List (List D)),r.length=1:=yd
  have f7:((take (length (map d_y (m160 a0.f0))) (drop 0 (map d_y (m160 a0.f0))))++(take (length (map d_y (m160 ((length (map b_N a0.f1)):Int)))) (drop 0 (map d_y (m160 ((length (map b_N a0.f1)):Int))))))=(map d_y ((m160 a0.f0)++(m160 ((length (map b_N a0.f1)):Int)))):=yy
  cases h0:r141_0 a0 a0.f1 0 ((m160 a0.f0)++(m160 ((length (map b_N a0.f1)):Int))) with
  |k0 w0_4 w1_4 w2_4=>
    try dsimp only
    have f8:(⟨[(1,(.ptr ⟨(1,0,0),[],0,0,3⟩)),(3,(.one (.ref ⟨(3,0,0),[],0,(length ((take (length (map d_y (m160 a0.f0))) (drop 0 (map d_y (m160 a0.f0))))++(take (length (map d_y (m160 ((length (map b_N a0.f1)):Int)))) (drop 0 (map d_y (m160 ((length (map b_N a0.f1)):Int)))))))⟩))),(17,(.one (.bor l0_1 (map b_N a0.f1)))),(18,(.oi ((length (map b_N a0.f1)):Int))),(19,(.oi 0))],[((1,0,0),.live ⟨3,[[(.i a0.f0),(.bor l0_1 (map b_N a0.f1)),(.bor l0_2 (map b_U a0.f2))]],[]⟩),((3,0,0),.live ⟨1,(map d_y ((m160 a0.f0)++(m160 ((length (map b_N a0.f1)):Int)))),[]⟩)]⟩:St)=h141_0 l0_1 l0_2 a0 0 ((m160 a0.f0)++(m160 ((length (map b_N a0.f1)):Int))):=(by unfold h141_0; simp[take_of_length_le,d_y,ol112,ol83,ol84,ol51,ol45_0,ol12_0,four_len,high4,high2]; done)
    have f11:0+(length (map d_y w0_4))≤(length (map d_y w0_4)):=yb
    have f12:0+(length (map d_y (m160 ((length (map b_U a0.f2)):Int))))≤(length (map d_y (m160 ((length (map b_U a0.f2)):Int)))):=yb
    have f13:((take (length (map d_y (m160 ((length (map b_U a0.f2)):Int)))) (drop 0 (map d_y (m160 ((length (map b_U a0.f2)):Int))))).all fun x=>x.all copyable)=true:=(ct_y _ _ _)
    have f14:(length ((take (length (map d_y w0_4)) (drop 0 (map d_y w0_4)))++(take (length (map d_y (m160 ((length (map b_U a0.f2)):Int)))) (drop 0 (map d_y (m160 ((length (map b_U a0.f2)):Int)))))))*1≤70368744177664:=yl
    have f15:∀r∈((take (length (map d_y (m160 ((length (map b_U a0.f2)):Int)))) (drop 0 (map d_y (m160 ((length (map b_U a0.f2)):Int))))):List (List D)),r.length=1:=yd
    have f16:((take (length (map d_y w0_4)) (drop 0 (map d_y w0_4)))++(take (length (map d_y (m160 ((length (map b_U a0.f2)):Int)))) (drop 0 (map d_y (m160 ((length (map b_U a0.f2)):Int))))))=(map d_y (w0_4++(m160 ((length (map b_U a0.f2)):Int)))):=yy
    cases h1:r141_1 a0 a0.f2 0 (w0_4++(m160 ((length (map b_U a0.f2)):Int))) with
    |k0 w0_8 w1_8 w2_8=>
      try dsimp only
      have f17:(⟨[(1,(.ptr ⟨(1,0,0),[],0,0,3⟩)),(3,(.one (.ref ⟨(3,0,0),[],0,(length ((take (length (map d_y w0_4)) (drop 0 (map d_y w0_4)))++(take (length (map d_y (m160 ((length (map b_U a0.f2)):Int)))) (drop 0 (map d_y (m160 ((length (map b_U a0.f2)):Int)))))))⟩))),(43,(.one (.bor l0_2 (map b_U a0.f2)))),(44,(.oi ((length (map b_U a0.f2)):Int))),(45,(.oi 0))],[((1,0,0),.live ⟨3,[[(.i a0.f0),(.bor l0_1 (map b_N a0.f1)),(.bor l0_2 (map b_U a0.f2))]],[]⟩),((3,0,0),.live ⟨1,(map d_y (w0_4++(m160 ((length (map b_U a0.f2)):Int)))),[]⟩)]⟩:St)=h141_1 l0_1 l0_2 a0 w0_4 0 (w0_4++(m160 ((length (map b_U a0.f2)):Int))):=(by unfold h141_1; simp[take_of_length_le,d_y,ol112,ol83,ol84,ol51,ol45_0,ol12_0,four_len,high4,high2]; done)
      exact cp ya (.r 9 [] [] (e160 (a0:=a0.f0)) (.r 17 [] [] (e160 (a0:=((length (map b_N a0.f1)):Int))) (.f f2 (.f f3 (.f f4 (.f f5 (.f f6 (.f f7 (.f f8 (.f (ev_ (e:=ex141_0) (g:=(fin141_0 l0_1 l0_2 a0)) h0 (t141_0 (l0_1:=l0_1) (l0_2:=l0_2) (a0:=a0) (by assumption) (by assumption) (by assumption) (by assumption) (by assumption) (by assumption) (by assumption) (by assumption) a0.f1 [] ((m160 a0.f0)++(m160 ((length (map b_N a0.f1)):Int))) rfl yp)) (.h 19 (.b true) (.h 22 (.norm (3,0,0) (map d_y ((m160 a0.f0)++(m160 ((length (map b_N a0.f1)):Int))))) (.h 31 (.loop (h141_0 l0_1 l0_2 a0 0 ((m160 a0.f0)++(m160 ((length (map b_N a0.f1)):Int)))) (.exit 0) ⟨[(1,(.ptr ⟨(1,0,0),[],0,0,3⟩)),(3,(.one (.ref ⟨(3,0,0),[],0,(length (map d_y w0_4))⟩))),(17,(.one (.bor l0_1 (map b_N a0.f1)))),(18,(.oi ((length (map b_N a0.f1)):Int))),(19,(.oi w1_4)),(20,(.one (.val (.bool w2_4))))],[((1,0,0),.live ⟨3,[[(.i a0.f0),(.bor l0_1 (map b_N a0.f1)),(.bor l0_2 (map b_U a0.f2))]],[]⟩),((3,0,0),.live ⟨1,(map d_y w0_4),[]⟩)]⟩) (.r 41 [] [] (e160 (a0:=((length (map b_U a0.f2)):Int))) (.f f11 (.f f12 (.f f13 (.f f14 (.f f15 (.f f16 (.f f17 (.f (ev_ (e:=ex141_1) (g:=(fin141_1 l0_1 l0_2 a0 w0_4)) h1 (t141_1 (l0_1:=l0_1) (l0_2:=l0_2) (a0:=a0) (c0_141_1:=w0_4) (by assumption) (by assumption) (by assumption) (by assumption) (by assumption) (by assumption) (by assumption) (by assumption) yp a0.f2 [] (w0_4++(m160 ((length (map b_U a0.f2)):Int))) rfl yl)) (pe 0 (pe (length (map d_y w0_8)) (.f (pureR_y w0_8) (.h 43 (.b true) (.h 46 (.norm (3,0,0) (map d_y (w0_4++(m160 ((length (map b_U a0.f2)):Int))))) (.h 55 (.loop (h141_1 l0_1 l0_2 a0 w0_4 0 (w0_4++(m160 ((length (map b_U a0.f2)):Int)))) (.exit 2) ⟨[(1,(.ptr ⟨(1,0,0),[],0,0,3⟩)),(3,(.one (.ref ⟨(3,0,0),[],0,(length (map d_y w0_8))⟩))),(43,(.one (.bor l0_2 (map b_U a0.f2)))),(44,(.oi ((length (map b_U a0.f2)):Int))),(45,(.oi w1_8)),(46,(.one (.val (.bool w2_8))))],[((1,0,0),.live ⟨3,[[(.i a0.f0),(.bor l0_1 (map b_N a0.f1)),(.bor l0_2 (map b_U a0.f2))]],[]⟩),((3,0,0),.live ⟨1,(map d_y w0_8),[]⟩)]⟩) .nil))))))))))))))))))))))))))))
theorem pt141 (a:K_T) (h:SmT a):length (m141 a)≤1000:=by
  obtain⟨a1,a2,a3,a4⟩:=h
  have q0:=pl160 a.f0
  have q1:=pl160 ((length (map b_N a.f1)):Int)
  have q2:=pl160 ((length (map b_U a.f2)):Int)
  unfold m141
  cases h:r141_0 a a.f1 0 ((m160 a.f0)++(m160 ((length (map b_N a.f1)):Int))) with
  |k0 w j b=>
    have q:=lk141_0 a2 h yam
    simp only[length_append] at q
    simp only[]
    cases h2:r141_1 a a.f2 0 (w++(m160 ((length (map b_U a.f2)):Int))) with
    |k0 w2 j2 b2=>
      have q3:=lk141_1 a4 h2 yam
      simp only[length_append] at q3
      show w2.length≤_
      omega
/-! loop 108_0 -/
inductive O108_0 where
  |k0 (w0:List K_N) (w1:Int) (w2:Bool)
def r108_0 (a0:K_T):List K_N→Int→List K_N→O108_0
  |x0::y0,i,v0=>
    (r108_0 a0 y0 (i+1) (v0++([(K_N.mk x0.f0 x0.f1 [])])))
  |[],i,v0=>(O108_0.k0 v0 i (decide (i <((length (map b_N a0.f1)):Int))))
def h108_0 (l0_1:Nat) (l0_2:Nat) (a0:K_T) (i:Int) (v0:List K_N):St:=⟨[(1,(.ptr ⟨(1,0,0),[],0,0,3⟩)),(3,(.ptr ⟨(3,0,0),[],0,0,3⟩)),(12,(.one (.bor l0_1 (map b_N a0.f1)))),(13,(.one (.val (.int .i64 ((length (map b_N a0.f1)):Int))))),(14,(.one (.val (.int .i64 i))))],[((1,0,0),.live ⟨3,[[(.val (.int .i64 a0.f0)),(.bor l0_1 (map b_N a0.f1)),(.bor l0_2 (map b_U a0.f2))]],[]⟩),((3,0,0),.live ⟨3,[[(.val (.int .i64 a0.f0)),(.own 3 (map d_N v0)),(.bor l0_2 (map b_U a0.f2))]],[]⟩)]⟩
def ex108_0:O108_0→VX.Exit
  |.k0 _ _ _=>(.exit 0)
def fin108_0 (l0_1:Nat) (l0_2:Nat) (a0:K_T):O108_0→St
  |.k0 w0 w1 w2=>⟨[(1,(.ptr ⟨(1,0,0),[],0,0,3⟩)),(3,(.ptr ⟨(3,0,0),[],0,0,3⟩)),(12,(.one (.bor l0_1 (map b_N a0.f1)))),(13,(.one (.val (.int .i64 ((length (map b_N a0.f1)):Int))))),(14,(.one (.val (.int .i64 w1)))),(15,(.one (.val (.bool w2))))],[((1,0,0),.live ⟨3,[[(.val (.int .i64 a0.f0)),(.bor l0_1 (map b_N a0.f1)),(.bor l0_2 (map b_U a0.f2))]],[]⟩),((3,0,0),.live ⟨3,[[(.val (.int .i64 a0.f0)),(.own 3 (map d_N w0)),(.bor l0_2 (map b_U a0.f2))]],[]⟩)]⟩
theorem t108_0 {l0_1:Nat} {l0_2:Nat} {a0:K_T} (hy0:length a0.f1*40≤140737488351232) (hy1:∀z∈a0.f1,ok_N z) (hy2:length a0.f2*32≤140737488351232) (hy3:∀z∈a0.f2,ok_U z) (hy4:SmT a0):∀(y0:List K_N) (p:List K_N) (v0:List K_N),p++y0=a0.f1→(length v0+length y0)*40≤70368744177664→Ev F X (.code l108_0 (h108_0 l0_1 l0_2 a0 (length p:Int) v0) (ex108_0 (r108_0 a0 y0 (length p:Int) v0)) (fin108_0 l0_1 l0_2 a0 (r108_0 a0 y0 (length p:Int) v0)))
  |[],p,v0,hp0,hi0=>by
    have hc:=hcn b_N hp0
    have hj0:=hi0; try simp only[LN,Int.toNat_natCast] at hj0
    exact lx 3 ya (.f (nt hc) (.h 2 (.b false) .nil)) rfl
  |x0::y0,p,v0,hp0,hi0=>by
    have hc:=hcy b_N hp0
    have Hx0:=hxy hp0
    have Mx0_0:=hy1 x0 (List.mem_of_getElem? Hx0)
    have hlen:=hly hp0
    have hw:wrap .i64 ((length p:Int)+1)=(length p:Int)+1:=wrap64 yb
    have hj0:=hi0; try simp only[LN,Int.toNat_natCast] at hj0
    simp only[r108_0]
    have f1:0≤(length p:Int):=yb
    have f3:0+(length (map d_N v0))≤(length (map d_N v0)):=yb
    have f4:1≤1:=yb
    have f5:((take 1 (drop 0 [[(.i x0.f0),(.i x0.f1),(.own 1 [])]])).all fun x=>x.all copyable)=false:=yL
    have f8:(length ((take (length (map d_N v0)) (drop 0 (map d_N v0)))++([[(.i x0.f0),(.i x0.f1),(.own 1 [])]]:List (List D))))*40≤70368744177664:=yr
    have f9:∀r∈([[(.i x0.f0),(.i x0.f1),(.own 1 [])]]:List (List D)),r.length=3:=yJ
    have f12:([[(.i a0.f0),(.own 3 ((take (length (map d_N v0)) (drop 0 (map d_N v0)))++([[(.i x0.f0),(.i x0.f1),(.own 1 [])]]:List (List D)))),(.bor l0_2 (map b_U a0.f2))]]:List (List D))=[[(.i a0.f0),(.own 3 (map d_N (v0++([(K_N.mk x0.f0 x0.f1 [])])))),(.bor l0_2 (map b_U a0.f2))]]:=(by simp[take_of_length_le,d_N,ol112,ol83,ol84,ol51,ol45_0,ol12_0,four_len,high4,high2]; done)
    have ih:=t108_0 (l0_1:=l0_1) (l0_2:=l0_2) (a0:=a0) hy0 hy1 hy2 hy3 hy4 y0 (p++ [x0]) (v0++([(K_N.mk x0.f0 x0.f1 [])])) ye yq
    rw[pl1,← hw] at ih; rw[← hw]
    exact ly 38 ya (.f hc (.f f1 (.f (mp_ b_N Hx0) (.f f3 (.f f4 (.f f5 (pe 0 (pe 1 (.f f8 (.f f9 (pe 0 (pe (length ((take (length (map d_N v0)) (drop 0 (map d_N v0)))++([[(.i x0.f0),(.i x0.f1),(.own 1 [])]]:List (List D)))) (.f f12 (.f trivial (.h 2 (.b true) (.h 4 (.row (b_N x0)) (.h 28 (.b false) (.h 33 (.norm (3,0,0) [[(.i a0.f0),(.own 3 (map d_N (v0++([(K_N.mk x0.f0 x0.f1 [])])))),(.bor l0_2 (map b_U a0.f2))]]) .nil)))))))))))))))))) ih
def post108_0 (n0:Nat):O108_0→Prop
  |.k0 w0 _ _=>length w0=n0
theorem z108_0 {a0:K_T}:∀(y0:List K_N) (i:Int) (v0:List K_N),post108_0 (length v0+length y0) (r108_0 a0 y0 i v0)
  |[],i,v0=>by
    first | trivial |(simp only[post108_0,length_nil,Nat.add_zero]; done) |(simp[post108_0]; done)
  |x0::y0,i,v0=>by
    simp only[r108_0]
    have z:=z108_0 (a0:=a0) y0 (i+1) (v0++([(K_N.mk x0.f0 x0.f1 [])]))
    rw[show (length v0+length (x0::y0))=(length (v0++([(K_N.mk x0.f0 x0.f1 [])]))+length y0) from by first | omega |(simp only[LN]; done) |(simp only[LN]; omega)]
    exact z
def bare (x:K_N):K_N:=K_N.mk x.f0 x.f1 []
theorem lk108 {a:K_T}:∀ {l:List K_N} {i:Int} {v w:List K_N} {j b},r108_0 a l i v=.k0 w j b→w=v++l.map bare
  |[],i,v,w,j,b,h=>by simp only[r108_0] at h; injection h with h; subst h; simp
  |x::l,i,v,w,j,b,h=>by
    simp only[r108_0] at h
    rw[lk108 h,append_assoc]; rfl
theorem sm108 {a:K_T} {w j b} (h:SmT a) (e:r108_0 a a.f1 0 []=.k0 w j b):SmT (K_T.mk a.f0 w a.f2):=by
  rw[lk108 e]
  refine⟨?_,?_,h.2.2.1,h.2.2.2⟩
  · show length ([]++map bare a.f1)≤4
    have:=h.1; simpa using this
  · intro x hx
    simp only[List.nil_append,List.mem_map] at hx
    obtain⟨y,_,rfl⟩:=hx
    exact Nat.zero_le _
theorem so108 {a:K_T} {w j b} (e:r108_0 a a.f1 0 []=.k0 w j b):∀z∈w,ok_N z:=by
  rw[lk108 e]
  intro x hx
  simp only[List.nil_append,List.mem_map] at hx
  obtain⟨y,_,rfl⟩:=hx
  exact Nat.zero_le _
/-! loop.example/g00539/impl.txSum -/
def m108 (a0:K_T):Int:=
  (match r108_0 a0 a0.f1 0 [] with | .k0 w0_0 w1_0 w2_0=>(m140 (m141 (K_T.mk a0.f0 w0_0 a0.f2))))
theorem e108 {l0_1:Nat} {l0_2:Nat} {a0:K_T} (hy0:length a0.f1*40≤140737488351232) (hy1:∀z∈a0.f1,ok_N z) (hy2:length a0.f2*32≤140737488351232) (hy3:∀z∈a0.f2,ok_U z) (hy4:SmT a0):Ev F X (.call 108 [(.agg (k_T l0_1 l0_2 a0))] [] [] [(.one (.val (.int .i64 (m108 a0))))]):=by
  unfold m108
  cases h0:r108_0 a0 a0.f1 0 [] with
  |k0 w0_0 w1_0 w2_0=>
    try dsimp only
    have zh0:=z108_0 (a0:=a0) a0.f1 0 []; rw[h0] at zh0; simp only[post108_0,length_map,length_set,length_append,length_replicate,length_cons,length_nil,Int.toNat_natCast] at zh0
    have f0:=Eq.refl (h108_0 l0_1 l0_2 a0 0 [])
    exact cp ya (.f f0 (.f (ev_ (e:=ex108_0) (g:=(fin108_0 l0_1 l0_2 a0)) h0 (t108_0 (l0_1:=l0_1) (l0_2:=l0_2) (a0:=a0) (by assumption) (by assumption) (by assumption) (by assumption) (by assumption) a0.f1 [] [] rfl (by have q:=hy4.1; simp only[length_nil]; omega))) (ln_N w0_0 (.h 26 (.loop (h108_0 l0_1 l0_2 a0 0 []) (.exit 0) ⟨[(1,(.ptr ⟨(1,0,0),[],0,0,3⟩)),(3,(.ptr ⟨(3,0,0),[],0,0,3⟩)),(12,(.one (.bor l0_1 (map b_N a0.f1)))),(13,(.oi ((length (map b_N a0.f1)):Int))),(14,(.oi w1_0)),(15,(.one (.val (.bool w2_0))))],[((1,0,0),.live ⟨3,[[(.i a0.f0),(.bor l0_1 (map b_N a0.f1)),(.bor l0_2 (map b_U a0.f2))]],[]⟩),((3,0,0),.live ⟨3,[[(.i a0.f0),(.own 3 (map d_N w0_0)),(.bor l0_2 (map b_U a0.f2))]],[]⟩)]⟩) (.r 30 [] [(map b_N w0_0)] (e141 (l0_1:=0) (l0_2:=(l0_2+1)) (a0:=(K_T.mk a0.f0 w0_0 a0.f2)) yu (by exact so108 ‹_›) ‹_› ‹_› (by exact(sm108 hy4 ‹_›).1) (by exact(sm108 hy4 ‹_›).2.1) (by exact hy4.2.2.1) (by exact hy4.2.2.2)) (ln_y (m141 (K_T.mk a0.f0 w0_0 a0.f2)) (.r 32 [] [(map b_y (m141 (K_T.mk a0.f0 w0_0 a0.f2)))] (e140 (l0_0:=0) (a0:=(m141 (K_T.mk a0.f0 w0_0 a0.f2))) (by have q:=pt141 _ (sm108 hy4 ‹_›); omega)) .nil)))))))
/-! loop 79_0 -/
inductive O79_0 where
  |k0 (w0:List Int) (w1:Int) (w2:Bool)
def r79_0 (a0:K_G):List K_T→Int→List Int→O79_0
  |x0::y0,i,v0=>
    (r79_0 a0 y0 (i+1) (v0++([(m108 x0)])))
  |[],i,v0=>(O79_0.k0 v0 i (decide (i <((length (map b_T a0.f4)):Int))))
def h79_0 (l0_4:Nat) (a0:K_G) (i:Int) (v0:List Int):St:=⟨[(1,(.ptr ⟨(1,0,0),[],0,0,5⟩)),(3,(.one (.ref ⟨(3,0,0),[],0,(length (map d_i v0))⟩))),(8,(.one (.bor l0_4 (map b_T a0.f4)))),(9,(.one (.val (.int .i64 ((length (map b_T a0.f4)):Int))))),(10,(.one (.val (.int .i64 i))))],[((1,0,0),.live ⟨5,[[(.val (.int .i64 a0.f0)),(.val (.int .i64 a0.f1)),(.val (.int .i64 a0.f2)),(.val (.int .i64 a0.f3)),(.bor l0_4 (map b_T a0.f4))]],[]⟩),((3,0,0),.live ⟨1,(map d_i v0),[]⟩)]⟩
def ex79_0:O79_0→VX.Exit
  |.k0 _ _ _=>(.exit 0)
def fin79_0 (l0_4:Nat) (a0:K_G):O79_0→St
  |.k0 w0 w1 w2=>⟨[(1,(.ptr ⟨(1,0,0),[],0,0,5⟩)),(3,(.one (.ref ⟨(3,0,0),[],0,(length (map d_i w0))⟩))),(8,(.one (.bor l0_4 (map b_T a0.f4)))),(9,(.one (.val (.int .i64 ((length (map b_T a0.f4)):Int))))),(10,(.one (.val (.int .i64 w1)))),(11,(.one (.val (.bool w2))))],[((1,0,0),.live ⟨5,[[(.val (.int .i64 a0.f0)),(.val (.int .i64 a0.f1)),(.val (.int .i64 a0.f2)),(.val (.int .i64 a0.f3)),(.bor l0_4 (map b_T a0.f4))]],[]⟩),((3,0,0),.live ⟨1,(map d_i w0),[]⟩)]⟩
theorem t79_0 {l0_4:Nat} {a0:K_G} (hy0:length a0.f4*56≤140737488351232) (hy1:∀z∈a0.f4,ok_T z) (hy2:length a0.f4≤4) (hy3:∀z∈a0.f4,SmT z):∀(y0:List K_T) (p:List K_T) (v0:List Int),p++y0=a0.f4→(length v0+length y0)*8≤70368744177664→length v0+length y0≤4→Ev F X (.code l79_0 (h79_0 l0_4 a0 (length p:Int) v0) (ex79_0 (r79_0 a0 y0 (length p:Int) v0)) (fin79_0 l0_4 a0 (r79_0 a0 y0 (length p:Int) v0)))
  |[],p,v0,hp0,hi0,hi1=>by
    have hc:=hcn b_T hp0
    have hj0:=hi0; try simp only[LN,Int.toNat_natCast] at hj0
    have hj1:=hi1; try simp only[LN,Int.toNat_natCast] at hj1
    exact lx 3 ya (.f (nt hc) (.h 2 (.b false) .nil)) rfl
  |x0::y0,p,v0,hp0,hi0,hi1=>by
    have hc:=hcy b_T hp0
    have Hx0:=hxy hp0
    obtain⟨Mx0_0,Mx0_1,Mx0_2,Mx0_3⟩:=hy1 x0 (List.mem_of_getElem? Hx0)
    have hlen:=hly hp0
    have hw:wrap .i64 ((length p:Int)+1)=(length p:Int)+1:=wrap64 yb
    have hj0:=hi0; try simp only[LN,Int.toNat_natCast] at hj0
    have hj1:=hi1; try simp only[LN,Int.toNat_natCast] at hj1
    simp only[r79_0]
    have f1:0≤(length p:Int):=yb
    have f4:0+(length (map d_i v0))≤(length (map d_i v0)):=yb
    have f5:1≤1:=yb
    have f6:((take 1 (drop 0 [[(.i (m108 x0))]])).all fun x=>x.all copyable)=true:=yL
    have f7:(length ((take (length (map d_i v0)) (drop 0 (map d_i v0)))++([[(.i (m108 x0))]]:List (List D))))*8≤70368744177664:=yk
    have f8:∀r∈([[(.i (m108 x0))]]:List (List D)),r.length=1:=(by unfold m108;(repeat' split)<;>simp_all<;>omega)
    have f9:((take (length (map d_i v0)) (drop 0 (map d_i v0)))++([[(.i (m108 x0))]]:List (List D)))=(map d_i (v0++([(m108 x0)]))):=yad
    have st:=ch b79_0 (h79_0 l0_4 a0 (length p:Int) v0) ⟨[(1,(.ptr ⟨(1,0,0),[],0,0,5⟩)),(3,(.one (.ref ⟨(3,0,0),[],0,(length ((take (length (map d_i v0)) (drop 0 (map d_i v0)))++([[(.i (m108 x0))]]:List (List D))))⟩))),(8,(.one (.bor l0_4 (map b_T a0.f4)))),(9,(.oi ((length (map b_T a0.f4)):Int))),(10,(.oi (wrap .i64 ((length p:Int)+1))))],[((1,0,0),.live ⟨5,[[(.i a0.f0),(.i a0.f1),(.i a0.f2),(.i a0.f3),(.bor l0_4 (map b_T a0.f4))]],[]⟩),((3,0,0),.live ⟨1,(map d_i (v0++([(m108 x0)]))),[]⟩)]⟩ .normal 28 ya (.f hc (.f f1 (.f (mp_ b_T Hx0) (.h 2 (.b true) (.h 4 (.row (b_T x0)) (.r 16 [] [] (e108 (l0_1:=(l0_4+1)) (l0_2:=(l0_4+1)) (a0:=x0) ‹_› ‹_› ‹_› ‹_› (by exact hy3 _ (List.mem_of_getElem? ‹_›))) (.f f4 (.f f5 (.f f6 (.f f7 (.f f8 (.f f9 (.f trivial (.h 20 (.b true) (.h 23 (.norm (3,0,0) (map d_i (v0++([(m108 x0)])))) .nil)))))))))))))))
    have ih:=t79_0 (l0_4:=l0_4) (a0:=a0) hy0 hy1 hy2 hy3 y0 (p++ [x0]) (v0++([(m108 x0)])) ye yq yq
    rw[pl1] at ih
    rw[show (⟨[(1,(.ptr ⟨(1,0,0),[],0,0,5⟩)),(3,(.one (.ref ⟨(3,0,0),[],0,(length ((take (length (map d_i v0)) (drop 0 (map d_i v0)))++([[(.i (m108 x0))]]:List (List D))))⟩))),(8,(.one (.bor l0_4 (map b_T a0.f4)))),(9,(.oi ((length (map b_T a0.f4)):Int))),(10,(.oi (wrap .i64 ((length p:Int)+1))))],[((1,0,0),.live ⟨5,[[(.i a0.f0),(.i a0.f1),(.i a0.f2),(.i a0.f3),(.bor l0_4 (map b_T a0.f4))]],[]⟩),((3,0,0),.live ⟨1,(map d_i (v0++([(m108 x0)]))),[]⟩)]⟩:St)=h79_0 l0_4 a0 ((length p:Int)+1) (v0++([(m108 x0)])) from(by unfold h79_0; simp[hw,take_of_length_le,d_i,ol112,ol83,ol84,ol51,ol45_0,ol12_0,four_len,high4,high2]; done)] at st
    exact .loopN st ih
def post79_0 (n0:Nat):O79_0→Prop
  |.k0 w0 _ _=>length w0=n0
theorem z79_0 {a0:K_G}:∀(y0:List K_T) (i:Int) (v0:List Int),post79_0 (length v0+length y0) (r79_0 a0 y0 i v0)
  |[],i,v0=>by
    first | trivial |(simp only[post79_0,length_nil,Nat.add_zero]; done) |(simp[post79_0]; done)
  |x0::y0,i,v0=>by
    simp only[r79_0]
    have z:=z79_0 (a0:=a0) y0 (i+1) (v0++([(m108 x0)]))
    rw[show (length v0+length (x0::y0))=(length (v0++([(m108 x0)]))+length y0) from by first | omega |(simp only[LN]; done) |(simp only[LN]; omega)]
    exact z
theorem ls79 {a:K_G}:∀ {l:List K_T} {i:Int} {v w:List Int} {j b},r79_0 a l i v=.k0 w j b→w.length=v.length+l.length
  |[],i,v,w,j,b,h=>by simp only[r79_0] at h; injection h with h; subst h; simp
  |x::l,i,v,w,j,b,h=>by
    simp only[r79_0] at h
    have q:=ls79 h
    simp only[length_append,length_cons,length_nil] at q⊢; omega
/-! loop.example/g00539/impl.txSums -/
def m79 (a0:K_G):(List Int):=
  (match r79_0 a0 a0.f4 0 ([]) with | .k0 w0_0 w1_0 w2_0=>w0_0)
theorem e79 {l0_4:Nat} {a0:K_G} (hy0:length a0.f4*56≤140737488351232) (hy1:∀z∈a0.f4,ok_T z) (hy2:length a0.f4≤4) (hy3:∀z∈a0.f4,SmT z):Ev F X (.call 79 [(.agg (k_G l0_4 a0))] [] [] [(.one (.own 1 (map d_i (m79 a0))))]):=by
  unfold m79
  cases h0:r79_0 a0 a0.f4 0 ([]) with
  |k0 w0_0 w1_0 w2_0=>
    try dsimp only
    have zh0:=z79_0 (a0:=a0) a0.f4 0 ([]); rw[h0] at zh0; simp only[post79_0,length_map,length_set,length_append,length_replicate,length_cons,length_nil,Int.toNat_natCast] at zh0
    have f0:=Eq.refl (h79_0 l0_4 a0 0 ([]))
    exact cp ya (.f f0 (.f (ev_ (e:=ex79_0) (g:=(fin79_0 l0_4 a0)) h0 (t79_0 (l0_4:=l0_4) (a0:=a0) (by assumption) (by assumption) (by assumption) (by assumption) a0.f4 [] ([]) rfl yk yk)) (pe 0 (pe (length (map d_i w0_0)) (.f (pureR_i w0_0) (.h 16 (.loop (h79_0 l0_4 a0 0 ([])) (.exit 0) ⟨[(1,(.ptr ⟨(1,0,0),[],0,0,5⟩)),(3,(.one (.ref ⟨(3,0,0),[],0,(length (map d_i w0_0))⟩))),(8,(.one (.bor l0_4 (map b_T a0.f4)))),(9,(.oi ((length (map b_T a0.f4)):Int))),(10,(.oi w1_0)),(11,(.one (.val (.bool w2_0))))],[((1,0,0),.live ⟨5,[[(.i a0.f0),(.i a0.f1),(.i a0.f2),(.i a0.f3),(.bor l0_4 (map b_T a0.f4))]],[]⟩),((3,0,0),.live ⟨1,(map d_i w0_0),[]⟩)]⟩) .nil))))))
theorem ln79 (a:K_G):length (m79 a)=length a.f4:=by
  unfold m79
  cases h:r79_0 a a.f4 0 [] with
  |k0 w j b=>
    have q:=ls79 h
    show w.length=_
    simpa using q
/-! loop 43_0 -/
inductive O43_0 where
  |k0 (w0:Int) (w1:Bool)
  |k1 (w0:Int)
def r43_0 (a0:K_G):List K_T→Int→O43_0
  |x0::y0,i=>
    if((m76 x0) !=0)=true then(O43_0.k1 (m76 x0)) else
    (r43_0 a0 y0 (i+1))
  |[],i=>(O43_0.k0 i (decide (i <((length (map b_T a0.f4)):Int))))
def h43_0 (l0_4:Nat) (a0:K_G) (i:Int) :St:=⟨[(1,(.ptr ⟨(1,0,0),[],0,0,5⟩)),(38,(.one (.bor l0_4 (map b_T a0.f4)))),(39,(.one (.val (.int .i64 ((length (map b_T a0.f4)):Int))))),(40,(.one (.val (.int .i64 i))))],[((1,0,0),.live ⟨5,[[(.val (.int .i64 a0.f0)),(.val (.int .i64 a0.f1)),(.val (.int .i64 a0.f2)),(.val (.int .i64 a0.f3)),(.bor l0_4 (map b_T a0.f4))]],[]⟩)]⟩
def ex43_0:O43_0→VX.Exit
  |.k0 _ _=>(.exit 1)
  |.k1 _=>.ret
def fin43_0 (l0_4:Nat) (a0:K_G):O43_0→St
  |.k0 w0 w1=>⟨[(1,(.ptr ⟨(1,0,0),[],0,0,5⟩)),(38,(.one (.bor l0_4 (map b_T a0.f4)))),(39,(.one (.val (.int .i64 ((length (map b_T a0.f4)):Int))))),(40,(.one (.val (.int .i64 w0)))),(41,(.one (.val (.bool w1))))],[((1,0,0),.live ⟨5,[[(.val (.int .i64 a0.f0)),(.val (.int .i64 a0.f1)),(.val (.int .i64 a0.f2)),(.val (.int .i64 a0.f3)),(.bor l0_4 (map b_T a0.f4))]],[]⟩)]⟩
  |.k1 w0=>⟨[(2,(.one (.val (.int .i64 w0))))],[]⟩
theorem t43_0 {l0_4:Nat} {a0:K_G} (hy0:length a0.f4*56≤140737488351232) (hy1:∀z∈a0.f4,ok_T z):∀(y0:List K_T) (p:List K_T),p++y0=a0.f4→Ev F X (.code l43_0 (h43_0 l0_4 a0 (length p:Int)) (ex43_0 (r43_0 a0 y0 (length p:Int))) (fin43_0 l0_4 a0 (r43_0 a0 y0 (length p:Int))))
  |[],p,hp0=>by
    have hc:=hcn b_T hp0
    exact lx 3 ya (.f (nt hc) (.h 2 (.b false) .nil)) rfl
  |x0::y0,p,hp0=>by
    have hc:=hcy b_T hp0
    have Hx0:=hxy hp0
    obtain⟨Mx0_0,Mx0_1,Mx0_2,Mx0_3⟩:=hy1 x0 (List.mem_of_getElem? Hx0)
    have hlen:=hly hp0
    have hw:wrap .i64 ((length p:Int)+1)=(length p:Int)+1:=wrap64 yb
    simp only[r43_0]
    have f1:0≤(length p:Int):=yb
    have P1 {hs q} (r:PS F X hs q):=(PS.f hc (.f f1 (.f (mp_ b_T Hx0) (.h 2 (.b true) (.h 4 (.row (b_T x0)) (.r 14 [] [] (e76 (l0_1:=(l0_4+1)) (l0_2:=(l0_4+1)) (a0:=x0) ‹_› ‹_› ‹_› ‹_›) r))))))
    by_cases h_1:((m76 x0) !=0)=true
    · try simp only[if_pos h_1]
      exact lx 26 ya (P1 (.f h_1 (.h 21 (.b true) .nil))) rfl
    · try simp only[if_neg h_1]
      have ih:=t43_0 (l0_4:=l0_4) (a0:=a0) hy0 hy1 y0 (p++ [x0]) ye
      rw[pl1,← hw] at ih; rw[← hw]
      exact ly 26 ya (P1 (.f (nt h_1) (.f trivial (.h 21 (.b false) .nil)))) ih
theorem lb43 {a:K_G}:∀ {l:List K_T} {i:Int} {j b},r43_0 a l i=.k0 j b→∀x∈l,m76 x=0
  |[],i,j,b,h,x,hx=>by cases hx
  |y::l,i,j,b,h,x,hx=>by
    simp only[r43_0] at h
    split at h
    · cases h
    · rename_i h1
      rcases List.mem_cons.1 hx with rfl | hx
      · simpa using h1
      · exact lb43 h x hx
theorem ne43 {a:K_G}:∀(l:List K_T) (i:Int),r43_0 a l i≠.k1 0
  |[],i=>by simp only[r43_0]; intro h; cases h
  |y::l,i=>by
    simp only[r43_0]
    split
    · rename_i h; intro q; injection q with q; rw[q] at h; exact absurd h yM
    · exact ne43 l _
theorem in443 {a:List K_T} (h:¬(!(m41 ((length (map b_T a)):Int) 1 4))=true):1≤length a∧length a≤4:=by
  unfold m41 at h
  simp only[length_map] at h
  split at h
  · rename_i g
    simp only[decide_eq_true_eq] at g
    by_cases e:(a.length:Int)≤4
    · omega
    · simp[e] at h
  · simp at h
end Go.Proofs.YtmdocdnidilaiaaGreat.PutJob
