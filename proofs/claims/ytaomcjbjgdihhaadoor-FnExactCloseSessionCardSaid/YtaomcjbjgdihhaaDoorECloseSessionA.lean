/- What the functions compute. -/
import Derived.Test.YtaomcjbjgdihhaaDoorTCloseSession
import Derived.Test.YtaomcjbjgdihhaaDoorVNum
import Derived.Test.YtaomcjbjgdihhaaDoorVClone
import Derived.Test.YtaomcjbjgdihhaaDoorVExt
import Derived.Test.YtaomcjbjgdihhaaDoorXCloseSession
import Derived.KernelRfl
namespace Go.Proofs.YtaomcjbjgdihhaaDoor.CloseSession
open Go Go.Proofs.YtaomcjbjgdihhaaDoor.V
set_option linter.unusedVariables false
set_option linter.unusedSimpArgs false
set_option maxRecDepth 20000
def X : Ext := fun f args objs rs => (f = 35 ∧ objs = [] ∧ CloneX 4 48 args rs) ∨ (f = 46 ∧ objs = [] ∧ IdxX args rs) ∨ (f = 55 ∧ objs = [] ∧ TrimX args rs) ∨ (f = 19 ∧ objs = objs ∧ DelX 4 args objs rs)
theorem pe {α : Type} {hs q} (x : α) (r : PS F X hs q) : PS F X hs ((x = x) :: q) := .f rfl r
theorem mp_ {α β : Type} (f : α → β) {l : List α} {i : Nat} {x : α} (h : l[i]? = some x) : (l.map f)[i]? = some (f x) := by rw [List.getElem?_map, h]; rfl
theorem mz_ {α β : Type} (f : α → β) {l : List α} {i : Nat} {x : α} (h : l[i]? = some x) : (l.map f)[0 + i]? = some (f x) := by rw [Nat.zero_add]; exact mp_ f h
theorem ev_ {c : VC} {σ : St} {O : Type} {e : O → VX.Exit} {g : O → St} {r w : O} (h : r = w) (t : Ev F X (.code c σ (e r) (g r))) : Ev F X (.code c σ (e w) (g w)) := h ▸ t
theorem cp {f hs args rs q} (h : callH F X f hs [] args [] = some ([], rs, q)) (p : PS F X hs q) : Ev F X (.call f args [] [] rs) := callP_ok h p
theorem cq (ps : List Bool) {f hs args objs os rs q} (h : callH F X f hs ps args objs = some (os, rs, q)) (p : PS F X hs q) : Ev F X (.call f args objs os rs) := callP_ok h p
theorem ch (c : VC) (σ σ' : St) (e : VX.Exit) (t : Nat) {hs q} (h : codeH F X c 0 hs σ = some (e, σ', t, [], q)) (p : PS F X hs q) : Ev F X (.code c σ e σ') := codeP_ok h p
structure K_sisi where
  f0 : ByteArray
  f1 : Int
  f2 : ByteArray
  f3 : Int
def b_sisi (x : K_sisi) : List B := [(.val (.string x.f0)), (.val (.int .i64 x.f1)), (.val (.string x.f2)), (.val (.int .i64 x.f3))]
def d_sisi (x : K_sisi) : List D := [(.val (.string x.f0)), (.val (.int .i64 x.f1)), (.val (.string x.f2)), (.val (.int .i64 x.f3))]
theorem toBR_sisi : ∀ (l : List K_sisi), toBR (l.map d_sisi) = l.map b_sisi
  | [] => rfl
  | x :: l => by simp [toBR, toBL, toB, d_sisi, b_sisi, toBR_sisi l]
theorem fullR_sisi : ∀ (l : List K_sisi), fullR (l.map d_sisi) = true
  | [] => rfl
  | x :: l => by simp [fullR, fullL, full, d_sisi, fullR_sisi l]
theorem pureR_sisi : ∀ (l : List K_sisi), pureR (l.map d_sisi) = true
  | [] => rfl
  | x :: l => by simp [pureR, pureL, V.pure, d_sisi, pureR_sisi l]
theorem ft_sisi (a b : Nat) (l : List K_sisi) : fullR (List.take a (List.drop b (l.map d_sisi))) = true := by rw [← List.map_drop, ← List.map_take]; exact fullR_sisi _
theorem tbt_sisi (a b : Nat) (l : List K_sisi) : toBR (List.take a (List.drop b (l.map d_sisi))) = (List.take a (List.drop b l)).map b_sisi := by rw [← List.map_drop, ← List.map_take]; exact toBR_sisi _
theorem tb_sisi (l : List K_sisi) : toBR (List.take (l.map d_sisi).length (List.drop 0 (l.map d_sisi))) = l.map b_sisi := by rw [List.drop_zero, List.take_length]; exact toBR_sisi l
theorem ln_sisi {hs q} (x : List K_sisi) (r : PS F X hs q) : PS F X hs ((0 + (x.map d_sisi).length ≤ (x.map d_sisi).length) :: (fullR (List.take (x.map d_sisi).length (List.drop 0 (x.map d_sisi))) = true) :: (toBR (List.take (x.map d_sisi).length (List.drop 0 (x.map d_sisi))) = x.map b_sisi) :: q) := .f (Nat.le_of_eq (Nat.zero_add _)) (.f (ft_sisi _ _ _) (.f (tb_sisi _) r))
theorem lenB_sisi (l : List K_sisi) : ∀ r ∈ l.map b_sisi, r.length = 4 := by intro r h; obtain ⟨x, _, rfl⟩ := List.mem_map.1 h; rfl
theorem lenD_sisi (l : List K_sisi) : ∀ r ∈ l.map d_sisi, r.length = 4 := by intro r h; obtain ⟨x, _, rfl⟩ := List.mem_map.1 h; rfl
def os_sisi (x : K_sisi) : Prop := (ByteArray.size x.f0 ≤ 140737488351232) ∧ (ByteArray.size x.f2 ≤ 140737488351232)
theorem gos_sisi {l : List K_sisi} (h : ∀ z ∈ l, os_sisi z) (n : Nat) (d : K_sisi) (hd : os_sisi d) : os_sisi (l.getD n d) := by
  rw [List.getD_eq_getElem?_getD]; cases h2 : l[n]? with
  | none => simpa using hd
  | some x => exact h x (List.mem_of_getElem? h2)
theorem fromBR_sisi (n : Nat) (l : List K_sisi) : fromBR n (l.map b_sisi) = l.map d_sisi := by simp [fromBR, b_sisi, d_sisi, fromB, Function.comp_def]
theorem copy_sisi (l : List K_sisi) : (l.map d_sisi).all (fun x => x.all copyable) = true := by simp [d_sisi, copyable, Function.comp_def]
theorem ct_sisi (a b : Nat) (l : List K_sisi) : ((List.take a (List.drop b (l.map d_sisi))).all fun x => x.all copyable) = true := by rw [← List.map_drop, ← List.map_take]; exact copy_sisi _
structure K_LsisiEi where
  f0 : (List K_sisi)
  f1 : Int
def b_LsisiEi (x : K_LsisiEi) : List B := [(.sl (List.map b_sisi x.f0)), (.val (.int .i64 x.f1))]
def d_LsisiEi (x : K_LsisiEi) : List D := [(.own 4 (List.map d_sisi x.f0)), (.val (.int .i64 x.f1))]
theorem toBR_LsisiEi : ∀ (l : List K_LsisiEi), toBR (l.map d_LsisiEi) = l.map b_LsisiEi
  | [] => rfl
  | x :: l => by simp [toBR, toBL, toB, d_LsisiEi, b_LsisiEi, toBR_LsisiEi l, toBR_sisi]
theorem fullR_LsisiEi : ∀ (l : List K_LsisiEi), fullR (l.map d_LsisiEi) = true
  | [] => rfl
  | x :: l => by simp [fullR, fullL, full, d_LsisiEi, fullR_LsisiEi l, fullR_sisi]
theorem pureR_LsisiEi : ∀ (l : List K_LsisiEi), pureR (l.map d_LsisiEi) = true
  | [] => rfl
  | x :: l => by simp [pureR, pureL, V.pure, d_LsisiEi, pureR_LsisiEi l, pureR_sisi]
theorem ft_LsisiEi (a b : Nat) (l : List K_LsisiEi) : fullR (List.take a (List.drop b (l.map d_LsisiEi))) = true := by rw [← List.map_drop, ← List.map_take]; exact fullR_LsisiEi _
theorem tbt_LsisiEi (a b : Nat) (l : List K_LsisiEi) : toBR (List.take a (List.drop b (l.map d_LsisiEi))) = (List.take a (List.drop b l)).map b_LsisiEi := by rw [← List.map_drop, ← List.map_take]; exact toBR_LsisiEi _
theorem tb_LsisiEi (l : List K_LsisiEi) : toBR (List.take (l.map d_LsisiEi).length (List.drop 0 (l.map d_LsisiEi))) = l.map b_LsisiEi := by rw [List.drop_zero, List.take_length]; exact toBR_LsisiEi l
theorem ln_LsisiEi {hs q} (x : List K_LsisiEi) (r : PS F X hs q) : PS F X hs ((0 + (x.map d_LsisiEi).length ≤ (x.map d_LsisiEi).length) :: (fullR (List.take (x.map d_LsisiEi).length (List.drop 0 (x.map d_LsisiEi))) = true) :: (toBR (List.take (x.map d_LsisiEi).length (List.drop 0 (x.map d_LsisiEi))) = x.map b_LsisiEi) :: q) := .f (Nat.le_of_eq (Nat.zero_add _)) (.f (ft_LsisiEi _ _ _) (.f (tb_LsisiEi _) r))
theorem lenB_LsisiEi (l : List K_LsisiEi) : ∀ r ∈ l.map b_LsisiEi, r.length = 2 := by intro r h; obtain ⟨x, _, rfl⟩ := List.mem_map.1 h; rfl
theorem lenD_LsisiEi (l : List K_LsisiEi) : ∀ r ∈ l.map d_LsisiEi, r.length = 2 := by intro r h; obtain ⟨x, _, rfl⟩ := List.mem_map.1 h; rfl
def ok_LsisiEi (x : K_LsisiEi) : Prop := (List.length x.f0 * 48 ≤ 140737488351232)
def os_LsisiEi (x : K_LsisiEi) : Prop := (List.length x.f0 * 48 ≤ 140737488351232) ∧ (∀ z ∈ x.f0, os_sisi z)
theorem os_ok_LsisiEi (x : K_LsisiEi) (h : os_LsisiEi x) : ok_LsisiEi x := h.1
theorem gos_LsisiEi {l : List K_LsisiEi} (h : ∀ z ∈ l, os_LsisiEi z) (n : Nat) (d : K_LsisiEi) (hd : os_LsisiEi d) : os_LsisiEi (l.getD n d) := by
  rw [List.getD_eq_getElem?_getD]; cases h2 : l[n]? with
  | none => simpa using hd
  | some x => exact h x (List.mem_of_getElem? h2)
theorem gok_LsisiEi {l : List K_LsisiEi} (h : ∀ z ∈ l, ok_LsisiEi z) (n : Nat) (d : K_LsisiEi) (hd : ok_LsisiEi d) : ok_LsisiEi (l.getD n d) := by
  rw [List.getD_eq_getElem?_getD]; cases h2 : l[n]? with
  | none => simpa using hd
  | some x => exact h x (List.mem_of_getElem? h2)
def b_i (x : Int) : List B := [(.val (.int .i64 x))]
def d_i (x : Int) : List D := [(.val (.int .i64 x))]
theorem toBR_i : ∀ (l : List Int), toBR (l.map d_i) = l.map b_i
  | [] => rfl
  | x :: l => by simp [toBR, toBL, toB, d_i, b_i, toBR_i l]
theorem fullR_i : ∀ (l : List Int), fullR (l.map d_i) = true
  | [] => rfl
  | x :: l => by simp [fullR, fullL, full, d_i, fullR_i l]
theorem pureR_i : ∀ (l : List Int), pureR (l.map d_i) = true
  | [] => rfl
  | x :: l => by simp [pureR, pureL, V.pure, d_i, pureR_i l]
theorem ft_i (a b : Nat) (l : List Int) : fullR (List.take a (List.drop b (l.map d_i))) = true := by rw [← List.map_drop, ← List.map_take]; exact fullR_i _
theorem tbt_i (a b : Nat) (l : List Int) : toBR (List.take a (List.drop b (l.map d_i))) = (List.take a (List.drop b l)).map b_i := by rw [← List.map_drop, ← List.map_take]; exact toBR_i _
theorem tb_i (l : List Int) : toBR (List.take (l.map d_i).length (List.drop 0 (l.map d_i))) = l.map b_i := by rw [List.drop_zero, List.take_length]; exact toBR_i l
theorem ln_i {hs q} (x : List Int) (r : PS F X hs q) : PS F X hs ((0 + (x.map d_i).length ≤ (x.map d_i).length) :: (fullR (List.take (x.map d_i).length (List.drop 0 (x.map d_i))) = true) :: (toBR (List.take (x.map d_i).length (List.drop 0 (x.map d_i))) = x.map b_i) :: q) := .f (Nat.le_of_eq (Nat.zero_add _)) (.f (ft_i _ _ _) (.f (tb_i _) r))
theorem lenB_i (l : List Int) : ∀ r ∈ l.map b_i, r.length = 1 := by intro r h; obtain ⟨x, _, rfl⟩ := List.mem_map.1 h; rfl
theorem lenD_i (l : List Int) : ∀ r ∈ l.map d_i, r.length = 1 := by intro r h; obtain ⟨x, _, rfl⟩ := List.mem_map.1 h; rfl
theorem fromBR_i (n : Nat) (l : List Int) : fromBR n (l.map b_i) = l.map d_i := by simp [fromBR, b_i, d_i, fromB, Function.comp_def]
theorem copy_i (l : List Int) : (l.map d_i).all (fun x => x.all copyable) = true := by simp [d_i, copyable, Function.comp_def]
theorem ct_i (a b : Nat) (l : List Int) : ((List.take a (List.drop b (l.map d_i))).all fun x => x.all copyable) = true := by rw [← List.map_drop, ← List.map_take]; exact copy_i _
def b_b (x : Bool) : List B := [(.val (.bool x))]
def d_b (x : Bool) : List D := [(.val (.bool x))]
theorem toBR_b : ∀ (l : List Bool), toBR (l.map d_b) = l.map b_b
  | [] => rfl
  | x :: l => by simp [toBR, toBL, toB, d_b, b_b, toBR_b l]
theorem fullR_b : ∀ (l : List Bool), fullR (l.map d_b) = true
  | [] => rfl
  | x :: l => by simp [fullR, fullL, full, d_b, fullR_b l]
theorem pureR_b : ∀ (l : List Bool), pureR (l.map d_b) = true
  | [] => rfl
  | x :: l => by simp [pureR, pureL, V.pure, d_b, pureR_b l]
theorem ft_b (a b : Nat) (l : List Bool) : fullR (List.take a (List.drop b (l.map d_b))) = true := by rw [← List.map_drop, ← List.map_take]; exact fullR_b _
theorem tbt_b (a b : Nat) (l : List Bool) : toBR (List.take a (List.drop b (l.map d_b))) = (List.take a (List.drop b l)).map b_b := by rw [← List.map_drop, ← List.map_take]; exact toBR_b _
theorem tb_b (l : List Bool) : toBR (List.take (l.map d_b).length (List.drop 0 (l.map d_b))) = l.map b_b := by rw [List.drop_zero, List.take_length]; exact toBR_b l
theorem ln_b {hs q} (x : List Bool) (r : PS F X hs q) : PS F X hs ((0 + (x.map d_b).length ≤ (x.map d_b).length) :: (fullR (List.take (x.map d_b).length (List.drop 0 (x.map d_b))) = true) :: (toBR (List.take (x.map d_b).length (List.drop 0 (x.map d_b))) = x.map b_b) :: q) := .f (Nat.le_of_eq (Nat.zero_add _)) (.f (ft_b _ _ _) (.f (tb_b _) r))
theorem lenB_b (l : List Bool) : ∀ r ∈ l.map b_b, r.length = 1 := by intro r h; obtain ⟨x, _, rfl⟩ := List.mem_map.1 h; rfl
theorem lenD_b (l : List Bool) : ∀ r ∈ l.map d_b, r.length = 1 := by intro r h; obtain ⟨x, _, rfl⟩ := List.mem_map.1 h; rfl
theorem fromBR_b (n : Nat) (l : List Bool) : fromBR n (l.map b_b) = l.map d_b := by simp [fromBR, b_b, d_b, fromB, Function.comp_def]
theorem copy_b (l : List Bool) : (l.map d_b).all (fun x => x.all copyable) = true := by simp [d_b, copyable, Function.comp_def]
theorem ct_b (a b : Nat) (l : List Bool) : ((List.take a (List.drop b (l.map d_b))).all fun x => x.all copyable) = true := by rw [← List.map_drop, ← List.map_take]; exact copy_b _
def b_s (x : ByteArray) : List B := [(.val (.string x))]
def d_s (x : ByteArray) : List D := [(.val (.string x))]
theorem toBR_s : ∀ (l : List ByteArray), toBR (l.map d_s) = l.map b_s
  | [] => rfl
  | x :: l => by simp [toBR, toBL, toB, d_s, b_s, toBR_s l]
theorem fullR_s : ∀ (l : List ByteArray), fullR (l.map d_s) = true
  | [] => rfl
  | x :: l => by simp [fullR, fullL, full, d_s, fullR_s l]
theorem pureR_s : ∀ (l : List ByteArray), pureR (l.map d_s) = true
  | [] => rfl
  | x :: l => by simp [pureR, pureL, V.pure, d_s, pureR_s l]
theorem ft_s (a b : Nat) (l : List ByteArray) : fullR (List.take a (List.drop b (l.map d_s))) = true := by rw [← List.map_drop, ← List.map_take]; exact fullR_s _
theorem tbt_s (a b : Nat) (l : List ByteArray) : toBR (List.take a (List.drop b (l.map d_s))) = (List.take a (List.drop b l)).map b_s := by rw [← List.map_drop, ← List.map_take]; exact toBR_s _
theorem tb_s (l : List ByteArray) : toBR (List.take (l.map d_s).length (List.drop 0 (l.map d_s))) = l.map b_s := by rw [List.drop_zero, List.take_length]; exact toBR_s l
theorem ln_s {hs q} (x : List ByteArray) (r : PS F X hs q) : PS F X hs ((0 + (x.map d_s).length ≤ (x.map d_s).length) :: (fullR (List.take (x.map d_s).length (List.drop 0 (x.map d_s))) = true) :: (toBR (List.take (x.map d_s).length (List.drop 0 (x.map d_s))) = x.map b_s) :: q) := .f (Nat.le_of_eq (Nat.zero_add _)) (.f (ft_s _ _ _) (.f (tb_s _) r))
theorem lenB_s (l : List ByteArray) : ∀ r ∈ l.map b_s, r.length = 1 := by intro r h; obtain ⟨x, _, rfl⟩ := List.mem_map.1 h; rfl
theorem lenD_s (l : List ByteArray) : ∀ r ∈ l.map d_s, r.length = 1 := by intro r h; obtain ⟨x, _, rfl⟩ := List.mem_map.1 h; rfl
def os_s (x : ByteArray) : Prop := (ByteArray.size x ≤ 140737488351232)
theorem gos_s {l : List ByteArray} (h : ∀ z ∈ l, os_s z) (n : Nat) (d : ByteArray) (hd : os_s d) : os_s (l.getD n d) := by
  rw [List.getD_eq_getElem?_getD]; cases h2 : l[n]? with
  | none => simpa using hd
  | some x => exact h x (List.mem_of_getElem? h2)
theorem fromBR_s (n : Nat) (l : List ByteArray) : fromBR n (l.map b_s) = l.map d_s := by simp [fromBR, b_s, d_s, fromB, Function.comp_def]
theorem copy_s (l : List ByteArray) : (l.map d_s).all (fun x => x.all copyable) = true := by simp [d_s, copyable, Function.comp_def]
theorem ct_s (a b : Nat) (l : List ByteArray) : ((List.take a (List.drop b (l.map d_s))).all fun x => x.all copyable) = true := by rw [← List.map_drop, ← List.map_take]; exact copy_s _
structure K_iisiiii where
  f0 : Int
  f1 : Int
  f2 : ByteArray
  f3 : Int
  f4 : Int
  f5 : Int
  f6 : Int
def b_iisiiii (x : K_iisiiii) : List B := [(.val (.int .i64 x.f0)), (.val (.int .i64 x.f1)), (.val (.string x.f2)), (.val (.int .i64 x.f3)), (.val (.int .i64 x.f4)), (.val (.int .i64 x.f5)), (.val (.int .i64 x.f6))]
def d_iisiiii (x : K_iisiiii) : List D := [(.val (.int .i64 x.f0)), (.val (.int .i64 x.f1)), (.val (.string x.f2)), (.val (.int .i64 x.f3)), (.val (.int .i64 x.f4)), (.val (.int .i64 x.f5)), (.val (.int .i64 x.f6))]
theorem toBR_iisiiii : ∀ (l : List K_iisiiii), toBR (l.map d_iisiiii) = l.map b_iisiiii
  | [] => rfl
  | x :: l => by simp [toBR, toBL, toB, d_iisiiii, b_iisiiii, toBR_iisiiii l]
theorem fullR_iisiiii : ∀ (l : List K_iisiiii), fullR (l.map d_iisiiii) = true
  | [] => rfl
  | x :: l => by simp [fullR, fullL, full, d_iisiiii, fullR_iisiiii l]
theorem pureR_iisiiii : ∀ (l : List K_iisiiii), pureR (l.map d_iisiiii) = true
  | [] => rfl
  | x :: l => by simp [pureR, pureL, V.pure, d_iisiiii, pureR_iisiiii l]
theorem ft_iisiiii (a b : Nat) (l : List K_iisiiii) : fullR (List.take a (List.drop b (l.map d_iisiiii))) = true := by rw [← List.map_drop, ← List.map_take]; exact fullR_iisiiii _
theorem tbt_iisiiii (a b : Nat) (l : List K_iisiiii) : toBR (List.take a (List.drop b (l.map d_iisiiii))) = (List.take a (List.drop b l)).map b_iisiiii := by rw [← List.map_drop, ← List.map_take]; exact toBR_iisiiii _
theorem tb_iisiiii (l : List K_iisiiii) : toBR (List.take (l.map d_iisiiii).length (List.drop 0 (l.map d_iisiiii))) = l.map b_iisiiii := by rw [List.drop_zero, List.take_length]; exact toBR_iisiiii l
theorem ln_iisiiii {hs q} (x : List K_iisiiii) (r : PS F X hs q) : PS F X hs ((0 + (x.map d_iisiiii).length ≤ (x.map d_iisiiii).length) :: (fullR (List.take (x.map d_iisiiii).length (List.drop 0 (x.map d_iisiiii))) = true) :: (toBR (List.take (x.map d_iisiiii).length (List.drop 0 (x.map d_iisiiii))) = x.map b_iisiiii) :: q) := .f (Nat.le_of_eq (Nat.zero_add _)) (.f (ft_iisiiii _ _ _) (.f (tb_iisiiii _) r))
theorem lenB_iisiiii (l : List K_iisiiii) : ∀ r ∈ l.map b_iisiiii, r.length = 7 := by intro r h; obtain ⟨x, _, rfl⟩ := List.mem_map.1 h; rfl
theorem lenD_iisiiii (l : List K_iisiiii) : ∀ r ∈ l.map d_iisiiii, r.length = 7 := by intro r h; obtain ⟨x, _, rfl⟩ := List.mem_map.1 h; rfl
def os_iisiiii (x : K_iisiiii) : Prop := (ByteArray.size x.f2 ≤ 140737488351232)
theorem gos_iisiiii {l : List K_iisiiii} (h : ∀ z ∈ l, os_iisiiii z) (n : Nat) (d : K_iisiiii) (hd : os_iisiiii d) : os_iisiiii (l.getD n d) := by
  rw [List.getD_eq_getElem?_getD]; cases h2 : l[n]? with
  | none => simpa using hd
  | some x => exact h x (List.mem_of_getElem? h2)
theorem fromBR_iisiiii (n : Nat) (l : List K_iisiiii) : fromBR n (l.map b_iisiiii) = l.map d_iisiiii := by simp [fromBR, b_iisiiii, d_iisiiii, fromB, Function.comp_def]
theorem copy_iisiiii (l : List K_iisiiii) : (l.map d_iisiiii).all (fun x => x.all copyable) = true := by simp [d_iisiiii, copyable, Function.comp_def]
theorem ct_iisiiii (a b : Nat) (l : List K_iisiiii) : ((List.take a (List.drop b (l.map d_iisiiii))).all fun x => x.all copyable) = true := by rw [← List.map_drop, ← List.map_take]; exact copy_iisiiii _
structure K_iLsELiisiiiiELsisiEi where
  f0 : Int
  f1 : (List ByteArray)
  f2 : (List K_iisiiii)
  f3 : (List K_sisi)
  f4 : Int
def b_iLsELiisiiiiELsisiEi (x : K_iLsELiisiiiiELsisiEi) : List B := [(.val (.int .i64 x.f0)), (.sl (List.map b_s x.f1)), (.sl (List.map b_iisiiii x.f2)), (.sl (List.map b_sisi x.f3)), (.val (.int .i64 x.f4))]
def d_iLsELiisiiiiELsisiEi (x : K_iLsELiisiiiiELsisiEi) : List D := [(.val (.int .i64 x.f0)), (.own 1 (List.map d_s x.f1)), (.own 7 (List.map d_iisiiii x.f2)), (.own 4 (List.map d_sisi x.f3)), (.val (.int .i64 x.f4))]
theorem toBR_iLsELiisiiiiELsisiEi : ∀ (l : List K_iLsELiisiiiiELsisiEi), toBR (l.map d_iLsELiisiiiiELsisiEi) = l.map b_iLsELiisiiiiELsisiEi
  | [] => rfl
  | x :: l => by simp [toBR, toBL, toB, d_iLsELiisiiiiELsisiEi, b_iLsELiisiiiiELsisiEi, toBR_iLsELiisiiiiELsisiEi l, toBR_s, toBR_iisiiii, toBR_sisi]
theorem fullR_iLsELiisiiiiELsisiEi : ∀ (l : List K_iLsELiisiiiiELsisiEi), fullR (l.map d_iLsELiisiiiiELsisiEi) = true
  | [] => rfl
  | x :: l => by simp [fullR, fullL, full, d_iLsELiisiiiiELsisiEi, fullR_iLsELiisiiiiELsisiEi l, fullR_s, fullR_iisiiii, fullR_sisi]
theorem pureR_iLsELiisiiiiELsisiEi : ∀ (l : List K_iLsELiisiiiiELsisiEi), pureR (l.map d_iLsELiisiiiiELsisiEi) = true
  | [] => rfl
  | x :: l => by simp [pureR, pureL, V.pure, d_iLsELiisiiiiELsisiEi, pureR_iLsELiisiiiiELsisiEi l, pureR_s, pureR_iisiiii, pureR_sisi]
theorem ft_iLsELiisiiiiELsisiEi (a b : Nat) (l : List K_iLsELiisiiiiELsisiEi) : fullR (List.take a (List.drop b (l.map d_iLsELiisiiiiELsisiEi))) = true := by rw [← List.map_drop, ← List.map_take]; exact fullR_iLsELiisiiiiELsisiEi _
theorem tbt_iLsELiisiiiiELsisiEi (a b : Nat) (l : List K_iLsELiisiiiiELsisiEi) : toBR (List.take a (List.drop b (l.map d_iLsELiisiiiiELsisiEi))) = (List.take a (List.drop b l)).map b_iLsELiisiiiiELsisiEi := by rw [← List.map_drop, ← List.map_take]; exact toBR_iLsELiisiiiiELsisiEi _
theorem tb_iLsELiisiiiiELsisiEi (l : List K_iLsELiisiiiiELsisiEi) : toBR (List.take (l.map d_iLsELiisiiiiELsisiEi).length (List.drop 0 (l.map d_iLsELiisiiiiELsisiEi))) = l.map b_iLsELiisiiiiELsisiEi := by rw [List.drop_zero, List.take_length]; exact toBR_iLsELiisiiiiELsisiEi l
theorem ln_iLsELiisiiiiELsisiEi {hs q} (x : List K_iLsELiisiiiiELsisiEi) (r : PS F X hs q) : PS F X hs ((0 + (x.map d_iLsELiisiiiiELsisiEi).length ≤ (x.map d_iLsELiisiiiiELsisiEi).length) :: (fullR (List.take (x.map d_iLsELiisiiiiELsisiEi).length (List.drop 0 (x.map d_iLsELiisiiiiELsisiEi))) = true) :: (toBR (List.take (x.map d_iLsELiisiiiiELsisiEi).length (List.drop 0 (x.map d_iLsELiisiiiiELsisiEi))) = x.map b_iLsELiisiiiiELsisiEi) :: q) := .f (Nat.le_of_eq (Nat.zero_add _)) (.f (ft_iLsELiisiiiiELsisiEi _ _ _) (.f (tb_iLsELiisiiiiELsisiEi _) r))
theorem lenB_iLsELiisiiiiELsisiEi (l : List K_iLsELiisiiiiELsisiEi) : ∀ r ∈ l.map b_iLsELiisiiiiELsisiEi, r.length = 5 := by intro r h; obtain ⟨x, _, rfl⟩ := List.mem_map.1 h; rfl
theorem lenD_iLsELiisiiiiELsisiEi (l : List K_iLsELiisiiiiELsisiEi) : ∀ r ∈ l.map d_iLsELiisiiiiELsisiEi, r.length = 5 := by intro r h; obtain ⟨x, _, rfl⟩ := List.mem_map.1 h; rfl
def ok_iLsELiisiiiiELsisiEi (x : K_iLsELiisiiiiELsisiEi) : Prop := (List.length x.f1 * 16 ≤ 140737488351232) ∧ (List.length x.f2 * 64 ≤ 140737488351232) ∧ (List.length x.f3 * 48 ≤ 140737488351232)
def os_iLsELiisiiiiELsisiEi (x : K_iLsELiisiiiiELsisiEi) : Prop := (List.length x.f1 * 16 ≤ 140737488351232) ∧ (∀ z ∈ x.f1, os_s z) ∧ (List.length x.f2 * 64 ≤ 140737488351232) ∧ (∀ z ∈ x.f2, os_iisiiii z) ∧ (List.length x.f3 * 48 ≤ 140737488351232) ∧ (∀ z ∈ x.f3, os_sisi z)
theorem os_ok_iLsELiisiiiiELsisiEi (x : K_iLsELiisiiiiELsisiEi) (h : os_iLsELiisiiiiELsisiEi x) : ok_iLsELiisiiiiELsisiEi x := ⟨h.1, h.2.2.1, h.2.2.2.2.1⟩
theorem gos_iLsELiisiiiiELsisiEi {l : List K_iLsELiisiiiiELsisiEi} (h : ∀ z ∈ l, os_iLsELiisiiiiELsisiEi z) (n : Nat) (d : K_iLsELiisiiiiELsisiEi) (hd : os_iLsELiisiiiiELsisiEi d) : os_iLsELiisiiiiELsisiEi (l.getD n d) := by
  rw [List.getD_eq_getElem?_getD]; cases h2 : l[n]? with
  | none => simpa using hd
  | some x => exact h x (List.mem_of_getElem? h2)
theorem gok_iLsELiisiiiiELsisiEi {l : List K_iLsELiisiiiiELsisiEi} (h : ∀ z ∈ l, ok_iLsELiisiiiiELsisiEi z) (n : Nat) (d : K_iLsELiisiiiiELsisiEi) (hd : ok_iLsELiisiiiiELsisiEi d) : ok_iLsELiisiiiiELsisiEi (l.getD n d) := by
  rw [List.getD_eq_getElem?_getD]; cases h2 : l[n]? with
  | none => simpa using hd
  | some x => exact h x (List.mem_of_getElem? h2)
def b_LsisiE (x : (List K_sisi)) : List B := [(.sl (List.map b_sisi x))]
def d_LsisiE (x : (List K_sisi)) : List D := [(.own 4 (List.map d_sisi x))]
theorem toBR_LsisiE : ∀ (l : List (List K_sisi)), toBR (l.map d_LsisiE) = l.map b_LsisiE
  | [] => rfl
  | x :: l => by simp [toBR, toBL, toB, d_LsisiE, b_LsisiE, toBR_LsisiE l, toBR_sisi]
theorem fullR_LsisiE : ∀ (l : List (List K_sisi)), fullR (l.map d_LsisiE) = true
  | [] => rfl
  | x :: l => by simp [fullR, fullL, full, d_LsisiE, fullR_LsisiE l, fullR_sisi]
theorem pureR_LsisiE : ∀ (l : List (List K_sisi)), pureR (l.map d_LsisiE) = true
  | [] => rfl
  | x :: l => by simp [pureR, pureL, V.pure, d_LsisiE, pureR_LsisiE l, pureR_sisi]
theorem ft_LsisiE (a b : Nat) (l : List (List K_sisi)) : fullR (List.take a (List.drop b (l.map d_LsisiE))) = true := by rw [← List.map_drop, ← List.map_take]; exact fullR_LsisiE _
theorem tbt_LsisiE (a b : Nat) (l : List (List K_sisi)) : toBR (List.take a (List.drop b (l.map d_LsisiE))) = (List.take a (List.drop b l)).map b_LsisiE := by rw [← List.map_drop, ← List.map_take]; exact toBR_LsisiE _
theorem tb_LsisiE (l : List (List K_sisi)) : toBR (List.take (l.map d_LsisiE).length (List.drop 0 (l.map d_LsisiE))) = l.map b_LsisiE := by rw [List.drop_zero, List.take_length]; exact toBR_LsisiE l
theorem ln_LsisiE {hs q} (x : List (List K_sisi)) (r : PS F X hs q) : PS F X hs ((0 + (x.map d_LsisiE).length ≤ (x.map d_LsisiE).length) :: (fullR (List.take (x.map d_LsisiE).length (List.drop 0 (x.map d_LsisiE))) = true) :: (toBR (List.take (x.map d_LsisiE).length (List.drop 0 (x.map d_LsisiE))) = x.map b_LsisiE) :: q) := .f (Nat.le_of_eq (Nat.zero_add _)) (.f (ft_LsisiE _ _ _) (.f (tb_LsisiE _) r))
theorem lenB_LsisiE (l : List (List K_sisi)) : ∀ r ∈ l.map b_LsisiE, r.length = 1 := by intro r h; obtain ⟨x, _, rfl⟩ := List.mem_map.1 h; rfl
theorem lenD_LsisiE (l : List (List K_sisi)) : ∀ r ∈ l.map d_LsisiE, r.length = 1 := by intro r h; obtain ⟨x, _, rfl⟩ := List.mem_map.1 h; rfl
def ok_LsisiE (x : (List K_sisi)) : Prop := (List.length x * 48 ≤ 140737488351232)
def os_LsisiE (x : (List K_sisi)) : Prop := (List.length x * 48 ≤ 140737488351232) ∧ (∀ z ∈ x, os_sisi z)
theorem os_ok_LsisiE (x : (List K_sisi)) (h : os_LsisiE x) : ok_LsisiE x := h.1
theorem gos_LsisiE {l : List (List K_sisi)} (h : ∀ z ∈ l, os_LsisiE z) (n : Nat) (d : (List K_sisi)) (hd : os_LsisiE d) : os_LsisiE (l.getD n d) := by
  rw [List.getD_eq_getElem?_getD]; cases h2 : l[n]? with
  | none => simpa using hd
  | some x => exact h x (List.mem_of_getElem? h2)
theorem gok_LsisiE {l : List (List K_sisi)} (h : ∀ z ∈ l, ok_LsisiE z) (n : Nat) (d : (List K_sisi)) (hd : ok_LsisiE d) : ok_LsisiE (l.getD n d) := by
  rw [List.getD_eq_getElem?_getD]; cases h2 : l[n]? with
  | none => simpa using hd
  | some x => exact h x (List.mem_of_getElem? h2)
def b_LsE (x : (List ByteArray)) : List B := [(.sl (List.map b_s x))]
def d_LsE (x : (List ByteArray)) : List D := [(.own 1 (List.map d_s x))]
theorem toBR_LsE : ∀ (l : List (List ByteArray)), toBR (l.map d_LsE) = l.map b_LsE
  | [] => rfl
  | x :: l => by simp [toBR, toBL, toB, d_LsE, b_LsE, toBR_LsE l, toBR_s]
theorem fullR_LsE : ∀ (l : List (List ByteArray)), fullR (l.map d_LsE) = true
  | [] => rfl
  | x :: l => by simp [fullR, fullL, full, d_LsE, fullR_LsE l, fullR_s]
theorem pureR_LsE : ∀ (l : List (List ByteArray)), pureR (l.map d_LsE) = true
  | [] => rfl
  | x :: l => by simp [pureR, pureL, V.pure, d_LsE, pureR_LsE l, pureR_s]
theorem ft_LsE (a b : Nat) (l : List (List ByteArray)) : fullR (List.take a (List.drop b (l.map d_LsE))) = true := by rw [← List.map_drop, ← List.map_take]; exact fullR_LsE _
theorem tbt_LsE (a b : Nat) (l : List (List ByteArray)) : toBR (List.take a (List.drop b (l.map d_LsE))) = (List.take a (List.drop b l)).map b_LsE := by rw [← List.map_drop, ← List.map_take]; exact toBR_LsE _
theorem tb_LsE (l : List (List ByteArray)) : toBR (List.take (l.map d_LsE).length (List.drop 0 (l.map d_LsE))) = l.map b_LsE := by rw [List.drop_zero, List.take_length]; exact toBR_LsE l
theorem ln_LsE {hs q} (x : List (List ByteArray)) (r : PS F X hs q) : PS F X hs ((0 + (x.map d_LsE).length ≤ (x.map d_LsE).length) :: (fullR (List.take (x.map d_LsE).length (List.drop 0 (x.map d_LsE))) = true) :: (toBR (List.take (x.map d_LsE).length (List.drop 0 (x.map d_LsE))) = x.map b_LsE) :: q) := .f (Nat.le_of_eq (Nat.zero_add _)) (.f (ft_LsE _ _ _) (.f (tb_LsE _) r))
theorem lenB_LsE (l : List (List ByteArray)) : ∀ r ∈ l.map b_LsE, r.length = 1 := by intro r h; obtain ⟨x, _, rfl⟩ := List.mem_map.1 h; rfl
theorem lenD_LsE (l : List (List ByteArray)) : ∀ r ∈ l.map d_LsE, r.length = 1 := by intro r h; obtain ⟨x, _, rfl⟩ := List.mem_map.1 h; rfl
def ok_LsE (x : (List ByteArray)) : Prop := (List.length x * 16 ≤ 140737488351232)
def os_LsE (x : (List ByteArray)) : Prop := (List.length x * 16 ≤ 140737488351232) ∧ (∀ z ∈ x, os_s z)
theorem os_ok_LsE (x : (List ByteArray)) (h : os_LsE x) : ok_LsE x := h.1
theorem gos_LsE {l : List (List ByteArray)} (h : ∀ z ∈ l, os_LsE z) (n : Nat) (d : (List ByteArray)) (hd : os_LsE d) : os_LsE (l.getD n d) := by
  rw [List.getD_eq_getElem?_getD]; cases h2 : l[n]? with
  | none => simpa using hd
  | some x => exact h x (List.mem_of_getElem? h2)
theorem gok_LsE {l : List (List ByteArray)} (h : ∀ z ∈ l, ok_LsE z) (n : Nat) (d : (List ByteArray)) (hd : ok_LsE d) : ok_LsE (l.getD n d) := by
  rw [List.getD_eq_getElem?_getD]; cases h2 : l[n]? with
  | none => simpa using hd
  | some x => exact h x (List.mem_of_getElem? h2)
def b_LiisiiiiE (x : (List K_iisiiii)) : List B := [(.sl (List.map b_iisiiii x))]
def d_LiisiiiiE (x : (List K_iisiiii)) : List D := [(.own 7 (List.map d_iisiiii x))]
theorem toBR_LiisiiiiE : ∀ (l : List (List K_iisiiii)), toBR (l.map d_LiisiiiiE) = l.map b_LiisiiiiE
  | [] => rfl
  | x :: l => by simp [toBR, toBL, toB, d_LiisiiiiE, b_LiisiiiiE, toBR_LiisiiiiE l, toBR_iisiiii]
theorem fullR_LiisiiiiE : ∀ (l : List (List K_iisiiii)), fullR (l.map d_LiisiiiiE) = true
  | [] => rfl
  | x :: l => by simp [fullR, fullL, full, d_LiisiiiiE, fullR_LiisiiiiE l, fullR_iisiiii]
theorem pureR_LiisiiiiE : ∀ (l : List (List K_iisiiii)), pureR (l.map d_LiisiiiiE) = true
  | [] => rfl
  | x :: l => by simp [pureR, pureL, V.pure, d_LiisiiiiE, pureR_LiisiiiiE l, pureR_iisiiii]
theorem ft_LiisiiiiE (a b : Nat) (l : List (List K_iisiiii)) : fullR (List.take a (List.drop b (l.map d_LiisiiiiE))) = true := by rw [← List.map_drop, ← List.map_take]; exact fullR_LiisiiiiE _
theorem tbt_LiisiiiiE (a b : Nat) (l : List (List K_iisiiii)) : toBR (List.take a (List.drop b (l.map d_LiisiiiiE))) = (List.take a (List.drop b l)).map b_LiisiiiiE := by rw [← List.map_drop, ← List.map_take]; exact toBR_LiisiiiiE _
theorem tb_LiisiiiiE (l : List (List K_iisiiii)) : toBR (List.take (l.map d_LiisiiiiE).length (List.drop 0 (l.map d_LiisiiiiE))) = l.map b_LiisiiiiE := by rw [List.drop_zero, List.take_length]; exact toBR_LiisiiiiE l
theorem ln_LiisiiiiE {hs q} (x : List (List K_iisiiii)) (r : PS F X hs q) : PS F X hs ((0 + (x.map d_LiisiiiiE).length ≤ (x.map d_LiisiiiiE).length) :: (fullR (List.take (x.map d_LiisiiiiE).length (List.drop 0 (x.map d_LiisiiiiE))) = true) :: (toBR (List.take (x.map d_LiisiiiiE).length (List.drop 0 (x.map d_LiisiiiiE))) = x.map b_LiisiiiiE) :: q) := .f (Nat.le_of_eq (Nat.zero_add _)) (.f (ft_LiisiiiiE _ _ _) (.f (tb_LiisiiiiE _) r))
theorem lenB_LiisiiiiE (l : List (List K_iisiiii)) : ∀ r ∈ l.map b_LiisiiiiE, r.length = 1 := by intro r h; obtain ⟨x, _, rfl⟩ := List.mem_map.1 h; rfl
theorem lenD_LiisiiiiE (l : List (List K_iisiiii)) : ∀ r ∈ l.map d_LiisiiiiE, r.length = 1 := by intro r h; obtain ⟨x, _, rfl⟩ := List.mem_map.1 h; rfl
def ok_LiisiiiiE (x : (List K_iisiiii)) : Prop := (List.length x * 64 ≤ 140737488351232)
def os_LiisiiiiE (x : (List K_iisiiii)) : Prop := (List.length x * 64 ≤ 140737488351232) ∧ (∀ z ∈ x, os_iisiiii z)
theorem os_ok_LiisiiiiE (x : (List K_iisiiii)) (h : os_LiisiiiiE x) : ok_LiisiiiiE x := h.1
theorem gos_LiisiiiiE {l : List (List K_iisiiii)} (h : ∀ z ∈ l, os_LiisiiiiE z) (n : Nat) (d : (List K_iisiiii)) (hd : os_LiisiiiiE d) : os_LiisiiiiE (l.getD n d) := by
  rw [List.getD_eq_getElem?_getD]; cases h2 : l[n]? with
  | none => simpa using hd
  | some x => exact h x (List.mem_of_getElem? h2)
theorem gok_LiisiiiiE {l : List (List K_iisiiii)} (h : ∀ z ∈ l, ok_LiisiiiiE z) (n : Nat) (d : (List K_iisiiii)) (hd : ok_LiisiiiiE d) : ok_LiisiiiiE (l.getD n d) := by
  rw [List.getD_eq_getElem?_getD]; cases h2 : l[n]? with
  | none => simpa using hd
  | some x => exact h x (List.mem_of_getElem? h2)
def b_y (x : Int) : List B := [(.val (.int .u8 x))]
def d_y (x : Int) : List D := [(.val (.int .u8 x))]
theorem toBR_y : ∀ (l : List Int), toBR (l.map d_y) = l.map b_y
  | [] => rfl
  | x :: l => by simp [toBR, toBL, toB, d_y, b_y, toBR_y l]
theorem fullR_y : ∀ (l : List Int), fullR (l.map d_y) = true
  | [] => rfl
  | x :: l => by simp [fullR, fullL, full, d_y, fullR_y l]
theorem pureR_y : ∀ (l : List Int), pureR (l.map d_y) = true
  | [] => rfl
  | x :: l => by simp [pureR, pureL, V.pure, d_y, pureR_y l]
theorem ft_y (a b : Nat) (l : List Int) : fullR (List.take a (List.drop b (l.map d_y))) = true := by rw [← List.map_drop, ← List.map_take]; exact fullR_y _
theorem tbt_y (a b : Nat) (l : List Int) : toBR (List.take a (List.drop b (l.map d_y))) = (List.take a (List.drop b l)).map b_y := by rw [← List.map_drop, ← List.map_take]; exact toBR_y _
theorem tb_y (l : List Int) : toBR (List.take (l.map d_y).length (List.drop 0 (l.map d_y))) = l.map b_y := by rw [List.drop_zero, List.take_length]; exact toBR_y l
theorem ln_y {hs q} (x : List Int) (r : PS F X hs q) : PS F X hs ((0 + (x.map d_y).length ≤ (x.map d_y).length) :: (fullR (List.take (x.map d_y).length (List.drop 0 (x.map d_y))) = true) :: (toBR (List.take (x.map d_y).length (List.drop 0 (x.map d_y))) = x.map b_y) :: q) := .f (Nat.le_of_eq (Nat.zero_add _)) (.f (ft_y _ _ _) (.f (tb_y _) r))
theorem lenB_y (l : List Int) : ∀ r ∈ l.map b_y, r.length = 1 := by intro r h; obtain ⟨x, _, rfl⟩ := List.mem_map.1 h; rfl
theorem lenD_y (l : List Int) : ∀ r ∈ l.map d_y, r.length = 1 := by intro r h; obtain ⟨x, _, rfl⟩ := List.mem_map.1 h; rfl
theorem fromBR_y (n : Nat) (l : List Int) : fromBR n (l.map b_y) = l.map d_y := by simp [fromBR, b_y, d_y, fromB, Function.comp_def]
theorem copy_y (l : List Int) : (l.map d_y).all (fun x => x.all copyable) = true := by simp [d_y, copyable, Function.comp_def]
theorem ct_y (a b : Nat) (l : List Int) : ((List.take a (List.drop b (l.map d_y))).all fun x => x.all copyable) = true := by rw [← List.map_drop, ← List.map_take]; exact copy_y _
def strInts (s : ByteArray) : List Int := s.data.toList.map fun b => (b.toNat : Int)
theorem ly_y (a : Int) (l : List Int) : [D.val (.int .u8 a)] :: List.map d_y l = List.map d_y (a :: l) := rfl
theorem ly0_y (a : Int) : [[D.val (.int .u8 a)]] = List.map d_y [a] := rfl
theorem strInts_len (s : ByteArray) : (strInts s).length = s.size := by simp [strInts]
theorem byteRows_len (s : ByteArray) : (byteRows s).length = s.size := by simp [byteRows]
theorem byteRows_eq (s : ByteArray) : byteRows s = (strInts s).map d_y := by simp [byteRows, strInts, d_y, Function.comp_def]
theorem tsi (s : ByteArray) : List.take (ByteArray.size s) (List.map d_y (strInts s)) = List.map d_y (strInts s) := by rw [List.take_of_length_le (by simp [strInts_len])]
theorem tbr (s : ByteArray) : List.take (ByteArray.size s) (byteRows s) = List.map d_y (strInts s) := by rw [byteRows_eq, tsi]
theorem ints_y : ∀ (l : List Int), rowsInts .u8 (l.map d_y) = some l
  | [] => rfl
  | x :: l => by simp only [List.map_cons, d_y, rowsInts, ints_y l]; rfl
attribute [local simp] toBR_sisi fullR_sisi pureR_sisi lenB_sisi lenD_sisi fromBR_sisi copy_sisi toBR_LsisiEi fullR_LsisiEi pureR_LsisiEi lenB_LsisiEi lenD_LsisiEi toBR_i fullR_i pureR_i lenB_i lenD_i fromBR_i copy_i toBR_b fullR_b pureR_b lenB_b lenD_b fromBR_b copy_b toBR_s fullR_s pureR_s lenB_s lenD_s fromBR_s copy_s toBR_iisiiii fullR_iisiiii pureR_iisiiii lenB_iisiiii lenD_iisiiii fromBR_iisiiii copy_iisiiii toBR_iLsELiisiiiiELsisiEi fullR_iLsELiisiiiiELsisiEi pureR_iLsELiisiiiiELsisiEi lenB_iLsELiisiiiiELsisiEi lenD_iLsELiisiiiiELsisiEi toBR_LsisiE fullR_LsisiE pureR_LsisiE lenB_LsisiE lenD_LsisiE toBR_LsE fullR_LsE pureR_LsE lenB_LsE lenD_LsE toBR_LiisiiiiE fullR_LiisiiiiE pureR_LiisiiiiE lenB_LiisiiiiE lenD_LiisiiiiE strInts_len byteRows_len toBR_y fullR_y pureR_y lenB_y lenD_y fromBR_y copy_y

/-! loop.example/g00539/laws.szSession -/
def m29 (a0 : K_sisi) (a1 : Int) : Int :=
  if (decide ((IntKind.wrap .i64 (a1 - (ByteArray.size a0.f0 : Int))) < 0)) = true then (-1) else
  if (decide ((IntKind.wrap .i64 ((IntKind.wrap .i64 (a1 - (ByteArray.size a0.f0 : Int))) - (ByteArray.size a0.f2 : Int))) < 0)) = true then (-1) else
    (IntKind.wrap .i64 ((IntKind.wrap .i64 (a1 - (ByteArray.size a0.f0 : Int))) - (ByteArray.size a0.f2 : Int)))
theorem e29 {a0 : K_sisi} {a1 : Int} : Ev F X (.call 29 [(.agg [(.val (.string a0.f0)), (.val (.int .i64 a0.f1)), (.val (.string a0.f2)), (.val (.int .i64 a0.f3))]), (.one (.val (.int .i64 a1)))] [] [] [(.one (.val (.int .i64 (m29 a0 a1))))]) := by
  unfold m29
  by_cases h0 : (decide ((IntKind.wrap .i64 (a1 - (ByteArray.size a0.f0 : Int))) < 0)) = true
  · try simp only [if_pos h0]
    exact cp (by kernel_rfl) (.f h0 (.h 20 (.b true) .nil))
  · try simp only [if_neg h0]
    by_cases h1 : (decide ((IntKind.wrap .i64 ((IntKind.wrap .i64 (a1 - (ByteArray.size a0.f0 : Int))) - (ByteArray.size a0.f2 : Int))) < 0)) = true
    · try simp only [if_pos h1]
      exact cp (by kernel_rfl) (.f (nt h0) (.f h1 (.h 20 (.b false) (.h 37 (.b true) .nil))))
    · try simp only [if_neg h1]
      exact cp (by kernel_rfl) (.f (nt h0) (.f (nt h1) (.h 20 (.b false) (.h 37 (.b false) .nil))))
/-! loop 13_0 -/
inductive O13_0 where
  | k0 (w0 : Int) (w1 : Int) (w2 : Bool)
  | k1
def r13_0 (a0 : (List K_sisi)) : List K_sisi → Int → Int → O13_0
  | x0_13_0 :: l0_13_0, i_13_0, v0_13_0 =>
    if (decide ((m29 x0_13_0 v0_13_0) < 0)) = true then (O13_0.k1) else
    (r13_0 a0 l0_13_0 (i_13_0 + 1) (m29 x0_13_0 v0_13_0))
  | [], i_13_0, v0_13_0 => (O13_0.k0 v0_13_0 i_13_0 (decide (i_13_0 < ((List.length (List.map b_sisi a0)) : Int))))
def h13_0 (l0_0 : Nat) (a0 : (List K_sisi)) (a1 : Int) (i_13_0 : Int) (v0_13_0 : Int) : St := ⟨[(0, (.one (.bor l0_0 (List.map b_sisi a0)))), (1, (.one (.val (.int .i64 v0_13_0)))), (5, (.one (.val (.int .i64 i_13_0))))], []⟩
def ex13_0 : O13_0 → VX.Exit
  | .k0 _ _ _ => (.exit 0)
  | .k1 => .ret
def fin13_0 (l0_0 : Nat) (a0 : (List K_sisi)) (a1 : Int) : O13_0 → St
  | .k0 w0 w1 w2 => ⟨[(0, (.one (.bor l0_0 (List.map b_sisi a0)))), (1, (.one (.val (.int .i64 w0)))), (5, (.one (.val (.int .i64 w1)))), (15, (.one (.val (.bool w2))))], []⟩
  | .k1 => ⟨[(4, (.one (.val (.int .i64 (-1)))))], []⟩
theorem t13_0 {l0_0 : Nat} {a0 : (List K_sisi)} {a1 : Int} (hy0 : List.length a0 * 48 ≤ 140737488351232) : ∀ (l0_13_0 : List K_sisi) (p_13_0 : List K_sisi) (v0_13_0 : Int), p_13_0 ++ l0_13_0 = a0 → Ev F X (.code l13_0 (h13_0 l0_0 a0 a1 (List.length p_13_0 : Int) v0_13_0) (ex13_0 (r13_0 a0 l0_13_0 (List.length p_13_0 : Int) v0_13_0)) (fin13_0 l0_0 a0 a1 (r13_0 a0 l0_13_0 (List.length p_13_0 : Int) v0_13_0)))
  | [], p_13_0, v0_13_0, hp0 => by
    have hc : ¬ (decide ((List.length p_13_0 : Int) < ((List.length (List.map b_sisi a0)) : Int))) = true := by
      rw [← hp0]; simp only [List.length_map, List.length_set, List.length_append, List.length_replicate, List.length_cons, List.length_nil, decide_eq_true_eq]; omega
    have st := ch b13_0 (h13_0 l0_0 a0 a1 (List.length p_13_0 : Int) v0_13_0) ⟨[(0, (.one (.bor l0_0 (List.map b_sisi a0)))), (1, (.one (.val (.int .i64 v0_13_0)))), (5, (.one (.val (.int .i64 (List.length p_13_0 : Int))))), (15, (.one (.val (.bool (decide ((List.length p_13_0 : Int) < ((List.length (List.map b_sisi a0)) : Int)))))))], []⟩ (.exit 0) 9 (by kernel_rfl) (.f (nt hc) (.h 8 (.b false) .nil))
    rw [show (⟨[(0, (.one (.bor l0_0 (List.map b_sisi a0)))), (1, (.one (.val (.int .i64 v0_13_0)))), (5, (.one (.val (.int .i64 (List.length p_13_0 : Int))))), (15, (.one (.val (.bool (decide ((List.length p_13_0 : Int) < ((List.length (List.map b_sisi a0)) : Int)))))))], []⟩ : St) = fin13_0 l0_0 a0 a1 (.k0 v0_13_0 (List.length p_13_0 : Int) (decide ((List.length p_13_0 : Int) < ((List.length (List.map b_sisi a0)) : Int)))) from by first | rfl | (unfold fin13_0; simp [byteRows_eq, ints_y, List.take_of_length_le, d_sisi, d_LsisiEi, d_i, d_b, d_s, d_iisiiii, d_iLsELiisiiiiELsisiEi, d_LsisiE, d_LsE, d_LiisiiiiE, d_y, fromBR_sisi, fromBR_i, fromBR_b, fromBR_s, fromBR_iisiiii, fromBR_y]; done)] at st
    exact .loopX st (show ((.exit 0) : VX.Exit) ≠ .normal from by simp)
  | x0_13_0 :: l0_13_0, p_13_0, v0_13_0, hp0 => by
    have hc : (decide ((List.length p_13_0 : Int) < ((List.length (List.map b_sisi a0)) : Int))) = true := by
      rw [← hp0]; simp only [List.length_map, List.length_set, List.length_append, List.length_replicate, List.length_cons, List.length_nil, decide_eq_true_eq]; omega
    have Hx0_13_0 : (a0)[Int.toNat (List.length p_13_0 : Int)]? = some x0_13_0 := by
      rw [← hp0, Int.toNat_natCast]; simp
    have hlen : List.length (a0) = List.length p_13_0 + List.length l0_13_0 + 1 := by rw [← hp0]; simp; omega
    have hw : IntKind.wrap .i64 ((List.length p_13_0 : Int) + 1) = (List.length p_13_0 : Int) + 1 := wrap64 (by omega)
    simp only [r13_0]
    have f1 : 0 ≤ (List.length p_13_0 : Int) := (by first | exact True.intro | with_reducible rfl | with_reducible assumption | omega | (simp only [decide_eq_true_eq] at *; omega) | (simp only [List.length_map, List.length_set, List.length_append, List.length_replicate, List.length_cons, List.length_nil]; omega) | (simp; omega) | (simp [List.take_of_length_le]; done) | assumption | trivial | (simp [*, byteRows_eq, ints_y]; done))
    have P1 {hs q} (r : PS F X hs q) := (PS.f hc (.f f1 (.f (mp_ b_sisi Hx0_13_0) (.h 8 (.b true) (.h 14 (.row [(.val (.string x0_13_0.f0)), (.val (.int .i64 x0_13_0.f1)), (.val (.string x0_13_0.f2)), (.val (.int .i64 x0_13_0.f3))]) (.r 20 [] [] (e29 (a0 := x0_13_0) (a1 := v0_13_0)) r))))))
    by_cases h_13_0_1 : (decide ((m29 x0_13_0 v0_13_0) < 0)) = true
    · try simp only [if_pos h_13_0_1]
      have st := ch b13_0 (h13_0 l0_0 a0 a1 (List.length p_13_0 : Int) v0_13_0) ⟨[(4, (.one (.val (.int .i64 (-1)))))], []⟩ .ret 30 (by kernel_rfl) (P1 (.f h_13_0_1 (.h 27 (.b true) .nil)))
      rw [show (⟨[(4, (.one (.val (.int .i64 (-1)))))], []⟩ : St) = fin13_0 l0_0 a0 a1 (.k1) from by first | rfl | (unfold fin13_0; simp [byteRows_eq, ints_y, List.take_of_length_le, d_sisi, d_LsisiEi, d_i, d_b, d_s, d_iisiiii, d_iLsELiisiiiiELsisiEi, d_LsisiE, d_LsE, d_LiisiiiiE, d_y, fromBR_sisi, fromBR_i, fromBR_b, fromBR_s, fromBR_iisiiii, fromBR_y]; done)] at st
      exact .loopX st (show (.ret : VX.Exit) ≠ .normal from by simp)
    · try simp only [if_neg h_13_0_1]
      have st := ch b13_0 (h13_0 l0_0 a0 a1 (List.length p_13_0 : Int) v0_13_0) ⟨[(0, (.one (.bor l0_0 (List.map b_sisi a0)))), (1, (.one (.val (.int .i64 (m29 x0_13_0 v0_13_0))))), (5, (.one (.val (.int .i64 (IntKind.wrap .i64 ((List.length p_13_0 : Int) + 1))))))], []⟩ .normal 34 (by kernel_rfl) (P1 (.f (nt h_13_0_1) (.f trivial (.h 27 (.b false) .nil))))
      have ih := t13_0 (l0_0 := l0_0) (a0 := a0) (a1 := a1) hy0 l0_13_0 (p_13_0 ++ [x0_13_0]) (m29 x0_13_0 v0_13_0) (by rw [List.append_assoc]; exact hp0)
      rw [show ((p_13_0 ++ [x0_13_0]).length : Int) = (p_13_0.length : Int) + 1 from by simp] at ih
      rw [show (⟨[(0, (.one (.bor l0_0 (List.map b_sisi a0)))), (1, (.one (.val (.int .i64 (m29 x0_13_0 v0_13_0))))), (5, (.one (.val (.int .i64 (IntKind.wrap .i64 ((List.length p_13_0 : Int) + 1))))))], []⟩ : St) = h13_0 l0_0 a0 a1 ((List.length p_13_0 : Int) + 1) (m29 x0_13_0 v0_13_0) from by first | (unfold h13_0; simp only [hw]; done) | (unfold h13_0; simp only [hw, List.length_map, List.length_set, List.length_append, List.length_replicate, List.length_cons, List.length_nil]; done) | (unfold h13_0; simp [hw, byteRows_eq, ints_y, List.take_of_length_le, d_sisi, d_LsisiEi, d_i, d_b, d_s, d_iisiiii, d_iLsELiisiiiiELsisiEi, d_LsisiE, d_LsE, d_LiisiiiiE, d_y, fromBR_sisi, fromBR_i, fromBR_b, fromBR_s, fromBR_iisiiii, fromBR_y]; done)] at st
      exact .loopN st ih
/-! loop.example/g00539/laws.szSessionS -/
def m13 (a0 : (List K_sisi)) (a1 : Int) : Int :=
  if (decide ((IntKind.wrap .i64 (a1 - ((List.length (List.map b_sisi a0)) : Int))) < 0)) = true then (-1) else
  (match r13_0 a0 a0 0 (IntKind.wrap .i64 (a1 - ((List.length (List.map b_sisi a0)) : Int))) with | .k0 w0_13_0_1 w1_13_0_1 w2_13_0_1 => w0_13_0_1 | .k1 => (-1))
theorem e13 {l0_0 : Nat} {a0 : (List K_sisi)} {a1 : Int} (hy0 : List.length a0 * 48 ≤ 140737488351232) : Ev F X (.call 13 [(.one (.bor l0_0 (List.map b_sisi a0))), (.one (.val (.int .i64 a1)))] [] [] [(.one (.val (.int .i64 (m13 a0 a1))))]) := by
  unfold m13
  by_cases h0 : (decide ((IntKind.wrap .i64 (a1 - ((List.length (List.map b_sisi a0)) : Int))) < 0)) = true
  · try simp only [if_pos h0]
    exact cp (by kernel_rfl) (.f h0 (.h 16 (.b true) .nil))
  · try simp only [if_neg h0]
    cases h1 : r13_0 a0 a0 0 (IntKind.wrap .i64 (a1 - ((List.length (List.map b_sisi a0)) : Int))) with
    | k0 w0_13_0_1 w1_13_0_1 w2_13_0_1 =>
      try dsimp only
      have f1 : (⟨[(0, (.one (.bor l0_0 (List.map b_sisi a0)))), (1, (.one (.val (.int .i64 (IntKind.wrap .i64 (a1 - ((List.length (List.map b_sisi a0)) : Int))))))), (5, (.one (.val (.int .i64 0))))], []⟩ : St) = h13_0 l0_0 a0 a1 0 (IntKind.wrap .i64 (a1 - ((List.length (List.map b_sisi a0)) : Int))) := (by first | rfl | (unfold h13_0; simp [byteRows_eq, ints_y, List.take_of_length_le, d_sisi, d_LsisiEi, d_i, d_b, d_s, d_iisiiii, d_iLsELiisiiiiELsisiEi, d_LsisiE, d_LsE, d_LiisiiiiE, d_y, fromBR_sisi, fromBR_i, fromBR_b, fromBR_s, fromBR_iisiiii, fromBR_y]; done))
      exact cp (by kernel_rfl) (.f (nt h0) (.f f1 (.f (ev_ (e := ex13_0) (g := (fin13_0 l0_0 a0 a1)) h1 (t13_0 (l0_0 := l0_0) (a0 := a0) (a1 := a1) (by first | assumption | omega) a0 [] (IntKind.wrap .i64 (a1 - ((List.length (List.map b_sisi a0)) : Int))) rfl)) (.h 16 (.b false) (.h 19 (.loop (h13_0 l0_0 a0 a1 0 (IntKind.wrap .i64 (a1 - ((List.length (List.map b_sisi a0)) : Int)))) (.exit 0) ⟨[(0, (.one (.bor l0_0 (List.map b_sisi a0)))), (1, (.one (.val (.int .i64 w0_13_0_1)))), (5, (.one (.val (.int .i64 w1_13_0_1)))), (15, (.one (.val (.bool w2_13_0_1))))], []⟩) .nil)))))
    | k1 =>
      try dsimp only
      have f1 : (⟨[(0, (.one (.bor l0_0 (List.map b_sisi a0)))), (1, (.one (.val (.int .i64 (IntKind.wrap .i64 (a1 - ((List.length (List.map b_sisi a0)) : Int))))))), (5, (.one (.val (.int .i64 0))))], []⟩ : St) = h13_0 l0_0 a0 a1 0 (IntKind.wrap .i64 (a1 - ((List.length (List.map b_sisi a0)) : Int))) := (by first | rfl | (unfold h13_0; simp [byteRows_eq, ints_y, List.take_of_length_le, d_sisi, d_LsisiEi, d_i, d_b, d_s, d_iisiiii, d_iLsELiisiiiiELsisiEi, d_LsisiE, d_LsE, d_LiisiiiiE, d_y, fromBR_sisi, fromBR_i, fromBR_b, fromBR_s, fromBR_iisiiii, fromBR_y]; done))
      exact cp (by kernel_rfl) (.f (nt h0) (.f f1 (.f (ev_ (e := ex13_0) (g := (fin13_0 l0_0 a0 a1)) h1 (t13_0 (l0_0 := l0_0) (a0 := a0) (a1 := a1) (by first | assumption | omega) a0 [] (IntKind.wrap .i64 (a1 - ((List.length (List.map b_sisi a0)) : Int))) rfl)) (.h 16 (.b false) (.h 19 (.loop (h13_0 l0_0 a0 a1 0 (IntKind.wrap .i64 (a1 - ((List.length (List.map b_sisi a0)) : Int)))) .ret ⟨[(4, (.one (.val (.int .i64 (-1)))))], []⟩) .nil)))))
/-! loop.example/g00539/laws.szServer -/
def m4 (a0 : K_LsisiEi) (a1 : Int) : Int :=
  if (decide ((m13 a0.f0 a1) < 0)) = true then (-1) else
  (m13 a0.f0 a1)
theorem e4 {l0_0 : Nat} {a0 : K_LsisiEi} {a1 : Int} (hy0 : List.length a0.f0 * 48 ≤ 140737488351232) : Ev F X (.call 4 [(.agg [(.bor l0_0 (List.map b_sisi a0.f0)), (.val (.int .i64 a0.f1))]), (.one (.val (.int .i64 a1)))] [] [] [(.one (.val (.int .i64 (m4 a0 a1))))]) := by
  unfold m4
  have P0 {hs q} (r : PS F X hs q) := (PS.r 11 [] [] (e13 (l0_0 := (l0_0 + 1)) (a0 := a0.f0) (a1 := a1) (by first | with_reducible assumption | omega | assumption | (simp only [List.length_map]; omega) | (simp; omega))) r)
  by_cases h0 : (decide ((m13 a0.f0 a1) < 0)) = true
  · try simp only [if_pos h0]
    exact cp (by kernel_rfl) (P0 (.f h0 (.h 18 (.b true) .nil)))
  · try simp only [if_neg h0]
    exact cp (by kernel_rfl) (P0 (.f (nt h0) (.h 18 (.b false) .nil)))
/-! loop.example/g00539/spec.l1In -/
def m31 (a0 : Int) (a1 : Int) (a2 : Int) : Bool :=
  if (decide (a0 ≥ a1)) = true then (decide (a0 ≤ a2)) else
  false
theorem e31 {a0 : Int} {a1 : Int} {a2 : Int} : Ev F X (.call 31 [(.one (.val (.int .i64 a0))), (.one (.val (.int .i64 a1))), (.one (.val (.int .i64 a2)))] [] [] [(.one (.val (.bool (m31 a0 a1 a2))))]) := by
  unfold m31
  by_cases h0 : (decide (a0 ≥ a1)) = true
  · try simp only [if_pos h0]
    exact cp (by kernel_rfl) (.f h0 (.f h0 (.f h0 (.f h0 (.h 10 (.b true) (.h 12 (.b true) (.h 14 (.b true) (.h 17 (.b true) .nil))))))))
  · try simp only [if_neg h0]
    exact cp (by kernel_rfl) (.f (nt h0) (.f (nt h0) (.f (nt h0) (.f (nt h0) (.h 10 (.b false) (.h 12 (.b false) (.h 14 (.b false) (.h 17 (.b false) .nil))))))))
theorem jn31 {a b c : Int} (h : ¬ (!(m31 a b c)) = true) : b ≤ a ∧ a ≤ c := by
  simp only [Bool.not_eq_true', Bool.not_eq_false] at h
  unfold m31 at h; split at h <;> simp_all <;> omega
/-! loop 44_0 -/
inductive O44_0 where
  | k0 (w0 : Int) (w1 : Bool)
  | k1
def r44_0 (a0 : ByteArray) : Nat → Int → O44_0
  | n_44_0 + 1, i_44_0 =>
    if ((byteAt a0 i_44_0) == 10) = true then (O44_0.k1) else
    (r44_0 a0 n_44_0 (i_44_0 + 1) )
  | 0, i_44_0 => (O44_0.k0 i_44_0 (decide (i_44_0 < (ByteArray.size a0 : Int))))
def h44_0 (a0 : ByteArray) (i_44_0 : Int)  : St := ⟨[(0, (.one (.val (.string a0)))), (3, (.one (.val (.int .i64 i_44_0))))], []⟩
def ex44_0 : O44_0 → VX.Exit
  | .k0 _ _ => (.exit 0)
  | .k1 => .ret
def fin44_0 (a0 : ByteArray) : O44_0 → St
  | .k0 w0 w1 => ⟨[(0, (.one (.val (.string a0)))), (3, (.one (.val (.int .i64 w0)))), (7, (.one (.val (.bool w1))))], []⟩
  | .k1 => ⟨[(2, (.one (.val (.bool false))))], []⟩
theorem t44_0 {a0 : ByteArray} (hy0 : ByteArray.size a0 ≤ 140737488351232) : ∀ (n_44_0 : Nat) (i_44_0 : Int) , 0 ≤ i_44_0 → n_44_0 = Int.toNat ((ByteArray.size a0 : Int) - i_44_0) → (ByteArray.size a0 : Int) ≤ 9223372036854775807 → Ev F X (.code l44_0 (h44_0 a0 i_44_0 ) (ex44_0 (r44_0 a0 n_44_0 i_44_0 )) (fin44_0 a0 (r44_0 a0 n_44_0 i_44_0 )))
  | 0, i_44_0, hn0, hn, hi0 => by
    have hc : ¬ (decide (i_44_0 < (ByteArray.size a0 : Int))) = true := by
      simp only [decide_eq_true_eq]; omega
    have st := ch b44_0 (h44_0 a0 i_44_0 ) ⟨[(0, (.one (.val (.string a0)))), (3, (.one (.val (.int .i64 i_44_0)))), (7, (.one (.val (.bool (decide (i_44_0 < (ByteArray.size a0 : Int)))))))], []⟩ (.exit 0) 9 (by kernel_rfl) (.f (nt hc) (.h 8 (.b false) .nil))
    rw [show (⟨[(0, (.one (.val (.string a0)))), (3, (.one (.val (.int .i64 i_44_0)))), (7, (.one (.val (.bool (decide (i_44_0 < (ByteArray.size a0 : Int)))))))], []⟩ : St) = fin44_0 a0 (.k0 i_44_0 (decide (i_44_0 < (ByteArray.size a0 : Int)))) from by first | rfl | (unfold fin44_0; simp [byteRows_eq, ints_y, List.take_of_length_le, d_sisi, d_LsisiEi, d_i, d_b, d_s, d_iisiiii, d_iLsELiisiiiiELsisiEi, d_LsisiE, d_LsE, d_LiisiiiiE, d_y, fromBR_sisi, fromBR_i, fromBR_b, fromBR_s, fromBR_iisiiii, fromBR_y]; done)] at st
    exact .loopX st (show ((.exit 0) : VX.Exit) ≠ .normal from by simp)
  | n_44_0 + 1, i_44_0, hn0, hn, hi0 => by
    have hc : (decide (i_44_0 < (ByteArray.size a0 : Int))) = true := by
      simp only [decide_eq_true_eq]; omega
    have hw : IntKind.wrap .i64 (i_44_0 + 1) = i_44_0 + 1 := wrap64 (by omega)
    have hj0 := hi0; try simp only [List.length_map, List.length_set, List.length_append, List.length_replicate, List.length_cons, List.length_nil, Int.toNat_natCast] at hj0
    simp only [r44_0]
    have f1 : 0 ≤ i_44_0 ∧ i_44_0 < (ByteArray.size a0 : Int) := (by first | exact True.intro | with_reducible rfl | with_reducible assumption | omega | (simp only [decide_eq_true_eq] at *; omega) | (simp only [List.length_map, List.length_set, List.length_append, List.length_replicate, List.length_cons, List.length_nil]; omega) | (simp; omega) | (simp [List.take_of_length_le]; done) | assumption | trivial | (simp [*, byteRows_eq, ints_y]; done))
    by_cases h_44_0_1 : ((byteAt a0 i_44_0) == 10) = true
    · try simp only [if_pos h_44_0_1]
      have st := ch b44_0 (h44_0 a0 i_44_0 ) ⟨[(2, (.one (.val (.bool false))))], []⟩ .ret 20 (by kernel_rfl) (.f hc (.f f1 (.f h_44_0_1 (.h 8 (.b true) (.h 17 (.b true) .nil)))))
      rw [show (⟨[(2, (.one (.val (.bool false))))], []⟩ : St) = fin44_0 a0 (.k1) from by first | rfl | (unfold fin44_0; simp [byteRows_eq, ints_y, List.take_of_length_le, d_sisi, d_LsisiEi, d_i, d_b, d_s, d_iisiiii, d_iLsELiisiiiiELsisiEi, d_LsisiE, d_LsE, d_LiisiiiiE, d_y, fromBR_sisi, fromBR_i, fromBR_b, fromBR_s, fromBR_iisiiii, fromBR_y]; done)] at st
      exact .loopX st (show (.ret : VX.Exit) ≠ .normal from by simp)
    · try simp only [if_neg h_44_0_1]
      have st := ch b44_0 (h44_0 a0 i_44_0 ) ⟨[(0, (.one (.val (.string a0)))), (3, (.one (.val (.int .i64 (IntKind.wrap .i64 (i_44_0 + 1))))))], []⟩ .normal 24 (by kernel_rfl) (.f hc (.f f1 (.f (nt h_44_0_1) (.f trivial (.h 8 (.b true) (.h 17 (.b false) .nil))))))
      have ih := t44_0 (a0 := a0) hy0 n_44_0 (i_44_0 + 1)  (by omega) (by omega) (by first | omega | (simp only [List.length_map, List.length_set, List.length_append, List.length_replicate, List.length_cons, List.length_nil]; omega) | (simp only [List.length_map, List.length_set, List.length_append, List.length_replicate, List.length_cons, List.length_nil]; assumption) | assumption | (simp only [List.length_map, List.length_set, List.length_append, List.length_replicate, List.length_cons, List.length_nil] at *; omega))
      rw [show (⟨[(0, (.one (.val (.string a0)))), (3, (.one (.val (.int .i64 (IntKind.wrap .i64 (i_44_0 + 1))))))], []⟩ : St) = h44_0 a0 (i_44_0 + 1)  from by first | (unfold h44_0; simp only [hw]; done) | (unfold h44_0; simp only [hw, List.length_map, List.length_set, List.length_append, List.length_replicate, List.length_cons, List.length_nil]; done) | (unfold h44_0; simp [hw, byteRows_eq, ints_y, List.take_of_length_le, d_sisi, d_LsisiEi, d_i, d_b, d_s, d_iisiiii, d_iLsELiisiiiiELsisiEi, d_LsisiE, d_LsE, d_LiisiiiiE, d_y, fromBR_sisi, fromBR_i, fromBR_b, fromBR_s, fromBR_iisiiii, fromBR_y]; done)] at st
      exact .loopN st ih
/-! loop.example/g00539/spec.l10Rest -/
def m44 (a0 : ByteArray) : Bool :=
  (match r44_0 a0 (Int.toNat (ByteArray.size a0 : Int)) 0 with | .k0 w0_44_0_0 w1_44_0_0 => (decide ((ByteArray.size a0 : Int) ≤ 161)) | .k1 => false)
theorem e44 {a0 : ByteArray} (hy0 : ByteArray.size a0 ≤ 140737488351232) : Ev F X (.call 44 [(.one (.val (.string a0)))] [] [] [(.one (.val (.bool (m44 a0))))]) := by
  unfold m44
  cases h0 : r44_0 a0 (Int.toNat (ByteArray.size a0 : Int)) 0 with
  | k0 w0_44_0_0 w1_44_0_0 =>
    try dsimp only
    have f0 : (⟨[(0, (.one (.val (.string a0)))), (3, (.one (.val (.int .i64 0))))], []⟩ : St) = h44_0 a0 0  := (by first | rfl | (unfold h44_0; simp [byteRows_eq, ints_y, List.take_of_length_le, d_sisi, d_LsisiEi, d_i, d_b, d_s, d_iisiiii, d_iLsELiisiiiiELsisiEi, d_LsisiE, d_LsE, d_LiisiiiiE, d_y, fromBR_sisi, fromBR_i, fromBR_b, fromBR_s, fromBR_iisiiii, fromBR_y]; done))
    exact cp (by kernel_rfl) (.f f0 (.f (ev_ (e := ex44_0) (g := (fin44_0 a0)) h0 (t44_0 (a0 := a0) (by first | assumption | omega) _ 0  (by omega) (by omega) (by first | rfl | omega | (simp only [List.length_map, List.length_set, List.length_append, List.length_replicate, List.length_cons, List.length_nil]; done) | (simp only [List.length_map, List.length_set, List.length_append, List.length_replicate, List.length_cons, List.length_nil]; omega) | (simp; done)))) (.h 4 (.loop (h44_0 a0 0 ) (.exit 0) ⟨[(0, (.one (.val (.string a0)))), (3, (.one (.val (.int .i64 w0_44_0_0)))), (7, (.one (.val (.bool w1_44_0_0))))], []⟩) .nil)))
  | k1 =>
    try dsimp only
    have f0 : (⟨[(0, (.one (.val (.string a0)))), (3, (.one (.val (.int .i64 0))))], []⟩ : St) = h44_0 a0 0  := (by first | rfl | (unfold h44_0; simp [byteRows_eq, ints_y, List.take_of_length_le, d_sisi, d_LsisiEi, d_i, d_b, d_s, d_iisiiii, d_iLsELiisiiiiELsisiEi, d_LsisiE, d_LsE, d_LiisiiiiE, d_y, fromBR_sisi, fromBR_i, fromBR_b, fromBR_s, fromBR_iisiiii, fromBR_y]; done))
    exact cp (by kernel_rfl) (.f f0 (.f (ev_ (e := ex44_0) (g := (fin44_0 a0)) h0 (t44_0 (a0 := a0) (by first | assumption | omega) _ 0  (by omega) (by omega) (by first | rfl | omega | (simp only [List.length_map, List.length_set, List.length_append, List.length_replicate, List.length_cons, List.length_nil]; done) | (simp only [List.length_map, List.length_set, List.length_append, List.length_replicate, List.length_cons, List.length_nil]; omega) | (simp; done)))) (.h 4 (.loop (h44_0 a0 0 ) .ret ⟨[(2, (.one (.val (.bool false))))], []⟩) .nil)))
/-! loop.example/g00539/spec.l9Letter -/
def m51 (a0 : Int) : Bool :=
  if (decide (a0 ≥ 97)) = true then (if (decide (a0 ≤ 122)) = true then true else
    if (decide (a0 ≥ 65)) = true then (if (decide (a0 ≤ 90)) = true then true else
        if (decide (a0 ≥ 48)) = true then (decide (a0 ≤ 57)) else
          false) else
      if (decide (a0 ≥ 48)) = true then (decide (a0 ≤ 57)) else
        false) else
  if (decide (a0 ≥ 65)) = true then (if (decide (a0 ≤ 90)) = true then true else
      if (decide (a0 ≥ 48)) = true then (decide (a0 ≤ 57)) else
        false) else
    if (decide (a0 ≥ 48)) = true then (decide (a0 ≤ 57)) else
      false
theorem e51 {a0 : Int} : Ev F X (.call 51 [(.one (.val (.int .u8 a0)))] [] [] [(.one (.val (.bool (m51 a0))))]) := by
  unfold m51
  by_cases h0 : (decide (a0 ≥ 97)) = true
  · try simp only [if_pos h0]
    have P1 {hs q} (r : PS F X hs q) := (PS.f h0 (.f h0 (.f h0 (.h 8 (.b true) (.h 10 (.b true) (.h 13 (.b true) r))))))
    by_cases h1 : (decide (a0 ≤ 122)) = true
    · try simp only [if_pos h1]
      exact cp (by kernel_rfl) (P1 (.f h1 (.f h1 (.f h1 (.f h1 (.f h1 (.h 16 (.b true) (.h 18 (.b true) (.h 20 (.b true) (.h 26 (.b true) (.h 29 (.b true) .nil)))))))))))
    · try simp only [if_neg h1]
      have P2 {hs q} (r : PS F X hs q) := (P1 (.f (nt h1) (.f (nt h1) (.f (nt h1) (.h 16 (.b false) (.h 18 (.b false) (.h 20 (.b false) r)))))))
      by_cases h2 : (decide (a0 ≥ 65)) = true
      · try simp only [if_pos h2]
        have P3 {hs q} (r : PS F X hs q) := (P2 (.f h2 (.f h2 (.f (nt h1) (.f h2 (.f (nt h1) (.h 22 (.b true) (.h 24 (.b true) (.h 26 (.b false) (.h 27 (.b true) (.h 29 (.b false) r)))))))))))
        by_cases h3 : (decide (a0 ≤ 90)) = true
        · try simp only [if_pos h3]
          exact cp (by kernel_rfl) (P3 (.f h3 (.f h3 (.f h3 (.f h3 (.f h3 (.h 32 (.b true) (.h 34 (.b true) (.h 36 (.b true) (.h 42 (.b true) (.h 45 (.b true) .nil)))))))))))
        · try simp only [if_neg h3]
          have P4 {hs q} (r : PS F X hs q) := (P3 (.f (nt h3) (.f (nt h3) (.f (nt h3) (.h 32 (.b false) (.h 34 (.b false) (.h 36 (.b false) r)))))))
          by_cases h4 : (decide (a0 ≥ 48)) = true
          · try simp only [if_pos h4]
            exact cp (by kernel_rfl) (P4 (.f h4 (.f h4 (.f (nt h3) (.f h4 (.f (nt h3) (.h 38 (.b true) (.h 40 (.b true) (.h 42 (.b false) (.h 43 (.b true) (.h 45 (.b false) .nil)))))))))))
          · try simp only [if_neg h4]
            exact cp (by kernel_rfl) (P4 (.f (nt h4) (.f (nt h4) (.f (nt h3) (.f (nt h4) (.f (nt h3) (.h 38 (.b false) (.h 40 (.b false) (.h 42 (.b false) (.h 43 (.b false) (.h 45 (.b false) .nil)))))))))))
      · try simp only [if_neg h2]
        have P3 {hs q} (r : PS F X hs q) := (P2 (.f (nt h2) (.f (nt h2) (.f (nt h1) (.f (nt h2) (.f (nt h1) (.h 22 (.b false) (.h 24 (.b false) (.h 26 (.b false) (.h 27 (.b false) (.h 29 (.b false) r)))))))))))
        by_cases h3 : (decide (a0 ≥ 48)) = true
        · try simp only [if_pos h3]
          exact cp (by kernel_rfl) (P3 (.f h3 (.f h3 (.f h3 (.h 38 (.b true) (.h 40 (.b true) (.h 43 (.b true) .nil)))))))
        · try simp only [if_neg h3]
          exact cp (by kernel_rfl) (P3 (.f (nt h3) (.f (nt h3) (.f (nt h3) (.h 38 (.b false) (.h 40 (.b false) (.h 43 (.b false) .nil)))))))
  · try simp only [if_neg h0]
    have P1 {hs q} (r : PS F X hs q) := (PS.f (nt h0) (.f (nt h0) (.f (nt h0) (.h 8 (.b false) (.h 10 (.b false) (.h 13 (.b false) r))))))
    by_cases h1 : (decide (a0 ≥ 65)) = true
    · try simp only [if_pos h1]
      have P2 {hs q} (r : PS F X hs q) := (P1 (.f h1 (.f h1 (.f h1 (.h 22 (.b true) (.h 24 (.b true) (.h 27 (.b true) r)))))))
      by_cases h2 : (decide (a0 ≤ 90)) = true
      · try simp only [if_pos h2]
        exact cp (by kernel_rfl) (P2 (.f h2 (.f h2 (.f h2 (.f h2 (.f h2 (.h 32 (.b true) (.h 34 (.b true) (.h 36 (.b true) (.h 42 (.b true) (.h 45 (.b true) .nil)))))))))))
      · try simp only [if_neg h2]
        have P3 {hs q} (r : PS F X hs q) := (P2 (.f (nt h2) (.f (nt h2) (.f (nt h2) (.h 32 (.b false) (.h 34 (.b false) (.h 36 (.b false) r)))))))
        by_cases h3 : (decide (a0 ≥ 48)) = true
        · try simp only [if_pos h3]
          exact cp (by kernel_rfl) (P3 (.f h3 (.f h3 (.f (nt h2) (.f h3 (.f (nt h2) (.h 38 (.b true) (.h 40 (.b true) (.h 42 (.b false) (.h 43 (.b true) (.h 45 (.b false) .nil)))))))))))
        · try simp only [if_neg h3]
          exact cp (by kernel_rfl) (P3 (.f (nt h3) (.f (nt h3) (.f (nt h2) (.f (nt h3) (.f (nt h2) (.h 38 (.b false) (.h 40 (.b false) (.h 42 (.b false) (.h 43 (.b false) (.h 45 (.b false) .nil)))))))))))
    · try simp only [if_neg h1]
      have P2 {hs q} (r : PS F X hs q) := (P1 (.f (nt h1) (.f (nt h1) (.f (nt h1) (.h 22 (.b false) (.h 24 (.b false) (.h 27 (.b false) r)))))))
      by_cases h2 : (decide (a0 ≥ 48)) = true
      · try simp only [if_pos h2]
        exact cp (by kernel_rfl) (P2 (.f h2 (.f h2 (.f h2 (.h 38 (.b true) (.h 40 (.b true) (.h 43 (.b true) .nil)))))))
      · try simp only [if_neg h2]
        exact cp (by kernel_rfl) (P2 (.f (nt h2) (.f (nt h2) (.f (nt h2) (.h 38 (.b false) (.h 40 (.b false) (.h 43 (.b false) .nil)))))))
/-! loop 45_0 -/
inductive O45_0 where
  | k0 (w0 : Int) (w1 : Bool)
  | k1
def r45_0 (a0 : ByteArray) : Nat → Int → O45_0
  | n_45_0 + 1, i_45_0 =>
    if (!(m51 (byteAt a0 i_45_0))) = true then (O45_0.k1) else
    (r45_0 a0 n_45_0 (i_45_0 + 1) )
  | 0, i_45_0 => (O45_0.k0 i_45_0 (decide (i_45_0 < (ByteArray.size a0 : Int))))
def h45_0 (a0 : ByteArray) (i_45_0 : Int)  : St := ⟨[(0, (.one (.val (.string a0)))), (3, (.one (.val (.int .i64 i_45_0))))], []⟩
def ex45_0 : O45_0 → VX.Exit
  | .k0 _ _ => (.exit 0)
  | .k1 => .ret
def fin45_0 (a0 : ByteArray) : O45_0 → St
  | .k0 w0 w1 => ⟨[(0, (.one (.val (.string a0)))), (3, (.one (.val (.int .i64 w0)))), (7, (.one (.val (.bool w1))))], []⟩
  | .k1 => ⟨[(2, (.one (.val (.bool false))))], []⟩
theorem t45_0 {a0 : ByteArray} (hy0 : ByteArray.size a0 ≤ 140737488351232) : ∀ (n_45_0 : Nat) (i_45_0 : Int) , 0 ≤ i_45_0 → n_45_0 = Int.toNat ((ByteArray.size a0 : Int) - i_45_0) → (ByteArray.size a0 : Int) ≤ 9223372036854775807 → Ev F X (.code l45_0 (h45_0 a0 i_45_0 ) (ex45_0 (r45_0 a0 n_45_0 i_45_0 )) (fin45_0 a0 (r45_0 a0 n_45_0 i_45_0 )))
  | 0, i_45_0, hn0, hn, hi0 => by
    have hc : ¬ (decide (i_45_0 < (ByteArray.size a0 : Int))) = true := by
      simp only [decide_eq_true_eq]; omega
    have st := ch b45_0 (h45_0 a0 i_45_0 ) ⟨[(0, (.one (.val (.string a0)))), (3, (.one (.val (.int .i64 i_45_0)))), (7, (.one (.val (.bool (decide (i_45_0 < (ByteArray.size a0 : Int)))))))], []⟩ (.exit 0) 9 (by kernel_rfl) (.f (nt hc) (.h 8 (.b false) .nil))
    rw [show (⟨[(0, (.one (.val (.string a0)))), (3, (.one (.val (.int .i64 i_45_0)))), (7, (.one (.val (.bool (decide (i_45_0 < (ByteArray.size a0 : Int)))))))], []⟩ : St) = fin45_0 a0 (.k0 i_45_0 (decide (i_45_0 < (ByteArray.size a0 : Int)))) from by first | rfl | (unfold fin45_0; simp [byteRows_eq, ints_y, List.take_of_length_le, d_sisi, d_LsisiEi, d_i, d_b, d_s, d_iisiiii, d_iLsELiisiiiiELsisiEi, d_LsisiE, d_LsE, d_LiisiiiiE, d_y, fromBR_sisi, fromBR_i, fromBR_b, fromBR_s, fromBR_iisiiii, fromBR_y]; done)] at st
    exact .loopX st (show ((.exit 0) : VX.Exit) ≠ .normal from by simp)
  | n_45_0 + 1, i_45_0, hn0, hn, hi0 => by
    have hc : (decide (i_45_0 < (ByteArray.size a0 : Int))) = true := by
      simp only [decide_eq_true_eq]; omega
    have hw : IntKind.wrap .i64 (i_45_0 + 1) = i_45_0 + 1 := wrap64 (by omega)
    have hj0 := hi0; try simp only [List.length_map, List.length_set, List.length_append, List.length_replicate, List.length_cons, List.length_nil, Int.toNat_natCast] at hj0
    simp only [r45_0]
    have f1 : 0 ≤ i_45_0 ∧ i_45_0 < (ByteArray.size a0 : Int) := (by first | exact True.intro | with_reducible rfl | with_reducible assumption | omega | (simp only [decide_eq_true_eq] at *; omega) | (simp only [List.length_map, List.length_set, List.length_append, List.length_replicate, List.length_cons, List.length_nil]; omega) | (simp; omega) | (simp [List.take_of_length_le]; done) | assumption | trivial | (simp [*, byteRows_eq, ints_y]; done))
    have P1 {hs q} (r : PS F X hs q) := (PS.f hc (.f f1 (.h 8 (.b true) (.r 16 [] [] (e51 (a0 := (byteAt a0 i_45_0))) r))))
    by_cases h_45_0_1 : (!(m51 (byteAt a0 i_45_0))) = true
    · try simp only [if_pos h_45_0_1]
      have st := ch b45_0 (h45_0 a0 i_45_0 ) ⟨[(2, (.one (.val (.bool false))))], []⟩ .ret 22 (by kernel_rfl) (P1 (.f h_45_0_1 (.h 19 (.b true) .nil)))
      rw [show (⟨[(2, (.one (.val (.bool false))))], []⟩ : St) = fin45_0 a0 (.k1) from by first | rfl | (unfold fin45_0; simp [byteRows_eq, ints_y, List.take_of_length_le, d_sisi, d_LsisiEi, d_i, d_b, d_s, d_iisiiii, d_iLsELiisiiiiELsisiEi, d_LsisiE, d_LsE, d_LiisiiiiE, d_y, fromBR_sisi, fromBR_i, fromBR_b, fromBR_s, fromBR_iisiiii, fromBR_y]; done)] at st
      exact .loopX st (show (.ret : VX.Exit) ≠ .normal from by simp)
    · try simp only [if_neg h_45_0_1]
      have st := ch b45_0 (h45_0 a0 i_45_0 ) ⟨[(0, (.one (.val (.string a0)))), (3, (.one (.val (.int .i64 (IntKind.wrap .i64 (i_45_0 + 1))))))], []⟩ .normal 26 (by kernel_rfl) (P1 (.f (nt h_45_0_1) (.f trivial (.h 19 (.b false) .nil))))
      have ih := t45_0 (a0 := a0) hy0 n_45_0 (i_45_0 + 1)  (by omega) (by omega) (by first | omega | (simp only [List.length_map, List.length_set, List.length_append, List.length_replicate, List.length_cons, List.length_nil]; omega) | (simp only [List.length_map, List.length_set, List.length_append, List.length_replicate, List.length_cons, List.length_nil]; assumption) | assumption | (simp only [List.length_map, List.length_set, List.length_append, List.length_replicate, List.length_cons, List.length_nil] at *; omega))
      rw [show (⟨[(0, (.one (.val (.string a0)))), (3, (.one (.val (.int .i64 (IntKind.wrap .i64 (i_45_0 + 1))))))], []⟩ : St) = h45_0 a0 (i_45_0 + 1)  from by first | (unfold h45_0; simp only [hw]; done) | (unfold h45_0; simp only [hw, List.length_map, List.length_set, List.length_append, List.length_replicate, List.length_cons, List.length_nil]; done) | (unfold h45_0; simp [hw, byteRows_eq, ints_y, List.take_of_length_le, d_sisi, d_LsisiEi, d_i, d_b, d_s, d_iisiiii, d_iLsELiisiiiiELsisiEi, d_LsisiE, d_LsE, d_LiisiiiiE, d_y, fromBR_sisi, fromBR_i, fromBR_b, fromBR_s, fromBR_iisiiii, fromBR_y]; done)] at st
      exact .loopN st ih
/-! loop.example/g00539/spec.l9Arg -/
def m45 (a0 : ByteArray) : Bool :=
  (match r45_0 a0 (Int.toNat (ByteArray.size a0 : Int)) 0 with | .k0 w0_45_0_0 w1_45_0_0 => (decide ((ByteArray.size a0 : Int) ≤ 12)) | .k1 => false)
theorem e45 {a0 : ByteArray} (hy0 : ByteArray.size a0 ≤ 140737488351232) : Ev F X (.call 45 [(.one (.val (.string a0)))] [] [] [(.one (.val (.bool (m45 a0))))]) := by
  unfold m45
  cases h0 : r45_0 a0 (Int.toNat (ByteArray.size a0 : Int)) 0 with
  | k0 w0_45_0_0 w1_45_0_0 =>
    try dsimp only
    have f0 : (⟨[(0, (.one (.val (.string a0)))), (3, (.one (.val (.int .i64 0))))], []⟩ : St) = h45_0 a0 0  := (by first | rfl | (unfold h45_0; simp [byteRows_eq, ints_y, List.take_of_length_le, d_sisi, d_LsisiEi, d_i, d_b, d_s, d_iisiiii, d_iLsELiisiiiiELsisiEi, d_LsisiE, d_LsE, d_LiisiiiiE, d_y, fromBR_sisi, fromBR_i, fromBR_b, fromBR_s, fromBR_iisiiii, fromBR_y]; done))
    exact cp (by kernel_rfl) (.f f0 (.f (ev_ (e := ex45_0) (g := (fin45_0 a0)) h0 (t45_0 (a0 := a0) (by first | assumption | omega) _ 0  (by omega) (by omega) (by first | rfl | omega | (simp only [List.length_map, List.length_set, List.length_append, List.length_replicate, List.length_cons, List.length_nil]; done) | (simp only [List.length_map, List.length_set, List.length_append, List.length_replicate, List.length_cons, List.length_nil]; omega) | (simp; done)))) (.h 4 (.loop (h45_0 a0 0 ) (.exit 0) ⟨[(0, (.one (.val (.string a0)))), (3, (.one (.val (.int .i64 w0_45_0_0)))), (7, (.one (.val (.bool w1_45_0_0))))], []⟩) .nil)))
  | k1 =>
    try dsimp only
    have f0 : (⟨[(0, (.one (.val (.string a0)))), (3, (.one (.val (.int .i64 0))))], []⟩ : St) = h45_0 a0 0  := (by first | rfl | (unfold h45_0; simp [byteRows_eq, ints_y, List.take_of_length_le, d_sisi, d_LsisiEi, d_i, d_b, d_s, d_iisiiii, d_iLsELiisiiiiELsisiEi, d_LsisiE, d_LsE, d_LiisiiiiE, d_y, fromBR_sisi, fromBR_i, fromBR_b, fromBR_s, fromBR_iisiiii, fromBR_y]; done))
    exact cp (by kernel_rfl) (.f f0 (.f (ev_ (e := ex45_0) (g := (fin45_0 a0)) h0 (t45_0 (a0 := a0) (by first | assumption | omega) _ 0  (by omega) (by omega) (by first | rfl | omega | (simp only [List.length_map, List.length_set, List.length_append, List.length_replicate, List.length_cons, List.length_nil]; done) | (simp only [List.length_map, List.length_set, List.length_append, List.length_replicate, List.length_cons, List.length_nil]; omega) | (simp; done)))) (.h 4 (.loop (h45_0 a0 0 ) .ret ⟨[(2, (.one (.val (.bool false))))], []⟩) .nil)))
/-! loop 40_0 -/
inductive O40_0 where
  | k0 (w0 : Int) (w1 : Bool)
  | k1
def r40_0 (a0 : K_LsisiEi) (a1 : Int) : Nat → Int → O40_0
  | n_40_0 + 1, i_40_0 =>
    if (decide (((List.getD a0.f0 (Int.toNat a1) (K_sisi.mk (⟨#[]⟩ : ByteArray) 0 (⟨#[]⟩ : ByteArray) 0)).f1) ≥ 0)) = true then (if (((List.getD a0.f0 (Int.toNat i_40_0) (K_sisi.mk (⟨#[]⟩ : ByteArray) 0 (⟨#[]⟩ : ByteArray) 0)).f1) == ((List.getD a0.f0 (Int.toNat a1) (K_sisi.mk (⟨#[]⟩ : ByteArray) 0 (⟨#[]⟩ : ByteArray) 0)).f1)) = true then (O40_0.k1) else
      (r40_0 a0 a1 n_40_0 (i_40_0 + 1) )) else
    (r40_0 a0 a1 n_40_0 (i_40_0 + 1) )
  | 0, i_40_0 => (O40_0.k0 i_40_0 (decide (i_40_0 < a1)))
def h40_0 (l0 : Nat) (a0 : K_LsisiEi) (a1 : Int) (i_40_0 : Int)  : St := ⟨[(0, (.bptr l0 [(.sl (List.map b_sisi a0.f0)), (.val (.int .i64 a0.f1))])), (1, (.one (.val (.int .i64 a1)))), (5, (.bptr l0 [(.val (.string ((List.getD a0.f0 (Int.toNat a1) (K_sisi.mk (⟨#[]⟩ : ByteArray) 0 (⟨#[]⟩ : ByteArray) 0)).f0))), (.val (.int .i64 ((List.getD a0.f0 (Int.toNat a1) (K_sisi.mk (⟨#[]⟩ : ByteArray) 0 (⟨#[]⟩ : ByteArray) 0)).f1))), (.val (.string ((List.getD a0.f0 (Int.toNat a1) (K_sisi.mk (⟨#[]⟩ : ByteArray) 0 (⟨#[]⟩ : ByteArray) 0)).f2))), (.val (.int .i64 ((List.getD a0.f0 (Int.toNat a1) (K_sisi.mk (⟨#[]⟩ : ByteArray) 0 (⟨#[]⟩ : ByteArray) 0)).f3)))])), (6, (.one (.val (.int .i64 i_40_0))))], []⟩
def ex40_0 : O40_0 → VX.Exit
  | .k0 _ _ => (.exit 0)
  | .k1 => .ret
def fin40_0 (l0 : Nat) (a0 : K_LsisiEi) (a1 : Int) : O40_0 → St
  | .k0 w0 w1 => ⟨[(0, (.bptr l0 [(.sl (List.map b_sisi a0.f0)), (.val (.int .i64 a0.f1))])), (1, (.one (.val (.int .i64 a1)))), (5, (.bptr l0 [(.val (.string ((List.getD a0.f0 (Int.toNat a1) (K_sisi.mk (⟨#[]⟩ : ByteArray) 0 (⟨#[]⟩ : ByteArray) 0)).f0))), (.val (.int .i64 ((List.getD a0.f0 (Int.toNat a1) (K_sisi.mk (⟨#[]⟩ : ByteArray) 0 (⟨#[]⟩ : ByteArray) 0)).f1))), (.val (.string ((List.getD a0.f0 (Int.toNat a1) (K_sisi.mk (⟨#[]⟩ : ByteArray) 0 (⟨#[]⟩ : ByteArray) 0)).f2))), (.val (.int .i64 ((List.getD a0.f0 (Int.toNat a1) (K_sisi.mk (⟨#[]⟩ : ByteArray) 0 (⟨#[]⟩ : ByteArray) 0)).f3)))])), (6, (.one (.val (.int .i64 w0)))), (55, (.one (.val (.bool w1))))], []⟩
  | .k1 => ⟨[(4, (.one (.val (.int .i64 6))))], []⟩
theorem t40_0 {l0 : Nat} {a0 : K_LsisiEi} {a1 : Int} (hy0 : 0 ≤ a1) (hy1 : a1 < List.length a0.f0) (hy2 : List.length a0.f0 * 48 ≤ 140737488351232) (hy3 : ∀ z ∈ a0.f0, os_sisi z) : ∀ (n_40_0 : Nat) (i_40_0 : Int) , 0 ≤ i_40_0 → n_40_0 = Int.toNat (a1 - i_40_0) → a1 ≤ 9223372036854775807 → Ev F X (.code l40_0 (h40_0 l0 a0 a1 i_40_0 ) (ex40_0 (r40_0 a0 a1 n_40_0 i_40_0 )) (fin40_0 l0 a0 a1 (r40_0 a0 a1 n_40_0 i_40_0 )))
  | 0, i_40_0, hn0, hn, hi0 => by
    have hc : ¬ (decide (i_40_0 < a1)) = true := by
      simp only [decide_eq_true_eq]; omega
    have st := ch b40_0 (h40_0 l0 a0 a1 i_40_0 ) ⟨[(0, (.bptr l0 [(.sl (List.map b_sisi a0.f0)), (.val (.int .i64 a0.f1))])), (1, (.one (.val (.int .i64 a1)))), (5, (.bptr l0 [(.val (.string ((List.getD a0.f0 (Int.toNat a1) (K_sisi.mk (⟨#[]⟩ : ByteArray) 0 (⟨#[]⟩ : ByteArray) 0)).f0))), (.val (.int .i64 ((List.getD a0.f0 (Int.toNat a1) (K_sisi.mk (⟨#[]⟩ : ByteArray) 0 (⟨#[]⟩ : ByteArray) 0)).f1))), (.val (.string ((List.getD a0.f0 (Int.toNat a1) (K_sisi.mk (⟨#[]⟩ : ByteArray) 0 (⟨#[]⟩ : ByteArray) 0)).f2))), (.val (.int .i64 ((List.getD a0.f0 (Int.toNat a1) (K_sisi.mk (⟨#[]⟩ : ByteArray) 0 (⟨#[]⟩ : ByteArray) 0)).f3)))])), (6, (.one (.val (.int .i64 i_40_0)))), (55, (.one (.val (.bool (decide (i_40_0 < a1))))))], []⟩ (.exit 0) 7 (by kernel_rfl) (.f (nt hc) (.h 6 (.b false) .nil))
    rw [show (⟨[(0, (.bptr l0 [(.sl (List.map b_sisi a0.f0)), (.val (.int .i64 a0.f1))])), (1, (.one (.val (.int .i64 a1)))), (5, (.bptr l0 [(.val (.string ((List.getD a0.f0 (Int.toNat a1) (K_sisi.mk (⟨#[]⟩ : ByteArray) 0 (⟨#[]⟩ : ByteArray) 0)).f0))), (.val (.int .i64 ((List.getD a0.f0 (Int.toNat a1) (K_sisi.mk (⟨#[]⟩ : ByteArray) 0 (⟨#[]⟩ : ByteArray) 0)).f1))), (.val (.string ((List.getD a0.f0 (Int.toNat a1) (K_sisi.mk (⟨#[]⟩ : ByteArray) 0 (⟨#[]⟩ : ByteArray) 0)).f2))), (.val (.int .i64 ((List.getD a0.f0 (Int.toNat a1) (K_sisi.mk (⟨#[]⟩ : ByteArray) 0 (⟨#[]⟩ : ByteArray) 0)).f3)))])), (6, (.one (.val (.int .i64 i_40_0)))), (55, (.one (.val (.bool (decide (i_40_0 < a1))))))], []⟩ : St) = fin40_0 l0 a0 a1 (.k0 i_40_0 (decide (i_40_0 < a1))) from by first | rfl | (unfold fin40_0; simp [byteRows_eq, ints_y, List.take_of_length_le, d_sisi, d_LsisiEi, d_i, d_b, d_s, d_iisiiii, d_iLsELiisiiiiELsisiEi, d_LsisiE, d_LsE, d_LiisiiiiE, d_y, fromBR_sisi, fromBR_i, fromBR_b, fromBR_s, fromBR_iisiiii, fromBR_y]; done)] at st
    exact .loopX st (show ((.exit 0) : VX.Exit) ≠ .normal from by simp)
  | n_40_0 + 1, i_40_0, hn0, hn, hi0 => by
    have hc : (decide (i_40_0 < a1)) = true := by
      simp only [decide_eq_true_eq]; omega
    have hw : IntKind.wrap .i64 (i_40_0 + 1) = i_40_0 + 1 := wrap64 (by omega)
    have hj0 := hi0; try simp only [List.length_map, List.length_set, List.length_append, List.length_replicate, List.length_cons, List.length_nil, Int.toNat_natCast] at hj0
    simp only [r40_0]
    by_cases h_40_0_1 : (decide (((List.getD a0.f0 (Int.toNat a1) (K_sisi.mk (⟨#[]⟩ : ByteArray) 0 (⟨#[]⟩ : ByteArray) 0)).f1) ≥ 0)) = true
    · try simp only [if_pos h_40_0_1]
      have f7 : 0 ≤ i_40_0 := (by first | exact True.intro | with_reducible rfl | with_reducible assumption | omega | (simp only [decide_eq_true_eq, List.length_map] at *; omega) | (simp only [decide_eq_true_eq] at *; omega) | (simp only [List.length_map, List.length_set, List.length_append, List.length_replicate, List.length_cons, List.length_nil]; omega) | (simp; omega) | (simp [List.take_of_length_le]; done) | assumption | trivial | (simp [*, byteRows_eq, ints_y]; done))
      have P2 {hs q} (r : PS F X hs q) := (PS.f hc (.f h_40_0_1 (.f h_40_0_1 (.f h_40_0_1 (.f h_40_0_1 (.f h_40_0_1 (.f h_40_0_1 (.f f7 (.f (mp_ b_sisi (getD_at a0.f0 (Int.toNat i_40_0) (K_sisi.mk (⟨#[]⟩ : ByteArray) 0 (⟨#[]⟩ : ByteArray) 0) (by first | exact True.intro | with_reducible rfl | with_reducible assumption | omega | (simp only [decide_eq_true_eq, List.length_map] at *; omega) | (simp only [decide_eq_true_eq] at *; omega) | (simp only [List.length_map]; omega) | (simp; omega) | (simp [List.take_of_length_le]; done) | assumption | trivial | (simp [*, byteRows_eq, ints_y]; done)))) (.f h_40_0_1 (.f h_40_0_1 (.f h_40_0_1 (.f h_40_0_1 (.f h_40_0_1 (.f h_40_0_1 (.f h_40_0_1 (.f h_40_0_1 (.h 6 (.b true) (.h 19 (.b true) (.h 21 (.b true) (.h 23 (.b true) (.h 25 (.b true) (.h 27 (.b true) (.h 29 (.b true) (.h 30 (.row [(.val (.string ((List.getD a0.f0 (Int.toNat i_40_0) (K_sisi.mk (⟨#[]⟩ : ByteArray) 0 (⟨#[]⟩ : ByteArray) 0)).f0))), (.val (.int .i64 ((List.getD a0.f0 (Int.toNat i_40_0) (K_sisi.mk (⟨#[]⟩ : ByteArray) 0 (⟨#[]⟩ : ByteArray) 0)).f1))), (.val (.string ((List.getD a0.f0 (Int.toNat i_40_0) (K_sisi.mk (⟨#[]⟩ : ByteArray) 0 (⟨#[]⟩ : ByteArray) 0)).f2))), (.val (.int .i64 ((List.getD a0.f0 (Int.toNat i_40_0) (K_sisi.mk (⟨#[]⟩ : ByteArray) 0 (⟨#[]⟩ : ByteArray) 0)).f3)))]) (.h 31 (.b true) (.h 33 (.b true) (.h 35 (.b true) (.h 37 (.b true) (.h 39 (.b true) (.h 41 (.b true) (.h 43 (.b true) (.h 46 (.b true) r)))))))))))))))))))))))))))))))))
      by_cases h_40_0_2 : (((List.getD a0.f0 (Int.toNat i_40_0) (K_sisi.mk (⟨#[]⟩ : ByteArray) 0 (⟨#[]⟩ : ByteArray) 0)).f1) == ((List.getD a0.f0 (Int.toNat a1) (K_sisi.mk (⟨#[]⟩ : ByteArray) 0 (⟨#[]⟩ : ByteArray) 0)).f1)) = true
      · try simp only [if_pos h_40_0_2]
        have st := ch b40_0 (h40_0 l0 a0 a1 i_40_0 ) ⟨[(4, (.one (.val (.int .i64 6))))], []⟩ .ret 50 (by kernel_rfl) (P2 (.f h_40_0_2 (.h 47 (.b true) .nil)))
        rw [show (⟨[(4, (.one (.val (.int .i64 6))))], []⟩ : St) = fin40_0 l0 a0 a1 (.k1) from by first | rfl | (unfold fin40_0; simp [byteRows_eq, ints_y, List.take_of_length_le, d_sisi, d_LsisiEi, d_i, d_b, d_s, d_iisiiii, d_iLsELiisiiiiELsisiEi, d_LsisiE, d_LsE, d_LiisiiiiE, d_y, fromBR_sisi, fromBR_i, fromBR_b, fromBR_s, fromBR_iisiiii, fromBR_y]; done)] at st
        exact .loopX st (show (.ret : VX.Exit) ≠ .normal from by simp)
      · try simp only [if_neg h_40_0_2]
        have st := ch b40_0 (h40_0 l0 a0 a1 i_40_0 ) ⟨[(0, (.bptr l0 [(.sl (List.map b_sisi a0.f0)), (.val (.int .i64 a0.f1))])), (1, (.one (.val (.int .i64 a1)))), (5, (.bptr l0 [(.val (.string ((List.getD a0.f0 (Int.toNat a1) (K_sisi.mk (⟨#[]⟩ : ByteArray) 0 (⟨#[]⟩ : ByteArray) 0)).f0))), (.val (.int .i64 ((List.getD a0.f0 (Int.toNat a1) (K_sisi.mk (⟨#[]⟩ : ByteArray) 0 (⟨#[]⟩ : ByteArray) 0)).f1))), (.val (.string ((List.getD a0.f0 (Int.toNat a1) (K_sisi.mk (⟨#[]⟩ : ByteArray) 0 (⟨#[]⟩ : ByteArray) 0)).f2))), (.val (.int .i64 ((List.getD a0.f0 (Int.toNat a1) (K_sisi.mk (⟨#[]⟩ : ByteArray) 0 (⟨#[]⟩ : ByteArray) 0)).f3)))])), (6, (.one (.val (.int .i64 (IntKind.wrap .i64 (i_40_0 + 1))))))], []⟩ .normal 54 (by kernel_rfl) (P2 (.f (nt h_40_0_2) (.f trivial (.h 47 (.b false) .nil))))
        have ih := t40_0 (l0 := l0) (a0 := a0) (a1 := a1) hy0 hy1 hy2 hy3 n_40_0 (i_40_0 + 1)  (by omega) (by omega) (by first | omega | (simp only [List.length_map, List.length_set, List.length_append, List.length_replicate, List.length_cons, List.length_nil]; omega) | (simp only [List.length_map, List.length_set, List.length_append, List.length_replicate, List.length_cons, List.length_nil]; assumption) | assumption | (simp only [List.length_map, List.length_set, List.length_append, List.length_replicate, List.length_cons, List.length_nil] at *; omega))
        rw [show (⟨[(0, (.bptr l0 [(.sl (List.map b_sisi a0.f0)), (.val (.int .i64 a0.f1))])), (1, (.one (.val (.int .i64 a1)))), (5, (.bptr l0 [(.val (.string ((List.getD a0.f0 (Int.toNat a1) (K_sisi.mk (⟨#[]⟩ : ByteArray) 0 (⟨#[]⟩ : ByteArray) 0)).f0))), (.val (.int .i64 ((List.getD a0.f0 (Int.toNat a1) (K_sisi.mk (⟨#[]⟩ : ByteArray) 0 (⟨#[]⟩ : ByteArray) 0)).f1))), (.val (.string ((List.getD a0.f0 (Int.toNat a1) (K_sisi.mk (⟨#[]⟩ : ByteArray) 0 (⟨#[]⟩ : ByteArray) 0)).f2))), (.val (.int .i64 ((List.getD a0.f0 (Int.toNat a1) (K_sisi.mk (⟨#[]⟩ : ByteArray) 0 (⟨#[]⟩ : ByteArray) 0)).f3)))])), (6, (.one (.val (.int .i64 (IntKind.wrap .i64 (i_40_0 + 1))))))], []⟩ : St) = h40_0 l0 a0 a1 (i_40_0 + 1)  from by first | (unfold h40_0; simp only [hw]; done) | (unfold h40_0; simp only [hw, List.length_map, List.length_set, List.length_append, List.length_replicate, List.length_cons, List.length_nil]; done) | (unfold h40_0; simp [hw, byteRows_eq, ints_y, List.take_of_length_le, d_sisi, d_LsisiEi, d_i, d_b, d_s, d_iisiiii, d_iLsELiisiiiiELsisiEi, d_LsisiE, d_LsE, d_LiisiiiiE, d_y, fromBR_sisi, fromBR_i, fromBR_b, fromBR_s, fromBR_iisiiii, fromBR_y]; done)] at st
        exact .loopN st ih
    · try simp only [if_neg h_40_0_1]
      have st := ch b40_0 (h40_0 l0 a0 a1 i_40_0 ) ⟨[(0, (.bptr l0 [(.sl (List.map b_sisi a0.f0)), (.val (.int .i64 a0.f1))])), (1, (.one (.val (.int .i64 a1)))), (5, (.bptr l0 [(.val (.string ((List.getD a0.f0 (Int.toNat a1) (K_sisi.mk (⟨#[]⟩ : ByteArray) 0 (⟨#[]⟩ : ByteArray) 0)).f0))), (.val (.int .i64 ((List.getD a0.f0 (Int.toNat a1) (K_sisi.mk (⟨#[]⟩ : ByteArray) 0 (⟨#[]⟩ : ByteArray) 0)).f1))), (.val (.string ((List.getD a0.f0 (Int.toNat a1) (K_sisi.mk (⟨#[]⟩ : ByteArray) 0 (⟨#[]⟩ : ByteArray) 0)).f2))), (.val (.int .i64 ((List.getD a0.f0 (Int.toNat a1) (K_sisi.mk (⟨#[]⟩ : ByteArray) 0 (⟨#[]⟩ : ByteArray) 0)).f3)))])), (6, (.one (.val (.int .i64 (IntKind.wrap .i64 (i_40_0 + 1))))))], []⟩ .normal 54 (by kernel_rfl) (.f hc (.f (nt h_40_0_1) (.f (nt h_40_0_1) (.f (nt h_40_0_1) (.f (nt h_40_0_1) (.f (nt h_40_0_1) (.f (nt h_40_0_1) (.f (nt h_40_0_1) (.f (nt h_40_0_1) (.f (nt h_40_0_1) (.f (nt h_40_0_1) (.f (nt h_40_0_1) (.f (nt h_40_0_1) (.f (nt h_40_0_1) (.f (nt h_40_0_1) (.f trivial (.h 6 (.b true) (.h 19 (.b false) (.h 21 (.b false) (.h 23 (.b false) (.h 25 (.b false) (.h 27 (.b false) (.h 29 (.b false) (.h 31 (.b false) (.h 33 (.b false) (.h 35 (.b false) (.h 37 (.b false) (.h 39 (.b false) (.h 41 (.b false) (.h 43 (.b false) (.h 46 (.b false) .nil)))))))))))))))))))))))))))))))
      have ih := t40_0 (l0 := l0) (a0 := a0) (a1 := a1) hy0 hy1 hy2 hy3 n_40_0 (i_40_0 + 1)  (by omega) (by omega) (by first | omega | (simp only [List.length_map, List.length_set, List.length_append, List.length_replicate, List.length_cons, List.length_nil]; omega) | (simp only [List.length_map, List.length_set, List.length_append, List.length_replicate, List.length_cons, List.length_nil]; assumption) | assumption | (simp only [List.length_map, List.length_set, List.length_append, List.length_replicate, List.length_cons, List.length_nil] at *; omega))
      rw [show (⟨[(0, (.bptr l0 [(.sl (List.map b_sisi a0.f0)), (.val (.int .i64 a0.f1))])), (1, (.one (.val (.int .i64 a1)))), (5, (.bptr l0 [(.val (.string ((List.getD a0.f0 (Int.toNat a1) (K_sisi.mk (⟨#[]⟩ : ByteArray) 0 (⟨#[]⟩ : ByteArray) 0)).f0))), (.val (.int .i64 ((List.getD a0.f0 (Int.toNat a1) (K_sisi.mk (⟨#[]⟩ : ByteArray) 0 (⟨#[]⟩ : ByteArray) 0)).f1))), (.val (.string ((List.getD a0.f0 (Int.toNat a1) (K_sisi.mk (⟨#[]⟩ : ByteArray) 0 (⟨#[]⟩ : ByteArray) 0)).f2))), (.val (.int .i64 ((List.getD a0.f0 (Int.toNat a1) (K_sisi.mk (⟨#[]⟩ : ByteArray) 0 (⟨#[]⟩ : ByteArray) 0)).f3)))])), (6, (.one (.val (.int .i64 (IntKind.wrap .i64 (i_40_0 + 1))))))], []⟩ : St) = h40_0 l0 a0 a1 (i_40_0 + 1)  from by first | (unfold h40_0; simp only [hw]; done) | (unfold h40_0; simp only [hw, List.length_map, List.length_set, List.length_append, List.length_replicate, List.length_cons, List.length_nil]; done) | (unfold h40_0; simp [hw, byteRows_eq, ints_y, List.take_of_length_le, d_sisi, d_LsisiEi, d_i, d_b, d_s, d_iisiiii, d_iLsELiisiiiiELsisiEi, d_LsisiE, d_LsE, d_LiisiiiiE, d_y, fromBR_sisi, fromBR_i, fromBR_b, fromBR_s, fromBR_iisiiii, fromBR_y]; done)] at st
      exact .loopN st ih
/-! loop.example/g00539/spec.l10One -/
def m40 (a0 : K_LsisiEi) (a1 : Int) : Int :=
  if (!(m44 ((List.getD a0.f0 (Int.toNat a1) (K_sisi.mk (⟨#[]⟩ : ByteArray) 0 (⟨#[]⟩ : ByteArray) 0)).f0))) = true then 5 else
  if (!(m45 ((List.getD a0.f0 (Int.toNat a1) (K_sisi.mk (⟨#[]⟩ : ByteArray) 0 (⟨#[]⟩ : ByteArray) 0)).f2))) = true then 5 else
    if (!(m31 ((List.getD a0.f0 (Int.toNat a1) (K_sisi.mk (⟨#[]⟩ : ByteArray) 0 (⟨#[]⟩ : ByteArray) 0)).f1) (-1) 998)) = true then 3 else
      if (!(m31 ((List.getD a0.f0 (Int.toNat a1) (K_sisi.mk (⟨#[]⟩ : ByteArray) 0 (⟨#[]⟩ : ByteArray) 0)).f3) 1 9999)) = true then 3 else
        if (!(((List.getD a0.f0 (Int.toNat a1) (K_sisi.mk (⟨#[]⟩ : ByteArray) 0 (⟨#[]⟩ : ByteArray) 0)).f2).toList == (⟨#[]⟩ : ByteArray).toList)) = true then (if (decide (((List.getD a0.f0 (Int.toNat a1) (K_sisi.mk (⟨#[]⟩ : ByteArray) 0 (⟨#[]⟩ : ByteArray) 0)).f1) < 0)) = true then 1 else
            (match r40_0 a0 a1 (Int.toNat a1) 0 with | .k0 w0_40_0_28 w1_40_0_28 => 0 | .k1 => 6)) else
          (match r40_0 a0 a1 (Int.toNat a1) 0 with | .k0 w0_40_0_27 w1_40_0_27 => 0 | .k1 => 6)
theorem e40 {l0 : Nat} {a0 : K_LsisiEi} {a1 : Int} (hy0 : 0 ≤ a1) (hy1 : a1 < List.length a0.f0) (hy2 : List.length a0.f0 * 48 ≤ 140737488351232) (hy3 : ∀ z ∈ a0.f0, os_sisi z) : Ev F X (.call 40 [(.bptr l0 [(.sl (List.map b_sisi a0.f0)), (.val (.int .i64 a0.f1))]), (.one (.val (.int .i64 a1)))] [] [] [(.one (.val (.int .i64 (m40 a0 a1))))]) := by
  unfold m40
  have f0 : 0 ≤ a1 := (by first | exact True.intro | with_reducible rfl | with_reducible assumption | omega | (simp only [decide_eq_true_eq, List.length_map] at *; omega) | (simp only [decide_eq_true_eq] at *; omega) | (simp only [List.length_map, List.length_set, List.length_append, List.length_replicate, List.length_cons, List.length_nil]; omega) | (simp; omega) | (simp [List.take_of_length_le]; done) | assumption | trivial | (simp [*, byteRows_eq, ints_y]; done))
  have P0 {hs q} (r : PS F X hs q) := (PS.f f0 (.f (mp_ b_sisi (getD_at a0.f0 (Int.toNat a1) (K_sisi.mk (⟨#[]⟩ : ByteArray) 0 (⟨#[]⟩ : ByteArray) 0) (by first | exact True.intro | with_reducible rfl | with_reducible assumption | omega | (simp only [decide_eq_true_eq, List.length_map] at *; omega) | (simp only [decide_eq_true_eq] at *; omega) | (simp only [List.length_map]; omega) | (simp; omega) | (simp [List.take_of_length_le]; done) | assumption | trivial | (simp [*, byteRows_eq, ints_y]; done)))) (.h 13 (.row [(.val (.string ((List.getD a0.f0 (Int.toNat a1) (K_sisi.mk (⟨#[]⟩ : ByteArray) 0 (⟨#[]⟩ : ByteArray) 0)).f0))), (.val (.int .i64 ((List.getD a0.f0 (Int.toNat a1) (K_sisi.mk (⟨#[]⟩ : ByteArray) 0 (⟨#[]⟩ : ByteArray) 0)).f1))), (.val (.string ((List.getD a0.f0 (Int.toNat a1) (K_sisi.mk (⟨#[]⟩ : ByteArray) 0 (⟨#[]⟩ : ByteArray) 0)).f2))), (.val (.int .i64 ((List.getD a0.f0 (Int.toNat a1) (K_sisi.mk (⟨#[]⟩ : ByteArray) 0 (⟨#[]⟩ : ByteArray) 0)).f3)))]) (.r 25 [] [] (e44 (a0 := ((List.getD a0.f0 (Int.toNat a1) (K_sisi.mk (⟨#[]⟩ : ByteArray) 0 (⟨#[]⟩ : ByteArray) 0)).f0)) (by first | with_reducible assumption | omega | (simp only [decide_eq_true_eq, List.length_map] at *; omega) | (have q := gos_sisi (l := a0.f0) (by first | assumption | (intro z hz; exact (by assumption : ∀ z ∈ _, os_sisi z) z (List.mem_of_mem_take hz))) (Int.toNat a1) (K_sisi.mk (⟨#[]⟩ : ByteArray) 0 (⟨#[]⟩ : ByteArray) 0) (by simp [os_sisi, ByteArray.size]); first | exact q | exact q.1 | exact q.2 | exact q.2.1 | exact q.2.2 | exact Nat.le_trans q (by decide) | exact Nat.le_trans q.1 (by decide) | (have q1 := q.1; simp only [List.length_map]; omega)) | assumption | (simp only [List.length_cons, List.length_nil]; omega) | (simp; omega))) r))))
  by_cases h0 : (!(m44 ((List.getD a0.f0 (Int.toNat a1) (K_sisi.mk (⟨#[]⟩ : ByteArray) 0 (⟨#[]⟩ : ByteArray) 0)).f0))) = true
  · try simp only [if_pos h0]
    exact cp (by kernel_rfl) (P0 (.f h0 (.f h0 (.f h0 (.f h0 (.f h0 (.f h0 (.f h0 (.h 30 (.b true) (.h 32 (.b true) (.h 34 (.b true) (.h 36 (.b true) (.h 38 (.b true) (.h 40 (.b true) (.h 43 (.b true) .nil)))))))))))))))
  · try simp only [if_neg h0]
    have P1 {hs q} (r : PS F X hs q) := (P0 (.f (nt h0) (.f (nt h0) (.f (nt h0) (.f (nt h0) (.f (nt h0) (.h 30 (.b false) (.h 32 (.b false) (.h 34 (.b false) (.h 36 (.b false) (.h 38 (.b false) (.r 39 [] [] (e45 (a0 := ((List.getD a0.f0 (Int.toNat a1) (K_sisi.mk (⟨#[]⟩ : ByteArray) 0 (⟨#[]⟩ : ByteArray) 0)).f2)) (by first | with_reducible assumption | omega | (simp only [decide_eq_true_eq, List.length_map] at *; omega) | (have q := gos_sisi (l := a0.f0) (by first | assumption | (intro z hz; exact (by assumption : ∀ z ∈ _, os_sisi z) z (List.mem_of_mem_take hz))) (Int.toNat a1) (K_sisi.mk (⟨#[]⟩ : ByteArray) 0 (⟨#[]⟩ : ByteArray) 0) (by simp [os_sisi, ByteArray.size]); first | exact q | exact q.1 | exact q.2 | exact q.2.1 | exact q.2.2 | exact Nat.le_trans q (by decide) | exact Nat.le_trans q.1 (by decide) | (have q1 := q.1; simp only [List.length_map]; omega)) | assumption | (simp only [List.length_cons, List.length_nil]; omega) | (simp; omega))) (.f (nt h0) (.f (nt h0) (.h 40 (.b false) (.h 43 (.b false) r))))))))))))))))
    by_cases h1 : (!(m45 ((List.getD a0.f0 (Int.toNat a1) (K_sisi.mk (⟨#[]⟩ : ByteArray) 0 (⟨#[]⟩ : ByteArray) 0)).f2))) = true
    · try simp only [if_pos h1]
      exact cp (by kernel_rfl) (P1 (.f h1 (.h 44 (.b true) .nil)))
    · try simp only [if_neg h1]
      have P2 {hs q} (r : PS F X hs q) := (P1 (.f (nt h1) (.h 44 (.b false) (.r 54 [] [] (e31 (a0 := ((List.getD a0.f0 (Int.toNat a1) (K_sisi.mk (⟨#[]⟩ : ByteArray) 0 (⟨#[]⟩ : ByteArray) 0)).f1)) (a1 := (-1)) (a2 := 998)) r))))
      by_cases h2 : (!(m31 ((List.getD a0.f0 (Int.toNat a1) (K_sisi.mk (⟨#[]⟩ : ByteArray) 0 (⟨#[]⟩ : ByteArray) 0)).f1) (-1) 998)) = true
      · try simp only [if_pos h2]
        exact cp (by kernel_rfl) (P2 (.f h2 (.f h2 (.f h2 (.f h2 (.f h2 (.f h2 (.f h2 (.h 59 (.b true) (.h 61 (.b true) (.h 63 (.b true) (.h 65 (.b true) (.h 67 (.b true) (.h 69 (.b true) (.h 72 (.b true) .nil)))))))))))))))
      · try simp only [if_neg h2]
        have P3 {hs q} (r : PS F X hs q) := (P2 (.f (nt h2) (.f (nt h2) (.f (nt h2) (.f (nt h2) (.f (nt h2) (.h 59 (.b false) (.h 61 (.b false) (.h 63 (.b false) (.h 65 (.b false) (.h 67 (.b false) (.r 68 [] [] (e31 (a0 := ((List.getD a0.f0 (Int.toNat a1) (K_sisi.mk (⟨#[]⟩ : ByteArray) 0 (⟨#[]⟩ : ByteArray) 0)).f3)) (a1 := 1) (a2 := 9999)) (.f (nt h2) (.f (nt h2) (.h 69 (.b false) (.h 72 (.b false) r))))))))))))))))
        by_cases h3 : (!(m31 ((List.getD a0.f0 (Int.toNat a1) (K_sisi.mk (⟨#[]⟩ : ByteArray) 0 (⟨#[]⟩ : ByteArray) 0)).f3) 1 9999)) = true
        · try simp only [if_pos h3]
          exact cp (by kernel_rfl) (P3 (.f h3 (.h 73 (.b true) .nil)))
        · try simp only [if_neg h3]
          have P4 {hs q} (r : PS F X hs q) := (P3 (.f (nt h3) (.h 73 (.b false) r)))
          by_cases h4 : (!(((List.getD a0.f0 (Int.toNat a1) (K_sisi.mk (⟨#[]⟩ : ByteArray) 0 (⟨#[]⟩ : ByteArray) 0)).f2).toList == (⟨#[]⟩ : ByteArray).toList)) = true
          · try simp only [if_pos h4]
            have P5 {hs q} (r : PS F X hs q) := (P4 (.f h4 (.f h4 (.f h4 (.f h4 (.f h4 (.f h4 (.h 86 (.b true) (.h 88 (.b true) (.h 90 (.b true) (.h 92 (.b true) (.h 94 (.b true) (.h 97 (.b true) r)))))))))))))
            by_cases h5 : (decide (((List.getD a0.f0 (Int.toNat a1) (K_sisi.mk (⟨#[]⟩ : ByteArray) 0 (⟨#[]⟩ : ByteArray) 0)).f1) < 0)) = true
            · try simp only [if_pos h5]
              exact cp (by kernel_rfl) (P5 (.f h5 (.h 98 (.b true) .nil)))
            · try simp only [if_neg h5]
              cases h6 : r40_0 a0 a1 (Int.toNat a1) 0 with
              | k0 w0_40_0_28 w1_40_0_28 =>
                try dsimp only
                have f29 : (⟨[(0, (.bptr l0 [(.sl (List.map b_sisi a0.f0)), (.val (.int .i64 a0.f1))])), (1, (.one (.val (.int .i64 a1)))), (5, (.bptr l0 [(.val (.string ((List.getD a0.f0 (Int.toNat a1) (K_sisi.mk (⟨#[]⟩ : ByteArray) 0 (⟨#[]⟩ : ByteArray) 0)).f0))), (.val (.int .i64 ((List.getD a0.f0 (Int.toNat a1) (K_sisi.mk (⟨#[]⟩ : ByteArray) 0 (⟨#[]⟩ : ByteArray) 0)).f1))), (.val (.string ((List.getD a0.f0 (Int.toNat a1) (K_sisi.mk (⟨#[]⟩ : ByteArray) 0 (⟨#[]⟩ : ByteArray) 0)).f2))), (.val (.int .i64 ((List.getD a0.f0 (Int.toNat a1) (K_sisi.mk (⟨#[]⟩ : ByteArray) 0 (⟨#[]⟩ : ByteArray) 0)).f3)))])), (6, (.one (.val (.int .i64 0))))], []⟩ : St) = h40_0 l0 a0 a1 0  := (by first | rfl | (unfold h40_0; simp [byteRows_eq, ints_y, List.take_of_length_le, d_sisi, d_LsisiEi, d_i, d_b, d_s, d_iisiiii, d_iLsELiisiiiiELsisiEi, d_LsisiE, d_LsE, d_LiisiiiiE, d_y, fromBR_sisi, fromBR_i, fromBR_b, fromBR_s, fromBR_iisiiii, fromBR_y]; done))
                exact cp (by kernel_rfl) (P5 (.f (nt h5) (.f f29 (.f (ev_ (e := ex40_0) (g := (fin40_0 l0 a0 a1)) h6 (t40_0 (l0 := l0) (a0 := a0) (a1 := a1) (by first | assumption | omega | (simp only [decide_eq_true_eq, List.length_map] at *; omega)) (by first | assumption | omega | (simp only [decide_eq_true_eq, List.length_map] at *; omega)) (by first | assumption | omega | (simp only [decide_eq_true_eq, List.length_map] at *; omega)) (by first | assumption | omega | (simp only [decide_eq_true_eq, List.length_map] at *; omega)) _ 0  (by omega) (by omega) (by first | rfl | omega | (simp only [List.length_map, List.length_set, List.length_append, List.length_replicate, List.length_cons, List.length_nil]; done) | (simp only [List.length_map, List.length_set, List.length_append, List.length_replicate, List.length_cons, List.length_nil]; omega) | (simp; done)))) (.h 98 (.b false) (.h 101 (.loop (h40_0 l0 a0 a1 0 ) (.exit 0) ⟨[(0, (.bptr l0 [(.sl (List.map b_sisi a0.f0)), (.val (.int .i64 a0.f1))])), (1, (.one (.val (.int .i64 a1)))), (5, (.bptr l0 [(.val (.string ((List.getD a0.f0 (Int.toNat a1) (K_sisi.mk (⟨#[]⟩ : ByteArray) 0 (⟨#[]⟩ : ByteArray) 0)).f0))), (.val (.int .i64 ((List.getD a0.f0 (Int.toNat a1) (K_sisi.mk (⟨#[]⟩ : ByteArray) 0 (⟨#[]⟩ : ByteArray) 0)).f1))), (.val (.string ((List.getD a0.f0 (Int.toNat a1) (K_sisi.mk (⟨#[]⟩ : ByteArray) 0 (⟨#[]⟩ : ByteArray) 0)).f2))), (.val (.int .i64 ((List.getD a0.f0 (Int.toNat a1) (K_sisi.mk (⟨#[]⟩ : ByteArray) 0 (⟨#[]⟩ : ByteArray) 0)).f3)))])), (6, (.one (.val (.int .i64 w0_40_0_28)))), (55, (.one (.val (.bool w1_40_0_28))))], []⟩) .nil))))))
              | k1 =>
                try dsimp only
                have f29 : (⟨[(0, (.bptr l0 [(.sl (List.map b_sisi a0.f0)), (.val (.int .i64 a0.f1))])), (1, (.one (.val (.int .i64 a1)))), (5, (.bptr l0 [(.val (.string ((List.getD a0.f0 (Int.toNat a1) (K_sisi.mk (⟨#[]⟩ : ByteArray) 0 (⟨#[]⟩ : ByteArray) 0)).f0))), (.val (.int .i64 ((List.getD a0.f0 (Int.toNat a1) (K_sisi.mk (⟨#[]⟩ : ByteArray) 0 (⟨#[]⟩ : ByteArray) 0)).f1))), (.val (.string ((List.getD a0.f0 (Int.toNat a1) (K_sisi.mk (⟨#[]⟩ : ByteArray) 0 (⟨#[]⟩ : ByteArray) 0)).f2))), (.val (.int .i64 ((List.getD a0.f0 (Int.toNat a1) (K_sisi.mk (⟨#[]⟩ : ByteArray) 0 (⟨#[]⟩ : ByteArray) 0)).f3)))])), (6, (.one (.val (.int .i64 0))))], []⟩ : St) = h40_0 l0 a0 a1 0  := (by first | rfl | (unfold h40_0; simp [byteRows_eq, ints_y, List.take_of_length_le, d_sisi, d_LsisiEi, d_i, d_b, d_s, d_iisiiii, d_iLsELiisiiiiELsisiEi, d_LsisiE, d_LsE, d_LiisiiiiE, d_y, fromBR_sisi, fromBR_i, fromBR_b, fromBR_s, fromBR_iisiiii, fromBR_y]; done))
                exact cp (by kernel_rfl) (P5 (.f (nt h5) (.f f29 (.f (ev_ (e := ex40_0) (g := (fin40_0 l0 a0 a1)) h6 (t40_0 (l0 := l0) (a0 := a0) (a1 := a1) (by first | assumption | omega | (simp only [decide_eq_true_eq, List.length_map] at *; omega)) (by first | assumption | omega | (simp only [decide_eq_true_eq, List.length_map] at *; omega)) (by first | assumption | omega | (simp only [decide_eq_true_eq, List.length_map] at *; omega)) (by first | assumption | omega | (simp only [decide_eq_true_eq, List.length_map] at *; omega)) _ 0  (by omega) (by omega) (by first | rfl | omega | (simp only [List.length_map, List.length_set, List.length_append, List.length_replicate, List.length_cons, List.length_nil]; done) | (simp only [List.length_map, List.length_set, List.length_append, List.length_replicate, List.length_cons, List.length_nil]; omega) | (simp; done)))) (.h 98 (.b false) (.h 101 (.loop (h40_0 l0 a0 a1 0 ) .ret ⟨[(4, (.one (.val (.int .i64 6))))], []⟩) .nil))))))
          · try simp only [if_neg h4]
            have P5 {hs q} (r : PS F X hs q) := (P4 (.f (nt h4) (.f (nt h4) (.f (nt h4) (.f (nt h4) (.f (nt h4) (.f (nt h4) (.h 86 (.b false) (.h 88 (.b false) (.h 90 (.b false) (.h 92 (.b false) (.h 94 (.b false) (.h 97 (.b false) r)))))))))))))
            cases h5 : r40_0 a0 a1 (Int.toNat a1) 0 with
            | k0 w0_40_0_27 w1_40_0_27 =>
              try dsimp only
              have f28 : (⟨[(0, (.bptr l0 [(.sl (List.map b_sisi a0.f0)), (.val (.int .i64 a0.f1))])), (1, (.one (.val (.int .i64 a1)))), (5, (.bptr l0 [(.val (.string ((List.getD a0.f0 (Int.toNat a1) (K_sisi.mk (⟨#[]⟩ : ByteArray) 0 (⟨#[]⟩ : ByteArray) 0)).f0))), (.val (.int .i64 ((List.getD a0.f0 (Int.toNat a1) (K_sisi.mk (⟨#[]⟩ : ByteArray) 0 (⟨#[]⟩ : ByteArray) 0)).f1))), (.val (.string ((List.getD a0.f0 (Int.toNat a1) (K_sisi.mk (⟨#[]⟩ : ByteArray) 0 (⟨#[]⟩ : ByteArray) 0)).f2))), (.val (.int .i64 ((List.getD a0.f0 (Int.toNat a1) (K_sisi.mk (⟨#[]⟩ : ByteArray) 0 (⟨#[]⟩ : ByteArray) 0)).f3)))])), (6, (.one (.val (.int .i64 0))))], []⟩ : St) = h40_0 l0 a0 a1 0  := (by first | rfl | (unfold h40_0; simp [byteRows_eq, ints_y, List.take_of_length_le, d_sisi, d_LsisiEi, d_i, d_b, d_s, d_iisiiii, d_iLsELiisiiiiELsisiEi, d_LsisiE, d_LsE, d_LiisiiiiE, d_y, fromBR_sisi, fromBR_i, fromBR_b, fromBR_s, fromBR_iisiiii, fromBR_y]; done))
              exact cp (by kernel_rfl) (P5 (.f f28 (.f (ev_ (e := ex40_0) (g := (fin40_0 l0 a0 a1)) h5 (t40_0 (l0 := l0) (a0 := a0) (a1 := a1) (by first | assumption | omega | (simp only [decide_eq_true_eq, List.length_map] at *; omega)) (by first | assumption | omega | (simp only [decide_eq_true_eq, List.length_map] at *; omega)) (by first | assumption | omega | (simp only [decide_eq_true_eq, List.length_map] at *; omega)) (by first | assumption | omega | (simp only [decide_eq_true_eq, List.length_map] at *; omega)) _ 0  (by omega) (by omega) (by first | rfl | omega | (simp only [List.length_map, List.length_set, List.length_append, List.length_replicate, List.length_cons, List.length_nil]; done) | (simp only [List.length_map, List.length_set, List.length_append, List.length_replicate, List.length_cons, List.length_nil]; omega) | (simp; done)))) (.h 101 (.loop (h40_0 l0 a0 a1 0 ) (.exit 0) ⟨[(0, (.bptr l0 [(.sl (List.map b_sisi a0.f0)), (.val (.int .i64 a0.f1))])), (1, (.one (.val (.int .i64 a1)))), (5, (.bptr l0 [(.val (.string ((List.getD a0.f0 (Int.toNat a1) (K_sisi.mk (⟨#[]⟩ : ByteArray) 0 (⟨#[]⟩ : ByteArray) 0)).f0))), (.val (.int .i64 ((List.getD a0.f0 (Int.toNat a1) (K_sisi.mk (⟨#[]⟩ : ByteArray) 0 (⟨#[]⟩ : ByteArray) 0)).f1))), (.val (.string ((List.getD a0.f0 (Int.toNat a1) (K_sisi.mk (⟨#[]⟩ : ByteArray) 0 (⟨#[]⟩ : ByteArray) 0)).f2))), (.val (.int .i64 ((List.getD a0.f0 (Int.toNat a1) (K_sisi.mk (⟨#[]⟩ : ByteArray) 0 (⟨#[]⟩ : ByteArray) 0)).f3)))])), (6, (.one (.val (.int .i64 w0_40_0_27)))), (55, (.one (.val (.bool w1_40_0_27))))], []⟩) .nil))))
            | k1 =>
              try dsimp only
              have f28 : (⟨[(0, (.bptr l0 [(.sl (List.map b_sisi a0.f0)), (.val (.int .i64 a0.f1))])), (1, (.one (.val (.int .i64 a1)))), (5, (.bptr l0 [(.val (.string ((List.getD a0.f0 (Int.toNat a1) (K_sisi.mk (⟨#[]⟩ : ByteArray) 0 (⟨#[]⟩ : ByteArray) 0)).f0))), (.val (.int .i64 ((List.getD a0.f0 (Int.toNat a1) (K_sisi.mk (⟨#[]⟩ : ByteArray) 0 (⟨#[]⟩ : ByteArray) 0)).f1))), (.val (.string ((List.getD a0.f0 (Int.toNat a1) (K_sisi.mk (⟨#[]⟩ : ByteArray) 0 (⟨#[]⟩ : ByteArray) 0)).f2))), (.val (.int .i64 ((List.getD a0.f0 (Int.toNat a1) (K_sisi.mk (⟨#[]⟩ : ByteArray) 0 (⟨#[]⟩ : ByteArray) 0)).f3)))])), (6, (.one (.val (.int .i64 0))))], []⟩ : St) = h40_0 l0 a0 a1 0  := (by first | rfl | (unfold h40_0; simp [byteRows_eq, ints_y, List.take_of_length_le, d_sisi, d_LsisiEi, d_i, d_b, d_s, d_iisiiii, d_iLsELiisiiiiELsisiEi, d_LsisiE, d_LsE, d_LiisiiiiE, d_y, fromBR_sisi, fromBR_i, fromBR_b, fromBR_s, fromBR_iisiiii, fromBR_y]; done))
              exact cp (by kernel_rfl) (P5 (.f f28 (.f (ev_ (e := ex40_0) (g := (fin40_0 l0 a0 a1)) h5 (t40_0 (l0 := l0) (a0 := a0) (a1 := a1) (by first | assumption | omega | (simp only [decide_eq_true_eq, List.length_map] at *; omega)) (by first | assumption | omega | (simp only [decide_eq_true_eq, List.length_map] at *; omega)) (by first | assumption | omega | (simp only [decide_eq_true_eq, List.length_map] at *; omega)) (by first | assumption | omega | (simp only [decide_eq_true_eq, List.length_map] at *; omega)) _ 0  (by omega) (by omega) (by first | rfl | omega | (simp only [List.length_map, List.length_set, List.length_append, List.length_replicate, List.length_cons, List.length_nil]; done) | (simp only [List.length_map, List.length_set, List.length_append, List.length_replicate, List.length_cons, List.length_nil]; omega) | (simp; done)))) (.h 101 (.loop (h40_0 l0 a0 a1 0 ) .ret ⟨[(4, (.one (.val (.int .i64 6))))], []⟩) .nil))))
/-! loop 30_0 -/
inductive O30_0 where
  | k0 (w0 : Int) (w1 : Bool)
  | k1 (w0 : Int)
def r30_0 (a0 : K_LsisiEi) : List K_sisi → Int → O30_0
  | x0_30_0 :: l0_30_0, i_30_0 =>
    if ((m40 a0 i_30_0) != 0) = true then (O30_0.k1 (m40 a0 i_30_0)) else
    (r30_0 a0 l0_30_0 (i_30_0 + 1) )
  | [], i_30_0 => (O30_0.k0 i_30_0 (decide (i_30_0 < ((List.length (List.map b_sisi a0.f0)) : Int))))
def h30_0 (l0 : Nat) (a0 : K_LsisiEi) (i_30_0 : Int)  : St := ⟨[(0, (.bptr l0 [(.sl (List.map b_sisi a0.f0)), (.val (.int .i64 a0.f1))])), (3, (.one (.val (.int .i64 i_30_0))))], []⟩
def ex30_0 : O30_0 → VX.Exit
  | .k0 _ _ => (.exit 0)
  | .k1 _ => .ret
def fin30_0 (l0 : Nat) (a0 : K_LsisiEi) : O30_0 → St
  | .k0 w0 w1 => ⟨[(0, (.bptr l0 [(.sl (List.map b_sisi a0.f0)), (.val (.int .i64 a0.f1))])), (3, (.one (.val (.int .i64 w0)))), (18, (.one (.val (.bool w1))))], []⟩
  | .k1 w0 => ⟨[(2, (.one (.val (.int .i64 w0))))], []⟩
theorem t30_0 {l0 : Nat} {a0 : K_LsisiEi} (hy0 : List.length a0.f0 * 48 ≤ 140737488351232) (hy1 : ∀ z ∈ a0.f0, os_sisi z) : ∀ (l0_30_0 : List K_sisi) (p_30_0 : List K_sisi) , p_30_0 ++ l0_30_0 = a0.f0 → Ev F X (.code l30_0 (h30_0 l0 a0 (List.length p_30_0 : Int) ) (ex30_0 (r30_0 a0 l0_30_0 (List.length p_30_0 : Int) )) (fin30_0 l0 a0 (r30_0 a0 l0_30_0 (List.length p_30_0 : Int) )))
  | [], p_30_0, hp0 => by
    have hc : ¬ (decide ((List.length p_30_0 : Int) < ((List.length (List.map b_sisi a0.f0)) : Int))) = true := by
      rw [← hp0]; simp only [List.length_map, List.length_set, List.length_append, List.length_replicate, List.length_cons, List.length_nil, decide_eq_true_eq]; omega
    have st := ch b30_0 (h30_0 l0 a0 (List.length p_30_0 : Int) ) ⟨[(0, (.bptr l0 [(.sl (List.map b_sisi a0.f0)), (.val (.int .i64 a0.f1))])), (3, (.one (.val (.int .i64 (List.length p_30_0 : Int))))), (18, (.one (.val (.bool (decide ((List.length p_30_0 : Int) < ((List.length (List.map b_sisi a0.f0)) : Int)))))))], []⟩ (.exit 0) 15 (by kernel_rfl) (.f (nt hc) (.h 14 (.b false) .nil))
    rw [show (⟨[(0, (.bptr l0 [(.sl (List.map b_sisi a0.f0)), (.val (.int .i64 a0.f1))])), (3, (.one (.val (.int .i64 (List.length p_30_0 : Int))))), (18, (.one (.val (.bool (decide ((List.length p_30_0 : Int) < ((List.length (List.map b_sisi a0.f0)) : Int)))))))], []⟩ : St) = fin30_0 l0 a0 (.k0 (List.length p_30_0 : Int) (decide ((List.length p_30_0 : Int) < ((List.length (List.map b_sisi a0.f0)) : Int)))) from by first | rfl | (unfold fin30_0; simp [byteRows_eq, ints_y, List.take_of_length_le, d_sisi, d_LsisiEi, d_i, d_b, d_s, d_iisiiii, d_iLsELiisiiiiELsisiEi, d_LsisiE, d_LsE, d_LiisiiiiE, d_y, fromBR_sisi, fromBR_i, fromBR_b, fromBR_s, fromBR_iisiiii, fromBR_y]; done)] at st
    exact .loopX st (show ((.exit 0) : VX.Exit) ≠ .normal from by simp)
  | x0_30_0 :: l0_30_0, p_30_0, hp0 => by
    have hc : (decide ((List.length p_30_0 : Int) < ((List.length (List.map b_sisi a0.f0)) : Int))) = true := by
      rw [← hp0]; simp only [List.length_map, List.length_set, List.length_append, List.length_replicate, List.length_cons, List.length_nil, decide_eq_true_eq]; omega
    have Hx0_30_0 : (a0.f0)[Int.toNat (List.length p_30_0 : Int)]? = some x0_30_0 := by
      rw [← hp0, Int.toNat_natCast]; simp
    obtain ⟨Mx0_30_0_0, Mx0_30_0_1⟩ := hy1 x0_30_0 (List.mem_of_getElem? Hx0_30_0)
    have hlen : List.length (a0.f0) = List.length p_30_0 + List.length l0_30_0 + 1 := by rw [← hp0]; simp; omega
    have hw : IntKind.wrap .i64 ((List.length p_30_0 : Int) + 1) = (List.length p_30_0 : Int) + 1 := wrap64 (by omega)
    simp only [r30_0]
    have P1 {hs q} (r : PS F X hs q) := (PS.f hc (.h 14 (.b true) (.r 20 [] [] (e40 (l0 := (l0 + 1)) (a0 := a0) (a1 := (List.length p_30_0 : Int)) (by first | exact True.intro | with_reducible rfl | with_reducible assumption | omega | (simp only [decide_eq_true_eq] at *; omega) | (simp only [List.length_map, List.length_set, List.length_append, List.length_replicate, List.length_cons, List.length_nil]; omega) | (simp; omega) | (simp [List.take_of_length_le]; done) | assumption | trivial | (simp [*, byteRows_eq, ints_y]; done)) (by first | exact True.intro | with_reducible rfl | with_reducible assumption | omega | (simp only [decide_eq_true_eq] at *; omega) | (simp only [List.length_map]; omega) | (simp; omega) | (simp [List.take_of_length_le]; done) | assumption | trivial | (simp [*, byteRows_eq, ints_y]; done)) (by first | with_reducible assumption | omega | assumption | (simp only [List.length_map]; omega) | (simp; omega)) (by first | exact True.intro | with_reducible rfl | with_reducible assumption | omega | (simp only [List.length_map, List.length_set, List.length_append, List.length_replicate, List.length_cons, List.length_nil]; omega) | (simp; done) | (simp; omega) | (simp [List.take_of_length_le]; done) | (simp [← List.map_take, ← List.map_drop]; done) | assumption | trivial | (simp [*, byteRows_eq, ints_y]; done))) r)))
    by_cases h_30_0_1 : ((m40 a0 (List.length p_30_0 : Int)) != 0) = true
    · try simp only [if_pos h_30_0_1]
      have st := ch b30_0 (h30_0 l0 a0 (List.length p_30_0 : Int) ) ⟨[(2, (.one (.val (.int .i64 (m40 a0 (List.length p_30_0 : Int))))))], []⟩ .ret 32 (by kernel_rfl) (P1 (.f h_30_0_1 (.h 27 (.b true) .nil)))
      rw [show (⟨[(2, (.one (.val (.int .i64 (m40 a0 (List.length p_30_0 : Int))))))], []⟩ : St) = fin30_0 l0 a0 (.k1 (m40 a0 (List.length p_30_0 : Int))) from by first | rfl | (unfold fin30_0; simp [byteRows_eq, ints_y, List.take_of_length_le, d_sisi, d_LsisiEi, d_i, d_b, d_s, d_iisiiii, d_iLsELiisiiiiELsisiEi, d_LsisiE, d_LsE, d_LiisiiiiE, d_y, fromBR_sisi, fromBR_i, fromBR_b, fromBR_s, fromBR_iisiiii, fromBR_y]; done)] at st
      exact .loopX st (show (.ret : VX.Exit) ≠ .normal from by simp)
    · try simp only [if_neg h_30_0_1]
      have st := ch b30_0 (h30_0 l0 a0 (List.length p_30_0 : Int) ) ⟨[(0, (.bptr l0 [(.sl (List.map b_sisi a0.f0)), (.val (.int .i64 a0.f1))])), (3, (.one (.val (.int .i64 (IntKind.wrap .i64 ((List.length p_30_0 : Int) + 1))))))], []⟩ .normal 34 (by kernel_rfl) (P1 (.f (nt h_30_0_1) (.f trivial (.h 27 (.b false) .nil))))
      have ih := t30_0 (l0 := l0) (a0 := a0) hy0 hy1 l0_30_0 (p_30_0 ++ [x0_30_0])  (by rw [List.append_assoc]; exact hp0)
      rw [show ((p_30_0 ++ [x0_30_0]).length : Int) = (p_30_0.length : Int) + 1 from by simp] at ih
      rw [show (⟨[(0, (.bptr l0 [(.sl (List.map b_sisi a0.f0)), (.val (.int .i64 a0.f1))])), (3, (.one (.val (.int .i64 (IntKind.wrap .i64 ((List.length p_30_0 : Int) + 1))))))], []⟩ : St) = h30_0 l0 a0 ((List.length p_30_0 : Int) + 1)  from by first | (unfold h30_0; simp only [hw]; done) | (unfold h30_0; simp only [hw, List.length_map, List.length_set, List.length_append, List.length_replicate, List.length_cons, List.length_nil]; done) | (unfold h30_0; simp [hw, byteRows_eq, ints_y, List.take_of_length_le, d_sisi, d_LsisiEi, d_i, d_b, d_s, d_iisiiii, d_iLsELiisiiiiELsisiEi, d_LsisiE, d_LsE, d_LiisiiiiE, d_y, fromBR_sisi, fromBR_i, fromBR_b, fromBR_s, fromBR_iisiiii, fromBR_y]; done)] at st
      exact .loopN st ih
/-! loop 30_1 -/
inductive O30_1 where
  | k0 (w0 : Int) (w1 : Bool)
  | k1
def r30_1 (a0 : K_LsisiEi) : List K_sisi → Int → O30_1
  | x0_30_1 :: l0_30_1, i_30_1 =>
    if (decide (x0_30_1.f1 ≥ a0.f1)) = true then (O30_1.k1) else
    (r30_1 a0 l0_30_1 (i_30_1 + 1) )
  | [], i_30_1 => (O30_1.k0 i_30_1 (decide (i_30_1 < ((List.length (List.map b_sisi a0.f0)) : Int))))
def h30_1 (l0 : Nat) (a0 : K_LsisiEi) (i_30_1 : Int)  : St := ⟨[(0, (.bptr l0 [(.sl (List.map b_sisi a0.f0)), (.val (.int .i64 a0.f1))])), (5, (.one (.val (.int .i64 i_30_1))))], []⟩
def ex30_1 : O30_1 → VX.Exit
  | .k0 _ _ => (.exit 2)
  | .k1 => .ret
def fin30_1 (l0 : Nat) (a0 : K_LsisiEi) : O30_1 → St
  | .k0 w0 w1 => ⟨[(0, (.bptr l0 [(.sl (List.map b_sisi a0.f0)), (.val (.int .i64 a0.f1))])), (5, (.one (.val (.int .i64 w0)))), (39, (.one (.val (.bool w1))))], []⟩
  | .k1 => ⟨[(2, (.one (.val (.int .i64 3))))], []⟩
theorem t30_1 {l0 : Nat} {a0 : K_LsisiEi} (hy0 : List.length a0.f0 * 48 ≤ 140737488351232) (hy1 : ∀ z ∈ a0.f0, os_sisi z) : ∀ (l0_30_1 : List K_sisi) (p_30_1 : List K_sisi) , p_30_1 ++ l0_30_1 = a0.f0 → Ev F X (.code l30_1 (h30_1 l0 a0 (List.length p_30_1 : Int) ) (ex30_1 (r30_1 a0 l0_30_1 (List.length p_30_1 : Int) )) (fin30_1 l0 a0 (r30_1 a0 l0_30_1 (List.length p_30_1 : Int) )))
  | [], p_30_1, hp0 => by
    have hc : ¬ (decide ((List.length p_30_1 : Int) < ((List.length (List.map b_sisi a0.f0)) : Int))) = true := by
      rw [← hp0]; simp only [List.length_map, List.length_set, List.length_append, List.length_replicate, List.length_cons, List.length_nil, decide_eq_true_eq]; omega
    have st := ch b30_1 (h30_1 l0 a0 (List.length p_30_1 : Int) ) ⟨[(0, (.bptr l0 [(.sl (List.map b_sisi a0.f0)), (.val (.int .i64 a0.f1))])), (5, (.one (.val (.int .i64 (List.length p_30_1 : Int))))), (39, (.one (.val (.bool (decide ((List.length p_30_1 : Int) < ((List.length (List.map b_sisi a0.f0)) : Int)))))))], []⟩ (.exit 2) 15 (by kernel_rfl) (.f (nt hc) (.h 14 (.b false) .nil))
    rw [show (⟨[(0, (.bptr l0 [(.sl (List.map b_sisi a0.f0)), (.val (.int .i64 a0.f1))])), (5, (.one (.val (.int .i64 (List.length p_30_1 : Int))))), (39, (.one (.val (.bool (decide ((List.length p_30_1 : Int) < ((List.length (List.map b_sisi a0.f0)) : Int)))))))], []⟩ : St) = fin30_1 l0 a0 (.k0 (List.length p_30_1 : Int) (decide ((List.length p_30_1 : Int) < ((List.length (List.map b_sisi a0.f0)) : Int)))) from by first | rfl | (unfold fin30_1; simp [byteRows_eq, ints_y, List.take_of_length_le, d_sisi, d_LsisiEi, d_i, d_b, d_s, d_iisiiii, d_iLsELiisiiiiELsisiEi, d_LsisiE, d_LsE, d_LiisiiiiE, d_y, fromBR_sisi, fromBR_i, fromBR_b, fromBR_s, fromBR_iisiiii, fromBR_y]; done)] at st
    exact .loopX st (show ((.exit 2) : VX.Exit) ≠ .normal from by simp)
  | x0_30_1 :: l0_30_1, p_30_1, hp0 => by
    have hc : (decide ((List.length p_30_1 : Int) < ((List.length (List.map b_sisi a0.f0)) : Int))) = true := by
      rw [← hp0]; simp only [List.length_map, List.length_set, List.length_append, List.length_replicate, List.length_cons, List.length_nil, decide_eq_true_eq]; omega
    have Hx0_30_1 : (a0.f0)[Int.toNat (List.length p_30_1 : Int)]? = some x0_30_1 := by
      rw [← hp0, Int.toNat_natCast]; simp
    obtain ⟨Mx0_30_1_0, Mx0_30_1_1⟩ := hy1 x0_30_1 (List.mem_of_getElem? Hx0_30_1)
    have hlen : List.length (a0.f0) = List.length p_30_1 + List.length l0_30_1 + 1 := by rw [← hp0]; simp; omega
    have hw : IntKind.wrap .i64 ((List.length p_30_1 : Int) + 1) = (List.length p_30_1 : Int) + 1 := wrap64 (by omega)
    simp only [r30_1]
    have f1 : 0 ≤ (List.length p_30_1 : Int) := (by first | exact True.intro | with_reducible rfl | with_reducible assumption | omega | (simp only [decide_eq_true_eq] at *; omega) | (simp only [List.length_map, List.length_set, List.length_append, List.length_replicate, List.length_cons, List.length_nil]; omega) | (simp; omega) | (simp [List.take_of_length_le]; done) | assumption | trivial | (simp [*, byteRows_eq, ints_y]; done))
    have P1 {hs q} (r : PS F X hs q) := (PS.f hc (.f f1 (.f (mp_ b_sisi Hx0_30_1) (.h 14 (.b true) (.h 26 (.row [(.val (.string x0_30_1.f0)), (.val (.int .i64 x0_30_1.f1)), (.val (.string x0_30_1.f2)), (.val (.int .i64 x0_30_1.f3))]) r)))))
    by_cases h_30_1_1 : (decide (x0_30_1.f1 ≥ a0.f1)) = true
    · try simp only [if_pos h_30_1_1]
      have st := ch b30_1 (h30_1 l0 a0 (List.length p_30_1 : Int) ) ⟨[(2, (.one (.val (.int .i64 3))))], []⟩ .ret 44 (by kernel_rfl) (P1 (.f h_30_1_1 (.h 41 (.b true) .nil)))
      rw [show (⟨[(2, (.one (.val (.int .i64 3))))], []⟩ : St) = fin30_1 l0 a0 (.k1) from by first | rfl | (unfold fin30_1; simp [byteRows_eq, ints_y, List.take_of_length_le, d_sisi, d_LsisiEi, d_i, d_b, d_s, d_iisiiii, d_iLsELiisiiiiELsisiEi, d_LsisiE, d_LsE, d_LiisiiiiE, d_y, fromBR_sisi, fromBR_i, fromBR_b, fromBR_s, fromBR_iisiiii, fromBR_y]; done)] at st
      exact .loopX st (show (.ret : VX.Exit) ≠ .normal from by simp)
    · try simp only [if_neg h_30_1_1]
      have st := ch b30_1 (h30_1 l0 a0 (List.length p_30_1 : Int) ) ⟨[(0, (.bptr l0 [(.sl (List.map b_sisi a0.f0)), (.val (.int .i64 a0.f1))])), (5, (.one (.val (.int .i64 (IntKind.wrap .i64 ((List.length p_30_1 : Int) + 1))))))], []⟩ .normal 48 (by kernel_rfl) (P1 (.f (nt h_30_1_1) (.f trivial (.h 41 (.b false) .nil))))
      have ih := t30_1 (l0 := l0) (a0 := a0) hy0 hy1 l0_30_1 (p_30_1 ++ [x0_30_1])  (by rw [List.append_assoc]; exact hp0)
      rw [show ((p_30_1 ++ [x0_30_1]).length : Int) = (p_30_1.length : Int) + 1 from by simp] at ih
      rw [show (⟨[(0, (.bptr l0 [(.sl (List.map b_sisi a0.f0)), (.val (.int .i64 a0.f1))])), (5, (.one (.val (.int .i64 (IntKind.wrap .i64 ((List.length p_30_1 : Int) + 1))))))], []⟩ : St) = h30_1 l0 a0 ((List.length p_30_1 : Int) + 1)  from by first | (unfold h30_1; simp only [hw]; done) | (unfold h30_1; simp only [hw, List.length_map, List.length_set, List.length_append, List.length_replicate, List.length_cons, List.length_nil]; done) | (unfold h30_1; simp [hw, byteRows_eq, ints_y, List.take_of_length_le, d_sisi, d_LsisiEi, d_i, d_b, d_s, d_iisiiii, d_iLsELiisiiiiELsisiEi, d_LsisiE, d_LsE, d_LiisiiiiE, d_y, fromBR_sisi, fromBR_i, fromBR_b, fromBR_s, fromBR_iisiiii, fromBR_y]; done)] at st
      exact .loopN st ih
/-! loop.example/g00539/spec.l10Fault -/
def m30 (a0 : K_LsisiEi) : Int :=
  if (decide (((List.length (List.map b_sisi a0.f0)) : Int) > 4)) = true then 2 else
  (match r30_0 a0 a0.f0 0 with | .k0 w0_30_0_1 w1_30_0_1 => (if (!(m31 a0.f1 0 999)) = true then 3 else (match r30_1 a0 a0.f0 0 with | .k0 w0_30_1_4 w1_30_1_4 => 0 | .k1 => 3)) | .k1 w0_30_0_1 => w0_30_0_1)
theorem e30 {l0 : Nat} {a0 : K_LsisiEi} (hy0 : List.length a0.f0 * 48 ≤ 140737488351232) (hy1 : ∀ z ∈ a0.f0, os_sisi z) : Ev F X (.call 30 [(.bptr l0 [(.sl (List.map b_sisi a0.f0)), (.val (.int .i64 a0.f1))])] [] [] [(.one (.val (.int .i64 (m30 a0))))]) := by
  unfold m30
  by_cases h0 : (decide (((List.length (List.map b_sisi a0.f0)) : Int) > 4)) = true
  · try simp only [if_pos h0]
    exact cp (by kernel_rfl) (.f h0 (.h 14 (.b true) .nil))
  · try simp only [if_neg h0]
    have P1 {hs q} (r : PS F X hs q) := (PS.f (nt h0) (.h 14 (.b false) r))
    cases h1 : r30_0 a0 a0.f0 0 with
    | k0 w0_30_0_1 w1_30_0_1 =>
      try dsimp only
      have f1 : (⟨[(0, (.bptr l0 [(.sl (List.map b_sisi a0.f0)), (.val (.int .i64 a0.f1))])), (3, (.one (.val (.int .i64 0))))], []⟩ : St) = h30_0 l0 a0 0  := (by first | rfl | (unfold h30_0; simp [byteRows_eq, ints_y, List.take_of_length_le, d_sisi, d_LsisiEi, d_i, d_b, d_s, d_iisiiii, d_iLsELiisiiiiELsisiEi, d_LsisiE, d_LsE, d_LiisiiiiE, d_y, fromBR_sisi, fromBR_i, fromBR_b, fromBR_s, fromBR_iisiiii, fromBR_y]; done))
      have P2 {hs q} (r : PS F X hs q) := (P1 (.f f1 (.f (ev_ (e := ex30_0) (g := (fin30_0 l0 a0)) h1 (t30_0 (l0 := l0) (a0 := a0) (by first | assumption | omega) (by first | assumption | omega) a0.f0 []  rfl)) (.h 17 (.loop (h30_0 l0 a0 0 ) (.exit 0) ⟨[(0, (.bptr l0 [(.sl (List.map b_sisi a0.f0)), (.val (.int .i64 a0.f1))])), (3, (.one (.val (.int .i64 w0_30_0_1)))), (18, (.one (.val (.bool w1_30_0_1))))], []⟩) (.r 27 [] [] (e31 (a0 := a0.f1) (a1 := 0) (a2 := 999)) r)))))
      by_cases h2 : (!(m31 a0.f1 0 999)) = true
      · try simp only [if_pos h2]
        exact cp (by kernel_rfl) (P2 (.f h2 (.h 30 (.b true) .nil)))
      · try simp only [if_neg h2]
        cases h3 : r30_1 a0 a0.f0 0 with
        | k0 w0_30_1_4 w1_30_1_4 =>
          try dsimp only
          have f5 : (⟨[(0, (.bptr l0 [(.sl (List.map b_sisi a0.f0)), (.val (.int .i64 a0.f1))])), (5, (.one (.val (.int .i64 0))))], []⟩ : St) = h30_1 l0 a0 0  := (by first | rfl | (unfold h30_1; simp [byteRows_eq, ints_y, List.take_of_length_le, d_sisi, d_LsisiEi, d_i, d_b, d_s, d_iisiiii, d_iLsELiisiiiiELsisiEi, d_LsisiE, d_LsE, d_LiisiiiiE, d_y, fromBR_sisi, fromBR_i, fromBR_b, fromBR_s, fromBR_iisiiii, fromBR_y]; done))
          exact cp (by kernel_rfl) (P2 (.f (nt h2) (.f f5 (.f (ev_ (e := ex30_1) (g := (fin30_1 l0 a0)) h3 (t30_1 (l0 := l0) (a0 := a0) (by first | assumption | omega) (by first | assumption | omega) a0.f0 []  rfl)) (.h 30 (.b false) (.h 33 (.loop (h30_1 l0 a0 0 ) (.exit 2) ⟨[(0, (.bptr l0 [(.sl (List.map b_sisi a0.f0)), (.val (.int .i64 a0.f1))])), (5, (.one (.val (.int .i64 w0_30_1_4)))), (39, (.one (.val (.bool w1_30_1_4))))], []⟩) .nil))))))
        | k1 =>
          try dsimp only
          have f5 : (⟨[(0, (.bptr l0 [(.sl (List.map b_sisi a0.f0)), (.val (.int .i64 a0.f1))])), (5, (.one (.val (.int .i64 0))))], []⟩ : St) = h30_1 l0 a0 0  := (by first | rfl | (unfold h30_1; simp [byteRows_eq, ints_y, List.take_of_length_le, d_sisi, d_LsisiEi, d_i, d_b, d_s, d_iisiiii, d_iLsELiisiiiiELsisiEi, d_LsisiE, d_LsE, d_LiisiiiiE, d_y, fromBR_sisi, fromBR_i, fromBR_b, fromBR_s, fromBR_iisiiii, fromBR_y]; done))
          exact cp (by kernel_rfl) (P2 (.f (nt h2) (.f f5 (.f (ev_ (e := ex30_1) (g := (fin30_1 l0 a0)) h3 (t30_1 (l0 := l0) (a0 := a0) (by first | assumption | omega) (by first | assumption | omega) a0.f0 []  rfl)) (.h 30 (.b false) (.h 33 (.loop (h30_1 l0 a0 0 ) .ret ⟨[(2, (.one (.val (.int .i64 3))))], []⟩) .nil))))))
    | k1 w0_30_0_1 =>
      try dsimp only
      have f1 : (⟨[(0, (.bptr l0 [(.sl (List.map b_sisi a0.f0)), (.val (.int .i64 a0.f1))])), (3, (.one (.val (.int .i64 0))))], []⟩ : St) = h30_0 l0 a0 0  := (by first | rfl | (unfold h30_0; simp [byteRows_eq, ints_y, List.take_of_length_le, d_sisi, d_LsisiEi, d_i, d_b, d_s, d_iisiiii, d_iLsELiisiiiiELsisiEi, d_LsisiE, d_LsE, d_LiisiiiiE, d_y, fromBR_sisi, fromBR_i, fromBR_b, fromBR_s, fromBR_iisiiii, fromBR_y]; done))
      exact cp (by kernel_rfl) (P1 (.f f1 (.f (ev_ (e := ex30_0) (g := (fin30_0 l0 a0)) h1 (t30_0 (l0 := l0) (a0 := a0) (by first | assumption | omega) (by first | assumption | omega) a0.f0 []  rfl)) (.h 17 (.loop (h30_0 l0 a0 0 ) .ret ⟨[(2, (.one (.val (.int .i64 w0_30_0_1))))], []⟩) .nil))))
theorem svl30 {a : K_LsisiEi} (h : ¬ ((m30 a) != 0) = true) : List.length a.f0 ≤ 4 := by
  have h2 : m30 a = 0 := by simpa using h
  unfold m30 at h2
  by_cases c : (decide (((List.length (List.map b_sisi a.f0)) : Int) > 4)) = true
  · rw [if_pos c] at h2; cases h2
  · simp only [decide_eq_true_eq, List.length_map] at c; omega
/-! loop.example/g00539/spec.l10Asked -/
def m14 (a0 : K_LsisiEi) (a1 : Int) : Int :=
  if ((m30 a0) != 0) = true then (m30 a0) else
  if (!(m31 a1 0 (IntKind.wrap .i64 (((List.length (List.map b_sisi a0.f0)) : Int) - 1)))) = true then 4 else
    0
theorem e14 {l0 : Nat} {a0 : K_LsisiEi} {a1 : Int} (hy0 : List.length a0.f0 * 48 ≤ 140737488351232) (hy1 : ∀ z ∈ a0.f0, os_sisi z) : Ev F X (.call 14 [(.bptr l0 [(.sl (List.map b_sisi a0.f0)), (.val (.int .i64 a0.f1))]), (.one (.val (.int .i64 a1)))] [] [] [(.one (.val (.int .i64 (m14 a0 a1))))]) := by
  unfold m14
  have P0 {hs q} (r : PS F X hs q) := (PS.r 5 [] [] (e30 (l0 := (l0 + 1)) (a0 := a0) (by first | with_reducible assumption | omega | assumption | (simp only [List.length_map]; omega) | (simp; omega)) (by first | exact True.intro | with_reducible rfl | with_reducible assumption | omega | (simp only [List.length_map, List.length_set, List.length_append, List.length_replicate, List.length_cons, List.length_nil]; omega) | (simp; done) | (simp; omega) | (simp [List.take_of_length_le]; done) | (simp [← List.map_take, ← List.map_drop]; done) | assumption | trivial | (simp [*, byteRows_eq, ints_y]; done))) r)
  by_cases h0 : ((m30 a0) != 0) = true
  · try simp only [if_pos h0]
    exact cp (by kernel_rfl) (P0 (.f h0 (.h 12 (.b true) .nil)))
  · try simp only [if_neg h0]
    have P1 {hs q} (r : PS F X hs q) := (P0 (.f (nt h0) (.h 12 (.b false) (.r 28 [] [] (e31 (a0 := a1) (a1 := 0) (a2 := (IntKind.wrap .i64 (((List.length (List.map b_sisi a0.f0)) : Int) - 1)))) r))))
    by_cases h1 : (!(m31 a1 0 (IntKind.wrap .i64 (((List.length (List.map b_sisi a0.f0)) : Int) - 1)))) = true
    · try simp only [if_pos h1]
      exact cp (by kernel_rfl) (P1 (.f h1 (.h 31 (.b true) .nil)))
    · try simp only [if_neg h1]
      exact cp (by kernel_rfl) (P1 (.f (nt h1) (.h 31 (.b false) .nil)))
theorem wh14 {a : K_LsisiEi} {k : Int} (h : ¬ ((m14 a k) != 0) = true) : 0 ≤ k ∧ k < (List.length a.f0 : Int) ∧ List.length a.f0 ≤ 4 := by
  have h2 : m14 a k = 0 := by simpa using h
  unfold m14 at h2
  by_cases c1 : ((m30 a) != 0) = true
  · rw [if_pos c1] at h2; exact absurd h2 (by simpa using c1)
  rw [if_neg c1] at h2
  have l := svl30 c1
  by_cases c2 : (!(m31 k 0 (IntKind.wrap .i64 (((List.length (List.map b_sisi a.f0)) : Int) - 1)))) = true
  · rw [if_pos c2] at h2; cases h2
  have j := jn31 c2
  rw [List.length_map, wrap64 (by omega)] at j
  omega
theorem fbs (l n k : Nat) (x : List K_sisi) : fromBR l (List.take n (List.drop k (List.map b_sisi x))) = List.map d_sisi (List.take n (List.drop k x)) := by rw [← List.map_drop, ← List.map_take, fromBR_sisi]
theorem two (l : Nat) (x : List K_sisi) (k W : Int) : (List.take (List.length ([] ++ (fromBR l (List.take (Int.toNat k - Int.toNat 0) (List.drop 0 (List.map b_sisi x)))))) (List.drop 0 (List.map d_sisi (([]) ++ (List.take (Int.toNat k) x))))) ++ (fromBR l (List.take (Int.toNat ((List.length (List.map b_sisi x)) : Int) - Int.toNat W) (List.drop (Int.toNat W) (List.map b_sisi x)))) = List.map d_sisi ((([]) ++ (List.take (Int.toNat k) x)) ++ (List.drop (Int.toNat W) x)) := by
  have e1 := fbs l (Int.toNat k - Int.toNat 0) 0 x
  have e2 := fbs l (Int.toNat ((List.length (List.map b_sisi x)) : Int) - Int.toNat W) (Int.toNat W) x
  rw [e1, e2]
  have h1 : List.take (List.length ([] ++ List.map d_sisi (List.take (Int.toNat k - Int.toNat 0) (List.drop 0 x)))) (List.drop 0 (List.map d_sisi ([] ++ List.take (Int.toNat k) x))) = List.map d_sisi (List.take (Int.toNat k) x) := by
    show List.take (List.map d_sisi (List.take (Int.toNat k) x)).length (List.map d_sisi (List.take (Int.toNat k) x)) = _
    exact List.take_length
  have h2 : List.take (Int.toNat ((List.length (List.map b_sisi x)) : Int) - Int.toNat W) (List.drop (Int.toNat W) x) = List.drop (Int.toNat W) x := List.take_of_length_le (by rw [List.length_drop, List.length_map, Int.toNat_natCast]; exact Nat.le_refl _)
  rw [h1, h2, ← List.map_append]; rfl
/-! loop.example/g00539/spec.l10Bad -/
def m15 (a0 : Int) : K_iLsELiisiiiiELsisiEi :=
  (K_iLsELiisiiiiELsisiEi.mk a0 [] [] [] 0)
theorem e15 {a0 : Int} : Ev F X (.call 15 [(.one (.val (.int .i64 a0)))] [] [] [(.agg [(.val (.int .i64 ((K_iLsELiisiiiiELsisiEi.mk a0 [] [] [] 0).f0))), (.own 1 (List.map d_s ((K_iLsELiisiiiiELsisiEi.mk a0 [] [] [] 0).f1))), (.own 7 (List.map d_iisiiii ((K_iLsELiisiiiiELsisiEi.mk a0 [] [] [] 0).f2))), (.own 4 (List.map d_sisi ((K_iLsELiisiiiiELsisiEi.mk a0 [] [] [] 0).f3))), (.val (.int .i64 ((K_iLsELiisiiiiELsisiEi.mk a0 [] [] [] 0).f4)))])]) := by
  have f0 : pureR [] = true := (by first | with_reducible assumption | (simp; done) | (simp [List.take_of_length_le]; done) | (simp [← List.map_take, ← List.map_drop]; done) | assumption | trivial | (simp [*, byteRows_eq, ints_y]; done))
  exact cp (by kernel_rfl) (.f f0 (.f f0 (.f f0 .nil)))
/-! loop.example/g00539/spec.CloseSession -/
def m5 (a0 : K_LsisiEi) (a1 : Int) : K_iLsELiisiiiiELsisiEi :=
  if ((m14 a0 a1) != 0) = true then (K_iLsELiisiiiiELsisiEi.mk (m14 a0 a1) ([]) ([]) ([]) 0) else
  (K_iLsELiisiiiiELsisiEi.mk 0 [] [] ((([]) ++ (List.take (Int.toNat a1) a0.f0)) ++ (List.drop (Int.toNat (IntKind.wrap .i64 (a1 + 1))) a0.f0)) a0.f1)
theorem e5 {l0_0 : Nat} {a0 : K_LsisiEi} {a1 : Int} (hy0 : List.length a0.f0 * 48 ≤ 140737488351232) (hy1 : ∀ z ∈ a0.f0, os_sisi z) : Ev F X (.call 5 [(.agg [(.bor l0_0 (List.map b_sisi a0.f0)), (.val (.int .i64 a0.f1))]), (.one (.val (.int .i64 a1)))] [] [] [(.agg [(.val (.int .i64 ((m5 a0 a1).f0))), (.own 1 (List.map d_s ((m5 a0 a1).f1))), (.own 7 (List.map d_iisiiii ((m5 a0 a1).f2))), (.own 4 (List.map d_sisi ((m5 a0 a1).f3))), (.val (.int .i64 ((m5 a0 a1).f4)))])]) := by
  unfold m5
  have f0 : fullL [(.bor l0_0 (List.map b_sisi a0.f0)), (.val (.int .i64 a0.f1))] = true := (by first | exact True.intro | with_reducible rfl | (rw [two]; have q := wh14 (a := a0) (k := a1) (by with_reducible assumption); simp only [List.nil_append, List.length_map, List.length_append, List.length_take, List.length_drop]; omega) | (rw [fbs]; exact lenD_sisi _) | (rw [fbs]; first | done | rfl) | (have q := wh14 (a := a0) (k := a1) (by with_reducible assumption); refine ⟨?_, lenB_sisi _⟩; simp only [List.length_map]; omega) | (have q := wh14 (a := a0) (k := a1) (by with_reducible assumption); rw [wrap64 (by omega)]; refine ⟨?_, lenB_sisi _⟩; simp only [List.length_map]; omega) | (have q := wh14 (a := a0) (k := a1) (by with_reducible assumption); rw [wrap64 (by omega)]; simp only [List.nil_append, fbs, List.length_map, List.length_append, List.length_take, List.length_drop]; omega) | (have q := wh14 (a := a0) (k := a1) (by with_reducible assumption); simp only [List.nil_append, fbs, List.length_map, List.length_append, List.length_take, List.length_drop]; omega) | with_reducible assumption | omega | (exact (wh14 (a := a0) (k := a1) (by with_reducible assumption)).1) | (exact (wh14 (a := a0) (k := a1) (by with_reducible assumption)).2.1) | (have q := wh14 (a := a0) (k := a1) (by with_reducible assumption); rw [wrap64 (by omega)]) | (have q := wh14 (a := a0) (k := a1) (by with_reducible assumption); omega) | (have q := wh14 (a := a0) (k := a1) (by with_reducible assumption); simp only [List.length_map]; omega) | (have q := wh14 (a := a0) (k := a1) (by with_reducible assumption); rw [wrap64 (by omega)]; simp only [List.length_map]; omega) | (have q := wh14 (a := a0) (k := a1) (by with_reducible assumption); simp only [List.length_map]; refine ⟨?_, ?_, ?_⟩ <;> omega) | (have q := wh14 (a := a0) (k := a1) (by with_reducible assumption); rw [wrap64 (by omega)]; simp only [List.length_map]; refine ⟨?_, ?_, ?_⟩ <;> omega) | (have q := wh14 (a := a0) (k := a1) (by with_reducible assumption); simp only [List.nil_append, List.length_append, List.length_take, List.length_drop, List.length_map, List.length_cons, List.length_nil]; omega) | (simp only [List.length_map, List.length_set, List.length_append, List.length_replicate, List.length_cons, List.length_nil]; omega) | (simp; done) | (simp; omega) | (simp [List.take_of_length_le]; done) | (simp [← List.map_take, ← List.map_drop]; done) | assumption | trivial | (simp [*, b_sisi, d_sisi, byteRows_eq, ints_y]; done))
  have P0 {hs q} (r : PS F X hs q) := (PS.f f0 (.r 7 [] [] (e14 (l0 := 0) (a0 := a0) (a1 := a1) (by first | (rw [two]; have q := wh14 (a := a0) (k := a1) (by with_reducible assumption); simp only [List.nil_append, List.length_map, List.length_append, List.length_take, List.length_drop]; omega) | (rw [fbs]; exact lenD_sisi _) | (rw [fbs]; first | done | rfl) | (have q := wh14 (a := a0) (k := a1) (by with_reducible assumption); refine ⟨?_, lenB_sisi _⟩; simp only [List.length_map]; omega) | (have q := wh14 (a := a0) (k := a1) (by with_reducible assumption); rw [wrap64 (by omega)]; refine ⟨?_, lenB_sisi _⟩; simp only [List.length_map]; omega) | (have q := wh14 (a := a0) (k := a1) (by with_reducible assumption); rw [wrap64 (by omega)]; simp only [List.nil_append, fbs, List.length_map, List.length_append, List.length_take, List.length_drop]; omega) | (have q := wh14 (a := a0) (k := a1) (by with_reducible assumption); simp only [List.nil_append, fbs, List.length_map, List.length_append, List.length_take, List.length_drop]; omega) | with_reducible assumption | omega | (exact (wh14 (a := a0) (k := a1) (by with_reducible assumption)).1) | (exact (wh14 (a := a0) (k := a1) (by with_reducible assumption)).2.1) | (have q := wh14 (a := a0) (k := a1) (by with_reducible assumption); rw [wrap64 (by omega)]) | (have q := wh14 (a := a0) (k := a1) (by with_reducible assumption); omega) | (have q := wh14 (a := a0) (k := a1) (by with_reducible assumption); simp only [List.length_map]; omega) | (have q := wh14 (a := a0) (k := a1) (by with_reducible assumption); rw [wrap64 (by omega)]; simp only [List.length_map]; omega) | (have q := wh14 (a := a0) (k := a1) (by with_reducible assumption); simp only [List.length_map]; refine ⟨?_, ?_, ?_⟩ <;> omega) | (have q := wh14 (a := a0) (k := a1) (by with_reducible assumption); rw [wrap64 (by omega)]; simp only [List.length_map]; refine ⟨?_, ?_, ?_⟩ <;> omega) | (have q := wh14 (a := a0) (k := a1) (by with_reducible assumption); simp only [List.nil_append, List.length_append, List.length_take, List.length_drop, List.length_map, List.length_cons, List.length_nil]; omega) | assumption | (simp only [List.length_map]; omega) | (simp; omega)) (by first | exact True.intro | with_reducible rfl | (rw [two]; have q := wh14 (a := a0) (k := a1) (by with_reducible assumption); simp only [List.nil_append, List.length_map, List.length_append, List.length_take, List.length_drop]; omega) | (rw [fbs]; exact lenD_sisi _) | (rw [fbs]; first | done | rfl) | (have q := wh14 (a := a0) (k := a1) (by with_reducible assumption); refine ⟨?_, lenB_sisi _⟩; simp only [List.length_map]; omega) | (have q := wh14 (a := a0) (k := a1) (by with_reducible assumption); rw [wrap64 (by omega)]; refine ⟨?_, lenB_sisi _⟩; simp only [List.length_map]; omega) | (have q := wh14 (a := a0) (k := a1) (by with_reducible assumption); rw [wrap64 (by omega)]; simp only [List.nil_append, fbs, List.length_map, List.length_append, List.length_take, List.length_drop]; omega) | (have q := wh14 (a := a0) (k := a1) (by with_reducible assumption); simp only [List.nil_append, fbs, List.length_map, List.length_append, List.length_take, List.length_drop]; omega) | with_reducible assumption | omega | (exact (wh14 (a := a0) (k := a1) (by with_reducible assumption)).1) | (exact (wh14 (a := a0) (k := a1) (by with_reducible assumption)).2.1) | (have q := wh14 (a := a0) (k := a1) (by with_reducible assumption); rw [wrap64 (by omega)]) | (have q := wh14 (a := a0) (k := a1) (by with_reducible assumption); omega) | (have q := wh14 (a := a0) (k := a1) (by with_reducible assumption); simp only [List.length_map]; omega) | (have q := wh14 (a := a0) (k := a1) (by with_reducible assumption); rw [wrap64 (by omega)]; simp only [List.length_map]; omega) | (have q := wh14 (a := a0) (k := a1) (by with_reducible assumption); simp only [List.length_map]; refine ⟨?_, ?_, ?_⟩ <;> omega) | (have q := wh14 (a := a0) (k := a1) (by with_reducible assumption); rw [wrap64 (by omega)]; simp only [List.length_map]; refine ⟨?_, ?_, ?_⟩ <;> omega) | (have q := wh14 (a := a0) (k := a1) (by with_reducible assumption); simp only [List.nil_append, List.length_append, List.length_take, List.length_drop, List.length_map, List.length_cons, List.length_nil]; omega) | (simp only [List.length_map, List.length_set, List.length_append, List.length_replicate, List.length_cons, List.length_nil]; omega) | (simp; done) | (simp; omega) | (simp [List.take_of_length_le]; done) | (simp [← List.map_take, ← List.map_drop]; done) | assumption | trivial | (simp [*, byteRows_eq, ints_y]; done))) r))
  by_cases h0 : ((m14 a0 a1) != 0) = true
  · try simp only [if_pos h0]
    exact cp (by kernel_rfl) (P0 (.f h0 (.h 14 (.b true) (.r 18 [] [] (e15 (a0 := (m14 a0 a1))) (pe 0 (pe (List.length (List.map d_s ([]))) (pe 0 (pe (List.length (List.map d_iisiiii ([]))) (pe 0 (pe (List.length (List.map d_sisi ([]))) (.f (pureR_s ([])) (.f (pureR_iisiiii ([])) (.f (pureR_sisi ([])) .nil)))))))))))))
  · try simp only [if_neg h0]
    have f3 : (0 ≤ (0 : Int) ∧ (0 : Int) ≤ a1 ∧ a1 ≤ ((List.length (List.map b_sisi a0.f0)) : Int)) ∧ ∀ r ∈ ((List.map b_sisi a0.f0) : List (List B)), r.length = 4 := (by first | exact True.intro | with_reducible rfl | (rw [two]; have q := wh14 (a := a0) (k := a1) (by with_reducible assumption); simp only [List.nil_append, List.length_map, List.length_append, List.length_take, List.length_drop]; omega) | (rw [fbs]; exact lenD_sisi _) | (rw [fbs]; first | done | rfl) | (have q := wh14 (a := a0) (k := a1) (by with_reducible assumption); refine ⟨?_, lenB_sisi _⟩; simp only [List.length_map]; omega) | (have q := wh14 (a := a0) (k := a1) (by with_reducible assumption); rw [wrap64 (by omega)]; refine ⟨?_, lenB_sisi _⟩; simp only [List.length_map]; omega) | (have q := wh14 (a := a0) (k := a1) (by with_reducible assumption); rw [wrap64 (by omega)]; simp only [List.nil_append, fbs, List.length_map, List.length_append, List.length_take, List.length_drop]; omega) | (have q := wh14 (a := a0) (k := a1) (by with_reducible assumption); simp only [List.nil_append, fbs, List.length_map, List.length_append, List.length_take, List.length_drop]; omega) | with_reducible assumption | omega | (exact (wh14 (a := a0) (k := a1) (by with_reducible assumption)).1) | (exact (wh14 (a := a0) (k := a1) (by with_reducible assumption)).2.1) | (have q := wh14 (a := a0) (k := a1) (by with_reducible assumption); rw [wrap64 (by omega)]) | (have q := wh14 (a := a0) (k := a1) (by with_reducible assumption); omega) | (have q := wh14 (a := a0) (k := a1) (by with_reducible assumption); simp only [List.length_map]; omega) | (have q := wh14 (a := a0) (k := a1) (by with_reducible assumption); rw [wrap64 (by omega)]; simp only [List.length_map]; omega) | (have q := wh14 (a := a0) (k := a1) (by with_reducible assumption); simp only [List.length_map]; refine ⟨?_, ?_, ?_⟩ <;> omega) | (have q := wh14 (a := a0) (k := a1) (by with_reducible assumption); rw [wrap64 (by omega)]; simp only [List.length_map]; refine ⟨?_, ?_, ?_⟩ <;> omega) | (have q := wh14 (a := a0) (k := a1) (by with_reducible assumption); simp only [List.nil_append, List.length_append, List.length_take, List.length_drop, List.length_map, List.length_cons, List.length_nil]; omega) | exact lenB_sisi _ | (intro r hr; exact lenB_sisi _ r (List.mem_of_mem_drop (List.mem_of_mem_take hr))) | (refine ⟨?_, lenB_sisi _⟩; simp only [List.length_map, List.length_set, List.length_append, List.length_replicate, List.length_cons, List.length_nil]; omega) | (refine ⟨by simp; omega, lenB_sisi _⟩) | (simp only [List.length_map, List.length_set, List.length_append, List.length_replicate, List.length_cons, List.length_nil]; omega) | (simp; done) | (simp; omega) | (simp [List.take_of_length_le]; done) | (simp [← List.map_take, ← List.map_drop]; done) | assumption | trivial | (simp [*, b_sisi, d_sisi, byteRows_eq, ints_y]; done))
    have f4 : 0 + 0 ≤ 0 := (by omega)
    have f5 : (List.length ([] ++ (fromBR l0_0 (List.take (Int.toNat a1 - Int.toNat 0) (List.drop 0 (List.map b_sisi a0.f0)))))) * 48 ≤ 70368744177664 := (by first | (rw [two]; have q := wh14 (a := a0) (k := a1) (by with_reducible assumption); simp only [List.nil_append, List.length_map, List.length_append, List.length_take, List.length_drop]; omega) | (rw [fbs]; exact lenD_sisi _) | (rw [fbs]; first | done | rfl) | (have q := wh14 (a := a0) (k := a1) (by with_reducible assumption); refine ⟨?_, lenB_sisi _⟩; simp only [List.length_map]; omega) | (have q := wh14 (a := a0) (k := a1) (by with_reducible assumption); rw [wrap64 (by omega)]; refine ⟨?_, lenB_sisi _⟩; simp only [List.length_map]; omega) | (have q := wh14 (a := a0) (k := a1) (by with_reducible assumption); rw [wrap64 (by omega)]; simp only [List.nil_append, fbs, List.length_map, List.length_append, List.length_take, List.length_drop]; omega) | (have q := wh14 (a := a0) (k := a1) (by with_reducible assumption); simp only [List.nil_append, fbs, List.length_map, List.length_append, List.length_take, List.length_drop]; omega) | with_reducible assumption | omega | (exact (wh14 (a := a0) (k := a1) (by with_reducible assumption)).1) | (exact (wh14 (a := a0) (k := a1) (by with_reducible assumption)).2.1) | (have q := wh14 (a := a0) (k := a1) (by with_reducible assumption); rw [wrap64 (by omega)]) | (have q := wh14 (a := a0) (k := a1) (by with_reducible assumption); omega) | (have q := wh14 (a := a0) (k := a1) (by with_reducible assumption); simp only [List.length_map]; omega) | (have q := wh14 (a := a0) (k := a1) (by with_reducible assumption); rw [wrap64 (by omega)]; simp only [List.length_map]; omega) | (have q := wh14 (a := a0) (k := a1) (by with_reducible assumption); simp only [List.length_map]; refine ⟨?_, ?_, ?_⟩ <;> omega) | (have q := wh14 (a := a0) (k := a1) (by with_reducible assumption); rw [wrap64 (by omega)]; simp only [List.length_map]; refine ⟨?_, ?_, ?_⟩ <;> omega) | (have q := wh14 (a := a0) (k := a1) (by with_reducible assumption); simp only [List.nil_append, List.length_append, List.length_take, List.length_drop, List.length_map, List.length_cons, List.length_nil]; omega) | assumption | (simp only [List.length_map, List.length_append, List.length_cons, List.length_nil, List.length_take, List.length_drop]; omega) | (simp; omega))
    have f6 : ∀ r ∈ ((fromBR l0_0 (List.take (Int.toNat a1 - Int.toNat 0) (List.drop 0 (List.map b_sisi a0.f0)))) : List (List D)), r.length = 4 := (by first | exact True.intro | with_reducible rfl | (rw [two]; have q := wh14 (a := a0) (k := a1) (by with_reducible assumption); simp only [List.nil_append, List.length_map, List.length_append, List.length_take, List.length_drop]; omega) | (rw [fbs]; exact lenD_sisi _) | (rw [fbs]; first | done | rfl) | (have q := wh14 (a := a0) (k := a1) (by with_reducible assumption); refine ⟨?_, lenB_sisi _⟩; simp only [List.length_map]; omega) | (have q := wh14 (a := a0) (k := a1) (by with_reducible assumption); rw [wrap64 (by omega)]; refine ⟨?_, lenB_sisi _⟩; simp only [List.length_map]; omega) | (have q := wh14 (a := a0) (k := a1) (by with_reducible assumption); rw [wrap64 (by omega)]; simp only [List.nil_append, fbs, List.length_map, List.length_append, List.length_take, List.length_drop]; omega) | (have q := wh14 (a := a0) (k := a1) (by with_reducible assumption); simp only [List.nil_append, fbs, List.length_map, List.length_append, List.length_take, List.length_drop]; omega) | with_reducible assumption | omega | (exact (wh14 (a := a0) (k := a1) (by with_reducible assumption)).1) | (exact (wh14 (a := a0) (k := a1) (by with_reducible assumption)).2.1) | (have q := wh14 (a := a0) (k := a1) (by with_reducible assumption); rw [wrap64 (by omega)]) | (have q := wh14 (a := a0) (k := a1) (by with_reducible assumption); omega) | (have q := wh14 (a := a0) (k := a1) (by with_reducible assumption); simp only [List.length_map]; omega) | (have q := wh14 (a := a0) (k := a1) (by with_reducible assumption); rw [wrap64 (by omega)]; simp only [List.length_map]; omega) | (have q := wh14 (a := a0) (k := a1) (by with_reducible assumption); simp only [List.length_map]; refine ⟨?_, ?_, ?_⟩ <;> omega) | (have q := wh14 (a := a0) (k := a1) (by with_reducible assumption); rw [wrap64 (by omega)]; simp only [List.length_map]; refine ⟨?_, ?_, ?_⟩ <;> omega) | (have q := wh14 (a := a0) (k := a1) (by with_reducible assumption); simp only [List.nil_append, List.length_append, List.length_take, List.length_drop, List.length_map, List.length_cons, List.length_nil]; omega) | exact lenD_sisi _ | (intro r hr; exact lenD_sisi _ r (List.mem_of_mem_drop (List.mem_of_mem_take hr))) | (refine ⟨?_, lenD_sisi _⟩; simp only [List.length_map, List.length_set, List.length_append, List.length_replicate, List.length_cons, List.length_nil]; omega) | (refine ⟨by simp; omega, lenD_sisi _⟩) | (simp only [List.length_map, List.length_set, List.length_append, List.length_replicate, List.length_cons, List.length_nil]; omega) | (simp; done) | (simp; omega) | (simp [List.take_of_length_le]; done) | (simp [← List.map_take, ← List.map_drop]; done) | assumption | trivial | (simp [*, b_sisi, d_sisi, byteRows_eq, ints_y]; done))
    have f7 : ([] ++ (fromBR l0_0 (List.take (Int.toNat a1 - Int.toNat 0) (List.drop 0 (List.map b_sisi a0.f0))))) = (List.map d_sisi (([]) ++ (List.take (Int.toNat a1) a0.f0))) := (by first | rfl | (rw [fbs]; rfl) | (rw [two]))
    have f9 : (0 ≤ (IntKind.wrap .i64 (a1 + 1)) ∧ (IntKind.wrap .i64 (a1 + 1)) ≤ ((List.length (List.map b_sisi a0.f0)) : Int) ∧ ((List.length (List.map b_sisi a0.f0)) : Int) ≤ ((List.length (List.map b_sisi a0.f0)) : Int)) ∧ ∀ r ∈ ((List.map b_sisi a0.f0) : List (List B)), r.length = 4 := (by first | exact True.intro | with_reducible rfl | (rw [two]; have q := wh14 (a := a0) (k := a1) (by with_reducible assumption); simp only [List.nil_append, List.length_map, List.length_append, List.length_take, List.length_drop]; omega) | (rw [fbs]; exact lenD_sisi _) | (rw [fbs]; first | done | rfl) | (have q := wh14 (a := a0) (k := a1) (by with_reducible assumption); refine ⟨?_, lenB_sisi _⟩; simp only [List.length_map]; omega) | (have q := wh14 (a := a0) (k := a1) (by with_reducible assumption); rw [wrap64 (by omega)]; refine ⟨?_, lenB_sisi _⟩; simp only [List.length_map]; omega) | (have q := wh14 (a := a0) (k := a1) (by with_reducible assumption); rw [wrap64 (by omega)]; simp only [List.nil_append, fbs, List.length_map, List.length_append, List.length_take, List.length_drop]; omega) | (have q := wh14 (a := a0) (k := a1) (by with_reducible assumption); simp only [List.nil_append, fbs, List.length_map, List.length_append, List.length_take, List.length_drop]; omega) | with_reducible assumption | omega | (exact (wh14 (a := a0) (k := a1) (by with_reducible assumption)).1) | (exact (wh14 (a := a0) (k := a1) (by with_reducible assumption)).2.1) | (have q := wh14 (a := a0) (k := a1) (by with_reducible assumption); rw [wrap64 (by omega)]) | (have q := wh14 (a := a0) (k := a1) (by with_reducible assumption); omega) | (have q := wh14 (a := a0) (k := a1) (by with_reducible assumption); simp only [List.length_map]; omega) | (have q := wh14 (a := a0) (k := a1) (by with_reducible assumption); rw [wrap64 (by omega)]; simp only [List.length_map]; omega) | (have q := wh14 (a := a0) (k := a1) (by with_reducible assumption); simp only [List.length_map]; refine ⟨?_, ?_, ?_⟩ <;> omega) | (have q := wh14 (a := a0) (k := a1) (by with_reducible assumption); rw [wrap64 (by omega)]; simp only [List.length_map]; refine ⟨?_, ?_, ?_⟩ <;> omega) | (have q := wh14 (a := a0) (k := a1) (by with_reducible assumption); simp only [List.nil_append, List.length_append, List.length_take, List.length_drop, List.length_map, List.length_cons, List.length_nil]; omega) | exact lenB_sisi _ | (intro r hr; exact lenB_sisi _ r (List.mem_of_mem_drop (List.mem_of_mem_take hr))) | (refine ⟨?_, lenB_sisi _⟩; simp only [List.length_map, List.length_set, List.length_append, List.length_replicate, List.length_cons, List.length_nil]; omega) | (refine ⟨by simp; omega, lenB_sisi _⟩) | (simp only [List.length_map, List.length_set, List.length_append, List.length_replicate, List.length_cons, List.length_nil]; omega) | (simp; done) | (simp; omega) | (simp [List.take_of_length_le]; done) | (simp [← List.map_take, ← List.map_drop]; done) | assumption | trivial | (simp [*, b_sisi, d_sisi, byteRows_eq, ints_y]; done))
    have f10 : 0 + (List.length ([] ++ (fromBR l0_0 (List.take (Int.toNat a1 - Int.toNat 0) (List.drop 0 (List.map b_sisi a0.f0)))))) ≤ (List.length (List.map d_sisi (([]) ++ (List.take (Int.toNat a1) a0.f0)))) := (by first | exact True.intro | with_reducible rfl | (rw [two]; have q := wh14 (a := a0) (k := a1) (by with_reducible assumption); simp only [List.nil_append, List.length_map, List.length_append, List.length_take, List.length_drop]; omega) | (rw [fbs]; exact lenD_sisi _) | (rw [fbs]; first | done | rfl) | (have q := wh14 (a := a0) (k := a1) (by with_reducible assumption); refine ⟨?_, lenB_sisi _⟩; simp only [List.length_map]; omega) | (have q := wh14 (a := a0) (k := a1) (by with_reducible assumption); rw [wrap64 (by omega)]; refine ⟨?_, lenB_sisi _⟩; simp only [List.length_map]; omega) | (have q := wh14 (a := a0) (k := a1) (by with_reducible assumption); rw [wrap64 (by omega)]; simp only [List.nil_append, fbs, List.length_map, List.length_append, List.length_take, List.length_drop]; omega) | (have q := wh14 (a := a0) (k := a1) (by with_reducible assumption); simp only [List.nil_append, fbs, List.length_map, List.length_append, List.length_take, List.length_drop]; omega) | with_reducible assumption | omega | (exact (wh14 (a := a0) (k := a1) (by with_reducible assumption)).1) | (exact (wh14 (a := a0) (k := a1) (by with_reducible assumption)).2.1) | (have q := wh14 (a := a0) (k := a1) (by with_reducible assumption); rw [wrap64 (by omega)]) | (have q := wh14 (a := a0) (k := a1) (by with_reducible assumption); omega) | (have q := wh14 (a := a0) (k := a1) (by with_reducible assumption); simp only [List.length_map]; omega) | (have q := wh14 (a := a0) (k := a1) (by with_reducible assumption); rw [wrap64 (by omega)]; simp only [List.length_map]; omega) | (have q := wh14 (a := a0) (k := a1) (by with_reducible assumption); simp only [List.length_map]; refine ⟨?_, ?_, ?_⟩ <;> omega) | (have q := wh14 (a := a0) (k := a1) (by with_reducible assumption); rw [wrap64 (by omega)]; simp only [List.length_map]; refine ⟨?_, ?_, ?_⟩ <;> omega) | (have q := wh14 (a := a0) (k := a1) (by with_reducible assumption); simp only [List.nil_append, List.length_append, List.length_take, List.length_drop, List.length_map, List.length_cons, List.length_nil]; omega) | (simp only [decide_eq_true_eq] at *; omega) | (simp only [List.length_map, List.length_append, List.length_cons, List.length_nil, List.length_take, List.length_drop]; omega) | (simp; omega) | (simp [List.take_of_length_le]; done) | assumption | trivial | (simp [*, b_sisi, d_sisi, byteRows_eq, ints_y]; done))
    have f11 : (List.length ((List.take (List.length ([] ++ (fromBR l0_0 (List.take (Int.toNat a1 - Int.toNat 0) (List.drop 0 (List.map b_sisi a0.f0)))))) (List.drop 0 (List.map d_sisi (([]) ++ (List.take (Int.toNat a1) a0.f0))))) ++ (fromBR l0_0 (List.take (Int.toNat ((List.length (List.map b_sisi a0.f0)) : Int) - Int.toNat (IntKind.wrap .i64 (a1 + 1))) (List.drop (Int.toNat (IntKind.wrap .i64 (a1 + 1))) (List.map b_sisi a0.f0)))))) * 48 ≤ 70368744177664 := (by first | (rw [two]; have q := wh14 (a := a0) (k := a1) (by with_reducible assumption); simp only [List.nil_append, List.length_map, List.length_append, List.length_take, List.length_drop]; omega) | (rw [fbs]; exact lenD_sisi _) | (rw [fbs]; first | done | rfl) | (have q := wh14 (a := a0) (k := a1) (by with_reducible assumption); refine ⟨?_, lenB_sisi _⟩; simp only [List.length_map]; omega) | (have q := wh14 (a := a0) (k := a1) (by with_reducible assumption); rw [wrap64 (by omega)]; refine ⟨?_, lenB_sisi _⟩; simp only [List.length_map]; omega) | (have q := wh14 (a := a0) (k := a1) (by with_reducible assumption); rw [wrap64 (by omega)]; simp only [List.nil_append, fbs, List.length_map, List.length_append, List.length_take, List.length_drop]; omega) | (have q := wh14 (a := a0) (k := a1) (by with_reducible assumption); simp only [List.nil_append, fbs, List.length_map, List.length_append, List.length_take, List.length_drop]; omega) | with_reducible assumption | omega | (exact (wh14 (a := a0) (k := a1) (by with_reducible assumption)).1) | (exact (wh14 (a := a0) (k := a1) (by with_reducible assumption)).2.1) | (have q := wh14 (a := a0) (k := a1) (by with_reducible assumption); rw [wrap64 (by omega)]) | (have q := wh14 (a := a0) (k := a1) (by with_reducible assumption); omega) | (have q := wh14 (a := a0) (k := a1) (by with_reducible assumption); simp only [List.length_map]; omega) | (have q := wh14 (a := a0) (k := a1) (by with_reducible assumption); rw [wrap64 (by omega)]; simp only [List.length_map]; omega) | (have q := wh14 (a := a0) (k := a1) (by with_reducible assumption); simp only [List.length_map]; refine ⟨?_, ?_, ?_⟩ <;> omega) | (have q := wh14 (a := a0) (k := a1) (by with_reducible assumption); rw [wrap64 (by omega)]; simp only [List.length_map]; refine ⟨?_, ?_, ?_⟩ <;> omega) | (have q := wh14 (a := a0) (k := a1) (by with_reducible assumption); simp only [List.nil_append, List.length_append, List.length_take, List.length_drop, List.length_map, List.length_cons, List.length_nil]; omega) | assumption | (simp only [List.length_map, List.length_append, List.length_cons, List.length_nil, List.length_take, List.length_drop]; omega) | (simp; omega) | (simp only [List.drop_zero, tbr, tsi, ly_y, ly0_y, ← List.map_append, List.take_length, List.cons_append, List.nil_append, List.append_assoc]; simp only [List.length_map, List.length_append, List.length_cons, List.length_nil, strInts_len]; omega))
    have f12 : ∀ r ∈ ((fromBR l0_0 (List.take (Int.toNat ((List.length (List.map b_sisi a0.f0)) : Int) - Int.toNat (IntKind.wrap .i64 (a1 + 1))) (List.drop (Int.toNat (IntKind.wrap .i64 (a1 + 1))) (List.map b_sisi a0.f0)))) : List (List D)), r.length = 4 := (by first | exact True.intro | with_reducible rfl | (rw [two]; have q := wh14 (a := a0) (k := a1) (by with_reducible assumption); simp only [List.nil_append, List.length_map, List.length_append, List.length_take, List.length_drop]; omega) | (rw [fbs]; exact lenD_sisi _) | (rw [fbs]; first | done | rfl) | (have q := wh14 (a := a0) (k := a1) (by with_reducible assumption); refine ⟨?_, lenB_sisi _⟩; simp only [List.length_map]; omega) | (have q := wh14 (a := a0) (k := a1) (by with_reducible assumption); rw [wrap64 (by omega)]; refine ⟨?_, lenB_sisi _⟩; simp only [List.length_map]; omega) | (have q := wh14 (a := a0) (k := a1) (by with_reducible assumption); rw [wrap64 (by omega)]; simp only [List.nil_append, fbs, List.length_map, List.length_append, List.length_take, List.length_drop]; omega) | (have q := wh14 (a := a0) (k := a1) (by with_reducible assumption); simp only [List.nil_append, fbs, List.length_map, List.length_append, List.length_take, List.length_drop]; omega) | with_reducible assumption | omega | (exact (wh14 (a := a0) (k := a1) (by with_reducible assumption)).1) | (exact (wh14 (a := a0) (k := a1) (by with_reducible assumption)).2.1) | (have q := wh14 (a := a0) (k := a1) (by with_reducible assumption); rw [wrap64 (by omega)]) | (have q := wh14 (a := a0) (k := a1) (by with_reducible assumption); omega) | (have q := wh14 (a := a0) (k := a1) (by with_reducible assumption); simp only [List.length_map]; omega) | (have q := wh14 (a := a0) (k := a1) (by with_reducible assumption); rw [wrap64 (by omega)]; simp only [List.length_map]; omega) | (have q := wh14 (a := a0) (k := a1) (by with_reducible assumption); simp only [List.length_map]; refine ⟨?_, ?_, ?_⟩ <;> omega) | (have q := wh14 (a := a0) (k := a1) (by with_reducible assumption); rw [wrap64 (by omega)]; simp only [List.length_map]; refine ⟨?_, ?_, ?_⟩ <;> omega) | (have q := wh14 (a := a0) (k := a1) (by with_reducible assumption); simp only [List.nil_append, List.length_append, List.length_take, List.length_drop, List.length_map, List.length_cons, List.length_nil]; omega) | exact lenD_sisi _ | (intro r hr; exact lenD_sisi _ r (List.mem_of_mem_drop (List.mem_of_mem_take hr))) | (refine ⟨?_, lenD_sisi _⟩; simp only [List.length_map, List.length_set, List.length_append, List.length_replicate, List.length_cons, List.length_nil]; omega) | (refine ⟨by simp; omega, lenD_sisi _⟩) | (simp only [List.length_map, List.length_set, List.length_append, List.length_replicate, List.length_cons, List.length_nil]; omega) | (simp; done) | (simp; omega) | (simp [List.take_of_length_le]; done) | (simp [← List.map_take, ← List.map_drop]; done) | assumption | trivial | (simp [*, b_sisi, d_sisi, byteRows_eq, ints_y]; done))
    have f15 : ([[(.val (.int .i64 0)), (.own 1 []), (.own 7 []), (.own 4 ((List.take (List.length ([] ++ (fromBR l0_0 (List.take (Int.toNat a1 - Int.toNat 0) (List.drop 0 (List.map b_sisi a0.f0)))))) (List.drop 0 (List.map d_sisi (([]) ++ (List.take (Int.toNat a1) a0.f0))))) ++ (fromBR l0_0 (List.take (Int.toNat ((List.length (List.map b_sisi a0.f0)) : Int) - Int.toNat (IntKind.wrap .i64 (a1 + 1))) (List.drop (Int.toNat (IntKind.wrap .i64 (a1 + 1))) (List.map b_sisi a0.f0)))))), (.val (.int .i64 a0.f1))]] : List (List D)) = [[(.val (.int .i64 0)), (.own 1 []), (.own 7 []), (.own 4 (List.map d_sisi ((([]) ++ (List.take (Int.toNat a1) a0.f0)) ++ (List.drop (Int.toNat (IntKind.wrap .i64 (a1 + 1))) a0.f0)))), (.val (.int .i64 a0.f1))]] := (by first | rfl | (rw [fbs]; rfl) | (rw [two]))
    have f16 : pureR [] = true := (by first | with_reducible assumption | (simp; done) | (simp [List.take_of_length_le]; done) | (simp [← List.map_take, ← List.map_drop]; done) | (rw [fbs]; first | done | rfl) | (have q := wh14 (a := a0) (k := a1) (by with_reducible assumption); refine ⟨?_, lenB_sisi _⟩; simp only [List.length_map]; omega) | (have q := wh14 (a := a0) (k := a1) (by with_reducible assumption); rw [wrap64 (by omega)]; refine ⟨?_, lenB_sisi _⟩; simp only [List.length_map]; omega) | (have q := wh14 (a := a0) (k := a1) (by with_reducible assumption); rw [wrap64 (by omega)]; simp only [List.nil_append, fbs, List.length_map, List.length_append, List.length_take, List.length_drop]; omega) | (have q := wh14 (a := a0) (k := a1) (by with_reducible assumption); simp only [List.nil_append, fbs, List.length_map, List.length_append, List.length_take, List.length_drop]; omega) | with_reducible assumption | omega | (exact (wh14 (a := a0) (k := a1) (by with_reducible assumption)).1) | (exact (wh14 (a := a0) (k := a1) (by with_reducible assumption)).2.1) | (have q := wh14 (a := a0) (k := a1) (by with_reducible assumption); rw [wrap64 (by omega)]) | (have q := wh14 (a := a0) (k := a1) (by with_reducible assumption); omega) | (have q := wh14 (a := a0) (k := a1) (by with_reducible assumption); simp only [List.length_map]; omega) | (have q := wh14 (a := a0) (k := a1) (by with_reducible assumption); rw [wrap64 (by omega)]; simp only [List.length_map]; omega) | (have q := wh14 (a := a0) (k := a1) (by with_reducible assumption); simp only [List.length_map]; refine ⟨?_, ?_, ?_⟩ <;> omega) | (have q := wh14 (a := a0) (k := a1) (by with_reducible assumption); rw [wrap64 (by omega)]; simp only [List.length_map]; refine ⟨?_, ?_, ?_⟩ <;> omega) | (have q := wh14 (a := a0) (k := a1) (by with_reducible assumption); simp only [List.nil_append, List.length_append, List.length_take, List.length_drop, List.length_map, List.length_cons, List.length_nil]; omega) | assumption | trivial | (simp [*, byteRows_eq, ints_y]; done))
    exact cp (by kernel_rfl) (P0 (.f (nt h0) (.f f3 (.f f4 (.f f5 (.f f6 (.f f7 (.f trivial (.f f9 (.f f10 (.f f11 (.f f12 (pe 0 (pe (List.length ((List.take (List.length ([] ++ (fromBR l0_0 (List.take (Int.toNat a1 - Int.toNat 0) (List.drop 0 (List.map b_sisi a0.f0)))))) (List.drop 0 (List.map d_sisi (([]) ++ (List.take (Int.toNat a1) a0.f0))))) ++ (fromBR l0_0 (List.take (Int.toNat ((List.length (List.map b_sisi a0.f0)) : Int) - Int.toNat (IntKind.wrap .i64 (a1 + 1))) (List.drop (Int.toNat (IntKind.wrap .i64 (a1 + 1))) (List.map b_sisi a0.f0)))))) (.f f15 (.f f16 (.f f16 (.f (pureR_sisi ((([]) ++ (List.take (Int.toNat a1) a0.f0)) ++ (List.drop (Int.toNat (IntKind.wrap .i64 (a1 + 1))) a0.f0))) (.h 14 (.b false) (.h 29 (.norm (6, 0, 0) (List.map d_sisi (([]) ++ (List.take (Int.toNat a1) a0.f0)))) (.h 54 (.norm (4, 0, 0) [[(.val (.int .i64 0)), (.own 1 []), (.own 7 []), (.own 4 (List.map d_sisi ((([]) ++ (List.take (Int.toNat a1) a0.f0)) ++ (List.drop (Int.toNat (IntKind.wrap .i64 (a1 + 1))) a0.f0)))), (.val (.int .i64 a0.f1))]]) .nil)))))))))))))))))))))
theorem okm5 (a0 : K_LsisiEi) (a1 : Int) : ok_iLsELiisiiiiELsisiEi (m5 a0 a1) := by
  unfold m5
  split
  · simp [ok_LsisiEi, ok_iLsELiisiiiiELsisiEi, ok_LsisiE, ok_LsE, ok_LiisiiiiE]
  · rename_i h
    have q := wh14 h
    simp only [ok_LsisiEi, ok_iLsELiisiiiiELsisiEi, ok_LsisiE, ok_LsE, ok_LiisiiiiE, List.nil_append, List.length_append, List.length_take, List.length_drop, List.length_nil]; omega
/-! loop.example/g00539/laws.toSession -/
def m32 (a0 : K_sisi) : K_sisi :=
  a0
theorem e32 {a0 : K_sisi} : Ev F X (.call 32 [(.agg [(.val (.string a0.f0)), (.val (.int .i64 a0.f1)), (.val (.string a0.f2)), (.val (.int .i64 a0.f3))])] [] [] [(.agg [(.val (.string a0.f0)), (.val (.int .i64 a0.f1)), (.val (.string a0.f2)), (.val (.int .i64 a0.f3))])]) := by
  exact cp (by kernel_rfl) .nil
/-! loop 16_0 -/
inductive O16_0 where
  | k0 (w0 : List K_sisi) (w1 : Int) (w2 : Bool)
def r16_0 (a0 : (List K_sisi)) : List K_sisi → Int → List K_sisi → O16_0
  | x0_16_0 :: l0_16_0, i_16_0, v0_16_0 =>
    (r16_0 a0 l0_16_0 (i_16_0 + 1) (List.set v0_16_0 (Int.toNat i_16_0) x0_16_0))
  | [], i_16_0, v0_16_0 => (O16_0.k0 v0_16_0 i_16_0 (decide (i_16_0 < ((List.length (List.map b_sisi a0)) : Int))))
def h16_0 (l0_0 : Nat) (a0 : (List K_sisi)) (i_16_0 : Int) (v0_16_0 : List K_sisi) : St := ⟨[(0, (.one (.bor l0_0 (List.map b_sisi a0)))), (3, (.one (.ref ⟨(3, 0, 0), [], 0, (Int.toNat ((List.length (List.map b_sisi a0)) : Int))⟩))), (4, (.one (.val (.int .i64 i_16_0))))], [((3, 0, 0), .live ⟨4, (List.map d_sisi v0_16_0), []⟩)]⟩
def ex16_0 : O16_0 → VX.Exit
  | .k0 _ _ _ => (.exit 0)
def fin16_0 (l0_0 : Nat) (a0 : (List K_sisi)) : O16_0 → St
  | .k0 w0 w1 w2 => ⟨[(0, (.one (.bor l0_0 (List.map b_sisi a0)))), (3, (.one (.ref ⟨(3, 0, 0), [], 0, (Int.toNat ((List.length (List.map b_sisi a0)) : Int))⟩))), (4, (.one (.val (.int .i64 w1)))), (11, (.one (.val (.bool w2))))], [((3, 0, 0), .live ⟨4, (List.map d_sisi w0), []⟩)]⟩
theorem t16_0 {l0_0 : Nat} {a0 : (List K_sisi)} (hy0 : List.length a0 * 48 ≤ 140737488351232) : ∀ (l0_16_0 : List K_sisi) (p_16_0 : List K_sisi) (v0_16_0 : List K_sisi), p_16_0 ++ l0_16_0 = a0 → List.length v0_16_0 = (Int.toNat ((List.length (List.map b_sisi a0)) : Int)) → Ev F X (.code l16_0 (h16_0 l0_0 a0 (List.length p_16_0 : Int) v0_16_0) (ex16_0 (r16_0 a0 l0_16_0 (List.length p_16_0 : Int) v0_16_0)) (fin16_0 l0_0 a0 (r16_0 a0 l0_16_0 (List.length p_16_0 : Int) v0_16_0)))
  | [], p_16_0, v0_16_0, hp0, hi0 => by
    have hc : ¬ (decide ((List.length p_16_0 : Int) < ((List.length (List.map b_sisi a0)) : Int))) = true := by
      rw [← hp0]; simp only [List.length_map, List.length_set, List.length_append, List.length_replicate, List.length_cons, List.length_nil, decide_eq_true_eq]; omega
    have hj0 := hi0; try simp only [List.length_map, List.length_set, List.length_append, List.length_replicate, List.length_cons, List.length_nil, Int.toNat_natCast] at hj0
    have st := ch b16_0 (h16_0 l0_0 a0 (List.length p_16_0 : Int) v0_16_0) ⟨[(0, (.one (.bor l0_0 (List.map b_sisi a0)))), (3, (.one (.ref ⟨(3, 0, 0), [], 0, (Int.toNat ((List.length (List.map b_sisi a0)) : Int))⟩))), (4, (.one (.val (.int .i64 (List.length p_16_0 : Int))))), (11, (.one (.val (.bool (decide ((List.length p_16_0 : Int) < ((List.length (List.map b_sisi a0)) : Int)))))))], [((3, 0, 0), .live ⟨4, (List.map d_sisi v0_16_0), []⟩)]⟩ (.exit 0) 9 (by kernel_rfl) (.f (nt hc) (.h 8 (.b false) .nil))
    rw [show (⟨[(0, (.one (.bor l0_0 (List.map b_sisi a0)))), (3, (.one (.ref ⟨(3, 0, 0), [], 0, (Int.toNat ((List.length (List.map b_sisi a0)) : Int))⟩))), (4, (.one (.val (.int .i64 (List.length p_16_0 : Int))))), (11, (.one (.val (.bool (decide ((List.length p_16_0 : Int) < ((List.length (List.map b_sisi a0)) : Int)))))))], [((3, 0, 0), .live ⟨4, (List.map d_sisi v0_16_0), []⟩)]⟩ : St) = fin16_0 l0_0 a0 (.k0 v0_16_0 (List.length p_16_0 : Int) (decide ((List.length p_16_0 : Int) < ((List.length (List.map b_sisi a0)) : Int)))) from by first | rfl | (unfold fin16_0; simp [byteRows_eq, ints_y, List.take_of_length_le, d_sisi, d_LsisiEi, d_i, d_b, d_s, d_iisiiii, d_iLsELiisiiiiELsisiEi, d_LsisiE, d_LsE, d_LiisiiiiE, d_y, fromBR_sisi, fromBR_i, fromBR_b, fromBR_s, fromBR_iisiiii, fromBR_y]; done)] at st
    exact .loopX st (show ((.exit 0) : VX.Exit) ≠ .normal from by simp)
  | x0_16_0 :: l0_16_0, p_16_0, v0_16_0, hp0, hi0 => by
    have hc : (decide ((List.length p_16_0 : Int) < ((List.length (List.map b_sisi a0)) : Int))) = true := by
      rw [← hp0]; simp only [List.length_map, List.length_set, List.length_append, List.length_replicate, List.length_cons, List.length_nil, decide_eq_true_eq]; omega
    have Hx0_16_0 : (a0)[Int.toNat (List.length p_16_0 : Int)]? = some x0_16_0 := by
      rw [← hp0, Int.toNat_natCast]; simp
    have hlen : List.length (a0) = List.length p_16_0 + List.length l0_16_0 + 1 := by rw [← hp0]; simp; omega
    have hw : IntKind.wrap .i64 ((List.length p_16_0 : Int) + 1) = (List.length p_16_0 : Int) + 1 := wrap64 (by omega)
    have hj0 := hi0; try simp only [List.length_map, List.length_set, List.length_append, List.length_replicate, List.length_cons, List.length_nil, Int.toNat_natCast] at hj0
    obtain ⟨x1_16_0, Hx1_16_0⟩ : ∃ y, v0_16_0[Int.toNat (List.length p_16_0 : Int)]? = some y := ⟨_, List.getElem?_eq_getElem (by omega)⟩
    simp only [r16_0]
    have f1 : 0 ≤ (List.length p_16_0 : Int) := (by first | exact True.intro | with_reducible rfl | with_reducible assumption | omega | (simp only [decide_eq_true_eq] at *; omega) | (simp only [List.length_map, List.length_set, List.length_append, List.length_replicate, List.length_cons, List.length_nil]; omega) | (simp; omega) | (simp [List.take_of_length_le]; done) | assumption | trivial | (simp [*, byteRows_eq, ints_y]; done))
    have f4 : 0 + (Int.toNat ((List.length (List.map b_sisi a0)) : Int)) ≤ (List.length (List.map d_sisi v0_16_0)) := (by first | exact True.intro | with_reducible rfl | with_reducible assumption | omega | (simp only [decide_eq_true_eq] at *; omega) | (simp only [List.length_map]; omega) | (simp; omega) | (simp [List.take_of_length_le]; done) | assumption | trivial | (simp [*, b_sisi, d_sisi, byteRows_eq, ints_y]; done))
    have f5 : 0 ≤ (List.length p_16_0 : Int) ∧ (List.length p_16_0 : Int) < ((Int.toNat ((List.length (List.map b_sisi a0)) : Int)) : Int) := (by first | exact True.intro | with_reducible rfl | with_reducible assumption | omega | (simp only [decide_eq_true_eq] at *; omega) | (simp only [List.length_map]; omega) | (simp; omega) | (simp [List.take_of_length_le]; done) | assumption | trivial | (simp [*, b_sisi, d_sisi, byteRows_eq, ints_y]; done))
    have f7 : (List.set (List.map d_sisi v0_16_0) (0 + (Int.toNat (List.length p_16_0 : Int))) [(.val (.string x0_16_0.f0)), (.val (.int .i64 x0_16_0.f1)), (.val (.string x0_16_0.f2)), (.val (.int .i64 x0_16_0.f3))]) = (List.map d_sisi (List.set v0_16_0 (Int.toNat (List.length p_16_0 : Int)) x0_16_0)) := (by first | rfl | (simp [byteRows_eq, ints_y, List.take_of_length_le, d_sisi, d_LsisiEi, d_i, d_b, d_s, d_iisiiii, d_iLsELiisiiiiELsisiEi, d_LsisiE, d_LsE, d_LiisiiiiE, d_y, fromBR_sisi, fromBR_i, fromBR_b, fromBR_s, fromBR_iisiiii, fromBR_y]; done) | (simp [List.map_set, List.map_take, List.map_drop, byteRows_eq, ints_y, List.take_of_length_le, d_sisi, d_LsisiEi, d_i, d_b, d_s, d_iisiiii, d_iLsELiisiiiiELsisiEi, d_LsisiE, d_LsE, d_LiisiiiiE, d_y, fromBR_sisi, fromBR_i, fromBR_b, fromBR_s, fromBR_iisiiii, fromBR_y]; done))
    have st := ch b16_0 (h16_0 l0_0 a0 (List.length p_16_0 : Int) v0_16_0) ⟨[(0, (.one (.bor l0_0 (List.map b_sisi a0)))), (3, (.one (.ref ⟨(3, 0, 0), [], 0, (Int.toNat ((List.length (List.map b_sisi a0)) : Int))⟩))), (4, (.one (.val (.int .i64 (IntKind.wrap .i64 ((List.length p_16_0 : Int) + 1))))))], [((3, 0, 0), .live ⟨4, (List.map d_sisi (List.set v0_16_0 (Int.toNat (List.length p_16_0 : Int)) x0_16_0)), []⟩)]⟩ .normal 34 (by kernel_rfl) (.f hc (.f f1 (.f (mp_ b_sisi Hx0_16_0) (.h 8 (.b true) (.h 18 (.row [(.val (.string x0_16_0.f0)), (.val (.int .i64 x0_16_0.f1)), (.val (.string x0_16_0.f2)), (.val (.int .i64 x0_16_0.f3))]) (.r 22 [] [] (e32 (a0 := x0_16_0)) (.f f4 (.f f5 (.f (mz_ d_sisi Hx1_16_0) (.f f7 (.f trivial (.h 26 (.rowD [(.val (.string x1_16_0.f0)), (.val (.int .i64 x1_16_0.f1)), (.val (.string x1_16_0.f2)), (.val (.int .i64 x1_16_0.f3))]) (.h 27 (.norm (3, 0, 0) (List.map d_sisi (List.set v0_16_0 (Int.toNat (List.length p_16_0 : Int)) x0_16_0))) .nil)))))))))))))
    have ih := t16_0 (l0_0 := l0_0) (a0 := a0) hy0 l0_16_0 (p_16_0 ++ [x0_16_0]) (List.set v0_16_0 (Int.toNat (List.length p_16_0 : Int)) x0_16_0) (by rw [List.append_assoc]; exact hp0) (by first | omega | (simp only [List.length_map, List.length_set, List.length_append, List.length_replicate, List.length_cons, List.length_nil]; omega) | (simp only [List.length_map, List.length_set, List.length_append, List.length_replicate, List.length_cons, List.length_nil]; assumption) | assumption | (simp only [List.length_map, List.length_set, List.length_append, List.length_replicate, List.length_cons, List.length_nil] at *; omega))
    rw [show ((p_16_0 ++ [x0_16_0]).length : Int) = (p_16_0.length : Int) + 1 from by simp] at ih
    rw [show (⟨[(0, (.one (.bor l0_0 (List.map b_sisi a0)))), (3, (.one (.ref ⟨(3, 0, 0), [], 0, (Int.toNat ((List.length (List.map b_sisi a0)) : Int))⟩))), (4, (.one (.val (.int .i64 (IntKind.wrap .i64 ((List.length p_16_0 : Int) + 1))))))], [((3, 0, 0), .live ⟨4, (List.map d_sisi (List.set v0_16_0 (Int.toNat (List.length p_16_0 : Int)) x0_16_0)), []⟩)]⟩ : St) = h16_0 l0_0 a0 ((List.length p_16_0 : Int) + 1) (List.set v0_16_0 (Int.toNat (List.length p_16_0 : Int)) x0_16_0) from by first | (unfold h16_0; simp only [hw]; done) | (unfold h16_0; simp only [hw, List.length_map, List.length_set, List.length_append, List.length_replicate, List.length_cons, List.length_nil]; done) | (unfold h16_0; simp [hw, byteRows_eq, ints_y, List.take_of_length_le, d_sisi, d_LsisiEi, d_i, d_b, d_s, d_iisiiii, d_iLsELiisiiiiELsisiEi, d_LsisiE, d_LsE, d_LiisiiiiE, d_y, fromBR_sisi, fromBR_i, fromBR_b, fromBR_s, fromBR_iisiiii, fromBR_y]; done)] at st
    exact .loopN st ih
def post16_0 (n0 : Nat) : O16_0 → Prop
  | .k0 w0 _ _ => List.length w0 = n0
theorem z16_0 {a0 : (List K_sisi)} : ∀ (l0_16_0 : List K_sisi) (i_16_0 : Int) (v0_16_0 : List K_sisi), post16_0 (List.length v0_16_0) (r16_0 a0 l0_16_0 i_16_0 v0_16_0)
  | [], i_16_0, v0_16_0 => by
    first | trivial | (simp only [post16_0, List.length_nil, Nat.add_zero]; done) | (simp [post16_0]; done)
  | x0_16_0 :: l0_16_0, i_16_0, v0_16_0 => by
    simp only [r16_0]
    have z := z16_0 (a0 := a0) l0_16_0 (i_16_0 + 1) (List.set v0_16_0 (Int.toNat i_16_0) x0_16_0)
    rw [show (List.length v0_16_0) = (List.length (List.set v0_16_0 (Int.toNat i_16_0) x0_16_0)) from by first | omega | (simp only [List.length_map, List.length_set, List.length_append, List.length_replicate, List.length_cons, List.length_nil]; done) | (simp only [List.length_map, List.length_set, List.length_append, List.length_replicate, List.length_cons, List.length_nil]; omega)]
    exact z
/-! loop.example/g00539/laws.toSessionS -/
def m16 (a0 : (List K_sisi)) : (List K_sisi) :=
  (match r16_0 a0 a0 0 (List.replicate (Int.toNat ((List.length (List.map b_sisi a0)) : Int)) (K_sisi.mk (⟨#[]⟩ : ByteArray) 0 (⟨#[]⟩ : ByteArray) 0)) with | .k0 w0_16_0_1 w1_16_0_1 w2_16_0_1 => w0_16_0_1)
theorem e16 {l0_0 : Nat} {a0 : (List K_sisi)} (hy0 : List.length a0 * 48 ≤ 140737488351232) : Ev F X (.call 16 [(.one (.bor l0_0 (List.map b_sisi a0)))] [] [] [(.one (.own 4 (List.map d_sisi (m16 a0))))]) := by
  unfold m16
  have f0 : 0 ≤ ((List.length (List.map b_sisi a0)) : Int) ∧ ((List.length (List.map b_sisi a0)) : Int) ≤ ((List.length (List.map b_sisi a0)) : Int) ∧ ((List.length (List.map b_sisi a0)) : Int) ≤ 140737488355328 ∧ ((List.length (List.map b_sisi a0)) : Int) * 48 ≤ 140737488355328 := (by first | exact True.intro | with_reducible rfl | with_reducible assumption | omega | (simp only [decide_eq_true_eq] at *; omega) | (simp only [List.length_map]; omega) | (simp; omega) | (simp [List.take_of_length_le]; done) | assumption | trivial | (simp [*, b_sisi, d_sisi, byteRows_eq, ints_y]; done))
  have f1 : (List.replicate (Int.toNat ((List.length (List.map b_sisi a0)) : Int)) [(.val (.string (⟨#[]⟩ : ByteArray))), (.val (.int .i64 0)), (.val (.string (⟨#[]⟩ : ByteArray))), (.val (.int .i64 0))]) = (List.map d_sisi (List.replicate (Int.toNat ((List.length (List.map b_sisi a0)) : Int)) (K_sisi.mk (⟨#[]⟩ : ByteArray) 0 (⟨#[]⟩ : ByteArray) 0))) := (by first | rfl | (simp [byteRows_eq, ints_y, List.take_of_length_le, d_sisi, d_LsisiEi, d_i, d_b, d_s, d_iisiiii, d_iLsELiisiiiiELsisiEi, d_LsisiE, d_LsE, d_LiisiiiiE, d_y, fromBR_sisi, fromBR_i, fromBR_b, fromBR_s, fromBR_iisiiii, fromBR_y]; done) | (simp [List.map_set, List.map_take, List.map_drop, byteRows_eq, ints_y, List.take_of_length_le, d_sisi, d_LsisiEi, d_i, d_b, d_s, d_iisiiii, d_iLsELiisiiiiELsisiEi, d_LsisiE, d_LsE, d_LiisiiiiE, d_y, fromBR_sisi, fromBR_i, fromBR_b, fromBR_s, fromBR_iisiiii, fromBR_y]; done))
  cases h0 : r16_0 a0 a0 0 (List.replicate (Int.toNat ((List.length (List.map b_sisi a0)) : Int)) (K_sisi.mk (⟨#[]⟩ : ByteArray) 0 (⟨#[]⟩ : ByteArray) 0)) with
  | k0 w0_16_0_1 w1_16_0_1 w2_16_0_1 =>
    try dsimp only
    have zh0 := z16_0 (a0 := a0) a0 0 (List.replicate (Int.toNat ((List.length (List.map b_sisi a0)) : Int)) (K_sisi.mk (⟨#[]⟩ : ByteArray) 0 (⟨#[]⟩ : ByteArray) 0)); rw [h0] at zh0; simp only [post16_0, List.length_map, List.length_set, List.length_append, List.length_replicate, List.length_cons, List.length_nil, Int.toNat_natCast] at zh0
    have f2 : (⟨[(0, (.one (.bor l0_0 (List.map b_sisi a0)))), (3, (.one (.ref ⟨(3, 0, 0), [], 0, (Int.toNat ((List.length (List.map b_sisi a0)) : Int))⟩))), (4, (.one (.val (.int .i64 0))))], [((3, 0, 0), .live ⟨4, (List.map d_sisi (List.replicate (Int.toNat ((List.length (List.map b_sisi a0)) : Int)) (K_sisi.mk (⟨#[]⟩ : ByteArray) 0 (⟨#[]⟩ : ByteArray) 0))), []⟩)]⟩ : St) = h16_0 l0_0 a0 0 (List.replicate (Int.toNat ((List.length (List.map b_sisi a0)) : Int)) (K_sisi.mk (⟨#[]⟩ : ByteArray) 0 (⟨#[]⟩ : ByteArray) 0)) := (by first | rfl | (unfold h16_0; simp [byteRows_eq, ints_y, List.take_of_length_le, d_sisi, d_LsisiEi, d_i, d_b, d_s, d_iisiiii, d_iLsELiisiiiiELsisiEi, d_LsisiE, d_LsE, d_LiisiiiiE, d_y, fromBR_sisi, fromBR_i, fromBR_b, fromBR_s, fromBR_iisiiii, fromBR_y]; done))
    have f5 : (Int.toNat ((List.length (List.map b_sisi a0)) : Int)) = (List.length (List.map d_sisi w0_16_0_1)) := (by first | exact True.intro | with_reducible rfl | with_reducible assumption | omega | (simp only [List.length_map]; omega) | (simp; done) | (simp; omega) | (simp [List.take_of_length_le]; done) | (simp [← List.map_take, ← List.map_drop]; done) | assumption | trivial | (simp [*, b_sisi, d_sisi, byteRows_eq, ints_y]; done))
    exact cp (by kernel_rfl) (.f f0 (.f f1 (.f f2 (.f (ev_ (e := ex16_0) (g := (fin16_0 l0_0 a0)) h0 (t16_0 (l0_0 := l0_0) (a0 := a0) (by first | assumption | omega) a0 [] (List.replicate (Int.toNat ((List.length (List.map b_sisi a0)) : Int)) (K_sisi.mk (⟨#[]⟩ : ByteArray) 0 (⟨#[]⟩ : ByteArray) 0)) rfl (by first | rfl | omega | (simp only [List.length_map, List.length_set, List.length_append, List.length_replicate, List.length_cons, List.length_nil]; done) | (simp only [List.length_map, List.length_set, List.length_append, List.length_replicate, List.length_cons, List.length_nil]; omega) | (simp; done)))) (pe 0 (.f f5 (.f (pureR_sisi w0_16_0_1) (.h 10 (.norm (3, 0, 0) (List.map d_sisi (List.replicate (Int.toNat ((List.length (List.map b_sisi a0)) : Int)) (K_sisi.mk (⟨#[]⟩ : ByteArray) 0 (⟨#[]⟩ : ByteArray) 0)))) (.h 13 (.loop (h16_0 l0_0 a0 0 (List.replicate (Int.toNat ((List.length (List.map b_sisi a0)) : Int)) (K_sisi.mk (⟨#[]⟩ : ByteArray) 0 (⟨#[]⟩ : ByteArray) 0))) (.exit 0) ⟨[(0, (.one (.bor l0_0 (List.map b_sisi a0)))), (3, (.one (.ref ⟨(3, 0, 0), [], 0, (Int.toNat ((List.length (List.map b_sisi a0)) : Int))⟩))), (4, (.one (.val (.int .i64 w1_16_0_1)))), (11, (.one (.val (.bool w2_16_0_1))))], [((3, 0, 0), .live ⟨4, (List.map d_sisi w0_16_0_1), []⟩)]⟩) .nil)))))))))
theorem c16_0 (a0 : List K_sisi) : ∀ (l p q : List K_sisi), q.length = l.length → ∃ w1 w2, r16_0 a0 l (p.length : Int) (p ++ q) = .k0 (p ++ l) w1 w2
  | [], p, [], _ => ⟨_, _, rfl⟩
  | [], _, _ :: _, h => by simp at h
  | _ :: _, _, [], h => by simp at h
  | x :: l, p, y :: q, h => by
    have ih := c16_0 a0 l (p ++ [x]) q (by simpa using h)
    have e : List.set (p ++ y :: q) (Int.toNat (p.length : Int)) x = (p ++ [x]) ++ q := by simp
    have e2 : ((p ++ [x]).length : Int) = (p.length : Int) + 1 := by simp
    rw [e2] at ih
    simp only [r16_0]
    rw [show p ++ x :: l = (p ++ [x]) ++ l by simp]
    first | (rw [e]; exact ih) | (simp only [e]; exact ih)
theorem q16 (a0 : (List K_sisi)) (hy0 : List.length a0 * 48 ≤ 140737488351232) : (m16 a0) = a0 := by
  have h := c16_0 a0 a0 [] (List.replicate (Int.toNat ((List.length (List.map b_sisi a0)) : Int)) (K_sisi.mk (⟨#[]⟩ : ByteArray) 0 (⟨#[]⟩ : ByteArray) 0)) (by simp)
  unfold m16
  simp only [List.nil_append, List.length_nil] at h
  obtain ⟨_, _, h⟩ := h
  rw [show ((0 : Nat) : Int) = 0 from rfl] at h
  rw [h]
theorem g16 {l0_0 : Nat} {a0 : (List K_sisi)} (hy0 : List.length a0 * 48 ≤ 140737488351232) : Ev F X (.call 16 [(.one (.bor l0_0 (List.map b_sisi a0)))] [] [] [(.one (.own 4 (List.map d_sisi a0)))]) := by
  have t := e16 (l0_0 := l0_0) (a0 := a0) hy0
  rw [q16 a0 hy0] at t
  exact t
/-! loop.example/g00539/laws.toServer -/
def m6 (a0 : K_LsisiEi) : K_LsisiEi :=
  a0
theorem e6 {l0_0 : Nat} {a0 : K_LsisiEi} (hy0 : List.length a0.f0 * 48 ≤ 140737488351232) : Ev F X (.call 6 [(.agg [(.bor l0_0 (List.map b_sisi a0.f0)), (.val (.int .i64 a0.f1))])] [] [] [(.agg [(.own 4 (List.map d_sisi a0.f0)), (.val (.int .i64 a0.f1))])]) := by
  exact cp (by kernel_rfl) (.r 11 [] [] (g16 (l0_0 := (l0_0 + 1)) (a0 := a0.f0) (by first | with_reducible assumption | omega | assumption | (simp only [List.length_map]; omega) | (simp; omega))) (pe 0 (pe (List.length (List.map d_sisi a0.f0)) (pe 0 (pe (List.length (List.map d_sisi a0.f0)) (.f (pureR_sisi a0.f0) .nil))))))
/-! loop.example/g00539/impl.in -/
def m34 (a0 : Int) (a1 : Int) (a2 : Int) : Bool :=
  if (decide (a0 ≥ a1)) = true then (decide (a0 ≤ a2)) else
  false
theorem e34 {a0 : Int} {a1 : Int} {a2 : Int} : Ev F X (.call 34 [(.one (.val (.int .i64 a0))), (.one (.val (.int .i64 a1))), (.one (.val (.int .i64 a2)))] [] [] [(.one (.val (.bool (m34 a0 a1 a2))))]) := by
  unfold m34
  by_cases h0 : (decide (a0 ≥ a1)) = true
  · try simp only [if_pos h0]
    exact cp (by kernel_rfl) (.f h0 (.f h0 (.f h0 (.f h0 (.h 10 (.b true) (.h 12 (.b true) (.h 14 (.b true) (.h 17 (.b true) .nil))))))))
  · try simp only [if_neg h0]
    exact cp (by kernel_rfl) (.f (nt h0) (.f (nt h0) (.f (nt h0) (.f (nt h0) (.h 10 (.b false) (.h 12 (.b false) (.h 14 (.b false) (.h 17 (.b false) .nil))))))))
theorem jn34 {a b c : Int} (h : ¬ (!(m34 a b c)) = true) : b ≤ a ∧ a ≤ c := by
  simp only [Bool.not_eq_true', Bool.not_eq_false] at h
  unfold m34 at h; split at h <;> simp_all <;> omega
/-! strings.IndexByte -/
theorem e46 {a0 : ByteArray} {a1 : Int} : Ev F X (.call 46 [(.one (.val (.string a0))), (.one (.val (.int .u8 a1)))] [] [] [(.one (.val (.int .i64 (idxB a0 a1))))]) :=
  .ext (.inr (.inl (⟨rfl, rfl, (⟨a0, a1, rfl, rfl⟩)⟩))) rfl
/-! strings.Trim -/
theorem e55 {a0 a1 : ByteArray} (hy0 : ByteArray.size a0 ≤ 9223372036854775807) (hy1 : ByteArray.size a1 < 4294967281) (hy2 : asciiB a1 = true) : Ev F X (.call 55 [(.one (.val (.string a0))), (.one (.val (.string a1)))] [] [] [(.one (.val (.string (trimB a0 a1))))]) :=
  .ext (.inr (.inr (.inl (⟨rfl, rfl, (⟨a0, a1, hy0, hy1, hy2, rfl, rfl⟩)⟩)))) rfl
/-! loop.example/g00539/impl.argOk -/
def m53 (a0 : ByteArray) : Bool :=
  if (decide ((ByteArray.size a0 : Int) ≤ 12)) = true then ((trimB a0 (⟨#[97, 98, 99, 100, 101, 102, 103, 104, 105, 106, 107, 108, 109, 110, 111, 112, 113, 114, 115, 116, 117, 118, 119, 120, 121, 122, 65, 66, 67, 68, 69, 70, 71, 72, 73, 74, 75, 76, 77, 78, 79, 80, 81, 82, 83, 84, 85, 86, 87, 88, 89, 90, 48, 49, 50, 51, 52, 53, 54, 55, 56, 57]⟩ : ByteArray)).toList == (⟨#[]⟩ : ByteArray).toList) else
  false
theorem e53 {a0 : ByteArray} : Ev F X (.call 53 [(.one (.val (.string a0)))] [] [] [(.one (.val (.bool (m53 a0))))]) := by
  unfold m53
  by_cases h0 : (decide ((ByteArray.size a0 : Int) ≤ 12)) = true
  · try simp only [if_pos h0]
    have f2 : Ev F X (.call 55 [(.one (.val (.string a0))), (.one (.val (.string (⟨#[97, 98, 99, 100, 101, 102, 103, 104, 105, 106, 107, 108, 109, 110, 111, 112, 113, 114, 115, 116, 117, 118, 119, 120, 121, 122, 65, 66, 67, 68, 69, 70, 71, 72, 73, 74, 75, 76, 77, 78, 79, 80, 81, 82, 83, 84, 85, 86, 87, 88, 89, 90, 48, 49, 50, 51, 52, 53, 54, 55, 56, 57]⟩ : ByteArray))))] [] [] [(.one (.val (.string (trimB a0 (⟨#[97, 98, 99, 100, 101, 102, 103, 104, 105, 106, 107, 108, 109, 110, 111, 112, 113, 114, 115, 116, 117, 118, 119, 120, 121, 122, 65, 66, 67, 68, 69, 70, 71, 72, 73, 74, 75, 76, 77, 78, 79, 80, 81, 82, 83, 84, 85, 86, 87, 88, 89, 90, 48, 49, 50, 51, 52, 53, 54, 55, 56, 57]⟩ : ByteArray)))))]) := (e55 (a0 := a0) (a1 := (⟨#[97, 98, 99, 100, 101, 102, 103, 104, 105, 106, 107, 108, 109, 110, 111, 112, 113, 114, 115, 116, 117, 118, 119, 120, 121, 122, 65, 66, 67, 68, 69, 70, 71, 72, 73, 74, 75, 76, 77, 78, 79, 80, 81, 82, 83, 84, 85, 86, 87, 88, 89, 90, 48, 49, 50, 51, 52, 53, 54, 55, 56, 57]⟩ : ByteArray)) (by first | exact True.intro | with_reducible rfl | with_reducible assumption | omega | (simp only [decide_eq_true_eq] at *; omega) | (simp only [List.length_map, List.length_set, List.length_append, List.length_replicate, List.length_cons, List.length_nil]; omega) | (simp; omega) | (simp [List.take_of_length_le]; done) | assumption | trivial | (simp [*, byteRows_eq, ints_y]; done)) (by decide) (by decide))
    exact cp (by kernel_rfl) (.f h0 (.f h0 (.h 10 (.b true) (.h 12 (.b true) (.r 13 [] [] f2 (.f h0 (.f h0 (.h 14 (.b true) (.h 17 (.b true) .nil)))))))))
  · try simp only [if_neg h0]
    exact cp (by kernel_rfl) (.f (nt h0) (.f (nt h0) (.f (nt h0) (.f (nt h0) (.h 10 (.b false) (.h 12 (.b false) (.h 14 (.b false) (.h 17 (.b false) .nil))))))))
/-! loop.example/g00539/impl.badArg -/
def m47 (a0 : ByteArray) : Bool :=
  (!(m53 a0))
theorem e47 {a0 : ByteArray} : Ev F X (.call 47 [(.one (.val (.string a0)))] [] [] [(.one (.val (.bool (!(m53 a0)))))]) := by
  exact cp (by kernel_rfl) (.r 5 [] [] (e53 (a0 := a0)) .nil)
/-! loop.example/g00539/impl.isLevel -/
def m48 (a0 : Int) : Bool :=
  (m34 a0 1 9999)
theorem e48 {a0 : Int} : Ev F X (.call 48 [(.one (.val (.int .i64 a0)))] [] [] [(.one (.val (.bool (m34 a0 1 9999))))]) := by
  exact cp (by kernel_rfl) (.r 5 [] [] (e34 (a0 := a0) (a1 := 1) (a2 := 9999)) .nil)
/-! loop.example/g00539/impl.sessionFault$1 -/
def m1004900 (a0 : K_sisi) (a101001 : ByteArray) (a101002 : Int) (a101003 : ByteArray) (a101004 : Int) : Bool :=
  (a101002 == a0.f1)
theorem e1004900 {a0 : K_sisi} {l101000 : Nat} {a101001 : ByteArray} {a101002 : Int} {a101003 : ByteArray} {a101004 : Int} : Ev F X (.call 49 [(.agg [(.val (.string a0.f0)), (.val (.int .i64 a0.f1)), (.val (.string a0.f2)), (.val (.int .i64 a0.f3))]), (.bptr l101000 [(.val (.string a101001)), (.val (.int .i64 a101002)), (.val (.string a101003)), (.val (.int .i64 a101004))])] [] [] [(.one (.val (.bool (a101002 == a0.f1))))]) := by
  exact cp (by kernel_rfl) .nil
/-! loop 1005000_0 -/
inductive O1005000_0 where
  | k0 (w0 : Int) (w1 : Bool)
  | k1 (w0 : Int)
def r1005000_0 (a0 : (List K_sisi)) (a2002 : Int) : List K_sisi → Int → O1005000_0
  | x0_1005000_0 :: l0_1005000_0, i_1005000_0 =>
    if (a2002 == x0_1005000_0.f1) = true then (O1005000_0.k1 i_1005000_0) else
    (r1005000_0 a0 a2002 l0_1005000_0 (i_1005000_0 + 1) )
  | [], i_1005000_0 => (O1005000_0.k0 i_1005000_0 (decide (i_1005000_0 < ((List.length (List.map b_sisi a0)) : Int))))
def h1005000_0 (l0_0 : Nat) (l2000 : Nat) (a0 : (List K_sisi)) (a2001 : ByteArray) (a2002 : Int) (a2003 : ByteArray) (a2004 : Int) (i_1005000_0 : Int)  : St := ⟨[(0, (.one (.bor l0_0 (List.map b_sisi a0)))), (1, (.clo 49 [] [(.bptr l2000 [(.val (.string a2001)), (.val (.int .i64 a2002)), (.val (.string a2003)), (.val (.int .i64 a2004))])])), (7, (.one (.val (.int .i64 ((List.length (List.map b_sisi a0)) : Int))))), (8, (.one (.val (.int .i64 i_1005000_0))))], []⟩
def ex1005000_0 : O1005000_0 → VX.Exit
  | .k0 _ _ => (.exit 0)
  | .k1 _ => .ret
def fin1005000_0 (l0_0 : Nat) (l2000 : Nat) (a0 : (List K_sisi)) (a2001 : ByteArray) (a2002 : Int) (a2003 : ByteArray) (a2004 : Int) : O1005000_0 → St
  | .k0 w0 w1 => ⟨[(0, (.one (.bor l0_0 (List.map b_sisi a0)))), (1, (.clo 49 [] [(.bptr l2000 [(.val (.string a2001)), (.val (.int .i64 a2002)), (.val (.string a2003)), (.val (.int .i64 a2004))])])), (7, (.one (.val (.int .i64 ((List.length (List.map b_sisi a0)) : Int))))), (8, (.one (.val (.int .i64 w0)))), (9, (.one (.val (.bool w1))))], []⟩
  | .k1 w0 => ⟨[(4, (.one (.val (.int .i64 w0))))], []⟩
theorem t1005000_0 {l0_0 : Nat} {l2000 : Nat} {a0 : (List K_sisi)} {a2001 : ByteArray} {a2002 : Int} {a2003 : ByteArray} {a2004 : Int} (hy0 : List.length a0 * 48 ≤ 140737488351232) : ∀ (l0_1005000_0 : List K_sisi) (p_1005000_0 : List K_sisi) , p_1005000_0 ++ l0_1005000_0 = a0 → Ev F X (.code l50_0 (h1005000_0 l0_0 l2000 a0 a2001 a2002 a2003 a2004 (List.length p_1005000_0 : Int) ) (ex1005000_0 (r1005000_0 a0 a2002 l0_1005000_0 (List.length p_1005000_0 : Int) )) (fin1005000_0 l0_0 l2000 a0 a2001 a2002 a2003 a2004 (r1005000_0 a0 a2002 l0_1005000_0 (List.length p_1005000_0 : Int) )))
  | [], p_1005000_0, hp0 => by
    have hc : ¬ (decide ((List.length p_1005000_0 : Int) < ((List.length (List.map b_sisi a0)) : Int))) = true := by
      rw [← hp0]; simp only [List.length_map, List.length_set, List.length_append, List.length_replicate, List.length_cons, List.length_nil, decide_eq_true_eq]; omega
    have st := ch b50_0 (h1005000_0 l0_0 l2000 a0 a2001 a2002 a2003 a2004 (List.length p_1005000_0 : Int) ) ⟨[(0, (.one (.bor l0_0 (List.map b_sisi a0)))), (1, (.clo 49 [] [(.bptr l2000 [(.val (.string a2001)), (.val (.int .i64 a2002)), (.val (.string a2003)), (.val (.int .i64 a2004))])])), (7, (.one (.val (.int .i64 ((List.length (List.map b_sisi a0)) : Int))))), (8, (.one (.val (.int .i64 (List.length p_1005000_0 : Int))))), (9, (.one (.val (.bool (decide ((List.length p_1005000_0 : Int) < ((List.length (List.map b_sisi a0)) : Int)))))))], []⟩ (.exit 0) 3 (by kernel_rfl) (.f (nt hc) (.h 2 (.b false) .nil))
    rw [show (⟨[(0, (.one (.bor l0_0 (List.map b_sisi a0)))), (1, (.clo 49 [] [(.bptr l2000 [(.val (.string a2001)), (.val (.int .i64 a2002)), (.val (.string a2003)), (.val (.int .i64 a2004))])])), (7, (.one (.val (.int .i64 ((List.length (List.map b_sisi a0)) : Int))))), (8, (.one (.val (.int .i64 (List.length p_1005000_0 : Int))))), (9, (.one (.val (.bool (decide ((List.length p_1005000_0 : Int) < ((List.length (List.map b_sisi a0)) : Int)))))))], []⟩ : St) = fin1005000_0 l0_0 l2000 a0 a2001 a2002 a2003 a2004 (.k0 (List.length p_1005000_0 : Int) (decide ((List.length p_1005000_0 : Int) < ((List.length (List.map b_sisi a0)) : Int)))) from by first | rfl | (unfold fin1005000_0; simp [byteRows_eq, ints_y, List.take_of_length_le, d_sisi, d_LsisiEi, d_i, d_b, d_s, d_iisiiii, d_iLsELiisiiiiELsisiEi, d_LsisiE, d_LsE, d_LiisiiiiE, d_y, fromBR_sisi, fromBR_i, fromBR_b, fromBR_s, fromBR_iisiiii, fromBR_y]; done)] at st
    exact .loopX st (show ((.exit 0) : VX.Exit) ≠ .normal from by simp)
  | x0_1005000_0 :: l0_1005000_0, p_1005000_0, hp0 => by
    have hc : (decide ((List.length p_1005000_0 : Int) < ((List.length (List.map b_sisi a0)) : Int))) = true := by
      rw [← hp0]; simp only [List.length_map, List.length_set, List.length_append, List.length_replicate, List.length_cons, List.length_nil, decide_eq_true_eq]; omega
    have Hx0_1005000_0 : (a0)[Int.toNat (List.length p_1005000_0 : Int)]? = some x0_1005000_0 := by
      rw [← hp0, Int.toNat_natCast]; simp
    have hlen : List.length (a0) = List.length p_1005000_0 + List.length l0_1005000_0 + 1 := by rw [← hp0]; simp; omega
    have hw : IntKind.wrap .i64 ((List.length p_1005000_0 : Int) + 1) = (List.length p_1005000_0 : Int) + 1 := wrap64 (by omega)
    simp only [r1005000_0]
    have f1 : 0 ≤ (List.length p_1005000_0 : Int) := (by first | exact True.intro | with_reducible rfl | with_reducible assumption | omega | (simp only [decide_eq_true_eq] at *; omega) | (simp only [List.length_map, List.length_set, List.length_append, List.length_replicate, List.length_cons, List.length_nil]; omega) | (simp; omega) | (simp [List.take_of_length_le]; done) | assumption | trivial | (simp [*, byteRows_eq, ints_y]; done))
    have P1 {hs q} (r : PS F X hs q) := (PS.f hc (.f f1 (.f (mp_ b_sisi Hx0_1005000_0) (.h 2 (.b true) (.h 14 (.row [(.val (.string x0_1005000_0.f0)), (.val (.int .i64 x0_1005000_0.f1)), (.val (.string x0_1005000_0.f2)), (.val (.int .i64 x0_1005000_0.f3))]) (.r 18 [] [] (e1004900 (l101000 := (l2000 + 1)) (a0 := x0_1005000_0) (a101001 := a2001) (a101002 := a2002) (a101003 := a2003) (a101004 := a2004)) r))))))
    by_cases h_1005000_0_1 : (a2002 == x0_1005000_0.f1) = true
    · try simp only [if_pos h_1005000_0_1]
      have st := ch b50_0 (h1005000_0 l0_0 l2000 a0 a2001 a2002 a2003 a2004 (List.length p_1005000_0 : Int) ) ⟨[(4, (.one (.val (.int .i64 (List.length p_1005000_0 : Int)))))], []⟩ .ret 24 (by kernel_rfl) (P1 (.f h_1005000_0_1 (.h 19 (.b true) .nil)))
      rw [show (⟨[(4, (.one (.val (.int .i64 (List.length p_1005000_0 : Int)))))], []⟩ : St) = fin1005000_0 l0_0 l2000 a0 a2001 a2002 a2003 a2004 (.k1 (List.length p_1005000_0 : Int)) from by first | rfl | (unfold fin1005000_0; simp [byteRows_eq, ints_y, List.take_of_length_le, d_sisi, d_LsisiEi, d_i, d_b, d_s, d_iisiiii, d_iLsELiisiiiiELsisiEi, d_LsisiE, d_LsE, d_LiisiiiiE, d_y, fromBR_sisi, fromBR_i, fromBR_b, fromBR_s, fromBR_iisiiii, fromBR_y]; done)] at st
      exact .loopX st (show (.ret : VX.Exit) ≠ .normal from by simp)
    · try simp only [if_neg h_1005000_0_1]
      have st := ch b50_0 (h1005000_0 l0_0 l2000 a0 a2001 a2002 a2003 a2004 (List.length p_1005000_0 : Int) ) ⟨[(0, (.one (.bor l0_0 (List.map b_sisi a0)))), (1, (.clo 49 [] [(.bptr l2000 [(.val (.string a2001)), (.val (.int .i64 a2002)), (.val (.string a2003)), (.val (.int .i64 a2004))])])), (7, (.one (.val (.int .i64 ((List.length (List.map b_sisi a0)) : Int))))), (8, (.one (.val (.int .i64 (IntKind.wrap .i64 ((List.length p_1005000_0 : Int) + 1))))))], []⟩ .normal 24 (by kernel_rfl) (P1 (.f (nt h_1005000_0_1) (.f trivial (.h 19 (.b false) .nil))))
      have ih := t1005000_0 (l0_0 := l0_0) (l2000 := l2000) (a0 := a0) (a2001 := a2001) (a2002 := a2002) (a2003 := a2003) (a2004 := a2004) hy0 l0_1005000_0 (p_1005000_0 ++ [x0_1005000_0])  (by rw [List.append_assoc]; exact hp0)
      rw [show ((p_1005000_0 ++ [x0_1005000_0]).length : Int) = (p_1005000_0.length : Int) + 1 from by simp] at ih
      rw [show (⟨[(0, (.one (.bor l0_0 (List.map b_sisi a0)))), (1, (.clo 49 [] [(.bptr l2000 [(.val (.string a2001)), (.val (.int .i64 a2002)), (.val (.string a2003)), (.val (.int .i64 a2004))])])), (7, (.one (.val (.int .i64 ((List.length (List.map b_sisi a0)) : Int))))), (8, (.one (.val (.int .i64 (IntKind.wrap .i64 ((List.length p_1005000_0 : Int) + 1))))))], []⟩ : St) = h1005000_0 l0_0 l2000 a0 a2001 a2002 a2003 a2004 ((List.length p_1005000_0 : Int) + 1)  from by first | (unfold h1005000_0; simp only [hw]; done) | (unfold h1005000_0; simp only [hw, List.length_map, List.length_set, List.length_append, List.length_replicate, List.length_cons, List.length_nil]; done) | (unfold h1005000_0; simp [hw, byteRows_eq, ints_y, List.take_of_length_le, d_sisi, d_LsisiEi, d_i, d_b, d_s, d_iisiiii, d_iLsELiisiiiiELsisiEi, d_LsisiE, d_LsE, d_LiisiiiiE, d_y, fromBR_sisi, fromBR_i, fromBR_b, fromBR_s, fromBR_iisiiii, fromBR_y]; done)] at st
      exact .loopN st ih
/-! slices.IndexFunc[[]loop.example/g00539/impl.Session,loop.example/g00539/impl.Session] -/
def m1005000 (a0 : (List K_sisi)) (a2001 : ByteArray) (a2002 : Int) (a2003 : ByteArray) (a2004 : Int) : Int :=
  (match r1005000_0 a0 a2002 a0 0 with | .k0 w0_1005000_0_0 w1_1005000_0_0 => (-1) | .k1 w0_1005000_0_0 => w0_1005000_0_0)
theorem e1005000 {l0_0 : Nat} {a0 : (List K_sisi)} {l2000 : Nat} {a2001 : ByteArray} {a2002 : Int} {a2003 : ByteArray} {a2004 : Int} (hy0 : List.length a0 * 48 ≤ 140737488351232) : Ev F X (.call 50 [(.one (.bor l0_0 (List.map b_sisi a0))), (.clo 49 [] [(.bptr l2000 [(.val (.string a2001)), (.val (.int .i64 a2002)), (.val (.string a2003)), (.val (.int .i64 a2004))])])] [] [] [(.one (.val (.int .i64 (m1005000 a0 a2001 a2002 a2003 a2004))))]) := by
  unfold m1005000
  cases h0 : r1005000_0 a0 a2002 a0 0 with
  | k0 w0_1005000_0_0 w1_1005000_0_0 =>
    try dsimp only
    have f0 : (⟨[(0, (.one (.bor l0_0 (List.map b_sisi a0)))), (1, (.clo 49 [] [(.bptr l2000 [(.val (.string a2001)), (.val (.int .i64 a2002)), (.val (.string a2003)), (.val (.int .i64 a2004))])])), (7, (.one (.val (.int .i64 ((List.length (List.map b_sisi a0)) : Int))))), (8, (.one (.val (.int .i64 0))))], []⟩ : St) = h1005000_0 l0_0 l2000 a0 a2001 a2002 a2003 a2004 0  := (by first | rfl | (unfold h1005000_0; simp [byteRows_eq, ints_y, List.take_of_length_le, d_sisi, d_LsisiEi, d_i, d_b, d_s, d_iisiiii, d_iLsELiisiiiiELsisiEi, d_LsisiE, d_LsE, d_LiisiiiiE, d_y, fromBR_sisi, fromBR_i, fromBR_b, fromBR_s, fromBR_iisiiii, fromBR_y]; done))
    exact cp (by kernel_rfl) (.f f0 (.f (ev_ (e := ex1005000_0) (g := (fin1005000_0 l0_0 l2000 a0 a2001 a2002 a2003 a2004)) h0 (t1005000_0 (l0_0 := l0_0) (l2000 := l2000) (a0 := a0) (a2001 := a2001) (a2002 := a2002) (a2003 := a2003) (a2004 := a2004) (by first | assumption | omega) a0 []  rfl)) (.h 8 (.loop (h1005000_0 l0_0 l2000 a0 a2001 a2002 a2003 a2004 0 ) (.exit 0) ⟨[(0, (.one (.bor l0_0 (List.map b_sisi a0)))), (1, (.clo 49 [] [(.bptr l2000 [(.val (.string a2001)), (.val (.int .i64 a2002)), (.val (.string a2003)), (.val (.int .i64 a2004))])])), (7, (.one (.val (.int .i64 ((List.length (List.map b_sisi a0)) : Int))))), (8, (.one (.val (.int .i64 w0_1005000_0_0)))), (9, (.one (.val (.bool w1_1005000_0_0))))], []⟩) .nil)))
  | k1 w0_1005000_0_0 =>
    try dsimp only
    have f0 : (⟨[(0, (.one (.bor l0_0 (List.map b_sisi a0)))), (1, (.clo 49 [] [(.bptr l2000 [(.val (.string a2001)), (.val (.int .i64 a2002)), (.val (.string a2003)), (.val (.int .i64 a2004))])])), (7, (.one (.val (.int .i64 ((List.length (List.map b_sisi a0)) : Int))))), (8, (.one (.val (.int .i64 0))))], []⟩ : St) = h1005000_0 l0_0 l2000 a0 a2001 a2002 a2003 a2004 0  := (by first | rfl | (unfold h1005000_0; simp [byteRows_eq, ints_y, List.take_of_length_le, d_sisi, d_LsisiEi, d_i, d_b, d_s, d_iisiiii, d_iLsELiisiiiiELsisiEi, d_LsisiE, d_LsE, d_LiisiiiiE, d_y, fromBR_sisi, fromBR_i, fromBR_b, fromBR_s, fromBR_iisiiii, fromBR_y]; done))
    exact cp (by kernel_rfl) (.f f0 (.f (ev_ (e := ex1005000_0) (g := (fin1005000_0 l0_0 l2000 a0 a2001 a2002 a2003 a2004)) h0 (t1005000_0 (l0_0 := l0_0) (l2000 := l2000) (a0 := a0) (a2001 := a2001) (a2002 := a2002) (a2003 := a2003) (a2004 := a2004) (by first | assumption | omega) a0 []  rfl)) (.h 8 (.loop (h1005000_0 l0_0 l2000 a0 a2001 a2002 a2003 a2004 0 ) .ret ⟨[(4, (.one (.val (.int .i64 w0_1005000_0_0))))], []⟩) .nil)))
theorem ixr1005000_0 (a0 : (List K_sisi)) (a2002 : Int) : ∀ (l : List K_sisi) (i : Int), (∃ (w0 : _) (w1 : _), r1005000_0 a0 a2002 l i = .k0 w0 w1) ∨ (∃ w, r1005000_0 a0 a2002 l i = .k1 w ∧ i ≤ w ∧ w < i + l.length)
  | [], i => .inl ⟨i, (decide (i < ((List.length (List.map b_sisi a0)) : Int))), rfl⟩
  | x :: l, i => by
    have ih := ixr1005000_0 a0 a2002 l (i + 1)
    simp only [r1005000_0]
    (repeat' split)
    all_goals first
      | exact .inr ⟨i, rfl, by omega, by simp only [List.length_cons]; omega⟩
      | (rcases ih with ⟨w0, w1, h⟩ | ⟨w, h, h1, h2⟩
         · exact .inl ⟨w0, w1, h⟩
         · exact .inr ⟨w, h, by omega, by simp only [List.length_cons]; omega⟩)
theorem ix1005000 (a0 : (List K_sisi)) (a2001 : ByteArray) (a2002 : Int) (a2003 : ByteArray) (a2004 : Int) : -1 ≤ m1005000 a0 a2001 a2002 a2003 a2004 ∧ m1005000 a0 a2001 a2002 a2003 a2004 < (List.length a0 : Int) := by
  unfold m1005000
  rcases ixr1005000_0 a0 a2002 a0 0 with ⟨w0, w1, h⟩ | ⟨w, h, h1, h2⟩ <;> simp only [h] <;> omega
/-! slices.ContainsFunc[[]loop.example/g00539/impl.Session,loop.example/g00539/impl.Session] -/
def m1004200 (a0 : (List K_sisi)) (a2001 : ByteArray) (a2002 : Int) (a2003 : ByteArray) (a2004 : Int) : Bool :=
  (decide ((m1005000 a0 a2001 a2002 a2003 a2004) ≥ 0))
theorem e1004200 {l0_0 : Nat} {a0 : (List K_sisi)} {l2000 : Nat} {a2001 : ByteArray} {a2002 : Int} {a2003 : ByteArray} {a2004 : Int} (hy0 : List.length a0 * 48 ≤ 140737488351232) : Ev F X (.call 42 [(.one (.bor l0_0 (List.map b_sisi a0))), (.clo 49 [] [(.bptr l2000 [(.val (.string a2001)), (.val (.int .i64 a2002)), (.val (.string a2003)), (.val (.int .i64 a2004))])])] [] [] [(.one (.val (.bool (decide ((m1005000 a0 a2001 a2002 a2003 a2004) ≥ 0)))))]) := by
  have f0 : Ev F X (.call 50 [(.one (.bor (l0_0 + 1) (List.map b_sisi a0))), (.clo 49 [] [(.bptr (l2000 + 1) [(.val (.string a2001)), (.val (.int .i64 a2002)), (.val (.string a2003)), (.val (.int .i64 a2004))])])] [] [] [(.one (.val (.int .i64 (m1005000 a0 a2001 a2002 a2003 a2004))))]) := (e1005000 (a0 := a0) (a2001 := a2001) (a2002 := a2002) (a2003 := a2003) (a2004 := a2004) (by first | with_reducible assumption | omega | assumption | (simp only [List.length_map]; omega) | (simp; omega)))
  exact cp (by kernel_rfl) (.r 7 [] [] f0 .nil)
/-! loop.example/g00539/impl.sessionFault -/
def m41 (a0 : K_sisi) (a1 : (List K_sisi)) : Int :=
  if (decide ((ByteArray.size a0.f0 : Int) > 161)) = true then 5 else
  if (decide ((idxB a0.f0 10) ≥ 0)) = true then 5 else
    if (!(m53 a0.f2)) = true then 5 else
      if (!(m34 a0.f1 (-1) 998)) = true then 3 else
        if (!(m34 a0.f3 1 9999)) = true then 3 else
          if (!(a0.f2.toList == (⟨#[]⟩ : ByteArray).toList)) = true then (if (a0.f1 == (-1)) = true then 1 else
              if (a0.f1 != (-1)) = true then (if (decide ((m1005000 a1 a0.f0 a0.f1 a0.f2 a0.f3) ≥ 0)) = true then 6 else
                  0) else
                0) else
            if (a0.f1 != (-1)) = true then (if (decide ((m1005000 a1 a0.f0 a0.f1 a0.f2 a0.f3) ≥ 0)) = true then 6 else
                0) else
              0
theorem e41 {a0 : K_sisi} {l1_0 : Nat} {a1 : (List K_sisi)} (hy0 : List.length a1 * 48 ≤ 140737488351232) : Ev F X (.call 41 [(.agg [(.val (.string a0.f0)), (.val (.int .i64 a0.f1)), (.val (.string a0.f2)), (.val (.int .i64 a0.f3))]), (.one (.bor l1_0 (List.map b_sisi a1)))] [] [] [(.one (.val (.int .i64 (m41 a0 a1))))]) := by
  unfold m41
  by_cases h0 : (decide ((ByteArray.size a0.f0 : Int) > 161)) = true
  · try simp only [if_pos h0]
    exact cp (by kernel_rfl) (.f h0 (.f h0 (.f h0 (.f h0 (.f h0 (.h 14 (.b true) (.h 16 (.b true) (.h 18 (.b true) (.h 20 (.b true) (.h 23 (.b true) .nil))))))))))
  · try simp only [if_neg h0]
    have f3 : Ev F X (.call 46 [(.one (.val (.string a0.f0))), (.one (.val (.int .u8 10)))] [] [] [(.one (.val (.int .i64 (idxB a0.f0 10))))]) := (e46 (a0 := a0.f0) (a1 := 10))
    have P1 {hs q} (r : PS F X hs q) := (PS.f (nt h0) (.f (nt h0) (.f (nt h0) (.h 14 (.b false) (.h 16 (.b false) (.h 18 (.b false) (.r 19 [] [] f3 (.f (nt h0) (.f (nt h0) (.h 20 (.b false) (.h 23 (.b false) r)))))))))))
    by_cases h1 : (decide ((idxB a0.f0 10) ≥ 0)) = true
    · try simp only [if_pos h1]
      exact cp (by kernel_rfl) (P1 (.f h1 (.f h1 (.f h1 (.f h1 (.h 26 (.b true) (.h 28 (.b true) (.h 30 (.b true) (.h 33 (.b true) .nil)))))))))
    · try simp only [if_neg h1]
      have P2 {hs q} (r : PS F X hs q) := (P1 (.f (nt h1) (.f (nt h1) (.f (nt h1) (.h 26 (.b false) (.h 28 (.b false) (.h 30 (.b false) (.r 31 [] [] (e47 (a0 := a0.f2)) (.f (nt h1) (.h 33 (.b false) r))))))))))
      by_cases h2 : (!(m53 a0.f2)) = true
      · try simp only [if_pos h2]
        exact cp (by kernel_rfl) (P2 (.f h2 (.h 36 (.b true) .nil)))
      · try simp only [if_neg h2]
        have P3 {hs q} (r : PS F X hs q) := (P2 (.f (nt h2) (.h 36 (.b false) (.r 42 [] [] (e34 (a0 := a0.f1) (a1 := (-1)) (a2 := 998)) r))))
        by_cases h3 : (!(m34 a0.f1 (-1) 998)) = true
        · try simp only [if_pos h3]
          exact cp (by kernel_rfl) (P3 (.f h3 (.f h3 (.f h3 (.f h3 (.f h3 (.h 47 (.b true) (.h 49 (.b true) (.h 51 (.b true) (.h 53 (.b true) (.h 56 (.b true) .nil)))))))))))
        · try simp only [if_neg h3]
          have P4 {hs q} (r : PS F X hs q) := (P3 (.f (nt h3) (.f (nt h3) (.f (nt h3) (.h 47 (.b false) (.h 49 (.b false) (.h 51 (.b false) (.r 52 [] [] (e48 (a0 := a0.f3)) (.f (nt h3) (.f (nt h3) (.h 53 (.b false) (.h 56 (.b false) r))))))))))))
          by_cases h4 : (!(m34 a0.f3 1 9999)) = true
          · try simp only [if_pos h4]
            exact cp (by kernel_rfl) (P4 (.f h4 (.h 59 (.b true) .nil)))
          · try simp only [if_neg h4]
            have P5 {hs q} (r : PS F X hs q) := (P4 (.f (nt h4) (.h 59 (.b false) r)))
            by_cases h5 : (!(a0.f2.toList == (⟨#[]⟩ : ByteArray).toList)) = true
            · try simp only [if_pos h5]
              have P6 {hs q} (r : PS F X hs q) := (P5 (.f h5 (.f h5 (.f h5 (.f h5 (.h 68 (.b true) (.h 70 (.b true) (.h 72 (.b true) (.h 75 (.b true) r)))))))))
              by_cases h6 : (a0.f1 == (-1)) = true
              · try simp only [if_pos h6]
                exact cp (by kernel_rfl) (P6 (.f h6 (.h 78 (.b true) .nil)))
              · try simp only [if_neg h6]
                by_cases h7 : (a0.f1 != (-1)) = true
                · try simp only [if_pos h7]
                  have f28 : fullL [(.val (.string a0.f0)), (.val (.int .i64 a0.f1)), (.val (.string a0.f2)), (.val (.int .i64 a0.f3))] = true := (by first | exact True.intro | with_reducible rfl | with_reducible assumption | omega | (simp only [List.length_map, List.length_set, List.length_append, List.length_replicate, List.length_cons, List.length_nil]; omega) | (simp; done) | (simp; omega) | (simp [List.take_of_length_le]; done) | (simp [← List.map_take, ← List.map_drop]; done) | assumption | trivial | (simp [*, byteRows_eq, ints_y]; done))
                  have f29 : Ev F X (.call 42 [(.one (.bor (l1_0 + 1) (List.map b_sisi a1))), (.clo 49 [] [(.bptr 0 [(.val (.string a0.f0)), (.val (.int .i64 a0.f1)), (.val (.string a0.f2)), (.val (.int .i64 a0.f3))])])] [] [] [(.one (.val (.bool (decide ((m1005000 a1 a0.f0 a0.f1 a0.f2 a0.f3) ≥ 0)))))]) := (e1004200 (a0 := a1) (a2001 := a0.f0) (a2002 := a0.f1) (a2003 := a0.f2) (a2004 := a0.f3) (by first | with_reducible assumption | omega | assumption | (simp only [List.length_map]; omega) | (simp; omega)))
                  have P8 {hs q} (r : PS F X hs q) := (P6 (.f (nt h6) (.f h7 (.f h7 (.f h7 (.f f28 (.h 78 (.b false) (.h 87 (.b true) (.h 89 (.b true) (.h 91 (.b true) (.r 92 [] [] f29 (.f h7 (.h 94 (.b true) r)))))))))))))
                  by_cases h8 : (decide ((m1005000 a1 a0.f0 a0.f1 a0.f2 a0.f3) ≥ 0)) = true
                  · try simp only [if_pos h8]
                    exact cp (by kernel_rfl) (P8 (.f h8 (.h 97 (.b true) .nil)))
                  · try simp only [if_neg h8]
                    exact cp (by kernel_rfl) (P8 (.f (nt h8) (.h 97 (.b false) .nil)))
                · try simp only [if_neg h7]
                  exact cp (by kernel_rfl) (P6 (.f (nt h6) (.f (nt h7) (.f (nt h7) (.f (nt h7) (.f (nt h7) (.h 78 (.b false) (.h 87 (.b false) (.h 89 (.b false) (.h 91 (.b false) (.h 94 (.b false) .nil)))))))))))
            · try simp only [if_neg h5]
              have P6 {hs q} (r : PS F X hs q) := (P5 (.f (nt h5) (.f (nt h5) (.f (nt h5) (.f (nt h5) (.h 68 (.b false) (.h 70 (.b false) (.h 72 (.b false) (.h 75 (.b false) r)))))))))
              by_cases h6 : (a0.f1 != (-1)) = true
              · try simp only [if_pos h6]
                have f27 : fullL [(.val (.string a0.f0)), (.val (.int .i64 a0.f1)), (.val (.string a0.f2)), (.val (.int .i64 a0.f3))] = true := (by first | exact True.intro | with_reducible rfl | with_reducible assumption | omega | (simp only [List.length_map, List.length_set, List.length_append, List.length_replicate, List.length_cons, List.length_nil]; omega) | (simp; done) | (simp; omega) | (simp [List.take_of_length_le]; done) | (simp [← List.map_take, ← List.map_drop]; done) | assumption | trivial | (simp [*, byteRows_eq, ints_y]; done))
                have f28 : Ev F X (.call 42 [(.one (.bor (l1_0 + 1) (List.map b_sisi a1))), (.clo 49 [] [(.bptr 0 [(.val (.string a0.f0)), (.val (.int .i64 a0.f1)), (.val (.string a0.f2)), (.val (.int .i64 a0.f3))])])] [] [] [(.one (.val (.bool (decide ((m1005000 a1 a0.f0 a0.f1 a0.f2 a0.f3) ≥ 0)))))]) := (e1004200 (a0 := a1) (a2001 := a0.f0) (a2002 := a0.f1) (a2003 := a0.f2) (a2004 := a0.f3) (by first | with_reducible assumption | omega | assumption | (simp only [List.length_map]; omega) | (simp; omega)))
                have P7 {hs q} (r : PS F X hs q) := (P6 (.f h6 (.f h6 (.f h6 (.f f27 (.h 87 (.b true) (.h 89 (.b true) (.h 91 (.b true) (.r 92 [] [] f28 (.f h6 (.h 94 (.b true) r)))))))))))
                by_cases h7 : (decide ((m1005000 a1 a0.f0 a0.f1 a0.f2 a0.f3) ≥ 0)) = true
                · try simp only [if_pos h7]
                  exact cp (by kernel_rfl) (P7 (.f h7 (.h 97 (.b true) .nil)))
                · try simp only [if_neg h7]
                  exact cp (by kernel_rfl) (P7 (.f (nt h7) (.h 97 (.b false) .nil)))
              · try simp only [if_neg h6]
                exact cp (by kernel_rfl) (P6 (.f (nt h6) (.f (nt h6) (.f (nt h6) (.f (nt h6) (.h 87 (.b false) (.h 89 (.b false) (.h 91 (.b false) (.h 94 (.b false) .nil)))))))))
/-! loop 33_0 -/
inductive O33_0 where
  | k0 (w0 : Int) (w1 : Bool)
  | k1 (w0 : Int)
def r33_0 (a0 : K_LsisiEi) : List K_sisi → Int → O33_0
  | x0_33_0 :: l0_33_0, i_33_0 =>
    if ((m41 x0_33_0 (List.take (Int.toNat i_33_0) a0.f0)) != 0) = true then (O33_0.k1 (m41 x0_33_0 (List.take (Int.toNat i_33_0) a0.f0))) else
    (r33_0 a0 l0_33_0 (i_33_0 + 1) )
  | [], i_33_0 => (O33_0.k0 i_33_0 (decide (i_33_0 < ((List.length (List.map b_sisi a0.f0)) : Int))))
def h33_0 (l0_0 : Nat) (a0 : K_LsisiEi) (i_33_0 : Int)  : St := ⟨[(1, (.ptr ⟨(1, 0, 0), [], 0, 0, 2⟩)), (11, (.one (.bor l0_0 (List.map b_sisi a0.f0)))), (12, (.one (.val (.int .i64 ((List.length (List.map b_sisi a0.f0)) : Int))))), (13, (.one (.val (.int .i64 i_33_0))))], [((1, 0, 0), .live ⟨2, [[(.bor l0_0 (List.map b_sisi a0.f0)), (.val (.int .i64 a0.f1))]], []⟩)]⟩
def ex33_0 : O33_0 → VX.Exit
  | .k0 _ _ => (.exit 0)
  | .k1 _ => .ret
def fin33_0 (l0_0 : Nat) (a0 : K_LsisiEi) : O33_0 → St
  | .k0 w0 w1 => ⟨[(1, (.ptr ⟨(1, 0, 0), [], 0, 0, 2⟩)), (11, (.one (.bor l0_0 (List.map b_sisi a0.f0)))), (12, (.one (.val (.int .i64 ((List.length (List.map b_sisi a0.f0)) : Int))))), (13, (.one (.val (.int .i64 w0)))), (14, (.one (.val (.bool w1))))], [((1, 0, 0), .live ⟨2, [[(.bor l0_0 (List.map b_sisi a0.f0)), (.val (.int .i64 a0.f1))]], []⟩)]⟩
  | .k1 w0 => ⟨[(2, (.one (.val (.int .i64 w0))))], []⟩
theorem t33_0 {l0_0 : Nat} {a0 : K_LsisiEi} (hy0 : List.length a0.f0 * 48 ≤ 140737488351232) : ∀ (l0_33_0 : List K_sisi) (p_33_0 : List K_sisi) , p_33_0 ++ l0_33_0 = a0.f0 → Ev F X (.code l33_0 (h33_0 l0_0 a0 (List.length p_33_0 : Int) ) (ex33_0 (r33_0 a0 l0_33_0 (List.length p_33_0 : Int) )) (fin33_0 l0_0 a0 (r33_0 a0 l0_33_0 (List.length p_33_0 : Int) )))
  | [], p_33_0, hp0 => by
    have hc : ¬ (decide ((List.length p_33_0 : Int) < ((List.length (List.map b_sisi a0.f0)) : Int))) = true := by
      rw [← hp0]; simp only [List.length_map, List.length_set, List.length_append, List.length_replicate, List.length_cons, List.length_nil, decide_eq_true_eq]; omega
    have st := ch b33_0 (h33_0 l0_0 a0 (List.length p_33_0 : Int) ) ⟨[(1, (.ptr ⟨(1, 0, 0), [], 0, 0, 2⟩)), (11, (.one (.bor l0_0 (List.map b_sisi a0.f0)))), (12, (.one (.val (.int .i64 ((List.length (List.map b_sisi a0.f0)) : Int))))), (13, (.one (.val (.int .i64 (List.length p_33_0 : Int))))), (14, (.one (.val (.bool (decide ((List.length p_33_0 : Int) < ((List.length (List.map b_sisi a0.f0)) : Int)))))))], [((1, 0, 0), .live ⟨2, [[(.bor l0_0 (List.map b_sisi a0.f0)), (.val (.int .i64 a0.f1))]], []⟩)]⟩ (.exit 0) 3 (by kernel_rfl) (.f (nt hc) (.h 2 (.b false) .nil))
    rw [show (⟨[(1, (.ptr ⟨(1, 0, 0), [], 0, 0, 2⟩)), (11, (.one (.bor l0_0 (List.map b_sisi a0.f0)))), (12, (.one (.val (.int .i64 ((List.length (List.map b_sisi a0.f0)) : Int))))), (13, (.one (.val (.int .i64 (List.length p_33_0 : Int))))), (14, (.one (.val (.bool (decide ((List.length p_33_0 : Int) < ((List.length (List.map b_sisi a0.f0)) : Int)))))))], [((1, 0, 0), .live ⟨2, [[(.bor l0_0 (List.map b_sisi a0.f0)), (.val (.int .i64 a0.f1))]], []⟩)]⟩ : St) = fin33_0 l0_0 a0 (.k0 (List.length p_33_0 : Int) (decide ((List.length p_33_0 : Int) < ((List.length (List.map b_sisi a0.f0)) : Int)))) from by first | rfl | (unfold fin33_0; simp [byteRows_eq, ints_y, List.take_of_length_le, d_sisi, d_LsisiEi, d_i, d_b, d_s, d_iisiiii, d_iLsELiisiiiiELsisiEi, d_LsisiE, d_LsE, d_LiisiiiiE, d_y, fromBR_sisi, fromBR_i, fromBR_b, fromBR_s, fromBR_iisiiii, fromBR_y]; done)] at st
    exact .loopX st (show ((.exit 0) : VX.Exit) ≠ .normal from by simp)
  | x0_33_0 :: l0_33_0, p_33_0, hp0 => by
    have hc : (decide ((List.length p_33_0 : Int) < ((List.length (List.map b_sisi a0.f0)) : Int))) = true := by
      rw [← hp0]; simp only [List.length_map, List.length_set, List.length_append, List.length_replicate, List.length_cons, List.length_nil, decide_eq_true_eq]; omega
    have Hx0_33_0 : (a0.f0)[Int.toNat (List.length p_33_0 : Int)]? = some x0_33_0 := by
      rw [← hp0, Int.toNat_natCast]; simp
    have hlen : List.length (a0.f0) = List.length p_33_0 + List.length l0_33_0 + 1 := by rw [← hp0]; simp; omega
    have hw : IntKind.wrap .i64 ((List.length p_33_0 : Int) + 1) = (List.length p_33_0 : Int) + 1 := wrap64 (by omega)
    simp only [r33_0]
    have f1 : 0 ≤ (List.length p_33_0 : Int) := (by first | exact True.intro | with_reducible rfl | with_reducible assumption | omega | (simp only [decide_eq_true_eq] at *; omega) | (simp only [List.length_map, List.length_set, List.length_append, List.length_replicate, List.length_cons, List.length_nil]; omega) | (simp; omega) | (simp [List.take_of_length_le]; done) | assumption | trivial | (simp [*, byteRows_eq, ints_y]; done))
    have f3 : (0 ≤ (0 : Int) ∧ (0 : Int) ≤ (List.length p_33_0 : Int) ∧ (List.length p_33_0 : Int) ≤ ((List.length (List.map b_sisi a0.f0)) : Int)) ∧ ∀ r ∈ ((List.map b_sisi a0.f0) : List (List B)), r.length = 4 := (by first | exact True.intro | with_reducible rfl | with_reducible assumption | omega | exact lenB_sisi _ | (intro r hr; exact lenB_sisi _ r (List.mem_of_mem_drop (List.mem_of_mem_take hr))) | (refine ⟨?_, lenB_sisi _⟩; simp only [List.length_map, List.length_set, List.length_append, List.length_replicate, List.length_cons, List.length_nil]; omega) | (refine ⟨by simp; omega, lenB_sisi _⟩) | (simp only [List.length_map, List.length_set, List.length_append, List.length_replicate, List.length_cons, List.length_nil]; omega) | (simp; done) | (simp; omega) | (simp [List.take_of_length_le]; done) | (simp [← List.map_take, ← List.map_drop]; done) | assumption | trivial | (simp [*, b_sisi, d_sisi, byteRows_eq, ints_y]; done))
    have f4 : Ev F X (.call 41 [(.agg [(.val (.string x0_33_0.f0)), (.val (.int .i64 x0_33_0.f1)), (.val (.string x0_33_0.f2)), (.val (.int .i64 x0_33_0.f3))]), (.one (.bor (l0_0 + 1) (List.take (Int.toNat (List.length p_33_0 : Int) - Int.toNat 0) (List.drop 0 (List.map b_sisi a0.f0)))))] [] [] [(.one (.val (.int .i64 (m41 x0_33_0 (List.take (Int.toNat (List.length p_33_0 : Int)) a0.f0)))))]) := (by rw [show (List.take (Int.toNat (List.length p_33_0 : Int) - Int.toNat 0) (List.drop 0 (List.map b_sisi a0.f0))) = (List.map b_sisi (List.take (Int.toNat (List.length p_33_0 : Int)) a0.f0)) from by first | rfl | (simp [List.map_take, List.map_drop]; done) | (simp [byteRows_eq, List.map_take, List.map_drop]; done) | (simp [*, List.map_take, List.map_drop]; done) | (rw [List.take_of_length_le (by simp only [List.length_drop, List.length_take, List.length_map, Int.toNat_natCast]; omega)]; simp only [← List.map_drop, ← List.map_take])]; exact (e41 (l1_0 := (l0_0 + 1)) (a0 := x0_33_0) (a1 := (List.take (Int.toNat (List.length p_33_0 : Int)) a0.f0)) (by first | with_reducible assumption | omega | assumption | (simp only [List.length_take]; omega) | (simp; omega))))
    have P1 {hs q} (r : PS F X hs q) := (PS.f hc (.f f1 (.f (mp_ b_sisi Hx0_33_0) (.f f3 (.h 2 (.b true) (.h 6 (.row [(.val (.string x0_33_0.f0)), (.val (.int .i64 x0_33_0.f1)), (.val (.string x0_33_0.f2)), (.val (.int .i64 x0_33_0.f3))]) (.r 26 [] [] f4 r)))))))
    by_cases h_33_0_1 : ((m41 x0_33_0 (List.take (Int.toNat (List.length p_33_0 : Int)) a0.f0)) != 0) = true
    · try simp only [if_pos h_33_0_1]
      have st := ch b33_0 (h33_0 l0_0 a0 (List.length p_33_0 : Int) ) ⟨[(2, (.one (.val (.int .i64 (m41 x0_33_0 (List.take (Int.toNat (List.length p_33_0 : Int)) a0.f0))))))], []⟩ .ret 38 (by kernel_rfl) (P1 (.f h_33_0_1 (.h 33 (.b true) .nil)))
      rw [show (⟨[(2, (.one (.val (.int .i64 (m41 x0_33_0 (List.take (Int.toNat (List.length p_33_0 : Int)) a0.f0))))))], []⟩ : St) = fin33_0 l0_0 a0 (.k1 (m41 x0_33_0 (List.take (Int.toNat (List.length p_33_0 : Int)) a0.f0))) from by first | rfl | (unfold fin33_0; simp [byteRows_eq, ints_y, List.take_of_length_le, d_sisi, d_LsisiEi, d_i, d_b, d_s, d_iisiiii, d_iLsELiisiiiiELsisiEi, d_LsisiE, d_LsE, d_LiisiiiiE, d_y, fromBR_sisi, fromBR_i, fromBR_b, fromBR_s, fromBR_iisiiii, fromBR_y]; done)] at st
      exact .loopX st (show (.ret : VX.Exit) ≠ .normal from by simp)
    · try simp only [if_neg h_33_0_1]
      have st := ch b33_0 (h33_0 l0_0 a0 (List.length p_33_0 : Int) ) ⟨[(1, (.ptr ⟨(1, 0, 0), [], 0, 0, 2⟩)), (11, (.one (.bor l0_0 (List.map b_sisi a0.f0)))), (12, (.one (.val (.int .i64 ((List.length (List.map b_sisi a0.f0)) : Int))))), (13, (.one (.val (.int .i64 (IntKind.wrap .i64 ((List.length p_33_0 : Int) + 1))))))], [((1, 0, 0), .live ⟨2, [[(.bor l0_0 (List.map b_sisi a0.f0)), (.val (.int .i64 a0.f1))]], []⟩)]⟩ .normal 38 (by kernel_rfl) (P1 (.f (nt h_33_0_1) (.f trivial (.h 33 (.b false) .nil))))
      have ih := t33_0 (l0_0 := l0_0) (a0 := a0) hy0 l0_33_0 (p_33_0 ++ [x0_33_0])  (by rw [List.append_assoc]; exact hp0)
      rw [show ((p_33_0 ++ [x0_33_0]).length : Int) = (p_33_0.length : Int) + 1 from by simp] at ih
      rw [show (⟨[(1, (.ptr ⟨(1, 0, 0), [], 0, 0, 2⟩)), (11, (.one (.bor l0_0 (List.map b_sisi a0.f0)))), (12, (.one (.val (.int .i64 ((List.length (List.map b_sisi a0.f0)) : Int))))), (13, (.one (.val (.int .i64 (IntKind.wrap .i64 ((List.length p_33_0 : Int) + 1))))))], [((1, 0, 0), .live ⟨2, [[(.bor l0_0 (List.map b_sisi a0.f0)), (.val (.int .i64 a0.f1))]], []⟩)]⟩ : St) = h33_0 l0_0 a0 ((List.length p_33_0 : Int) + 1)  from by first | (unfold h33_0; simp only [hw]; done) | (unfold h33_0; simp only [hw, List.length_map, List.length_set, List.length_append, List.length_replicate, List.length_cons, List.length_nil]; done) | (unfold h33_0; simp [hw, byteRows_eq, ints_y, List.take_of_length_le, d_sisi, d_LsisiEi, d_i, d_b, d_s, d_iisiiii, d_iLsELiisiiiiELsisiEi, d_LsisiE, d_LsE, d_LiisiiiiE, d_y, fromBR_sisi, fromBR_i, fromBR_b, fromBR_s, fromBR_iisiiii, fromBR_y]; done)] at st
      exact .loopN st ih
/-! loop.example/g00539/impl.ServerFault$1 -/
def m1004300 (a0 : K_sisi) (a101001 : List K_sisi) (a101002 : Int) : Bool :=
  (decide (a0.f1 ≥ a101002))
theorem e1004300 {a0 : K_sisi} {l101000 : Nat} {a101001 : List K_sisi} {a101002 : Int} : Ev F X (.call 43 [(.agg [(.val (.string a0.f0)), (.val (.int .i64 a0.f1)), (.val (.string a0.f2)), (.val (.int .i64 a0.f3))]), (.bptr l101000 [(.sl (List.map b_sisi a101001)), (.val (.int .i64 a101002))])] [] [] [(.one (.val (.bool (decide (a0.f1 ≥ a101002)))))]) := by
  exact cp (by kernel_rfl) .nil
/-! loop 1005001_0 -/
inductive O1005001_0 where
  | k0 (w0 : Int) (w1 : Bool)
  | k1 (w0 : Int)
def r1005001_0 (a0 : (List K_sisi)) (a2002 : Int) : List K_sisi → Int → O1005001_0
  | x0_1005001_0 :: l0_1005001_0, i_1005001_0 =>
    if (decide (x0_1005001_0.f1 ≥ a2002)) = true then (O1005001_0.k1 i_1005001_0) else
    (r1005001_0 a0 a2002 l0_1005001_0 (i_1005001_0 + 1) )
  | [], i_1005001_0 => (O1005001_0.k0 i_1005001_0 (decide (i_1005001_0 < ((List.length (List.map b_sisi a0)) : Int))))
def h1005001_0 (l0_0 : Nat) (l2000 : Nat) (a0 : (List K_sisi)) (a2001 : List K_sisi) (a2002 : Int) (i_1005001_0 : Int)  : St := ⟨[(0, (.one (.bor l0_0 (List.map b_sisi a0)))), (1, (.clo 43 [] [(.bptr l2000 [(.sl (List.map b_sisi a2001)), (.val (.int .i64 a2002))])])), (7, (.one (.val (.int .i64 ((List.length (List.map b_sisi a0)) : Int))))), (8, (.one (.val (.int .i64 i_1005001_0))))], []⟩
def ex1005001_0 : O1005001_0 → VX.Exit
  | .k0 _ _ => (.exit 0)
  | .k1 _ => .ret
def fin1005001_0 (l0_0 : Nat) (l2000 : Nat) (a0 : (List K_sisi)) (a2001 : List K_sisi) (a2002 : Int) : O1005001_0 → St
  | .k0 w0 w1 => ⟨[(0, (.one (.bor l0_0 (List.map b_sisi a0)))), (1, (.clo 43 [] [(.bptr l2000 [(.sl (List.map b_sisi a2001)), (.val (.int .i64 a2002))])])), (7, (.one (.val (.int .i64 ((List.length (List.map b_sisi a0)) : Int))))), (8, (.one (.val (.int .i64 w0)))), (9, (.one (.val (.bool w1))))], []⟩
  | .k1 w0 => ⟨[(4, (.one (.val (.int .i64 w0))))], []⟩
theorem t1005001_0 {l0_0 : Nat} {l2000 : Nat} {a0 : (List K_sisi)} {a2001 : List K_sisi} {a2002 : Int} (hy0 : List.length a0 * 48 ≤ 140737488351232) (hy1 : List.length a2001 * 48 ≤ 140737488351232) : ∀ (l0_1005001_0 : List K_sisi) (p_1005001_0 : List K_sisi) , p_1005001_0 ++ l0_1005001_0 = a0 → Ev F X (.code l50_0 (h1005001_0 l0_0 l2000 a0 a2001 a2002 (List.length p_1005001_0 : Int) ) (ex1005001_0 (r1005001_0 a0 a2002 l0_1005001_0 (List.length p_1005001_0 : Int) )) (fin1005001_0 l0_0 l2000 a0 a2001 a2002 (r1005001_0 a0 a2002 l0_1005001_0 (List.length p_1005001_0 : Int) )))
  | [], p_1005001_0, hp0 => by
    have hc : ¬ (decide ((List.length p_1005001_0 : Int) < ((List.length (List.map b_sisi a0)) : Int))) = true := by
      rw [← hp0]; simp only [List.length_map, List.length_set, List.length_append, List.length_replicate, List.length_cons, List.length_nil, decide_eq_true_eq]; omega
    have st := ch b50_0 (h1005001_0 l0_0 l2000 a0 a2001 a2002 (List.length p_1005001_0 : Int) ) ⟨[(0, (.one (.bor l0_0 (List.map b_sisi a0)))), (1, (.clo 43 [] [(.bptr l2000 [(.sl (List.map b_sisi a2001)), (.val (.int .i64 a2002))])])), (7, (.one (.val (.int .i64 ((List.length (List.map b_sisi a0)) : Int))))), (8, (.one (.val (.int .i64 (List.length p_1005001_0 : Int))))), (9, (.one (.val (.bool (decide ((List.length p_1005001_0 : Int) < ((List.length (List.map b_sisi a0)) : Int)))))))], []⟩ (.exit 0) 3 (by kernel_rfl) (.f (nt hc) (.h 2 (.b false) .nil))
    rw [show (⟨[(0, (.one (.bor l0_0 (List.map b_sisi a0)))), (1, (.clo 43 [] [(.bptr l2000 [(.sl (List.map b_sisi a2001)), (.val (.int .i64 a2002))])])), (7, (.one (.val (.int .i64 ((List.length (List.map b_sisi a0)) : Int))))), (8, (.one (.val (.int .i64 (List.length p_1005001_0 : Int))))), (9, (.one (.val (.bool (decide ((List.length p_1005001_0 : Int) < ((List.length (List.map b_sisi a0)) : Int)))))))], []⟩ : St) = fin1005001_0 l0_0 l2000 a0 a2001 a2002 (.k0 (List.length p_1005001_0 : Int) (decide ((List.length p_1005001_0 : Int) < ((List.length (List.map b_sisi a0)) : Int)))) from by first | rfl | (unfold fin1005001_0; simp [byteRows_eq, ints_y, List.take_of_length_le, d_sisi, d_LsisiEi, d_i, d_b, d_s, d_iisiiii, d_iLsELiisiiiiELsisiEi, d_LsisiE, d_LsE, d_LiisiiiiE, d_y, fromBR_sisi, fromBR_i, fromBR_b, fromBR_s, fromBR_iisiiii, fromBR_y]; done)] at st
    exact .loopX st (show ((.exit 0) : VX.Exit) ≠ .normal from by simp)
  | x0_1005001_0 :: l0_1005001_0, p_1005001_0, hp0 => by
    have hc : (decide ((List.length p_1005001_0 : Int) < ((List.length (List.map b_sisi a0)) : Int))) = true := by
      rw [← hp0]; simp only [List.length_map, List.length_set, List.length_append, List.length_replicate, List.length_cons, List.length_nil, decide_eq_true_eq]; omega
    have Hx0_1005001_0 : (a0)[Int.toNat (List.length p_1005001_0 : Int)]? = some x0_1005001_0 := by
      rw [← hp0, Int.toNat_natCast]; simp
    have hlen : List.length (a0) = List.length p_1005001_0 + List.length l0_1005001_0 + 1 := by rw [← hp0]; simp; omega
    have hw : IntKind.wrap .i64 ((List.length p_1005001_0 : Int) + 1) = (List.length p_1005001_0 : Int) + 1 := wrap64 (by omega)
    simp only [r1005001_0]
    have f1 : 0 ≤ (List.length p_1005001_0 : Int) := (by first | exact True.intro | with_reducible rfl | with_reducible assumption | omega | (simp only [decide_eq_true_eq] at *; omega) | (simp only [List.length_map, List.length_set, List.length_append, List.length_replicate, List.length_cons, List.length_nil]; omega) | (simp; omega) | (simp [List.take_of_length_le]; done) | assumption | trivial | (simp [*, byteRows_eq, ints_y]; done))
    have P1 {hs q} (r : PS F X hs q) := (PS.f hc (.f f1 (.f (mp_ b_sisi Hx0_1005001_0) (.h 2 (.b true) (.h 14 (.row [(.val (.string x0_1005001_0.f0)), (.val (.int .i64 x0_1005001_0.f1)), (.val (.string x0_1005001_0.f2)), (.val (.int .i64 x0_1005001_0.f3))]) (.r 18 [] [] (e1004300 (l101000 := (l2000 + 1)) (a0 := x0_1005001_0) (a101001 := a2001) (a101002 := a2002)) r))))))
    by_cases h_1005001_0_1 : (decide (x0_1005001_0.f1 ≥ a2002)) = true
    · try simp only [if_pos h_1005001_0_1]
      have st := ch b50_0 (h1005001_0 l0_0 l2000 a0 a2001 a2002 (List.length p_1005001_0 : Int) ) ⟨[(4, (.one (.val (.int .i64 (List.length p_1005001_0 : Int)))))], []⟩ .ret 24 (by kernel_rfl) (P1 (.f h_1005001_0_1 (.h 19 (.b true) .nil)))
      rw [show (⟨[(4, (.one (.val (.int .i64 (List.length p_1005001_0 : Int)))))], []⟩ : St) = fin1005001_0 l0_0 l2000 a0 a2001 a2002 (.k1 (List.length p_1005001_0 : Int)) from by first | rfl | (unfold fin1005001_0; simp [byteRows_eq, ints_y, List.take_of_length_le, d_sisi, d_LsisiEi, d_i, d_b, d_s, d_iisiiii, d_iLsELiisiiiiELsisiEi, d_LsisiE, d_LsE, d_LiisiiiiE, d_y, fromBR_sisi, fromBR_i, fromBR_b, fromBR_s, fromBR_iisiiii, fromBR_y]; done)] at st
      exact .loopX st (show (.ret : VX.Exit) ≠ .normal from by simp)
    · try simp only [if_neg h_1005001_0_1]
      have st := ch b50_0 (h1005001_0 l0_0 l2000 a0 a2001 a2002 (List.length p_1005001_0 : Int) ) ⟨[(0, (.one (.bor l0_0 (List.map b_sisi a0)))), (1, (.clo 43 [] [(.bptr l2000 [(.sl (List.map b_sisi a2001)), (.val (.int .i64 a2002))])])), (7, (.one (.val (.int .i64 ((List.length (List.map b_sisi a0)) : Int))))), (8, (.one (.val (.int .i64 (IntKind.wrap .i64 ((List.length p_1005001_0 : Int) + 1))))))], []⟩ .normal 24 (by kernel_rfl) (P1 (.f (nt h_1005001_0_1) (.f trivial (.h 19 (.b false) .nil))))
      have ih := t1005001_0 (l0_0 := l0_0) (l2000 := l2000) (a0 := a0) (a2001 := a2001) (a2002 := a2002) hy0 hy1 l0_1005001_0 (p_1005001_0 ++ [x0_1005001_0])  (by rw [List.append_assoc]; exact hp0)
      rw [show ((p_1005001_0 ++ [x0_1005001_0]).length : Int) = (p_1005001_0.length : Int) + 1 from by simp] at ih
      rw [show (⟨[(0, (.one (.bor l0_0 (List.map b_sisi a0)))), (1, (.clo 43 [] [(.bptr l2000 [(.sl (List.map b_sisi a2001)), (.val (.int .i64 a2002))])])), (7, (.one (.val (.int .i64 ((List.length (List.map b_sisi a0)) : Int))))), (8, (.one (.val (.int .i64 (IntKind.wrap .i64 ((List.length p_1005001_0 : Int) + 1))))))], []⟩ : St) = h1005001_0 l0_0 l2000 a0 a2001 a2002 ((List.length p_1005001_0 : Int) + 1)  from by first | (unfold h1005001_0; simp only [hw]; done) | (unfold h1005001_0; simp only [hw, List.length_map, List.length_set, List.length_append, List.length_replicate, List.length_cons, List.length_nil]; done) | (unfold h1005001_0; simp [hw, byteRows_eq, ints_y, List.take_of_length_le, d_sisi, d_LsisiEi, d_i, d_b, d_s, d_iisiiii, d_iLsELiisiiiiELsisiEi, d_LsisiE, d_LsE, d_LiisiiiiE, d_y, fromBR_sisi, fromBR_i, fromBR_b, fromBR_s, fromBR_iisiiii, fromBR_y]; done)] at st
      exact .loopN st ih
/-! slices.IndexFunc[[]loop.example/g00539/impl.Session,loop.example/g00539/impl.Session] -/
def m1005001 (a0 : (List K_sisi)) (a2001 : List K_sisi) (a2002 : Int) : Int :=
  (match r1005001_0 a0 a2002 a0 0 with | .k0 w0_1005001_0_0 w1_1005001_0_0 => (-1) | .k1 w0_1005001_0_0 => w0_1005001_0_0)
theorem e1005001 {l0_0 : Nat} {a0 : (List K_sisi)} {l2000 : Nat} {a2001 : List K_sisi} {a2002 : Int} (hy0 : List.length a0 * 48 ≤ 140737488351232) (hy1 : List.length a2001 * 48 ≤ 140737488351232) : Ev F X (.call 50 [(.one (.bor l0_0 (List.map b_sisi a0))), (.clo 43 [] [(.bptr l2000 [(.sl (List.map b_sisi a2001)), (.val (.int .i64 a2002))])])] [] [] [(.one (.val (.int .i64 (m1005001 a0 a2001 a2002))))]) := by
  unfold m1005001
  cases h0 : r1005001_0 a0 a2002 a0 0 with
  | k0 w0_1005001_0_0 w1_1005001_0_0 =>
    try dsimp only
    have f0 : (⟨[(0, (.one (.bor l0_0 (List.map b_sisi a0)))), (1, (.clo 43 [] [(.bptr l2000 [(.sl (List.map b_sisi a2001)), (.val (.int .i64 a2002))])])), (7, (.one (.val (.int .i64 ((List.length (List.map b_sisi a0)) : Int))))), (8, (.one (.val (.int .i64 0))))], []⟩ : St) = h1005001_0 l0_0 l2000 a0 a2001 a2002 0  := (by first | rfl | (unfold h1005001_0; simp [byteRows_eq, ints_y, List.take_of_length_le, d_sisi, d_LsisiEi, d_i, d_b, d_s, d_iisiiii, d_iLsELiisiiiiELsisiEi, d_LsisiE, d_LsE, d_LiisiiiiE, d_y, fromBR_sisi, fromBR_i, fromBR_b, fromBR_s, fromBR_iisiiii, fromBR_y]; done))
    exact cp (by kernel_rfl) (.f f0 (.f (ev_ (e := ex1005001_0) (g := (fin1005001_0 l0_0 l2000 a0 a2001 a2002)) h0 (t1005001_0 (l0_0 := l0_0) (l2000 := l2000) (a0 := a0) (a2001 := a2001) (a2002 := a2002) (by first | assumption | omega) (by first | assumption | omega) a0 []  rfl)) (.h 8 (.loop (h1005001_0 l0_0 l2000 a0 a2001 a2002 0 ) (.exit 0) ⟨[(0, (.one (.bor l0_0 (List.map b_sisi a0)))), (1, (.clo 43 [] [(.bptr l2000 [(.sl (List.map b_sisi a2001)), (.val (.int .i64 a2002))])])), (7, (.one (.val (.int .i64 ((List.length (List.map b_sisi a0)) : Int))))), (8, (.one (.val (.int .i64 w0_1005001_0_0)))), (9, (.one (.val (.bool w1_1005001_0_0))))], []⟩) .nil)))
  | k1 w0_1005001_0_0 =>
    try dsimp only
    have f0 : (⟨[(0, (.one (.bor l0_0 (List.map b_sisi a0)))), (1, (.clo 43 [] [(.bptr l2000 [(.sl (List.map b_sisi a2001)), (.val (.int .i64 a2002))])])), (7, (.one (.val (.int .i64 ((List.length (List.map b_sisi a0)) : Int))))), (8, (.one (.val (.int .i64 0))))], []⟩ : St) = h1005001_0 l0_0 l2000 a0 a2001 a2002 0  := (by first | rfl | (unfold h1005001_0; simp [byteRows_eq, ints_y, List.take_of_length_le, d_sisi, d_LsisiEi, d_i, d_b, d_s, d_iisiiii, d_iLsELiisiiiiELsisiEi, d_LsisiE, d_LsE, d_LiisiiiiE, d_y, fromBR_sisi, fromBR_i, fromBR_b, fromBR_s, fromBR_iisiiii, fromBR_y]; done))
    exact cp (by kernel_rfl) (.f f0 (.f (ev_ (e := ex1005001_0) (g := (fin1005001_0 l0_0 l2000 a0 a2001 a2002)) h0 (t1005001_0 (l0_0 := l0_0) (l2000 := l2000) (a0 := a0) (a2001 := a2001) (a2002 := a2002) (by first | assumption | omega) (by first | assumption | omega) a0 []  rfl)) (.h 8 (.loop (h1005001_0 l0_0 l2000 a0 a2001 a2002 0 ) .ret ⟨[(4, (.one (.val (.int .i64 w0_1005001_0_0))))], []⟩) .nil)))
theorem ixr1005001_0 (a0 : (List K_sisi)) (a2002 : Int) : ∀ (l : List K_sisi) (i : Int), (∃ (w0 : _) (w1 : _), r1005001_0 a0 a2002 l i = .k0 w0 w1) ∨ (∃ w, r1005001_0 a0 a2002 l i = .k1 w ∧ i ≤ w ∧ w < i + l.length)
  | [], i => .inl ⟨i, (decide (i < ((List.length (List.map b_sisi a0)) : Int))), rfl⟩
  | x :: l, i => by
    have ih := ixr1005001_0 a0 a2002 l (i + 1)
    simp only [r1005001_0]
    (repeat' split)
    all_goals first
      | exact .inr ⟨i, rfl, by omega, by simp only [List.length_cons]; omega⟩
      | (rcases ih with ⟨w0, w1, h⟩ | ⟨w, h, h1, h2⟩
         · exact .inl ⟨w0, w1, h⟩
         · exact .inr ⟨w, h, by omega, by simp only [List.length_cons]; omega⟩)
theorem ix1005001 (a0 : (List K_sisi)) (a2001 : List K_sisi) (a2002 : Int) : -1 ≤ m1005001 a0 a2001 a2002 ∧ m1005001 a0 a2001 a2002 < (List.length a0 : Int) := by
  unfold m1005001
  rcases ixr1005001_0 a0 a2002 a0 0 with ⟨w0, w1, h⟩ | ⟨w, h, h1, h2⟩ <;> simp only [h] <;> omega
/-! slices.ContainsFunc[[]loop.example/g00539/impl.Session,loop.example/g00539/impl.Session] -/
def m1004201 (a0 : (List K_sisi)) (a2001 : List K_sisi) (a2002 : Int) : Bool :=
  (decide ((m1005001 a0 a2001 a2002) ≥ 0))
theorem e1004201 {l0_0 : Nat} {a0 : (List K_sisi)} {l2000 : Nat} {a2001 : List K_sisi} {a2002 : Int} (hy0 : List.length a0 * 48 ≤ 140737488351232) (hy1 : List.length a2001 * 48 ≤ 140737488351232) : Ev F X (.call 42 [(.one (.bor l0_0 (List.map b_sisi a0))), (.clo 43 [] [(.bptr l2000 [(.sl (List.map b_sisi a2001)), (.val (.int .i64 a2002))])])] [] [] [(.one (.val (.bool (decide ((m1005001 a0 a2001 a2002) ≥ 0)))))]) := by
  have f0 : Ev F X (.call 50 [(.one (.bor (l0_0 + 1) (List.map b_sisi a0))), (.clo 43 [] [(.bptr (l2000 + 1) [(.sl (List.map b_sisi a2001)), (.val (.int .i64 a2002))])])] [] [] [(.one (.val (.int .i64 (m1005001 a0 a2001 a2002))))]) := (e1005001 (a0 := a0) (a2001 := a2001) (a2002 := a2002) (by first | with_reducible assumption | omega | assumption | (simp only [List.length_map]; omega) | (simp; omega)) (by first | with_reducible assumption | omega | assumption | (simp only [List.length_map]; omega) | (simp; omega)))
  exact cp (by kernel_rfl) (.r 7 [] [] f0 .nil)
/-! loop.example/g00539/impl.ServerFault -/
def m33 (a0 : K_LsisiEi) : Int :=
  if (decide (((List.length (List.map b_sisi a0.f0)) : Int) > 4)) = true then 2 else
  (match r33_0 a0 a0.f0 0 with | .k0 w0_33_0_1 w1_33_0_1 => (if (!(m34 a0.f1 0 999)) = true then 3 else if (decide ((m1005001 a0.f0 a0.f0 a0.f1) ≥ 0)) = true then 3 else 0) | .k1 w0_33_0_1 => w0_33_0_1)
theorem e33 {l0_0 : Nat} {a0 : K_LsisiEi} (hy0 : List.length a0.f0 * 48 ≤ 140737488351232) : Ev F X (.call 33 [(.agg [(.bor l0_0 (List.map b_sisi a0.f0)), (.val (.int .i64 a0.f1))])] [] [] [(.one (.val (.int .i64 (m33 a0))))]) := by
  unfold m33
  by_cases h0 : (decide (((List.length (List.map b_sisi a0.f0)) : Int) > 4)) = true
  · try simp only [if_pos h0]
    exact cp (by kernel_rfl) (.f h0 (.h 12 (.b true) .nil))
  · try simp only [if_neg h0]
    have P1 {hs q} (r : PS F X hs q) := (PS.f (nt h0) (.h 12 (.b false) r))
    cases h1 : r33_0 a0 a0.f0 0 with
    | k0 w0_33_0_1 w1_33_0_1 =>
      try dsimp only
      have f1 : (⟨[(1, (.ptr ⟨(1, 0, 0), [], 0, 0, 2⟩)), (11, (.one (.bor l0_0 (List.map b_sisi a0.f0)))), (12, (.one (.val (.int .i64 ((List.length (List.map b_sisi a0.f0)) : Int))))), (13, (.one (.val (.int .i64 0))))], [((1, 0, 0), .live ⟨2, [[(.bor l0_0 (List.map b_sisi a0.f0)), (.val (.int .i64 a0.f1))]], []⟩)]⟩ : St) = h33_0 l0_0 a0 0  := (by first | rfl | (unfold h33_0; simp [byteRows_eq, ints_y, List.take_of_length_le, d_sisi, d_LsisiEi, d_i, d_b, d_s, d_iisiiii, d_iLsELiisiiiiELsisiEi, d_LsisiE, d_LsE, d_LiisiiiiE, d_y, fromBR_sisi, fromBR_i, fromBR_b, fromBR_s, fromBR_iisiiii, fromBR_y]; done))
      have P2 {hs q} (r : PS F X hs q) := (P1 (.f f1 (.f (ev_ (e := ex33_0) (g := (fin33_0 l0_0 a0)) h1 (t33_0 (l0_0 := l0_0) (a0 := a0) (by first | assumption | omega) a0.f0 []  rfl)) (.h 21 (.loop (h33_0 l0_0 a0 0 ) (.exit 0) ⟨[(1, (.ptr ⟨(1, 0, 0), [], 0, 0, 2⟩)), (11, (.one (.bor l0_0 (List.map b_sisi a0.f0)))), (12, (.one (.val (.int .i64 ((List.length (List.map b_sisi a0.f0)) : Int))))), (13, (.one (.val (.int .i64 w0_33_0_1)))), (14, (.one (.val (.bool w1_33_0_1))))], [((1, 0, 0), .live ⟨2, [[(.bor l0_0 (List.map b_sisi a0.f0)), (.val (.int .i64 a0.f1))]], []⟩)]⟩) (.r 27 [] [] (e34 (a0 := a0.f1) (a1 := 0) (a2 := 999)) r)))))
      by_cases h2 : (!(m34 a0.f1 0 999)) = true
      · try simp only [if_pos h2]
        exact cp (by kernel_rfl) (P2 (.f h2 (.f h2 (.f h2 (.f h2 (.f h2 (.h 32 (.b true) (.h 34 (.b true) (.h 36 (.b true) (.h 38 (.b true) (.h 41 (.b true) .nil)))))))))))
      · try simp only [if_neg h2]
        have f8 : fullL [(.bor l0_0 (List.map b_sisi a0.f0)), (.val (.int .i64 a0.f1))] = true := (by first | exact True.intro | with_reducible rfl | with_reducible assumption | omega | (simp only [List.length_map, List.length_set, List.length_append, List.length_replicate, List.length_cons, List.length_nil]; omega) | (simp; done) | (simp; omega) | (simp [List.take_of_length_le]; done) | (simp [← List.map_take, ← List.map_drop]; done) | assumption | trivial | (simp [*, b_sisi, d_sisi, byteRows_eq, ints_y]; done))
        have f9 : Ev F X (.call 42 [(.one (.bor (l0_0 + 1) (List.map b_sisi a0.f0))), (.clo 43 [] [(.bptr 0 [(.sl (List.map b_sisi a0.f0)), (.val (.int .i64 a0.f1))])])] [] [] [(.one (.val (.bool (decide ((m1005001 a0.f0 a0.f0 a0.f1) ≥ 0)))))]) := (e1004201 (a0 := a0.f0) (a2001 := a0.f0) (a2002 := a0.f1) (by first | with_reducible assumption | omega | assumption | (simp only [List.length_map]; omega) | (simp; omega)) (by first | with_reducible assumption | omega | assumption | (simp only [List.length_map]; omega) | (simp; omega)))
        have P3 {hs q} (r : PS F X hs q) := (P2 (.f (nt h2) (.f (nt h2) (.f (nt h2) (.f (nt h2) (.f f8 (.h 32 (.b false) (.h 34 (.b false) (.h 36 (.b false) (.h 38 (.b false) (.r 39 [] [] f9 (.f (nt h2) (.h 41 (.b false) r)))))))))))))
        by_cases h3 : (decide ((m1005001 a0.f0 a0.f0 a0.f1) ≥ 0)) = true
        · try simp only [if_pos h3]
          exact cp (by kernel_rfl) (P3 (.f h3 (.h 42 (.b true) .nil)))
        · try simp only [if_neg h3]
          exact cp (by kernel_rfl) (P3 (.f (nt h3) (.h 42 (.b false) .nil)))
    | k1 w0_33_0_1 =>
      try dsimp only
      have f1 : (⟨[(1, (.ptr ⟨(1, 0, 0), [], 0, 0, 2⟩)), (11, (.one (.bor l0_0 (List.map b_sisi a0.f0)))), (12, (.one (.val (.int .i64 ((List.length (List.map b_sisi a0.f0)) : Int))))), (13, (.one (.val (.int .i64 0))))], [((1, 0, 0), .live ⟨2, [[(.bor l0_0 (List.map b_sisi a0.f0)), (.val (.int .i64 a0.f1))]], []⟩)]⟩ : St) = h33_0 l0_0 a0 0  := (by first | rfl | (unfold h33_0; simp [byteRows_eq, ints_y, List.take_of_length_le, d_sisi, d_LsisiEi, d_i, d_b, d_s, d_iisiiii, d_iLsELiisiiiiELsisiEi, d_LsisiE, d_LsE, d_LiisiiiiE, d_y, fromBR_sisi, fromBR_i, fromBR_b, fromBR_s, fromBR_iisiiii, fromBR_y]; done))
      exact cp (by kernel_rfl) (P1 (.f f1 (.f (ev_ (e := ex33_0) (g := (fin33_0 l0_0 a0)) h1 (t33_0 (l0_0 := l0_0) (a0 := a0) (by first | assumption | omega) a0.f0 []  rfl)) (.h 21 (.loop (h33_0 l0_0 a0 0 ) .ret ⟨[(2, (.one (.val (.int .i64 w0_33_0_1))))], []⟩) .nil))))
theorem svl33 {a : K_LsisiEi} (h : ¬ ((m33 a) != 0) = true) : List.length a.f0 ≤ 4 := by
  have h2 : m33 a = 0 := by simpa using h
  unfold m33 at h2
  by_cases c : (decide (((List.length (List.map b_sisi a.f0)) : Int) > 4)) = true
  · rw [if_pos c] at h2; cases h2
  · simp only [decide_eq_true_eq, List.length_map] at c; omega
/-! loop.example/g00539/impl.whoFault -/
def m17 (a0 : K_LsisiEi) (a1 : Int) : Int :=
  if ((m33 a0) != 0) = true then (m33 a0) else
  if (!(m34 a1 0 (IntKind.wrap .i64 (((List.length (List.map b_sisi a0.f0)) : Int) - 1)))) = true then 4 else
    0
theorem e17 {l0_0 : Nat} {a0 : K_LsisiEi} {a1 : Int} (hy0 : List.length a0.f0 * 48 ≤ 140737488351232) : Ev F X (.call 17 [(.agg [(.bor l0_0 (List.map b_sisi a0.f0)), (.val (.int .i64 a0.f1))]), (.one (.val (.int .i64 a1)))] [] [] [(.one (.val (.int .i64 (m17 a0 a1))))]) := by
  unfold m17
  have P0 {hs q} (r : PS F X hs q) := (PS.r 7 [] [] (e33 (l0_0 := (l0_0 + 1)) (a0 := a0) (by first | with_reducible assumption | omega | assumption | (simp only [List.length_map]; omega) | (simp; omega))) r)
  by_cases h0 : ((m33 a0) != 0) = true
  · try simp only [if_pos h0]
    exact cp (by kernel_rfl) (P0 (.f h0 (.h 14 (.b true) .nil)))
  · try simp only [if_neg h0]
    have P1 {hs q} (r : PS F X hs q) := (P0 (.f (nt h0) (.h 14 (.b false) (.r 26 [] [] (e34 (a0 := a1) (a1 := 0) (a2 := (IntKind.wrap .i64 (((List.length (List.map b_sisi a0.f0)) : Int) - 1)))) r))))
    by_cases h1 : (!(m34 a1 0 (IntKind.wrap .i64 (((List.length (List.map b_sisi a0.f0)) : Int) - 1)))) = true
    · try simp only [if_pos h1]
      exact cp (by kernel_rfl) (P1 (.f h1 (.h 29 (.b true) .nil)))
    · try simp only [if_neg h1]
      exact cp (by kernel_rfl) (P1 (.f (nt h1) (.h 29 (.b false) .nil)))
theorem wh17 {a : K_LsisiEi} {k : Int} (h : ¬ ((m17 a k) != 0) = true) : 0 ≤ k ∧ k < (List.length a.f0 : Int) ∧ List.length a.f0 ≤ 4 := by
  have h2 : m17 a k = 0 := by simpa using h
  unfold m17 at h2
  by_cases c1 : ((m33 a) != 0) = true
  · rw [if_pos c1] at h2; exact absurd h2 (by simpa using c1)
  rw [if_neg c1] at h2
  have l := svl33 c1
  by_cases c2 : (!(m34 k 0 (IntKind.wrap .i64 (((List.length (List.map b_sisi a.f0)) : Int) - 1)))) = true
  · rw [if_pos c2] at h2; cases h2
  have j := jn34 c2
  rw [List.length_map, wrap64 (by omega)] at j
  omega
/-! slices.Clone[[]loop.example/g00539/impl.Session,loop.example/g00539/impl.Session] -/
theorem e35 {a0 : List K_sisi} {l0 : Nat} (hy0 : List.length a0 * 48 ≤ 70368744177664) : Ev F X (.call 35 [(.one (.bor l0 (List.map b_sisi a0)))] [] [] [(.one (.own 4 (List.map d_sisi a0)))]) := by
  refine .ext (.inl ⟨rfl, rfl, ?_⟩) rfl
  have e : fromBR l0 (List.map b_sisi a0) = List.map d_sisi a0 := by first | exact fromBR_sisi .. | simp [fromBR_sisi]
  refine ⟨l0, _, rfl, by rw [e], by rw [e]; simpa using hy0, by rw [e]; exact lenD_sisi _, by rw [e]; first | exact pureR_sisi _ | simp [pureR_sisi]⟩
/-! loop.example/g00539/impl.cloneServer -/
def m18 (a0 : K_LsisiEi) : K_LsisiEi :=
  a0
theorem e18 {l0_0 : Nat} {a0 : K_LsisiEi} (hy0 : List.length a0.f0 * 48 ≤ 70368744177664) : Ev F X (.call 18 [(.agg [(.bor l0_0 (List.map b_sisi a0.f0)), (.val (.int .i64 a0.f1))])] [] [] [(.agg [(.own 4 (List.map d_sisi a0.f0)), (.val (.int .i64 a0.f1))])]) := by
  have f0 : Ev F X (.call 35 [(.one (.bor (l0_0 + 1) (List.map b_sisi a0.f0)))] [] [] [(.one (.own 4 (List.map d_sisi a0.f0)))]) := (e35 (a0 := a0.f0) (by first | with_reducible assumption | omega | assumption | (simp only [List.length_map]; omega) | (simp; omega)))
  exact cp (by kernel_rfl) (.r 9 [] [] f0 (pe 0 (pe (List.length (List.map d_sisi a0.f0)) (.f (pureR_sisi a0.f0) .nil))))
/-! slices.Delete[[]loop.example/g00539/impl.Session,loop.example/g00539/impl.Session] -/
theorem dl19 (a0 : List K_sisi) (i : Nat) : (List.map d_sisi a0).take i ++ (List.map d_sisi a0).drop (i + 1) = List.map d_sisi (List.take i a0 ++ List.drop (i + 1) a0) := by rw [List.map_append, List.map_take, List.map_drop]
theorem e19 {a0 : List K_sisi} {a1 a2 : Int} (hy0 : 0 ≤ a1) (hy1 : a1 < (List.length a0 : Int)) (hy2 : a2 = a1 + 1) (hy3 : List.length a0 ≤ 9223372036854775807) : Ev F X (.call 19 [(.one (.ref ⟨(0, 0, 0), [], 0, (List.length (List.map d_sisi a0))⟩)), (.one (.val (.int .i64 a1))), (.one (.val (.int .i64 a2)))] [((0, 0, 0), ⟨4, (List.map d_sisi a0), []⟩)] [] [(.one (.own 4 (List.map d_sisi (List.take (Int.toNat a1) a0 ++ List.drop (Int.toNat a1 + 1) a0))))]) :=
  .ext (.inr (.inr (.inr (⟨rfl, rfl, (⟨(0, 0, 0), _, Int.toNat a1, by rw [List.length_map]; exact hy3, by first | exact pureR_sisi _ | simp [pureR_sisi], by rw [List.length_map]; omega, rfl, by rw [hy2, show ((Int.toNat a1 : Nat) : Int) = a1 by omega, show ((Int.toNat a1 + 1 : Nat) : Int) = a1 + 1 by omega], by rw [dl19]⟩)⟩)))) rfl
/-! loop.example/g00539/impl.CloseSession -/
def m7 (a0 : K_LsisiEi) (a1 : Int) : K_iLsELiisiiiiELsisiEi :=
  if ((m17 a0 a1) != 0) = true then (K_iLsELiisiiiiELsisiEi.mk (m17 a0 a1) [] [] [] 0) else
  (K_iLsELiisiiiiELsisiEi.mk 0 [] [] (List.take (Int.toNat a1) a0.f0 ++ List.drop (Int.toNat a1 + 1) a0.f0) a0.f1)
theorem e7 {l0_0 : Nat} {a0 : K_LsisiEi} {a1 : Int} (hy0 : List.length a0.f0 * 48 ≤ 140737488351232) : Ev F X (.call 7 [(.agg [(.bor l0_0 (List.map b_sisi a0.f0)), (.val (.int .i64 a0.f1))]), (.one (.val (.int .i64 a1)))] [] [] [(.agg [(.val (.int .i64 ((m7 a0 a1).f0))), (.own 1 (List.map d_s ((m7 a0 a1).f1))), (.own 7 (List.map d_iisiiii ((m7 a0 a1).f2))), (.own 4 (List.map d_sisi ((m7 a0 a1).f3))), (.val (.int .i64 ((m7 a0 a1).f4)))])]) := by
  unfold m7
  have P0 {hs q} (r : PS F X hs q) := (PS.r 9 [] [] (e17 (l0_0 := (l0_0 + 1)) (a0 := a0) (a1 := a1) (by first | with_reducible assumption | omega | (exact (wh17 (a := a0) (k := a1) (by with_reducible assumption)).1) | (exact (wh17 (a := a0) (k := a1) (by with_reducible assumption)).2.1) | (have q := wh17 (a := a0) (k := a1) (by with_reducible assumption); rw [wrap64 (by omega)]) | (have q := wh17 (a := a0) (k := a1) (by with_reducible assumption); omega) | (have q := wh17 (a := a0) (k := a1) (by with_reducible assumption); simp only [List.length_map]; omega) | (have q := wh17 (a := a0) (k := a1) (by with_reducible assumption); rw [wrap64 (by omega)]; simp only [List.length_map]; omega) | (have q := wh17 (a := a0) (k := a1) (by with_reducible assumption); simp only [List.length_map]; refine ⟨?_, ?_, ?_⟩ <;> omega) | (have q := wh17 (a := a0) (k := a1) (by with_reducible assumption); rw [wrap64 (by omega)]; simp only [List.length_map]; refine ⟨?_, ?_, ?_⟩ <;> omega) | (have q := wh17 (a := a0) (k := a1) (by with_reducible assumption); simp only [List.nil_append, List.length_append, List.length_take, List.length_drop, List.length_map, List.length_cons, List.length_nil]; omega) | assumption | (simp only [List.length_map]; omega) | (simp; omega))) r)
  by_cases h0 : ((m17 a0 a1) != 0) = true
  · try simp only [if_pos h0]
    have f2 : pureR [] = true := (by first | with_reducible assumption | (simp; done) | (simp [List.take_of_length_le]; done) | (simp [← List.map_take, ← List.map_drop]; done) | (exact (wh17 (a := a0) (k := a1) (by with_reducible assumption)).1) | (exact (wh17 (a := a0) (k := a1) (by with_reducible assumption)).2.1) | (have q := wh17 (a := a0) (k := a1) (by with_reducible assumption); rw [wrap64 (by omega)]) | (have q := wh17 (a := a0) (k := a1) (by with_reducible assumption); omega) | (have q := wh17 (a := a0) (k := a1) (by with_reducible assumption); simp only [List.length_map]; omega) | (have q := wh17 (a := a0) (k := a1) (by with_reducible assumption); rw [wrap64 (by omega)]; simp only [List.length_map]; omega) | (have q := wh17 (a := a0) (k := a1) (by with_reducible assumption); simp only [List.length_map]; refine ⟨?_, ?_, ?_⟩ <;> omega) | (have q := wh17 (a := a0) (k := a1) (by with_reducible assumption); rw [wrap64 (by omega)]; simp only [List.length_map]; refine ⟨?_, ?_, ?_⟩ <;> omega) | (have q := wh17 (a := a0) (k := a1) (by with_reducible assumption); simp only [List.nil_append, List.length_append, List.length_take, List.length_drop, List.length_map, List.length_cons, List.length_nil]; omega) | assumption | trivial | (simp [*, byteRows_eq, ints_y]; done))
    exact cp (by kernel_rfl) (P0 (.f h0 (.f f2 (.f f2 (.f f2 (.h 16 (.b true) .nil))))))
  · try simp only [if_neg h0]
    have f7 : Ev F X (.call 19 [(.one (.ref ⟨(0, 0, 0), [], 0, (List.length (List.map d_sisi a0.f0))⟩)), (.one (.val (.int .i64 a1))), (.one (.val (.int .i64 (IntKind.wrap .i64 (a1 + 1)))))] [((0, 0, 0), ⟨4, (List.map d_sisi a0.f0), []⟩)] [] [(.one (.own 4 (List.map d_sisi (List.take (Int.toNat a1) a0.f0 ++ List.drop (Int.toNat a1 + 1) a0.f0))))]) := (e19 (a0 := a0.f0) (a1 := a1) (a2 := (IntKind.wrap .i64 (a1 + 1))) (by first | exact True.intro | with_reducible rfl | with_reducible assumption | omega | (exact (wh17 (a := a0) (k := a1) (by with_reducible assumption)).1) | (exact (wh17 (a := a0) (k := a1) (by with_reducible assumption)).2.1) | (have q := wh17 (a := a0) (k := a1) (by with_reducible assumption); rw [wrap64 (by omega)]) | (have q := wh17 (a := a0) (k := a1) (by with_reducible assumption); omega) | (have q := wh17 (a := a0) (k := a1) (by with_reducible assumption); simp only [List.length_map]; omega) | (have q := wh17 (a := a0) (k := a1) (by with_reducible assumption); rw [wrap64 (by omega)]; simp only [List.length_map]; omega) | (have q := wh17 (a := a0) (k := a1) (by with_reducible assumption); simp only [List.length_map]; refine ⟨?_, ?_, ?_⟩ <;> omega) | (have q := wh17 (a := a0) (k := a1) (by with_reducible assumption); rw [wrap64 (by omega)]; simp only [List.length_map]; refine ⟨?_, ?_, ?_⟩ <;> omega) | (have q := wh17 (a := a0) (k := a1) (by with_reducible assumption); simp only [List.nil_append, List.length_append, List.length_take, List.length_drop, List.length_map, List.length_cons, List.length_nil]; omega) | (simp only [decide_eq_true_eq] at *; omega) | (simp only [List.length_map, List.length_set, List.length_append, List.length_replicate, List.length_cons, List.length_nil]; omega) | (simp; omega) | (simp [List.take_of_length_le]; done) | assumption | trivial | (simp [*, byteRows_eq, ints_y]; done)) (by first | exact True.intro | with_reducible rfl | with_reducible assumption | omega | (exact (wh17 (a := a0) (k := a1) (by with_reducible assumption)).1) | (exact (wh17 (a := a0) (k := a1) (by with_reducible assumption)).2.1) | (have q := wh17 (a := a0) (k := a1) (by with_reducible assumption); rw [wrap64 (by omega)]) | (have q := wh17 (a := a0) (k := a1) (by with_reducible assumption); omega) | (have q := wh17 (a := a0) (k := a1) (by with_reducible assumption); simp only [List.length_map]; omega) | (have q := wh17 (a := a0) (k := a1) (by with_reducible assumption); rw [wrap64 (by omega)]; simp only [List.length_map]; omega) | (have q := wh17 (a := a0) (k := a1) (by with_reducible assumption); simp only [List.length_map]; refine ⟨?_, ?_, ?_⟩ <;> omega) | (have q := wh17 (a := a0) (k := a1) (by with_reducible assumption); rw [wrap64 (by omega)]; simp only [List.length_map]; refine ⟨?_, ?_, ?_⟩ <;> omega) | (have q := wh17 (a := a0) (k := a1) (by with_reducible assumption); simp only [List.nil_append, List.length_append, List.length_take, List.length_drop, List.length_map, List.length_cons, List.length_nil]; omega) | (simp only [decide_eq_true_eq] at *; omega) | (simp only [List.length_map]; omega) | (simp; omega) | (simp [List.take_of_length_le]; done) | assumption | trivial | (simp [*, byteRows_eq, ints_y]; done)) (by first | exact True.intro | with_reducible rfl | with_reducible assumption | omega | (exact (wh17 (a := a0) (k := a1) (by with_reducible assumption)).1) | (exact (wh17 (a := a0) (k := a1) (by with_reducible assumption)).2.1) | (have q := wh17 (a := a0) (k := a1) (by with_reducible assumption); rw [wrap64 (by omega)]) | (have q := wh17 (a := a0) (k := a1) (by with_reducible assumption); omega) | (have q := wh17 (a := a0) (k := a1) (by with_reducible assumption); simp only [List.length_map]; omega) | (have q := wh17 (a := a0) (k := a1) (by with_reducible assumption); rw [wrap64 (by omega)]; simp only [List.length_map]; omega) | (have q := wh17 (a := a0) (k := a1) (by with_reducible assumption); simp only [List.length_map]; refine ⟨?_, ?_, ?_⟩ <;> omega) | (have q := wh17 (a := a0) (k := a1) (by with_reducible assumption); rw [wrap64 (by omega)]; simp only [List.length_map]; refine ⟨?_, ?_, ?_⟩ <;> omega) | (have q := wh17 (a := a0) (k := a1) (by with_reducible assumption); simp only [List.nil_append, List.length_append, List.length_take, List.length_drop, List.length_map, List.length_cons, List.length_nil]; omega) | (simp only [List.length_map, List.length_set, List.length_append, List.length_replicate, List.length_cons, List.length_nil]; omega) | (simp; done) | (simp; omega) | (simp [List.take_of_length_le]; done) | (simp [← List.map_take, ← List.map_drop]; done) | assumption | trivial | (simp [*, byteRows_eq, ints_y]; done)) (by first | exact True.intro | with_reducible rfl | with_reducible assumption | omega | (exact (wh17 (a := a0) (k := a1) (by with_reducible assumption)).1) | (exact (wh17 (a := a0) (k := a1) (by with_reducible assumption)).2.1) | (have q := wh17 (a := a0) (k := a1) (by with_reducible assumption); rw [wrap64 (by omega)]) | (have q := wh17 (a := a0) (k := a1) (by with_reducible assumption); omega) | (have q := wh17 (a := a0) (k := a1) (by with_reducible assumption); simp only [List.length_map]; omega) | (have q := wh17 (a := a0) (k := a1) (by with_reducible assumption); rw [wrap64 (by omega)]; simp only [List.length_map]; omega) | (have q := wh17 (a := a0) (k := a1) (by with_reducible assumption); simp only [List.length_map]; refine ⟨?_, ?_, ?_⟩ <;> omega) | (have q := wh17 (a := a0) (k := a1) (by with_reducible assumption); rw [wrap64 (by omega)]; simp only [List.length_map]; refine ⟨?_, ?_, ?_⟩ <;> omega) | (have q := wh17 (a := a0) (k := a1) (by with_reducible assumption); simp only [List.nil_append, List.length_append, List.length_take, List.length_drop, List.length_map, List.length_cons, List.length_nil]; omega) | (simp only [decide_eq_true_eq] at *; omega) | (simp only [List.length_map]; omega) | (simp; omega) | (simp [List.take_of_length_le]; done) | assumption | trivial | (simp [*, byteRows_eq, ints_y]; done)))
    have f12 : pureR [] = true := (by first | with_reducible assumption | (simp; done) | (simp [List.take_of_length_le]; done) | (simp [← List.map_take, ← List.map_drop]; done) | (exact (wh17 (a := a0) (k := a1) (by with_reducible assumption)).1) | (exact (wh17 (a := a0) (k := a1) (by with_reducible assumption)).2.1) | (have q := wh17 (a := a0) (k := a1) (by with_reducible assumption); rw [wrap64 (by omega)]) | (have q := wh17 (a := a0) (k := a1) (by with_reducible assumption); omega) | (have q := wh17 (a := a0) (k := a1) (by with_reducible assumption); simp only [List.length_map]; omega) | (have q := wh17 (a := a0) (k := a1) (by with_reducible assumption); rw [wrap64 (by omega)]; simp only [List.length_map]; omega) | (have q := wh17 (a := a0) (k := a1) (by with_reducible assumption); simp only [List.length_map]; refine ⟨?_, ?_, ?_⟩ <;> omega) | (have q := wh17 (a := a0) (k := a1) (by with_reducible assumption); rw [wrap64 (by omega)]; simp only [List.length_map]; refine ⟨?_, ?_, ?_⟩ <;> omega) | (have q := wh17 (a := a0) (k := a1) (by with_reducible assumption); simp only [List.nil_append, List.length_append, List.length_take, List.length_drop, List.length_map, List.length_cons, List.length_nil]; omega) | assumption | trivial | (simp [*, byteRows_eq, ints_y]; done))
    exact cp (by kernel_rfl) (P0 (.f (nt h0) (.h 16 (.b false) (.r 20 [] [] (e18 (l0_0 := (l0_0 + 1)) (a0 := a0) (by first | with_reducible assumption | omega | (exact (wh17 (a := a0) (k := a1) (by with_reducible assumption)).1) | (exact (wh17 (a := a0) (k := a1) (by with_reducible assumption)).2.1) | (have q := wh17 (a := a0) (k := a1) (by with_reducible assumption); rw [wrap64 (by omega)]) | (have q := wh17 (a := a0) (k := a1) (by with_reducible assumption); omega) | (have q := wh17 (a := a0) (k := a1) (by with_reducible assumption); simp only [List.length_map]; omega) | (have q := wh17 (a := a0) (k := a1) (by with_reducible assumption); rw [wrap64 (by omega)]; simp only [List.length_map]; omega) | (have q := wh17 (a := a0) (k := a1) (by with_reducible assumption); simp only [List.length_map]; refine ⟨?_, ?_, ?_⟩ <;> omega) | (have q := wh17 (a := a0) (k := a1) (by with_reducible assumption); rw [wrap64 (by omega)]; simp only [List.length_map]; refine ⟨?_, ?_, ?_⟩ <;> omega) | (have q := wh17 (a := a0) (k := a1) (by with_reducible assumption); simp only [List.nil_append, List.length_append, List.length_take, List.length_drop, List.length_map, List.length_cons, List.length_nil]; omega) | assumption | (simp only [List.length_map]; omega) | (simp; omega))) (pe 0 (pe (List.length (List.map d_sisi a0.f0)) (.f trivial (.f (pureR_sisi a0.f0) (.r 36 [true] [] f7 (pe 0 (pe (List.length (List.map d_sisi (List.take (Int.toNat a1) a0.f0 ++ List.drop (Int.toNat a1 + 1) a0.f0))) (pe 0 (pe (List.length (List.map d_sisi (List.take (Int.toNat a1) a0.f0 ++ List.drop (Int.toNat a1 + 1) a0.f0))) (.f f12 (.f f12 (.f (pureR_sisi (List.take (Int.toNat a1) a0.f0 ++ List.drop (Int.toNat a1 + 1) a0.f0)) .nil))))))))))))))))
theorem okm7 (a0 : K_LsisiEi) (a1 : Int) : ok_iLsELiisiiiiELsisiEi (m7 a0 a1) := by
  unfold m7
  split
  · simp [ok_LsisiEi, ok_iLsELiisiiiiELsisiEi, ok_LsisiE, ok_LsE, ok_LiisiiiiE]
  · rename_i h
    have q := wh17 h
    simp only [ok_LsisiEi, ok_iLsELiisiiiiELsisiEi, ok_LsisiE, ok_LsE, ok_LiisiiiiE, List.nil_append, List.length_append, List.length_take, List.length_drop, List.length_nil]; omega
/-! loop.example/g00539/laws.eqSession -/
def m37 (a0 : K_sisi) (a1 : K_sisi) : Bool :=
  if (!(a0.f0.toList == a1.f0.toList)) = true then false else
  if (a0.f1 != a1.f1) = true then false else
    if (!(a0.f2.toList == a1.f2.toList)) = true then false else
      if (a0.f3 != a1.f3) = true then false else
        true
theorem e37 {a0 : K_sisi} {a1 : K_sisi} : Ev F X (.call 37 [(.agg [(.val (.string a0.f0)), (.val (.int .i64 a0.f1)), (.val (.string a0.f2)), (.val (.int .i64 a0.f3))]), (.agg [(.val (.string a1.f0)), (.val (.int .i64 a1.f1)), (.val (.string a1.f2)), (.val (.int .i64 a1.f3))])] [] [] [(.one (.val (.bool (m37 a0 a1))))]) := by
  unfold m37
  by_cases h0 : (!(a0.f0.toList == a1.f0.toList)) = true
  · try simp only [if_pos h0]
    exact cp (by kernel_rfl) (.f h0 (.h 16 (.b true) .nil))
  · try simp only [if_neg h0]
    have P1 {hs q} (r : PS F X hs q) := (PS.f (nt h0) (.h 16 (.b false) r))
    by_cases h1 : (a0.f1 != a1.f1) = true
    · try simp only [if_pos h1]
      exact cp (by kernel_rfl) (P1 (.f h1 (.h 27 (.b true) .nil)))
    · try simp only [if_neg h1]
      by_cases h2 : (!(a0.f2.toList == a1.f2.toList)) = true
      · try simp only [if_pos h2]
        exact cp (by kernel_rfl) (P1 (.f (nt h1) (.f h2 (.h 27 (.b false) (.h 38 (.b true) .nil)))))
      · try simp only [if_neg h2]
        by_cases h3 : (a0.f3 != a1.f3) = true
        · try simp only [if_pos h3]
          exact cp (by kernel_rfl) (P1 (.f (nt h1) (.f (nt h2) (.f h3 (.h 27 (.b false) (.h 38 (.b false) (.h 49 (.b true) .nil)))))))
        · try simp only [if_neg h3]
          exact cp (by kernel_rfl) (P1 (.f (nt h1) (.f (nt h2) (.f (nt h3) (.h 27 (.b false) (.h 38 (.b false) (.h 49 (.b false) .nil)))))))
open Classical in
theorem eqd37 (a b : K_sisi) : m37 a b = decide (a = b) := by
  rw [Bool.eq_iff_iff, decide_eq_true_eq]
  constructor
  · intro h
    unfold m37 at h
    cases a; cases b
    (repeat' split at h) <;> simp_all [ba_eq]
  · rintro rfl
    simp [m37, ba_eq]
/-! loop 22_0 -/
inductive O22_0 where
  | k0 (w0 : Int) (w1 : Bool)
  | k1
def r22_0 (a0 : (List K_sisi)) : List K_sisi → List K_sisi → Int → O22_0
  | x0_22_0 :: l0_22_0, x1_22_0 :: l1_22_0, i_22_0 =>
    if (!(m37 x0_22_0 x1_22_0)) = true then (O22_0.k1) else
    (r22_0 a0 l0_22_0 l1_22_0 (i_22_0 + 1) )
  | _, _, i_22_0 => (O22_0.k0 i_22_0 (decide (i_22_0 < ((List.length (List.map b_sisi a0)) : Int))))
def h22_0 (l0_0 : Nat) (l1_0 : Nat) (a0 : (List K_sisi)) (a1 : (List K_sisi)) (i_22_0 : Int)  : St := ⟨[(0, (.one (.bor l0_0 (List.map b_sisi a0)))), (1, (.one (.bor l1_0 (List.map b_sisi a1)))), (5, (.one (.val (.int .i64 i_22_0))))], []⟩
def ex22_0 : O22_0 → VX.Exit
  | .k0 _ _ => (.exit 0)
  | .k1 => .ret
def fin22_0 (l0_0 : Nat) (l1_0 : Nat) (a0 : (List K_sisi)) (a1 : (List K_sisi)) : O22_0 → St
  | .k0 w0 w1 => ⟨[(0, (.one (.bor l0_0 (List.map b_sisi a0)))), (1, (.one (.bor l1_0 (List.map b_sisi a1)))), (5, (.one (.val (.int .i64 w0)))), (14, (.one (.val (.bool w1))))], []⟩
  | .k1 => ⟨[(4, (.one (.val (.bool false))))], []⟩
theorem t22_0 {l0_0 : Nat} {l1_0 : Nat} {a0 : (List K_sisi)} {a1 : (List K_sisi)} (hy0 : List.length a0 * 48 ≤ 140737488351232) (hy1 : List.length a1 * 48 ≤ 140737488351232) : ∀ (l0_22_0 : List K_sisi) (l1_22_0 : List K_sisi) (p_22_0 : List K_sisi) (p_22_0_1 : List K_sisi) , p_22_0 ++ l0_22_0 = a0 → p_22_0_1 ++ l1_22_0 = a1 → List.length p_22_0 = List.length p_22_0_1 → List.length l0_22_0 = List.length l1_22_0 → Ev F X (.code l22_0 (h22_0 l0_0 l1_0 a0 a1 (List.length p_22_0 : Int) ) (ex22_0 (r22_0 a0 l0_22_0 l1_22_0 (List.length p_22_0 : Int) )) (fin22_0 l0_0 l1_0 a0 a1 (r22_0 a0 l0_22_0 l1_22_0 (List.length p_22_0 : Int) )))
  | [], [], p_22_0, p_22_0_1, hp0, hp1, hq1, hl1 => by
    have hc : ¬ (decide ((List.length p_22_0 : Int) < ((List.length (List.map b_sisi a0)) : Int))) = true := by
      rw [← hp0]; simp only [List.length_map, List.length_set, List.length_append, List.length_replicate, List.length_cons, List.length_nil, decide_eq_true_eq]; omega
    have st := ch b22_0 (h22_0 l0_0 l1_0 a0 a1 (List.length p_22_0 : Int) ) ⟨[(0, (.one (.bor l0_0 (List.map b_sisi a0)))), (1, (.one (.bor l1_0 (List.map b_sisi a1)))), (5, (.one (.val (.int .i64 (List.length p_22_0 : Int))))), (14, (.one (.val (.bool (decide ((List.length p_22_0 : Int) < ((List.length (List.map b_sisi a0)) : Int)))))))], []⟩ (.exit 0) 9 (by kernel_rfl) (.f (nt hc) (.h 8 (.b false) .nil))
    rw [show (⟨[(0, (.one (.bor l0_0 (List.map b_sisi a0)))), (1, (.one (.bor l1_0 (List.map b_sisi a1)))), (5, (.one (.val (.int .i64 (List.length p_22_0 : Int))))), (14, (.one (.val (.bool (decide ((List.length p_22_0 : Int) < ((List.length (List.map b_sisi a0)) : Int)))))))], []⟩ : St) = fin22_0 l0_0 l1_0 a0 a1 (.k0 (List.length p_22_0 : Int) (decide ((List.length p_22_0 : Int) < ((List.length (List.map b_sisi a0)) : Int)))) from by first | rfl | (unfold fin22_0; simp [byteRows_eq, ints_y, List.take_of_length_le, d_sisi, d_LsisiEi, d_i, d_b, d_s, d_iisiiii, d_iLsELiisiiiiELsisiEi, d_LsisiE, d_LsE, d_LiisiiiiE, d_y, fromBR_sisi, fromBR_i, fromBR_b, fromBR_s, fromBR_iisiiii, fromBR_y]; done)] at st
    exact .loopX st (show ((.exit 0) : VX.Exit) ≠ .normal from by simp)
  | x0_22_0 :: l0_22_0, x1_22_0 :: l1_22_0, p_22_0, p_22_0_1, hp0, hp1, hq1, hl1 => by
    have hc : (decide ((List.length p_22_0 : Int) < ((List.length (List.map b_sisi a0)) : Int))) = true := by
      rw [← hp0]; simp only [List.length_map, List.length_set, List.length_append, List.length_replicate, List.length_cons, List.length_nil, decide_eq_true_eq]; omega
    have Hx0_22_0 : (a0)[Int.toNat (List.length p_22_0 : Int)]? = some x0_22_0 := by
      rw [← hp0, Int.toNat_natCast]; simp
    have Hx1_22_0 : (a1)[Int.toNat (List.length p_22_0 : Int)]? = some x1_22_0 := by
      rw [← hp1, hq1, Int.toNat_natCast]; simp
    have hlen : List.length (a0) = List.length p_22_0 + List.length l0_22_0 + 1 := by rw [← hp0]; simp; omega
    have hw : IntKind.wrap .i64 ((List.length p_22_0 : Int) + 1) = (List.length p_22_0 : Int) + 1 := wrap64 (by omega)
    simp only [r22_0]
    have f1 : 0 ≤ (List.length p_22_0 : Int) := (by first | exact True.intro | with_reducible rfl | with_reducible assumption | omega | (simp only [decide_eq_true_eq] at *; omega) | (simp only [List.length_map, List.length_set, List.length_append, List.length_replicate, List.length_cons, List.length_nil]; omega) | (simp; omega) | (simp [List.take_of_length_le]; done) | assumption | trivial | (simp [*, byteRows_eq, ints_y]; done))
    have P1 {hs q} (r : PS F X hs q) := (PS.f hc (.f f1 (.f (mp_ b_sisi Hx0_22_0) (.f f1 (.f (mp_ b_sisi Hx1_22_0) (.h 8 (.b true) (.h 14 (.row [(.val (.string x0_22_0.f0)), (.val (.int .i64 x0_22_0.f1)), (.val (.string x0_22_0.f2)), (.val (.int .i64 x0_22_0.f3))]) (.h 22 (.row [(.val (.string x1_22_0.f0)), (.val (.int .i64 x1_22_0.f1)), (.val (.string x1_22_0.f2)), (.val (.int .i64 x1_22_0.f3))]) (.r 26 [] [] (e37 (a0 := x0_22_0) (a1 := x1_22_0)) r)))))))))
    by_cases h_22_0_1 : (!(m37 x0_22_0 x1_22_0)) = true
    · try simp only [if_pos h_22_0_1]
      have st := ch b22_0 (h22_0 l0_0 l1_0 a0 a1 (List.length p_22_0 : Int) ) ⟨[(4, (.one (.val (.bool false))))], []⟩ .ret 32 (by kernel_rfl) (P1 (.f h_22_0_1 (.h 29 (.b true) .nil)))
      rw [show (⟨[(4, (.one (.val (.bool false))))], []⟩ : St) = fin22_0 l0_0 l1_0 a0 a1 (.k1) from by first | rfl | (unfold fin22_0; simp [byteRows_eq, ints_y, List.take_of_length_le, d_sisi, d_LsisiEi, d_i, d_b, d_s, d_iisiiii, d_iLsELiisiiiiELsisiEi, d_LsisiE, d_LsE, d_LiisiiiiE, d_y, fromBR_sisi, fromBR_i, fromBR_b, fromBR_s, fromBR_iisiiii, fromBR_y]; done)] at st
      exact .loopX st (show (.ret : VX.Exit) ≠ .normal from by simp)
    · try simp only [if_neg h_22_0_1]
      have st := ch b22_0 (h22_0 l0_0 l1_0 a0 a1 (List.length p_22_0 : Int) ) ⟨[(0, (.one (.bor l0_0 (List.map b_sisi a0)))), (1, (.one (.bor l1_0 (List.map b_sisi a1)))), (5, (.one (.val (.int .i64 (IntKind.wrap .i64 ((List.length p_22_0 : Int) + 1))))))], []⟩ .normal 36 (by kernel_rfl) (P1 (.f (nt h_22_0_1) (.f trivial (.h 29 (.b false) .nil))))
      have ih := t22_0 (l0_0 := l0_0) (l1_0 := l1_0) (a0 := a0) (a1 := a1) hy0 hy1 l0_22_0 l1_22_0 (p_22_0 ++ [x0_22_0]) (p_22_0_1 ++ [x1_22_0])  (by rw [List.append_assoc]; exact hp0) (by rw [List.append_assoc]; exact hp1) (by simp only [List.length_map, List.length_set, List.length_append, List.length_replicate, List.length_cons, List.length_nil]; omega) (by simp only [List.length_map, List.length_set, List.length_append, List.length_replicate, List.length_cons, List.length_nil] at hl1; omega)
      rw [show ((p_22_0 ++ [x0_22_0]).length : Int) = (p_22_0.length : Int) + 1 from by simp] at ih
      rw [show (⟨[(0, (.one (.bor l0_0 (List.map b_sisi a0)))), (1, (.one (.bor l1_0 (List.map b_sisi a1)))), (5, (.one (.val (.int .i64 (IntKind.wrap .i64 ((List.length p_22_0 : Int) + 1))))))], []⟩ : St) = h22_0 l0_0 l1_0 a0 a1 ((List.length p_22_0 : Int) + 1)  from by first | (unfold h22_0; simp only [hw]; done) | (unfold h22_0; simp only [hw, List.length_map, List.length_set, List.length_append, List.length_replicate, List.length_cons, List.length_nil]; done) | (unfold h22_0; simp [hw, byteRows_eq, ints_y, List.take_of_length_le, d_sisi, d_LsisiEi, d_i, d_b, d_s, d_iisiiii, d_iLsELiisiiiiELsisiEi, d_LsisiE, d_LsE, d_LiisiiiiE, d_y, fromBR_sisi, fromBR_i, fromBR_b, fromBR_s, fromBR_iisiiii, fromBR_y]; done)] at st
      exact .loopN st ih
/-! loop.example/g00539/laws.eqSessionS -/
def m22 (a0 : (List K_sisi)) (a1 : (List K_sisi)) : Bool :=
  if (((List.length (List.map b_sisi a0)) : Int) != ((List.length (List.map b_sisi a1)) : Int)) = true then false else
  (match r22_0 a0 a0 a1 0 with | .k0 w0_22_0_1 w1_22_0_1 => true | .k1 => false)
theorem e22 {l0_0 : Nat} {a0 : (List K_sisi)} {l1_0 : Nat} {a1 : (List K_sisi)} (hy0 : List.length a0 * 48 ≤ 140737488351232) (hy1 : List.length a1 * 48 ≤ 140737488351232) : Ev F X (.call 22 [(.one (.bor l0_0 (List.map b_sisi a0))), (.one (.bor l1_0 (List.map b_sisi a1)))] [] [] [(.one (.val (.bool (m22 a0 a1))))]) := by
  unfold m22
  by_cases h0 : (((List.length (List.map b_sisi a0)) : Int) != ((List.length (List.map b_sisi a1)) : Int)) = true
  · try simp only [if_pos h0]
    exact cp (by kernel_rfl) (.f h0 (.h 12 (.b true) .nil))
  · try simp only [if_neg h0]
    cases h1 : r22_0 a0 a0 a1 0 with
    | k0 w0_22_0_1 w1_22_0_1 =>
      try dsimp only
      have f1 : (⟨[(0, (.one (.bor l0_0 (List.map b_sisi a0)))), (1, (.one (.bor l1_0 (List.map b_sisi a1)))), (5, (.one (.val (.int .i64 0))))], []⟩ : St) = h22_0 l0_0 l1_0 a0 a1 0  := (by first | rfl | (unfold h22_0; simp [byteRows_eq, ints_y, List.take_of_length_le, d_sisi, d_LsisiEi, d_i, d_b, d_s, d_iisiiii, d_iLsELiisiiiiELsisiEi, d_LsisiE, d_LsE, d_LiisiiiiE, d_y, fromBR_sisi, fromBR_i, fromBR_b, fromBR_s, fromBR_iisiiii, fromBR_y]; done))
      exact cp (by kernel_rfl) (.f (nt h0) (.f f1 (.f (ev_ (e := ex22_0) (g := (fin22_0 l0_0 l1_0 a0 a1)) h1 (t22_0 (l0_0 := l0_0) (l1_0 := l1_0) (a0 := a0) (a1 := a1) (by first | assumption | omega) (by first | assumption | omega) a0 a1 [] []  rfl rfl rfl (by first | omega | (simp at *; omega)))) (.h 12 (.b false) (.h 15 (.loop (h22_0 l0_0 l1_0 a0 a1 0 ) (.exit 0) ⟨[(0, (.one (.bor l0_0 (List.map b_sisi a0)))), (1, (.one (.bor l1_0 (List.map b_sisi a1)))), (5, (.one (.val (.int .i64 w0_22_0_1)))), (14, (.one (.val (.bool w1_22_0_1))))], []⟩) .nil)))))
    | k1 =>
      try dsimp only
      have f1 : (⟨[(0, (.one (.bor l0_0 (List.map b_sisi a0)))), (1, (.one (.bor l1_0 (List.map b_sisi a1)))), (5, (.one (.val (.int .i64 0))))], []⟩ : St) = h22_0 l0_0 l1_0 a0 a1 0  := (by first | rfl | (unfold h22_0; simp [byteRows_eq, ints_y, List.take_of_length_le, d_sisi, d_LsisiEi, d_i, d_b, d_s, d_iisiiii, d_iLsELiisiiiiELsisiEi, d_LsisiE, d_LsE, d_LiisiiiiE, d_y, fromBR_sisi, fromBR_i, fromBR_b, fromBR_s, fromBR_iisiiii, fromBR_y]; done))
      exact cp (by kernel_rfl) (.f (nt h0) (.f f1 (.f (ev_ (e := ex22_0) (g := (fin22_0 l0_0 l1_0 a0 a1)) h1 (t22_0 (l0_0 := l0_0) (l1_0 := l1_0) (a0 := a0) (a1 := a1) (by first | assumption | omega) (by first | assumption | omega) a0 a1 [] []  rfl rfl rfl (by first | omega | (simp at *; omega)))) (.h 12 (.b false) (.h 15 (.loop (h22_0 l0_0 l1_0 a0 a1 0 ) .ret ⟨[(4, (.one (.val (.bool false))))], []⟩) .nil)))))
theorem eqr22_0 (a0 : (List K_sisi)) : ∀ (l m : List K_sisi) (i : Int), l.length = m.length → (r22_0 a0 l m i = .k1 ∧ l ≠ m) ∨ (∃ w0 w1, r22_0 a0 l m i = .k0 w0 w1 ∧ l = m)
  | [], [], i, _ => .inr ⟨_, _, rfl, rfl⟩
  | [], _ :: _, i, h => by simp at h
  | _ :: _, [], i, h => by simp at h
  | x :: l, y :: m, i, h => by
    have ih := eqr22_0 a0 l m (i + 1) (by simpa using h)
    by_cases hxy : x = y
    · subst hxy
      have e : r22_0 a0 (x :: l) (x :: m) i = r22_0 a0 l m (i + 1) := by simp [r22_0, ba_eq, eqd37]
      rw [e]
      rcases ih with ⟨h1, h2⟩ | ⟨w0, w1, h1, h2⟩
      · exact .inl ⟨h1, by simp [h2]⟩
      · exact .inr ⟨_, _, h1, by rw [h2]⟩
    · have e : r22_0 a0 (x :: l) (y :: m) i = .k1 := by
        simp only [r22_0]
        first
          | ((repeat' split) <;> simp_all [ba_eq, eqd37]; done)
          | (cases x; cases y; (repeat' split) <;> simp_all [ba_eq, eqd37])
      exact .inl ⟨e, by simp [hxy]⟩
open Classical in
theorem eqd22 (a b : (List K_sisi)) : m22 a b = decide (a = b) := by
  rw [Bool.eq_iff_iff, decide_eq_true_eq]
  unfold m22
  by_cases hl : List.length a = List.length b
  · rcases eqr22_0 a a b 0 hl with ⟨h1, h2⟩ | ⟨w0, w1, h1, h2⟩
    · simp only [h1, List.length_map, hl]
      first
        | (simp [h2, ba_eq, eqd37]; done)
        | (cases a; cases b; simp_all [ba_eq, eqd37]; done)
        | (cases a; cases b; (repeat' split) <;> simp_all [ba_eq, eqd37])
    · simp only [h1, List.length_map, hl]
      first
        | (simp [h2, ba_eq, eqd37]; done)
        | (cases a; cases b; simp_all [ba_eq, eqd37]; done)
        | (cases a; cases b; (repeat' split) <;> simp_all [ba_eq, eqd37])
  · have hn : a ≠ b := by rintro rfl; exact hl rfl
    simp only [List.length_map]
    first
      | (simp [hn, hl, ba_eq, eqd37]; done)
      | ((repeat' split) <;> simp_all [ba_eq, eqd37]; done)
      | (simp [hn]; omega)
/-! loop.example/g00539/laws.eqServer -/
def m9 (a0 : K_LsisiEi) (a1 : K_LsisiEi) : Bool :=
  if (!(m22 a0.f0 a1.f0)) = true then false else
  if (a0.f1 != a1.f1) = true then false else
    true
theorem e9 {l0_0 : Nat} {a0 : K_LsisiEi} {l1_0 : Nat} {a1 : K_LsisiEi} (hy0 : List.length a0.f0 * 48 ≤ 140737488351232) (hy1 : List.length a1.f0 * 48 ≤ 140737488351232) : Ev F X (.call 9 [(.agg [(.bor l0_0 (List.map b_sisi a0.f0)), (.val (.int .i64 a0.f1))]), (.agg [(.bor l1_0 (List.map b_sisi a1.f0)), (.val (.int .i64 a1.f1))])] [] [] [(.one (.val (.bool (m9 a0 a1))))]) := by
  unfold m9
  have P0 {hs q} (r : PS F X hs q) := (PS.r 15 [] [] (e22 (l0_0 := (l0_0 + 1)) (l1_0 := (l1_0 + 1)) (a0 := a0.f0) (a1 := a1.f0) (by first | with_reducible assumption | omega | assumption | (simp only [List.length_map]; omega) | (simp; omega)) (by first | with_reducible assumption | omega | assumption | (simp only [List.length_map]; omega) | (simp; omega))) r)
  by_cases h0 : (!(m22 a0.f0 a1.f0)) = true
  · try simp only [if_pos h0]
    exact cp (by kernel_rfl) (P0 (.f h0 (.h 18 (.b true) .nil)))
  · try simp only [if_neg h0]
    by_cases h1 : (a0.f1 != a1.f1) = true
    · try simp only [if_pos h1]
      exact cp (by kernel_rfl) (P0 (.f (nt h0) (.f h1 (.h 18 (.b false) (.h 29 (.b true) .nil)))))
    · try simp only [if_neg h1]
      exact cp (by kernel_rfl) (P0 (.f (nt h0) (.f (nt h1) (.h 18 (.b false) (.h 29 (.b false) .nil)))))
open Classical in
theorem eqd9 (a b : K_LsisiEi) : m9 a b = decide (a = b) := by
  rw [Bool.eq_iff_iff, decide_eq_true_eq]
  constructor
  · intro h
    unfold m9 at h
    cases a; cases b
    (repeat' split at h) <;> simp_all [ba_eq, eqd22]
  · rintro rfl
    simp [m9, ba_eq, eqd22]
end Go.Proofs.YtaomcjbjgdihhaaDoor.CloseSession
