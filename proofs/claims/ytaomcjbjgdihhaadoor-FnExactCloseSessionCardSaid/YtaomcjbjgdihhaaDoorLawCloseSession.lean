/- FnExact: the law 'FnExactCloseSession' holds at every input (the library's tables as their initialisers lay them: tied to the text by the card): walked by V (the texts V..), its functions' text in YtaomcjbjgdihhaaDoorTCloseSession, what they compute in YtaomcjbjgdihhaaDoorECloseSession, the plain law in YtaomcjbjgdihhaaDoorPureCloseSession. -/
import Derived.Test.YtaomcjbjgdihhaaDoorRows
import Derived.Test.YtaomcjbjgdihhaaDoorCards
import Derived.Test.YtaomcjbjgdihhaaDoorTie
import Derived.Test.YtaomcjbjgdihhaaDoorTCloseSession
import Derived.Test.YtaomcjbjgdihhaaDoorECloseSession
import Derived.Test.YtaomcjbjgdihhaaDoorPureCloseSession
import Derived.Test.YtaomcjbjgdihhaaDoorVArgs
import Derived.WalkKit
import Derived.ProofKit
import Derived.OpenShut
import Derived.ShutString
import Derived.ChangeOld
import Derived.Below
import Derived.SizedLaws
import Derived.Carry
import Derived.Deep.DeepHandedRow
import Derived.SevenTiedAt
namespace Go.Proofs.YtaomcjbjgdihhaaDoor.CloseSession
open Go Go.Proofs.YtaomcjbjgdihhaaDoor.V Go.ChangeShapes Go.WideShapes Go.ChangeAt Go.RowKit
set_option linter.unusedVariables false
set_option maxRecDepth 100000
theorem walk (x0 : K_LsisiEi) (x1 : Int) (w0 : wf_LsisiEi x0) (w1 : wf_i x1) {args : Array Value} {W : World} (hr : SVRels (lawX W) [(.agg [(.bor 0 (List.map b_sisi x0.f0)), (.val (.int .i64 x0.f1))]), (.one (.val (.int .i64 x1)))] args.toList) :
    Calls Tryd.prog 3 args W fun e W' => e = .returned (.bool true) ∧ Below W.heap.size W W' := by
  have h := e3 (a0 := x0) (a1 := x1) (l0_0 := 0) w0.1.1 (fun z hz => os_wf_sisi z (w0.1.2 z hz))
  rw [pure x0 x1 w0 w1] at h
  exact law_calls (by kernel_rfl) F_ok X_ok (fn := v3) (by kernel_rfl) hr h
theorem own : ownKnob Tryd.prog.godebug = none := by kernel_rfl
theorem laidOut : laidOutB Tryd.prog = true := by kernel_rfl
theorem contract (H : Type) (enc : TypeId × Value → H) (W : World) (base : Nat) (args : Array Value) (ds gs : List (DataW H)) (before : List MemPlace)
    (hval0 : ∀ (j : Nat) t v, Tryd.f3.params[j]? = some t → args[j]? = some v → Value.okWide Tryd.prog W .any base t v)
    (hW : DataW.Whole enc Tryd.prog Tryd.f3.params.toList Rows.fnExactCloseSessionSpec.vars false W args.toList ds gs before)
    (hsz0 : (DataW.weightsEach Tryd.prog (Tryd.f3.params.toList ++ Rows.fnExactCloseSessionSpec.plain.varTypes Tryd.prog) (ds ++ gs)).all (· ≤ reachBytes) = true) :
    Calls Tryd.prog 3 args W fun e W' => ∃ v, e = .returned v ∧ Rows.fnExactCloseSessionSpec.post enc Tryd.prog Tryd.f3 false true false false W args v W' := by
  have hval : ∀ (j : Nat) t v, Tryd.f3.params[j]? = some t → args[j]? = some v → Value.okWide Tryd.prog W .any base t v := hval0
  have hW' := hW
  obtain ⟨p, q, hA0, hV, rfl, hfz, hnd⟩ := hW
  have hA : DataW.TrodAll enc Tryd.prog W 0 (fun _ => true) true Tryd.f3.params.toList args.toList ds p := hA0
  have hsz : (DataW.weightsEach Tryd.prog (Tryd.f3.params.toList ++ Rows.fnExactCloseSessionSpec.plain.varTypes Tryd.prog) (ds ++ gs)).all (· ≤ reachBytes) = true := hsz0
  rw [Tryd.params3] at hA hval hsz
  obtain ⟨v0, vs0, d0, ds0, p0, q0, hargs, rfl, rfl, h0, r0⟩ := trodAll_cons hA
  obtain ⟨v1, vs1, d1, ds1, p1, q1, rfl, rfl, rfl, h1, r1⟩ := trodAll_cons r0
  obtain ⟨rfl, rfl, rfl⟩ := trodAll_nil r1
  obtain rfl : args = #[v0, v1] := by cases args; simp_all
  obtain ⟨rfl, rfl⟩ := trodVars_none hV
  have hlt := fun x hx => hW'.lt x hx
  clear hA0 hval0 hsz0
  obtain ⟨bs0, o0, rel0⟩ := arg_sh (X := lawX W) (n := 12) (ss := [.sl [.str, .int .i64, .str, .int .i64] 48, .int .i64]) (by kernel_rfl) (hval 0 24 v0 rfl rfl) h0 (sized_arg hsz (j := 0) rfl rfl) rfl
  obtain ⟨x0, rfl, w0⟩ := un_LsisiEi o0
  obtain ⟨bs1, o1, rel1⟩ := arg_sh (X := lawX W) (n := 12) (ss := [.int .i64]) (by kernel_rfl) (hval 1 2 v1 rfl rfl) h1 (sized_arg hsz (j := 1) rfl rfl) rfl
  obtain ⟨x1, rfl, w1⟩ := un_i o1
  have hr : SVRels (lawX W) [(.agg [(.bor 0 (List.map b_sisi x0.f0)), (.val (.int .i64 x0.f1))]), (.one (.val (.int .i64 x1)))] [v0, v1] := by
    simp only [SVRels]
    exact ⟨_, _, rfl, rel0, ⟨_, _, rfl, rel1, rfl⟩⟩
  refine (walk x0 x1 w0 w1 (args := #[v0, v1]) hr).mono fun e W' ⟨he, bel⟩ => ?_
  subst he
  exact ⟨_, rfl, _, _, _, [], _, [], hW', trodAll_mk1 (shut_bool Tryd.underlying4 _), (trodAll_cons_mk (Below.trod laidOut (by kernel_rfl) (of_decide_eq_true (by kernel_rfl)) h0 bel (fun x hx => hlt x (by simp [hx]))) (trodAll_cons_mk (Below.trod laidOut (by kernel_rfl) (of_decide_eq_true (by kernel_rfl)) h1 bel (fun x hx => hlt x (by simp [hx]))) trodAll_mk0)), rfl, bel.frame _, fun h => by cases h⟩
noncomputable def laidWorld (os : Os) : World :=
  { World.settled Tryd.prog os with heap := (((World.settled Tryd.prog os).heap.modify 2 fun | .cells _ t z => .cells #[.int .u8 128, .int .u8 191, .int .u8 160, .int .u8 191, .int .u8 128, .int .u8 159, .int .u8 144, .int .u8 191, .int .u8 128, .int .u8 143, .int .u8 0, .int .u8 0, .int .u8 0, .int .u8 0, .int .u8 0, .int .u8 0, .int .u8 0, .int .u8 0, .int .u8 0, .int .u8 0, .int .u8 0, .int .u8 0, .int .u8 0, .int .u8 0, .int .u8 0, .int .u8 0, .int .u8 0, .int .u8 0, .int .u8 0, .int .u8 0, .int .u8 0, .int .u8 0] t z | x => x).modify 1 fun | .cells _ t z => .cells (Go.Pinned.utf8FirstZ.map fun (n : Nat) => Value.int .u8 (n : Int)).toArray t z | x => x) }
set_option maxRecDepth 100000 in
theorem laid_met (os : Os) : laidMet Tryd.prog Rows.fnExactCloseSessionRow.laid ((laidWorld os).forCall (fun _ _ => 0) ⟨#[], #[.agg #[.slice none 0 0, .int .i64 0], .int .i64 0], []⟩).memory := laidMet_of_run' 8 (by kernel_rfl) (by kernel_rfl)

theorem reads (os : Os) {H : Type} (enc : TypeId × Value → H) : ∃ places, DataW.whole enc Tryd.prog ((laidWorld os).forCall (fun _ _ => 0) ⟨#[], #[.agg #[.slice none 0 0, .int .i64 0], .int .i64 0], []⟩).memory Tryd.f3.params.toList Rows.fnExactCloseSessionSpec.vars false (#[.agg #[.slice none 0 0, .int .i64 0], .int .i64 0] : Array Value).toList 8 = some ([.agg [.nil, .lit (.int .i64 0)], .lit (.int .i64 0)], [], places) := ⟨[], by kernel_rfl⟩
set_option maxRecDepth 100000 in
theorem lifted (os : Os) (started : os.Started) (H : Type) (enc : TypeId × Value → H) (F : Stop.Interp) :
    ReturnsInHanded {} Tryd.checked os 3 .any ((OpenSpec.ofChange Rows.fnExactCloseSessionSpec).preRow enc Tryd.prog Tryd.f3 Rows.fnExactCloseSessionRow.domain false Rows.fnExactCloseSessionRow.laid) (((OpenSpec.ofChange Rows.fnExactCloseSessionSpec).at F).post enc Tryd.prog Tryd.f3 false true false false) := by
  obtain ⟨places, hx⟩ := reads os enc
  refine returnsInHanded_of_row (C := Tryd.checked) (s := OpenSpec.ofChange Rows.fnExactCloseSessionSpec) own started (by kernel_rfl) Tryd.func3
    (witness_row_at (enc := enc) (C := Tryd.checked) false (laidWorld os) #[.agg #[.slice none 0 0, .int .i64 0], .int .i64 0] rfl (by kernel_rfl) (by kernel_rfl) (by kernel_rfl)
      (OpenSpec.preRow_of_cond 8 hx (by kernel_rfl) (fun k hk => by cases hk) (by kernel_rfl) (laid_met os))) ?_
  intro W base args ds gs before hval hW _ _ hsz _ _ _
  exact contract H enc W base args ds gs before hval hW hsz
theorem said : Rows.FnExactCloseSessionSaid :=
  OpenClaim.holds_of_cond 3 Tryd.f3 rfl rfl rfl rfl rfl rfl rfl ⟨rfl, rfl, rfl, rfl, rfl⟩ rfl rfl rfl rfl rfl (by kernel_rfl) Tryd.func3 (by kernel_rfl)
    (of_decide_eq_true (by kernel_rfl)) (by unfold Func.isWrapper; first | (rw [if_pos (by decide +kernel)]; kernel_rfl) | (rw [if_neg (by decide +kernel)]; exact ⟨rfl, rfl⟩))
    (fun os started H enc _ F => by rw [OpenClaim.pre_eq_preRow]; exact lifted os started H enc F)
theorem plain (f : FuncId) (fn : Func) (hf : Tryd.pinned.checked.prog.funcNamed "loop.example/g00539/laws.FnExactCloseSession" = some f) (hfn : Tryd.pinned.checked.prog.funcs[f]? = some fn) :
    false = Tryd.pinned.checked.prog.looks [] ∧ ∀ (j : Nat) t, fn.params[j]? = some t → Tryd.pinned.checked.prog.wantsStandIn t = false := by
  obtain rfl : f = 3 := Option.some.inj ((show Tryd.prog.funcNamed "loop.example/g00539/laws.FnExactCloseSession" = some 3 by kernel_rfl).symm.trans hf) |>.symm
  obtain rfl : fn = Tryd.f3 := (Option.some.inj (Tryd.func3.symm.trans hfn)).symm
  refine ⟨by kernel_rfl, fun j t ht => ?_⟩
  rw [Tryd.params3] at ht
  have hm : t ∈ [24, 2] := by simpa using Array.mem_of_getElem? ht
  have hall : ([24, 2].all fun u => !Tryd.prog.wantsStandIn u) = true := by kernel_rfl
  exact (show Tryd.prog.wantsStandIn t = false by simpa using List.all_eq_true.1 hall t hm)
theorem proved : Rows.FnExactCloseSessionCardSaid :=
  Claim7.holds_tied_plain_at .later [] _ _ _ _ said (fun _ h => by cases h) (by kernel_rfl) (fun _ h => by cases h) fnExactCloseSession_row_tie rfl ⟨rfl, rfl⟩ (by kernel_rfl) rfl plain (by kernel_rfl)
#print axioms proved
end Go.Proofs.YtaomcjbjgdihhaaDoor.CloseSession
namespace Go.Proofs.YtaomcjbjgdihhaaDoor
/-- The card, under a short name, for the claim. -/
theorem fnExactCloseSessionCard_holds : Rows.FnExactCloseSessionCardSaid := CloseSession.proved
end Go.Proofs.YtaomcjbjgdihhaaDoor
