/- FnExact: the law 'FnExactJobsFault' holds at every input: walked by V (the texts V..), its functions' text in YtjgebnhpklkjcaaTJobsFault, what they compute in YtjgebnhpklkjcaaEJobsFault, the plain law in YtjgebnhpklkjcaaPureJobsFault. -/
import Derived.Test.YtjgebnhpklkjcaaRows
import Derived.Test.YtjgebnhpklkjcaaTJobsFault
import Derived.Test.YtjgebnhpklkjcaaEJobsFault
import Derived.Test.YtjgebnhpklkjcaaPureJobsFault
import Derived.Test.YtjgebnhpklkjcaaVArgs
import Derived.WalkKit
import Derived.ProofKit
import Derived.OpenShut
import Derived.ShutString
import Derived.ChangeOld
import Derived.Below
import Derived.SizedLaws
import Derived.Carry
namespace Go.Proofs.Ytjgebnhpklkjcaa.JobsFault
open Go Go.Proofs.Ytjgebnhpklkjcaa.V Go.ChangeShapes Go.WideShapes Go.ChangeAt Go.RowKit
set_option linter.unusedVariables false
theorem walk (x0:(List K_iiiiiLiLiiLiEELiLiEEE)) (w0:wf_LiiiiiLiLiiLiEELiLiEEEE x0) {args:Array Value} {W:World} (hr:SVRels (lawX W) [(.one (.bor 0 (List.map b_iiiiiLiLiiLiEELiLiEEE x0)))] args.toList):
    Calls Try.prog 3 args W fun e W'=>e=.returned (.bool true)∧Below W.heap.size W W':=by
  have h:=e3 (a0:=x0) (l0_0:=0) w0.1 (fun z hz=>ok_wf_iiiiiLiLiiLiEELiLiEEE z (w0.2 z hz))
  rw[pure x0 w0] at h
  exact law_calls (by kernel_rfl) F_ok X_ok (fn:=v3) (by kernel_rfl) hr h
theorem own:ownKnob Try.prog.godebug=none:=by kernel_rfl
theorem laid:laidOutB Try.prog=true:=by kernel_rfl
set_option maxRecDepth 100000 in
theorem lifted (os:Os) (started:os.Started) (H:Type) (enc:TypeId × Value→H):
    ReturnsInHanded {} Try.checked os 3 .any (Rows.fnExactJobsFaultSpec.pre6 enc Try.prog Try.f3 Rows.fnExactJobsFaultRow.domain false) (Rows.fnExactJobsFaultSpec.post enc Try.prog Try.f3 false true false false):=by
  refine returnsInHanded_of_change_sized (C:=Try.checked) own started (by kernel_rfl) Try.func3
    (ChangeSpec.witness6 (enc:=enc) (C:=Try.checked) false ⟨#[],#[.slice none 0 0],[]⟩ 8 (by kernel_rfl) (by kernel_rfl) (by kernel_rfl) (by kernel_rfl)) ?_
  intro W base args ds gs before hval0 hW hcnd hsz0 _
  have hval:∀(j:Nat) t v,Try.f3.params[j]?=some t→args[j]?=some v→Value.okWide Try.prog W .any base t v:=hval0
  have hW':=hW
  obtain⟨p,q,hA0,hV,rfl,hfz,hnd⟩:=hW
  have hA:DataW.TrodAll enc Try.prog W 0 (fun _=>true) true Try.f3.params.toList args.toList ds p:=hA0
  have hsz:(DataW.weightsEach Try.prog (Try.f3.params.toList++Rows.fnExactJobsFaultSpec.plain.varTypes Try.prog) (ds++gs)).all (· ≤reachBytes)=true:=hsz0
  rw[Try.params3] at hA hval hsz
  obtain⟨v0,vs0,d0,ds0,p0,q0,hargs,rfl,rfl,h0,r0⟩:=trodAll_cons hA
  obtain⟨rfl,rfl,rfl⟩:=trodAll_nil r0
  obtain rfl:args=#[v0]:=by cases args; simp_all
  obtain⟨rfl,rfl⟩:=trodVars_none hV
  have hlt:=fun x hx=>hW'.lt x hx
  clear hA0 hval0 hsz0
  obtain⟨bs0,o0,rel0⟩:=arg_sh (X:=lawX W) (n:=12) (ss:=[.sl [.int .i64,.int .i64,.int .i64,.int .i64,.int .i64,.sl [.int .i64,.sl [.int .i64,.int .i64,.sl [.int .i64] 8] 40,.sl [.int .i64,.sl [.int .i64] 8] 32] 56] 64]) (by kernel_rfl) (hval 0 22 v0 rfl rfl) h0 (sized_arg hsz (j:=0) rfl rfl) rfl
  obtain⟨x0,rfl,w0⟩:=un_LiiiiiLiLiiLiEELiLiEEEE o0
  have hr:SVRels (lawX W) [(.one (.bor 0 (List.map b_iiiiiLiLiiLiEELiLiEEE x0)))] [v0]:=by
    simp only[SVRels]
    exact⟨_,_,rfl,rel0,rfl⟩
  refine(walk x0 w0 (args:=#[v0]) hr).mono fun e W' ⟨he,bel⟩=>?_
  subst he
  exact⟨_,rfl,_,_,_,[],_,[],hW',trodAll_mk1 (shut_bool Try.underlying4 _),(trodAll_cons_mk (Below.trod laid (by kernel_rfl) (of_decide_eq_true (by kernel_rfl)) h0 bel (fun x hx=>hlt x (by simp[hx]))) trodAll_mk0),rfl,bel.frame _,fun h=>by cases h⟩
theorem over:Rows.fnExactJobsFaultRow.holds Try.pinned (OpenSpec.ofChange Rows.fnExactJobsFaultSpec):=
  OpenClaim.holds_of_wide 3 Try.f3 rfl rfl rfl rfl rfl rfl rfl ⟨rfl,rfl,rfl,rfl,rfl⟩ rfl rfl rfl rfl rfl (by kernel_rfl) Try.func3 (by kernel_rfl)
    (of_decide_eq_true (by kernel_rfl)) (by unfold Func.isWrapper; first |(rw[if_pos (by decide+kernel)]; kernel_rfl) |(rw[if_neg (by decide+kernel)]; exact⟨rfl,rfl⟩))
    (fun os started H enc _=>lifted os started H enc)
theorem proved:Rows.FnExactJobsFaultSaid:=over
#print axioms proved
end Go.Proofs.Ytjgebnhpklkjcaa.JobsFault
namespace Go.Proofs.Ytjgebnhpklkjcaa
/-- The row,under a short name,for the claim. -/
theorem fnExactJobsFault_holds:Rows.FnExactJobsFaultSaid:=JobsFault.proved
end Go.Proofs.Ytjgebnhpklkjcaa
