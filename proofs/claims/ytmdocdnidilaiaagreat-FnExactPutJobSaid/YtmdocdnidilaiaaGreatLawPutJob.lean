/- FnExact: the law 'FnExactPutJob' holds at every input: walked by V (the texts V..), its functions' text in YtmdocdnidilaiaaGreatTPutJob, what they compute in YtmdocdnidilaiaaGreatEPutJob, the plain law in YtmdocdnidilaiaaGreatPurePutJob. -/
import Derived.Test.YtmdocdnidilaiaaGreatRows
import Derived.Test.YtmdocdnidilaiaaGreatTPutJob
import Derived.Test.YtmdocdnidilaiaaGreatEPutJob
import Derived.Test.YtmdocdnidilaiaaGreatPurePutJob
import Derived.Test.YtmdocdnidilaiaaGreatVArgs
import Derived.WalkKit
import Derived.ProofKit
import Derived.OpenShut
import Derived.ShutString
import Derived.ChangeOld
import Derived.Below
import Derived.SizedLaws
import Derived.Carry
namespace Go.Proofs.YtmdocdnidilaiaaGreat.PutJob
open Go Go.Proofs.YtmdocdnidilaiaaGreat.V Go.ChangeShapes Go.WideShapes Go.ChangeAt Go.RowKit
set_option linter.unusedVariables false
theorem walk (x0:(List K_J)) (x1:K_J) (w0:wf_JL x0) (w1:wf_J x1) {args:Array Value} {W:World} (hr:SVRels (lawX W) [(.one (.bor 0 (List.map b_J x0))),(.agg [(.val (.int .i64 x1.f0)),(.val (.int .i64 x1.f1)),(.val (.int .i64 x1.f2)),(.val (.int .i64 x1.f3)),(.val (.int .i64 x1.f4)),(.bor 0 (List.map b_T x1.f5))])] args.toList):
    Calls Tryz.prog 4 args W fun e W'=>e=.returned (.bool true)∧Below W.heap.size W W':=by
  have h:=e4 (a0:=x0) (a1:=x1) (l0_0:=0) (l1_5:=0) w0.1 (fun z hz=>ok_wf_J z (w0.2 z hz)) w1.2.2.2.2.2.1 (fun z hz=>ok_wf_T z (w1.2.2.2.2.2.2 z hz))
  rw[pure x0 x1 w0 w1] at h
  exact law_calls (by kernel_rfl) F_ok X_ok (fn:=v4) (by kernel_rfl) hr h
theorem own:ownKnob Tryz.prog.godebug=none:=by kernel_rfl
theorem laid:laidOutB Tryz.prog=true:=by kernel_rfl
set_option maxRecDepth 100000 in
theorem lifted (os:Os) (started:os.Started) (H:Type) (enc:TypeId × Value→H):
    ReturnsInHanded {} Tryz.checked os 4 .any (Rows.fnExactPutJobSpec.pre6 enc Tryz.prog Tryz.f4 Rows.fnExactPutJobRow.domain false) (Rows.fnExactPutJobSpec.post enc Tryz.prog Tryz.f4 false true false false):=by
  refine returnsInHanded_of_change_sized (C:=Tryz.checked) own started (by kernel_rfl) Tryz.func4
    (ChangeSpec.witness6 (enc:=enc) (C:=Tryz.checked) false ⟨#[],#[.slice none 0 0,.agg #[.int .i64 0,.int .i64 0,.int .i64 0,.int .i64 0,.int .i64 0,.slice none 0 0]],[]⟩ 8 (by kernel_rfl) (by kernel_rfl) (by kernel_rfl) (by kernel_rfl)) ?_
  intro W base args ds gs before hval0 hW hcnd hsz0 _
  have hval:∀(j:Nat) t v,Tryz.f4.params[j]?=some t→args[j]?=some v→Value.okWide Tryz.prog W .any base t v:=hval0
  have hW':=hW
  obtain⟨p,q,hA0,hV,rfl,hfz,hnd⟩:=hW
  have hA:DataW.TrodAll enc Tryz.prog W 0 (fun _=>true) true Tryz.f4.params.toList args.toList ds p:=hA0
  have hsz:(DataW.weightsEach Tryz.prog (Tryz.f4.params.toList++Rows.fnExactPutJobSpec.plain.varTypes Tryz.prog) (ds++gs)).all (· ≤reachBytes)=true:=hsz0
  rw[Tryz.params4] at hA hval hsz
  obtain⟨v0,vs0,d0,ds0,p0,q0,hargs,rfl,rfl,h0,r0⟩:=trodAll_cons hA
  obtain⟨v1,vs1,d1,ds1,p1,q1,rfl,rfl,rfl,h1,r1⟩:=trodAll_cons r0
  obtain⟨rfl,rfl,rfl⟩:=trodAll_nil r1
  obtain rfl:args=#[v0,v1]:=by cases args; simp_all
  obtain⟨rfl,rfl⟩:=trodVars_none hV
  have hlt:=fun x hx=>hW'.lt x hx
  clear hA0 hval0 hsz0
  obtain⟨bs0,o0,rel0⟩:=arg_sh (X:=lawX W) (n:=12) (ss:=[.sl [.int .i64,.int .i64,.int .i64,.int .i64,.int .i64,.sl [.int .i64,.sl [.int .i64,.int .i64,.sl [.int .i64] 8] 40,.sl [.int .i64,.sl [.int .i64] 8] 32] 56] 64]) (by kernel_rfl) (hval 0 42 v0 rfl rfl) h0 (sized_arg hsz (j:=0) rfl rfl) rfl
  obtain⟨x0,rfl,w0⟩:=un_JL o0
  obtain⟨bs1,o1,rel1⟩:=arg_sh (X:=lawX W) (n:=12) (ss:=[.int .i64,.int .i64,.int .i64,.int .i64,.int .i64,.sl [.int .i64,.sl [.int .i64,.int .i64,.sl [.int .i64] 8] 40,.sl [.int .i64,.sl [.int .i64] 8] 32] 56]) (by kernel_rfl) (hval 1 26 v1 rfl rfl) h1 (sized_arg hsz (j:=1) rfl rfl) rfl
  obtain⟨x1,rfl,w1⟩:=un_J o1
  have hr:SVRels (lawX W) [(.one (.bor 0 (List.map b_J x0))),(.agg [(.val (.int .i64 x1.f0)),(.val (.int .i64 x1.f1)),(.val (.int .i64 x1.f2)),(.val (.int .i64 x1.f3)),(.val (.int .i64 x1.f4)),(.bor 0 (List.map b_T x1.f5))])] [v0,v1]:=by
    simp only[SVRels]
    exact⟨_,_,rfl,rel0,⟨_,_,rfl,rel1,rfl⟩⟩
  refine(walk x0 x1 w0 w1 (args:=#[v0,v1]) hr).mono fun e W' ⟨he,bel⟩=>?_
  subst he
  exact⟨_,rfl,_,_,_,[],_,[],hW',trodAll_mk1 (shut_bool Tryz.underlying4 _),(trodAll_cons_mk (Below.trod laid (by kernel_rfl) (of_decide_eq_true (by kernel_rfl)) h0 bel (fun x hx=>hlt x (by simp[hx]))) (trodAll_cons_mk (Below.trod laid (by kernel_rfl) (of_decide_eq_true (by kernel_rfl)) h1 bel (fun x hx=>hlt x (by simp[hx]))) trodAll_mk0)),rfl,bel.frame _,fun h=>by cases h⟩
theorem over:Rows.fnExactPutJobRow.holds Tryz.pinned (OpenSpec.ofChange Rows.fnExactPutJobSpec):=
  OpenClaim.holds_of_wide 4 Tryz.f4 rfl rfl rfl rfl rfl rfl rfl ⟨rfl,rfl,rfl,rfl,rfl⟩ rfl rfl rfl rfl rfl (by kernel_rfl) Tryz.func4 (by kernel_rfl)
    (of_decide_eq_true (by kernel_rfl)) (by unfold Func.isWrapper; first |(rw[if_pos (by decide+kernel)]; kernel_rfl) |(rw[if_neg (by decide+kernel)]; exact⟨rfl,rfl⟩))
    (fun os started H enc _=>lifted os started H enc)
theorem proved:Rows.FnExactPutJobSaid:=over
#print axioms proved
end Go.Proofs.YtmdocdnidilaiaaGreat.PutJob
namespace Go.Proofs.YtmdocdnidilaiaaGreat
/-- The row,under a short name,for the claim. -/
theorem fnExactPutJob_holds:Rows.FnExactPutJobSaid:=PutJob.proved
end Go.Proofs.YtmdocdnidilaiaaGreat
