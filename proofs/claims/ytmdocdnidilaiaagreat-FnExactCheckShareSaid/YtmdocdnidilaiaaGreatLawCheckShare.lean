/- FnExact: the law 'FnExactCheckShare' holds at every input: walked by V (the texts V..), its functions' text in YtmdocdnidilaiaaGreatTCheckShare, what they compute in YtmdocdnidilaiaaGreatECheckShare, the plain law in YtmdocdnidilaiaaGreatPureCheckShare. -/
import Derived.Test.YtmdocdnidilaiaaGreatRows
import Derived.Test.YtmdocdnidilaiaaGreatTCheckShare
import Derived.Test.YtmdocdnidilaiaaGreatECheckShare
import Derived.Test.YtmdocdnidilaiaaGreatPureCheckShare
import Derived.Test.YtmdocdnidilaiaaGreatVArgs
import Derived.WalkKit
import Derived.ProofKit
import Derived.OpenShut
import Derived.ShutString
import Derived.ChangeOld
import Derived.Below
import Derived.SizedLaws
import Derived.Carry
namespace Go.Proofs.YtmdocdnidilaiaaGreat.CheckShare
open Go Go.Proofs.YtmdocdnidilaiaaGreat.V Go.ChangeShapes Go.WideShapes Go.ChangeAt Go.RowKit
set_option linter.unusedVariables false
theorem walk (x0:(List K_J)) (x1:(List K_KY)) (x2:K_KY) (x3:Int) (w0:wf_JL x0) (w1:wf_LiiiiE x1) (w2:wf_KY x2) (w3:wf_i x3) {args:Array Value} {W:World} (hr:SVRels (lawX W) [(.one (.bor 0 (List.map b_J x0))),(.one (.bor 0 (List.map b_KY x1))),(.agg [(.val (.int .i64 x2.f0)),(.val (.int .i64 x2.f1)),(.val (.int .i64 x2.f2)),(.val (.int .i64 x2.f3))]),(.one (.val (.int .i64 x3)))] args.toList):
    Calls Tryz.prog 5 args W fun e W'=>e=.returned (.bool true)∧Below W.heap.size W W':=by
  have h:=e5 (a0:=x0) (a1:=x1) (a2:=x2) (a3:=x3) (l0_0:=0) (l1_0:=0) w0.1 (fun z hz=>ok_wf_J z (w0.2 z hz)) w1.1
  rw[pure x0 x1 x2 x3 w0 w1 w2 w3] at h
  exact law_calls (by kernel_rfl) F_ok X_ok (fn:=v5) (by kernel_rfl) hr h
theorem own:ownKnob Tryz.prog.godebug=none:=by kernel_rfl
theorem laid:laidOutB Tryz.prog=true:=by kernel_rfl
set_option maxRecDepth 100000 in
theorem lifted (os:Os) (started:os.Started) (H:Type) (enc:TypeId × Value→H):
    ReturnsInHanded {} Tryz.checked os 5 .any (Rows.fnExactCheckShareSpec.pre6 enc Tryz.prog Tryz.f5 Rows.fnExactCheckShareRow.domain false) (Rows.fnExactCheckShareSpec.post enc Tryz.prog Tryz.f5 false true false false):=by
  refine returnsInHanded_of_change_sized (C:=Tryz.checked) own started (by kernel_rfl) Tryz.func5
    (ChangeSpec.witness6 (enc:=enc) (C:=Tryz.checked) false ⟨#[],#[.slice none 0 0,.slice none 0 0,.agg #[.int .i64 0,.int .i64 0,.int .i64 0,.int .i64 0],.int .i64 0],[]⟩ 8 (by kernel_rfl) (by kernel_rfl) (by kernel_rfl) (by kernel_rfl)) ?_
  intro W base args ds gs before hval0 hW hcnd hsz0 _
  have hval:∀(j:Nat) t v,Tryz.f5.params[j]?=some t→args[j]?=some v→Value.okWide Tryz.prog W .any base t v:=hval0
  have hW':=hW
  obtain⟨p,q,hA0,hV,rfl,hfz,hnd⟩:=hW
  have hA:DataW.TrodAll enc Tryz.prog W 0 (fun _=>true) true Tryz.f5.params.toList args.toList ds p:=hA0
  have hsz:(DataW.weightsEach Tryz.prog (Tryz.f5.params.toList++Rows.fnExactCheckShareSpec.plain.varTypes Tryz.prog) (ds++gs)).all (· ≤reachBytes)=true:=hsz0
  rw[Tryz.params5] at hA hval hsz
  obtain⟨v0,vs0,d0,ds0,p0,q0,hargs,rfl,rfl,h0,r0⟩:=trodAll_cons hA
  obtain⟨v1,vs1,d1,ds1,p1,q1,rfl,rfl,rfl,h1,r1⟩:=trodAll_cons r0
  obtain⟨v2,vs2,d2,ds2,p2,q2,rfl,rfl,rfl,h2,r2⟩:=trodAll_cons r1
  obtain⟨v3,vs3,d3,ds3,p3,q3,rfl,rfl,rfl,h3,r3⟩:=trodAll_cons r2
  obtain⟨rfl,rfl,rfl⟩:=trodAll_nil r3
  obtain rfl:args=#[v0,v1,v2,v3]:=by cases args; simp_all
  obtain⟨rfl,rfl⟩:=trodVars_none hV
  have hlt:=fun x hx=>hW'.lt x hx
  clear hA0 hval0 hsz0
  obtain⟨bs0,o0,rel0⟩:=arg_sh (X:=lawX W) (n:=12) (ss:=[.sl [.int .i64,.int .i64,.int .i64,.int .i64,.int .i64,.sl [.int .i64,.sl [.int .i64,.int .i64,.sl [.int .i64] 8] 40,.sl [.int .i64,.sl [.int .i64] 8] 32] 56] 64]) (by kernel_rfl) (hval 0 42 v0 rfl rfl) h0 (sized_arg hsz (j:=0) rfl rfl) rfl
  obtain⟨x0,rfl,w0⟩:=un_JL o0
  obtain⟨bs1,o1,rel1⟩:=arg_sh (X:=lawX W) (n:=12) (ss:=[.sl [.int .i64,.int .i64,.int .i64,.int .i64] 32]) (by kernel_rfl) (hval 1 54 v1 rfl rfl) h1 (sized_arg hsz (j:=1) rfl rfl) rfl
  obtain⟨x1,rfl,w1⟩:=un_LiiiiE o1
  obtain⟨bs2,o2,rel2⟩:=arg_sh (X:=lawX W) (n:=12) (ss:=[.int .i64,.int .i64,.int .i64,.int .i64]) (by kernel_rfl) (hval 2 56 v2 rfl rfl) h2 (sized_arg hsz (j:=2) rfl rfl) rfl
  obtain⟨x2,rfl,w2⟩:=un_KY o2
  obtain⟨bs3,o3,rel3⟩:=arg_sh (X:=lawX W) (n:=12) (ss:=[.int .i64]) (by kernel_rfl) (hval 3 2 v3 rfl rfl) h3 (sized_arg hsz (j:=3) rfl rfl) rfl
  obtain⟨x3,rfl,w3⟩:=un_i o3
  have hr:SVRels (lawX W) [(.one (.bor 0 (List.map b_J x0))),(.one (.bor 0 (List.map b_KY x1))),(.agg [(.val (.int .i64 x2.f0)),(.val (.int .i64 x2.f1)),(.val (.int .i64 x2.f2)),(.val (.int .i64 x2.f3))]),(.one (.val (.int .i64 x3)))] [v0,v1,v2,v3]:=by
    simp only[SVRels]
    exact⟨_,_,rfl,rel0,⟨_,_,rfl,rel1,⟨_,_,rfl,rel2,⟨_,_,rfl,rel3,rfl⟩⟩⟩⟩
  refine(walk x0 x1 x2 x3 w0 w1 w2 w3 (args:=#[v0,v1,v2,v3]) hr).mono fun e W' ⟨he,bel⟩=>?_
  subst he
  exact⟨_,rfl,_,_,_,[],_,[],hW',trodAll_mk1 (shut_bool Tryz.underlying4 _),(trodAll_cons_mk (Below.trod laid (by kernel_rfl) (of_decide_eq_true (by kernel_rfl)) h0 bel (fun x hx=>hlt x (by simp[hx]))) (trodAll_cons_mk (Below.trod laid (by kernel_rfl) (of_decide_eq_true (by kernel_rfl)) h1 bel (fun x hx=>hlt x (by simp[hx]))) (trodAll_cons_mk (Below.trod laid (by kernel_rfl) (of_decide_eq_true (by kernel_rfl)) h2 bel (fun x hx=>hlt x (by simp[hx]))) (trodAll_cons_mk (Below.trod laid (by kernel_rfl) (of_decide_eq_true (by kernel_rfl)) h3 bel (fun x hx=>hlt x (by simp[hx]))) trodAll_mk0)))),rfl,bel.frame _,fun h=>by cases h⟩
theorem over:Rows.fnExactCheckShareRow.holds Tryz.pinned (OpenSpec.ofChange Rows.fnExactCheckShareSpec):=
  OpenClaim.holds_of_wide 5 Tryz.f5 rfl rfl rfl rfl rfl rfl rfl ⟨rfl,rfl,rfl,rfl,rfl⟩ rfl rfl rfl rfl rfl (by kernel_rfl) Tryz.func5 (by kernel_rfl)
    (of_decide_eq_true (by kernel_rfl)) (by unfold Func.isWrapper; first |(rw[if_pos (by decide+kernel)]; kernel_rfl) |(rw[if_neg (by decide+kernel)]; exact⟨rfl,rfl⟩))
    (fun os started H enc _=>lifted os started H enc)
theorem proved:Rows.FnExactCheckShareSaid:=over
#print axioms proved
end Go.Proofs.YtmdocdnidilaiaaGreat.CheckShare
namespace Go.Proofs.YtmdocdnidilaiaaGreat
/-- The row,under a short name,for the claim. -/
theorem fnExactCheckShare_holds:Rows.FnExactCheckShareSaid:=CheckShare.proved
end Go.Proofs.YtmdocdnidilaiaaGreat
