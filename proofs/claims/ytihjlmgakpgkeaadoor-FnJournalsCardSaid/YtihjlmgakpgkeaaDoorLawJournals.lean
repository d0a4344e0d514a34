/- FnExact: the law 'FnJournals' holds at every input (the library's tables as their initialisers lay them: tied to the text by the card): walked by V (the texts V..), its functions' text in YtihjlmgakpgkeaaDoorTJournals, what they compute in YtihjlmgakpgkeaaDoorEJournals, the plain law in YtihjlmgakpgkeaaDoorPureJournals. -/
import Derived.Test.YtihjlmgakpgkeaaDoorRows
import Derived.Test.YtihjlmgakpgkeaaDoorCards
import Derived.Test.YtihjlmgakpgkeaaDoorTie
import Derived.Test.YtihjlmgakpgkeaaDoorTJournals
import Derived.Test.YtihjlmgakpgkeaaDoorEJournals
import Derived.Test.YtihjlmgakpgkeaaDoorPureJournals
import Derived.Test.YtihjlmgakpgkeaaDoorVArgs
import Derived.WalkKit
import Derived.ProofKit
import Derived.OpenShut
import Derived.ShutString
import Derived.ChangeOld
import Derived.Below
import Derived.SizedLaws
import Derived.Carry
import Derived.Deep.DeepHandedRow
import Derived.SevenTiedAt
namespace Go.Proofs.YtihjlmgakpgkeaaDoor.Journals
open Go Go.Proofs.YtihjlmgakpgkeaaDoor.V Go.ChangeShapes Go.WideShapes Go.ChangeAt Go.RowKit
set_option linter.unusedVariables false
set_option maxRecDepth 100000
theorem walk (x0:(List Int)) (w0:wf_LyE x0) {args:Array Value} {W:World} (hr:SVRels (lawX W) [(.one (.bor 0 (List.map b_y x0)))] args.toList):
    Calls Tryd.prog 4 args W fun e W'=>e=.returned (.bool true)∧Below W.heap.size W W':=by
  have h:=e4 (a0:=x0) (l0_0:=0) (fun z hz=>wf8 (w0.2 z hz)) (by have:=w0.1; omega)
  rw[pure x0 w0] at h
  exact law_calls (by kernel_rfl) F_ok X_ok (fn:=v4) (by kernel_rfl) hr h
theorem own:ownKnob Tryd.prog.godebug=none:=by kernel_rfl
theorem laidOut:laidOutB Tryd.prog=true:=by kernel_rfl
theorem contract (H:Type) (enc:TypeId × Value→H) (W:World) (base:Nat) (args:Array Value) (ds gs:List (DataW H)) (before:List MemPlace)
    (hval0:∀(j:Nat) t v,Tryd.f4.params[j]?=some t→args[j]?=some v→Value.okWide Tryd.prog W .any base t v)
    (hW:DataW.Whole enc Tryd.prog Tryd.f4.params.toList Rows.fnJournalsSpec.vars false W args.toList ds gs before)
    (hsz0:(DataW.weightsEach Tryd.prog (Tryd.f4.params.toList++Rows.fnJournalsSpec.plain.varTypes Tryd.prog) (ds++gs)).all (· ≤reachBytes)=true):
    Calls Tryd.prog 4 args W fun e W'=>∃v,e=.returned v∧Rows.fnJournalsSpec.post enc Tryd.prog Tryd.f4 false true false false W args v W':=by
  have hval:∀(j:Nat) t v,Tryd.f4.params[j]?=some t→args[j]?=some v→Value.okWide Tryd.prog W .any base t v:=hval0
  have hW':=hW
  obtain⟨p,q,hA0,hV,rfl,hfz,hnd⟩:=hW
  have hA:DataW.TrodAll enc Tryd.prog W 0 (fun _=>true) true Tryd.f4.params.toList args.toList ds p:=hA0
  have hsz:(DataW.weightsEach Tryd.prog (Tryd.f4.params.toList++Rows.fnJournalsSpec.plain.varTypes Tryd.prog) (ds++gs)).all (· ≤reachBytes)=true:=hsz0
  rw[Tryd.params4] at hA hval hsz
  obtain⟨v0,vs0,d0,ds0,p0,q0,hargs,rfl,rfl,h0,r0⟩:=trodAll_cons hA
  obtain⟨rfl,rfl,rfl⟩:=trodAll_nil r0
  obtain rfl:args=#[v0]:=by cases args; simp_all
  obtain⟨rfl,rfl⟩:=trodVars_none hV
  have hlt:=fun x hx=>hW'.lt x hx
  clear hA0 hval0 hsz0
  obtain⟨bs0,o0,rel0⟩:=arg_sh (X:=lawX W) (n:=12) (ss:=[.sl [.int .u8] 1]) (by kernel_rfl) (hval 0 22 v0 rfl rfl) h0 (sized_arg hsz (j:=0) rfl rfl) rfl
  obtain⟨x0,rfl,w0⟩:=un_LyE o0
  have hr:SVRels (lawX W) [(.one (.bor 0 (List.map b_y x0)))] [v0]:=by
    simp only[SVRels]
    exact⟨_,_,rfl,rel0,rfl⟩
  refine(walk x0 w0 (args:=#[v0]) hr).mono fun e W' ⟨he,bel⟩=>?_
  subst he
  exact⟨_,rfl,_,_,_,[],_,[],hW',trodAll_mk1 (shut_bool Tryd.underlying4 _),(trodAll_cons_mk (Below.trod laidOut (by kernel_rfl) (of_decide_eq_true (by kernel_rfl)) h0 bel (fun x hx=>hlt x (by simp[hx]))) trodAll_mk0),rfl,bel.frame _,fun h=>by cases h⟩
noncomputable def laidWorld (os:Os):World:=
  {World.settled Tryd.prog os with heap:=(((World.settled Tryd.prog os).heap.modify 1 fun | .cells _ t z=>.cells #[.int .u8 128,.int .u8 191,.int .u8 160,.int .u8 191,.int .u8 128,.int .u8 159,.int .u8 144,.int .u8 191,.int .u8 128,.int .u8 143,.int .u8 0,.int .u8 0,.int .u8 0,.int .u8 0,.int .u8 0,.int .u8 0,.int .u8 0,.int .u8 0,.int .u8 0,.int .u8 0,.int .u8 0,.int .u8 0,.int .u8 0,.int .u8 0,.int .u8 0,.int .u8 0,.int .u8 0,.int .u8 0,.int .u8 0,.int .u8 0,.int .u8 0,.int .u8 0] t z | x=>x).modify 0 fun | .cells _ t z=>.cells (Go.Pinned.utf8FirstZ.map fun(n:Nat)=>Value.int .u8 (n:Int)).toArray t z | x=>x)}
set_option maxRecDepth 100000 in
theorem laid_met (os:Os):laidMet Tryd.prog Rows.fnJournalsRow.laid ((laidWorld os).forCall (fun _ _=>0) ⟨#[],#[.slice none 0 0],[]⟩).memory:=laidMet_of_run' 8 (by kernel_rfl) (by kernel_rfl)

theorem reads (os:Os) {H:Type} (enc:TypeId × Value→H):∃places,DataW.whole enc Tryd.prog ((laidWorld os).forCall (fun _ _=>0) ⟨#[],#[.slice none 0 0],[]⟩).memory Tryd.f4.params.toList Rows.fnJournalsSpec.vars false (#[.slice none 0 0]:Array Value).toList 8=some ([.nil],[],places):=⟨[],by kernel_rfl⟩
set_option maxRecDepth 100000 in
theorem lifted (os:Os) (started:os.Started) (H:Type) (enc:TypeId × Value→H) (F:Stop.Interp):
    ReturnsInHanded {} Tryd.checked os 4 .any ((OpenSpec.ofChange Rows.fnJournalsSpec).preRow enc Tryd.prog Tryd.f4 Rows.fnJournalsRow.domain false Rows.fnJournalsRow.laid) (((OpenSpec.ofChange Rows.fnJournalsSpec).at F).post enc Tryd.prog Tryd.f4 false true false false):=by
  obtain⟨places,hx⟩:=reads os enc
  refine returnsInHanded_of_row (C:=Tryd.checked) (s:=OpenSpec.ofChange Rows.fnJournalsSpec) own started (by kernel_rfl) Tryd.func4
    (witness_row_at (enc := enc) (C := Tryd.checked) false (laidWorld os) #[.slice none 0 0] rfl (by kernel_rfl) (by kernel_rfl) (by kernel_rfl)
      (OpenSpec.preRow_of_cond 8 hx (by kernel_rfl) (fun k hk=>by cases hk) (by kernel_rfl) (laid_met os))) ?_
  intro W base args ds gs before hval hW _ _ hsz _ _ _
  exact contract H enc W base args ds gs before hval hW hsz
theorem said:Rows.FnJournalsSaid:=
  OpenClaim.holds_of_cond 4 Tryd.f4 rfl rfl rfl rfl rfl rfl rfl ⟨rfl,rfl,rfl,rfl,rfl⟩ rfl rfl rfl rfl rfl (by kernel_rfl) Tryd.func4 (by kernel_rfl)
    (of_decide_eq_true (by kernel_rfl)) (by unfold Func.isWrapper; first |(rw[if_pos (by decide+kernel)]; kernel_rfl) |(rw[if_neg (by decide+kernel)]; exact⟨rfl,rfl⟩))
    (fun os started H enc _ F=>by rw[OpenClaim.pre_eq_preRow]; exact lifted os started H enc F)
theorem plain (f:FuncId) (fn:Func) (hf:Tryd.pinned.checked.prog.funcNamed "loop.example/g00539/laws.FnJournals"=some f) (hfn:Tryd.pinned.checked.prog.funcs[f]?=some fn):
    false=Tryd.pinned.checked.prog.looks []∧∀(j:Nat) t,fn.params[j]?=some t→Tryd.pinned.checked.prog.wantsStandIn t=false:=by
  obtain rfl:f=4:=Option.some.inj ((show Tryd.prog.funcNamed "loop.example/g00539/laws.FnJournals"=some 4 by kernel_rfl).symm.trans hf) |>.symm
  obtain rfl:fn=Tryd.f4:=(Option.some.inj (Tryd.func4.symm.trans hfn)).symm
  refine⟨by kernel_rfl,fun j t ht=>?_⟩
  rw[Tryd.params4] at ht
  have hm:t∈ [22]:=by simpa using Array.mem_of_getElem? ht
  have hall:([22].all fun u=> !Tryd.prog.wantsStandIn u)=true:=by kernel_rfl
  exact(show Tryd.prog.wantsStandIn t=false by simpa using List.all_eq_true.1 hall t hm)
theorem proved:Rows.FnJournalsCardSaid:=
  Claim7.holds_tied_plain_at .later [] _ _ _ _ said (fun _ h=>by cases h) (by kernel_rfl) (fun _ h=>by cases h) fnJournals_row_tie rfl ⟨rfl,rfl⟩ (by kernel_rfl) rfl plain (by kernel_rfl)
#print axioms proved
end Go.Proofs.YtihjlmgakpgkeaaDoor.Journals
namespace Go.Proofs.YtihjlmgakpgkeaaDoor
/-- The card,under a short name,for the claim. -/
theorem fnJournalsCard_holds:Rows.FnJournalsCardSaid:=Journals.proved
end Go.Proofs.YtihjlmgakpgkeaaDoor
