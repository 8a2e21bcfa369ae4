-- Written by a program for this claim (the functions that the statement reaches, and that the program's code comes to them).
import Derived.Test.YtacijlpnpkhjaaaDoorRows
import Derived.Test.YtacijlpnpkhjaaaDoorHFnExactBarTextx8
import Derived.Test.YtacijlpnpkhjaaaDoorPureFnExactBarText
import Derived.Test.YtacijlpnpkhjaaaDoorLibOpen
import Derived.Test.YtacijlpnpkhjaaaDoorTie
import Derived.Test.YtacijlpnpkhjaaaDoorCards
import Derived.LaidMore
import Derived.SevenTiedAt
import Derived.WalkKit
import Derived.ProofKit
import Derived.OpenShut
import Derived.ShutString
import Derived.ChangeOld
import Derived.Below
import Derived.SizedLaws
import Derived.Lib.SmallJoins
import Derived.Test.YtacijlpnpkhjaaaDoorVSized
namespace Go.Proofs.YtacijlpnpkhjaaaDoor.fnExactBarText
open Go.ChangeShapes Go.WideShapes Go.ChangeAt Go.RowKit Go.Joins Go.Proofs.YtacijlpnpkhjaaaDoor.Lib Go.Proofs.YtacijlpnpkhjaaaDoor.HFnExactBarText Go.Proofs.YtacijlpnpkhjaaaDoorW.PrintWords
open Go.ChangeMaps (open_string shut_string)
set_option linter.unusedVariables false
theorem own : ownKnob Tryd.prog.godebug = none := by kernel_rfl
theorem laidOut : laidOutB Tryd.prog = true := by kernel_rfl
theorem opens53 : Opens Tryd.prog 53 k53 (fun x => ((Lit.int .i64 x.f0).wf = true) ∧ ((Lit.int .i64 x.f1).wf = true) ∧ (True)) :=
  Opens.iso _ (fun x => ⟨x.1, x.2.1, x.2.2⟩) (fun _ => rfl) (Opens.struct3 Tryd.underlying53 (by kernel_rfl) (by kernel_rfl) (Opens.int Tryd.underlying2) (Opens.int Tryd.underlying2) (Opens.bool Tryd.underlying4))
theorem opens55 : Opens Tryd.prog 55 k55 (fun x => ((Lit.int .i64 x.f0).wf = true) ∧ ((Lit.int .i64 x.f1).wf = true) ∧ (True)) :=
  Opens.iso _ (fun x => ⟨x.1, x.2.1, x.2.2⟩) (fun _ => rfl) (Opens.struct3 Tryd.underlying55 (by kernel_rfl) (by kernel_rfl) (Opens.int Tryd.underlying2) (Opens.int Tryd.underlying2) (Opens.bool Tryd.underlying4))
/-- The door's own heap meets the condition. -/
theorem door_met (os : Os) (args : Array Value) : laidMetH Tryd.prog Rows.fnExactBarTextRow.laid ((World.doorLaid Tryd.prog 4000 os).forCall (fun _ _ => 0) ⟨#[], args, []⟩).memory :=
  laidMetH_of_parts3 (fuel := 8) (laidMet_of_run' 8 (by kernel_rfl) (by kernel_rfl)) (by kernel_rfl) (by kernel_rfl)
set_option maxRecDepth 100000 in
theorem lifted (os : Os) (started : os.Started) (H : Type) (enc : TypeId × Value → H) :
    ReturnsInHanded {} Tryd.checked os 3 .any (fun w args => (Rows.fnExactBarTextSpec.pre enc Tryd.prog Tryd.f3 [] false w args ∧ laidMetH Tryd.prog Rows.fnExactBarTextRow.laid w) ∧ sizedMet enc Tryd.prog Tryd.f3 (OpenSpec.ofChange Rows.fnExactBarTextSpec) false w args)
      (Rows.fnExactBarTextSpec.post enc Tryd.prog Tryd.f3 false true false false) := by
  refine returnsInHanded_of_change_and (C := Tryd.checked) (X := fun w _ => laidMetH Tryd.prog Rows.fnExactBarTextRow.laid w) (fun _ _ _ hh h => h.of_heap hh) own started (by kernel_rfl) Tryd.func3
    (ChangeSpec.witness_shaped (enc := enc) (C := Tryd.checked) (os := os) (X := fun w _ => laidMetH Tryd.prog Rows.fnExactBarTextRow.laid w) false (World.doorLaid Tryd.prog 4000 os) #[.agg #[.slice none 0 0, .slice none 0 0], .int .i64 0] 8 rfl (World.shaped_of_RefB (by kernel_rfl) (by kernel_rfl)) (by kernel_rfl) (by kernel_rfl) (by kernel_rfl) (door_met os _)) ?_
  intro W base args ds gs before hval0 hW hcnd hsz0 hL _
  have hval : ∀ (j : Nat) t v, Tryd.f3.params[j]? = some t → args[j]? = some v → Value.okWide Tryd.prog W .any base t v := hval0
  have hW' := hW
  obtain ⟨p, q, hA0, hV, rfl, hfz, hnd⟩ := hW
  have hA : DataW.TrodAll enc Tryd.prog W 0 (fun _ => true) true Tryd.f3.params.toList args.toList ds p := hA0
  rw [Tryd.params3] at hA hval
  obtain ⟨v0, vs0, d0, ds0, p0, q0, hargs, rfl, rfl, h0, r0⟩ := trodAll_cons hA
  obtain ⟨v1, vs1, d1, ds1, p1, q1, rfl, rfl, rfl, h1, r1⟩ := trodAll_cons r0
  obtain ⟨rfl, rfl, rfl⟩ := trodAll_nil r1
  obtain rfl : args = #[v0, v1] := by cases args; simp_all
  obtain ⟨rfl, rfl⟩ := trodVars_none hV
  have k0 := h0
  have lt0 := trod_places k0
  obtain ⟨m0_0, m0_1, y0_0, y0_1, n0, rfl, rfl, rfl, g0_0, g0_1⟩ := open_agg2 Tryd.underlying25 (by kernel_rfl) (by kernel_rfl) (hval 0 25 v0 rfl rfl) h0
  obtain ⟨x0_0, hK0_0, hQ0_0⟩ := (Opens.slice Tryd.underlying22 (by kernel_rfl) (opens53)) _ _ _ _ _ _ _ _ _ g0_0
  obtain ⟨A0_0, c0_0, e0_0, hc0_0, hr0_0⟩ := hK0_0
  obtain rfl : m0_0 = .slice A0_0 x0_0.length c0_0 := by simpa using e0_0
  obtain ⟨x0_1, hK0_1, hQ0_1⟩ := (Opens.slice Tryd.underlying23 (by kernel_rfl) (opens55)) _ _ _ _ _ _ _ _ _ g0_1
  obtain ⟨A0_1, c0_1, e0_1, hc0_1, hr0_1⟩ := hK0_1
  obtain rfl : m0_1 = .slice A0_1 x0_1.length c0_1 := by simpa using e0_1
  obtain ⟨a1, rfl, rfl, rfl, w1⟩ := open_int Tryd.underlying2 (hval 1 2 v1 rfl rfl) h1
  obtain ⟨k, hk⟩ := Pure.FnExactBarText x0_0 x0_1 a1 hQ0_0.1 hQ0_0.2 hQ0_1.1 hQ0_1.2 w1
  refine (laws_FnExactBarText.calls k _ _ x0_0 _ _ x0_1 a1 true W hr0_0 hc0_0 hr0_1 hc0_1 hk).mono fun e W' hE => ?_
  obtain ⟨he, bel0⟩ := hE
  have bel : Below W.heap.size W W' := bel0
  subst he
  exact ⟨_, rfl, _, _, _, [], _, [], hW', trodAll_mk1 (shut_bool Tryd.underlying4 _), (trodAll_cons_mk (Below.trod laidOut (by kernel_rfl) (of_decide_eq_true (by kernel_rfl)) k0 bel lt0) (trodAll_cons_mk (shut_int Tryd.underlying2 w1) trodAll_mk0)), rfl, bel.frame _, fun h => by cases h⟩
theorem over : Rows.fnExactBarTextRow.holds Tryd.pinned (OpenSpec.ofChange Rows.fnExactBarTextSpec) :=
  OpenClaim.holds_of_wide 3 Tryd.f3 rfl rfl rfl rfl rfl rfl rfl ⟨rfl, rfl, rfl, rfl, rfl⟩ rfl rfl rfl rfl rfl (by kernel_rfl) Tryd.func3 (by kernel_rfl)
    (of_decide_eq_true (by kernel_rfl)) (by unfold Func.isWrapper; first | (rw [if_pos (by decide +kernel)]; kernel_rfl) | (rw [if_neg (by decide +kernel)]; exact ⟨rfl, rfl⟩))
    (fun os started H enc _ => lifted os started H enc)
/-- The tied card: what the row lists, tied to the program's text. -/
theorem card : Rows.FnExactBarTextCardSaid :=
  Claim7.holds_tied_plain_at .later [] [.data, .data, .data] true (true, "6e8f41459cfd0946684eae98b0c7ea9b99ae4c1b53b988ce0aaf9b72e959d58f") false
    over (fun _ h => by cases h) (by kernel_rfl) (fun _ h => by cases h) fnExactBarText_row_tie rfl ⟨rfl, rfl⟩ (by kernel_rfl) rfl
    (fun f fn hf hfn => by
      obtain rfl : f = 3 := Option.some.inj ((show Tryd.prog.funcNamed "loop.example/g01044/laws.FnExactBarText" = some 3 by kernel_rfl).symm.trans hf) |>.symm
      obtain rfl : fn = Tryd.f3 := (Option.some.inj (Tryd.func3.symm.trans hfn)).symm
      exact ⟨by kernel_rfl, fun j t ht => by
        rw [Tryd.params3] at ht
        have hm : t ∈ [25, 2] := by simpa using Array.mem_of_getElem? ht
        have hall : ([25, 2].all fun u => !Tryd.prog.wantsStandIn u) = true := by kernel_rfl
        exact (show Tryd.prog.wantsStandIn t = false by simpa using List.all_eq_true.1 hall t hm)⟩)
    (by kernel_rfl)
#print axioms card
end Go.Proofs.YtacijlpnpkhjaaaDoor.fnExactBarText
namespace Go.Proofs.YtacijlpnpkhjaaaDoor
/-- The card, under a short name, for the claim. -/
theorem fnExactBarText_holds : Rows.FnExactBarTextCardSaid := fnExactBarText.card
end Go.Proofs.YtacijlpnpkhjaaaDoor
