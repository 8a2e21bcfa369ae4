-- Written by a program for this claim (the functions that the statement reaches, and that the program's code comes to them).
import Derived.Test.YtacijlpnpkhjaaaRows
import Derived.Test.YtacijlpnpkhjaaaHBalx9
import Derived.Test.YtacijlpnpkhjaaaPureFnExactIsBalanced
import Derived.Test.YtacijlpnpkhjaaaLibOpen
import Derived.WalkKit
import Derived.ProofKit
import Derived.OpenShut
import Derived.ShutString
import Derived.ChangeOld
import Derived.Below
import Derived.SizedLaws
import Derived.Lib.SmallJoins
import Derived.Test.YtacijlpnpkhjaaaVSized
namespace Go.Proofs.Ytacijlpnpkhjaaa.fnExactIsBalanced
open Go.ChangeShapes Go.WideShapes Go.ChangeAt Go.RowKit Go.Joins Go.Proofs.Ytacijlpnpkhjaaa.Lib Go.Proofs.Ytacijlpnpkhjaaa.HBal Go.Proofs.YtacijlpnpkhjaaaW.PrintWords
open Go.ChangeMaps (open_string shut_string)
set_option linter.unusedVariables false
theorem own : ownKnob Try.prog.godebug = none := by kernel_rfl
theorem laidOut : laidOutB Try.prog = true := by kernel_rfl
theorem opens113 : Opens Try.prog 113 k113 (fun x => ((Lit.int .i64 x.f0).wf = true) ∧ ((Lit.int .i64 x.f1).wf = true) ∧ (True)) :=
  Opens.iso _ (fun x => ⟨x.1, x.2.1, x.2.2⟩) (fun _ => rfl) (Opens.struct3 Try.underlying113 (by kernel_rfl) (by kernel_rfl) (Opens.int Try.underlying2) (Opens.int Try.underlying2) (Opens.bool Try.underlying4))
theorem opens115 : Opens Try.prog 115 k115 (fun x => ((Lit.int .i64 x.f0).wf = true) ∧ ((Lit.int .i64 x.f1).wf = true) ∧ (True)) :=
  Opens.iso _ (fun x => ⟨x.1, x.2.1, x.2.2⟩) (fun _ => rfl) (Opens.struct3 Try.underlying115 (by kernel_rfl) (by kernel_rfl) (Opens.int Try.underlying2) (Opens.int Try.underlying2) (Opens.bool Try.underlying4))
theorem opens99 : Opens Try.prog 99 k99 (fun x => ((Lit.int .i64 x.f0).wf = true) ∧ ((Lit.int .i64 x.f1).wf = true)) :=
  Opens.iso _ (fun x => ⟨x.1, x.2⟩) (fun _ => rfl) (Opens.struct2 Try.underlying99 (by kernel_rfl) (by kernel_rfl) (Opens.int Try.underlying2) (Opens.int Try.underlying2))
set_option maxRecDepth 100000 in
theorem lifted (os : Os) (started : os.Started) (H : Type) (enc : TypeId × Value → H) :
    ReturnsInHanded {} Try.checked os 13 .any (Rows.fnExactIsBalancedSpec.pre6 enc Try.prog Try.f13 Rows.fnExactIsBalancedRow.domain false) (Rows.fnExactIsBalancedSpec.post enc Try.prog Try.f13 false true false false) := by
  refine returnsInHanded_of_change_sized (C := Try.checked) own started (by kernel_rfl) Try.func13
    (ChangeSpec.witness6 (enc := enc) (C := Try.checked) false ⟨#[], #[.agg #[.slice none 0 0, .slice none 0 0], .slice none 0 0, .agg #[.slice none 0 0, .int .i64 0]], []⟩ 8 (by kernel_rfl) (by kernel_rfl) (by kernel_rfl) (by kernel_rfl)) ?_
  intro W base args ds gs before hval0 hW hcnd hsz0 _
  have hval : ∀ (j : Nat) t v, Try.f13.params[j]? = some t → args[j]? = some v → Value.okWide Try.prog W .any base t v := hval0
  have hW' := hW
  obtain ⟨p, q, hA0, hV, rfl, hfz, hnd⟩ := hW
  have hA : DataW.TrodAll enc Try.prog W 0 (fun _ => true) true Try.f13.params.toList args.toList ds p := hA0
  rw [Try.params13] at hA hval
  obtain ⟨v0, vs0, d0, ds0, p0, q0, hargs, rfl, rfl, h0, r0⟩ := trodAll_cons hA
  obtain ⟨v1, vs1, d1, ds1, p1, q1, rfl, rfl, rfl, h1, r1⟩ := trodAll_cons r0
  obtain ⟨v2, vs2, d2, ds2, p2, q2, rfl, rfl, rfl, h2, r2⟩ := trodAll_cons r1
  obtain ⟨rfl, rfl, rfl⟩ := trodAll_nil r2
  obtain rfl : args = #[v0, v1, v2] := by cases args; simp_all
  obtain ⟨rfl, rfl⟩ := trodVars_none hV
  have k0 := h0
  have lt0 := trod_places k0
  obtain ⟨m0_0, m0_1, y0_0, y0_1, n0, rfl, rfl, rfl, g0_0, g0_1⟩ := open_agg2 Try.underlying33 (by kernel_rfl) (by kernel_rfl) (hval 0 33 v0 rfl rfl) h0
  obtain ⟨x0_0, hK0_0, hQ0_0⟩ := (Opens.slice Try.underlying30 (by kernel_rfl) (opens113)) _ _ _ _ _ _ _ _ _ g0_0
  obtain ⟨A0_0, c0_0, e0_0, hc0_0, hr0_0⟩ := hK0_0
  obtain rfl : m0_0 = .slice A0_0 x0_0.length c0_0 := by simpa using e0_0
  obtain ⟨x0_1, hK0_1, hQ0_1⟩ := (Opens.slice Try.underlying31 (by kernel_rfl) (opens115)) _ _ _ _ _ _ _ _ _ g0_1
  obtain ⟨A0_1, c0_1, e0_1, hc0_1, hr0_1⟩ := hK0_1
  obtain rfl : m0_1 = .slice A0_1 x0_1.length c0_1 := by simpa using e0_1
  have k1 := h1
  have lt1 := trod_places k1
  obtain ⟨x1, hK1, hQ1⟩ := Opens.get (Opens.slice Try.underlying47 (by kernel_rfl) (opens99)) h1
  obtain ⟨b1, len1, cap1, rfl⟩ := okWide_slice Try.underlying47 (hval 1 47 v1 rfl rfl)
  obtain ⟨A1, c1, e1, hc1, hr1⟩ := hK1
  obtain ⟨rfl, rfl, rfl⟩ : b1 = A1 ∧ len1 = x1.length ∧ cap1 = c1 := by simpa [Value.cells] using e1
  have k2 := h2
  have lt2 := trod_places k2
  obtain ⟨m2_0, m2_1, y2_0, y2_1, n2, rfl, rfl, rfl, g2_0, g2_1⟩ := open_agg2 Try.underlying24 (by kernel_rfl) (by kernel_rfl) (hval 2 24 v2 rfl rfl) h2
  obtain ⟨x2_0, hK2_0, hQ2_0⟩ := (Opens.slice Try.underlying22 (by kernel_rfl) (Opens.int Try.underlying2)) _ _ _ _ _ _ _ _ _ g2_0
  obtain ⟨A2_0, c2_0, e2_0, hc2_0, hr2_0⟩ := hK2_0
  obtain rfl : m2_0 = .slice A2_0 x2_0.length c2_0 := by simpa using e2_0
  obtain ⟨a2_1, e2_1, rfl, w2_1⟩ := DataW.trod_int Try.underlying2 g2_1
  obtain rfl : m2_1 = .int .i64 a2_1 := by simpa using e2_1
  obtain ⟨k, hk⟩ := Pure.FnExactIsBalanced x0_0 x0_1 x1 x2_0 a2_1 hQ0_0.1 hQ0_0.2 hQ0_1.1 hQ0_1.2 hQ1.1 hQ1.2 hQ2_0.1 hQ2_0.2 w2_1
  refine (laws_FnExactIsBalanced.calls k _ _ x0_0 _ _ x0_1 _ _ x1 _ _ x2_0 a2_1 true W hr0_0 hc0_0 hr0_1 hc0_1 hr1 hc1 hr2_0 hc2_0 hk).mono fun e W' hE => ?_
  obtain ⟨he, bel0⟩ := hE
  have bel : Below W.heap.size W W' := bel0
  subst he
  exact ⟨_, rfl, _, _, _, [], _, [], hW', trodAll_mk1 (shut_bool Try.underlying4 _), (trodAll_cons_mk (Below.trod laidOut (by kernel_rfl) (of_decide_eq_true (by kernel_rfl)) k0 bel lt0) (trodAll_cons_mk (Below.trod laidOut (by kernel_rfl) (of_decide_eq_true (by kernel_rfl)) k1 bel lt1) (trodAll_cons_mk (Below.trod laidOut (by kernel_rfl) (of_decide_eq_true (by kernel_rfl)) k2 bel lt2) trodAll_mk0))), rfl, bel.frame _, fun h => by cases h⟩
theorem over : Rows.fnExactIsBalancedRow.holds Try.pinned (OpenSpec.ofChange Rows.fnExactIsBalancedSpec) :=
  OpenClaim.holds_of_wide 13 Try.f13 rfl rfl rfl rfl rfl rfl rfl ⟨rfl, rfl, rfl, rfl, rfl⟩ rfl rfl rfl rfl rfl (by kernel_rfl) Try.func13 (by kernel_rfl)
    (of_decide_eq_true (by kernel_rfl)) (by unfold Func.isWrapper; first | (rw [if_pos (by decide +kernel)]; kernel_rfl) | (rw [if_neg (by decide +kernel)]; exact ⟨rfl, rfl⟩))
    (fun os started H enc _ => lifted os started H enc)
theorem proved : Rows.FnExactIsBalancedSaid := over
#print axioms proved
end Go.Proofs.Ytacijlpnpkhjaaa.fnExactIsBalanced
namespace Go.Proofs.Ytacijlpnpkhjaaa
/-- The row, under a short name, for the claim. -/
theorem fnExactIsBalanced_holds : Rows.FnExactIsBalancedSaid := fnExactIsBalanced.proved
end Go.Proofs.Ytacijlpnpkhjaaa
