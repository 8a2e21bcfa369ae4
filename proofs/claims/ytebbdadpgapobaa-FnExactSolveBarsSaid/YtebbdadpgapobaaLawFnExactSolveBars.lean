-- Written by a program for this claim (the functions that the statement reaches, and that the program's code comes to them).
import Derived.Test.YtebbdadpgapobaaRows
import Derived.Test.YtebbdadpgapobaaHElx16
import Derived.Test.YtebbdadpgapobaaPureFnExactSolveBars
import Derived.Test.YtebbdadpgapobaaLibOpen
import Derived.WalkKit
import Derived.ProofKit
import Derived.OpenShut
import Derived.ShutString
import Derived.ChangeOld
import Derived.Below
import Derived.SizedLaws
import Derived.Lib.SmallJoins
import Derived.Test.YtebbdadpgapobaaVSized
namespace Go.Proofs.Ytebbdadpgapobaa.fnExactSolveBars
open Go.ChangeShapes Go.WideShapes Go.ChangeAt Go.RowKit Go.Joins Go.Proofs.Ytebbdadpgapobaa.Lib Go.Proofs.Ytebbdadpgapobaa.HEl Go.Proofs.YtebbdadpgapobaaW.PrintWords
open Go.ChangeMaps (open_string shut_string)
set_option linter.unusedVariables false
theorem own : ownKnob Try.prog.godebug = none := by kernel_rfl
theorem laidOut : laidOutB Try.prog = true := by kernel_rfl
theorem opens126 : Opens Try.prog 126 k126 (fun x => ((Lit.int .i64 x.f0).wf = true) ∧ ((Lit.int .i64 x.f1).wf = true) ∧ (True)) :=
  Opens.iso _ (fun x => ⟨x.1, x.2.1, x.2.2⟩) (fun _ => rfl) (Opens.struct3 Try.underlying126 (by kernel_rfl) (by kernel_rfl) (Opens.int Try.underlying2) (Opens.int Try.underlying2) (Opens.bool Try.underlying4))
theorem opens128 : Opens Try.prog 128 k128 (fun x => ((Lit.int .i64 x.f0).wf = true) ∧ ((Lit.int .i64 x.f1).wf = true) ∧ (True)) :=
  Opens.iso _ (fun x => ⟨x.1, x.2.1, x.2.2⟩) (fun _ => rfl) (Opens.struct3 Try.underlying128 (by kernel_rfl) (by kernel_rfl) (Opens.int Try.underlying2) (Opens.int Try.underlying2) (Opens.bool Try.underlying4))
theorem opens98 : Opens Try.prog 98 k98 (fun x => ((Lit.int .i64 x.f0).wf = true) ∧ ((Lit.int .i64 x.f1).wf = true)) :=
  Opens.iso _ (fun x => ⟨x.1, x.2⟩) (fun _ => rfl) (Opens.struct2 Try.underlying98 (by kernel_rfl) (by kernel_rfl) (Opens.int Try.underlying2) (Opens.int Try.underlying2))
set_option maxRecDepth 100000 in
theorem lifted (os : Os) (started : os.Started) (H : Type) (enc : TypeId × Value → H) :
    ReturnsInHanded {} Try.checked os 5 .any (Rows.fnExactSolveBarsSpec.pre6 enc Try.prog Try.f5 Rows.fnExactSolveBarsRow.domain false) (Rows.fnExactSolveBarsSpec.post enc Try.prog Try.f5 false true false false) := by
  refine returnsInHanded_of_change_sized (C := Try.checked) own started (by kernel_rfl) Try.func5
    (ChangeSpec.witness6 (enc := enc) (C := Try.checked) false ⟨#[], #[.agg #[.slice none 0 0, .slice none 0 0], .slice none 0 0, .slice none 0 0], []⟩ 8 (by kernel_rfl) (by kernel_rfl) (by kernel_rfl) (by kernel_rfl)) ?_
  intro W base args ds gs before hval0 hW hcnd hsz0 _
  have hval : ∀ (j : Nat) t v, Try.f5.params[j]? = some t → args[j]? = some v → Value.okWide Try.prog W .any base t v := hval0
  have hW' := hW
  obtain ⟨p, q, hA0, hV, rfl, hfz, hnd⟩ := hW
  have hA : DataW.TrodAll enc Try.prog W 0 (fun _ => true) true Try.f5.params.toList args.toList ds p := hA0
  rw [Try.params5] at hA hval
  obtain ⟨v0, vs0, d0, ds0, p0, q0, hargs, rfl, rfl, h0, r0⟩ := trodAll_cons hA
  obtain ⟨v1, vs1, d1, ds1, p1, q1, rfl, rfl, rfl, h1, r1⟩ := trodAll_cons r0
  obtain ⟨v2, vs2, d2, ds2, p2, q2, rfl, rfl, rfl, h2, r2⟩ := trodAll_cons r1
  obtain ⟨rfl, rfl, rfl⟩ := trodAll_nil r2
  obtain rfl : args = #[v0, v1, v2] := by cases args; simp_all
  obtain ⟨rfl, rfl⟩ := trodVars_none hV
  have k0 := h0
  have lt0 := trod_places k0
  obtain ⟨m0_0, m0_1, y0_0, y0_1, n0, rfl, rfl, rfl, g0_0, g0_1⟩ := open_agg2 Try.underlying25 (by kernel_rfl) (by kernel_rfl) (hval 0 25 v0 rfl rfl) h0
  obtain ⟨x0_0, hK0_0, hQ0_0⟩ := (Opens.slice Try.underlying22 (by kernel_rfl) (opens126)) _ _ _ _ _ _ _ _ _ g0_0
  obtain ⟨A0_0, c0_0, e0_0, hc0_0, hr0_0⟩ := hK0_0
  obtain rfl : m0_0 = .slice A0_0 x0_0.length c0_0 := by simpa using e0_0
  obtain ⟨x0_1, hK0_1, hQ0_1⟩ := (Opens.slice Try.underlying23 (by kernel_rfl) (opens128)) _ _ _ _ _ _ _ _ _ g0_1
  obtain ⟨A0_1, c0_1, e0_1, hc0_1, hr0_1⟩ := hK0_1
  obtain rfl : m0_1 = .slice A0_1 x0_1.length c0_1 := by simpa using e0_1
  have k1 := h1
  have lt1 := trod_places k1
  obtain ⟨x1, hK1, hQ1⟩ := Opens.get (Opens.slice Try.underlying41 (by kernel_rfl) (opens98)) h1
  obtain ⟨b1, len1, cap1, rfl⟩ := okWide_slice Try.underlying41 (hval 1 41 v1 rfl rfl)
  obtain ⟨A1, c1, e1, hc1, hr1⟩ := hK1
  obtain ⟨rfl, rfl, rfl⟩ : b1 = A1 ∧ len1 = x1.length ∧ cap1 = c1 := by simpa [Value.cells] using e1
  have k2 := h2
  have lt2 := trod_places k2
  obtain ⟨x2, hK2, hQ2⟩ := Opens.get (Opens.slice Try.underlying26 (by kernel_rfl) (Opens.int Try.underlying2)) h2
  obtain ⟨b2, len2, cap2, rfl⟩ := okWide_slice Try.underlying26 (hval 2 26 v2 rfl rfl)
  obtain ⟨A2, c2, e2, hc2, hr2⟩ := hK2
  obtain ⟨rfl, rfl, rfl⟩ : b2 = A2 ∧ len2 = x2.length ∧ cap2 = c2 := by simpa [Value.cells] using e2
  obtain ⟨k, hk⟩ := Pure.FnExactSolveBars x0_0 x0_1 x1 x2 hQ0_0.1 hQ0_0.2 hQ0_1.1 hQ0_1.2 hQ1.1 hQ1.2 hQ2.1 hQ2.2
  refine (laws_FnExactSolveBars.calls k _ _ x0_0 _ _ x0_1 _ _ x1 _ _ x2 true W hr0_0 hc0_0 hr0_1 hc0_1 hr1 hc1 hr2 hc2 hk).mono fun e W' hE => ?_
  obtain ⟨he, bel0⟩ := hE
  have bel : Below W.heap.size W W' := bel0
  subst he
  exact ⟨_, rfl, _, _, _, [], _, [], hW', trodAll_mk1 (shut_bool Try.underlying4 _), (trodAll_cons_mk (Below.trod laidOut (by kernel_rfl) (of_decide_eq_true (by kernel_rfl)) k0 bel lt0) (trodAll_cons_mk (Below.trod laidOut (by kernel_rfl) (of_decide_eq_true (by kernel_rfl)) k1 bel lt1) (trodAll_cons_mk (Below.trod laidOut (by kernel_rfl) (of_decide_eq_true (by kernel_rfl)) k2 bel lt2) trodAll_mk0))), rfl, bel.frame _, fun h => by cases h⟩
theorem over : Rows.fnExactSolveBarsRow.holds Try.pinned (OpenSpec.ofChange Rows.fnExactSolveBarsSpec) :=
  OpenClaim.holds_of_wide 5 Try.f5 rfl rfl rfl rfl rfl rfl rfl ⟨rfl, rfl, rfl, rfl, rfl⟩ rfl rfl rfl rfl rfl (by kernel_rfl) Try.func5 (by kernel_rfl)
    (of_decide_eq_true (by kernel_rfl)) (by unfold Func.isWrapper; first | (rw [if_pos (by decide +kernel)]; kernel_rfl) | (rw [if_neg (by decide +kernel)]; exact ⟨rfl, rfl⟩))
    (fun os started H enc _ => lifted os started H enc)
theorem proved : Rows.FnExactSolveBarsSaid := over
#print axioms proved
end Go.Proofs.Ytebbdadpgapobaa.fnExactSolveBars
namespace Go.Proofs.Ytebbdadpgapobaa
/-- The row, under a short name, for the claim. -/
theorem fnExactSolveBars_holds : Rows.FnExactSolveBarsSaid := fnExactSolveBars.proved
end Go.Proofs.Ytebbdadpgapobaa
