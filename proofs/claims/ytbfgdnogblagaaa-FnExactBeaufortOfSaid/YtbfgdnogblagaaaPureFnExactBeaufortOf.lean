/- The program's function answers as the statement says. Conditions: none beyond the given statement's own. -/
import Derived.Test.YtbfgdnogblagaaaPFnExactBeaufortOfx1
import Derived.Test.YtbfgdnogblagaaaLib
set_option linter.unusedVariables false
set_option linter.unusedSimpArgs false
namespace Go.Proofs.Ytbfgdnogblagaaa.PureFnExactBeaufortOf
open Go.RowKit Go.Proofs.Ytbfgdnogblagaaa.PFnExactBeaufortOf Go.Proofs.YtbfgdnogblagaaaW.PrintWords Go.Proofs.YtbfgdnogblagaaaW.PrintLast Go.Proofs.YtbfgdnogblagaaaW.PrintMore Go.Proofs.Ytbfgdnogblagaaa.Lib
def bfList : List Int := [3, 16, 34, 55, 80, 108, 139, 172, 208, 245, 285, 327]
theorem bf_both (x0 : Int) : ∀ (d i c : Nat), i + d = 12 → c ≤ i → ∃ r : Int,
    Ev (fun k => spec_BeaufortOf.l0 k x0 bfList c i) (r, 0) ∧ Ev (fun k => impl_BeaufortOf.l0 k x0 c bfList 12 i) (r, 0)
  | 0, i, c, hd, hc => by
    refine ⟨c, ev_succ ?_, ev_succ ?_⟩
    · simp only [spec_BeaufortOf.l0]
      exact ev_neg (by simp [bfList]; omega) (Ev.now _)
    · simp only [impl_BeaufortOf.l0]
      exact ev_neg (by omega) (Ev.now _)
  | d + 1, i, c, hd, hc => by
    by_cases h : rd bfList (i : Int) ≤ x0
    · obtain ⟨r, h1, h2⟩ := bf_both x0 d (i + 1) (c + 1) (by omega) (by omega)
      refine ⟨r, ev_succ ?_, ev_succ ?_⟩
      · simp only [spec_BeaufortOf.l0]
        refine ev_pos (by simp [bfList]; omega) (ev_pos (by omega) (ev_pos h ?_))
        rw [w64s (by omega), w64s (by omega)]; exact h1
      · simp only [impl_BeaufortOf.l0]
        refine ev_pos (by omega) (ev_pos (by omega) (ev_pos (by simp [bfList]; omega) (ev_pos h ?_)))
        rw [w64s (by omega), w64s (by omega)]; exact h2
    · obtain ⟨r, h1, h2⟩ := bf_both x0 d (i + 1) c (by omega) (by omega)
      refine ⟨r, ev_succ ?_, ev_succ ?_⟩
      · simp only [spec_BeaufortOf.l0]
        refine ev_pos (by simp [bfList]; omega) (ev_pos (by omega) (ev_neg h ?_))
        rw [w64s (by omega)]; exact h1
      · simp only [impl_BeaufortOf.l0]
        refine ev_pos (by omega) (ev_pos (by omega) (ev_pos (by simp [bfList]; omega) (ev_neg h ?_)))
        rw [w64s (by omega)]; exact h2

theorem FnExactBeaufortOf : laws_FnExactBeaufortOf.Pure := by
  intro a0 _
  refine Ev.rounds ?_
  simp only [laws_FnExactBeaufortOf.f]
  have key : ∃ r : Int × Int, Ev (fun k => spec_BeaufortOf.f k a0) r ∧ Ev (fun k => impl_BeaufortOf.f k a0) r := by
    by_cases h : 0 ≤ a0 ∧ a0 ≤ 600
    · obtain ⟨r, h1, h2⟩ := bf_both a0 12 0 0 (by omega) (by omega)
      refine ⟨(r, 0), ?_, ?_⟩
      · simp only [spec_BeaufortOf.f, spec_l10Wind.f, spec_l00In.f]
        refine ev_now (a := true) (by simp [h.1, h.2]) ?_
        simpa [bfList] using h1
      · simp only [impl_BeaufortOf.f, impl_within.f]
        refine ev_now (a := true) (by simp [h.1, h.2]) ?_
        simpa [bfList] using h2
    · refine ⟨(0, 2), ?_, ?_⟩
      · simp only [spec_BeaufortOf.f, spec_l10Wind.f, spec_l00In.f]
        refine ev_now (a := false) ?_ ?_
        · by_cases h0 : a0 ≥ 0 <;> simp [h0]; omega
        · simpa using Ev.now _
      · simp only [impl_BeaufortOf.f, impl_within.f]
        refine ev_now (a := false) ?_ ?_
        · by_cases h0 : a0 ≥ 0 <;> simp [h0]; omega
        · simpa using Ev.now _
  obtain ⟨r, h1, h2⟩ := key
  refine Ev.bind h1 (Ev.bind h2 ?_)
  simpa using Ev.now _

end Go.Proofs.Ytbfgdnogblagaaa.PureFnExactBeaufortOf
namespace Go.Proofs.Ytbfgdnogblagaaa.Pure
open Go.Proofs.Ytbfgdnogblagaaa.PFnExactBeaufortOf
theorem FnExactBeaufortOf : laws_FnExactBeaufortOf.Pure := PureFnExactBeaufortOf.FnExactBeaufortOf
end Go.Proofs.Ytbfgdnogblagaaa.Pure
