/- The program's function answers as the statement says. Conditions: none beyond the given statement's own. -/
import Derived.Test.YtbfgdnogblagaaaPFnExactSeizingLengthx1
import Derived.Test.YtbfgdnogblagaaaLib
set_option linter.unusedVariables false
set_option linter.unusedSimpArgs false
namespace Go.Proofs.Ytbfgdnogblagaaa.PureFnExactSeizingLength
open Go.RowKit Go.Proofs.Ytbfgdnogblagaaa.PFnExactSeizingLength Go.Proofs.YtbfgdnogblagaaaW.PrintWords Go.Proofs.YtbfgdnogblagaaaW.PrintLast Go.Proofs.YtbfgdnogblagaaaW.PrintMore Go.Proofs.Ytbfgdnogblagaaa.Lib
theorem l00In_eq (a b c : Int) : spec_l00In.f a b c = some (decide (b ≤ a ∧ a ≤ c)) := by
  unfold spec_l00In.f; by_cases h : a ≥ b <;> simp [h]

theorem within_eq (a b c : Int) : impl_within.f a b c = some (decide (b ≤ a ∧ a ≤ c)) := by
  unfold impl_within.f; by_cases h : a ≥ b <;> simp [h]

theorem sz_both (x0 x1 : Int) (h0 : 1 ≤ x0 ∧ x0 ≤ 1000) (h1 : 1 ≤ x1 ∧ x1 ≤ 50) (n : Nat) (hn : n ≤ 5) : ∀ (d i : Nat) (s : Int), i + d = n → ∃ r : Int × Int,
    Ev (fun k => spec_SeizingLength.l0 k x0 x1 n s i) r ∧ Ev (fun k => impl_SeizingLength.l0 k x0 x1 n s i) r
  | 0, i, s, hd => by
    refine ⟨(s, 0), ev_succ ?_, ev_succ ?_⟩
    · simp only [spec_SeizingLength.l0]; exact ev_neg (by omega) (Ev.now _)
    · simp only [impl_SeizingLength.l0]; exact ev_neg (by omega) (Ev.now _)
  | d + 1, i, s, hd => by
    obtain ⟨r, e1, e2⟩ := sz_both x0 x1 h0 h1 n hn d (i + 1) (wrap64 (s + wrap64 (mx 1 (wrap64 (x1 - i)) * wrap64 (x0 + wrap64 (6 * i))))) (by omega)
    refine ⟨r, ev_succ ?_, ev_succ ?_⟩
    · simp only [spec_SeizingLength.l0]
      refine ev_pos (by omega) (ev_now (a := mx 1 (wrap64 (x1 - i))) ?_ ?_)
      · unfold spec_l00Max.f mx; by_cases h : (1 : Int) > wrap64 (x1 - i)
        · rw [if_pos h, if_neg (by omega)]
        · by_cases h' : (1 : Int) < wrap64 (x1 - i)
          · rw [if_neg h, if_pos h']
          · rw [if_neg h, if_neg h']; congr 1; omega
      · rw [w64s (by omega)]; exact e1
    · simp only [impl_SeizingLength.l0]
      refine ev_pos (by omega) ?_
      rw [w64s (by omega)]; exact e2

theorem FnExactSeizingLength : laws_FnExactSeizingLength.Pure := by
  intro a0 a1 a2 _ _ _
  refine Ev.rounds ?_
  simp only [laws_FnExactSeizingLength.f]
  have key : ∃ r : Int × Int, Ev (fun k => spec_SeizingLength.f k a0 a1 a2) r ∧ Ev (fun k => impl_SeizingLength.f k a0 a1 a2) r := by
    by_cases h : (1 ≤ a0 ∧ a0 ≤ 1000) ∧ (1 ≤ a1 ∧ a1 ≤ 50) ∧ (1 ≤ a2 ∧ a2 ≤ 5)
    · obtain ⟨h0, h1, h2⟩ := h
      obtain ⟨n, rfl⟩ := Int.eq_ofNat_of_zero_le (show 0 ≤ a2 by omega)
      obtain ⟨r, e1, e2⟩ := sz_both a0 a1 h0 h1 n (by omega) n 0 200 (by omega)
      refine ⟨r, ?_, ?_⟩
      · simp only [spec_SeizingLength.f, l00In_eq, h0, h1, h2, and_self, decide_true, Option.bind_some, if_true, Bool.not_true]
        refine ev_succ ?_; simp only [spec_SeizingLength.j0]; simpa using e1
      · simp only [impl_SeizingLength.f, within_eq, h0, h1, h2, and_self, decide_true, Option.bind_some, if_true, Bool.not_true]
        refine ev_succ ?_; simp only [impl_SeizingLength.j0]; simpa using e2
    · refine ⟨(0, 2), ?_, ?_⟩
      · have e : Ev (fun k => spec_SeizingLength.j0 k a0 a1 a2 true) (0, 2) := by
          refine ev_succ ?_; simp only [spec_SeizingLength.j0]; simpa using Ev.now _
        simp only [spec_SeizingLength.f, l00In_eq, Option.bind_some]
        refine ev_if (fun g0 => ev_if (fun g1 => ?_) (fun _ => e)) (fun _ => e)
        have : decide (1 ≤ a2 ∧ a2 ≤ 5) = false := by simp at g0 g1 ⊢; omega
        rw [this]; exact e
      · have e : Ev (fun k => impl_SeizingLength.j0 k a0 a1 a2 true) (0, 2) := by
          refine ev_succ ?_; simp only [impl_SeizingLength.j0]; simpa using Ev.now _
        simp only [impl_SeizingLength.f, within_eq, Option.bind_some]
        refine ev_if (fun g0 => ev_if (fun g1 => ?_) (fun _ => e)) (fun _ => e)
        have : decide (1 ≤ a2 ∧ a2 ≤ 5) = false := by simp at g0 g1 ⊢; omega
        rw [this]; exact e
  obtain ⟨r, h1, h2⟩ := key
  refine Ev.bind h1 (Ev.bind h2 ?_)
  simpa using Ev.now _

end Go.Proofs.Ytbfgdnogblagaaa.PureFnExactSeizingLength
namespace Go.Proofs.Ytbfgdnogblagaaa.Pure
open Go.Proofs.Ytbfgdnogblagaaa.PFnExactSeizingLength
theorem FnExactSeizingLength : laws_FnExactSeizingLength.Pure := PureFnExactSeizingLength.FnExactSeizingLength
end Go.Proofs.Ytbfgdnogblagaaa.Pure
