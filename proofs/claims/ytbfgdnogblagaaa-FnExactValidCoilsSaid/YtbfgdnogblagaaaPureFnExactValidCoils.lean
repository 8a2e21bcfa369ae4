/- The program's function answers as the statement says. Conditions: none beyond the given statement's own. -/
import Derived.Test.YtbfgdnogblagaaaHFnExactValidCoilsx2
import Derived.Test.YtbfgdnogblagaaaLib
set_option linter.unusedVariables false
set_option linter.unusedSimpArgs false
namespace Go.Proofs.Ytbfgdnogblagaaa.PureFnExactValidCoils
open Go.RowKit Go.Proofs.Ytbfgdnogblagaaa.HFnExactValidCoils Go.Proofs.YtbfgdnogblagaaaW.PrintWords Go.Proofs.YtbfgdnogblagaaaW.PrintLast Go.Proofs.YtbfgdnogblagaaaW.PrintMore Go.Proofs.Ytbfgdnogblagaaa.Lib
theorem toInt64S_l0 (x0 : List Int) (hn : x0.length ≤ 35184372088832) : ∀ (d i : Nat) (x3 : List Int), i + d = x0.length → x3.length = x0.length → x3.take i = x0.take i →
    Ev (fun k => laws_toInt64S.l0 k x0 x3 (i : Int)) x0
  | 0, i, x3, hd, hl, ht => by
    refine ev_succ ?_
    simp only [laws_toInt64S.l0]
    refine ev_neg (by omega) (ev_some ?_)
    rw [List.take_of_length_le (by omega), List.take_of_length_le (by omega)] at ht; exact ht
  | d + 1, i, x3, hd, hl, ht => by
    refine ev_succ ?_
    simp only [laws_toInt64S.l0]
    refine ev_pos (by omega) (ev_pos (by omega) (ev_pos (by omega) ?_))
    rw [w64s (by omega), Int.toNat_natCast, rd_nat (by omega)]
    exact toInt64S_l0 x0 hn d (i + 1) _ (by omega) (by simpa using hl) (take_set _ _ _ _ (by omega) (by omega) ht rfl)
theorem toInt64S_ev (l : List Int) (hn : l.length ≤ 35184372088832) : Ev (fun k => laws_toInt64S.f k l) l := by
  simp only [laws_toInt64S.f]
  refine ev_pos (by omega) (ev_pos (by omega) ?_)
  exact toInt64S_l0 l (by omega) l.length 0 _ (by omega) (by simp) (by simp)
theorem eqInt64S_l0 (x0 x1 : List Int) (hl : x0.length = x1.length) (hn : x0.length ≤ 35184372088832) : ∀ (d i : Nat), i + d = x0.length → x0.take i = x1.take i →
    Ev (fun k => laws_eqInt64S.l0 k x0 x1 (i : Int)) (decide (x0 = x1))
  | 0, i, hd, ht => by
    refine ev_succ ?_
    simp only [laws_eqInt64S.l0]
    refine ev_neg (by omega) (ev_some ?_)
    rw [List.take_of_length_le (by omega), List.take_of_length_le (by omega)] at ht; simp [ht]
  | d + 1, i, hd, ht => by
    refine ev_succ ?_
    simp only [laws_eqInt64S.l0]
    refine ev_pos (by omega) (ev_pos (by omega) (ev_pos (by omega) (ev_if (fun h => ?_) (fun h => ev_some ?_))))
    · rw [w64s (by omega)]
      refine eqInt64S_l0 x0 x1 hl hn d (i + 1) (by omega) ?_
      rw [rd_nat (by omega), rd_nat (by omega)] at h
      rw [List.take_succ_eq_append_getElem (by omega), List.take_succ_eq_append_getElem (by omega), ht, h]
    · rw [rd_nat (by omega), rd_nat (by omega)] at h
      symm; rw [decide_eq_false_iff_not]; rintro rfl; exact h rfl
theorem eqInt64S_ev (a b : List Int) (hn : a.length ≤ 35184372088832) : Ev (fun k => laws_eqInt64S.f k a b) (decide (a = b)) := by
  simp only [laws_eqInt64S.f]
  refine ev_if (fun h => ?_) (fun h => ev_some ?_)
  · exact eqInt64S_l0 a b (by omega) hn a.length 0 (by omega) (by simp)
  · symm; rw [decide_eq_false_iff_not]; rintro rfl; exact h rfl
theorem eqInt64S_self (a : List Int) (hn : a.length ≤ 35184372088832) : Ev (fun k => laws_eqInt64S.f k a a) true := by
  simpa using eqInt64S_ev a a hn

theorem l00In_eq (a b c : Int) : spec_l00In.f a b c = some (decide (b ≤ a ∧ a ≤ c)) := by
  unfold spec_l00In.f; by_cases h : a ≥ b <;> simp [h]

theorem within_eq (a b c : Int) : impl_within.f a b c = some (decide (b ≤ a ∧ a ≤ c)) := by
  unfold impl_within.f; by_cases h : a ≥ b <;> simp [h]

def okL (l : List Int) : Prop := ∀ x ∈ l, 1 ≤ x ∧ x ≤ 20000
instance (l : List Int) : Decidable (okL l) := inferInstanceAs (Decidable (∀ x ∈ l, 1 ≤ x ∧ x ≤ 20000))
def okC (a b : List Int) : Prop := okL a ∧ okL b ∧ a.length ≤ 5 ∧ b.length ≤ 7
instance (a b : List Int) : Decidable (okC a b) := inferInstanceAs (Decidable (okL a ∧ okL b ∧ a.length ≤ 5 ∧ b.length ≤ 7))
theorem okL_drop {l : List Int} {i : Nat} (h : i < l.length) : okL (l.drop i) ↔ (1 ≤ l[i] ∧ l[i] ≤ 20000) ∧ okL (l.drop (i + 1)) := all_drop h

theorem iValidCoils_l1 (x19 : List (List Int)) (x20 x21 : Int) (x25 : List Int) (hn : x25.length ≤ 35184372088832) (r : Bool)
    (hr : okL x25 → Ev (fun k => impl_ValidCoils.l0 k x19 x20 (wrap64 (x21 + 1))) r) (hr' : ¬ okL x25 → r = false) : ∀ (d i : Nat), i + d = x25.length → (okL (x25.drop i) → okL x25) →
    Ev (fun k => impl_ValidCoils.l1 k x19 x20 x21 x25 (x25.length : Int) (i : Int)) r
  | 0, i, hd, hi => by
    refine ev_succ ?_
    simp only [impl_ValidCoils.l1]
    refine ev_neg (by omega) ?_
    have : x25.drop i = [] := by simp; omega
    exact hr (hi (by rw [this]; simp [okL]))
  | d + 1, i, hd, hi => by
    refine ev_succ ?_
    simp only [impl_ValidCoils.l1]
    refine ev_pos (by omega) (ev_pos (by omega) (ev_pos (by omega) (ev_now (within_eq _ _ _) (ev_if (fun h => ?_) (fun h => ev_some ?_)))))
    · rw [w64s (by omega)]
      rw [rd_nat (by omega)] at h
      refine iValidCoils_l1 x19 x20 x21 x25 hn r hr hr' d (i + 1) (by omega) (fun g => hi ?_)
      rw [okL_drop (by omega)]; exact ⟨of_decide_eq_true h, g⟩
    · rw [rd_nat (by omega)] at h
      symm; apply hr'; intro g
      apply h; apply ofd1; exact g _ (List.getElem_mem _)
theorem iValidCoils_ev (a b : List Int) (ha : a.length ≤ 35184372088832) (hb : b.length ≤ 35184372088832) :
    Ev (fun k => impl_ValidCoils.f k a b) (decide (okC a b)) := by
  have e2 : Ev (fun k => impl_ValidCoils.l0 k [a, b] 2 2) true := by
    refine ev_succ ?_; simp only [impl_ValidCoils.l0]; exact ev_neg (by omega) (Ev.now _)
  have e1 : Ev (fun k => impl_ValidCoils.l0 k [a, b] 2 1) (decide (okL b)) := by
    refine ev_succ ?_; simp only [impl_ValidCoils.l0]
    refine ev_pos (by omega) (ev_pos (by omega) (ev_pos (by simp) ?_))
    refine iValidCoils_l1 [a, b] 2 1 b hb _ (fun h => ?_) (fun h => ofd h) b.length 0 (by omega) (fun h => by simpa using h)
    rw [ofd1 h, w64 (by omega) (by omega)]; exact e2
  have e0 : Ev (fun k => impl_ValidCoils.l0 k [a, b] 2 0) (decide (okL a ∧ okL b)) := by
    refine ev_succ ?_; simp only [impl_ValidCoils.l0]
    refine ev_pos (by omega) (ev_pos (by omega) (ev_pos (by simp) ?_))
    refine iValidCoils_l1 [a, b] 2 0 a ha _ (fun h => ?_) (fun h => ofd (fun g => h g.1)) a.length 0 (by omega) (fun h => by simpa using h)
    simp only [h, true_and]; rw [w64 (by omega) (by omega)]; exact e1
  have ej : Ev (fun k => impl_ValidCoils.j0 k a b true) false := by
    refine ev_succ ?_; simp only [impl_ValidCoils.j0]; exact ev_pos (by trivial) (Ev.now _)
  have ek : Ev (fun k => impl_ValidCoils.j0 k a b false) (decide (okL a ∧ okL b)) := by
    refine ev_succ ?_; simp only [impl_ValidCoils.j0]; exact ev_neg (by simp) (ev_now rfl e0)
  simp only [impl_ValidCoils.f]
  refine ev_if (fun h => ?_) (fun h => ?_)
  · rw [ofd (p := okC a b) (fun g => by have := g.2.2.1; omega)]; exact ej
  · by_cases h7 : (b.length : Int) > 7
    · rw [ofd1 h7, ofd (p := okC a b) (fun g => by have := g.2.2.2; omega)]; exact ej
    · rw [ofd h7]
      have : decide (okC a b) = decide (okL a ∧ okL b) := by
        apply decide_eq_decide.2; unfold okC; constructor
        · intro g; exact ⟨g.1, g.2.1⟩
        · intro g; exact ⟨g.1, g.2, by omega, by omega⟩
      rw [this]; exact ek

theorem l08Lengths_l0 (x0 : List Int) (hn : x0.length ≤ 35184372088832) (x1 : Int) : ∀ (d i : Nat), i + d = x0.length → (okL (x0.drop i) → okL x0) →
    Ev (fun k => spec_l08Lengths.l0 k x0 x1 (i : Int)) (decide (okL x0 ∧ (x0.length : Int) ≤ x1))
  | 0, i, hd, hi => by
    refine ev_succ ?_
    simp only [spec_l08Lengths.l0]
    refine ev_neg (by omega) (ev_some ?_)
    have e : x0.drop i = [] := by simp; omega
    have g := hi (by rw [e]; simp [okL])
    simp [g]
  | d + 1, i, hd, hi => by
    refine ev_succ ?_
    simp only [spec_l08Lengths.l0]
    refine ev_pos (by omega) (ev_pos (by omega) (ev_now (l00In_eq _ _ _) (ev_if (fun h => ?_) (fun h => ev_some ?_))))
    · rw [w64s (by omega)]
      rw [rd_nat (by omega)] at h
      refine l08Lengths_l0 x0 hn x1 d (i + 1) (by omega) (fun g => hi ?_)
      rw [okL_drop (by omega)]; exact ⟨of_decide_eq_true h, g⟩
    · rw [rd_nat (by omega)] at h
      symm; apply ofd
      intro g; exact h (ofd1 (g.1 _ (List.getElem_mem _)))
theorem l08Ok_ev (a b : List Int) (ha : a.length ≤ 35184372088832) (hb : b.length ≤ 35184372088832) :
    Ev (fun k => spec_l08Ok.f k a b) (decide (okC a b)) := by
  have e1 := l08Lengths_l0 a ha 5 a.length 0 (by omega) (by simp)
  have e2 := l08Lengths_l0 b hb 7 b.length 0 (by omega) (by simp)
  simp only [spec_l08Ok.f, spec_l08Lengths.f]
  refine Ev.bind e1 (ev_if (fun h => Ev.bind e2 (ev_some ?_)) (fun h => ev_some ?_))
  · have h := of_decide_eq_true h
    apply decide_eq_decide.2; unfold okC; constructor
    · intro g; exact ⟨h.1, g.1, by omega, by omega⟩
    · intro g; exact ⟨g.2.1, by omega⟩
  · symm; apply ofd; intro g; exact h (ofd1 ⟨g.1, by have := g.2.2.1; omega⟩)

theorem FnExactValidCoils : laws_FnExactValidCoils.Pure := by
  intro l0 l1 _ h0 _ _ h1 _
  refine Ev.rounds ?_
  simp only [laws_FnExactValidCoils.f, spec_ValidCoils.f]
  refine ev_if (fun _ => Ev.now _) (fun _ => ev_if (fun _ => Ev.now _) (fun _ => ?_))
  have t0 := toInt64S_ev l0 (by omega)
  have t1 := toInt64S_ev l1 (by omega)
  refine Ev.bind t0 (Ev.bind t1 (Ev.bind (Ev.bind (l08Ok_ev l0 l1 (by omega) (by omega)) (Ev.now _)) (Ev.bind t0 (Ev.bind t1 (Ev.bind (iValidCoils_ev l0 l1 (by omega) (by omega)) ?_)))))
  refine ev_neg (by simp) (Ev.bind t0 (Ev.bind (eqInt64S_self l0 (by omega)) (ev_pos (by trivial) (Ev.bind t1 (Ev.bind (eqInt64S_self l1 (by omega)) (ev_pos (by trivial) (Ev.now _)))))))

end Go.Proofs.Ytbfgdnogblagaaa.PureFnExactValidCoils
namespace Go.Proofs.Ytbfgdnogblagaaa.Pure
open Go.Proofs.Ytbfgdnogblagaaa.HFnExactValidCoils
theorem FnExactValidCoils : laws_FnExactValidCoils.Pure := PureFnExactValidCoils.FnExactValidCoils
end Go.Proofs.Ytbfgdnogblagaaa.Pure
