/- The program's function answers as the statement says. Conditions: none beyond the given statement's own. -/
import Derived.Test.YtbfgdnogblagaaaPFnExactLullsOfx2
import Derived.Test.YtbfgdnogblagaaaLib
set_option linter.unusedVariables false
set_option linter.unusedSimpArgs false
namespace Go.Proofs.Ytbfgdnogblagaaa.PureFnExactLullsOf
open Go.RowKit Go.Proofs.Ytbfgdnogblagaaa.PFnExactLullsOf Go.Proofs.YtbfgdnogblagaaaW.PrintWords Go.Proofs.YtbfgdnogblagaaaW.PrintLast Go.Proofs.YtbfgdnogblagaaaW.PrintMore Go.Proofs.Ytbfgdnogblagaaa.Lib
theorem l00In_eq (a b c : Int) : spec_l00In.f a b c = some (decide (b ≤ a ∧ a ≤ c)) := by
  unfold spec_l00In.f; by_cases h : a ≥ b <;> simp [h]

theorem within_eq (a b c : Int) : impl_within.f a b c = some (decide (b ≤ a ∧ a ≤ c)) := by
  unfold impl_within.f; by_cases h : a ≥ b <;> simp [h]

theorem toInt64S_l0 (x0 : List Int) (hn : x0.length ≤ 35184372088832) : ∀ (d i : Nat) (x3 : List Int), i + d = x0.length → x3.length = x0.length → x3.take i = x0.take i →
    Ev (fun k => laws_toInt64S.l0 k x0 x3 (i : Int)) x0
  | 0, i, x3, hd, hl, ht => by
    refine ev_succ ?_
    simp only [laws_toInt64S.l0]
    refine ev_neg (by omega) (ev_some ?_)
    rw [List.take_of_length_le (by omega), List.take_of_length_le (by omega)] at ht; exact ht
  | d + 1, i, x3, hd, hl, ht => by
    refine ev_succ ?_
    simp only [laws_toInt64S.l0]
    refine ev_pos (by omega) (ev_pos (by omega) (ev_pos (by omega) ?_))
    rw [w64s (by omega), Int.toNat_natCast, rd_nat (by omega)]
    exact toInt64S_l0 x0 hn d (i + 1) _ (by omega) (by simpa using hl) (take_set _ _ _ _ (by omega) (by omega) ht rfl)
theorem toInt64S_ev (l : List Int) (hn : l.length ≤ 35184372088832) : Ev (fun k => laws_toInt64S.f k l) l := by
  simp only [laws_toInt64S.f]
  refine ev_pos (by omega) (ev_pos (by omega) ?_)
  exact toInt64S_l0 l (by omega) l.length 0 _ (by omega) (by simp) (by simp)
theorem eqInt64S_l0 (x0 x1 : List Int) (hl : x0.length = x1.length) (hn : x0.length ≤ 35184372088832) : ∀ (d i : Nat), i + d = x0.length → x0.take i = x1.take i →
    Ev (fun k => laws_eqInt64S.l0 k x0 x1 (i : Int)) (decide (x0 = x1))
  | 0, i, hd, ht => by
    refine ev_succ ?_
    simp only [laws_eqInt64S.l0]
    refine ev_neg (by omega) (ev_some ?_)
    rw [List.take_of_length_le (by omega), List.take_of_length_le (by omega)] at ht; simp [ht]
  | d + 1, i, hd, ht => by
    refine ev_succ ?_
    simp only [laws_eqInt64S.l0]
    refine ev_pos (by omega) (ev_pos (by omega) (ev_pos (by omega) (ev_if (fun h => ?_) (fun h => ev_some ?_))))
    · rw [w64s (by omega)]
      refine eqInt64S_l0 x0 x1 hl hn d (i + 1) (by omega) ?_
      rw [rd_nat (by omega), rd_nat (by omega)] at h
      rw [List.take_succ_eq_append_getElem (by omega), List.take_succ_eq_append_getElem (by omega), ht, h]
    · rw [rd_nat (by omega), rd_nat (by omega)] at h
      symm; rw [decide_eq_false_iff_not]; rintro rfl; exact h rfl
theorem eqInt64S_ev (a b : List Int) (hn : a.length ≤ 35184372088832) : Ev (fun k => laws_eqInt64S.f k a b) (decide (a = b)) := by
  simp only [laws_eqInt64S.f]
  refine ev_if (fun h => ?_) (fun h => ev_some ?_)
  · exact eqInt64S_l0 a b (by omega) hn a.length 0 (by omega) (by simp)
  · symm; rw [decide_eq_false_iff_not]; rintro rfl; exact h rfl
theorem eqInt64S_self (a : List Int) (hn : a.length ≤ 35184372088832) : Ev (fun k => laws_eqInt64S.f k a a) true := by
  simpa using eqInt64S_ev a a hn

def okW (l : List Int) : Prop := ∀ x ∈ l, 0 ≤ x ∧ x ≤ 600
instance (l : List Int) : Decidable (okW l) := inferInstanceAs (Decidable (∀ x ∈ l, 0 ≤ x ∧ x ≤ 600))
theorem okW_drop {l : List Int} {i : Nat} (h : i < l.length) : okW (l.drop i) ↔ (0 ≤ l[i] ∧ l[i] ≤ 600) ∧ okW (l.drop (i + 1)) := all_drop h
def okWs (l : List Int) : Prop := okW l ∧ 1 ≤ l.length ∧ l.length ≤ 40
instance (l : List Int) : Decidable (okWs l) := inferInstanceAs (Decidable (okW l ∧ 1 ≤ l.length ∧ l.length ≤ 40))
theorem l10Wind_eq (a : Int) : spec_l10Wind.f a = some (decide (0 ≤ a ∧ a ≤ 600)) := by
  simp [spec_l10Wind.f, l00In_eq]
theorem l10Winds_l0 (x0 : List Int) (hn : x0.length ≤ 35184372088832) : ∀ (d i : Nat), i + d = x0.length → (okW (x0.drop i) → okW x0) →
    Ev (fun k => spec_l10Winds.l0 k x0 (i : Int)) (decide (okWs x0))
  | 0, i, hd, hi => by
    refine ev_succ ?_
    simp only [spec_l10Winds.l0]
    refine ev_neg (by omega) (ev_now (l00In_eq _ _ _) (ev_some ?_))
    have e : x0.drop i = [] := by simp; omega
    have g := hi (by rw [e]; simp [okW])
    apply decide_eq_decide.2; unfold okWs; exact ⟨fun q => ⟨g, by omega, by omega⟩, fun q => ⟨by omega, by omega⟩⟩
  | d + 1, i, hd, hi => by
    refine ev_succ ?_
    simp only [spec_l10Winds.l0]
    refine ev_pos (by omega) (ev_pos (by omega) (ev_now (l10Wind_eq _) (ev_if (fun h => ?_) (fun h => ev_some ?_))))
    · rw [w64s (by omega)]
      rw [rd_nat (by omega)] at h
      refine l10Winds_l0 x0 hn d (i + 1) (by omega) (fun g => hi ?_)
      rw [okW_drop (by omega)]; exact ⟨of_decide_eq_true h, g⟩
    · rw [rd_nat (by omega)] at h
      symm; apply ofd; intro g; apply h; apply ofd1; exact g.1 _ (List.getElem_mem _)
theorem areWinds_l0 (x0 : List Int) (hn : x0.length ≤ 40) (h1 : 1 ≤ x0.length) : ∀ (d i : Nat), i + d = x0.length → (okW (x0.drop i) → okW x0) →
    Ev (fun k => impl_areWinds.l0 k x0 (x0.length : Int) (i : Int)) (decide (okWs x0))
  | 0, i, hd, hi => by
    refine ev_succ ?_
    simp only [impl_areWinds.l0]
    refine ev_neg (by omega) (ev_some ?_)
    have e : x0.drop i = [] := by simp; omega
    have g := hi (by rw [e]; simp [okW])
    symm; apply ofd1; exact ⟨g, h1, hn⟩
  | d + 1, i, hd, hi => by
    refine ev_succ ?_
    simp only [impl_areWinds.l0]
    refine ev_pos (by omega) (ev_pos (by omega) (ev_pos (by omega) (ev_now (within_eq _ _ _) (ev_if (fun h => ?_) (fun h => ev_some ?_)))))
    · rw [w64s (by omega)]
      rw [rd_nat (by omega)] at h
      refine areWinds_l0 x0 hn h1 d (i + 1) (by omega) (fun g => hi ?_)
      rw [okW_drop (by omega)]; exact ⟨of_decide_eq_true h, g⟩
    · rw [rd_nat (by omega)] at h
      symm; apply ofd; intro g; apply h; apply ofd1; exact g.1 _ (List.getElem_mem _)
theorem areWinds_ev (x0 : List Int) : Ev (fun k => impl_areWinds.f k x0) (decide (okWs x0)) := by
  have ej : Ev (fun k => impl_areWinds.j0 k x0 true) false := by
    refine ev_succ ?_; simp only [impl_areWinds.j0]; exact ev_pos (by trivial) (Ev.now _)
  simp only [impl_areWinds.f]
  refine ev_if (fun h => ?_) (fun h => ?_)
  · rw [ofd (p := okWs x0) (fun g => by have := g.2.1; omega)]; exact ej
  · by_cases h4 : (x0.length : Int) > 40
    · rw [ofd1 h4, ofd (p := okWs x0) (fun g => by have := g.2.2; omega)]; exact ej
    · rw [ofd h4]
      refine ev_succ ?_; simp only [impl_areWinds.j0]
      exact ev_neg (by simp) (areWinds_l0 x0 (by omega) (by omega) x0.length 0 (by omega) (by simp))
theorem lulls_both (x0 : List Int) (x1 : Int) (hn : x0.length ≤ 40) : ∀ (d i : Nat) (x7 x8 x9 : Int), i + d = x0.length → ∃ r,
    Ev (fun k => spec_LullsOf.l0 k x0 x1 x7 x8 x9 (i : Int)) r ∧ Ev (fun k => impl_LullsOf.l0 k x1 x7 x8 x9 x0 (x0.length : Int) (i : Int)) r
  | 0, i, x7, x8, x9, hd => by
    by_cases h : x8 = 0
    · refine ⟨(0, 0, 3), ev_succ ?_, ev_succ ?_⟩
      · simp only [spec_LullsOf.l0]; exact ev_neg (by omega) (ev_pos h (Ev.now _))
      · simp only [impl_LullsOf.l0]; exact ev_neg (by omega) (ev_pos h (Ev.now _))
    · refine ⟨(x7, x8, 0), ev_succ ?_, ev_succ ?_⟩
      · simp only [spec_LullsOf.l0]; exact ev_neg (by omega) (ev_neg h (Ev.now _))
      · simp only [impl_LullsOf.l0]; exact ev_neg (by omega) (ev_neg h (Ev.now _))
  | d + 1, i, x7, x8, x9, hd => by
    have I : ∀ y7 y8 y9, ∃ r, Ev (fun k => spec_LullsOf.l0 k x0 x1 y7 y8 y9 (wrap64 ((i : Int) + 1))) r ∧ Ev (fun k => impl_LullsOf.l0 k x1 y7 y8 y9 x0 (x0.length : Int) (wrap64 ((i : Int) + 1))) r := by
      intro y7 y8 y9; rw [w64s (by omega)]; exact lulls_both x0 x1 hn d (i + 1) y7 y8 y9 (by omega)
    by_cases ha : rd x0 (i : Int) ≥ x1
    · by_cases hb : 0 > x8
      · obtain ⟨r, e1, e2⟩ := I (wrap64 (wrap64 ((i : Int) + 1) - 0)) 0 0
        refine ⟨r, ev_succ ?_, ev_succ ?_⟩
        · simp only [spec_LullsOf.l0]; exact ev_pos (by omega) (ev_pos (by omega) (ev_pos ha (ev_pos hb e1)))
        · simp only [impl_LullsOf.l0]; exact ev_pos (by omega) (ev_pos (by omega) (ev_pos (by omega) (ev_pos ha (ev_pos hb e2))))
      · obtain ⟨r, e1, e2⟩ := I x7 x8 0
        refine ⟨r, ev_succ ?_, ev_succ ?_⟩
        · simp only [spec_LullsOf.l0]; exact ev_pos (by omega) (ev_pos (by omega) (ev_pos ha (ev_neg hb e1)))
        · simp only [impl_LullsOf.l0]; exact ev_pos (by omega) (ev_pos (by omega) (ev_pos (by omega) (ev_pos ha (ev_neg hb e2))))
    · by_cases hb : wrap64 (x9 + 1) > x8
      · obtain ⟨r, e1, e2⟩ := I (wrap64 (wrap64 ((i : Int) + 1) - wrap64 (x9 + 1))) (wrap64 (x9 + 1)) (wrap64 (x9 + 1))
        refine ⟨r, ev_succ ?_, ev_succ ?_⟩
        · simp only [spec_LullsOf.l0]; exact ev_pos (by omega) (ev_pos (by omega) (ev_neg ha (ev_pos hb e1)))
        · simp only [impl_LullsOf.l0]; exact ev_pos (by omega) (ev_pos (by omega) (ev_pos (by omega) (ev_neg ha (ev_pos hb e2))))
      · obtain ⟨r, e1, e2⟩ := I x7 x8 (wrap64 (x9 + 1))
        refine ⟨r, ev_succ ?_, ev_succ ?_⟩
        · simp only [spec_LullsOf.l0]; exact ev_pos (by omega) (ev_pos (by omega) (ev_neg ha (ev_neg hb e1)))
        · simp only [impl_LullsOf.l0]; exact ev_pos (by omega) (ev_pos (by omega) (ev_pos (by omega) (ev_neg ha (ev_neg hb e2))))
theorem FnExactLullsOf : laws_FnExactLullsOf.Pure := by
  intro l0 a1 _ h0 _ _
  refine Ev.rounds ?_
  simp only [laws_FnExactLullsOf.f]
  refine ev_if (fun _ => Ev.now _) (fun _ => ?_)
  have t0 := toInt64S_ev l0 (by omega)
  have key : ∃ r, Ev (fun k => spec_LullsOf.f k l0 a1) r ∧ Ev (fun k => impl_LullsOf.f k l0 a1) r := by
    have es := l10Winds_l0 l0 (by omega) l0.length 0 (by omega) (by simp)
    have ei := areWinds_ev l0
    have s0 : Ev (fun k => spec_LullsOf.j0 k l0 a1 true) (0, 0, 2) := by
      refine ev_succ ?_; simp only [spec_LullsOf.j0]; exact ev_pos (by trivial) (Ev.now _)
    have i0 : Ev (fun k => impl_LullsOf.j0 k l0 a1 true) (0, 0, 2) := by
      refine ev_succ ?_; simp only [impl_LullsOf.j0]; exact ev_pos (by trivial) (Ev.now _)
    by_cases hw : okWs l0
    · rw [ofd1 hw] at es ei
      by_cases hb : 0 ≤ a1 ∧ a1 ≤ 600
      · obtain ⟨r, e1, e2⟩ := lulls_both l0 a1 hw.2.2 l0.length 0 0 0 0 (by omega)
        refine ⟨r, ?_, ?_⟩
        · simp only [spec_LullsOf.f, spec_l10Winds.f]
          refine Ev.bind es (ev_pos (by trivial) (ev_now (l10Wind_eq _) ?_))
          rw [ofd1 hb]; refine ev_succ ?_; simp only [spec_LullsOf.j0]; exact ev_neg (by simp) e1
        · simp only [impl_LullsOf.f]
          refine Ev.bind ei (ev_pos (by trivial) (ev_now (within_eq _ _ _) ?_))
          rw [ofd1 hb]; refine ev_succ ?_; simp only [impl_LullsOf.j0]; exact ev_neg (by simp) e2
      · refine ⟨(0, 0, 2), ?_, ?_⟩
        · simp only [spec_LullsOf.f, spec_l10Winds.f]
          refine Ev.bind es (ev_pos (by trivial) (ev_now (l10Wind_eq _) ?_))
          rw [ofd hb]; exact s0
        · simp only [impl_LullsOf.f]
          refine Ev.bind ei (ev_pos (by trivial) (ev_now (within_eq _ _ _) ?_))
          rw [ofd hb]; exact i0
    · rw [ofd hw] at es ei
      refine ⟨(0, 0, 2), ?_, ?_⟩
      · simp only [spec_LullsOf.f, spec_l10Winds.f]
        exact Ev.bind es (ev_neg (by simp) s0)
      · simp only [impl_LullsOf.f]
        exact Ev.bind ei (ev_neg (by simp) i0)
  obtain ⟨r, e1, e2⟩ := key
  refine Ev.bind t0 (Ev.bind e1 (Ev.bind t0 (Ev.bind e2 (ev_pos (by trivial) (ev_pos (by trivial) ?_)))))
  have : (r.2.2 != r.2.2) = false := by simp
  rw [this]
  refine ev_succ ?_; simp only [laws_FnExactLullsOf.j0]
  exact ev_neg (by simp) (Ev.bind t0 (Ev.bind (eqInt64S_self l0 (by omega)) (ev_pos (by trivial) (Ev.now _))))

end Go.Proofs.Ytbfgdnogblagaaa.PureFnExactLullsOf
namespace Go.Proofs.Ytbfgdnogblagaaa.Pure
open Go.Proofs.Ytbfgdnogblagaaa.PFnExactLullsOf
theorem FnExactLullsOf : laws_FnExactLullsOf.Pure := PureFnExactLullsOf.FnExactLullsOf
end Go.Proofs.Ytbfgdnogblagaaa.Pure
