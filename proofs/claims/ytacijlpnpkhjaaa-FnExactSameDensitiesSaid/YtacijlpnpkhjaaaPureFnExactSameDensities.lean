/- The program's function answers as the statement says. Conditions: none beyond the given statement's own. -/
import Derived.Test.YtacijlpnpkhjaaaHFnExactSameDensitiesx3
import Derived.Test.YtacijlpnpkhjaaaLib
set_option linter.unusedVariables false
set_option linter.unusedSimpArgs false
namespace Go.Proofs.Ytacijlpnpkhjaaa.PureFnExactSameDensities
open Go.RowKit Go.Proofs.Ytacijlpnpkhjaaa.HFnExactSameDensities Go.Proofs.YtacijlpnpkhjaaaW.PrintWords Go.Proofs.YtacijlpnpkhjaaaW.PrintLast Go.Proofs.YtacijlpnpkhjaaaW.PrintMore Go.Proofs.Ytacijlpnpkhjaaa.Lib
theorem eqInt64S_l0 (x0 x1 : List Int) (hl : x0.length = x1.length) (hn : x0.length ≤ 35184372088832) : ∀ (d i : Nat), i + d = x0.length → x0.take i = x1.take i →
    Ev (fun k => laws_eqInt64S.l0 k x0 x1 (i : Int)) (decide (x0 = x1))
  | 0, i, hd, ht => by
    refine ev_succ ?_
    simp only [laws_eqInt64S.l0]
    refine ev_neg (by omega) (ev_some ?_)
    rw [List.take_of_length_le (by omega), List.take_of_length_le (by omega)] at ht; simp [ht]
  | d + 1, i, hd, ht => by
    refine ev_succ ?_
    simp only [laws_eqInt64S.l0]
    refine ev_pos (by omega) (ev_pos (by omega) (ev_pos (by omega) (ev_if (fun h => ?_) (fun h => ev_some ?_))))
    · rw [w64s (by omega)]
      refine eqInt64S_l0 x0 x1 hl hn d (i + 1) (by omega) ?_
      rw [rd_nat (by omega), rd_nat (by omega)] at h
      rw [List.take_succ_eq_append_getElem (by omega), List.take_succ_eq_append_getElem (by omega), ht, h]
    · rw [rd_nat (by omega), rd_nat (by omega)] at h
      symm; rw [decide_eq_false_iff_not]; rintro rfl; exact h rfl
theorem eqInt64S_ev (a b : List Int) (hn : a.length ≤ 35184372088832) : Ev (fun k => laws_eqInt64S.f k a b) (decide (a = b)) := by
  simp only [laws_eqInt64S.f]
  refine ev_if (fun h => ?_) (fun h => ev_some ?_)
  · exact eqInt64S_l0 a b (by omega) hn a.length 0 (by omega) (by simp)
  · symm; rw [decide_eq_false_iff_not]; rintro rfl; exact h rfl
theorem eqInt64S_self (a : List Int) (hn : a.length ≤ 35184372088832) : Ev (fun k => laws_eqInt64S.f k a a) true := by
  simpa using eqInt64S_ev a a hn

theorem toInt64S_l0 (x0 : List Int) (hn : x0.length ≤ 35184372088832) : ∀ (d i : Nat) (x3 : List Int), i + d = x0.length → x3.length = x0.length → x3.take i = x0.take i →
    Ev (fun k => laws_toInt64S.l0 k x0 x3 (i : Int)) x0
  | 0, i, x3, hd, hl, ht => by
    refine ev_succ ?_
    simp only [laws_toInt64S.l0]
    refine ev_neg (by omega) (ev_some ?_)
    rw [List.take_of_length_le (by omega), List.take_of_length_le (by omega)] at ht; exact ht
  | d + 1, i, x3, hd, hl, ht => by
    refine ev_succ ?_
    simp only [laws_toInt64S.l0]
    refine ev_pos (by omega) (ev_pos (by omega) (ev_pos (by omega) ?_))
    rw [w64s (by omega), Int.toNat_natCast, rd_nat (by omega)]
    exact toInt64S_l0 x0 hn d (i + 1) _ (by omega) (by simpa using hl) (take_set _ _ _ _ (by omega) (by omega) ht rfl)
theorem toInt64S_ev (l : List Int) (hn : l.length ≤ 35184372088832) : Ev (fun k => laws_toInt64S.f k l) l := by
  simp only [laws_toInt64S.f]
  refine ev_pos (by omega) (ev_pos (by omega) ?_)
  exact toInt64S_l0 l (by omega) l.length 0 _ (by omega) (by simp) (by simp)

theorem szI_eq (l : List Int) (n : Int) (hl : l.length ≤ maxLen) (h0 : 0 ≤ n) (h1 : n ≤ 1048576) : laws_szInt64S.f l n = some (if n - (l.length : Int) < 0 then -1 else n - (l.length : Int)) := by
  unfold maxLen at hl
  unfold laws_szInt64S.f
  rw [w64 (x := n - (l.length : Int)) (by omega) (by omega)]
  split <;> rfl
theorem szD_eq (l : List Int) (d n : Int) (hl : l.length ≤ maxLen) (h0 : 0 ≤ n) (h1 : n ≤ 1048576) : laws_szDensities.f l d n = some (if n - (l.length : Int) < 0 then -1 else n - (l.length : Int)) := by
  unfold laws_szDensities.f
  rw [szI_eq l n hl h0 h1]
  simp only [Option.bind_some]
  repeat' split
  all_goals first | rfl | omega
theorem toD_ev (l : List Int) (d : Int) (hn : l.length ≤ 1048576) : Ev (fun k => laws_toDensities.f k l d) (l, d) := by
  simp only [laws_toDensities.f]
  exact Ev.bind (toInt64S_ev l (by omega)) (Ev.now _)
theorem eqD_self (l : List Int) (d : Int) (hn : l.length ≤ 1048576) : Ev (fun k => laws_eqDensities.f k l d l d) true := by
  simp only [laws_eqDensities.f]
  exact Ev.bind (eqInt64S_self l (by omega)) (ev_pos (by trivial) (ev_pos (by trivial) (Ev.now _)))

/-- Two walks over two lists of one length, in step: they answer alike. -/
theorem same_walk {α : Type} (F G : Nat → Int → Option Bool) (a b : List α) (hl : a.length = b.length) (hn : a.length ≤ 35184372088832) (P : α → α → Bool)
    (hF : ∀ i : Nat, ∀ (h : i < a.length) (h' : i < b.length), ∀ r, (P a[i] b[i] = true → Ev (fun k => F k ((i + 1 : Nat) : Int)) r) → (P a[i] b[i] = false → r = false) → Ev (fun k => F k (i : Int)) r)
    (hG : ∀ i : Nat, ∀ (h : i < a.length) (h' : i < b.length), ∀ r, (P a[i] b[i] = true → Ev (fun k => G k ((i + 1 : Nat) : Int)) r) → (P a[i] b[i] = false → r = false) → Ev (fun k => G k (i : Int)) r)
    (eF : Ev (fun k => F k (a.length : Int)) true) (eG : Ev (fun k => G k (a.length : Int)) true) : ∀ (d i : Nat), i + d = a.length → ∃ r : Bool, Ev (fun k => F k (i : Int)) r ∧ Ev (fun k => G k (i : Int)) r
  | 0, i, hd => by
    have : i = a.length := by omega
    subst this
    exact ⟨true, eF, eG⟩
  | d + 1, i, hd => by
    obtain ⟨r, e1, e2⟩ := same_walk F G a b hl hn P hF hG eF eG d (i + 1) (by omega)
    have h : i < a.length := by omega
    have h' : i < b.length := by omega
    by_cases q : P a[i] b[i] = true
    · exact ⟨r, hF i h h' r (fun _ => e1) (fun q' => by rw [q] at q'; cases q'), hG i h h' r (fun _ => e2) (fun q' => by rw [q] at q'; cases q')⟩
    · exact ⟨false, hF i h h' false (fun q' => absurd q' q) (fun _ => rfl), hG i h h' false (fun q' => absurd q' q) (fun _ => rfl)⟩

theorem keyL (a b : List Int) (ha : a.length ≤ 1048576) : ∃ r : Bool, Ev (fun k => spec_l00Same.f k a b) r ∧ Ev (fun k => slices_Equal_int64_int64.f k a b) r := by
  by_cases hl : a.length = b.length
  · obtain ⟨r, e1, e2⟩ := same_walk (fun k i => spec_l00Same.l0 k a b i) (fun k i => slices_Equal_int64_int64.l0 k a b (a.length : Int) i) a b hl (by omega) (fun x y => x == y)
      (fun i h h' r h1 h2 => by
        refine ev_succ ?_; simp only [spec_l00Same.l0]; rw [rd_nat h, rd_nat h', w64s (by omega)]
        refine ev_pos (by omega) (ev_pos (by omega) (ev_pos (by omega) (ev_if (fun g => h1 (by simpa using g)) (fun g => ev_some ?_))))
        symm; apply h2; simpa using g)
      (fun i h h' r h1 h2 => by
        refine ev_succ ?_; simp only [slices_Equal_int64_int64.l0]; rw [rd_nat h, rd_nat h', w64s (by omega)]
        refine ev_pos (by omega) (ev_pos (by omega) (ev_pos (by omega) (ev_pos (by omega) (ev_if (fun g => h1 (by simpa using g)) (fun g => ev_some ?_)))))
        symm; apply h2; simpa using g)
      (by refine ev_succ ?_; simp only [spec_l00Same.l0]; exact ev_neg (by omega) (Ev.now _))
      (by refine ev_succ ?_; simp only [slices_Equal_int64_int64.l0]; exact ev_neg (by omega) (Ev.now _)) a.length 0 (by omega)
    refine ⟨r, ?_, ?_⟩
    · simp only [spec_l00Same.f]; exact ev_pos (by omega) e1
    · simp only [slices_Equal_int64_int64.f]; exact ev_pos (by omega) e2
  · refine ⟨false, ?_, ?_⟩
    · simp only [spec_l00Same.f]; exact ev_neg (by omega) (Ev.now _)
    · simp only [slices_Equal_int64_int64.f]; exact ev_neg (by omega) (Ev.now _)
theorem FnExactSameDensities : laws_FnExactSameDensities.Pure := by
  intro l0 a0 l1 a1 h0 _ _ h1 _ _
  refine Ev.rounds ?_
  simp only [laws_FnExactSameDensities.f]
  refine ev_now (szD_eq l0 a0 1048576 h0 (by omega) (by omega)) (ev_if (fun _ => Ev.now _) (fun h => ?_))
  have hn : l0.length ≤ 1048576 := by
    by_cases g : (1048576 : Int) - (l0.length : Int) < 0
    · rw [if_pos g] at h; omega
    · omega
  rw [if_neg (by omega)] at h ⊢
  refine ev_now (szD_eq l1 a1 _ h1 (by omega) (by omega)) (ev_if (fun _ => Ev.now _) (fun h' => ?_))
  have hm : l1.length ≤ 1048576 := by
    by_cases g : (1048576 : Int) - (l0.length : Int) - (l1.length : Int) < 0
    · rw [if_pos g] at h'; omega
    · omega
  have t0 := toD_ev l0 a0 hn
  have t1 := toD_ev l1 a1 hm
  obtain ⟨r, e1, e2⟩ := keyL l0 l1 hn
  have s1 : Ev (fun k => spec_SameDensities.f k l0 a0 l1 a1) (if r = true then a0 == a1 else false) := by
    simp only [spec_SameDensities.f]
    exact Ev.bind e1 (ev_if (fun g => ev_some (by rw [if_pos g])) (fun g => ev_some (by rw [if_neg g])))
  have s2 : Ev (fun k => impl_SameDensities.f k l0 a0 l1 a1) (if r = true then a0 == a1 else false) := by
    simp only [impl_SameDensities.f]
    exact Ev.bind e2 (ev_if (fun g => ev_some (by rw [if_pos g])) (fun g => ev_some (by rw [if_neg g])))
  exact Ev.bind t0 (Ev.bind t1 (Ev.bind s1 (Ev.bind t0 (Ev.bind t1 (Ev.bind s2 (ev_neg (by simp) (Ev.bind t0 (Ev.bind (eqD_self _ _ hn) (ev_pos (by trivial) (Ev.bind t1 (Ev.bind (eqD_self _ _ hm) (ev_pos (by trivial) (Ev.now _)))))))))))))

end Go.Proofs.Ytacijlpnpkhjaaa.PureFnExactSameDensities
namespace Go.Proofs.Ytacijlpnpkhjaaa.Pure
open Go.Proofs.Ytacijlpnpkhjaaa.HFnExactSameDensities
theorem FnExactSameDensities : laws_FnExactSameDensities.Pure := PureFnExactSameDensities.FnExactSameDensities
end Go.Proofs.Ytacijlpnpkhjaaa.Pure
