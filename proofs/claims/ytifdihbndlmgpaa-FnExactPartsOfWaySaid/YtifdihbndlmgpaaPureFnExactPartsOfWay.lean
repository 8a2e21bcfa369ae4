/- The program's function answers as the statement says. Conditions: none beyond the given statement's own. -/
import Derived.Test.YtifdihbndlmgpaaHPartsx9
import Derived.Test.YtifdihbndlmgpaaLib
set_option linter.unusedVariables false
set_option linter.unusedSimpArgs false
namespace Go.Proofs.Ytifdihbndlmgpaa.PureFnExactPartsOfWay
open Go.RowKit Go.Proofs.Ytifdihbndlmgpaa.HParts Go.Proofs.YtifdihbndlmgpaaW.PrintWords Go.Proofs.YtifdihbndlmgpaaW.PrintLast Go.Proofs.YtifdihbndlmgpaaW.PrintMore Go.Proofs.Ytifdihbndlmgpaa.Lib
theorem szStopS_eq (l : List S66) (n : Int) (hl : l.length ≤ maxLen) (h0 : 0 ≤ n) (h1 : n ≤ 1048576) : laws_szStopS.f l n = some (if n - (l.length : Int) < 0 then -1 else n - (l.length : Int)) := by
  unfold maxLen at hl
  unfold laws_szStopS.f
  rw [w64 (x := n - (l.length : Int)) (by omega) (by omega)]
  split <;> rfl

def convStop (x : S66) : S53 := ⟨x.f0, x.f1⟩
theorem rdLStop {xs : List S66} {i : Nat} (h : i < xs.length) : rd_T66 xs (i : Int) = xs[i] := by
  unfold rd_T66; simp [List.getD_eq_getElem?_getD, h]
theorem rdIStop {xs : List S53} {i : Nat} (h : i < xs.length) : rd_T53 xs (i : Int) = xs[i] := by
  unfold rd_T53; simp [List.getD_eq_getElem?_getD, h]
theorem toStopS_l0 (x0 : List S66) (hn : x0.length ≤ 1048576) : ∀ (d i : Nat) (x3 : List S53), i + d = x0.length → x3.length = x0.length → x3.take i = (x0.map convStop).take i →
    Ev (fun k => laws_toStopS.l0 k x0 x3 (i : Int)) (x0.map convStop)
  | 0, i, x3, hd, hl, ht => by
    refine ev_succ ?_
    simp only [laws_toStopS.l0]
    refine ev_neg (by omega) (ev_some ?_)
    rw [List.take_of_length_le (by omega), List.take_of_length_le (by simp; omega)] at ht; exact ht
  | d + 1, i, x3, hd, hl, ht => by
    refine ev_succ ?_
    simp only [laws_toStopS.l0]
    refine ev_pos (by omega) (ev_pos (by omega) (ev_now rfl (ev_pos (by omega) ?_)))
    rw [w64s (by omega), Int.toNat_natCast, rdLStop (by omega)]
    exact toStopS_l0 x0 hn d (i + 1) _ (by omega) (by simpa using hl) (take_set _ _ _ _ (by omega) (by simp; omega) ht (by simp [convStop]))
theorem toStopS_ev (l : List S66) (hn : l.length ≤ 1048576) : Ev (fun k => laws_toStopS.f k l) (l.map convStop) := by
  simp only [laws_toStopS.f]
  refine ev_pos (by omega) (ev_pos (by omega) ?_)
  exact toStopS_l0 l (by omega) l.length 0 _ (by omega) (by simp) (by simp)

theorem rdEStop {xs : List S53} {i : Nat} (h : i < xs.length) : rd_T53 xs (i : Int) = xs[i] := by
  unfold rd_T53; simp [List.getD_eq_getElem?_getD, h]
theorem eqStop_self (x : S53) : laws_eqStop.f x.f0 x.f1 x.f0 x.f1 = some true := by
  simp [laws_eqStop.f]
theorem eqStopS_l0 (x0 : List S53) (hn : x0.length ≤ 1048576) : ∀ (d i : Nat), i + d = x0.length → Ev (fun k => laws_eqStopS.l0 k x0 x0 (i : Int)) true
  | 0, i, hd => by
    refine ev_succ ?_
    simp only [laws_eqStopS.l0]
    exact ev_neg (by omega) (Ev.now _)
  | d + 1, i, hd => by
    refine ev_succ ?_
    simp only [laws_eqStopS.l0]
    refine ev_pos (by omega) (ev_pos (by omega) (ev_pos (by omega) (ev_now (eqStop_self _) (ev_pos (by trivial) ?_))))
    rw [w64s (by omega)]
    exact eqStopS_l0 x0 hn d (i + 1) (by omega)
theorem eqStopS_self (l : List S53) (hn : l.length ≤ 1048576) : Ev (fun k => laws_eqStopS.f k l l) true := by
  simp only [laws_eqStopS.f]
  exact ev_pos (by trivial) (eqStopS_l0 l hn l.length 0 (by omega))


theorem rdKStop {xs : List S53} {i : Nat} (h : i < xs.length) : rd_T53 xs (i : Int) = xs[i] := by
  unfold rd_T53; simp [List.getD_eq_getElem?_getD, h]
def mksStop (s : Int) (n : Nat) : List S53 := (List.range n).map fun (j : Nat) => ⟨s + 2 * (j : Int), s + 2 * (j : Int) + 1⟩
theorem mksStop_length (s : Int) (n : Nat) : (mksStop s n).length = n := by simp [mksStop]
theorem mksStop_get (s : Int) (n i : Nat) (h : i < (mksStop s n).length) : (mksStop s n)[i] = ⟨s + 2 * (i : Int), s + 2 * (i : Int) + 1⟩ := by simp [mksStop]
theorem markStopS_l0 (s : Int) (h0 : 0 ≤ s) (n : Nat) (hn : s + 2 * n < 4611686018427387904) : ∀ (d i : Nat) (x0 : List S53), i + d = n → x0.length = n → x0.take i = (mksStop s n).take i →
    Ev (fun k => laws_markStopS.l0 k x0 (s + 2 * i) (i : Int)) (s + 2 * n, mksStop s n)
  | 0, i, x0, hd, hl, ht => by
    refine ev_succ ?_
    simp only [laws_markStopS.l0]
    refine ev_neg (by omega) (ev_some ?_)
    rw [List.take_of_length_le (by omega), List.take_of_length_le (by rw [mksStop_length]; omega)] at ht
    rw [ht]; congr 1; omega
  | d + 1, i, x0, hd, hl, ht => by
    refine ev_succ ?_
    simp only [laws_markStopS.l0]
    refine ev_pos (by omega) (ev_pos (by omega) (ev_now rfl ?_))
    rw [w64s (by omega), w64 (x := s + 2 * (i : Int) + 1) (by omega) (by omega), w64 (x := s + 2 * (i : Int) + 1 + 1) (by omega) (by omega), Int.toNat_natCast, rdKStop (xs := x0.set i _) (by simp; omega)]
    have e : s + 2 * (i : Int) + 1 + 1 = s + 2 * ((i + 1 : Nat) : Int) := by omega
    rw [e, List.set_set, List.getElem_set_self]
    refine markStopS_l0 s h0 n hn d (i + 1) _ (by omega) (by simpa using hl) (take_set _ _ _ _ (by omega) (by rw [mksStop_length]; omega) ht ?_)
    rw [mksStop_get]
theorem markStopS_ev (l : List S53) (s : Int) (h0 : 0 ≤ s) (hn : s + 2 * l.length < 4611686018427387904) :
    Ev (fun k => laws_markStopS.f k l s) (s + 2 * l.length, mksStop s l.length) := by
  simp only [laws_markStopS.f]
  have := markStopS_l0 s h0 l.length hn l.length 0 l (by omega) rfl (by simp)
  simpa using this
theorem markInt64S_l0 (s : Int) (h0 : 0 ≤ s) (n : Nat) (hn : s + n < 9223372036854775807) : ∀ (d i : Nat) (x0 : List Int), i + d = n → x0.length = n → x0.take i = (marks s n).take i →
    Ev (fun k => laws_markInt64S.l0 k x0 (s + i) (i : Int)) (s + n, marks s n)
  | 0, i, x0, hd, hl, ht => by
    refine ev_succ ?_
    simp only [laws_markInt64S.l0]
    refine ev_neg (by omega) (ev_some ?_)
    rw [List.take_of_length_le (by omega), List.take_of_length_le (by rw [marks_length]; omega)] at ht
    rw [ht]; congr 1; omega
  | d + 1, i, x0, hd, hl, ht => by
    refine ev_succ ?_
    simp only [laws_markInt64S.l0]
    refine ev_pos (by omega) (ev_pos (by omega) ?_)
    rw [w64s (by omega), w64 (by omega) (by omega), Int.toNat_natCast]
    have e : s + (i : Int) + 1 = s + ((i + 1 : Nat) : Int) := by omega
    rw [e]
    refine markInt64S_l0 s h0 n hn d (i + 1) _ (by omega) (by simpa using hl) (take_set _ _ _ _ (by omega) (by rw [marks_length]; omega) ht ?_)
    rw [marks_get]
theorem markInt64S_ev (l : List Int) (s : Int) (h0 : 0 ≤ s) (hn : s + l.length < 9223372036854775807) :
    Ev (fun k => laws_markInt64S.f k l s) (s + l.length, marks s l.length) := by
  simp only [laws_markInt64S.f]
  have := markInt64S_l0 s h0 l.length hn l.length 0 l (by omega) rfl (by simp)
  simpa using this
theorem heldInt64S_l0 (s : Int) (h0 : 0 ≤ s) (n : Nat) (hn : s + n < 9223372036854775807) : ∀ (d i : Nat), i + d = n →
    Ev (fun k => laws_heldInt64S.l0 k (marks s n) (s + i) (i : Int)) (s + n)
  | 0, i, hd => by
    refine ev_succ ?_
    simp only [laws_heldInt64S.l0]
    refine ev_neg (by rw [marks_length]; omega) (ev_some ?_)
    omega
  | d + 1, i, hd => by
    refine ev_succ ?_
    simp only [laws_heldInt64S.l0]
    refine ev_pos (by rw [marks_length]; omega) (ev_pos (by omega) (ev_pos ?_ ?_))
    · rw [rd_nat (by rw [marks_length]; omega), marks_get]
    · rw [w64s (by omega), w64 (by omega) (by omega)]
      have e : s + (i : Int) + 1 = s + ((i + 1 : Nat) : Int) := by omega
      rw [e]
      exact heldInt64S_l0 s h0 n hn d (i + 1) (by omega)
theorem heldInt64S_ev (s : Int) (h0 : 0 ≤ s) (n : Nat) (hn : s + n < 9223372036854775807) :
    Ev (fun k => laws_heldInt64S.f k (marks s n) s) (s + n) := by
  simp only [laws_heldInt64S.f]
  have := heldInt64S_l0 s h0 n hn n 0 (by omega)
  simpa using this

theorem eqInt64S_l0 (x0 x1 : List Int) (hl : x0.length = x1.length) (hn : x0.length ≤ 35184372088832) : ∀ (d i : Nat), i + d = x0.length → x0.take i = x1.take i →
    Ev (fun k => laws_eqInt64S.l0 k x0 x1 (i : Int)) (decide (x0 = x1))
  | 0, i, hd, ht => by
    refine ev_succ ?_
    simp only [laws_eqInt64S.l0]
    refine ev_neg (by omega) (ev_some ?_)
    rw [List.take_of_length_le (by omega), List.take_of_length_le (by omega)] at ht; simp [ht]
  | d + 1, i, hd, ht => by
    refine ev_succ ?_
    simp only [laws_eqInt64S.l0]
    refine ev_pos (by omega) (ev_pos (by omega) (ev_pos (by omega) (ev_if (fun h => ?_) (fun h => ev_some ?_))))
    · rw [w64s (by omega)]
      refine eqInt64S_l0 x0 x1 hl hn d (i + 1) (by omega) ?_
      rw [rd_nat (by omega), rd_nat (by omega)] at h
      rw [List.take_succ_eq_append_getElem (by omega), List.take_succ_eq_append_getElem (by omega), ht, h]
    · rw [rd_nat (by omega), rd_nat (by omega)] at h
      symm; rw [decide_eq_false_iff_not]; rintro rfl; exact h rfl
theorem eqInt64S_ev (a b : List Int) (hn : a.length ≤ 35184372088832) : Ev (fun k => laws_eqInt64S.f k a b) (decide (a = b)) := by
  simp only [laws_eqInt64S.f]
  refine ev_if (fun h => ?_) (fun h => ev_some ?_)
  · exact eqInt64S_l0 a b (by omega) hn a.length 0 (by omega) (by simp)
  · symm; rw [decide_eq_false_iff_not]; rintro rfl; exact h rfl
theorem eqInt64S_self (a : List Int) (hn : a.length ≤ 35184372088832) : Ev (fun k => laws_eqInt64S.f k a a) true := by
  simpa using eqInt64S_ev a a hn

theorem l00In_eq (a b c : Int) : spec_l00In.f a b c = some (decide (b ≤ a ∧ a ≤ c)) := by
  unfold spec_l00In.f; by_cases h : a ≥ b <;> simp [h]

theorem within_eq (a b c : Int) : impl_within.f a b c = some (decide (b ≤ a ∧ a ≤ c)) := by
  unfold impl_within.f; by_cases h : a ≥ b <;> simp [h]

structure Pu where
  f0 : Int
  f1 : Int
  f2 : Bool
def okP (p : Pu) : Prop := (0 ≤ p.f0 ∧ p.f0 ≤ 4) ∧ (0 ≤ p.f1 ∧ p.f1 ≤ 4) ∧ 1 ≤ p.f0 + p.f1 ∧ (if p.f2 = true then 0 ≤ p.f1 - p.f0 ∧ p.f1 - p.f0 ≤ 1 else 0 ≤ p.f0 - p.f1 ∧ p.f0 - p.f1 ≤ 1)
instance (p : Pu) : Decidable (okP p) := inferInstanceAs (Decidable ((0 ≤ p.f0 ∧ p.f0 ≤ 4) ∧ (0 ≤ p.f1 ∧ p.f1 ≤ 4) ∧ 1 ≤ p.f0 + p.f1 ∧ (if p.f2 = true then 0 ≤ p.f1 - p.f0 ∧ p.f1 - p.f0 ≤ 1 else 0 ≤ p.f0 - p.f1 ∧ p.f0 - p.f1 ≤ 1)))
theorem l05One_ev (p : Pu) : Ev (fun k => spec_l05One.f k p.f0 p.f1 p.f2) (decide (okP p), p.f0, p.f1, p.f2) := by
  have jt : Ev (fun k => spec_l05One.j0 k true p.f0 p.f1 p.f2) (false, p.f0, p.f1, p.f2) := by
    refine ev_succ ?_; simp only [spec_l05One.j0]; exact ev_pos (by trivial) (Ev.now _)
  simp only [spec_l05One.f]
  refine ev_now (l00In_eq _ _ _) (ev_if (fun h0 => ev_now (l00In_eq _ _ _) (ev_if (fun h1 => ?_) (fun h1 => ?_))) (fun h0 => ?_))
  · have h0 := of_decide_eq_true h0
    have h1 := of_decide_eq_true h1
    rw [w64 (x := p.f0 + p.f1) (by omega) (by omega)]
    by_cases h2 : p.f0 + p.f1 < 1
    · rw [ofd1 h2, ofd (p := okP p) (fun g => by have := g.2.2.1; omega)]; exact jt
    · rw [ofd h2]
      refine ev_succ ?_; simp only [spec_l05One.j0]
      refine ev_neg (by simp) (ev_if (fun h3 => ?_) (fun h3 => ?_))
      · rw [w64 (x := p.f1 - p.f0) (by omega) (by omega)]
        refine ev_now (l00In_eq _ _ _) (ev_some ?_)
        congr 1
        apply decide_eq_decide.2; unfold okP; rw [if_pos h3]
        exact ⟨fun g => ⟨h0, h1, by omega, g⟩, fun g => g.2.2.2⟩
      · rw [w64 (x := p.f0 - p.f1) (by omega) (by omega)]
        refine ev_now (l00In_eq _ _ _) (ev_some ?_)
        congr 1
        apply decide_eq_decide.2; unfold okP; rw [if_neg h3]
        exact ⟨fun g => ⟨h0, h1, by omega, g⟩, fun g => g.2.2.2⟩
  · rw [ofd (p := okP p) (fun g => h1 (ofd1 g.2.1))]; exact jt
  · rw [ofd (p := okP p) (fun g => h0 (ofd1 g.1))]; exact jt
theorem validPurchase_ev (p : Pu) : Ev (fun k => impl_ValidPurchase.f k p.f0 p.f1 p.f2) (decide (okP p)) := by
  have jt : Ev (fun k => impl_ValidPurchase.j0 k true p.f0 p.f1 p.f2) false := by
    refine ev_succ ?_; simp only [impl_ValidPurchase.j0]; exact ev_pos (by trivial) (Ev.now _)
  simp only [impl_ValidPurchase.f]
  refine ev_now (within_eq _ _ _) (ev_if (fun h0 => ev_now (within_eq _ _ _) (ev_if (fun h1 => ?_) (fun h1 => ?_))) (fun h0 => ?_))
  · have h0 := of_decide_eq_true h0
    have h1 := of_decide_eq_true h1
    rw [w64 (x := p.f0 + p.f1) (by omega) (by omega)]
    by_cases h2 : p.f0 + p.f1 = 0
    · rw [beq_iff_eq.2 h2, ofd (p := okP p) (fun g => by have := g.2.2.1; omega)]; exact jt
    · rw [beq_eq_false_iff_ne.2 h2]
      refine ev_succ ?_; simp only [impl_ValidPurchase.j0]
      refine ev_neg (by simp) (ev_if (fun h3 => ?_) (fun h3 => ?_))
      · rw [w64 (x := p.f1 - p.f0) (by omega) (by omega)]
        refine ev_now (within_eq _ _ _) (ev_some ?_)
        apply decide_eq_decide.2; unfold okP; rw [if_pos h3]
        exact ⟨fun g => ⟨h0, h1, by omega, g⟩, fun g => g.2.2.2⟩
      · rw [w64 (x := p.f0 - p.f1) (by omega) (by omega)]
        refine ev_now (within_eq _ _ _) (ev_some ?_)
        apply decide_eq_decide.2; unfold okP; rw [if_neg h3]
        exact ⟨fun g => ⟨h0, h1, by omega, g⟩, fun g => g.2.2.2⟩
  · rw [ofd (p := okP p) (fun g => h1 (ofd1 g.2.1))]; exact jt
  · rw [ofd (p := okP p) (fun g => h0 (ofd1 g.1))]; exact jt

theorem tm0 (x : Int) : x.tmod 2 = 0 ↔ x % 2 = 0 :=
  ⟨fun h => Int.emod_eq_zero_of_dvd (Int.dvd_of_tmod_eq_zero h), fun h => Int.tmod_eq_zero_of_dvd (Int.dvd_of_emod_eq_zero h)⟩
def lastB (p : Pu) : Int := if p.f2 = true then 1 else 0
def blockB (p : Pu) (i : Int) : Int := if (p.f0 + p.f1 - 1 - i) % 2 = 0 then lastB p else 1 - lastB p
theorem blockB_01 (p : Pu) (i : Int) : blockB p i = 0 ∨ blockB p i = 1 := by
  unfold blockB lastB; repeat' split
  all_goals simp
theorem blockB_next (p : Pu) (i : Int) : 1 - blockB p i = blockB p (i + 1) := by
  unfold blockB
  by_cases h : (p.f0 + p.f1 - 1 - i) % 2 = 0
  · rw [if_pos h, if_neg (by omega)]
  · rw [if_neg h, if_pos (by omega)]; omega
def manyB (p : Pu) (b : Int) : Int := if b = 0 then p.f0 else p.f1
theorem first_ev (p : Pu) (hp : okP p) : spec_l07First.f p.f0 p.f1 p.f2 = some (blockB p 0, p.f0, p.f1, p.f2) := by
  obtain ⟨h0, h1, h2, _⟩ := hp
  unfold spec_l07First.f blockB lastB
  rw [w64 (by omega) (by omega), Int.tmod_eq_emod_of_nonneg (by omega)]
  by_cases h : p.f2 = true
  · rw [if_pos h, if_pos h]
    by_cases g : (p.f0 + p.f1) % 2 = 1
    · rw [if_pos g, if_pos (by omega)]
    · rw [if_neg g, if_neg (by omega)]
  · rw [if_neg h, if_neg h]
    by_cases g : (p.f0 + p.f1) % 2 = 1
    · rw [if_pos g, if_pos (by omega)]
    · rw [if_neg g, if_neg (by omega)]
theorem blockAt_eq (p : Pu) (hp : okP p) (i : Int) (h0 : 0 ≤ i) (h1 : i ≤ 4611686018427387904) : impl_blockAt.f p.f0 p.f1 p.f2 i = some (blockB p i) := by
  obtain ⟨g0, g1, g2, _⟩ := hp
  unfold impl_blockAt.f blockB lastB
  rw [w64 (x := p.f0 + p.f1) (by omega) (by omega), w64 (x := p.f0 + p.f1 - 1) (by omega) (by omega), w64 (x := p.f0 + p.f1 - 1 - i) (by omega) (by omega)]
  simp only [tm0]
  repeat' split
  all_goals rfl
def wF (w : List S53) (x : S53) : Bool := w.any fun y => y.f0 == x.f0 && y.f1 == x.f1
theorem wF_drop {w : List S53} {i : Nat} (h : i < w.length) (x : S53) : wF (w.drop i) x = ((w[i].f0 == x.f0 && w[i].f1 == x.f1) || wF (w.drop (i + 1)) x) := by
  rw [List.drop_eq_getElem_cons h]; rfl
theorem idx_ev (w : List S53) (x : S53) (hn : w.length ≤ 1048576) : ∀ (d i : Nat), i + d = w.length → ∃ r : Int, Ev (fun k => impl_Stop_65.l0 k w (w.length : Int) (i : Int) x.f0 x.f1) r ∧ decide (r ≥ 0) = wF (w.drop i) x
  | 0, i, hd => by
    refine ⟨-1, ?_, ?_⟩
    · refine ev_succ ?_; simp only [impl_Stop_65.l0]; exact ev_neg (by omega) (Ev.now _)
    · rw [show w.drop i = [] by simp; omega]; rfl
  | d + 1, i, hd => by
    have hi : i < w.length := by omega
    obtain ⟨r, e1, e2⟩ := idx_ev w x hn d (i + 1) (by omega)
    by_cases h : (x.f0 == w[i].f0 && x.f1 == w[i].f1) = true
    · refine ⟨(i : Int), ?_, ?_⟩
      · refine ev_succ ?_; simp only [impl_Stop_65.l0]; rw [rdIStop hi]
        exact ev_pos (by omega) (ev_pos (by omega) (ev_pos (by omega) (ev_pos h (Ev.now _))))
      · rw [wF_drop hi, show (w[i].f0 == x.f0 && w[i].f1 == x.f1) = true by simp at h ⊢; omega]; simp
    · refine ⟨r, ?_, ?_⟩
      · refine ev_succ ?_; simp only [impl_Stop_65.l0]; rw [rdIStop hi, w64s (by omega)]
        exact ev_pos (by omega) (ev_pos (by omega) (ev_pos (by omega) (ev_neg h e1)))
      · rw [e2, wF_drop hi, show (w[i].f0 == x.f0 && w[i].f1 == x.f1) = false by simp at h ⊢; omega]; rfl
theorem contains_ev (w : List S53) (x : S53) (hn : w.length ≤ 1048576) : Ev (fun k => impl_Stop_57.f k w x.f0 x.f1) (wF w x) := by
  obtain ⟨r, e1, e2⟩ := idx_ev w x hn w.length 0 (by omega)
  simp only [impl_Stop_57.f, impl_Stop_65.f]
  exact Ev.bind e1 (ev_some e2)
theorem sFault_l1 (w : List S53) (hn : w.length ≤ 1048576) (b : Int) (hb : b = 0 ∨ b = 1) (p : Pu) (i : Nat) (hi : i < w.length) (r : ByteArray × Int × Int × Int × Bool)
    (h1 : wF (w.take i) w[i] = true → r = ((⟨#[116, 119, 105, 99, 101]⟩ : ByteArray), (i : Int), p.f0, p.f1, p.f2))
    (h2 : wF (w.take i) w[i] = false → Ev (fun k => spec_l07Fault.l0 k w (1 - b) ((i + 1 : Nat) : Int) p.f0 p.f1 p.f2) r) : ∀ (d j : Nat), j + d = i → wF (w.take i) w[i] = wF ((w.take i).drop j) w[i] →
    Ev (fun k => spec_l07Fault.l1 k w b (i : Int) (j : Int) p.f0 p.f1 p.f2 w[i].f0 w[i].f1) r
  | 0, j, hd, hs => by
    refine ev_succ ?_; simp only [spec_l07Fault.l1]
    rw [w64s (i := i) (by omega), w64 (x := 1 - b) (by omega) (by omega)]
    refine ev_neg (by omega) (h2 ?_)
    rw [hs, show (w.take i).drop j = [] by simp; omega]; rfl
  | d + 1, j, hd, hs => by
    have hj : j < (w.take i).length := by simp; omega
    refine ev_succ ?_; simp only [spec_l07Fault.l1]
    rw [rdIStop (show j < w.length by omega), w64s (by omega)]
    rw [wF_drop hj, List.getElem_take] at hs
    refine ev_pos (by omega) (ev_pos (by omega) (ev_pos (by omega) (ev_if (fun h => ev_some ?_) (fun h => ?_))))
    · symm; apply h1; rw [hs, h]; rfl
    · refine sFault_l1 w hn b hb p i hi r h1 h2 d (j + 1) (by omega) ?_
      rw [hs, Bool.eq_false_iff.2 h]; rfl
theorem fault_l0 (w : List S53) (hn : w.length ≤ 1048576) (p : Pu) (hp : okP p) : ∀ (d i : Nat), i + d = w.length →
    ∃ r : ByteArray × Int, Ev (fun k => spec_l07Fault.l0 k w (blockB p i) (i : Int) p.f0 p.f1 p.f2) (r.1, r.2, p.f0, p.f1, p.f2) ∧ Ev (fun k => impl_wayFault.l0 k w w (w.length : Int) (i : Int) p.f0 p.f1 p.f2) r
  | 0, i, hd => by
    obtain ⟨g0, g1, g2, _⟩ := hp
    by_cases h : (w.length : Int) < p.f0 + p.f1
    · refine ⟨((⟨#[115, 104, 111, 114, 116]⟩ : ByteArray), (w.length : Int)), ?_, ?_⟩
      · refine ev_succ ?_; simp only [spec_l07Fault.l0]; rw [w64 (x := p.f0 + p.f1) (by omega) (by omega)]
        exact ev_neg (by omega) (ev_pos h (Ev.now _))
      · refine ev_succ ?_; simp only [impl_wayFault.l0]; rw [w64 (x := p.f0 + p.f1) (by omega) (by omega)]
        exact ev_neg (by omega) (ev_pos h (Ev.now _))
    · refine ⟨((⟨#[110, 111, 110, 101]⟩ : ByteArray), -1), ?_, ?_⟩
      · refine ev_succ ?_; simp only [spec_l07Fault.l0]; rw [w64 (x := p.f0 + p.f1) (by omega) (by omega)]
        exact ev_neg (by omega) (ev_neg h (Ev.now _))
      · refine ev_succ ?_; simp only [impl_wayFault.l0]; rw [w64 (x := p.f0 + p.f1) (by omega) (by omega)]
        exact ev_neg (by omega) (ev_neg h (Ev.now _))
  | d + 1, i, hd => by
    have hi : i < w.length := by omega
    obtain ⟨r0, e1, e2⟩ := fault_l0 w hn p hp d (i + 1) (by omega)
    have b01 := blockB_01 p i
    have ba := blockAt_eq p hp i (by omega) (by omega)
    have bn := blockB_next p i
    rw [show ((i : Int) + 1) = ((i + 1 : Nat) : Int) by omega] at bn
    obtain ⟨g0, g1, g2, _⟩ := hp
    by_cases h : w[i].f0 = blockB p i
    · have es : impl_sheavesAt.f p.f0 p.f1 p.f2 (w[i].f0) = some (manyB p (blockB p i)) := by
        rw [h]; unfold impl_sheavesAt.f manyB
        rcases b01 with q | q <;> rw [q] <;> simp
      have em : spec_l07Many.f p.f0 p.f1 p.f2 (blockB p i) = some (manyB p (blockB p i), p.f0, p.f1, p.f2) := by
        unfold spec_l07Many.f manyB; split <;> rfl
      have mb : 0 ≤ manyB p (blockB p i) ∧ manyB p (blockB p i) ≤ 4 := by unfold manyB; split <;> omega
      by_cases g : 0 ≤ w[i].f1 ∧ w[i].f1 ≤ manyB p (blockB p i) - 1
      · have ec := contains_ev (w.take i) w[i] (by simp; omega)
        by_cases t : wF (w.take i) w[i] = true
        · refine ⟨((⟨#[116, 119, 105, 99, 101]⟩ : ByteArray), (i : Int)), ?_, ?_⟩
          · refine ev_succ ?_; simp only [spec_l07Fault.l0]; rw [rdIStop hi]
            refine ev_pos (by omega) (ev_pos (by omega) (ev_pos h (ev_now em ?_)))
            rw [w64 (by omega) (by omega)]
            refine ev_now (l00In_eq _ _ _) (ev_pos (ofd1 g) ?_)
            exact sFault_l1 w hn _ b01 p i hi _ (fun _ => rfl) (fun q => by rw [t] at q; cases q) i 0 (by omega) (by simp)
          · refine ev_succ ?_; simp only [impl_wayFault.l0]; rw [rdIStop hi]
            refine ev_pos (by omega) (ev_pos (by omega) (ev_pos (by omega) (ev_now ba (ev_pos h (ev_now es ?_)))))
            rw [w64 (x := manyB p (blockB p i) - 1) (by omega) (by omega)]
            refine ev_now (within_eq _ _ _) (ev_pos (ofd1 g) (ev_pos (by omega) ?_))
            rw [Int.toNat_natCast]
            exact Ev.bind ec (ev_pos t (Ev.now _))
        · refine ⟨r0, ?_, ?_⟩
          · refine ev_succ ?_; simp only [spec_l07Fault.l0]; rw [rdIStop hi]
            refine ev_pos (by omega) (ev_pos (by omega) (ev_pos h (ev_now em ?_)))
            rw [w64 (by omega) (by omega)]
            refine ev_now (l00In_eq _ _ _) (ev_pos (ofd1 g) ?_)
            exact sFault_l1 w hn _ b01 p i hi _ (fun q => absurd q t) (fun _ => by rw [bn]; exact e1) i 0 (by omega) (by simp)
          · refine ev_succ ?_; simp only [impl_wayFault.l0]; rw [rdIStop hi]
            refine ev_pos (by omega) (ev_pos (by omega) (ev_pos (by omega) (ev_now ba (ev_pos h (ev_now es ?_)))))
            rw [w64 (x := manyB p (blockB p i) - 1) (by omega) (by omega)]
            refine ev_now (within_eq _ _ _) (ev_pos (ofd1 g) (ev_pos (by omega) ?_))
            rw [Int.toNat_natCast, w64s (by omega)]
            exact Ev.bind ec (ev_neg t e2)
      · refine ⟨((⟨#[115, 104, 101, 97, 118, 101]⟩ : ByteArray), (i : Int)), ?_, ?_⟩
        · refine ev_succ ?_; simp only [spec_l07Fault.l0]; rw [rdIStop hi]
          refine ev_pos (by omega) (ev_pos (by omega) (ev_pos h (ev_now em ?_)))
          rw [w64 (by omega) (by omega)]
          exact ev_now (l00In_eq _ _ _) (ev_neg (by rw [decide_eq_true_eq]; exact g) (Ev.now _))
        · refine ev_succ ?_; simp only [impl_wayFault.l0]; rw [rdIStop hi]
          refine ev_pos (by omega) (ev_pos (by omega) (ev_pos (by omega) (ev_now ba (ev_pos h (ev_now es ?_)))))
          rw [w64 (x := manyB p (blockB p i) - 1) (by omega) (by omega)]
          exact ev_now (within_eq _ _ _) (ev_neg (by rw [decide_eq_true_eq]; exact g) (Ev.now _))
    · refine ⟨((⟨#[98, 108, 111, 99, 107]⟩ : ByteArray), (i : Int)), ?_, ?_⟩
      · refine ev_succ ?_; simp only [spec_l07Fault.l0]; rw [rdIStop hi]
        exact ev_pos (by omega) (ev_pos (by omega) (ev_neg h (Ev.now _)))
      · refine ev_succ ?_; simp only [impl_wayFault.l0]; rw [rdIStop hi]
        exact ev_pos (by omega) (ev_pos (by omega) (ev_pos (by omega) (ev_now ba (ev_neg h (Ev.now _)))))
theorem fault_ev (w : List S53) (hn : w.length ≤ 1048576) (p : Pu) (hp : okP p) :
    ∃ r : ByteArray × Int, Ev (fun k => spec_l07Fault.f k p.f0 p.f1 p.f2 w) (r.1, r.2, p.f0, p.f1, p.f2) ∧ Ev (fun k => impl_wayFault.f k p.f0 p.f1 p.f2 w) r := by
  obtain ⟨r, e1, e2⟩ := fault_l0 w hn p hp w.length 0 (by omega)
  refine ⟨r, ?_, ?_⟩
  · simp only [spec_l07Fault.f]; exact ev_now (first_ev p hp) e1
  · simp only [impl_wayFault.f]; exact e2

theorem fault4_l0 (w : List S53) (hn : w.length ≤ 1048576) (p : Pu) (hp : okP p) : ∀ (d i : Nat), i + d = w.length →
    ∃ r : ByteArray × Int, Ev (fun k => spec_l07Fault.l0 k w (blockB p i) (i : Int) p.f0 p.f1 p.f2) (r.1, r.2, p.f0, p.f1, p.f2) ∧ Ev (fun k => impl_wayFault.l0 k w w (w.length : Int) (i : Int) p.f0 p.f1 p.f2) r ∧ (r.1.toList = ([110, 111, 110, 101] : List UInt8) → ∀ j (h : j < w.length), i ≤ j → w[j].f0 = blockB p (j : Int))
  | 0, i, hd => by
    obtain ⟨g0, g1, g2, _⟩ := hp
    by_cases h : (w.length : Int) < p.f0 + p.f1
    · refine ⟨((⟨#[115, 104, 111, 114, 116]⟩ : ByteArray), (w.length : Int)), ?_, ?_, fun _ j hj hij => by omega⟩
      · refine ev_succ ?_; simp only [spec_l07Fault.l0]; rw [w64 (x := p.f0 + p.f1) (by omega) (by omega)]
        exact ev_neg (by omega) (ev_pos h (Ev.now _))
      · refine ev_succ ?_; simp only [impl_wayFault.l0]; rw [w64 (x := p.f0 + p.f1) (by omega) (by omega)]
        exact ev_neg (by omega) (ev_pos h (Ev.now _))
    · refine ⟨((⟨#[110, 111, 110, 101]⟩ : ByteArray), -1), ?_, ?_, fun _ j hj hij => by omega⟩
      · refine ev_succ ?_; simp only [spec_l07Fault.l0]; rw [w64 (x := p.f0 + p.f1) (by omega) (by omega)]
        exact ev_neg (by omega) (ev_neg h (Ev.now _))
      · refine ev_succ ?_; simp only [impl_wayFault.l0]; rw [w64 (x := p.f0 + p.f1) (by omega) (by omega)]
        exact ev_neg (by omega) (ev_neg h (Ev.now _))
  | d + 1, i, hd => by
    have hi : i < w.length := by omega
    obtain ⟨r0, e1, e2, e3⟩ := fault4_l0 w hn p hp d (i + 1) (by omega)
    have b01 := blockB_01 p i
    have ba := blockAt_eq p hp i (by omega) (by omega)
    have bn := blockB_next p i
    rw [show ((i : Int) + 1) = ((i + 1 : Nat) : Int) by omega] at bn
    obtain ⟨g0, g1, g2, _⟩ := hp
    by_cases h : w[i].f0 = blockB p i
    · have es : impl_sheavesAt.f p.f0 p.f1 p.f2 (w[i].f0) = some (manyB p (blockB p i)) := by
        rw [h]; unfold impl_sheavesAt.f manyB
        rcases b01 with q | q <;> rw [q] <;> simp
      have em : spec_l07Many.f p.f0 p.f1 p.f2 (blockB p i) = some (manyB p (blockB p i), p.f0, p.f1, p.f2) := by
        unfold spec_l07Many.f manyB; split <;> rfl
      have mb : 0 ≤ manyB p (blockB p i) ∧ manyB p (blockB p i) ≤ 4 := by unfold manyB; split <;> omega
      by_cases g : 0 ≤ w[i].f1 ∧ w[i].f1 ≤ manyB p (blockB p i) - 1
      · have ec := contains_ev (w.take i) w[i] (by simp; omega)
        by_cases t : wF (w.take i) w[i] = true
        · refine ⟨((⟨#[116, 119, 105, 99, 101]⟩ : ByteArray), (i : Int)), ?_, ?_, fun q => absurd q (show ¬ (⟨#[116, 119, 105, 99, 101]⟩ : ByteArray).toList = ([110, 111, 110, 101] : List UInt8) from by decide +kernel)⟩
          · refine ev_succ ?_; simp only [spec_l07Fault.l0]; rw [rdIStop hi]
            refine ev_pos (by omega) (ev_pos (by omega) (ev_pos h (ev_now em ?_)))
            rw [w64 (by omega) (by omega)]
            refine ev_now (l00In_eq _ _ _) (ev_pos (ofd1 g) ?_)
            exact sFault_l1 w hn _ b01 p i hi _ (fun _ => rfl) (fun q => by rw [t] at q; cases q) i 0 (by omega) (by simp)
          · refine ev_succ ?_; simp only [impl_wayFault.l0]; rw [rdIStop hi]
            refine ev_pos (by omega) (ev_pos (by omega) (ev_pos (by omega) (ev_now ba (ev_pos h (ev_now es ?_)))))
            rw [w64 (x := manyB p (blockB p i) - 1) (by omega) (by omega)]
            refine ev_now (within_eq _ _ _) (ev_pos (ofd1 g) (ev_pos (by omega) ?_))
            rw [Int.toNat_natCast]
            exact Ev.bind ec (ev_pos t (Ev.now _))
        · refine ⟨r0, ?_, ?_, fun q j hj hij => by
            rcases Nat.eq_or_lt_of_le hij with z | z
            · subst z; exact h
            · exact e3 q j hj z⟩
          · refine ev_succ ?_; simp only [spec_l07Fault.l0]; rw [rdIStop hi]
            refine ev_pos (by omega) (ev_pos (by omega) (ev_pos h (ev_now em ?_)))
            rw [w64 (by omega) (by omega)]
            refine ev_now (l00In_eq _ _ _) (ev_pos (ofd1 g) ?_)
            exact sFault_l1 w hn _ b01 p i hi _ (fun q => absurd q t) (fun _ => by rw [bn]; exact e1) i 0 (by omega) (by simp)
          · refine ev_succ ?_; simp only [impl_wayFault.l0]; rw [rdIStop hi]
            refine ev_pos (by omega) (ev_pos (by omega) (ev_pos (by omega) (ev_now ba (ev_pos h (ev_now es ?_)))))
            rw [w64 (x := manyB p (blockB p i) - 1) (by omega) (by omega)]
            refine ev_now (within_eq _ _ _) (ev_pos (ofd1 g) (ev_pos (by omega) ?_))
            rw [Int.toNat_natCast, w64s (by omega)]
            exact Ev.bind ec (ev_neg t e2)
      · refine ⟨((⟨#[115, 104, 101, 97, 118, 101]⟩ : ByteArray), (i : Int)), ?_, ?_, fun q => absurd q (show ¬ (⟨#[115, 104, 101, 97, 118, 101]⟩ : ByteArray).toList = ([110, 111, 110, 101] : List UInt8) from by decide +kernel)⟩
        · refine ev_succ ?_; simp only [spec_l07Fault.l0]; rw [rdIStop hi]
          refine ev_pos (by omega) (ev_pos (by omega) (ev_pos h (ev_now em ?_)))
          rw [w64 (by omega) (by omega)]
          exact ev_now (l00In_eq _ _ _) (ev_neg (by rw [decide_eq_true_eq]; exact g) (Ev.now _))
        · refine ev_succ ?_; simp only [impl_wayFault.l0]; rw [rdIStop hi]
          refine ev_pos (by omega) (ev_pos (by omega) (ev_pos (by omega) (ev_now ba (ev_pos h (ev_now es ?_)))))
          rw [w64 (x := manyB p (blockB p i) - 1) (by omega) (by omega)]
          exact ev_now (within_eq _ _ _) (ev_neg (by rw [decide_eq_true_eq]; exact g) (Ev.now _))
    · refine ⟨((⟨#[98, 108, 111, 99, 107]⟩ : ByteArray), (i : Int)), ?_, ?_, fun q => absurd q (show ¬ (⟨#[98, 108, 111, 99, 107]⟩ : ByteArray).toList = ([110, 111, 110, 101] : List UInt8) from by decide +kernel)⟩
      · refine ev_succ ?_; simp only [spec_l07Fault.l0]; rw [rdIStop hi]
        exact ev_pos (by omega) (ev_pos (by omega) (ev_neg h (Ev.now _)))
      · refine ev_succ ?_; simp only [impl_wayFault.l0]; rw [rdIStop hi]
        exact ev_pos (by omega) (ev_pos (by omega) (ev_pos (by omega) (ev_now ba (ev_neg h (Ev.now _)))))
theorem fault4_ev (w : List S53) (hn : w.length ≤ 1048576) (p : Pu) (hp : okP p) :
    ∃ r : ByteArray × Int, Ev (fun k => spec_l07Fault.f k p.f0 p.f1 p.f2 w) (r.1, r.2, p.f0, p.f1, p.f2) ∧ Ev (fun k => impl_wayFault.f k p.f0 p.f1 p.f2 w) r ∧ (r.1.toList = ([110, 111, 110, 101] : List UInt8) → ∀ j (h : j < w.length), w[j].f0 = blockB p (j : Int)) := by
  obtain ⟨r, e1, e2, e3⟩ := fault4_l0 w hn p hp w.length 0 (by omega)
  refine ⟨r, ?_, ?_, fun q j hj => e3 q j hj (by omega)⟩
  · simp only [spec_l07Fault.f]; exact ev_now (first_ev p hp) e1
  · simp only [impl_wayFault.f]; exact e2
theorem code_both4 (p : Pu) (w : List S53) (hn : w.length ≤ 1048576) : ∃ c : Int, Ev (fun k => spec_l07Code.f k p.f0 p.f1 p.f2 w) (c, p.f0, p.f1, p.f2) ∧ Ev (fun k => impl_wayCode.f k p.f0 p.f1 p.f2 w) c ∧ (c = 0 → ∀ j (h : j < w.length), w[j].f0 = blockB p (j : Int)) := by
  have e1 := l05One_ev p
  have e2 := validPurchase_ev p
  by_cases hp : okP p
  · rw [ofd1 hp] at e1 e2
    obtain ⟨r, e3, e4, e5⟩ := fault4_ev w hn p hp
    by_cases q : r.1.toList = ([110, 111, 110, 101] : List UInt8)
    · refine ⟨0, ?_, ?_, fun _ => e5 q⟩
      · simp only [spec_l07Code.f]; exact Ev.bind e1 (ev_pos (by trivial) (Ev.bind e3 (ev_pos q (Ev.now _))))
      · simp only [impl_wayCode.f]; exact Ev.bind e2 (ev_pos (by trivial) (Ev.bind e4 (ev_pos q (Ev.now _))))
    · refine ⟨8, ?_, ?_, fun h => by omega⟩
      · simp only [spec_l07Code.f]; exact Ev.bind e1 (ev_pos (by trivial) (Ev.bind e3 (ev_neg q (Ev.now _))))
      · simp only [impl_wayCode.f]; exact Ev.bind e2 (ev_pos (by trivial) (Ev.bind e4 (ev_neg q (Ev.now _))))
  · rw [ofd hp] at e1 e2
    refine ⟨1, ?_, ?_, fun h => by omega⟩
    · simp only [spec_l07Code.f]; exact Ev.bind e1 (ev_neg (by simp) (Ev.now _))
    · simp only [impl_wayCode.f]; exact Ev.bind e2 (ev_neg (by simp) (Ev.now _))

def prW (w : List S53) (j : Nat) : List Int := if (rd_T53 w ((j + 1 : Nat) : Int)).f0 = 0 then [(rd_T53 w ((j + 1 : Nat) : Int)).f1, (rd_T53 w (j : Int)).f1] else [(rd_T53 w (j : Int)).f1, (rd_T53 w ((j + 1 : Nat) : Int)).f1]
def prL (w : List S53) (i : Nat) : List (List Int) := (List.range i).map (prW w)
theorem prL_succ (w : List S53) (i : Nat) : prL w i ++ [prW w i] = prL w (i + 1) := by simp [prL, List.range_succ]
theorem prL_len (w : List S53) (i : Nat) : (prL w i).length = i := by simp [prL]
theorem prL_two (w : List S53) (i : Nat) : ∀ x ∈ prL w i, x.length = 2 := by
  intro x hx
  simp only [prL, List.mem_map] at hx
  obtain ⟨j, _, rfl⟩ := hx
  unfold prW; split <;> rfl
theorem w_minus {i : Nat} (h : i < 1048577) : wrap64 (((i + 1 : Nat) : Int) - 1) = (i : Int) := by rw [w64 (by omega) (by omega)]; omega
theorem sParts_l0 (w : List S53) (hn : w.length ≤ 1048576) : ∀ (d i : Nat), i + 1 + d = max w.length (i + 1) →
    Ev (fun k => spec_l07Parts.l0 k w (prL w i) ((i + 1 : Nat) : Int)) (prL w (i + d))
  | 0, i, hd => by
    refine ev_succ ?_
    simp only [spec_l07Parts.l0]
    exact ev_neg (by omega) (Ev.now _)
  | d + 1, i, hd => by
    have ih := sParts_l0 w hn d (i + 1) (by omega)
    have hl := prL_len w i
    rw [← prL_succ, show i + 1 + d = i + (d + 1) by omega] at ih
    unfold prW at ih
    refine ev_succ ?_
    simp only [spec_l07Parts.l0]
    rw [w_minus (by omega), w64s (by omega)]
    refine ev_pos (by omega) (ev_pos (by omega) (ev_pos (by omega) (ev_pos (by omega) (ev_if (fun g => ev_pos (by omega) ?_) (fun g => ev_pos (by omega) ?_)))))
    · rw [if_pos g] at ih; exact ih
    · rw [if_neg g] at ih; exact ih
theorem iParts_l0 (w : List S53) (hn : w.length ≤ 1048576) (p : Pu) (hb : ∀ j (h : j < w.length), w[j].f0 = blockB p (j : Int)) : ∀ (d i : Nat), i + 1 + d = max w.length (i + 1) →
    Ev (fun k => impl_partsOfWay.l0 k w (prL w i) ((i + 1 : Nat) : Int)) (prL w (i + d))
  | 0, i, hd => by
    refine ev_succ ?_
    simp only [impl_partsOfWay.l0]
    exact ev_neg (by omega) (Ev.now _)
  | d + 1, i, hd => by
    have ih := iParts_l0 w hn p hb d (i + 1) (by omega)
    have hl := prL_len w i
    rw [← prL_succ, show i + 1 + d = i + (d + 1) by omega] at ih
    have h1 := hb i (by omega)
    have h2 := hb (i + 1) (by omega)
    have e1 : rd_T53 w (i : Int) = w[i] := rdIStop (by omega)
    have e2 : rd_T53 w ((i + 1 : Nat) : Int) = w[i + 1] := rdIStop (by omega)
    have bn := blockB_next p (i : Int)
    rw [show ((i : Int) + 1) = ((i + 1 : Nat) : Int) by omega] at bn
    unfold prW at ih
    rw [e1, e2] at ih
    have b01 := blockB_01 p (i : Int)
    refine ev_succ ?_
    simp only [impl_partsOfWay.l0]
    rw [w_minus (by omega), w64s (by omega), e1, e2, h1, h2, ← bn]
    rw [h2, ← bn] at ih
    refine ev_pos (by omega) (ev_pos (by omega) (ev_now rfl ?_))
    rcases b01 with q | q
    · rw [q] at ih ⊢
      rw [if_neg (by omega)] at ih
      exact ev_pos (by omega) (ev_pos (by omega) (ev_pos (by omega) (ev_pos (by simp) (ev_pos (by omega) (ev_pos (by omega) (ev_pos (by simp) (ev_pos (by omega) ih)))))))
    · rw [q] at ih ⊢
      rw [if_pos (by omega)] at ih
      exact ev_pos (by omega) (ev_pos (by omega) (ev_pos (by omega) (ev_pos (by simp) (ev_pos (by omega) (ev_pos (by omega) (ev_pos (by simp) (ev_pos (by omega) ih)))))))
theorem parts_both (w : List S53) (hn : w.length ≤ 1048576) (p : Pu) (hb : ∀ j (h : j < w.length), w[j].f0 = blockB p (j : Int)) :
    Ev (fun k => spec_l07Parts.f k w) (prL w (w.length - 1)) ∧ Ev (fun k => impl_partsOfWay.f k w) (prL w (w.length - 1)) := by
  have s := sParts_l0 w hn (w.length - 1) 0 (by omega)
  have i := iParts_l0 w hn p hb (w.length - 1) 0 (by omega)
  rw [Nat.zero_add (w.length - 1)] at s i
  simp only [spec_l07Parts.f, impl_partsOfWay.f]
  exact ⟨s, i⟩
def crP (t : Bool) (a b : List Int) : Prop := if t = true then wrap64 (wrap64 (rd a 0 - rd b 0) * wrap64 (rd a 1 - rd b 1)) > 0 else wrap64 (wrap64 (rd a 0 - rd b 0) * wrap64 (rd a 1 - rd b 1)) < 0
instance (t : Bool) (a b : List Int) : Decidable (crP t a b) := by unfold crP; infer_instance
theorem rdL {ps : List (List Int)} {i : Nat} (h : i < ps.length) : rd_L3 ps (i : Int) = ps[i] := by
  unfold rd_L3; simp [List.getD_eq_getElem?_getD, h]

theorem eqSS_l0 (L : List (List Int)) (hr : ∀ x ∈ L, x.length = 2) (hn : L.length ≤ 1048576) : ∀ (d i : Nat), i + d = L.length → Ev (fun k => laws_eqInt64SS.l0 k L L (i : Int)) true
  | 0, i, hd => by
    refine ev_succ ?_
    simp only [laws_eqInt64SS.l0]
    exact ev_neg (by omega) (Ev.now _)
  | d + 1, i, hd => by
    have hi : i < L.length := by omega
    refine ev_succ ?_
    simp only [laws_eqInt64SS.l0]
    rw [rdL hi, w64s (by omega)]
    exact ev_pos (by omega) (ev_pos (by omega) (ev_pos (by omega) (Ev.bind (eqInt64S_self _ (by rw [hr _ (List.getElem_mem hi)]; omega)) (ev_pos (by trivial) (eqSS_l0 L hr hn d (i + 1) (by omega))))))
theorem eqSS_self (L : List (List Int)) (hr : ∀ x ∈ L, x.length = 2) (hn : L.length ≤ 1048576) : Ev (fun k => laws_eqInt64SS.f k L L) true := by
  simp only [laws_eqInt64SS.f]
  exact ev_pos (by trivial) (eqSS_l0 L hr hn L.length 0 (by omega))
def mks2 : Int → Nat → List (List Int)
  | _, 0 => []
  | s, n + 1 => marks s 2 :: mks2 (s + 2) n
theorem mks2_length : ∀ (n : Nat) (s : Int), (mks2 s n).length = n
  | 0, _ => rfl
  | n + 1, s => by rw [mks2, List.length_cons, mks2_length n]
theorem marksSS_ev : ∀ (ls : List (List Int)) (s : Int), (∀ x ∈ ls, x.length = 2) → 0 ≤ s → s + 2 * ls.length < 4611686018427387904 → Ev (fun k => marksSS k ls s) (s + 2 * (ls.length : Int), mks2 s ls.length)
  | [], s, _, _, _ => by
    simp only [marksSS]
    exact ev_some (by simp [mks2])
  | l :: ls, s, hr, h0, hn => by
    have hl : l.length = 2 := hr l (by simp)
    simp only [List.length_cons] at hn ⊢
    have e1 := markInt64S_ev l s h0 (by omega)
    rw [hl] at e1
    have e2 := marksSS_ev ls (s + 2) (fun x hx => hr x (by simp [hx])) (by omega) (by omega)
    simp only [marksSS]
    refine Ev.bind e1 (Ev.bind e2 (ev_some ?_))
    rw [mks2]
    congr 1
    omega
theorem heldSS_l0 (L : List (List Int)) (hn : L.length ≤ 1048576) : ∀ (d i : Nat) (a : Int), 0 ≤ a → a + 2 * d < 4611686018427387904 → i + d = L.length → L.drop i = mks2 a d → Ev (fun k => laws_heldInt64SS.l0 k L a (i : Int)) (a + 2 * (d : Int))
  | 0, i, a, h0, h1, hd, hq => by
    refine ev_succ ?_
    simp only [laws_heldInt64SS.l0]
    exact ev_neg (by omega) (ev_some (by omega))
  | d + 1, i, a, h0, h1, hd, hq => by
    have hi : i < L.length := by omega
    rw [List.drop_eq_getElem_cons hi, mks2] at hq
    injection hq with q1 q2
    refine ev_succ ?_
    simp only [laws_heldInt64SS.l0]
    rw [rdL hi, q1, w64s (by omega)]
    have e1 := heldInt64S_ev a h0 2 (by omega)
    have e2 := heldSS_l0 L hn d (i + 1) (a + 2) (by omega) (by omega) (by omega) q2
    refine ev_pos (by omega) (ev_pos (by omega) (Ev.bind e1 (ev_neg (by omega) ?_)))
    rw [show a + 2 * ((d + 1 : Nat) : Int) = a + 2 + 2 * (d : Int) by omega]
    exact e2
theorem key (p : Pu) (w : List S53) (hn : w.length ≤ 1048576) : ∃ (L : List (List Int)) (c : Int), (∀ x ∈ L, x.length = 2) ∧ L.length ≤ 1048576 ∧ Ev (fun k => spec_PartsOfWay.f k p.f0 p.f1 p.f2 w) (L, c) ∧ Ev (fun k => impl_PartsOfWay.f k p.f0 p.f1 p.f2 w) (L, c) := by
  obtain ⟨c, e1, e2, e3⟩ := code_both4 p w hn
  by_cases hc : c = 0
  · obtain ⟨s, i⟩ := parts_both w hn p (e3 hc)
    have hl := prL_len w (w.length - 1)
    refine ⟨prL w (w.length - 1), 0, prL_two w _, by omega, ?_, ?_⟩
    · simp only [spec_PartsOfWay.f]; exact Ev.bind e1 (ev_pos hc (Ev.bind s (Ev.now _)))
    · simp only [impl_PartsOfWay.f]; exact Ev.bind e2 (ev_pos hc (Ev.bind i (Ev.now _)))
  · refine ⟨[], c, by simp, by simp, ?_, ?_⟩
    · simp only [spec_PartsOfWay.f]; exact Ev.bind e1 (ev_neg hc (Ev.now _))
    · simp only [impl_PartsOfWay.f]; exact Ev.bind e2 (ev_neg hc (Ev.now _))
theorem FnExactPartsOfWay : laws_FnExactPartsOfWay.Pure := by
  intro a0 a1 a2 l1 _ _ hl _
  refine Ev.rounds ?_
  simp only [laws_FnExactPartsOfWay.f]
  refine ev_now (szStopS_eq l1 1048576 hl (by omega) (by omega)) (ev_if (fun _ => Ev.now _) (fun h => ?_))
  have hn : l1.length ≤ 1048576 := by
    by_cases g : (1048576 : Int) - (l1.length : Int) < 0
    · rw [if_pos g] at h; omega
    · omega
  have t0 := toStopS_ev l1 hn
  have hm : (l1.map convStop).length ≤ 1048576 := by simpa using hn
  obtain ⟨L, c, h2, hL, e1, e2⟩ := key ⟨a0, a1, a2⟩ (l1.map convStop) hm
  have ee := eqSS_self L h2 hL
  have es := eqStopS_self _ hm
  have e3 := markStopS_ev (l1.map convStop) 1 (by omega) (by omega)
  have e4 := marksSS_ev L 1 h2 (by omega) (by omega)
  have e5 := heldSS_l0 (mks2 1 L.length) (by rw [mks2_length]; exact hL) L.length 0 1 (by omega) (by omega) (by rw [mks2_length]; omega) rfl
  refine Ev.bind t0 (Ev.bind e1 (Ev.bind e2 (ev_pos rfl (Ev.bind ee (ev_pos (by trivial) (Ev.bind es (ev_pos (by trivial) (Ev.bind e3 (ev_pos (by omega) ?_)))))))))
  refine Ev.bind (a := ((1 : Int) + 2 * (L.length : Int), mks2 1 L.length)) ?_ (Ev.bind (a := (1 : Int) + 2 * (L.length : Int)) ?_ (ev_pos ⟨by omega, rfl⟩ (Ev.now _)))
  · simp only [laws_markInt64SS.f]
    exact ev_pos (by omega) e4
  · simp only [laws_heldInt64SS.f]
    exact e5

end Go.Proofs.Ytifdihbndlmgpaa.PureFnExactPartsOfWay
namespace Go.Proofs.Ytifdihbndlmgpaa.Pure
open Go.Proofs.Ytifdihbndlmgpaa.HParts
theorem FnExactPartsOfWay : laws_FnExactPartsOfWay.Pure := PureFnExactPartsOfWay.FnExactPartsOfWay
end Go.Proofs.Ytifdihbndlmgpaa.Pure
