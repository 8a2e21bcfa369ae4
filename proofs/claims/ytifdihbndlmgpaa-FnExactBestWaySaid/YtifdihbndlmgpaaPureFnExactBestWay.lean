/- The program's function answers as the statement says. Conditions: none beyond the given statement's own. -/
import Derived.Test.YtifdihbndlmgpaaHBestx11
import Derived.Test.YtifdihbndlmgpaaLib
set_option linter.unusedVariables false
set_option linter.unusedSimpArgs false
namespace Go.Proofs.Ytifdihbndlmgpaa.PureFnExactBestWay
open Go.RowKit Go.Proofs.Ytifdihbndlmgpaa.HBest Go.Proofs.YtifdihbndlmgpaaW.PrintWords Go.Proofs.YtifdihbndlmgpaaW.PrintLast Go.Proofs.YtifdihbndlmgpaaW.PrintMore Go.Proofs.Ytifdihbndlmgpaa.Lib
theorem rdEStop {xs : List S53} {i : Nat} (h : i < xs.length) : rd_T53 xs (i : Int) = xs[i] := by
  unfold rd_T53; simp [List.getD_eq_getElem?_getD, h]
theorem eqStop_self (x : S53) : laws_eqStop.f x.f0 x.f1 x.f0 x.f1 = some true := by
  simp [laws_eqStop.f]
theorem eqStopS_l0 (x0 : List S53) (hn : x0.length ≤ 1048576) : ∀ (d i : Nat), i + d = x0.length → Ev (fun k => laws_eqStopS.l0 k x0 x0 (i : Int)) true
  | 0, i, hd => by
    refine ev_succ ?_
    simp only [laws_eqStopS.l0]
    exact ev_neg (by omega) (Ev.now _)
  | d + 1, i, hd => by
    refine ev_succ ?_
    simp only [laws_eqStopS.l0]
    refine ev_pos (by omega) (ev_pos (by omega) (ev_pos (by omega) (ev_now (eqStop_self _) (ev_pos (by trivial) ?_))))
    rw [w64s (by omega)]
    exact eqStopS_l0 x0 hn d (i + 1) (by omega)
theorem eqStopS_self (l : List S53) (hn : l.length ≤ 1048576) : Ev (fun k => laws_eqStopS.f k l l) true := by
  simp only [laws_eqStopS.f]
  exact ev_pos (by trivial) (eqStopS_l0 l hn l.length 0 (by omega))

theorem rdKStop {xs : List S53} {i : Nat} (h : i < xs.length) : rd_T53 xs (i : Int) = xs[i] := by
  unfold rd_T53; simp [List.getD_eq_getElem?_getD, h]
def mksStop (s : Int) (n : Nat) : List S53 := (List.range n).map fun (j : Nat) => ⟨s + 2 * (j : Int), s + 2 * (j : Int) + 1⟩
theorem mksStop_length (s : Int) (n : Nat) : (mksStop s n).length = n := by simp [mksStop]
theorem mksStop_get (s : Int) (n i : Nat) (h : i < (mksStop s n).length) : (mksStop s n)[i] = ⟨s + 2 * (i : Int), s + 2 * (i : Int) + 1⟩ := by simp [mksStop]
theorem markStopS_l0 (s : Int) (h0 : 0 ≤ s) (n : Nat) (hn : s + 2 * n < 4611686018427387904) : ∀ (d i : Nat) (x0 : List S53), i + d = n → x0.length = n → x0.take i = (mksStop s n).take i →
    Ev (fun k => laws_markStopS.l0 k x0 (s + 2 * i) (i : Int)) (s + 2 * n, mksStop s n)
  | 0, i, x0, hd, hl, ht => by
    refine ev_succ ?_
    simp only [laws_markStopS.l0]
    refine ev_neg (by omega) (ev_some ?_)
    rw [List.take_of_length_le (by omega), List.take_of_length_le (by rw [mksStop_length]; omega)] at ht
    rw [ht]; congr 1; omega
  | d + 1, i, x0, hd, hl, ht => by
    refine ev_succ ?_
    simp only [laws_markStopS.l0]
    refine ev_pos (by omega) (ev_pos (by omega) (ev_now rfl ?_))
    rw [w64s (by omega), w64 (x := s + 2 * (i : Int) + 1) (by omega) (by omega), w64 (x := s + 2 * (i : Int) + 1 + 1) (by omega) (by omega), Int.toNat_natCast, rdKStop (xs := x0.set i _) (by simp; omega)]
    have e : s + 2 * (i : Int) + 1 + 1 = s + 2 * ((i + 1 : Nat) : Int) := by omega
    rw [e, List.set_set, List.getElem_set_self]
    refine markStopS_l0 s h0 n hn d (i + 1) _ (by omega) (by simpa using hl) (take_set _ _ _ _ (by omega) (by rw [mksStop_length]; omega) ht ?_)
    rw [mksStop_get]
theorem markStopS_ev (l : List S53) (s : Int) (h0 : 0 ≤ s) (hn : s + 2 * l.length < 4611686018427387904) :
    Ev (fun k => laws_markStopS.f k l s) (s + 2 * l.length, mksStop s l.length) := by
  simp only [laws_markStopS.f]
  have := markStopS_l0 s h0 l.length hn l.length 0 l (by omega) rfl (by simp)
  simpa using this
theorem heldStopS_l0 (s : Int) (h0 : 0 ≤ s) (n : Nat) (hn : s + 2 * n < 4611686018427387904) : ∀ (d i : Nat), i + d = n →
    Ev (fun k => laws_heldStopS.l0 k (mksStop s n) (s + 2 * i) (i : Int)) (s + 2 * n)
  | 0, i, hd => by
    refine ev_succ ?_
    simp only [laws_heldStopS.l0]
    refine ev_neg (by rw [mksStop_length]; omega) (ev_some ?_)
    omega
  | d + 1, i, hd => by
    refine ev_succ ?_
    simp only [laws_heldStopS.l0]
    rw [rdKStop (by rw [mksStop_length]; omega), mksStop_get, w64s (by omega), w64 (x := s + 2 * (i : Int) + 1) (by omega) (by omega), w64 (x := s + 2 * (i : Int) + 1 + 1) (by omega) (by omega)]
    refine ev_pos (by rw [mksStop_length]; omega) (ev_pos (by omega) (ev_pos rfl (ev_pos rfl ?_)))
    have e : s + 2 * (i : Int) + 1 + 1 = s + 2 * ((i + 1 : Nat) : Int) := by omega
    rw [e]
    exact heldStopS_l0 s h0 n hn d (i + 1) (by omega)
theorem heldStopS_ev (s : Int) (h0 : 0 ≤ s) (n : Nat) (hn : s + 2 * n < 4611686018427387904) :
    Ev (fun k => laws_heldStopS.f k (mksStop s n) s) (s + 2 * n) := by
  simp only [laws_heldStopS.f]
  have := heldStopS_l0 s h0 n hn n 0 (by omega)
  simpa using this

theorem l00In_eq (a b c : Int) : spec_l00In.f a b c = some (decide (b ≤ a ∧ a ≤ c)) := by
  unfold spec_l00In.f; by_cases h : a ≥ b <;> simp [h]

theorem within_eq (a b c : Int) : impl_within.f a b c = some (decide (b ≤ a ∧ a ≤ c)) := by
  unfold impl_within.f; by_cases h : a ≥ b <;> simp [h]

structure Pu where
  f0 : Int
  f1 : Int
  f2 : Bool
def okP (p : Pu) : Prop := (0 ≤ p.f0 ∧ p.f0 ≤ 4) ∧ (0 ≤ p.f1 ∧ p.f1 ≤ 4) ∧ 1 ≤ p.f0 + p.f1 ∧ (if p.f2 = true then 0 ≤ p.f1 - p.f0 ∧ p.f1 - p.f0 ≤ 1 else 0 ≤ p.f0 - p.f1 ∧ p.f0 - p.f1 ≤ 1)
instance (p : Pu) : Decidable (okP p) := inferInstanceAs (Decidable ((0 ≤ p.f0 ∧ p.f0 ≤ 4) ∧ (0 ≤ p.f1 ∧ p.f1 ≤ 4) ∧ 1 ≤ p.f0 + p.f1 ∧ (if p.f2 = true then 0 ≤ p.f1 - p.f0 ∧ p.f1 - p.f0 ≤ 1 else 0 ≤ p.f0 - p.f1 ∧ p.f0 - p.f1 ≤ 1)))
theorem l05One_ev (p : Pu) : Ev (fun k => spec_l05One.f k p.f0 p.f1 p.f2) (decide (okP p), p.f0, p.f1, p.f2) := by
  have jt : Ev (fun k => spec_l05One.j0 k true p.f0 p.f1 p.f2) (false, p.f0, p.f1, p.f2) := by
    refine ev_succ ?_; simp only [spec_l05One.j0]; exact ev_pos (by trivial) (Ev.now _)
  simp only [spec_l05One.f]
  refine ev_now (l00In_eq _ _ _) (ev_if (fun h0 => ev_now (l00In_eq _ _ _) (ev_if (fun h1 => ?_) (fun h1 => ?_))) (fun h0 => ?_))
  · have h0 := of_decide_eq_true h0
    have h1 := of_decide_eq_true h1
    rw [w64 (x := p.f0 + p.f1) (by omega) (by omega)]
    by_cases h2 : p.f0 + p.f1 < 1
    · rw [ofd1 h2, ofd (p := okP p) (fun g => by have := g.2.2.1; omega)]; exact jt
    · rw [ofd h2]
      refine ev_succ ?_; simp only [spec_l05One.j0]
      refine ev_neg (by simp) (ev_if (fun h3 => ?_) (fun h3 => ?_))
      · rw [w64 (x := p.f1 - p.f0) (by omega) (by omega)]
        refine ev_now (l00In_eq _ _ _) (ev_some ?_)
        congr 1
        apply decide_eq_decide.2; unfold okP; rw [if_pos h3]
        exact ⟨fun g => ⟨h0, h1, by omega, g⟩, fun g => g.2.2.2⟩
      · rw [w64 (x := p.f0 - p.f1) (by omega) (by omega)]
        refine ev_now (l00In_eq _ _ _) (ev_some ?_)
        congr 1
        apply decide_eq_decide.2; unfold okP; rw [if_neg h3]
        exact ⟨fun g => ⟨h0, h1, by omega, g⟩, fun g => g.2.2.2⟩
  · rw [ofd (p := okP p) (fun g => h1 (ofd1 g.2.1))]; exact jt
  · rw [ofd (p := okP p) (fun g => h0 (ofd1 g.1))]; exact jt
theorem validPurchase_ev (p : Pu) : Ev (fun k => impl_ValidPurchase.f k p.f0 p.f1 p.f2) (decide (okP p)) := by
  have jt : Ev (fun k => impl_ValidPurchase.j0 k true p.f0 p.f1 p.f2) false := by
    refine ev_succ ?_; simp only [impl_ValidPurchase.j0]; exact ev_pos (by trivial) (Ev.now _)
  simp only [impl_ValidPurchase.f]
  refine ev_now (within_eq _ _ _) (ev_if (fun h0 => ev_now (within_eq _ _ _) (ev_if (fun h1 => ?_) (fun h1 => ?_))) (fun h0 => ?_))
  · have h0 := of_decide_eq_true h0
    have h1 := of_decide_eq_true h1
    rw [w64 (x := p.f0 + p.f1) (by omega) (by omega)]
    by_cases h2 : p.f0 + p.f1 = 0
    · rw [beq_iff_eq.2 h2, ofd (p := okP p) (fun g => by have := g.2.2.1; omega)]; exact jt
    · rw [beq_eq_false_iff_ne.2 h2]
      refine ev_succ ?_; simp only [impl_ValidPurchase.j0]
      refine ev_neg (by simp) (ev_if (fun h3 => ?_) (fun h3 => ?_))
      · rw [w64 (x := p.f1 - p.f0) (by omega) (by omega)]
        refine ev_now (within_eq _ _ _) (ev_some ?_)
        apply decide_eq_decide.2; unfold okP; rw [if_pos h3]
        exact ⟨fun g => ⟨h0, h1, by omega, g⟩, fun g => g.2.2.2⟩
      · rw [w64 (x := p.f0 - p.f1) (by omega) (by omega)]
        refine ev_now (within_eq _ _ _) (ev_some ?_)
        apply decide_eq_decide.2; unfold okP; rw [if_neg h3]
        exact ⟨fun g => ⟨h0, h1, by omega, g⟩, fun g => g.2.2.2⟩
  · rw [ofd (p := okP p) (fun g => h1 (ofd1 g.2.1))]; exact jt
  · rw [ofd (p := okP p) (fun g => h0 (ofd1 g.1))]; exact jt

theorem tm0 (x : Int) : x.tmod 2 = 0 ↔ x % 2 = 0 :=
  ⟨fun h => Int.emod_eq_zero_of_dvd (Int.dvd_of_tmod_eq_zero h), fun h => Int.tmod_eq_zero_of_dvd (Int.dvd_of_emod_eq_zero h)⟩
def lastB (p : Pu) : Int := if p.f2 = true then 1 else 0
def blockB (p : Pu) (i : Int) : Int := if (p.f0 + p.f1 - 1 - i) % 2 = 0 then lastB p else 1 - lastB p
theorem blockB_01 (p : Pu) (i : Int) : blockB p i = 0 ∨ blockB p i = 1 := by
  unfold blockB lastB; repeat' split
  all_goals simp
theorem blockB_next (p : Pu) (i : Int) : 1 - blockB p i = blockB p (i + 1) := by
  unfold blockB
  by_cases h : (p.f0 + p.f1 - 1 - i) % 2 = 0
  · rw [if_pos h, if_neg (by omega)]
  · rw [if_neg h, if_pos (by omega)]; omega
def manyB (p : Pu) (b : Int) : Int := if b = 0 then p.f0 else p.f1
theorem first_ev (p : Pu) (hp : okP p) : spec_l07First.f p.f0 p.f1 p.f2 = some (blockB p 0, p.f0, p.f1, p.f2) := by
  obtain ⟨h0, h1, h2, _⟩ := hp
  unfold spec_l07First.f blockB lastB
  rw [w64 (by omega) (by omega), Int.tmod_eq_emod_of_nonneg (by omega)]
  by_cases h : p.f2 = true
  · rw [if_pos h, if_pos h]
    by_cases g : (p.f0 + p.f1) % 2 = 1
    · rw [if_pos g, if_pos (by omega)]
    · rw [if_neg g, if_neg (by omega)]
  · rw [if_neg h, if_neg h]
    by_cases g : (p.f0 + p.f1) % 2 = 1
    · rw [if_pos g, if_pos (by omega)]
    · rw [if_neg g, if_neg (by omega)]
theorem blockAt_eq (p : Pu) (hp : okP p) (i : Int) (h0 : 0 ≤ i) (h1 : i ≤ 4611686018427387904) : impl_blockAt.f p.f0 p.f1 p.f2 i = some (blockB p i) := by
  obtain ⟨g0, g1, g2, _⟩ := hp
  unfold impl_blockAt.f blockB lastB
  rw [w64 (x := p.f0 + p.f1) (by omega) (by omega), w64 (x := p.f0 + p.f1 - 1) (by omega) (by omega), w64 (x := p.f0 + p.f1 - 1 - i) (by omega) (by omega)]
  simp only [tm0]
  repeat' split
  all_goals rfl

theorem rdIStop {xs : List S53} {i : Nat} (h : i < xs.length) : rd_T53 xs (i : Int) = xs[i] := by
  unfold rd_T53; simp [List.getD_eq_getElem?_getD, h]

def wF (w : List S53) (x : S53) : Bool := w.any fun y => y.f0 == x.f0 && y.f1 == x.f1
theorem wF_drop {w : List S53} {i : Nat} (h : i < w.length) (x : S53) : wF (w.drop i) x = ((w[i].f0 == x.f0 && w[i].f1 == x.f1) || wF (w.drop (i + 1)) x) := by
  rw [List.drop_eq_getElem_cons h]; rfl
theorem idx_ev (w : List S53) (x : S53) (hn : w.length ≤ 1048576) : ∀ (d i : Nat), i + d = w.length → ∃ r : Int, Ev (fun k => impl_Stop_65.l0 k w (w.length : Int) (i : Int) x.f0 x.f1) r ∧ decide (r ≥ 0) = wF (w.drop i) x
  | 0, i, hd => by
    refine ⟨-1, ?_, ?_⟩
    · refine ev_succ ?_; simp only [impl_Stop_65.l0]; exact ev_neg (by omega) (Ev.now _)
    · rw [show w.drop i = [] by simp; omega]; rfl
  | d + 1, i, hd => by
    have hi : i < w.length := by omega
    obtain ⟨r, e1, e2⟩ := idx_ev w x hn d (i + 1) (by omega)
    by_cases h : (x.f0 == w[i].f0 && x.f1 == w[i].f1) = true
    · refine ⟨(i : Int), ?_, ?_⟩
      · refine ev_succ ?_; simp only [impl_Stop_65.l0]; rw [rdIStop hi]
        exact ev_pos (by omega) (ev_pos (by omega) (ev_pos (by omega) (ev_pos h (Ev.now _))))
      · rw [wF_drop hi, show (w[i].f0 == x.f0 && w[i].f1 == x.f1) = true by simp at h ⊢; omega]; simp
    · refine ⟨r, ?_, ?_⟩
      · refine ev_succ ?_; simp only [impl_Stop_65.l0]; rw [rdIStop hi, w64s (by omega)]
        exact ev_pos (by omega) (ev_pos (by omega) (ev_pos (by omega) (ev_neg h e1)))
      · rw [e2, wF_drop hi, show (w[i].f0 == x.f0 && w[i].f1 == x.f1) = false by simp at h ⊢; omega]; rfl
theorem contains_ev (w : List S53) (x : S53) (hn : w.length ≤ 1048576) : Ev (fun k => impl_Stop_57.f k w x.f0 x.f1) (wF w x) := by
  obtain ⟨r, e1, e2⟩ := idx_ev w x hn w.length 0 (by omega)
  simp only [impl_Stop_57.f, impl_Stop_65.f]
  exact Ev.bind e1 (ev_some e2)

def prW (w : List S53) (j : Nat) : List Int := if (rd_T53 w ((j + 1 : Nat) : Int)).f0 = 0 then [(rd_T53 w ((j + 1 : Nat) : Int)).f1, (rd_T53 w (j : Int)).f1] else [(rd_T53 w (j : Int)).f1, (rd_T53 w ((j + 1 : Nat) : Int)).f1]
def prL (w : List S53) (i : Nat) : List (List Int) := (List.range i).map (prW w)
theorem prL_succ (w : List S53) (i : Nat) : prL w i ++ [prW w i] = prL w (i + 1) := by simp [prL, List.range_succ]
theorem prL_len (w : List S53) (i : Nat) : (prL w i).length = i := by simp [prL]
theorem prL_two (w : List S53) (i : Nat) : ∀ x ∈ prL w i, x.length = 2 := by
  intro x hx
  simp only [prL, List.mem_map] at hx
  obtain ⟨j, _, rfl⟩ := hx
  unfold prW; split <;> rfl
theorem w_minus {i : Nat} (h : i < 1048577) : wrap64 (((i + 1 : Nat) : Int) - 1) = (i : Int) := by rw [w64 (by omega) (by omega)]; omega
theorem sParts_l0 (w : List S53) (hn : w.length ≤ 1048576) : ∀ (d i : Nat), i + 1 + d = max w.length (i + 1) →
    Ev (fun k => spec_l07Parts.l0 k w (prL w i) ((i + 1 : Nat) : Int)) (prL w (i + d))
  | 0, i, hd => by
    refine ev_succ ?_
    simp only [spec_l07Parts.l0]
    exact ev_neg (by omega) (Ev.now _)
  | d + 1, i, hd => by
    have ih := sParts_l0 w hn d (i + 1) (by omega)
    have hl := prL_len w i
    rw [← prL_succ, show i + 1 + d = i + (d + 1) by omega] at ih
    unfold prW at ih
    refine ev_succ ?_
    simp only [spec_l07Parts.l0]
    rw [w_minus (by omega), w64s (by omega)]
    refine ev_pos (by omega) (ev_pos (by omega) (ev_pos (by omega) (ev_pos (by omega) (ev_if (fun g => ev_pos (by omega) ?_) (fun g => ev_pos (by omega) ?_)))))
    · rw [if_pos g] at ih; exact ih
    · rw [if_neg g] at ih; exact ih
theorem iParts_l0 (w : List S53) (hn : w.length ≤ 1048576) (p : Pu) (hb : ∀ j (h : j < w.length), w[j].f0 = blockB p (j : Int)) : ∀ (d i : Nat), i + 1 + d = max w.length (i + 1) →
    Ev (fun k => impl_partsOfWay.l0 k w (prL w i) ((i + 1 : Nat) : Int)) (prL w (i + d))
  | 0, i, hd => by
    refine ev_succ ?_
    simp only [impl_partsOfWay.l0]
    exact ev_neg (by omega) (Ev.now _)
  | d + 1, i, hd => by
    have ih := iParts_l0 w hn p hb d (i + 1) (by omega)
    have hl := prL_len w i
    rw [← prL_succ, show i + 1 + d = i + (d + 1) by omega] at ih
    have h1 := hb i (by omega)
    have h2 := hb (i + 1) (by omega)
    have e1 : rd_T53 w (i : Int) = w[i] := rdIStop (by omega)
    have e2 : rd_T53 w ((i + 1 : Nat) : Int) = w[i + 1] := rdIStop (by omega)
    have bn := blockB_next p (i : Int)
    rw [show ((i : Int) + 1) = ((i + 1 : Nat) : Int) by omega] at bn
    unfold prW at ih
    rw [e1, e2] at ih
    have b01 := blockB_01 p (i : Int)
    refine ev_succ ?_
    simp only [impl_partsOfWay.l0]
    rw [w_minus (by omega), w64s (by omega), e1, e2, h1, h2, ← bn]
    rw [h2, ← bn] at ih
    refine ev_pos (by omega) (ev_pos (by omega) (ev_now rfl ?_))
    rcases b01 with q | q
    · rw [q] at ih ⊢
      rw [if_neg (by omega)] at ih
      exact ev_pos (by omega) (ev_pos (by omega) (ev_pos (by omega) (ev_pos (by simp) (ev_pos (by omega) (ev_pos (by omega) (ev_pos (by simp) (ev_pos (by omega) ih)))))))
    · rw [q] at ih ⊢
      rw [if_pos (by omega)] at ih
      exact ev_pos (by omega) (ev_pos (by omega) (ev_pos (by omega) (ev_pos (by simp) (ev_pos (by omega) (ev_pos (by omega) (ev_pos (by simp) (ev_pos (by omega) ih)))))))
theorem parts_both (w : List S53) (hn : w.length ≤ 1048576) (p : Pu) (hb : ∀ j (h : j < w.length), w[j].f0 = blockB p (j : Int)) :
    Ev (fun k => spec_l07Parts.f k w) (prL w (w.length - 1)) ∧ Ev (fun k => impl_partsOfWay.f k w) (prL w (w.length - 1)) := by
  have s := sParts_l0 w hn (w.length - 1) 0 (by omega)
  have i := iParts_l0 w hn p hb (w.length - 1) 0 (by omega)
  rw [Nat.zero_add (w.length - 1)] at s i
  simp only [spec_l07Parts.f, impl_partsOfWay.f]
  exact ⟨s, i⟩
def crP (t : Bool) (a b : List Int) : Prop := if t = true then wrap64 (wrap64 (rd a 0 - rd b 0) * wrap64 (rd a 1 - rd b 1)) > 0 else wrap64 (wrap64 (rd a 0 - rd b 0) * wrap64 (rd a 1 - rd b 1)) < 0
instance (t : Bool) (a b : List Int) : Decidable (crP t a b) := by unfold crP; infer_instance
theorem cross_eq (a b : List Int) (t : Bool) (ha : a.length = 2) (hb : b.length = 2) : spec_l07Cross.f a b t = some (decide (crP t a b)) := by
  unfold spec_l07Cross.f crP
  cases t
  · simp [ha, hb]
  · simp [ha, hb]
theorem rdL {ps : List (List Int)} {i : Nat} (h : i < ps.length) : rd_L2 ps (i : Int) = ps[i] := by
  unfold rd_L2; simp [List.getD_eq_getElem?_getD, h]

theorem both_l1 (t : Bool) (ps : List (List Int)) (hp : ∀ x ∈ ps, x.length = 2) (hn : ps.length ≤ 1048576) (i : Nat) (hi : i < ps.length) (D : Nat)
    (next : ∀ (c : Int) (l : List S74), (l.length : Int) = c → l.length + D * ps.length ≤ 2199023255552 → ∃ (n : Int) (L : List S74), Ev (fun k => spec_l07Count.l0 k t ps c (((i + 1 : Nat) : Int))) n ∧ Ev (fun k => impl_crossings.l0 k t l ps ps (ps.length : Int) (((i + 1 : Nat) : Int))) L ∧ (L.length : Int) = n) :
    ∀ (d j : Nat) (c : Int) (l : List S74), j + d = ps.length → (l.length : Int) = c → l.length + d + D * ps.length ≤ 2199023255552 →
    ∃ (n : Int) (L : List S74), Ev (fun k => spec_l07Count.l1 k t ps c (i : Int) (j : Int)) n ∧ Ev (fun k => impl_crossings.l1 k t l ps (i : Int) ps[i] (j : Int) ps (ps.length : Int) (i : Int)) L ∧ (L.length : Int) = n
  | 0, j, c, l, hd, hc, hb => by
    obtain ⟨n, L, e1, e2, e3⟩ := next c l hc (by omega)
    refine ⟨n, L, ev_succ ?_, ev_succ ?_, e3⟩
    · simp only [spec_l07Count.l1]
      rw [w64s (i := i) (by omega)]
      exact ev_neg (by omega) e1
    · simp only [impl_crossings.l1]
      rw [w64s (i := i) (by omega)]
      exact ev_neg (by omega) e2
  | d + 1, j, c, l, hd, hc, hb => by
    have hj : j < ps.length := by omega
    have li := hp _ (List.getElem_mem hi)
    have lj := hp _ (List.getElem_mem hj)
    have ec := cross_eq ps[i] ps[j] t li lj
    by_cases h : crP t ps[i] ps[j]
    · obtain ⟨n, L, e1, e2, e3⟩ := both_l1 t ps hp hn i hi D next d (j + 1) (c + 1) (l ++ [⟨(i : Int), (j : Int)⟩]) (by omega) (by simp; omega) (by simp; omega)
      refine ⟨n, L, ev_succ ?_, ev_succ ?_, e3⟩
      · simp only [spec_l07Count.l1]
        rw [w64s (i := j) (by omega), rdL hi, rdL hj, w64 (x := c + 1) (by omega) (by omega)]
        exact ev_pos (by omega) (ev_pos (by omega) (ev_pos (by omega) (ev_pos (by omega) (ev_now ec (ev_pos (decide_eq_true h) e1)))))
      · simp only [impl_crossings.l1]
        rw [w64s (i := j) (by omega), rdL hj]
        refine ev_pos (by omega) (ev_pos (by omega) (ev_pos (by omega) (ev_pos (by omega) (ev_pos (by omega) (ev_pos (by omega) ?_)))))
        unfold crP at h
        cases t with
        | true =>
          simp only [if_true] at h
          exact ev_neg (by omega) (ev_pos h (ev_pos (by trivial) (ev_pos (by omega) e2)))
        | false =>
          simp only [Bool.false_eq_true, if_false] at h
          exact ev_pos h (ev_neg (by simp) (ev_pos (by omega) e2))
    · obtain ⟨n, L, e1, e2, e3⟩ := both_l1 t ps hp hn i hi D next d (j + 1) c l (by omega) hc (by omega)
      refine ⟨n, L, ev_succ ?_, ev_succ ?_, e3⟩
      · simp only [spec_l07Count.l1]
        rw [w64s (i := j) (by omega), rdL hi, rdL hj]
        exact ev_pos (by omega) (ev_pos (by omega) (ev_pos (by omega) (ev_pos (by omega) (ev_now ec (ev_neg (by rw [decide_eq_true_eq]; exact h) e1)))))
      · simp only [impl_crossings.l1]
        rw [w64s (i := j) (by omega), rdL hj]
        refine ev_pos (by omega) (ev_pos (by omega) (ev_pos (by omega) (ev_pos (by omega) (ev_pos (by omega) (ev_pos (by omega) ?_)))))
        unfold crP at h
        cases t with
        | true =>
          simp only [if_true] at h
          exact ev_if (fun _ => ev_pos (by trivial) (ev_neg h e2)) (fun _ => ev_neg h e2)
        | false =>
          simp only [Bool.false_eq_true, if_false] at h
          exact ev_neg h (ev_if (fun _ => ev_neg (by simp) e2) (fun _ => e2))
theorem both_l0 (t : Bool) (ps : List (List Int)) (hp : ∀ x ∈ ps, x.length = 2) (hn : ps.length ≤ 1048576) : ∀ (D i : Nat) (c : Int) (l : List S74), i + D = ps.length → (l.length : Int) = c → l.length + D * ps.length ≤ 2199023255552 →
    ∃ (n : Int) (L : List S74), Ev (fun k => spec_l07Count.l0 k t ps c (i : Int)) n ∧ Ev (fun k => impl_crossings.l0 k t l ps ps (ps.length : Int) (i : Int)) L ∧ (L.length : Int) = n
  | 0, i, c, l, hd, hc, hb => by
    refine ⟨c, l, ev_succ ?_, ev_succ ?_, hc⟩
    · simp only [spec_l07Count.l0]; exact ev_neg (by omega) (Ev.now _)
    · simp only [impl_crossings.l0]; exact ev_neg (by omega) (Ev.now _)
  | D + 1, i, c, l, hd, hc, hb => by
    have hi : i < ps.length := by omega
    rw [Nat.add_mul, Nat.one_mul] at hb
    obtain ⟨n, L, e1, e2, e3⟩ := both_l1 t ps hp hn i hi D (fun c' l' h1 h2 => both_l0 t ps hp hn D (i + 1) c' l' (by omega) h1 h2) (ps.length - (i + 1)) (i + 1) c l (by omega) hc (by omega)
    refine ⟨n, L, ev_succ ?_, ev_succ ?_, e3⟩
    · simp only [spec_l07Count.l0]
      rw [w64s (i := i) (by omega)]
      exact ev_pos (by omega) e1
    · simp only [impl_crossings.l0]
      rw [w64s (i := i) (by omega), rdL hi]
      exact ev_pos (by omega) (ev_pos (by omega) (ev_pos (by omega) e2))

theorem cnt_both (p : Pu) (w : List S53) (hn : w.length ≤ 1048576) (hb : ∀ j (h : j < w.length), w[j].f0 = blockB p (j : Int)) : ∃ c : Int, Ev (fun k => cntI k w) c ∧ Ev (fun k => cntS k w) c := by
  obtain ⟨s, i⟩ := parts_both w hn p hb
  have hl := prL_len w (w.length - 1)
  have b : (prL w (w.length - 1)).length * (prL w (w.length - 1)).length ≤ 1048576 * 1048576 := Nat.mul_le_mul (by omega) (by omega)
  obtain ⟨n, L, f1, f2, f3⟩ := both_l0 false (prL w (w.length - 1)) (prL_two w _) (by omega) (prL w (w.length - 1)).length 0 0 [] (by omega) (by simp) (by simp; omega)
  refine ⟨n, ?_, ?_⟩
  · simp only [cntI, impl_crossings.f, Option.map_eq_bind]
    exact Ev.bind (Ev.bind i f2) (ev_some f3)
  · simp only [cntS, spec_l07Count.f]
    exact Ev.bind s f1
theorem leaf_both (p : Pu) (N : Nat) (last : Int) (w : List S53) (s : List S53 × Int) (hn : w.length ≤ 8) (hs : s.1.length ≤ 8) (hb : ∀ j (h : j < w.length), w[j].f0 = blockB p (j : Int)) :
    ∃ r : List S53 × Int, r.1.length ≤ 8 ∧ Ev (fun k => leafO (cntI k) N last w s) r ∧ Ev (fun k => leafS (cntS k) N last w s) r := by
  obtain ⟨c, e1, e2⟩ := cnt_both p w (by omega) hb
  by_cases h1 : (rd_T53 w ((N : Int) - 1)).f1 = last
  · by_cases h2 : s.2 < 0 ∨ c < s.2
    · refine ⟨(w, c), hn, ?_, ?_⟩
      · simp only [leafO]
        exact Ev.bind e1 (ev_some (by rw [if_pos ⟨h1, h2⟩]))
      · simp only [leafS]
        exact ev_pos h1 (Ev.bind e2 (ev_some (by rw [if_pos h2])))
    · refine ⟨s, hs, ?_, ?_⟩
      · simp only [leafO]
        exact Ev.bind e1 (ev_some (by rw [if_neg (fun g => h2 g.2)]))
      · simp only [leafS]
        exact ev_pos h1 (Ev.bind e2 (ev_some (by rw [if_neg h2])))
  · refine ⟨s, hs, ?_, ?_⟩
    · simp only [leafO]
      exact Ev.bind e1 (ev_some (by rw [if_neg (fun g => h1 g.1)]))
    · simp only [leafS]
      exact ev_neg h1 (Ev.now _)
theorem anyS_eq (w : List S53) (b k : Int) : ∀ (m j : Nat) (u : Bool), j + m = w.length → anyS w b k m (j : Int) u = (u || wF (w.drop j) ⟨b, k⟩)
  | 0, j, u, h => by
    rw [show w.drop j = [] by simp; omega]
    simp [anyS, wF]
  | m + 1, j, u, h => by
    have hj : j < w.length := by omega
    rw [anyS, show (j : Int) + 1 = ((j + 1 : Nat) : Int) by omega, anyS_eq w b k m (j + 1) _ (by omega), wF_drop hj, rdIStop hj, Bool.or_assoc]
theorem usedS_eq (w : List S53) (b k : Int) : usedS w b k = wF w ⟨b, k⟩ := by
  have h := anyS_eq w b k w.length 0 false (by omega)
  simpa [usedS] using h
theorem rds_both {σ : Type} (P : σ → Prop) (f g : Nat → Int → σ → Option σ) (h : ∀ i s, P s → ∃ r, P r ∧ Ev (fun k => f k i s) r ∧ Ev (fun k => g k i s) r) : ∀ (q : Nat) (i : Int) (s : σ), P s → ∃ r, P r ∧ Ev (fun k => rdsO (f k) q i s) r ∧ Ev (fun k => rdsO (g k) q i s) r
  | 0, i, s, hs => ⟨s, hs, ev_some rfl, ev_some rfl⟩
  | q + 1, i, s, hs => by
    obtain ⟨r, hr, e1, e2⟩ := h i s hs
    obtain ⟨r2, hr2, e3, e4⟩ := rds_both P f g h q (i + 1) r hr
    exact ⟨r2, hr2, Ev.bind e1 e3, Ev.bind e2 e4⟩
theorem bkI_eq (p : Pu) (j : Nat) : bkI p.f0 p.f1 p.f2 j = blockB p (j : Int) := by
  unfold bkI blockB lastB
  simp only [tm0]
  cases p.f2 <;> simp
theorem bkS_eq (p : Pu) (hp : okP p) (hw : okWay p.f0 p.f1) : ∀ n : Nat, bkS (firstS p.f0 p.f1 p.f2) n = blockB p (n : Int)
  | 0 => by
    have h1 := first_ev p hp
    rw [first_eq p.f2 hw] at h1
    simp only [Option.some.injEq, Prod.mk.injEq] at h1
    exact h1.1
  | n + 1 => by
    show 1 - bkS _ n = _
    rw [bkS_eq p hp hw n, blockB_next]
    rw [show (n : Int) + 1 = ((n + 1 : Nat) : Int) by omega]
theorem wy_both (p : Pu) (hp : okP p) (hw : okWay p.f0 p.f1) (N : Nat) (hN : N ≤ 8) (last : Int) : ∀ (m : Nat) (way : List S53) (s : List S53 × Int), way.length + m = N → (∀ j (h : j < way.length), way[j].f0 = blockB p (j : Int)) → s.1.length ≤ 8 →
    ∃ r : List S53 × Int, r.1.length ≤ 8 ∧ Ev (fun k => wyO (leafO (cntI k) N last) (hasI k) (bkI p.f0 p.f1 p.f2) (manyI p.f0 p.f1) m way s) r ∧ Ev (fun k => wyO (leafS (cntS k) N last) hasS (bkS (firstS p.f0 p.f1 p.f2)) (manyI p.f0 p.f1) m way s) r
  | 0, way, s, hl, hg, hs => leaf_both p N last way s (by omega) hs hg
  | m + 1, way, s, hl, hg, hs => by
    simp only [wyO]
    rw [bkI_eq, bkS_eq p hp hw]
    refine rds_both (fun s : List S53 × Int => s.1.length ≤ 8) _ _ (fun i s hs => ?_) _ 0 s hs
    have hu := usedS_eq way (blockB p (way.length : Int)) i
    have hc := contains_ev way ⟨blockB p (way.length : Int), i⟩ (by omega)
    cases hb : wF way ⟨blockB p (way.length : Int), i⟩ with
    | true =>
      rw [hb] at hc hu
      refine ⟨s, hs, ?_, ?_⟩
      · simp only [hasI]; exact Ev.bind hc (ev_pos rfl (Ev.now _))
      · simp only [hasS, hu]; exact ev_now rfl (ev_pos rfl (Ev.now _))
    | false =>
      rw [hb] at hc hu
      obtain ⟨r, hr, e1, e2⟩ := wy_both p hp hw N hN last m (way ++ [⟨blockB p (way.length : Int), i⟩]) s (by simp; omega) (fun j hj => by
        simp only [List.length_append, List.length_cons, List.length_nil, Nat.zero_add] at hj
        by_cases g : j < way.length
        · rw [List.getElem_append_left g]; exact hg j g
        · have e : j = way.length := by omega
          subst e
          simp) hs
      refine ⟨r, hr, ?_, ?_⟩
      · simp only [hasI]; exact Ev.bind hc (ev_neg (by simp) e1)
      · simp only [hasS, hu]; exact ev_now rfl (ev_neg (by simp) e2)
theorem best_both (p : Pu) (last : Int) : ∃ (l : List S53) (n c : Int), l.length ≤ 8 ∧ Ev (fun k => impl_bestWay.f k p.f0 p.f1 p.f2 last) (l, (if c = 0 then n else 0), c) ∧ Ev (fun k => spec_l07Best.f k p.f0 p.f1 p.f2 last) (l, n, c) ∧ (c ≠ 0 → l = []) := by
  have v := validPurchase_ev p
  have o : Ev (fun k => spec_l05One_at.f k p.f0 p.f1 p.f2) (decide (okP p)) := by
    simp only [spec_l05One_at.f]
    exact Ev.bind (l05One_ev p) (ev_some rfl)
  by_cases hp : okP p
  · rw [decide_eq_true hp] at v o
    have hw : okWay p.f0 p.f1 := by unfold okWay; unfold okP at hp; omega
    have he : endWay p.f0 p.f1 p.f2 = manyI p.f0 p.f1 (endS p.f2) := by
      unfold endWay
      rw [bkI_eq]
      unfold blockB lastB endS
      rw [if_pos (by unfold okWay at hw; omega)]
    by_cases hr : 0 ≤ last ∧ last ≤ manyI p.f0 p.f1 (endS p.f2) - 1
    · obtain ⟨r, hr8, e1, e2⟩ := wy_both p hp hw (p.f0 + p.f1).toNat (by unfold okP at hp; omega) last (p.f0 + p.f1).toNat [] ([], -1) (by simp) (fun j h => by simp at h) (by simp)
      refine ⟨r.1, r.2, 0, hr8, ?_, ?_, fun h => absurd rfl h⟩
      · simp only [impl_bestWay.f]
        refine Ev.bind v (ev_pos rfl (ev_pos hw ?_))
        rw [he]
        exact ev_pos hr (Ev.bind e1 (ev_some (by simp)))
      · simp only [spec_l07Best.f]
        exact Ev.bind o (ev_pos rfl (ev_pos hw (ev_pos hr (Ev.bind e2 (Ev.now _)))))
    · refine ⟨[], -1, 2, by simp, ?_, ?_, fun _ => rfl⟩
      · simp only [impl_bestWay.f]
        refine Ev.bind v (ev_pos rfl (ev_pos hw ?_))
        rw [he]
        exact ev_neg hr (ev_some (by simp))
      · simp only [spec_l07Best.f]
        exact Ev.bind o (ev_pos rfl (ev_pos hw (ev_neg hr (Ev.now _))))
  · rw [decide_eq_false hp] at v o
    refine ⟨[], -1, 1, by simp, ?_, ?_, fun _ => rfl⟩
    · simp only [impl_bestWay.f]
      exact Ev.bind v (ev_neg (by simp) (ev_some (by simp)))
    · simp only [spec_l07Best.f]
      exact Ev.bind o (ev_neg (by simp) (Ev.now _))

theorem FnExactBestWay : laws_FnExactBestWay.Pure := by
  intro a0 a1 a2 last _ _ _
  refine Ev.rounds ?_
  simp only [laws_FnExactBestWay.f]
  obtain ⟨v, n, c, hv8, i1, s1, hz⟩ := best_both ⟨a0, a1, a2⟩ last
  have hv : v.length ≤ 1048576 := by omega
  have e1 : Ev (fun k => spec_BestWay.f k a0 a1 a2 last) (v, c) := by
    simp only [spec_BestWay.f]
    refine Ev.bind s1 (ev_if (fun h => ev_some ?_) (fun h => ev_some ?_))
    · have h : c = 0 := h
      rw [h]
    · have h : ¬ c = 0 := h
      rw [hz h]
  have e2 : Ev (fun k => impl_BestWay.f k a0 a1 a2 last) (v, c) := by
    simp only [impl_BestWay.f]
    exact Ev.bind i1 (Ev.now _)
  have ev := eqStopS_self v hv
  have bf : (c != c) = false := by simp
  have mv := markStopS_ev v 1 (by omega) (by omega)
  have hd := heldStopS_ev 1 (by omega) v.length (by omega)
  have j1 : Ev (fun k => laws_FnExactBestWay.j1 k (mksStop 1 v.length) (1 + 2 * (v.length : Int)) false) true := by
    refine ev_succ ?_; simp only [laws_FnExactBestWay.j1]
    exact ev_neg (by simp) (Ev.bind hd (ev_neg (by omega) (ev_pos rfl (Ev.now _))))
  have j0 : Ev (fun k => laws_FnExactBestWay.j0 k last v c v false a0 a1 a2) true := by
    refine ev_succ ?_; simp only [laws_FnExactBestWay.j0]
    refine ev_neg (by simp) (Ev.bind mv (Ev.bind hd (ev_neg (by omega) (ev_pos rfl (ev_now rfl (Ev.bind e2 (Ev.bind ev (ev_pos (by trivial) ?_))))))))
    rw [bf]; exact j1
  refine ev_now rfl (Ev.bind e1 (ev_now rfl (Ev.bind e2 (Ev.bind ev (ev_pos (by trivial) ?_)))))
  rw [bf]
  exact j0

end Go.Proofs.Ytifdihbndlmgpaa.PureFnExactBestWay
namespace Go.Proofs.Ytifdihbndlmgpaa.Pure
open Go.Proofs.Ytifdihbndlmgpaa.HBest
theorem FnExactBestWay : laws_FnExactBestWay.Pure := PureFnExactBestWay.FnExactBestWay
end Go.Proofs.Ytifdihbndlmgpaa.Pure
