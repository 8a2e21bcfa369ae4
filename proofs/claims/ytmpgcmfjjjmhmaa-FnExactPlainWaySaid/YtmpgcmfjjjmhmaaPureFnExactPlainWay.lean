/- The program's function answers as the statement says. Conditions: none beyond the given statement's own. -/
import Derived.Test.YtmpgcmfjjjmhmaaHFnExactPlainWayx3
import Derived.Test.YtmpgcmfjjjmhmaaLib
set_option linter.unusedVariables false
set_option linter.unusedSimpArgs false
namespace Go.Proofs.Ytmpgcmfjjjmhmaa.PureFnExactPlainWay
open Go.RowKit Go.Proofs.Ytmpgcmfjjjmhmaa.HFnExactPlainWay Go.Proofs.YtmpgcmfjjjmhmaaW.PrintWords Go.Proofs.YtmpgcmfjjjmhmaaW.PrintLast Go.Proofs.YtmpgcmfjjjmhmaaW.PrintMore Go.Proofs.Ytmpgcmfjjjmhmaa.Lib
theorem rdEStop {xs : List S56} {i : Nat} (h : i < xs.length) : rd_T56 xs (i : Int) = xs[i] := by
  unfold rd_T56; simp [List.getD_eq_getElem?_getD, h]
theorem eqStop_self (x : S56) : laws_eqStop.f x.f0 x.f1 x.f0 x.f1 = some true := by
  simp [laws_eqStop.f]
theorem eqStopS_l0 (x0 : List S56) (hn : x0.length ≤ 1048576) : ∀ (d i : Nat), i + d = x0.length → Ev (fun k => laws_eqStopS.l0 k x0 x0 (i : Int)) true
  | 0, i, hd => by
    refine ev_succ ?_
    simp only [laws_eqStopS.l0]
    exact ev_neg (by omega) (Ev.now _)
  | d + 1, i, hd => by
    refine ev_succ ?_
    simp only [laws_eqStopS.l0]
    refine ev_pos (by omega) (ev_pos (by omega) (ev_pos (by omega) (ev_now (eqStop_self _) (ev_pos (by trivial) ?_))))
    rw [w64s (by omega)]
    exact eqStopS_l0 x0 hn d (i + 1) (by omega)
theorem eqStopS_self (l : List S56) (hn : l.length ≤ 1048576) : Ev (fun k => laws_eqStopS.f k l l) true := by
  simp only [laws_eqStopS.f]
  exact ev_pos (by trivial) (eqStopS_l0 l hn l.length 0 (by omega))

theorem rdKStop {xs : List S56} {i : Nat} (h : i < xs.length) : rd_T56 xs (i : Int) = xs[i] := by
  unfold rd_T56; simp [List.getD_eq_getElem?_getD, h]
def mksStop (s : Int) (n : Nat) : List S56 := (List.range n).map fun (j : Nat) => ⟨s + 2 * (j : Int), s + 2 * (j : Int) + 1⟩
theorem mksStop_length (s : Int) (n : Nat) : (mksStop s n).length = n := by simp [mksStop]
theorem mksStop_get (s : Int) (n i : Nat) (h : i < (mksStop s n).length) : (mksStop s n)[i] = ⟨s + 2 * (i : Int), s + 2 * (i : Int) + 1⟩ := by simp [mksStop]
theorem markStopS_l0 (s : Int) (h0 : 0 ≤ s) (n : Nat) (hn : s + 2 * n < 4611686018427387904) : ∀ (d i : Nat) (x0 : List S56), i + d = n → x0.length = n → x0.take i = (mksStop s n).take i →
    Ev (fun k => laws_markStopS.l0 k x0 (s + 2 * i) (i : Int)) (s + 2 * n, mksStop s n)
  | 0, i, x0, hd, hl, ht => by
    refine ev_succ ?_
    simp only [laws_markStopS.l0]
    refine ev_neg (by omega) (ev_some ?_)
    rw [List.take_of_length_le (by omega), List.take_of_length_le (by rw [mksStop_length]; omega)] at ht
    rw [ht]; congr 1; omega
  | d + 1, i, x0, hd, hl, ht => by
    refine ev_succ ?_
    simp only [laws_markStopS.l0]
    refine ev_pos (by omega) (ev_pos (by omega) (ev_now rfl ?_))
    rw [w64s (by omega), w64 (x := s + 2 * (i : Int) + 1) (by omega) (by omega), w64 (x := s + 2 * (i : Int) + 1 + 1) (by omega) (by omega), Int.toNat_natCast, rdKStop (xs := x0.set i _) (by simp; omega)]
    have e : s + 2 * (i : Int) + 1 + 1 = s + 2 * ((i + 1 : Nat) : Int) := by omega
    rw [e, List.set_set, List.getElem_set_self]
    refine markStopS_l0 s h0 n hn d (i + 1) _ (by omega) (by simpa using hl) (take_set _ _ _ _ (by omega) (by rw [mksStop_length]; omega) ht ?_)
    rw [mksStop_get]
theorem markStopS_ev (l : List S56) (s : Int) (h0 : 0 ≤ s) (hn : s + 2 * l.length < 4611686018427387904) :
    Ev (fun k => laws_markStopS.f k l s) (s + 2 * l.length, mksStop s l.length) := by
  simp only [laws_markStopS.f]
  have := markStopS_l0 s h0 l.length hn l.length 0 l (by omega) rfl (by simp)
  simpa using this
theorem heldStopS_l0 (s : Int) (h0 : 0 ≤ s) (n : Nat) (hn : s + 2 * n < 4611686018427387904) : ∀ (d i : Nat), i + d = n →
    Ev (fun k => laws_heldStopS.l0 k (mksStop s n) (s + 2 * i) (i : Int)) (s + 2 * n)
  | 0, i, hd => by
    refine ev_succ ?_
    simp only [laws_heldStopS.l0]
    refine ev_neg (by rw [mksStop_length]; omega) (ev_some ?_)
    omega
  | d + 1, i, hd => by
    refine ev_succ ?_
    simp only [laws_heldStopS.l0]
    rw [rdKStop (by rw [mksStop_length]; omega), mksStop_get, w64s (by omega), w64 (x := s + 2 * (i : Int) + 1) (by omega) (by omega), w64 (x := s + 2 * (i : Int) + 1 + 1) (by omega) (by omega)]
    refine ev_pos (by rw [mksStop_length]; omega) (ev_pos (by omega) (ev_pos rfl (ev_pos rfl ?_)))
    have e : s + 2 * (i : Int) + 1 + 1 = s + 2 * ((i + 1 : Nat) : Int) := by omega
    rw [e]
    exact heldStopS_l0 s h0 n hn d (i + 1) (by omega)
theorem heldStopS_ev (s : Int) (h0 : 0 ≤ s) (n : Nat) (hn : s + 2 * n < 4611686018427387904) :
    Ev (fun k => laws_heldStopS.f k (mksStop s n) s) (s + 2 * n) := by
  simp only [laws_heldStopS.f]
  have := heldStopS_l0 s h0 n hn n 0 (by omega)
  simpa using this

theorem l00In_eq (a b c : Int) : spec_l00In.f a b c = some (decide (b ≤ a ∧ a ≤ c)) := by
  unfold spec_l00In.f; by_cases h : a ≥ b <;> simp [h]

theorem within_eq (a b c : Int) : impl_within.f a b c = some (decide (b ≤ a ∧ a ≤ c)) := by
  unfold impl_within.f; by_cases h : a ≥ b <;> simp [h]

structure Pu where
  f0 : Int
  f1 : Int
  f2 : Bool
def okP (p : Pu) : Prop := (0 ≤ p.f0 ∧ p.f0 ≤ 4) ∧ (0 ≤ p.f1 ∧ p.f1 ≤ 4) ∧ 1 ≤ p.f0 + p.f1 ∧ (if p.f2 = true then 0 ≤ p.f1 - p.f0 ∧ p.f1 - p.f0 ≤ 1 else 0 ≤ p.f0 - p.f1 ∧ p.f0 - p.f1 ≤ 1)
instance (p : Pu) : Decidable (okP p) := inferInstanceAs (Decidable ((0 ≤ p.f0 ∧ p.f0 ≤ 4) ∧ (0 ≤ p.f1 ∧ p.f1 ≤ 4) ∧ 1 ≤ p.f0 + p.f1 ∧ (if p.f2 = true then 0 ≤ p.f1 - p.f0 ∧ p.f1 - p.f0 ≤ 1 else 0 ≤ p.f0 - p.f1 ∧ p.f0 - p.f1 ≤ 1)))
theorem l05One_ev (p : Pu) : Ev (fun k => spec_l05One.f k p.f0 p.f1 p.f2) (decide (okP p), p.f0, p.f1, p.f2) := by
  have jt : Ev (fun k => spec_l05One.j0 k true p.f0 p.f1 p.f2) (false, p.f0, p.f1, p.f2) := by
    refine ev_succ ?_; simp only [spec_l05One.j0]; exact ev_pos (by trivial) (Ev.now _)
  simp only [spec_l05One.f]
  refine ev_now (l00In_eq _ _ _) (ev_if (fun h0 => ev_now (l00In_eq _ _ _) (ev_if (fun h1 => ?_) (fun h1 => ?_))) (fun h0 => ?_))
  · have h0 := of_decide_eq_true h0
    have h1 := of_decide_eq_true h1
    rw [w64 (x := p.f0 + p.f1) (by omega) (by omega)]
    by_cases h2 : p.f0 + p.f1 < 1
    · rw [ofd1 h2, ofd (p := okP p) (fun g => by have := g.2.2.1; omega)]; exact jt
    · rw [ofd h2]
      refine ev_succ ?_; simp only [spec_l05One.j0]
      refine ev_neg (by simp) (ev_if (fun h3 => ?_) (fun h3 => ?_))
      · rw [w64 (x := p.f1 - p.f0) (by omega) (by omega)]
        refine ev_now (l00In_eq _ _ _) (ev_some ?_)
        congr 1
        apply decide_eq_decide.2; unfold okP; rw [if_pos h3]
        exact ⟨fun g => ⟨h0, h1, by omega, g⟩, fun g => g.2.2.2⟩
      · rw [w64 (x := p.f0 - p.f1) (by omega) (by omega)]
        refine ev_now (l00In_eq _ _ _) (ev_some ?_)
        congr 1
        apply decide_eq_decide.2; unfold okP; rw [if_neg h3]
        exact ⟨fun g => ⟨h0, h1, by omega, g⟩, fun g => g.2.2.2⟩
  · rw [ofd (p := okP p) (fun g => h1 (ofd1 g.2.1))]; exact jt
  · rw [ofd (p := okP p) (fun g => h0 (ofd1 g.1))]; exact jt
theorem validPurchase_ev (p : Pu) : Ev (fun k => impl_ValidPurchase.f k p.f0 p.f1 p.f2) (decide (okP p)) := by
  have jt : Ev (fun k => impl_ValidPurchase.j0 k true p.f0 p.f1 p.f2) false := by
    refine ev_succ ?_; simp only [impl_ValidPurchase.j0]; exact ev_pos (by trivial) (Ev.now _)
  simp only [impl_ValidPurchase.f]
  refine ev_now (within_eq _ _ _) (ev_if (fun h0 => ev_now (within_eq _ _ _) (ev_if (fun h1 => ?_) (fun h1 => ?_))) (fun h0 => ?_))
  · have h0 := of_decide_eq_true h0
    have h1 := of_decide_eq_true h1
    rw [w64 (x := p.f0 + p.f1) (by omega) (by omega)]
    by_cases h2 : p.f0 + p.f1 = 0
    · rw [beq_iff_eq.2 h2, ofd (p := okP p) (fun g => by have := g.2.2.1; omega)]; exact jt
    · rw [beq_eq_false_iff_ne.2 h2]
      refine ev_succ ?_; simp only [impl_ValidPurchase.j0]
      refine ev_neg (by simp) (ev_if (fun h3 => ?_) (fun h3 => ?_))
      · rw [w64 (x := p.f1 - p.f0) (by omega) (by omega)]
        refine ev_now (within_eq _ _ _) (ev_some ?_)
        apply decide_eq_decide.2; unfold okP; rw [if_pos h3]
        exact ⟨fun g => ⟨h0, h1, by omega, g⟩, fun g => g.2.2.2⟩
      · rw [w64 (x := p.f0 - p.f1) (by omega) (by omega)]
        refine ev_now (within_eq _ _ _) (ev_some ?_)
        apply decide_eq_decide.2; unfold okP; rw [if_neg h3]
        exact ⟨fun g => ⟨h0, h1, by omega, g⟩, fun g => g.2.2.2⟩
  · rw [ofd (p := okP p) (fun g => h1 (ofd1 g.2.1))]; exact jt
  · rw [ofd (p := okP p) (fun g => h0 (ofd1 g.1))]; exact jt

theorem tm0 (x : Int) : x.tmod 2 = 0 ↔ x % 2 = 0 :=
  ⟨fun h => Int.emod_eq_zero_of_dvd (Int.dvd_of_tmod_eq_zero h), fun h => Int.tmod_eq_zero_of_dvd (Int.dvd_of_emod_eq_zero h)⟩
def lastB (p : Pu) : Int := if p.f2 = true then 1 else 0
def blockB (p : Pu) (i : Int) : Int := if (p.f0 + p.f1 - 1 - i) % 2 = 0 then lastB p else 1 - lastB p
theorem blockB_01 (p : Pu) (i : Int) : blockB p i = 0 ∨ blockB p i = 1 := by
  unfold blockB lastB; repeat' split
  all_goals simp
theorem blockB_next (p : Pu) (i : Int) : 1 - blockB p i = blockB p (i + 1) := by
  unfold blockB
  by_cases h : (p.f0 + p.f1 - 1 - i) % 2 = 0
  · rw [if_pos h, if_neg (by omega)]
  · rw [if_neg h, if_pos (by omega)]; omega
def manyB (p : Pu) (b : Int) : Int := if b = 0 then p.f0 else p.f1
theorem first_ev (p : Pu) (hp : okP p) : spec_l07First.f p.f0 p.f1 p.f2 = some (blockB p 0, p.f0, p.f1, p.f2) := by
  obtain ⟨h0, h1, h2, _⟩ := hp
  unfold spec_l07First.f blockB lastB
  rw [w64 (by omega) (by omega), Int.tmod_eq_emod_of_nonneg (by omega)]
  by_cases h : p.f2 = true
  · rw [if_pos h, if_pos h]
    by_cases g : (p.f0 + p.f1) % 2 = 1
    · rw [if_pos g, if_pos (by omega)]
    · rw [if_neg g, if_neg (by omega)]
  · rw [if_neg h, if_neg h]
    by_cases g : (p.f0 + p.f1) % 2 = 1
    · rw [if_pos g, if_pos (by omega)]
    · rw [if_neg g, if_neg (by omega)]
theorem blockAt_eq (p : Pu) (hp : okP p) (i : Int) (h0 : 0 ≤ i) (h1 : i ≤ 4611686018427387904) : impl_blockAt.f p.f0 p.f1 p.f2 i = some (blockB p i) := by
  obtain ⟨g0, g1, g2, _⟩ := hp
  unfold impl_blockAt.f blockB lastB
  rw [w64 (x := p.f0 + p.f1) (by omega) (by omega), w64 (x := p.f0 + p.f1 - 1) (by omega) (by omega), w64 (x := p.f0 + p.f1 - 1 - i) (by omega) (by omega)]
  simp only [tm0]
  repeat' split
  all_goals rfl

theorem plain_both (p : Pu) (hp : okP p) : ∀ (d i : Nat) (out : List S56) (n0 n1 : Int), ((i + d : Nat) : Int) = p.f0 + p.f1 → out.length = i → (0 ≤ n0 ∧ n0 ≤ i) → (0 ≤ n1 ∧ n1 ≤ i) →
    ∃ r : List S56 × Int, r.1.length ≤ 8 ∧ Ev (fun k => spec_PlainWay.l0 k out [n0, n1] (blockB p (i : Int)) p.f0 p.f1 p.f2) r ∧ Ev (fun k => impl_PlainWay.l0 k out (i : Int) p.f0 p.f1 p.f2 n0 n1) r
  | 0, i, out, n0, n1, hd, ho, h0, h1 => by
    obtain ⟨g0, g1, g2, _⟩ := hp
    refine ⟨(out, 0), by dsimp only; omega, ev_succ ?_, ev_succ ?_⟩
    · simp only [spec_PlainWay.l0]
      rw [w64 (x := p.f0 + p.f1) (by omega) (by omega)]
      exact ev_neg (by omega) (Ev.now _)
    · simp only [impl_PlainWay.l0]
      rw [w64 (x := p.f0 + p.f1) (by omega) (by omega)]
      exact ev_neg (by omega) (Ev.now _)
  | d + 1, i, out, n0, n1, hd, ho, h0, h1 => by
    have ba := blockAt_eq p hp (i : Int) (by omega) (by obtain ⟨g0, g1, g2, _⟩ := hp; omega)
    have b01 := blockB_01 p (i : Int)
    have bn := blockB_next p (i : Int)
    rw [show ((i : Int) + 1) = ((i + 1 : Nat) : Int) by omega] at bn
    have hp' := hp
    obtain ⟨g0, g1, g2, _⟩ := hp
    rcases b01 with q | q
    · obtain ⟨r, hr, e1, e2⟩ := plain_both p hp' d (i + 1) (out ++ [⟨0, n0⟩]) (n0 + 1) n1 (by omega) (by simp; omega) (by omega) (by omega)
      rw [← bn] at e1
      rw [q] at ba e1 ⊢
      refine ⟨r, hr, ev_succ ?_, ev_succ ?_⟩
      · simp only [spec_PlainWay.l0]
        rw [w64 (x := p.f0 + p.f1) (by omega) (by omega), show rd [n0, n1] 0 = n0 from rfl, w64 (x := n0 + 1) (by omega) (by omega), w64 (x := 1 - 0) (by omega) (by omega)]
        exact ev_pos (by omega) (ev_pos (by omega) (ev_pos (by simp) (ev_pos (by omega) e1)))
      · simp only [impl_PlainWay.l0]
        rw [w64 (x := p.f0 + p.f1) (by omega) (by omega), w64s (by omega), w64 (x := n0 + 1) (by omega) (by omega)]
        exact ev_pos (by omega) (ev_now ba (ev_pos (by omega) (ev_pos (by omega) (ev_pos rfl (ev_pos (by omega) e2)))))
    · obtain ⟨r, hr, e1, e2⟩ := plain_both p hp' d (i + 1) (out ++ [⟨1, n1⟩]) n0 (n1 + 1) (by omega) (by simp; omega) (by omega) (by omega)
      rw [← bn] at e1
      rw [q] at ba e1 ⊢
      refine ⟨r, hr, ev_succ ?_, ev_succ ?_⟩
      · simp only [spec_PlainWay.l0]
        rw [w64 (x := p.f0 + p.f1) (by omega) (by omega), show rd [n0, n1] 1 = n1 from rfl, w64 (x := n1 + 1) (by omega) (by omega), w64 (x := 1 - 1) (by omega) (by omega)]
        exact ev_pos (by omega) (ev_pos (by omega) (ev_pos (by simp) (ev_pos (by omega) e1)))
      · simp only [impl_PlainWay.l0]
        rw [w64 (x := p.f0 + p.f1) (by omega) (by omega), w64s (by omega), w64 (x := n1 + 1) (by omega) (by omega)]
        exact ev_pos (by omega) (ev_now ba (ev_pos (by omega) (ev_pos (by omega) (ev_neg (by omega) (ev_pos (by omega) e2)))))
theorem key (p : Pu) : ∃ r : List S56 × Int, r.1.length ≤ 8 ∧ Ev (fun k => spec_PlainWay.f k p.f0 p.f1 p.f2) r ∧ Ev (fun k => impl_PlainWay.f k p.f0 p.f1 p.f2) r := by
  have e1 := l05One_ev p
  have e2 := validPurchase_ev p
  by_cases hp : okP p
  · rw [ofd1 hp] at e1 e2
    have hp' := hp
    obtain ⟨g0, g1, g2, _⟩ := hp
    obtain ⟨r, hr, f1, f2⟩ := plain_both p hp' (p.f0 + p.f1).toNat 0 [] 0 0 (by omega) rfl (by omega) (by omega)
    refine ⟨r, hr, ?_, ?_⟩
    · simp only [spec_PlainWay.f]; exact Ev.bind e1 (ev_pos (by trivial) (ev_now (first_ev p hp') f1))
    · simp only [impl_PlainWay.f]; exact Ev.bind e2 (ev_pos (by trivial) f2)
  · rw [ofd hp] at e1 e2
    refine ⟨([], 1), by simp, ?_, ?_⟩
    · simp only [spec_PlainWay.f]; exact Ev.bind e1 (ev_neg (by simp) (Ev.now _))
    · simp only [impl_PlainWay.f]; exact Ev.bind e2 (ev_neg (by simp) (Ev.now _))
theorem FnExactPlainWay : laws_FnExactPlainWay.Pure := by
  intro a0 a1 a2 _ _
  refine Ev.rounds ?_
  simp only [laws_FnExactPlainWay.f]
  obtain ⟨⟨v, c⟩, hv, e1, e2⟩ := key ⟨a0, a1, a2⟩
  have hv : v.length ≤ 8 := hv
  have ev := eqStopS_self v (by omega)
  have bf : (c != c) = false := by simp
  have mv := markStopS_ev v 1 (by omega) (by omega)
  have hd := heldStopS_ev 1 (by omega) v.length (by omega)
  refine ev_now rfl (Ev.bind e1 (ev_now rfl (Ev.bind e2 (Ev.bind ev (ev_pos (by trivial) ?_)))))
  rw [bf]
  refine ev_succ ?_; simp only [laws_FnExactPlainWay.j0]
  refine ev_neg (by simp) (Ev.bind mv (Ev.bind hd (ev_neg (by omega) (ev_pos rfl (ev_now rfl (Ev.bind e2 (Ev.bind ev (ev_pos (by trivial) ?_))))))))
  rw [bf]
  refine ev_succ ?_; simp only [laws_FnExactPlainWay.j1]
  exact ev_neg (by simp) (Ev.bind hd (ev_neg (by omega) (ev_pos rfl (Ev.now _))))

end Go.Proofs.Ytmpgcmfjjjmhmaa.PureFnExactPlainWay
namespace Go.Proofs.Ytmpgcmfjjjmhmaa.Pure
open Go.Proofs.Ytmpgcmfjjjmhmaa.HFnExactPlainWay
theorem FnExactPlainWay : laws_FnExactPlainWay.Pure := PureFnExactPlainWay.FnExactPlainWay
end Go.Proofs.Ytmpgcmfjjjmhmaa.Pure
