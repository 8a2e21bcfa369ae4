/- The program's function answers as the statement says. Conditions: none beyond the given statement's own. -/
import Derived.Test.YtmpgcmfjjjmhmaaDoorHFnExactWayTextx8
import Derived.Test.YtmpgcmfjjjmhmaaDoorLib
set_option linter.unusedVariables false
set_option linter.unusedSimpArgs false
namespace Go.Proofs.YtmpgcmfjjjmhmaaDoor.PureFnExactWayText
open Go.RowKit Go.Proofs.YtmpgcmfjjjmhmaaDoor.HFnExactWayText Go.Proofs.YtmpgcmfjjjmhmaaDoorW.PrintWords Go.Proofs.YtmpgcmfjjjmhmaaDoorW.PrintLast Go.Proofs.YtmpgcmfjjjmhmaaDoorW.PrintMore Go.Proofs.YtmpgcmfjjjmhmaaDoor.Lib
theorem szStopS_eq (l : List S43) (n : Int) (hl : l.length ≤ maxLen) (h0 : 0 ≤ n) (h1 : n ≤ 1048576) : laws_szStopS.f l n = some (if n - (l.length : Int) < 0 then -1 else n - (l.length : Int)) := by
  unfold maxLen at hl
  unfold laws_szStopS.f
  rw [w64 (x := n - (l.length : Int)) (by omega) (by omega)]
  split <;> rfl

def convStop (x : S43) : S41 := ⟨x.f0, x.f1⟩
theorem rdLStop {xs : List S43} {i : Nat} (h : i < xs.length) : rd_T43 xs (i : Int) = xs[i] := by
  unfold rd_T43; simp [List.getD_eq_getElem?_getD, h]
theorem rdIStop {xs : List S41} {i : Nat} (h : i < xs.length) : rd_T41 xs (i : Int) = xs[i] := by
  unfold rd_T41; simp [List.getD_eq_getElem?_getD, h]
theorem toStopS_l0 (x0 : List S43) (hn : x0.length ≤ 1048576) : ∀ (d i : Nat) (x3 : List S41), i + d = x0.length → x3.length = x0.length → x3.take i = (x0.map convStop).take i →
    Ev (fun k => laws_toStopS.l0 k x0 x3 (i : Int)) (x0.map convStop)
  | 0, i, x3, hd, hl, ht => by
    refine ev_succ ?_
    simp only [laws_toStopS.l0]
    refine ev_neg (by omega) (ev_some ?_)
    rw [List.take_of_length_le (by omega), List.take_of_length_le (by simp; omega)] at ht; exact ht
  | d + 1, i, x3, hd, hl, ht => by
    refine ev_succ ?_
    simp only [laws_toStopS.l0]
    refine ev_pos (by omega) (ev_pos (by omega) (ev_now rfl (ev_pos (by omega) ?_)))
    rw [w64s (by omega), Int.toNat_natCast, rdLStop (by omega)]
    exact toStopS_l0 x0 hn d (i + 1) _ (by omega) (by simpa using hl) (take_set _ _ _ _ (by omega) (by simp; omega) ht (by simp [convStop]))
theorem toStopS_ev (l : List S43) (hn : l.length ≤ 1048576) : Ev (fun k => laws_toStopS.f k l) (l.map convStop) := by
  simp only [laws_toStopS.f]
  refine ev_pos (by omega) (ev_pos (by omega) ?_)
  exact toStopS_l0 l (by omega) l.length 0 _ (by omega) (by simp) (by simp)

theorem rdEStop {xs : List S41} {i : Nat} (h : i < xs.length) : rd_T41 xs (i : Int) = xs[i] := by
  unfold rd_T41; simp [List.getD_eq_getElem?_getD, h]
theorem eqStop_self (x : S41) : laws_eqStop.f x.f0 x.f1 x.f0 x.f1 = some true := by
  simp [laws_eqStop.f]
theorem eqStopS_l0 (x0 : List S41) (hn : x0.length ≤ 1048576) : ∀ (d i : Nat), i + d = x0.length → Ev (fun k => laws_eqStopS.l0 k x0 x0 (i : Int)) true
  | 0, i, hd => by
    refine ev_succ ?_
    simp only [laws_eqStopS.l0]
    exact ev_neg (by omega) (Ev.now _)
  | d + 1, i, hd => by
    refine ev_succ ?_
    simp only [laws_eqStopS.l0]
    refine ev_pos (by omega) (ev_pos (by omega) (ev_pos (by omega) (ev_now (eqStop_self _) (ev_pos (by trivial) ?_))))
    rw [w64s (by omega)]
    exact eqStopS_l0 x0 hn d (i + 1) (by omega)
theorem eqStopS_self (l : List S41) (hn : l.length ≤ 1048576) : Ev (fun k => laws_eqStopS.f k l l) true := by
  simp only [laws_eqStopS.f]
  exact ev_pos (by trivial) (eqStopS_l0 l hn l.length 0 (by omega))


theorem l00In_eq (a b c : Int) : spec_l00In.f a b c = some (decide (b ≤ a ∧ a ≤ c)) := by
  unfold spec_l00In.f; by_cases h : a ≥ b <;> simp [h]

theorem within_eq (a b c : Int) : impl_within.f a b c = some (decide (b ≤ a ∧ a ≤ c)) := by
  unfold impl_within.f; by_cases h : a ≥ b <;> simp [h]

structure Pu where
  f0 : Int
  f1 : Int
  f2 : Bool
def okP (p : Pu) : Prop := (0 ≤ p.f0 ∧ p.f0 ≤ 4) ∧ (0 ≤ p.f1 ∧ p.f1 ≤ 4) ∧ 1 ≤ p.f0 + p.f1 ∧ (if p.f2 = true then 0 ≤ p.f1 - p.f0 ∧ p.f1 - p.f0 ≤ 1 else 0 ≤ p.f0 - p.f1 ∧ p.f0 - p.f1 ≤ 1)
instance (p : Pu) : Decidable (okP p) := inferInstanceAs (Decidable ((0 ≤ p.f0 ∧ p.f0 ≤ 4) ∧ (0 ≤ p.f1 ∧ p.f1 ≤ 4) ∧ 1 ≤ p.f0 + p.f1 ∧ (if p.f2 = true then 0 ≤ p.f1 - p.f0 ∧ p.f1 - p.f0 ≤ 1 else 0 ≤ p.f0 - p.f1 ∧ p.f0 - p.f1 ≤ 1)))
theorem l05One_ev (p : Pu) : Ev (fun k => spec_l05One.f k p.f0 p.f1 p.f2) (decide (okP p), p.f0, p.f1, p.f2) := by
  have jt : Ev (fun k => spec_l05One.j0 k true p.f0 p.f1 p.f2) (false, p.f0, p.f1, p.f2) := by
    refine ev_succ ?_; simp only [spec_l05One.j0]; exact ev_pos (by trivial) (Ev.now _)
  simp only [spec_l05One.f]
  refine ev_now (l00In_eq _ _ _) (ev_if (fun h0 => ev_now (l00In_eq _ _ _) (ev_if (fun h1 => ?_) (fun h1 => ?_))) (fun h0 => ?_))
  · have h0 := of_decide_eq_true h0
    have h1 := of_decide_eq_true h1
    rw [w64 (x := p.f0 + p.f1) (by omega) (by omega)]
    by_cases h2 : p.f0 + p.f1 < 1
    · rw [ofd1 h2, ofd (p := okP p) (fun g => by have := g.2.2.1; omega)]; exact jt
    · rw [ofd h2]
      refine ev_succ ?_; simp only [spec_l05One.j0]
      refine ev_neg (by simp) (ev_if (fun h3 => ?_) (fun h3 => ?_))
      · rw [w64 (x := p.f1 - p.f0) (by omega) (by omega)]
        refine ev_now (l00In_eq _ _ _) (ev_some ?_)
        congr 1
        apply decide_eq_decide.2; unfold okP; rw [if_pos h3]
        exact ⟨fun g => ⟨h0, h1, by omega, g⟩, fun g => g.2.2.2⟩
      · rw [w64 (x := p.f0 - p.f1) (by omega) (by omega)]
        refine ev_now (l00In_eq _ _ _) (ev_some ?_)
        congr 1
        apply decide_eq_decide.2; unfold okP; rw [if_neg h3]
        exact ⟨fun g => ⟨h0, h1, by omega, g⟩, fun g => g.2.2.2⟩
  · rw [ofd (p := okP p) (fun g => h1 (ofd1 g.2.1))]; exact jt
  · rw [ofd (p := okP p) (fun g => h0 (ofd1 g.1))]; exact jt
theorem validPurchase_ev (p : Pu) : Ev (fun k => impl_ValidPurchase.f k p.f0 p.f1 p.f2) (decide (okP p)) := by
  have jt : Ev (fun k => impl_ValidPurchase.j0 k true p.f0 p.f1 p.f2) false := by
    refine ev_succ ?_; simp only [impl_ValidPurchase.j0]; exact ev_pos (by trivial) (Ev.now _)
  simp only [impl_ValidPurchase.f]
  refine ev_now (within_eq _ _ _) (ev_if (fun h0 => ev_now (within_eq _ _ _) (ev_if (fun h1 => ?_) (fun h1 => ?_))) (fun h0 => ?_))
  · have h0 := of_decide_eq_true h0
    have h1 := of_decide_eq_true h1
    rw [w64 (x := p.f0 + p.f1) (by omega) (by omega)]
    by_cases h2 : p.f0 + p.f1 = 0
    · rw [beq_iff_eq.2 h2, ofd (p := okP p) (fun g => by have := g.2.2.1; omega)]; exact jt
    · rw [beq_eq_false_iff_ne.2 h2]
      refine ev_succ ?_; simp only [impl_ValidPurchase.j0]
      refine ev_neg (by simp) (ev_if (fun h3 => ?_) (fun h3 => ?_))
      · rw [w64 (x := p.f1 - p.f0) (by omega) (by omega)]
        refine ev_now (within_eq _ _ _) (ev_some ?_)
        apply decide_eq_decide.2; unfold okP; rw [if_pos h3]
        exact ⟨fun g => ⟨h0, h1, by omega, g⟩, fun g => g.2.2.2⟩
      · rw [w64 (x := p.f0 - p.f1) (by omega) (by omega)]
        refine ev_now (within_eq _ _ _) (ev_some ?_)
        apply decide_eq_decide.2; unfold okP; rw [if_neg h3]
        exact ⟨fun g => ⟨h0, h1, by omega, g⟩, fun g => g.2.2.2⟩
  · rw [ofd (p := okP p) (fun g => h1 (ofd1 g.2.1))]; exact jt
  · rw [ofd (p := okP p) (fun g => h0 (ofd1 g.1))]; exact jt

theorem tm0 (x : Int) : x.tmod 2 = 0 ↔ x % 2 = 0 :=
  ⟨fun h => Int.emod_eq_zero_of_dvd (Int.dvd_of_tmod_eq_zero h), fun h => Int.tmod_eq_zero_of_dvd (Int.dvd_of_emod_eq_zero h)⟩
def lastB (p : Pu) : Int := if p.f2 = true then 1 else 0
def blockB (p : Pu) (i : Int) : Int := if (p.f0 + p.f1 - 1 - i) % 2 = 0 then lastB p else 1 - lastB p
theorem blockB_01 (p : Pu) (i : Int) : blockB p i = 0 ∨ blockB p i = 1 := by
  unfold blockB lastB; repeat' split
  all_goals simp
theorem blockB_next (p : Pu) (i : Int) : 1 - blockB p i = blockB p (i + 1) := by
  unfold blockB
  by_cases h : (p.f0 + p.f1 - 1 - i) % 2 = 0
  · rw [if_pos h, if_neg (by omega)]
  · rw [if_neg h, if_pos (by omega)]; omega
def manyB (p : Pu) (b : Int) : Int := if b = 0 then p.f0 else p.f1
theorem first_ev (p : Pu) (hp : okP p) : spec_l07First.f p.f0 p.f1 p.f2 = some (blockB p 0, p.f0, p.f1, p.f2) := by
  obtain ⟨h0, h1, h2, _⟩ := hp
  unfold spec_l07First.f blockB lastB
  rw [w64 (by omega) (by omega), Int.tmod_eq_emod_of_nonneg (by omega)]
  by_cases h : p.f2 = true
  · rw [if_pos h, if_pos h]
    by_cases g : (p.f0 + p.f1) % 2 = 1
    · rw [if_pos g, if_pos (by omega)]
    · rw [if_neg g, if_neg (by omega)]
  · rw [if_neg h, if_neg h]
    by_cases g : (p.f0 + p.f1) % 2 = 1
    · rw [if_pos g, if_pos (by omega)]
    · rw [if_neg g, if_neg (by omega)]
theorem blockAt_eq (p : Pu) (hp : okP p) (i : Int) (h0 : 0 ≤ i) (h1 : i ≤ 4611686018427387904) : impl_blockAt.f p.f0 p.f1 p.f2 i = some (blockB p i) := by
  obtain ⟨g0, g1, g2, _⟩ := hp
  unfold impl_blockAt.f blockB lastB
  rw [w64 (x := p.f0 + p.f1) (by omega) (by omega), w64 (x := p.f0 + p.f1 - 1) (by omega) (by omega), w64 (x := p.f0 + p.f1 - 1 - i) (by omega) (by omega)]
  simp only [tm0]
  repeat' split
  all_goals rfl
def wF (w : List S41) (x : S41) : Bool := w.any fun y => y.f0 == x.f0 && y.f1 == x.f1
theorem wF_drop {w : List S41} {i : Nat} (h : i < w.length) (x : S41) : wF (w.drop i) x = ((w[i].f0 == x.f0 && w[i].f1 == x.f1) || wF (w.drop (i + 1)) x) := by
  rw [List.drop_eq_getElem_cons h]; rfl
theorem idx_ev (w : List S41) (x : S41) (hn : w.length ≤ 1048576) : ∀ (d i : Nat), i + d = w.length → ∃ r : Int, Ev (fun k => impl_Stop_50.l0 k w (w.length : Int) (i : Int) x.f0 x.f1) r ∧ decide (r ≥ 0) = wF (w.drop i) x
  | 0, i, hd => by
    refine ⟨-1, ?_, ?_⟩
    · refine ev_succ ?_; simp only [impl_Stop_50.l0]; exact ev_neg (by omega) (Ev.now _)
    · rw [show w.drop i = [] by simp; omega]; rfl
  | d + 1, i, hd => by
    have hi : i < w.length := by omega
    obtain ⟨r, e1, e2⟩ := idx_ev w x hn d (i + 1) (by omega)
    by_cases h : (x.f0 == w[i].f0 && x.f1 == w[i].f1) = true
    · refine ⟨(i : Int), ?_, ?_⟩
      · refine ev_succ ?_; simp only [impl_Stop_50.l0]; rw [rdIStop hi]
        exact ev_pos (by omega) (ev_pos (by omega) (ev_pos (by omega) (ev_pos h (Ev.now _))))
      · rw [wF_drop hi, show (w[i].f0 == x.f0 && w[i].f1 == x.f1) = true by simp at h ⊢; omega]; simp
    · refine ⟨r, ?_, ?_⟩
      · refine ev_succ ?_; simp only [impl_Stop_50.l0]; rw [rdIStop hi, w64s (by omega)]
        exact ev_pos (by omega) (ev_pos (by omega) (ev_pos (by omega) (ev_neg h e1)))
      · rw [e2, wF_drop hi, show (w[i].f0 == x.f0 && w[i].f1 == x.f1) = false by simp at h ⊢; omega]; rfl
theorem contains_ev (w : List S41) (x : S41) (hn : w.length ≤ 1048576) : Ev (fun k => impl_Stop_42.f k w x.f0 x.f1) (wF w x) := by
  obtain ⟨r, e1, e2⟩ := idx_ev w x hn w.length 0 (by omega)
  simp only [impl_Stop_42.f, impl_Stop_50.f]
  exact Ev.bind e1 (ev_some e2)
theorem sFault_l1 (w : List S41) (hn : w.length ≤ 1048576) (b : Int) (hb : b = 0 ∨ b = 1) (p : Pu) (i : Nat) (hi : i < w.length) (r : ByteArray × Int × Int × Int × Bool)
    (h1 : wF (w.take i) w[i] = true → r = ((⟨#[116, 119, 105, 99, 101]⟩ : ByteArray), (i : Int), p.f0, p.f1, p.f2))
    (h2 : wF (w.take i) w[i] = false → Ev (fun k => spec_l07Fault.l0 k w (1 - b) ((i + 1 : Nat) : Int) p.f0 p.f1 p.f2) r) : ∀ (d j : Nat), j + d = i → wF (w.take i) w[i] = wF ((w.take i).drop j) w[i] →
    Ev (fun k => spec_l07Fault.l1 k w b (i : Int) (j : Int) p.f0 p.f1 p.f2 w[i].f0 w[i].f1) r
  | 0, j, hd, hs => by
    refine ev_succ ?_; simp only [spec_l07Fault.l1]
    rw [w64s (i := i) (by omega), w64 (x := 1 - b) (by omega) (by omega)]
    refine ev_neg (by omega) (h2 ?_)
    rw [hs, show (w.take i).drop j = [] by simp; omega]; rfl
  | d + 1, j, hd, hs => by
    have hj : j < (w.take i).length := by simp; omega
    refine ev_succ ?_; simp only [spec_l07Fault.l1]
    rw [rdIStop (show j < w.length by omega), w64s (by omega)]
    rw [wF_drop hj, List.getElem_take] at hs
    refine ev_pos (by omega) (ev_pos (by omega) (ev_pos (by omega) (ev_if (fun h => ev_some ?_) (fun h => ?_))))
    · symm; apply h1; rw [hs, h]; rfl
    · refine sFault_l1 w hn b hb p i hi r h1 h2 d (j + 1) (by omega) ?_
      rw [hs, Bool.eq_false_iff.2 h]; rfl
theorem fault_l0 (w : List S41) (hn : w.length ≤ 1048576) (p : Pu) (hp : okP p) : ∀ (d i : Nat), i + d = w.length →
    ∃ r : ByteArray × Int, Ev (fun k => spec_l07Fault.l0 k w (blockB p i) (i : Int) p.f0 p.f1 p.f2) (r.1, r.2, p.f0, p.f1, p.f2) ∧ Ev (fun k => impl_wayFault.l0 k w w (w.length : Int) (i : Int) p.f0 p.f1 p.f2) r
  | 0, i, hd => by
    obtain ⟨g0, g1, g2, _⟩ := hp
    by_cases h : (w.length : Int) < p.f0 + p.f1
    · refine ⟨((⟨#[115, 104, 111, 114, 116]⟩ : ByteArray), (w.length : Int)), ?_, ?_⟩
      · refine ev_succ ?_; simp only [spec_l07Fault.l0]; rw [w64 (x := p.f0 + p.f1) (by omega) (by omega)]
        exact ev_neg (by omega) (ev_pos h (Ev.now _))
      · refine ev_succ ?_; simp only [impl_wayFault.l0]; rw [w64 (x := p.f0 + p.f1) (by omega) (by omega)]
        exact ev_neg (by omega) (ev_pos h (Ev.now _))
    · refine ⟨((⟨#[110, 111, 110, 101]⟩ : ByteArray), -1), ?_, ?_⟩
      · refine ev_succ ?_; simp only [spec_l07Fault.l0]; rw [w64 (x := p.f0 + p.f1) (by omega) (by omega)]
        exact ev_neg (by omega) (ev_neg h (Ev.now _))
      · refine ev_succ ?_; simp only [impl_wayFault.l0]; rw [w64 (x := p.f0 + p.f1) (by omega) (by omega)]
        exact ev_neg (by omega) (ev_neg h (Ev.now _))
  | d + 1, i, hd => by
    have hi : i < w.length := by omega
    obtain ⟨r0, e1, e2⟩ := fault_l0 w hn p hp d (i + 1) (by omega)
    have b01 := blockB_01 p i
    have ba := blockAt_eq p hp i (by omega) (by omega)
    have bn := blockB_next p i
    rw [show ((i : Int) + 1) = ((i + 1 : Nat) : Int) by omega] at bn
    obtain ⟨g0, g1, g2, _⟩ := hp
    by_cases h : w[i].f0 = blockB p i
    · have es : impl_sheavesAt.f p.f0 p.f1 p.f2 (w[i].f0) = some (manyB p (blockB p i)) := by
        rw [h]; unfold impl_sheavesAt.f manyB
        rcases b01 with q | q <;> rw [q] <;> simp
      have em : spec_l07Many.f p.f0 p.f1 p.f2 (blockB p i) = some (manyB p (blockB p i), p.f0, p.f1, p.f2) := by
        unfold spec_l07Many.f manyB; split <;> rfl
      have mb : 0 ≤ manyB p (blockB p i) ∧ manyB p (blockB p i) ≤ 4 := by unfold manyB; split <;> omega
      by_cases g : 0 ≤ w[i].f1 ∧ w[i].f1 ≤ manyB p (blockB p i) - 1
      · have ec := contains_ev (w.take i) w[i] (by simp; omega)
        by_cases t : wF (w.take i) w[i] = true
        · refine ⟨((⟨#[116, 119, 105, 99, 101]⟩ : ByteArray), (i : Int)), ?_, ?_⟩
          · refine ev_succ ?_; simp only [spec_l07Fault.l0]; rw [rdIStop hi]
            refine ev_pos (by omega) (ev_pos (by omega) (ev_pos h (ev_now em ?_)))
            rw [w64 (by omega) (by omega)]
            refine ev_now (l00In_eq _ _ _) (ev_pos (ofd1 g) ?_)
            exact sFault_l1 w hn _ b01 p i hi _ (fun _ => rfl) (fun q => by rw [t] at q; cases q) i 0 (by omega) (by simp)
          · refine ev_succ ?_; simp only [impl_wayFault.l0]; rw [rdIStop hi]
            refine ev_pos (by omega) (ev_pos (by omega) (ev_pos (by omega) (ev_now ba (ev_pos h (ev_now es ?_)))))
            rw [w64 (x := manyB p (blockB p i) - 1) (by omega) (by omega)]
            refine ev_now (within_eq _ _ _) (ev_pos (ofd1 g) (ev_pos (by omega) ?_))
            rw [Int.toNat_natCast]
            exact Ev.bind ec (ev_pos t (Ev.now _))
        · refine ⟨r0, ?_, ?_⟩
          · refine ev_succ ?_; simp only [spec_l07Fault.l0]; rw [rdIStop hi]
            refine ev_pos (by omega) (ev_pos (by omega) (ev_pos h (ev_now em ?_)))
            rw [w64 (by omega) (by omega)]
            refine ev_now (l00In_eq _ _ _) (ev_pos (ofd1 g) ?_)
            exact sFault_l1 w hn _ b01 p i hi _ (fun q => absurd q t) (fun _ => by rw [bn]; exact e1) i 0 (by omega) (by simp)
          · refine ev_succ ?_; simp only [impl_wayFault.l0]; rw [rdIStop hi]
            refine ev_pos (by omega) (ev_pos (by omega) (ev_pos (by omega) (ev_now ba (ev_pos h (ev_now es ?_)))))
            rw [w64 (x := manyB p (blockB p i) - 1) (by omega) (by omega)]
            refine ev_now (within_eq _ _ _) (ev_pos (ofd1 g) (ev_pos (by omega) ?_))
            rw [Int.toNat_natCast, w64s (by omega)]
            exact Ev.bind ec (ev_neg t e2)
      · refine ⟨((⟨#[115, 104, 101, 97, 118, 101]⟩ : ByteArray), (i : Int)), ?_, ?_⟩
        · refine ev_succ ?_; simp only [spec_l07Fault.l0]; rw [rdIStop hi]
          refine ev_pos (by omega) (ev_pos (by omega) (ev_pos h (ev_now em ?_)))
          rw [w64 (by omega) (by omega)]
          exact ev_now (l00In_eq _ _ _) (ev_neg (by rw [decide_eq_true_eq]; exact g) (Ev.now _))
        · refine ev_succ ?_; simp only [impl_wayFault.l0]; rw [rdIStop hi]
          refine ev_pos (by omega) (ev_pos (by omega) (ev_pos (by omega) (ev_now ba (ev_pos h (ev_now es ?_)))))
          rw [w64 (x := manyB p (blockB p i) - 1) (by omega) (by omega)]
          exact ev_now (within_eq _ _ _) (ev_neg (by rw [decide_eq_true_eq]; exact g) (Ev.now _))
    · refine ⟨((⟨#[98, 108, 111, 99, 107]⟩ : ByteArray), (i : Int)), ?_, ?_⟩
      · refine ev_succ ?_; simp only [spec_l07Fault.l0]; rw [rdIStop hi]
        exact ev_pos (by omega) (ev_pos (by omega) (ev_neg h (Ev.now _)))
      · refine ev_succ ?_; simp only [impl_wayFault.l0]; rw [rdIStop hi]
        exact ev_pos (by omega) (ev_pos (by omega) (ev_pos (by omega) (ev_now ba (ev_neg h (Ev.now _)))))
theorem fault_ev (w : List S41) (hn : w.length ≤ 1048576) (p : Pu) (hp : okP p) :
    ∃ r : ByteArray × Int, Ev (fun k => spec_l07Fault.f k p.f0 p.f1 p.f2 w) (r.1, r.2, p.f0, p.f1, p.f2) ∧ Ev (fun k => impl_wayFault.f k p.f0 p.f1 p.f2 w) r := by
  obtain ⟨r, e1, e2⟩ := fault_l0 w hn p hp w.length 0 (by omega)
  refine ⟨r, ?_, ?_⟩
  · simp only [spec_l07Fault.f]; exact ev_now (first_ev p hp) e1
  · simp only [impl_wayFault.f]; exact e2

theorem fault3_l0 (w : List S41) (hn : w.length ≤ 1048576) (p : Pu) (hp : okP p) : ∀ (d i : Nat), i + d = w.length →
    ∃ r : ByteArray × Int, Ev (fun k => spec_l07Fault.l0 k w (blockB p i) (i : Int) p.f0 p.f1 p.f2) (r.1, r.2, p.f0, p.f1, p.f2) ∧ Ev (fun k => impl_wayFault.l0 k w w (w.length : Int) (i : Int) p.f0 p.f1 p.f2) r ∧ (r.1.toList = ([110, 111, 110, 101] : List UInt8) → ∀ j (h : j < w.length), i ≤ j → (w[j].f0 = 0 ∨ w[j].f0 = 1) ∧ 0 ≤ w[j].f1 ∧ w[j].f1 ≤ 9)
  | 0, i, hd => by
    obtain ⟨g0, g1, g2, _⟩ := hp
    by_cases h : (w.length : Int) < p.f0 + p.f1
    · refine ⟨((⟨#[115, 104, 111, 114, 116]⟩ : ByteArray), (w.length : Int)), ?_, ?_, fun _ j hj hij => by omega⟩
      · refine ev_succ ?_; simp only [spec_l07Fault.l0]; rw [w64 (x := p.f0 + p.f1) (by omega) (by omega)]
        exact ev_neg (by omega) (ev_pos h (Ev.now _))
      · refine ev_succ ?_; simp only [impl_wayFault.l0]; rw [w64 (x := p.f0 + p.f1) (by omega) (by omega)]
        exact ev_neg (by omega) (ev_pos h (Ev.now _))
    · refine ⟨((⟨#[110, 111, 110, 101]⟩ : ByteArray), -1), ?_, ?_, fun _ j hj hij => by omega⟩
      · refine ev_succ ?_; simp only [spec_l07Fault.l0]; rw [w64 (x := p.f0 + p.f1) (by omega) (by omega)]
        exact ev_neg (by omega) (ev_neg h (Ev.now _))
      · refine ev_succ ?_; simp only [impl_wayFault.l0]; rw [w64 (x := p.f0 + p.f1) (by omega) (by omega)]
        exact ev_neg (by omega) (ev_neg h (Ev.now _))
  | d + 1, i, hd => by
    have hi : i < w.length := by omega
    obtain ⟨r0, e1, e2, e3⟩ := fault3_l0 w hn p hp d (i + 1) (by omega)
    have b01 := blockB_01 p i
    have ba := blockAt_eq p hp i (by omega) (by omega)
    have bn := blockB_next p i
    rw [show ((i : Int) + 1) = ((i + 1 : Nat) : Int) by omega] at bn
    obtain ⟨g0, g1, g2, _⟩ := hp
    by_cases h : w[i].f0 = blockB p i
    · have es : impl_sheavesAt.f p.f0 p.f1 p.f2 (w[i].f0) = some (manyB p (blockB p i)) := by
        rw [h]; unfold impl_sheavesAt.f manyB
        rcases b01 with q | q <;> rw [q] <;> simp
      have em : spec_l07Many.f p.f0 p.f1 p.f2 (blockB p i) = some (manyB p (blockB p i), p.f0, p.f1, p.f2) := by
        unfold spec_l07Many.f manyB; split <;> rfl
      have mb : 0 ≤ manyB p (blockB p i) ∧ manyB p (blockB p i) ≤ 4 := by unfold manyB; split <;> omega
      by_cases g : 0 ≤ w[i].f1 ∧ w[i].f1 ≤ manyB p (blockB p i) - 1
      · have ec := contains_ev (w.take i) w[i] (by simp; omega)
        by_cases t : wF (w.take i) w[i] = true
        · refine ⟨((⟨#[116, 119, 105, 99, 101]⟩ : ByteArray), (i : Int)), ?_, ?_, fun q => absurd q (show ¬ (⟨#[116, 119, 105, 99, 101]⟩ : ByteArray).toList = ([110, 111, 110, 101] : List UInt8) from by decide +kernel)⟩
          · refine ev_succ ?_; simp only [spec_l07Fault.l0]; rw [rdIStop hi]
            refine ev_pos (by omega) (ev_pos (by omega) (ev_pos h (ev_now em ?_)))
            rw [w64 (by omega) (by omega)]
            refine ev_now (l00In_eq _ _ _) (ev_pos (ofd1 g) ?_)
            exact sFault_l1 w hn _ b01 p i hi _ (fun _ => rfl) (fun q => by rw [t] at q; cases q) i 0 (by omega) (by simp)
          · refine ev_succ ?_; simp only [impl_wayFault.l0]; rw [rdIStop hi]
            refine ev_pos (by omega) (ev_pos (by omega) (ev_pos (by omega) (ev_now ba (ev_pos h (ev_now es ?_)))))
            rw [w64 (x := manyB p (blockB p i) - 1) (by omega) (by omega)]
            refine ev_now (within_eq _ _ _) (ev_pos (ofd1 g) (ev_pos (by omega) ?_))
            rw [Int.toNat_natCast]
            exact Ev.bind ec (ev_pos t (Ev.now _))
        · refine ⟨r0, ?_, ?_, fun q j hj hij => by
            rcases Nat.eq_or_lt_of_le hij with z | z
            · subst z; rw [h]; exact ⟨b01, g.1, by omega⟩
            · exact e3 q j hj z⟩
          · refine ev_succ ?_; simp only [spec_l07Fault.l0]; rw [rdIStop hi]
            refine ev_pos (by omega) (ev_pos (by omega) (ev_pos h (ev_now em ?_)))
            rw [w64 (by omega) (by omega)]
            refine ev_now (l00In_eq _ _ _) (ev_pos (ofd1 g) ?_)
            exact sFault_l1 w hn _ b01 p i hi _ (fun q => absurd q t) (fun _ => by rw [bn]; exact e1) i 0 (by omega) (by simp)
          · refine ev_succ ?_; simp only [impl_wayFault.l0]; rw [rdIStop hi]
            refine ev_pos (by omega) (ev_pos (by omega) (ev_pos (by omega) (ev_now ba (ev_pos h (ev_now es ?_)))))
            rw [w64 (x := manyB p (blockB p i) - 1) (by omega) (by omega)]
            refine ev_now (within_eq _ _ _) (ev_pos (ofd1 g) (ev_pos (by omega) ?_))
            rw [Int.toNat_natCast, w64s (by omega)]
            exact Ev.bind ec (ev_neg t e2)
      · refine ⟨((⟨#[115, 104, 101, 97, 118, 101]⟩ : ByteArray), (i : Int)), ?_, ?_, fun q => absurd q (show ¬ (⟨#[115, 104, 101, 97, 118, 101]⟩ : ByteArray).toList = ([110, 111, 110, 101] : List UInt8) from by decide +kernel)⟩
        · refine ev_succ ?_; simp only [spec_l07Fault.l0]; rw [rdIStop hi]
          refine ev_pos (by omega) (ev_pos (by omega) (ev_pos h (ev_now em ?_)))
          rw [w64 (by omega) (by omega)]
          exact ev_now (l00In_eq _ _ _) (ev_neg (by rw [decide_eq_true_eq]; exact g) (Ev.now _))
        · refine ev_succ ?_; simp only [impl_wayFault.l0]; rw [rdIStop hi]
          refine ev_pos (by omega) (ev_pos (by omega) (ev_pos (by omega) (ev_now ba (ev_pos h (ev_now es ?_)))))
          rw [w64 (x := manyB p (blockB p i) - 1) (by omega) (by omega)]
          exact ev_now (within_eq _ _ _) (ev_neg (by rw [decide_eq_true_eq]; exact g) (Ev.now _))
    · refine ⟨((⟨#[98, 108, 111, 99, 107]⟩ : ByteArray), (i : Int)), ?_, ?_, fun q => absurd q (show ¬ (⟨#[98, 108, 111, 99, 107]⟩ : ByteArray).toList = ([110, 111, 110, 101] : List UInt8) from by decide +kernel)⟩
      · refine ev_succ ?_; simp only [spec_l07Fault.l0]; rw [rdIStop hi]
        exact ev_pos (by omega) (ev_pos (by omega) (ev_neg h (Ev.now _)))
      · refine ev_succ ?_; simp only [impl_wayFault.l0]; rw [rdIStop hi]
        exact ev_pos (by omega) (ev_pos (by omega) (ev_pos (by omega) (ev_now ba (ev_neg h (Ev.now _)))))
theorem fault3_ev (w : List S41) (hn : w.length ≤ 1048576) (p : Pu) (hp : okP p) :
    ∃ r : ByteArray × Int, Ev (fun k => spec_l07Fault.f k p.f0 p.f1 p.f2 w) (r.1, r.2, p.f0, p.f1, p.f2) ∧ Ev (fun k => impl_wayFault.f k p.f0 p.f1 p.f2 w) r ∧ (r.1.toList = ([110, 111, 110, 101] : List UInt8) → ∀ j (h : j < w.length), (w[j].f0 = 0 ∨ w[j].f0 = 1) ∧ 0 ≤ w[j].f1 ∧ w[j].f1 ≤ 9) := by
  obtain ⟨r, e1, e2, e3⟩ := fault3_l0 w hn p hp w.length 0 (by omega)
  refine ⟨r, ?_, ?_, fun q j hj => e3 q j hj (by omega)⟩
  · simp only [spec_l07Fault.f]; exact ev_now (first_ev p hp) e1
  · simp only [impl_wayFault.f]; exact e2
theorem code_both3 (p : Pu) (w : List S41) (hn : w.length ≤ 1048576) : ∃ c : Int, Ev (fun k => spec_l07Code.f k p.f0 p.f1 p.f2 w) (c, p.f0, p.f1, p.f2) ∧ Ev (fun k => impl_wayCode.f k p.f0 p.f1 p.f2 w) c ∧ (c = 0 → ∀ j (h : j < w.length), (w[j].f0 = 0 ∨ w[j].f0 = 1) ∧ 0 ≤ w[j].f1 ∧ w[j].f1 ≤ 9) := by
  have e1 := l05One_ev p
  have e2 := validPurchase_ev p
  by_cases hp : okP p
  · rw [ofd1 hp] at e1 e2
    obtain ⟨r, e3, e4, e5⟩ := fault3_ev w hn p hp
    by_cases q : r.1.toList = ([110, 111, 110, 101] : List UInt8)
    · refine ⟨0, ?_, ?_, fun _ => e5 q⟩
      · simp only [spec_l07Code.f]; exact Ev.bind e1 (ev_pos (by trivial) (Ev.bind e3 (ev_pos q (Ev.now _))))
      · simp only [impl_wayCode.f]; exact Ev.bind e2 (ev_pos (by trivial) (Ev.bind e4 (ev_pos q (Ev.now _))))
    · refine ⟨8, ?_, ?_, fun h => by omega⟩
      · simp only [spec_l07Code.f]; exact Ev.bind e1 (ev_pos (by trivial) (Ev.bind e3 (ev_neg q (Ev.now _))))
      · simp only [impl_wayCode.f]; exact Ev.bind e2 (ev_pos (by trivial) (Ev.bind e4 (ev_neg q (Ev.now _))))
  · rw [ofd hp] at e1 e2
    refine ⟨1, ?_, ?_, fun h => by omega⟩
    · simp only [spec_l07Code.f]; exact Ev.bind e1 (ev_neg (by simp) (Ev.now _))
    · simp only [impl_wayCode.f]; exact Ev.bind e2 (ev_neg (by simp) (Ev.now _))

/-- One digit. -/
def dg (n : Int) : ByteArray := ⟨#[UInt8.ofNat (48 + n.toNat)]⟩
theorem dg_size (n : Int) : (dg n).size = 1 := rfl
theorem implDec (n : Int) (h : 0 ≤ n ∧ n ≤ 9) : impl_Decimal.f n = some (dg n) := by
  unfold impl_Decimal.f
  rw [if_pos h.1, if_pos (by omega)]
  unfold Go.Lib.decDigits
  rw [dif_pos (by omega)]
  rfl
theorem specDec (n : Int) (h : 0 ≤ n ∧ n ≤ 9) : Ev (fun k => spec_l01Dec.f k n) (dg n) := by
  obtain h | h | h | h | h | h | h | h | h | h : n = 0 ∨ n = 1 ∨ n = 2 ∨ n = 3 ∨ n = 4 ∨ n = 5 ∨ n = 6 ∨ n = 7 ∨ n = 8 ∨ n = 9 := by omega
  all_goals subst h; exact Ev.of (spec_l01Dec.mono _) (k := 5) (by kernel_rfl)

def jn (l : List ByteArray) : ByteArray := ⟨(Go.Lib.join (l.map (·.data.toList)) [32]).toArray⟩
theorem jn_nil : jn [] = ⟨#[]⟩ := rfl
theorem jn_one (x : ByteArray) : jn [x] = x := by
  apply ByteArray.ext; simp [jn, Go.Lib.join_one]
theorem jn_snoc (l : List ByteArray) (x : ByteArray) (h : l ≠ []) : jn (l ++ [x]) = (jn l ++ (⟨#[32]⟩ : ByteArray)) ++ x := by
  obtain ⟨a, r, rfl⟩ : ∃ a r, l = a :: r := by
    cases l with
    | nil => exact absurd rfl h
    | cons a r => exact ⟨a, r, rfl⟩
  apply ByteArray.ext
  apply Array.toList_inj.1
  simp [jn, Go.Lib.join_cons, Go.Lib.joinTail, ByteArray.data_append]
theorem join_some (l : List ByteArray) (h0 : l.length ≤ 100000000) (h : (jn l).size ≤ 1000000000) : strings_Join.f l (⟨#[32]⟩ : ByteArray) = some (jn l) := by
  unfold strings_Join.f
  have e : (Go.Lib.join (l.map (·.data.toList)) (⟨#[32]⟩ : ByteArray).data.toList).length = (jn l).size := by
    simp [jn, ByteArray.size]
  rw [if_pos (by omega), if_pos (by omega)]
  rfl

def okS (w : List S41) : Prop := ∀ j (h : j < w.length), (w[j].f0 = 0 ∨ w[j].f0 = 1) ∧ 0 ≤ w[j].f1 ∧ w[j].f1 ≤ 9
def wS (x : S41) : ByteArray := (if x.f0 = 0 then (⟨#[102]⟩ : ByteArray) else (⟨#[109]⟩ : ByteArray)) ++ dg x.f1
theorem b102 : (⟨#[102]⟩ : ByteArray).size = 1 := rfl
theorem b109 : (⟨#[109]⟩ : ByteArray).size = 1 := rfl
theorem b32 : (⟨#[32]⟩ : ByteArray).size = 1 := rfl
theorem wS_size (x : S41) : (wS x).size = 2 := by
  unfold wS; rw [ByteArray.size_append, dg_size]; split <;> rfl
theorem app3 (a b c : ByteArray) : (a ++ b) ++ c = a ++ (b ++ c) := by
  apply ByteArray.ext; simp [ByteArray.data_append, Array.append_assoc]
theorem fmB (b : Int) (h : b = 0 ∨ b = 1) : ((⟨#[102, 109]⟩ : ByteArray).extract b.toNat (wrap64 (b + 1)).toNat) = if b = 0 then (⟨#[102]⟩ : ByteArray) else (⟨#[109]⟩ : ByteArray) := by
  rcases h with h | h <;> subst h <;> kernel_rfl
theorem take_s (w : List S41) {i : Nat} (h : i < w.length) : (w.take (i + 1)).map wS = (w.take i).map wS ++ [wS w[i]] := by
  rw [List.take_succ_eq_append_getElem h, List.map_append]; rfl
theorem s_ne (w : List S41) {i : Nat} (h0 : i ≠ 0) (h : i < w.length) : (w.take i).map wS ≠ [] := by
  intro e
  have := congrArg List.length e
  rw [List.length_map, List.length_take] at this
  simp only [List.length_nil] at this
  omega
theorem jn_s (w : List S41) : ∀ {i : Nat}, i ≤ w.length → (jn ((w.take i).map wS)).size ≤ 3 * i
  | 0, _ => by simp [jn_nil]; rfl
  | i + 1, h => by
    have ih := jn_s w (i := i) (by omega)
    rw [take_s w (by omega)]
    by_cases h0 : i = 0
    · subst h0; simp only [List.take_zero, List.map_nil, List.nil_append]; rw [jn_one, wS_size]; omega
    · rw [jn_snoc _ _ (s_ne w (by omega) (by omega)), ByteArray.size_append, ByteArray.size_append, wS_size, b32]
      omega
theorem spec_l0 (w : List S41) (ho : okS w) (hl : w.length ≤ 1048576) : ∀ (d i : Nat), i + d = w.length → Ev (fun k => spec_l07Text.l0 k w (jn ((w.take i).map wS)) (i : Int)) (jn (w.map wS))
  | 0, i, hd => by
    refine ev_succ ?_
    simp only [spec_l07Text.l0]
    refine ev_neg (by omega) (ev_some ?_)
    rw [List.take_of_length_le (by omega)]
  | d + 1, i, hd => by
    have hi : i < w.length := by omega
    have ih := spec_l0 w ho hl d (i + 1) (by omega)
    have hs := jn_s w (i := i) (by omega)
    obtain ⟨o0, o1, o2⟩ := ho i hi
    have d1 := specDec w[i].f1 (by omega)
    have z1 := dg_size w[i].f1
    rw [take_s w hi] at ih
    refine ev_succ ?_
    simp only [spec_l07Text.l0]
    rw [rdIStop hi, w64s (by omega)]
    refine ev_pos (by omega) (ev_if (fun g => ev_pos (by omega) (ev_pos (by omega) ?_)) (fun g => ev_pos (by omega) ?_))
    · rw [jn_snoc _ _ (s_ne w (by omega) hi)] at ih
      rw [show wS w[i] = (if w[i].f0 = 0 then (⟨#[102]⟩ : ByteArray) else (⟨#[109]⟩ : ByteArray)) ++ dg w[i].f1 from rfl] at ih
      generalize jn (List.map wS (List.take i w)) = acc at *
      have sa : (acc ++ (⟨#[32]⟩ : ByteArray)).size = acc.size + 1 := by rw [ByteArray.size_append, b32]
      refine ev_if (fun q => ?_) (fun q => ?_)
      · rw [if_pos q, ← app3] at ih
        exact ev_pos (by omega) (Ev.bind d1 (ev_pos (by rw [ByteArray.size_append, b102]; omega) ih))
      · rw [if_neg q, ← app3] at ih
        exact ev_pos (by omega) (Ev.bind d1 (ev_pos (by rw [ByteArray.size_append, b109]; omega) ih))
    · have h0 : i = 0 := by omega
      subst h0
      simp only [List.take_zero, List.map_nil, List.nil_append] at ih ⊢
      rw [jn_one] at ih
      have e0 : ∀ x : ByteArray, jn [] ++ x = x := by intro x; apply ByteArray.ext; simp [jn_nil, ByteArray.data_append]
      have n0 : (jn []).size = 0 := rfl
      rw [show wS w[0] = (if w[0].f0 = 0 then (⟨#[102]⟩ : ByteArray) else (⟨#[109]⟩ : ByteArray)) ++ dg w[0].f1 from rfl] at ih
      refine ev_if (fun q => ?_) (fun q => ?_)
      · rw [if_pos q] at ih
        refine ev_pos (by omega) (Ev.bind d1 (ev_pos (by rw [ByteArray.size_append, b102]; omega) ?_))
        rw [e0]; exact ih
      · rw [if_neg q] at ih
        refine ev_pos (by omega) (Ev.bind d1 (ev_pos (by rw [ByteArray.size_append, b109]; omega) ?_))
        rw [e0]; exact ih
theorem impl_l0 (w : List S41) (ho : okS w) (hl : w.length ≤ 1048576) : ∀ (d i : Nat), i + d = w.length → Ev (fun k => impl_WayText.l0 k ((w.take i).map wS) w (w.length : Int) (i : Int)) (jn (w.map wS))
  | 0, i, hd => by
    have hs := jn_s w (i := i) (by omega)
    refine ev_succ ?_
    simp only [impl_WayText.l0]
    refine ev_neg (by omega) (ev_now (join_some _ (by simp; omega) (by omega)) (ev_some ?_))
    rw [List.take_of_length_le (by omega)]
  | d + 1, i, hd => by
    have hi : i < w.length := by omega
    have ih := impl_l0 w ho hl d (i + 1) (by omega)
    obtain ⟨o0, o1, o2⟩ := ho i hi
    have d1 := implDec w[i].f1 (by omega)
    have z1 := dg_size w[i].f1
    have fm := fmB w[i].f0 o0
    have hw : wrap64 (w[i].f0 + 1) = w[i].f0 + 1 := w64 (by omega) (by omega)
    rw [take_s w hi, show wS w[i] = (if w[i].f0 = 0 then (⟨#[102]⟩ : ByteArray) else (⟨#[109]⟩ : ByteArray)) ++ dg w[i].f1 from rfl] at ih
    have hn : ((w.take i).map wS).length < 8796093022208 := by simp; omega
    refine ev_succ ?_
    simp only [impl_WayText.l0]
    rw [rdIStop hi, w64s (by omega), fm, hw]
    have hz : (if w[i].f0 = 0 then (⟨#[102]⟩ : ByteArray) else (⟨#[109]⟩ : ByteArray)).size = 1 := by split <;> rfl
    exact ev_pos (by omega) (ev_pos (by omega) (ev_pos (by omega) (ev_pos (by omega) (ev_pos (by omega) (ev_pos (by omega) (ev_now d1 (ev_pos (by rw [hz]; omega) (ev_pos hn ih))))))))
theorem key (p : Pu) (w : List S41) (hn : w.length ≤ 1048576) : ∃ r : ByteArray, Ev (fun k => spec_WayText.f k p.f0 p.f1 p.f2 w) r ∧ Ev (fun k => impl_WayText.f k p.f0 p.f1 p.f2 w) r := by
  obtain ⟨c, e1, e2, e3⟩ := code_both3 p w hn
  by_cases hc : c = 0
  · have s := spec_l0 w (e3 hc) hn w.length 0 (by omega)
    have i := impl_l0 w (e3 hc) hn w.length 0 (by omega)
    refine ⟨jn (w.map wS), ?_, ?_⟩
    · simp only [spec_WayText.f, spec_l07Text.f]; exact Ev.bind e1 (ev_pos hc (Ev.bind s (Ev.now _)))
    · simp only [impl_WayText.f]; exact Ev.bind e2 (ev_pos hc i)
  · refine ⟨⟨#[]⟩, ?_, ?_⟩
    · simp only [spec_WayText.f]; exact Ev.bind e1 (ev_neg hc (Ev.now _))
    · simp only [impl_WayText.f]; exact Ev.bind e2 (ev_neg hc (Ev.now _))
theorem FnExactWayText : laws_FnExactWayText.Pure := by
  intro a0 a1 a2 l1 _ _ hl _
  refine Ev.rounds ?_
  simp only [laws_FnExactWayText.f]
  refine ev_now (szStopS_eq l1 1048576 hl (by omega) (by omega)) (ev_if (fun _ => Ev.now _) (fun h => ?_))
  have hn : l1.length ≤ 1048576 := by
    by_cases g : (1048576 : Int) - (l1.length : Int) < 0
    · rw [if_pos g] at h; omega
    · omega
  have t0 := toStopS_ev l1 hn
  have hm : (l1.map convStop).length ≤ 1048576 := by simpa using hn
  obtain ⟨r, e1, e2⟩ := key ⟨a0, a1, a2⟩ (l1.map convStop) hm
  exact ev_now rfl (Ev.bind t0 (Ev.bind e1 (Ev.bind t0 (ev_now rfl (Ev.bind e2 (ev_pos (by trivial) (Ev.bind t0 (Ev.bind (eqStopS_self _ hm) (ev_pos (by trivial) (Ev.now _))))))))))

end Go.Proofs.YtmpgcmfjjjmhmaaDoor.PureFnExactWayText
namespace Go.Proofs.YtmpgcmfjjjmhmaaDoor.Pure
open Go.Proofs.YtmpgcmfjjjmhmaaDoor.HFnExactWayText
theorem FnExactWayText : laws_FnExactWayText.Pure := PureFnExactWayText.FnExactWayText
end Go.Proofs.YtmpgcmfjjjmhmaaDoor.Pure
