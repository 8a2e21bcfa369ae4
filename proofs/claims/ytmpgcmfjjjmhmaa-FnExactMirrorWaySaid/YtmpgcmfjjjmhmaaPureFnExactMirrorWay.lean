/- The program's function answers as the statement says. Conditions: none beyond the given statement's own. -/
import Derived.Test.YtmpgcmfjjjmhmaaHFnExactMirrorWayx8
import Derived.Test.YtmpgcmfjjjmhmaaLib
set_option linter.unusedVariables false
set_option linter.unusedSimpArgs false
namespace Go.Proofs.Ytmpgcmfjjjmhmaa.PureFnExactMirrorWay
open Go.RowKit Go.Proofs.Ytmpgcmfjjjmhmaa.HFnExactMirrorWay Go.Proofs.YtmpgcmfjjjmhmaaW.PrintWords Go.Proofs.YtmpgcmfjjjmhmaaW.PrintLast Go.Proofs.YtmpgcmfjjjmhmaaW.PrintMore Go.Proofs.Ytmpgcmfjjjmhmaa.Lib
theorem szStopS_eq (l : List S58) (n : Int) (hl : l.length ≤ maxLen) (h0 : 0 ≤ n) (h1 : n ≤ 1048576) : laws_szStopS.f l n = some (if n - (l.length : Int) < 0 then -1 else n - (l.length : Int)) := by
  unfold maxLen at hl
  unfold laws_szStopS.f
  rw [w64 (x := n - (l.length : Int)) (by omega) (by omega)]
  split <;> rfl

def convStop (x : S58) : S56 := ⟨x.f0, x.f1⟩
theorem rdLStop {xs : List S58} {i : Nat} (h : i < xs.length) : rd_T58 xs (i : Int) = xs[i] := by
  unfold rd_T58; simp [List.getD_eq_getElem?_getD, h]
theorem rdIStop {xs : List S56} {i : Nat} (h : i < xs.length) : rd_T56 xs (i : Int) = xs[i] := by
  unfold rd_T56; simp [List.getD_eq_getElem?_getD, h]
theorem toStopS_l0 (x0 : List S58) (hn : x0.length ≤ 1048576) : ∀ (d i : Nat) (x3 : List S56), i + d = x0.length → x3.length = x0.length → x3.take i = (x0.map convStop).take i →
    Ev (fun k => laws_toStopS.l0 k x0 x3 (i : Int)) (x0.map convStop)
  | 0, i, x3, hd, hl, ht => by
    refine ev_succ ?_
    simp only [laws_toStopS.l0]
    refine ev_neg (by omega) (ev_some ?_)
    rw [List.take_of_length_le (by omega), List.take_of_length_le (by simp; omega)] at ht; exact ht
  | d + 1, i, x3, hd, hl, ht => by
    refine ev_succ ?_
    simp only [laws_toStopS.l0]
    refine ev_pos (by omega) (ev_pos (by omega) (ev_now rfl (ev_pos (by omega) ?_)))
    rw [w64s (by omega), Int.toNat_natCast, rdLStop (by omega)]
    exact toStopS_l0 x0 hn d (i + 1) _ (by omega) (by simpa using hl) (take_set _ _ _ _ (by omega) (by simp; omega) ht (by simp [convStop]))
theorem toStopS_ev (l : List S58) (hn : l.length ≤ 1048576) : Ev (fun k => laws_toStopS.f k l) (l.map convStop) := by
  simp only [laws_toStopS.f]
  refine ev_pos (by omega) (ev_pos (by omega) ?_)
  exact toStopS_l0 l (by omega) l.length 0 _ (by omega) (by simp) (by simp)

theorem rdEStop {xs : List S56} {i : Nat} (h : i < xs.length) : rd_T56 xs (i : Int) = xs[i] := by
  unfold rd_T56; simp [List.getD_eq_getElem?_getD, h]
theorem eqStop_self (x : S56) : laws_eqStop.f x.f0 x.f1 x.f0 x.f1 = some true := by
  simp [laws_eqStop.f]
theorem eqStopS_l0 (x0 : List S56) (hn : x0.length ≤ 1048576) : ∀ (d i : Nat), i + d = x0.length → Ev (fun k => laws_eqStopS.l0 k x0 x0 (i : Int)) true
  | 0, i, hd => by
    refine ev_succ ?_
    simp only [laws_eqStopS.l0]
    exact ev_neg (by omega) (Ev.now _)
  | d + 1, i, hd => by
    refine ev_succ ?_
    simp only [laws_eqStopS.l0]
    refine ev_pos (by omega) (ev_pos (by omega) (ev_pos (by omega) (ev_now (eqStop_self _) (ev_pos (by trivial) ?_))))
    rw [w64s (by omega)]
    exact eqStopS_l0 x0 hn d (i + 1) (by omega)
theorem eqStopS_self (l : List S56) (hn : l.length ≤ 1048576) : Ev (fun k => laws_eqStopS.f k l l) true := by
  simp only [laws_eqStopS.f]
  exact ev_pos (by trivial) (eqStopS_l0 l hn l.length 0 (by omega))


theorem rdKStop {xs : List S56} {i : Nat} (h : i < xs.length) : rd_T56 xs (i : Int) = xs[i] := by
  unfold rd_T56; simp [List.getD_eq_getElem?_getD, h]
def mksStop (s : Int) (n : Nat) : List S56 := (List.range n).map fun (j : Nat) => ⟨s + 2 * (j : Int), s + 2 * (j : Int) + 1⟩
theorem mksStop_length (s : Int) (n : Nat) : (mksStop s n).length = n := by simp [mksStop]
theorem mksStop_get (s : Int) (n i : Nat) (h : i < (mksStop s n).length) : (mksStop s n)[i] = ⟨s + 2 * (i : Int), s + 2 * (i : Int) + 1⟩ := by simp [mksStop]
theorem markStopS_l0 (s : Int) (h0 : 0 ≤ s) (n : Nat) (hn : s + 2 * n < 4611686018427387904) : ∀ (d i : Nat) (x0 : List S56), i + d = n → x0.length = n → x0.take i = (mksStop s n).take i →
    Ev (fun k => laws_markStopS.l0 k x0 (s + 2 * i) (i : Int)) (s + 2 * n, mksStop s n)
  | 0, i, x0, hd, hl, ht => by
    refine ev_succ ?_
    simp only [laws_markStopS.l0]
    refine ev_neg (by omega) (ev_some ?_)
    rw [List.take_of_length_le (by omega), List.take_of_length_le (by rw [mksStop_length]; omega)] at ht
    rw [ht]; congr 1; omega
  | d + 1, i, x0, hd, hl, ht => by
    refine ev_succ ?_
    simp only [laws_markStopS.l0]
    refine ev_pos (by omega) (ev_pos (by omega) (ev_now rfl ?_))
    rw [w64s (by omega), w64 (x := s + 2 * (i : Int) + 1) (by omega) (by omega), w64 (x := s + 2 * (i : Int) + 1 + 1) (by omega) (by omega), Int.toNat_natCast, rdKStop (xs := x0.set i _) (by simp; omega)]
    have e : s + 2 * (i : Int) + 1 + 1 = s + 2 * ((i + 1 : Nat) : Int) := by omega
    rw [e, List.set_set, List.getElem_set_self]
    refine markStopS_l0 s h0 n hn d (i + 1) _ (by omega) (by simpa using hl) (take_set _ _ _ _ (by omega) (by rw [mksStop_length]; omega) ht ?_)
    rw [mksStop_get]
theorem markStopS_ev (l : List S56) (s : Int) (h0 : 0 ≤ s) (hn : s + 2 * l.length < 4611686018427387904) :
    Ev (fun k => laws_markStopS.f k l s) (s + 2 * l.length, mksStop s l.length) := by
  simp only [laws_markStopS.f]
  have := markStopS_l0 s h0 l.length hn l.length 0 l (by omega) rfl (by simp)
  simpa using this
theorem heldStopS_l0 (s : Int) (h0 : 0 ≤ s) (n : Nat) (hn : s + 2 * n < 4611686018427387904) : ∀ (d i : Nat), i + d = n →
    Ev (fun k => laws_heldStopS.l0 k (mksStop s n) (s + 2 * i) (i : Int)) (s + 2 * n)
  | 0, i, hd => by
    refine ev_succ ?_
    simp only [laws_heldStopS.l0]
    refine ev_neg (by rw [mksStop_length]; omega) (ev_some ?_)
    omega
  | d + 1, i, hd => by
    refine ev_succ ?_
    simp only [laws_heldStopS.l0]
    rw [rdKStop (by rw [mksStop_length]; omega), mksStop_get, w64s (by omega), w64 (x := s + 2 * (i : Int) + 1) (by omega) (by omega), w64 (x := s + 2 * (i : Int) + 1 + 1) (by omega) (by omega)]
    refine ev_pos (by rw [mksStop_length]; omega) (ev_pos (by omega) (ev_pos rfl (ev_pos rfl ?_)))
    have e : s + 2 * (i : Int) + 1 + 1 = s + 2 * ((i + 1 : Nat) : Int) := by omega
    rw [e]
    exact heldStopS_l0 s h0 n hn d (i + 1) (by omega)
theorem heldStopS_ev (s : Int) (h0 : 0 ≤ s) (n : Nat) (hn : s + 2 * n < 4611686018427387904) :
    Ev (fun k => laws_heldStopS.f k (mksStop s n) s) (s + 2 * n) := by
  simp only [laws_heldStopS.f]
  have := heldStopS_l0 s h0 n hn n 0 (by omega)
  simpa using this

theorem l00In_eq (a b c : Int) : spec_l00In.f a b c = some (decide (b ≤ a ∧ a ≤ c)) := by
  unfold spec_l00In.f; by_cases h : a ≥ b <;> simp [h]

theorem within_eq (a b c : Int) : impl_within.f a b c = some (decide (b ≤ a ∧ a ≤ c)) := by
  unfold impl_within.f; by_cases h : a ≥ b <;> simp [h]

structure Pu where
  f0 : Int
  f1 : Int
  f2 : Bool
def okP (p : Pu) : Prop := (0 ≤ p.f0 ∧ p.f0 ≤ 4) ∧ (0 ≤ p.f1 ∧ p.f1 ≤ 4) ∧ 1 ≤ p.f0 + p.f1 ∧ (if p.f2 = true then 0 ≤ p.f1 - p.f0 ∧ p.f1 - p.f0 ≤ 1 else 0 ≤ p.f0 - p.f1 ∧ p.f0 - p.f1 ≤ 1)
instance (p : Pu) : Decidable (okP p) := inferInstanceAs (Decidable ((0 ≤ p.f0 ∧ p.f0 ≤ 4) ∧ (0 ≤ p.f1 ∧ p.f1 ≤ 4) ∧ 1 ≤ p.f0 + p.f1 ∧ (if p.f2 = true then 0 ≤ p.f1 - p.f0 ∧ p.f1 - p.f0 ≤ 1 else 0 ≤ p.f0 - p.f1 ∧ p.f0 - p.f1 ≤ 1)))
theorem l05One_ev (p : Pu) : Ev (fun k => spec_l05One.f k p.f0 p.f1 p.f2) (decide (okP p), p.f0, p.f1, p.f2) := by
  have jt : Ev (fun k => spec_l05One.j0 k true p.f0 p.f1 p.f2) (false, p.f0, p.f1, p.f2) := by
    refine ev_succ ?_; simp only [spec_l05One.j0]; exact ev_pos (by trivial) (Ev.now _)
  simp only [spec_l05One.f]
  refine ev_now (l00In_eq _ _ _) (ev_if (fun h0 => ev_now (l00In_eq _ _ _) (ev_if (fun h1 => ?_) (fun h1 => ?_))) (fun h0 => ?_))
  · have h0 := of_decide_eq_true h0
    have h1 := of_decide_eq_true h1
    rw [w64 (x := p.f0 + p.f1) (by omega) (by omega)]
    by_cases h2 : p.f0 + p.f1 < 1
    · rw [ofd1 h2, ofd (p := okP p) (fun g => by have := g.2.2.1; omega)]; exact jt
    · rw [ofd h2]
      refine ev_succ ?_; simp only [spec_l05One.j0]
      refine ev_neg (by simp) (ev_if (fun h3 => ?_) (fun h3 => ?_))
      · rw [w64 (x := p.f1 - p.f0) (by omega) (by omega)]
        refine ev_now (l00In_eq _ _ _) (ev_some ?_)
        congr 1
        apply decide_eq_decide.2; unfold okP; rw [if_pos h3]
        exact ⟨fun g => ⟨h0, h1, by omega, g⟩, fun g => g.2.2.2⟩
      · rw [w64 (x := p.f0 - p.f1) (by omega) (by omega)]
        refine ev_now (l00In_eq _ _ _) (ev_some ?_)
        congr 1
        apply decide_eq_decide.2; unfold okP; rw [if_neg h3]
        exact ⟨fun g => ⟨h0, h1, by omega, g⟩, fun g => g.2.2.2⟩
  · rw [ofd (p := okP p) (fun g => h1 (ofd1 g.2.1))]; exact jt
  · rw [ofd (p := okP p) (fun g => h0 (ofd1 g.1))]; exact jt
theorem validPurchase_ev (p : Pu) : Ev (fun k => impl_ValidPurchase.f k p.f0 p.f1 p.f2) (decide (okP p)) := by
  have jt : Ev (fun k => impl_ValidPurchase.j0 k true p.f0 p.f1 p.f2) false := by
    refine ev_succ ?_; simp only [impl_ValidPurchase.j0]; exact ev_pos (by trivial) (Ev.now _)
  simp only [impl_ValidPurchase.f]
  refine ev_now (within_eq _ _ _) (ev_if (fun h0 => ev_now (within_eq _ _ _) (ev_if (fun h1 => ?_) (fun h1 => ?_))) (fun h0 => ?_))
  · have h0 := of_decide_eq_true h0
    have h1 := of_decide_eq_true h1
    rw [w64 (x := p.f0 + p.f1) (by omega) (by omega)]
    by_cases h2 : p.f0 + p.f1 = 0
    · rw [beq_iff_eq.2 h2, ofd (p := okP p) (fun g => by have := g.2.2.1; omega)]; exact jt
    · rw [beq_eq_false_iff_ne.2 h2]
      refine ev_succ ?_; simp only [impl_ValidPurchase.j0]
      refine ev_neg (by simp) (ev_if (fun h3 => ?_) (fun h3 => ?_))
      · rw [w64 (x := p.f1 - p.f0) (by omega) (by omega)]
        refine ev_now (within_eq _ _ _) (ev_some ?_)
        apply decide_eq_decide.2; unfold okP; rw [if_pos h3]
        exact ⟨fun g => ⟨h0, h1, by omega, g⟩, fun g => g.2.2.2⟩
      · rw [w64 (x := p.f0 - p.f1) (by omega) (by omega)]
        refine ev_now (within_eq _ _ _) (ev_some ?_)
        apply decide_eq_decide.2; unfold okP; rw [if_neg h3]
        exact ⟨fun g => ⟨h0, h1, by omega, g⟩, fun g => g.2.2.2⟩
  · rw [ofd (p := okP p) (fun g => h1 (ofd1 g.2.1))]; exact jt
  · rw [ofd (p := okP p) (fun g => h0 (ofd1 g.1))]; exact jt

theorem tm0 (x : Int) : x.tmod 2 = 0 ↔ x % 2 = 0 :=
  ⟨fun h => Int.emod_eq_zero_of_dvd (Int.dvd_of_tmod_eq_zero h), fun h => Int.tmod_eq_zero_of_dvd (Int.dvd_of_emod_eq_zero h)⟩
def lastB (p : Pu) : Int := if p.f2 = true then 1 else 0
def blockB (p : Pu) (i : Int) : Int := if (p.f0 + p.f1 - 1 - i) % 2 = 0 then lastB p else 1 - lastB p
theorem blockB_01 (p : Pu) (i : Int) : blockB p i = 0 ∨ blockB p i = 1 := by
  unfold blockB lastB; repeat' split
  all_goals simp
theorem blockB_next (p : Pu) (i : Int) : 1 - blockB p i = blockB p (i + 1) := by
  unfold blockB
  by_cases h : (p.f0 + p.f1 - 1 - i) % 2 = 0
  · rw [if_pos h, if_neg (by omega)]
  · rw [if_neg h, if_pos (by omega)]; omega
def manyB (p : Pu) (b : Int) : Int := if b = 0 then p.f0 else p.f1
theorem first_ev (p : Pu) (hp : okP p) : spec_l07First.f p.f0 p.f1 p.f2 = some (blockB p 0, p.f0, p.f1, p.f2) := by
  obtain ⟨h0, h1, h2, _⟩ := hp
  unfold spec_l07First.f blockB lastB
  rw [w64 (by omega) (by omega), Int.tmod_eq_emod_of_nonneg (by omega)]
  by_cases h : p.f2 = true
  · rw [if_pos h, if_pos h]
    by_cases g : (p.f0 + p.f1) % 2 = 1
    · rw [if_pos g, if_pos (by omega)]
    · rw [if_neg g, if_neg (by omega)]
  · rw [if_neg h, if_neg h]
    by_cases g : (p.f0 + p.f1) % 2 = 1
    · rw [if_pos g, if_pos (by omega)]
    · rw [if_neg g, if_neg (by omega)]
theorem blockAt_eq (p : Pu) (hp : okP p) (i : Int) (h0 : 0 ≤ i) (h1 : i ≤ 4611686018427387904) : impl_blockAt.f p.f0 p.f1 p.f2 i = some (blockB p i) := by
  obtain ⟨g0, g1, g2, _⟩ := hp
  unfold impl_blockAt.f blockB lastB
  rw [w64 (x := p.f0 + p.f1) (by omega) (by omega), w64 (x := p.f0 + p.f1 - 1) (by omega) (by omega), w64 (x := p.f0 + p.f1 - 1 - i) (by omega) (by omega)]
  simp only [tm0]
  repeat' split
  all_goals rfl
def wF (w : List S56) (x : S56) : Bool := w.any fun y => y.f0 == x.f0 && y.f1 == x.f1
theorem wF_drop {w : List S56} {i : Nat} (h : i < w.length) (x : S56) : wF (w.drop i) x = ((w[i].f0 == x.f0 && w[i].f1 == x.f1) || wF (w.drop (i + 1)) x) := by
  rw [List.drop_eq_getElem_cons h]; rfl
theorem idx_ev (w : List S56) (x : S56) (hn : w.length ≤ 1048576) : ∀ (d i : Nat), i + d = w.length → ∃ r : Int, Ev (fun k => impl_Stop_70.l0 k w (w.length : Int) (i : Int) x.f0 x.f1) r ∧ decide (r ≥ 0) = wF (w.drop i) x
  | 0, i, hd => by
    refine ⟨-1, ?_, ?_⟩
    · refine ev_succ ?_; simp only [impl_Stop_70.l0]; exact ev_neg (by omega) (Ev.now _)
    · rw [show w.drop i = [] by simp; omega]; rfl
  | d + 1, i, hd => by
    have hi : i < w.length := by omega
    obtain ⟨r, e1, e2⟩ := idx_ev w x hn d (i + 1) (by omega)
    by_cases h : (x.f0 == w[i].f0 && x.f1 == w[i].f1) = true
    · refine ⟨(i : Int), ?_, ?_⟩
      · refine ev_succ ?_; simp only [impl_Stop_70.l0]; rw [rdIStop hi]
        exact ev_pos (by omega) (ev_pos (by omega) (ev_pos (by omega) (ev_pos h (Ev.now _))))
      · rw [wF_drop hi, show (w[i].f0 == x.f0 && w[i].f1 == x.f1) = true by simp at h ⊢; omega]; simp
    · refine ⟨r, ?_, ?_⟩
      · refine ev_succ ?_; simp only [impl_Stop_70.l0]; rw [rdIStop hi, w64s (by omega)]
        exact ev_pos (by omega) (ev_pos (by omega) (ev_pos (by omega) (ev_neg h e1)))
      · rw [e2, wF_drop hi, show (w[i].f0 == x.f0 && w[i].f1 == x.f1) = false by simp at h ⊢; omega]; rfl
theorem contains_ev (w : List S56) (x : S56) (hn : w.length ≤ 1048576) : Ev (fun k => impl_Stop_67.f k w x.f0 x.f1) (wF w x) := by
  obtain ⟨r, e1, e2⟩ := idx_ev w x hn w.length 0 (by omega)
  simp only [impl_Stop_67.f, impl_Stop_70.f]
  exact Ev.bind e1 (ev_some e2)
theorem sFault_l1 (w : List S56) (hn : w.length ≤ 1048576) (b : Int) (hb : b = 0 ∨ b = 1) (p : Pu) (i : Nat) (hi : i < w.length) (r : ByteArray × Int × Int × Int × Bool)
    (h1 : wF (w.take i) w[i] = true → r = ((⟨#[116, 119, 105, 99, 101]⟩ : ByteArray), (i : Int), p.f0, p.f1, p.f2))
    (h2 : wF (w.take i) w[i] = false → Ev (fun k => spec_l07Fault.l0 k w (1 - b) ((i + 1 : Nat) : Int) p.f0 p.f1 p.f2) r) : ∀ (d j : Nat), j + d = i → wF (w.take i) w[i] = wF ((w.take i).drop j) w[i] →
    Ev (fun k => spec_l07Fault.l1 k w b (i : Int) (j : Int) p.f0 p.f1 p.f2 w[i].f0 w[i].f1) r
  | 0, j, hd, hs => by
    refine ev_succ ?_; simp only [spec_l07Fault.l1]
    rw [w64s (i := i) (by omega), w64 (x := 1 - b) (by omega) (by omega)]
    refine ev_neg (by omega) (h2 ?_)
    rw [hs, show (w.take i).drop j = [] by simp; omega]; rfl
  | d + 1, j, hd, hs => by
    have hj : j < (w.take i).length := by simp; omega
    refine ev_succ ?_; simp only [spec_l07Fault.l1]
    rw [rdIStop (show j < w.length by omega), w64s (by omega)]
    rw [wF_drop hj, List.getElem_take] at hs
    refine ev_pos (by omega) (ev_pos (by omega) (ev_pos (by omega) (ev_if (fun h => ev_some ?_) (fun h => ?_))))
    · symm; apply h1; rw [hs, h]; rfl
    · refine sFault_l1 w hn b hb p i hi r h1 h2 d (j + 1) (by omega) ?_
      rw [hs, Bool.eq_false_iff.2 h]; rfl
theorem fault_l0 (w : List S56) (hn : w.length ≤ 1048576) (p : Pu) (hp : okP p) : ∀ (d i : Nat), i + d = w.length →
    ∃ r : ByteArray × Int, Ev (fun k => spec_l07Fault.l0 k w (blockB p i) (i : Int) p.f0 p.f1 p.f2) (r.1, r.2, p.f0, p.f1, p.f2) ∧ Ev (fun k => impl_wayFault.l0 k w w (w.length : Int) (i : Int) p.f0 p.f1 p.f2) r
  | 0, i, hd => by
    obtain ⟨g0, g1, g2, _⟩ := hp
    by_cases h : (w.length : Int) < p.f0 + p.f1
    · refine ⟨((⟨#[115, 104, 111, 114, 116]⟩ : ByteArray), (w.length : Int)), ?_, ?_⟩
      · refine ev_succ ?_; simp only [spec_l07Fault.l0]; rw [w64 (x := p.f0 + p.f1) (by omega) (by omega)]
        exact ev_neg (by omega) (ev_pos h (Ev.now _))
      · refine ev_succ ?_; simp only [impl_wayFault.l0]; rw [w64 (x := p.f0 + p.f1) (by omega) (by omega)]
        exact ev_neg (by omega) (ev_pos h (Ev.now _))
    · refine ⟨((⟨#[110, 111, 110, 101]⟩ : ByteArray), -1), ?_, ?_⟩
      · refine ev_succ ?_; simp only [spec_l07Fault.l0]; rw [w64 (x := p.f0 + p.f1) (by omega) (by omega)]
        exact ev_neg (by omega) (ev_neg h (Ev.now _))
      · refine ev_succ ?_; simp only [impl_wayFault.l0]; rw [w64 (x := p.f0 + p.f1) (by omega) (by omega)]
        exact ev_neg (by omega) (ev_neg h (Ev.now _))
  | d + 1, i, hd => by
    have hi : i < w.length := by omega
    obtain ⟨r0, e1, e2⟩ := fault_l0 w hn p hp d (i + 1) (by omega)
    have b01 := blockB_01 p i
    have ba := blockAt_eq p hp i (by omega) (by omega)
    have bn := blockB_next p i
    rw [show ((i : Int) + 1) = ((i + 1 : Nat) : Int) by omega] at bn
    obtain ⟨g0, g1, g2, _⟩ := hp
    by_cases h : w[i].f0 = blockB p i
    · have es : impl_sheavesAt.f p.f0 p.f1 p.f2 (w[i].f0) = some (manyB p (blockB p i)) := by
        rw [h]; unfold impl_sheavesAt.f manyB
        rcases b01 with q | q <;> rw [q] <;> simp
      have em : spec_l07Many.f p.f0 p.f1 p.f2 (blockB p i) = some (manyB p (blockB p i), p.f0, p.f1, p.f2) := by
        unfold spec_l07Many.f manyB; split <;> rfl
      have mb : 0 ≤ manyB p (blockB p i) ∧ manyB p (blockB p i) ≤ 4 := by unfold manyB; split <;> omega
      by_cases g : 0 ≤ w[i].f1 ∧ w[i].f1 ≤ manyB p (blockB p i) - 1
      · have ec := contains_ev (w.take i) w[i] (by simp; omega)
        by_cases t : wF (w.take i) w[i] = true
        · refine ⟨((⟨#[116, 119, 105, 99, 101]⟩ : ByteArray), (i : Int)), ?_, ?_⟩
          · refine ev_succ ?_; simp only [spec_l07Fault.l0]; rw [rdIStop hi]
            refine ev_pos (by omega) (ev_pos (by omega) (ev_pos h (ev_now em ?_)))
            rw [w64 (by omega) (by omega)]
            refine ev_now (l00In_eq _ _ _) (ev_pos (ofd1 g) ?_)
            exact sFault_l1 w hn _ b01 p i hi _ (fun _ => rfl) (fun q => by rw [t] at q; cases q) i 0 (by omega) (by simp)
          · refine ev_succ ?_; simp only [impl_wayFault.l0]; rw [rdIStop hi]
            refine ev_pos (by omega) (ev_pos (by omega) (ev_pos (by omega) (ev_now ba (ev_pos h (ev_now es ?_)))))
            rw [w64 (x := manyB p (blockB p i) - 1) (by omega) (by omega)]
            refine ev_now (within_eq _ _ _) (ev_pos (ofd1 g) (ev_pos (by omega) ?_))
            rw [Int.toNat_natCast]
            exact Ev.bind ec (ev_pos t (Ev.now _))
        · refine ⟨r0, ?_, ?_⟩
          · refine ev_succ ?_; simp only [spec_l07Fault.l0]; rw [rdIStop hi]
            refine ev_pos (by omega) (ev_pos (by omega) (ev_pos h (ev_now em ?_)))
            rw [w64 (by omega) (by omega)]
            refine ev_now (l00In_eq _ _ _) (ev_pos (ofd1 g) ?_)
            exact sFault_l1 w hn _ b01 p i hi _ (fun q => absurd q t) (fun _ => by rw [bn]; exact e1) i 0 (by omega) (by simp)
          · refine ev_succ ?_; simp only [impl_wayFault.l0]; rw [rdIStop hi]
            refine ev_pos (by omega) (ev_pos (by omega) (ev_pos (by omega) (ev_now ba (ev_pos h (ev_now es ?_)))))
            rw [w64 (x := manyB p (blockB p i) - 1) (by omega) (by omega)]
            refine ev_now (within_eq _ _ _) (ev_pos (ofd1 g) (ev_pos (by omega) ?_))
            rw [Int.toNat_natCast, w64s (by omega)]
            exact Ev.bind ec (ev_neg t e2)
      · refine ⟨((⟨#[115, 104, 101, 97, 118, 101]⟩ : ByteArray), (i : Int)), ?_, ?_⟩
        · refine ev_succ ?_; simp only [spec_l07Fault.l0]; rw [rdIStop hi]
          refine ev_pos (by omega) (ev_pos (by omega) (ev_pos h (ev_now em ?_)))
          rw [w64 (by omega) (by omega)]
          exact ev_now (l00In_eq _ _ _) (ev_neg (by rw [decide_eq_true_eq]; exact g) (Ev.now _))
        · refine ev_succ ?_; simp only [impl_wayFault.l0]; rw [rdIStop hi]
          refine ev_pos (by omega) (ev_pos (by omega) (ev_pos (by omega) (ev_now ba (ev_pos h (ev_now es ?_)))))
          rw [w64 (x := manyB p (blockB p i) - 1) (by omega) (by omega)]
          exact ev_now (within_eq _ _ _) (ev_neg (by rw [decide_eq_true_eq]; exact g) (Ev.now _))
    · refine ⟨((⟨#[98, 108, 111, 99, 107]⟩ : ByteArray), (i : Int)), ?_, ?_⟩
      · refine ev_succ ?_; simp only [spec_l07Fault.l0]; rw [rdIStop hi]
        exact ev_pos (by omega) (ev_pos (by omega) (ev_neg h (Ev.now _)))
      · refine ev_succ ?_; simp only [impl_wayFault.l0]; rw [rdIStop hi]
        exact ev_pos (by omega) (ev_pos (by omega) (ev_pos (by omega) (ev_now ba (ev_neg h (Ev.now _)))))
theorem fault_ev (w : List S56) (hn : w.length ≤ 1048576) (p : Pu) (hp : okP p) :
    ∃ r : ByteArray × Int, Ev (fun k => spec_l07Fault.f k p.f0 p.f1 p.f2 w) (r.1, r.2, p.f0, p.f1, p.f2) ∧ Ev (fun k => impl_wayFault.f k p.f0 p.f1 p.f2 w) r := by
  obtain ⟨r, e1, e2⟩ := fault_l0 w hn p hp w.length 0 (by omega)
  refine ⟨r, ?_, ?_⟩
  · simp only [spec_l07Fault.f]; exact ev_now (first_ev p hp) e1
  · simp only [impl_wayFault.f]; exact e2

theorem fault2_l0 (w : List S56) (hn : w.length ≤ 1048576) (p : Pu) (hp : okP p) : ∀ (d i : Nat), i + d = w.length →
    ∃ r : ByteArray × Int, Ev (fun k => spec_l07Fault.l0 k w (blockB p i) (i : Int) p.f0 p.f1 p.f2) (r.1, r.2, p.f0, p.f1, p.f2) ∧ Ev (fun k => impl_wayFault.l0 k w w (w.length : Int) (i : Int) p.f0 p.f1 p.f2) r ∧ (r.1.toList = ([110, 111, 110, 101] : List UInt8) → ∀ j (h : j < w.length), i ≤ j → w[j].f0 = 0 ∨ w[j].f0 = 1)
  | 0, i, hd => by
    obtain ⟨g0, g1, g2, _⟩ := hp
    by_cases h : (w.length : Int) < p.f0 + p.f1
    · refine ⟨((⟨#[115, 104, 111, 114, 116]⟩ : ByteArray), (w.length : Int)), ?_, ?_, fun _ j hj hij => by omega⟩
      · refine ev_succ ?_; simp only [spec_l07Fault.l0]; rw [w64 (x := p.f0 + p.f1) (by omega) (by omega)]
        exact ev_neg (by omega) (ev_pos h (Ev.now _))
      · refine ev_succ ?_; simp only [impl_wayFault.l0]; rw [w64 (x := p.f0 + p.f1) (by omega) (by omega)]
        exact ev_neg (by omega) (ev_pos h (Ev.now _))
    · refine ⟨((⟨#[110, 111, 110, 101]⟩ : ByteArray), -1), ?_, ?_, fun _ j hj hij => by omega⟩
      · refine ev_succ ?_; simp only [spec_l07Fault.l0]; rw [w64 (x := p.f0 + p.f1) (by omega) (by omega)]
        exact ev_neg (by omega) (ev_neg h (Ev.now _))
      · refine ev_succ ?_; simp only [impl_wayFault.l0]; rw [w64 (x := p.f0 + p.f1) (by omega) (by omega)]
        exact ev_neg (by omega) (ev_neg h (Ev.now _))
  | d + 1, i, hd => by
    have hi : i < w.length := by omega
    obtain ⟨r0, e1, e2, e3⟩ := fault2_l0 w hn p hp d (i + 1) (by omega)
    have b01 := blockB_01 p i
    have ba := blockAt_eq p hp i (by omega) (by omega)
    have bn := blockB_next p i
    rw [show ((i : Int) + 1) = ((i + 1 : Nat) : Int) by omega] at bn
    obtain ⟨g0, g1, g2, _⟩ := hp
    by_cases h : w[i].f0 = blockB p i
    · have es : impl_sheavesAt.f p.f0 p.f1 p.f2 (w[i].f0) = some (manyB p (blockB p i)) := by
        rw [h]; unfold impl_sheavesAt.f manyB
        rcases b01 with q | q <;> rw [q] <;> simp
      have em : spec_l07Many.f p.f0 p.f1 p.f2 (blockB p i) = some (manyB p (blockB p i), p.f0, p.f1, p.f2) := by
        unfold spec_l07Many.f manyB; split <;> rfl
      have mb : 0 ≤ manyB p (blockB p i) ∧ manyB p (blockB p i) ≤ 4 := by unfold manyB; split <;> omega
      by_cases g : 0 ≤ w[i].f1 ∧ w[i].f1 ≤ manyB p (blockB p i) - 1
      · have ec := contains_ev (w.take i) w[i] (by simp; omega)
        by_cases t : wF (w.take i) w[i] = true
        · refine ⟨((⟨#[116, 119, 105, 99, 101]⟩ : ByteArray), (i : Int)), ?_, ?_, fun q => absurd q (show ¬ (⟨#[116, 119, 105, 99, 101]⟩ : ByteArray).toList = ([110, 111, 110, 101] : List UInt8) from by decide +kernel)⟩
          · refine ev_succ ?_; simp only [spec_l07Fault.l0]; rw [rdIStop hi]
            refine ev_pos (by omega) (ev_pos (by omega) (ev_pos h (ev_now em ?_)))
            rw [w64 (by omega) (by omega)]
            refine ev_now (l00In_eq _ _ _) (ev_pos (ofd1 g) ?_)
            exact sFault_l1 w hn _ b01 p i hi _ (fun _ => rfl) (fun q => by rw [t] at q; cases q) i 0 (by omega) (by simp)
          · refine ev_succ ?_; simp only [impl_wayFault.l0]; rw [rdIStop hi]
            refine ev_pos (by omega) (ev_pos (by omega) (ev_pos (by omega) (ev_now ba (ev_pos h (ev_now es ?_)))))
            rw [w64 (x := manyB p (blockB p i) - 1) (by omega) (by omega)]
            refine ev_now (within_eq _ _ _) (ev_pos (ofd1 g) (ev_pos (by omega) ?_))
            rw [Int.toNat_natCast]
            exact Ev.bind ec (ev_pos t (Ev.now _))
        · refine ⟨r0, ?_, ?_, fun q j hj hij => by
            rcases Nat.eq_or_lt_of_le hij with z | z
            · subst z; rw [h]; exact b01
            · exact e3 q j hj z⟩
          · refine ev_succ ?_; simp only [spec_l07Fault.l0]; rw [rdIStop hi]
            refine ev_pos (by omega) (ev_pos (by omega) (ev_pos h (ev_now em ?_)))
            rw [w64 (by omega) (by omega)]
            refine ev_now (l00In_eq _ _ _) (ev_pos (ofd1 g) ?_)
            exact sFault_l1 w hn _ b01 p i hi _ (fun q => absurd q t) (fun _ => by rw [bn]; exact e1) i 0 (by omega) (by simp)
          · refine ev_succ ?_; simp only [impl_wayFault.l0]; rw [rdIStop hi]
            refine ev_pos (by omega) (ev_pos (by omega) (ev_pos (by omega) (ev_now ba (ev_pos h (ev_now es ?_)))))
            rw [w64 (x := manyB p (blockB p i) - 1) (by omega) (by omega)]
            refine ev_now (within_eq _ _ _) (ev_pos (ofd1 g) (ev_pos (by omega) ?_))
            rw [Int.toNat_natCast, w64s (by omega)]
            exact Ev.bind ec (ev_neg t e2)
      · refine ⟨((⟨#[115, 104, 101, 97, 118, 101]⟩ : ByteArray), (i : Int)), ?_, ?_, fun q => absurd q (show ¬ (⟨#[115, 104, 101, 97, 118, 101]⟩ : ByteArray).toList = ([110, 111, 110, 101] : List UInt8) from by decide +kernel)⟩
        · refine ev_succ ?_; simp only [spec_l07Fault.l0]; rw [rdIStop hi]
          refine ev_pos (by omega) (ev_pos (by omega) (ev_pos h (ev_now em ?_)))
          rw [w64 (by omega) (by omega)]
          exact ev_now (l00In_eq _ _ _) (ev_neg (by rw [decide_eq_true_eq]; exact g) (Ev.now _))
        · refine ev_succ ?_; simp only [impl_wayFault.l0]; rw [rdIStop hi]
          refine ev_pos (by omega) (ev_pos (by omega) (ev_pos (by omega) (ev_now ba (ev_pos h (ev_now es ?_)))))
          rw [w64 (x := manyB p (blockB p i) - 1) (by omega) (by omega)]
          exact ev_now (within_eq _ _ _) (ev_neg (by rw [decide_eq_true_eq]; exact g) (Ev.now _))
    · refine ⟨((⟨#[98, 108, 111, 99, 107]⟩ : ByteArray), (i : Int)), ?_, ?_, fun q => absurd q (show ¬ (⟨#[98, 108, 111, 99, 107]⟩ : ByteArray).toList = ([110, 111, 110, 101] : List UInt8) from by decide +kernel)⟩
      · refine ev_succ ?_; simp only [spec_l07Fault.l0]; rw [rdIStop hi]
        exact ev_pos (by omega) (ev_pos (by omega) (ev_neg h (Ev.now _)))
      · refine ev_succ ?_; simp only [impl_wayFault.l0]; rw [rdIStop hi]
        exact ev_pos (by omega) (ev_pos (by omega) (ev_pos (by omega) (ev_now ba (ev_neg h (Ev.now _)))))
theorem fault2_ev (w : List S56) (hn : w.length ≤ 1048576) (p : Pu) (hp : okP p) :
    ∃ r : ByteArray × Int, Ev (fun k => spec_l07Fault.f k p.f0 p.f1 p.f2 w) (r.1, r.2, p.f0, p.f1, p.f2) ∧ Ev (fun k => impl_wayFault.f k p.f0 p.f1 p.f2 w) r ∧ (r.1.toList = ([110, 111, 110, 101] : List UInt8) → ∀ j (h : j < w.length), w[j].f0 = 0 ∨ w[j].f0 = 1) := by
  obtain ⟨r, e1, e2, e3⟩ := fault2_l0 w hn p hp w.length 0 (by omega)
  refine ⟨r, ?_, ?_, fun q j hj => e3 q j hj (by omega)⟩
  · simp only [spec_l07Fault.f]; exact ev_now (first_ev p hp) e1
  · simp only [impl_wayFault.f]; exact e2
theorem code_both (p : Pu) (w : List S56) (hn : w.length ≤ 1048576) : ∃ c : Int, Ev (fun k => spec_l07Code.f k p.f0 p.f1 p.f2 w) (c, p.f0, p.f1, p.f2) ∧ Ev (fun k => impl_wayCode.f k p.f0 p.f1 p.f2 w) c ∧ (c = 0 → ∀ j (h : j < w.length), w[j].f0 = 0 ∨ w[j].f0 = 1) := by
  have e1 := l05One_ev p
  have e2 := validPurchase_ev p
  by_cases hp : okP p
  · rw [ofd1 hp] at e1 e2
    obtain ⟨r, e3, e4, e5⟩ := fault2_ev w hn p hp
    by_cases q : r.1.toList = ([110, 111, 110, 101] : List UInt8)
    · refine ⟨0, ?_, ?_, fun _ => e5 q⟩
      · simp only [spec_l07Code.f]; exact Ev.bind e1 (ev_pos (by trivial) (Ev.bind e3 (ev_pos q (Ev.now _))))
      · simp only [impl_wayCode.f]; exact Ev.bind e2 (ev_pos (by trivial) (Ev.bind e4 (ev_pos q (Ev.now _))))
    · refine ⟨8, ?_, ?_, fun h => by omega⟩
      · simp only [spec_l07Code.f]; exact Ev.bind e1 (ev_pos (by trivial) (Ev.bind e3 (ev_neg q (Ev.now _))))
      · simp only [impl_wayCode.f]; exact Ev.bind e2 (ev_pos (by trivial) (Ev.bind e4 (ev_neg q (Ev.now _))))
  · rw [ofd hp] at e1 e2
    refine ⟨1, ?_, ?_, fun h => by omega⟩
    · simp only [spec_l07Code.f]; exact Ev.bind e1 (ev_neg (by simp) (Ev.now _))
    · simp only [impl_wayCode.f]; exact Ev.bind e2 (ev_neg (by simp) (Ev.now _))

def mirror (p : Pu) (x : S56) : S56 := ⟨x.f0, wrap64 (wrap64 (manyB p x.f0 - 1) - x.f1)⟩
theorem sMirror_l0 (w : List S56) (hn : w.length ≤ 1048576) (p : Pu) : ∀ (d i : Nat), i + d = w.length → Ev (fun k => spec_MirrorWay.l0 k w ((w.take i).map (mirror p)) (i : Int) p.f0 p.f1 p.f2) (w.map (mirror p), 0)
  | 0, i, hd => by
    refine ev_succ ?_; simp only [spec_MirrorWay.l0]
    rw [List.take_of_length_le (by omega)]
    exact ev_neg (by omega) (Ev.now _)
  | d + 1, i, hd => by
    have hi : i < w.length := by omega
    have ih := sMirror_l0 w hn p d (i + 1) (by omega)
    rw [List.take_succ_eq_append_getElem hi, List.map_append] at ih
    refine ev_succ ?_; simp only [spec_MirrorWay.l0]
    rw [rdIStop hi, w64s (by omega)]
    have em : spec_l07Many.f p.f0 p.f1 p.f2 (w[i].f0) = some (manyB p (w[i].f0), p.f0, p.f1, p.f2) := by
      unfold spec_l07Many.f manyB; split <;> rfl
    exact ev_pos (by omega) (ev_pos (by omega) (ev_now em (ev_pos (by simp; omega) ih)))
theorem iMirror_l0 (w : List S56) (hn : w.length ≤ 1048576) (p : Pu) (hb : ∀ j (h : j < w.length), w[j].f0 = 0 ∨ w[j].f0 = 1) : ∀ (d i : Nat), i + d = w.length → Ev (fun k => impl_MirrorWay.l0 k ((w.take i).map (mirror p)) w (w.length : Int) (i : Int) p.f0 p.f1 p.f2) (w.map (mirror p), 0)
  | 0, i, hd => by
    refine ev_succ ?_; simp only [impl_MirrorWay.l0]
    rw [List.take_of_length_le (by omega)]
    exact ev_neg (by omega) (Ev.now _)
  | d + 1, i, hd => by
    have hi : i < w.length := by omega
    have ih := iMirror_l0 w hn p hb d (i + 1) (by omega)
    rw [List.take_succ_eq_append_getElem hi, List.map_append] at ih
    refine ev_succ ?_; simp only [impl_MirrorWay.l0]
    rw [rdIStop hi, w64s (by omega)]
    have em : impl_sheavesAt.f p.f0 p.f1 p.f2 (w[i].f0) = some (manyB p (w[i].f0)) := by
      unfold impl_sheavesAt.f manyB
      rcases hb i hi with q | q <;> rw [q] <;> simp
    exact ev_pos (by omega) (ev_pos (by omega) (ev_pos (by omega) (ev_now em (ev_pos (by simp; omega) ih))))
theorem key (p : Pu) (w : List S56) (hn : w.length ≤ 1048576) : ∃ r : List S56 × Int, r.1.length ≤ 1048576 ∧ Ev (fun k => spec_MirrorWay.f k p.f0 p.f1 p.f2 w) r ∧ Ev (fun k => impl_MirrorWay.f k p.f0 p.f1 p.f2 w) r := by
  obtain ⟨c, e1, e2, e3⟩ := code_both p w hn
  by_cases hc : c = 0
  · have s := sMirror_l0 w hn p w.length 0 (by omega)
    have i := iMirror_l0 w hn p (e3 hc) w.length 0 (by omega)
    refine ⟨(w.map (mirror p), 0), by simpa using hn, ?_, ?_⟩
    · simp only [spec_MirrorWay.f]; exact Ev.bind e1 (ev_pos hc (by simpa using s))
    · simp only [impl_MirrorWay.f]; exact Ev.bind e2 (ev_pos hc (by simpa using i))
  · refine ⟨([], c), by simp, ?_, ?_⟩
    · simp only [spec_MirrorWay.f]; exact Ev.bind e1 (ev_neg hc (Ev.now _))
    · simp only [impl_MirrorWay.f]; exact Ev.bind e2 (ev_neg hc (Ev.now _))
theorem FnExactMirrorWay : laws_FnExactMirrorWay.Pure := by
  intro a0 a1 a2 l1 _ _ hl _
  refine Ev.rounds ?_
  simp only [laws_FnExactMirrorWay.f]
  refine ev_now (szStopS_eq l1 1048576 hl (by omega) (by omega)) (ev_if (fun _ => Ev.now _) (fun h => ?_))
  have hn : l1.length ≤ 1048576 := by
    by_cases g : (1048576 : Int) - (l1.length : Int) < 0
    · rw [if_pos g] at h; omega
    · omega
  have t0 := toStopS_ev l1 hn
  have hm : (l1.map convStop).length ≤ 1048576 := by simpa using hn
  obtain ⟨⟨v, c⟩, hv, e1, e2⟩ := key ⟨a0, a1, a2⟩ (l1.map convStop) hm
  have hv : v.length ≤ 1048576 := hv
  have ev := eqStopS_self v hv
  have bf : (c != c) = false := by simp
  have e3 := markStopS_ev (l1.map convStop) 1 (by omega) (by omega)
  have mv := markStopS_ev v 1 (by omega) (by omega)
  have hd := heldStopS_ev 1 (by omega) v.length (by omega)
  have j2 : Ev (fun k => laws_FnExactMirrorWay.j2 k (mksStop 1 v.length) (1 + 2 * (v.length : Int)) false) true := by
    refine ev_succ ?_; simp only [laws_FnExactMirrorWay.j2]
    exact ev_neg (by simp) (Ev.bind hd (ev_neg (by omega) (ev_pos rfl (Ev.now _))))
  have j1 : Ev (fun k => laws_FnExactMirrorWay.j1 k l1 v c v false a0 a1 a2) true := by
    refine ev_succ ?_; simp only [laws_FnExactMirrorWay.j1]
    refine ev_neg (by simp) (Ev.bind mv (Ev.bind hd (ev_neg (by omega) (ev_pos rfl (ev_now rfl (Ev.bind t0 (Ev.bind e2 (Ev.bind ev (ev_pos (by trivial) ?_)))))))))
    rw [bf]; exact j2
  refine ev_now rfl (Ev.bind t0 (Ev.bind e1 (Ev.bind t0 (ev_now rfl (Ev.bind e2 (Ev.bind ev (ev_pos (by trivial) ?_)))))))
  rw [bf]
  refine ev_succ ?_; simp only [laws_FnExactMirrorWay.j0]
  refine ev_neg (by simp) (Ev.bind t0 (Ev.bind (eqStopS_self _ hm) (ev_pos (by trivial) (Ev.bind e3 (ev_neg (by omega) (Ev.bind ev (ev_pos (by trivial) ?_)))))))
  rw [bf]; exact j1

end Go.Proofs.Ytmpgcmfjjjmhmaa.PureFnExactMirrorWay
namespace Go.Proofs.Ytmpgcmfjjjmhmaa.Pure
open Go.Proofs.Ytmpgcmfjjjmhmaa.HFnExactMirrorWay
theorem FnExactMirrorWay : laws_FnExactMirrorWay.Pure := PureFnExactMirrorWay.FnExactMirrorWay
end Go.Proofs.Ytmpgcmfjjjmhmaa.Pure
