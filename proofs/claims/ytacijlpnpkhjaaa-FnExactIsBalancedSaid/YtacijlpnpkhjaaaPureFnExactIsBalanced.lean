/- The program's function answers as the statement says. Conditions: none beyond the given statement's own. -/
import Derived.Test.YtacijlpnpkhjaaaHBalx9
import Derived.Test.YtacijlpnpkhjaaaLib
set_option linter.unusedVariables false
set_option linter.unusedSimpArgs false
namespace Go.Proofs.Ytacijlpnpkhjaaa.PureFnExactIsBalanced
open Go.RowKit Go.Proofs.Ytacijlpnpkhjaaa.HBal Go.Proofs.YtacijlpnpkhjaaaW.PrintWords Go.Proofs.YtacijlpnpkhjaaaW.PrintLast Go.Proofs.YtacijlpnpkhjaaaW.PrintMore Go.Proofs.Ytacijlpnpkhjaaa.Lib
theorem l00In_eq (a b c : Int) : spec_l00In.f a b c = some (decide (b ≤ a ∧ a ≤ c)) := by
 unfold spec_l00In.f; by_cases h : a ≥ b <;> simp [h]
theorem within_eq (a b c : Int) : impl_within.f a b c = some (decide (b ≤ a ∧ a ≤ c)) := by
 unfold impl_within.f; by_cases h : a ≥ b <;> simp [h]
def convKnot (x : S113) : S82 := ⟨x.f0, x.f1, x.f2⟩
theorem rdLKnot {xs : List S113} {i : Nat} (h : i < xs.length) : rd_T113 xs (i : Int) = xs[i] := by
 unfold rd_T113; simp [List.getD_eq_getElem?_getD, h]
theorem rdIKnot {xs : List S82} {i : Nat} (h : i < xs.length) : rd_T82 xs (i : Int) = xs[i] := by
 unfold rd_T82; simp [List.getD_eq_getElem?_getD, h]
theorem toKnotS_l0 (x0 : List S113) (hn : x0.length ≤ 1048576) : ∀ (d i : Nat) (x3 : List S82), i + d = x0.length → x3.length = x0.length → x3.take i = (x0.map convKnot).take i →
  Ev (fun k => laws_toKnotS.l0 k x0 x3 (i : Int)) (x0.map convKnot)
 | 0, i, x3, hd, hl, ht => by
  refine ev_succ ?_
  simp only [laws_toKnotS.l0]
  refine ev_neg (by omega) (ev_some ?_)
  rw [List.take_of_length_le (by omega), List.take_of_length_le (by simp; omega)] at ht; exact ht
 | d + 1, i, x3, hd, hl, ht => by
  refine ev_succ ?_
  simp only [laws_toKnotS.l0]
  refine ev_pos (by omega) (ev_pos (by omega) (ev_now rfl (ev_pos (by omega) ?_)))
  rw [w64s (by omega), Int.toNat_natCast, rdLKnot (by omega)]
  exact toKnotS_l0 x0 hn d (i + 1) _ (by omega) (by simpa using hl) (take_set _ _ _ _ (by omega) (by simp; omega) ht (by simp [convKnot]))
theorem toKnotS_ev (l : List S113) (hn : l.length ≤ 1048576) : Ev (fun k => laws_toKnotS.f k l) (l.map convKnot) := by
 simp only [laws_toKnotS.f]
 refine ev_pos (by omega) (ev_pos (by omega) ?_)
 exact toKnotS_l0 l (by omega) l.length 0 _ (by omega) (by simp) (by simp)
def convBar (x : S115) : S84 := ⟨x.f0, x.f1, x.f2⟩
theorem rdLBar {xs : List S115} {i : Nat} (h : i < xs.length) : rd_T115 xs (i : Int) = xs[i] := by
 unfold rd_T115; simp [List.getD_eq_getElem?_getD, h]
theorem rdIBar {xs : List S84} {i : Nat} (h : i < xs.length) : rd_T84 xs (i : Int) = xs[i] := by
 unfold rd_T84; simp [List.getD_eq_getElem?_getD, h]
theorem toBarS_l0 (x0 : List S115) (hn : x0.length ≤ 1048576) : ∀ (d i : Nat) (x3 : List S84), i + d = x0.length → x3.length = x0.length → x3.take i = (x0.map convBar).take i →
  Ev (fun k => laws_toBarS.l0 k x0 x3 (i : Int)) (x0.map convBar)
 | 0, i, x3, hd, hl, ht => by
  refine ev_succ ?_
  simp only [laws_toBarS.l0]
  refine ev_neg (by omega) (ev_some ?_)
  rw [List.take_of_length_le (by omega), List.take_of_length_le (by simp; omega)] at ht; exact ht
 | d + 1, i, x3, hd, hl, ht => by
  refine ev_succ ?_
  simp only [laws_toBarS.l0]
  refine ev_pos (by omega) (ev_pos (by omega) (ev_now rfl (ev_pos (by omega) ?_)))
  rw [w64s (by omega), Int.toNat_natCast, rdLBar (by omega)]
  exact toBarS_l0 x0 hn d (i + 1) _ (by omega) (by simpa using hl) (take_set _ _ _ _ (by omega) (by simp; omega) ht (by simp [convBar]))
theorem toBarS_ev (l : List S115) (hn : l.length ≤ 1048576) : Ev (fun k => laws_toBarS.f k l) (l.map convBar) := by
 simp only [laws_toBarS.f]
 refine ev_pos (by omega) (ev_pos (by omega) ?_)
 exact toBarS_l0 l (by omega) l.length 0 _ (by omega) (by simp) (by simp)
theorem and_f1 {a b c d : Int} (h : ¬ c = d) : (a == b && c == d) = false := by simp [h]
theorem and_f0 {a b c d : Int} (h : ¬ a = b) : (a == b && c == d) = false := by simp [h]
def anyK (l : List S82) (a b : Int) : Bool := l.any fun o => o.f0 == a && o.f1 == b
def anyB (l : List S84) (a b : Int) : Bool := l.any fun o => o.f0 == a && o.f1 == b
theorem anyK_drop {l : List S82} {i : Nat} (h : i < l.length) (a b : Int) : anyK (l.drop i) a b = ((l[i].f0 == a && l[i].f1 == b) || anyK (l.drop (i + 1)) a b) := by
 rw [List.drop_eq_getElem_cons h]; rfl
theorem anyB_drop {l : List S84} {i : Nat} (h : i < l.length) (a b : Int) : anyB (l.drop i) a b = ((l[i].f0 == a && l[i].f1 == b) || anyB (l.drop (i + 1)) a b) := by
 rw [List.drop_eq_getElem_cons h]; rfl
def knotOk (pre : List S82) (k : S82) : Bool := decide (0 ≤ k.f0 ∧ k.f0 ≤ 12) && decide (0 ≤ k.f1 ∧ k.f1 ≤ 12) && !anyK pre k.f0 k.f1
def fixK (ks : List S82) (a : Int) : Bool := (rd_T82 ks a).f2
def barOk (ks : List S82) (pre : List S84) (b : S84) : Bool := decide (0 ≤ b.f0 ∧ b.f0 < b.f1 ∧ b.f1 < (ks.length : Int)) && !(fixK ks b.f0 && fixK ks b.f1) && !anyB pre b.f0 b.f1
def okKs : List S82 → List S82 → Bool
 | _, [] => true
 | pre, k :: l => knotOk pre k && okKs (pre ++ [k]) l
def okBs (ks : List S82) : List S84 → List S84 → Bool
 | _, [] => true
 | pre, b :: l => barOk ks pre b && okBs ks (pre ++ [b]) l
def freeC (ks : List S82) : Nat := (ks.filter fun k => !k.f2).length
def okF (ks : List S82) (bs : List S84) : Bool := decide (ks.length ≤ 8) && decide (bs.length ≤ 8) && (okKs [] ks && (okBs ks [] bs && decide (freeC ks ≤ 3)))
theorem okKs_step {l : List S82} {i : Nat} (h : i < l.length) : okKs (l.take i) (l.drop i) = (knotOk (l.take i) l[i] && okKs (l.take (i + 1)) (l.drop (i + 1))) := by
 rw [List.drop_eq_getElem_cons h, List.take_succ_eq_append_getElem h]; rfl
theorem okBs_step (ks : List S82) {l : List S84} {i : Nat} (h : i < l.length) : okBs ks (l.take i) (l.drop i) = (barOk ks (l.take i) l[i] && okBs ks (l.take (i + 1)) (l.drop (i + 1))) := by
 rw [List.drop_eq_getElem_cons h, List.take_succ_eq_append_getElem h]; rfl
theorem freeC_step {l : List S82} {i : Nat} (h : i < l.length) : freeC (l.take (i + 1)) = freeC (l.take i) + if l[i].f2 = true then 0 else 1 := by
 rw [List.take_succ_eq_append_getElem h]; unfold freeC; rw [List.filter_append, List.length_append]
 congr 1
 cases h' : l[i].f2 <;> simp [List.filter, h']
theorem freeC_le (l : List S82) : freeC l ≤ l.length := List.length_filter_le ..
theorem s_l3 (ks : List S82) (bs : List S84) (n fr : Int) (i : Nat) (hi : i < bs.length) (hb : bs.length ≤ 8) (a b : Int) (c : Bool) (r : Bool) (h1 : anyB (bs.take i) a b = true → r = false)
  (h2 : anyB (bs.take i) a b = false → Ev (fun k => spec_l09Ok.l2 k n fr ((i + 1 : Nat) : Int) ks bs) r) : ∀ (d j : Nat), j + d = i → anyB (bs.take i) a b = anyB ((bs.take i).drop j) a b →
  Ev (fun k => spec_l09Ok.l3 k n fr (i : Int) (j : Int) ks bs a b c) r
 | 0, j, hd, hs => by
  refine ev_succ ?_; simp only [spec_l09Ok.l3]
  rw [w64s (i := i) (by omega)]
  refine ev_neg (by omega) (h2 ?_)
  rw [hs, show (bs.take i).drop j = [] by simp; omega]; rfl
 | d + 1, j, hd, hs => by
  have hj : j < (bs.take i).length := by simp; omega
  rw [anyB_drop hj, List.getElem_take] at hs
  refine ev_succ ?_; simp only [spec_l09Ok.l3]
  rw [rdIBar (show j < bs.length by omega), w64s (i := j) (by omega)]
  have next : (bs[j].f0 == a && bs[j].f1 == b) = false → Ev (fun k => spec_l09Ok.l3 k n fr (i : Int) ((j + 1 : Nat) : Int) ks bs a b c) r := fun g => by
   refine s_l3 ks bs n fr i hi hb a b c r h1 h2 d (j + 1) (by omega) ?_
   rw [hs, g]; rfl
  refine ev_pos (by omega) (ev_pos (by omega) (ev_pos (by omega) (ev_if (fun g1 => ev_if (fun g2 => ev_some ?_) (fun g2 => next ?_)) (fun g1 => next ?_))))
  ·symm; apply h1; rw [hs, g1, g2]; simp
  ·exact and_f1 g2
  ·exact and_f0 g1
theorem s_l2 (ks : List S82) (bs : List S84) (hk : ks.length ≤ 8) (hb : bs.length ≤ 8) (fr : Int) : ∀ (d i : Nat), i + d = bs.length →
  Ev (fun k => spec_l09Ok.l2 k (ks.length : Int) fr (i : Int) ks bs) (okBs ks (bs.take i) (bs.drop i) && decide (fr ≤ 3))
 | 0, i, hd => by
  refine ev_succ ?_; simp only [spec_l09Ok.l2]
  refine ev_neg (by omega) (ev_some ?_)
  rw [show bs.drop i = [] by simp; omega]; rfl
 | d + 1, i, hd => by
  have hi : i < bs.length := by omega
  have ih := s_l2 ks bs hk hb fr d (i + 1) (by omega)
  rw [okBs_step ks hi]
  have bad : ∀ (a b : Int) (c : Bool), Ev (fun k => spec_l09Ok.j6 k (ks.length : Int) fr (i : Int) true ks bs a b c) false := fun a b c => by
   refine ev_succ ?_; simp only [spec_l09Ok.j6]; exact ev_pos (by trivial) (Ev.now _)
  refine ev_succ ?_; simp only [spec_l09Ok.l2]
  rw [rdIBar hi]
  generalize hx : bs[i] = x at *
  rw [w64 (x := (ks.length : Int) - 1) (by omega) (by omega)]
  refine ev_pos (by omega) (ev_pos (by omega) (ev_now (l00In_eq _ _ _) (ev_if (fun g1 => ?_) (fun g1 => ?_))))
  ·have g1 := of_decide_eq_true g1
   rw [w64 (x := x.f0 + 1) (by omega) (by omega)]
   refine ev_now (l00In_eq _ _ _) (ev_if (fun g2 => ?_) (fun g2 => ?_))
   ·have g2 := of_decide_eq_true g2
    have good : decide (0 ≤ x.f0 ∧ x.f0 < x.f1 ∧ x.f1 < (ks.length : Int)) = true := decide_eq_true (by omega)
    have main : ∀ q : Bool, q = (fixK ks x.f0 && fixK ks x.f1) → Ev (fun k => spec_l09Ok.j6 k (ks.length : Int) fr (i : Int) q ks bs x.f0 x.f1 x.f2) ((barOk ks (bs.take i) x && okBs ks (bs.take (i + 1)) (bs.drop (i + 1))) && decide (fr ≤ 3)) := by
     intro q hq
     unfold barOk; rw [good, ← hq]
     refine ev_succ ?_; simp only [spec_l09Ok.j6]
     refine ev_if (fun h => ev_some (by rw [h]; simp)) (fun h => ?_)
     have h : q = false := Bool.eq_false_iff.2 h
     refine s_l3 ks bs _ fr i hi hb x.f0 x.f1 x.f2 _ (fun g => ?_) (fun g => ?_) i 0 (by omega) (by simp)
     ·rw [g]; simp
     ·rw [g, h]; simpa using ih
    refine ev_pos (by omega) (ev_pos (by omega) (ev_if (fun h => ev_pos (by omega) (ev_pos (by omega) (main _ ?_))) (fun h => main _ ?_)))
    ·unfold fixK; rw [h]; rfl
    ·unfold fixK; rw [Bool.eq_false_iff.2 h]; rfl
   ·rw [show barOk ks (bs.take i) x = false by unfold barOk; rw [decide_eq_false (by intro g; apply g2; apply decide_eq_true; omega)]; rfl]
    exact bad _ _ _
  ·rw [show barOk ks (bs.take i) x = false by unfold barOk; rw [decide_eq_false (by intro g; apply g1; apply decide_eq_true; omega)]; rfl]
   exact bad _ _ _
theorem s_l1 (ks : List S82) (bs : List S84) (n fr : Int) (i : Nat) (hi : i < ks.length) (hb : ks.length ≤ 8) (a b : Int) (c : Bool) (r : Bool) (h1 : anyK (ks.take i) a b = true → r = false)
  (h2 : anyK (ks.take i) a b = false → Ev (fun k => spec_l09Ok.l0 k n fr ((i + 1 : Nat) : Int) ks bs) r) : ∀ (d j : Nat), j + d = i → anyK (ks.take i) a b = anyK ((ks.take i).drop j) a b →
  Ev (fun k => spec_l09Ok.l1 k n fr (i : Int) (j : Int) ks bs a b c) r
 | 0, j, hd, hs => by
  refine ev_succ ?_; simp only [spec_l09Ok.l1]
  rw [w64s (i := i) (by omega)]
  refine ev_neg (by omega) (h2 ?_)
  rw [hs, show (ks.take i).drop j = [] by simp; omega]; rfl
 | d + 1, j, hd, hs => by
  have hj : j < (ks.take i).length := by simp; omega
  rw [anyK_drop hj, List.getElem_take] at hs
  refine ev_succ ?_; simp only [spec_l09Ok.l1]
  rw [rdIKnot (show j < ks.length by omega), w64s (i := j) (by omega)]
  have next : (ks[j].f0 == a && ks[j].f1 == b) = false → Ev (fun k => spec_l09Ok.l1 k n fr (i : Int) ((j + 1 : Nat) : Int) ks bs a b c) r := fun g => by
   refine s_l1 ks bs n fr i hi hb a b c r h1 h2 d (j + 1) (by omega) ?_
   rw [hs, g]; rfl
  refine ev_pos (by omega) (ev_pos (by omega) (ev_pos (by omega) (ev_if (fun g1 => ev_if (fun g2 => ev_some ?_) (fun g2 => next ?_)) (fun g1 => next ?_))))
  ·symm; apply h1; rw [hs, g1, g2]; simp
  ·exact and_f1 g2
  ·exact and_f0 g1
theorem s_l0 (ks : List S82) (bs : List S84) (hk : ks.length ≤ 8) (hb : bs.length ≤ 8) : ∀ (d i : Nat), i + d = ks.length →
  Ev (fun k => spec_l09Ok.l0 k (ks.length : Int) (freeC (ks.take i) : Int) (i : Int) ks bs) (okKs (ks.take i) (ks.drop i) && (okBs ks [] bs && decide (freeC ks ≤ 3)))
 | 0, i, hd => by
  refine ev_succ ?_; simp only [spec_l09Ok.l0]
  refine ev_neg (by omega) ?_
  have e := s_l2 ks bs hk hb (freeC ks : Int) bs.length 0 (by omega)
  rw [show ks.drop i = [] by simp; omega, List.take_of_length_le (by omega)]
  rw [show decide (freeC ks ≤ 3) = decide ((freeC ks : Int) ≤ 3) by apply decide_eq_decide.2; omega]
  exact e
 | d + 1, i, hd => by
  have hi : i < ks.length := by omega
  have ih := s_l0 ks bs hk hb d (i + 1) (by omega)
  rw [freeC_step hi] at ih
  have fl := freeC_le (ks.take i)
  rw [List.length_take] at fl
  rw [okKs_step hi]
  have bad : ∀ (fr a b : Int) (c : Bool), Ev (fun k => spec_l09Ok.j2 k (ks.length : Int) fr (i : Int) true ks bs a b c) false := fun fr a b c => by
   refine ev_succ ?_; simp only [spec_l09Ok.j2]; exact ev_pos (by trivial) (Ev.now _)
  refine ev_succ ?_; simp only [spec_l09Ok.l0]
  rw [rdIKnot hi]
  generalize hx : ks[i] = x at *
  refine ev_pos (by omega) (ev_pos (by omega) (ev_now (l00In_eq _ _ _) (ev_if (fun g1 => ev_now (l00In_eq _ _ _) ?_) (fun g1 => ?_))))
  ·by_cases g2 : 0 ≤ x.f1 ∧ x.f1 ≤ 12
   ·rw [decide_eq_true g2]
    have last : ∀ fr : Int, fr = ((freeC (ks.take i) + if x.f2 = true then 0 else 1 : Nat) : Int) → Ev (fun k => spec_l09Ok.j3 k (ks.length : Int) fr (i : Int) ks bs x.f0 x.f1 x.f2) ((knotOk (ks.take i) x && okKs (ks.take (i + 1)) (ks.drop (i + 1))) && (okBs ks [] bs && decide (freeC ks ≤ 3))) := by
     intro fr hfr
     refine ev_succ ?_; simp only [spec_l09Ok.j3]
     unfold knotOk; rw [g1, decide_eq_true g2]
     refine s_l1 ks bs _ fr i hi hk x.f0 x.f1 x.f2 _ (fun g => ?_) (fun g => ?_) i 0 (by omega) (by simp)
     ·rw [g]; simp
     ·rw [g, hfr]; simpa using ih
    refine ev_succ ?_; simp only [spec_l09Ok.j2]
    refine ev_neg (by simp) (ev_if (fun h => last _ ?_) (fun h => last _ ?_))
    ·rw [if_pos h]; rfl
    ·rw [if_neg h, w64s (by omega)]
   ·rw [decide_eq_false g2, show knotOk (ks.take i) x = false by unfold knotOk; rw [decide_eq_false g2]; simp]
    exact bad _ _ _ _
  ·rw [show knotOk (ks.take i) x = false by unfold knotOk; rw [Bool.eq_false_iff.2 g1]; simp]
   exact bad _ _ _ _
theorem l09Ok_ev (ks : List S82) (bs : List S84) : Ev (fun k => spec_l09Ok.f k ks bs) (okF ks bs) := by
 have bad : Ev (fun k => spec_l09Ok.j0 k (ks.length : Int) true ks bs) false := by
  refine ev_succ ?_; simp only [spec_l09Ok.j0]; exact ev_pos (by trivial) (Ev.now _)
 simp only [spec_l09Ok.f]
 refine ev_if (fun h => ?_) (fun h => ?_)
 ·rw [show okF ks bs = false by unfold okF; rw [decide_eq_false (show ¬ ks.length ≤ 8 by omega)]; rfl]; exact bad
 ·by_cases h8 : (bs.length : Int) > 8
  ·rw [decide_eq_true h8, show okF ks bs = false by unfold okF; rw [decide_eq_false (show ¬ bs.length ≤ 8 by omega)]; simp]; exact bad
  ·rw [decide_eq_false h8]
   have e := s_l0 ks bs (by omega) (by omega) ks.length 0 (by omega)
   rw [show okF ks bs = (okKs [] ks && (okBs ks [] bs && decide (freeC ks ≤ 3))) by unfold okF; rw [decide_eq_true (show ks.length ≤ 8 by omega), decide_eq_true (show bs.length ≤ 8 by omega)]; simp]
   refine ev_succ ?_; simp only [spec_l09Ok.j0]
   exact ev_neg (by simp) e
def freeL : Nat → List S82 → List Int
 | _, [] => []
 | i, k :: l => if k.f2 = true then freeL (i + 1) l else (i : Int) :: freeL (i + 1) l
theorem freeL_length : ∀ (l : List S82) (i : Nat), (freeL i l).length = freeC l
 | [], i => rfl
 | k :: l, i => by
  have ih := freeL_length l (i + 1)
  unfold freeC at ih ⊢
  rw [freeL, List.filter_cons]
  cases h : k.f2 <;> simp [ih]
theorem freeKnots_l0 (ks : List S82) (hk : ks.length ≤ 8) : ∀ (d i : Nat) (o : List Int), i + d = ks.length → o.length ≤ i →
  Ev (fun k => impl_freeKnots.l0 k o ks (ks.length : Int) (i : Int)) (o ++ freeL i (ks.drop i))
 | 0, i, o, hd, ho => by
  refine ev_succ ?_; simp only [impl_freeKnots.l0]
  refine ev_neg (by omega) (ev_some ?_)
  rw [show ks.drop i = [] by simp; omega]; simp [freeL]
 | d + 1, i, o, hd, ho => by
  have hi : i < ks.length := by omega
  refine ev_succ ?_; simp only [impl_freeKnots.l0]
  rw [rdIKnot hi, w64s (by omega), List.drop_eq_getElem_cons hi]
  simp only [freeL]
  refine ev_pos (by omega) (ev_pos (by omega) (ev_pos (by omega) (ev_if (fun h => ?_) (fun h => ev_pos (by omega) ?_))))
  ·rw [if_pos h]
   exact freeKnots_l0 ks hk d (i + 1) o (by omega) (by omega)
  ·rw [if_neg h]
   have := freeKnots_l0 ks hk d (i + 1) (o ++ [(i : Int)]) (by omega) (by simp; omega)
   simpa using this
theorem freeKnots_ev (ks : List S82) (bs : List S84) (hk : ks.length ≤ 8) : Ev (fun k => impl_freeKnots.f k ks bs) (freeL 0 ks) := by
 simp only [impl_freeKnots.f]
 simpa using freeKnots_l0 ks hk ks.length 0 [] (by omega) (by simp)
theorem i_l3 (ks : List S82) (bs : List S84) (i : Nat) (hi : i < bs.length) (hb : bs.length ≤ 8) (a b : Int) (c : Bool) (r : Bool) (h1 : anyB (bs.take i) a b = true → r = false)
  (h2 : anyB (bs.take i) a b = false → Ev (fun k => impl_ValidFrame.l2 k bs (bs.length : Int) ((i + 1 : Nat) : Int) ks bs) r) : ∀ (d j : Nat), j + d = i → anyB (bs.take i) a b = anyB ((bs.take i).drop j) a b →
  Ev (fun k => impl_ValidFrame.l3 k bs (bs.length : Int) (i : Int) (bs.take i) ((bs.take i).length : Int) (j : Int) ks bs a b c) r
 | 0, j, hd, hs => by
  have hl : (bs.take i).length = i := by simp; omega
  refine ev_succ ?_; simp only [impl_ValidFrame.l3]
  rw [w64s (i := i) (by omega)]
  refine ev_neg (by omega) (h2 ?_)
  rw [hs, show (bs.take i).drop j = [] by simp; omega]; rfl
 | d + 1, j, hd, hs => by
  have hl : (bs.take i).length = i := by simp; omega
  have hj : j < (bs.take i).length := by omega
  rw [anyB_drop hj] at hs
  refine ev_succ ?_; simp only [impl_ValidFrame.l3]
  rw [rdIBar hj, w64s (i := j) (by omega)]
  have next : ((bs.take i)[j].f0 == a && (bs.take i)[j].f1 == b) = false → Ev (fun k => impl_ValidFrame.l3 k bs (bs.length : Int) (i : Int) (bs.take i) ((bs.take i).length : Int) ((j + 1 : Nat) : Int) ks bs a b c) r := fun g => by
   refine i_l3 ks bs i hi hb a b c r h1 h2 d (j + 1) (by omega) ?_
   rw [hs, g]; rfl
  refine ev_pos (by omega) (ev_pos (by omega) (ev_pos (by omega) (ev_if (fun g1 => ev_if (fun g2 => ev_some ?_) (fun g2 => next ?_)) (fun g1 => next ?_))))
  ·symm; apply h1; rw [hs, g1, g2]; simp
  ·exact and_f1 g2
  ·exact and_f0 g1
theorem i_l2 (ks : List S82) (bs : List S84) (hk : ks.length ≤ 8) (hb : bs.length ≤ 8) : ∀ (d i : Nat), i + d = bs.length →
  Ev (fun k => impl_ValidFrame.l2 k bs (bs.length : Int) (i : Int) ks bs) (okBs ks (bs.take i) (bs.drop i))
 | 0, i, hd => by
  refine ev_succ ?_; simp only [impl_ValidFrame.l2]
  refine ev_neg (by omega) (ev_some ?_)
  rw [show bs.drop i = [] by simp; omega]; rfl
 | d + 1, i, hd => by
  have hi : i < bs.length := by omega
  have ih := i_l2 ks bs hk hb d (i + 1) (by omega)
  rw [okBs_step ks hi]
  have bad : ∀ (a b : Int) (c : Bool), Ev (fun k => impl_ValidFrame.j5 k (i : Int) bs (bs.length : Int) (i : Int) true ks bs a b c) false := fun a b c => by
   refine ev_succ ?_; simp only [impl_ValidFrame.j5]; exact ev_pos (by trivial) (Ev.now _)
  refine ev_succ ?_; simp only [impl_ValidFrame.l2]
  rw [rdIBar hi]
  generalize hx : bs[i] = x at *
  have nope : ¬ (0 ≤ x.f0 ∧ x.f0 < x.f1 ∧ x.f1 < (ks.length : Int)) → barOk ks (bs.take i) x = false := fun g => by unfold barOk; rw [decide_eq_false g]; rfl
  refine ev_pos (by omega) (ev_pos (by omega) (ev_pos (by omega) (ev_if (fun g1 => ?_) (fun g1 => ev_if (fun g2 => ?_) (fun g2 => ev_if (fun g3 => ?_) (fun g3 => ?_))))))
  ·rw [nope (by omega)]; exact bad _ _ _
  ·rw [nope (by omega)]; exact bad _ _ _
  ·rw [nope (by omega)]; exact bad _ _ _
  ·have good : decide (0 ≤ x.f0 ∧ x.f0 < x.f1 ∧ x.f1 < (ks.length : Int)) = true := decide_eq_true (by omega)
   have main : ∀ q : Bool, q = (fixK ks x.f0 && fixK ks x.f1) → Ev (fun k => impl_ValidFrame.j5 k (i : Int) bs (bs.length : Int) (i : Int) q ks bs x.f0 x.f1 x.f2) (barOk ks (bs.take i) x && okBs ks (bs.take (i + 1)) (bs.drop (i + 1))) := by
    intro q hq
    unfold barOk; rw [good, ← hq]
    refine ev_succ ?_; simp only [impl_ValidFrame.j5]
    refine ev_if (fun h => ev_some (by rw [h]; simp)) (fun h => ?_)
    have h : q = false := Bool.eq_false_iff.2 h
    refine ev_pos (by omega) (ev_pos (by omega) (ev_now rfl ?_))
    rw [Int.toNat_natCast]
    refine i_l3 ks bs i hi hb x.f0 x.f1 x.f2 _ (fun g => ?_) (fun g => ?_) i 0 (by omega) (by simp)
    ·rw [g]; simp
    ·rw [g, h]; simpa using ih
   refine ev_pos (by omega) (ev_pos (by omega) (ev_if (fun h => ev_pos (by omega) (ev_pos (by omega) (main _ ?_))) (fun h => main _ ?_)))
   ·unfold fixK; rw [h]; rfl
   ·unfold fixK; rw [Bool.eq_false_iff.2 h]; rfl
theorem i_l1 (ks : List S82) (bs : List S84) (i : Nat) (hi : i < ks.length) (hb : ks.length ≤ 8) (a b : Int) (c : Bool) (r : Bool) (h1 : anyK (ks.take i) a b = true → r = false)
  (h2 : anyK (ks.take i) a b = false → Ev (fun k => impl_ValidFrame.l0 k ks (ks.length : Int) ((i + 1 : Nat) : Int) ks bs) r) : ∀ (d j : Nat), j + d = i → anyK (ks.take i) a b = anyK ((ks.take i).drop j) a b →
  Ev (fun k => impl_ValidFrame.l1 k ks (ks.length : Int) (i : Int) (ks.take i) ((ks.take i).length : Int) (j : Int) ks bs a b c) r
 | 0, j, hd, hs => by
  have hl : (ks.take i).length = i := by simp; omega
  refine ev_succ ?_; simp only [impl_ValidFrame.l1]
  rw [w64s (i := i) (by omega)]
  refine ev_neg (by omega) (h2 ?_)
  rw [hs, show (ks.take i).drop j = [] by simp; omega]; rfl
 | d + 1, j, hd, hs => by
  have hl : (ks.take i).length = i := by simp; omega
  have hj : j < (ks.take i).length := by omega
  rw [anyK_drop hj] at hs
  refine ev_succ ?_; simp only [impl_ValidFrame.l1]
  rw [rdIKnot hj, w64s (i := j) (by omega)]
  have next : ((ks.take i)[j].f0 == a && (ks.take i)[j].f1 == b) = false → Ev (fun k => impl_ValidFrame.l1 k ks (ks.length : Int) (i : Int) (ks.take i) ((ks.take i).length : Int) ((j + 1 : Nat) : Int) ks bs a b c) r := fun g => by
   refine i_l1 ks bs i hi hb a b c r h1 h2 d (j + 1) (by omega) ?_
   rw [hs, g]; rfl
  refine ev_pos (by omega) (ev_pos (by omega) (ev_pos (by omega) (ev_if (fun g1 => ev_if (fun g2 => ev_some ?_) (fun g2 => next ?_)) (fun g1 => next ?_))))
  ·symm; apply h1; rw [hs, g1, g2]; simp
  ·exact and_f1 g2
  ·exact and_f0 g1
theorem i_l0 (ks : List S82) (bs : List S84) (hk : ks.length ≤ 8) (hb : bs.length ≤ 8) : ∀ (d i : Nat), i + d = ks.length →
  Ev (fun k => impl_ValidFrame.l0 k ks (ks.length : Int) (i : Int) ks bs) (okKs (ks.take i) (ks.drop i) && okBs ks [] bs)
 | 0, i, hd => by
  refine ev_succ ?_; simp only [impl_ValidFrame.l0]
  refine ev_neg (by omega) ?_
  have e := i_l2 ks bs hk hb bs.length 0 (by omega)
  rw [show ks.drop i = [] by simp; omega]
  exact e
 | d + 1, i, hd => by
  have hi : i < ks.length := by omega
  have ih := i_l0 ks bs hk hb d (i + 1) (by omega)
  rw [okKs_step hi]
  have bad : ∀ (a b : Int) (c : Bool), Ev (fun k => impl_ValidFrame.j2 k (i : Int) ks (ks.length : Int) (i : Int) true ks bs a b c) false := fun a b c => by
   refine ev_succ ?_; simp only [impl_ValidFrame.j2]; exact ev_pos (by trivial) (Ev.now _)
  refine ev_succ ?_; simp only [impl_ValidFrame.l0]
  rw [rdIKnot hi]
  generalize hx : ks[i] = x at *
  refine ev_pos (by omega) (ev_pos (by omega) (ev_pos (by omega) (ev_now (within_eq _ _ _) (ev_if (fun g1 => ev_now (within_eq _ _ _) ?_) (fun g1 => ?_)))))
  ·by_cases g2 : 0 ≤ x.f1 ∧ x.f1 ≤ 12
   ·rw [decide_eq_true g2]
    unfold knotOk; rw [g1, decide_eq_true g2]
    refine ev_succ ?_; simp only [impl_ValidFrame.j2]
    refine ev_neg (by simp) (ev_pos (by omega) (ev_pos (by omega) (ev_now rfl ?_)))
    rw [Int.toNat_natCast]
    refine i_l1 ks bs i hi hk x.f0 x.f1 x.f2 _ (fun g => ?_) (fun g => ?_) i 0 (by omega) (by simp)
    ·rw [g]; simp
    ·rw [g]; simpa using ih
   ·rw [decide_eq_false g2, show knotOk (ks.take i) x = false by unfold knotOk; rw [decide_eq_false g2]; simp]
    exact bad _ _ _
  ·rw [show knotOk (ks.take i) x = false by unfold knotOk; rw [Bool.eq_false_iff.2 g1]; simp]
   exact bad _ _ _
theorem validFrame_ev (ks : List S82) (bs : List S84) : Ev (fun k => impl_ValidFrame.f k ks bs) (okF ks bs) := by
 have bad : Ev (fun k => impl_ValidFrame.j0 k true ks bs) false := by
  refine ev_succ ?_; simp only [impl_ValidFrame.j0]; exact ev_pos (by trivial) (Ev.now _)
 simp only [impl_ValidFrame.f]
 refine ev_if (fun h => ?_) (fun h => ev_if (fun h8 => ?_) (fun h8 => ?_))
 ·rw [show okF ks bs = false by unfold okF; rw [decide_eq_false (show ¬ ks.length ≤ 8 by omega)]; rfl]; exact bad
 ·rw [show okF ks bs = false by unfold okF; rw [decide_eq_false (show ¬ bs.length ≤ 8 by omega)]; simp]; exact bad
 ·refine Ev.bind (freeKnots_ev ks bs (by omega)) ?_
  rw [freeL_length]
  by_cases g : freeC ks ≤ 3
  ·rw [decide_eq_false (show ¬ (freeC ks : Int) > 3 by omega)]
   have e := i_l0 ks bs (by omega) (by omega) ks.length 0 (by omega)
   rw [show okF ks bs = (okKs [] ks && okBs ks [] bs) by unfold okF; rw [decide_eq_true (show ks.length ≤ 8 by omega), decide_eq_true (show bs.length ≤ 8 by omega), decide_eq_true g]; simp]
   refine ev_succ ?_; simp only [impl_ValidFrame.j0]
   exact ev_neg (by simp) e
  ·rw [decide_eq_true (show (freeC ks : Int) > 3 by omega), show okF ks bs = false by unfold okF; rw [decide_eq_false g]; simp]
   exact bad
theorem spec_l00Gcd_l0 : ∀ (n : Nat) (a b : Int), b.natAbs < n → ∃ r : Int, Ev (fun k => spec_l00Gcd.l0 k a b) r ∧ r.natAbs = Nat.gcd a.natAbs b.natAbs ∧ (0 ≤ a → 0 ≤ b → 0 ≤ r)
 | 0, a, b, h => absurd h (Nat.not_lt_zero _)
 | n + 1, a, b, h => by
  by_cases hb : b = 0
  ·subst hb
   refine ⟨a, ev_succ ?_, by simp, fun h0 _ => h0⟩
   simp only [spec_l00Gcd.l0]; exact ev_pos (by trivial) (Ev.now _)
  ·have hlt : (Int.tmod a b).natAbs < b.natAbs := by rw [Int.natAbs_tmod]; exact Nat.mod_lt _ (by omega)
   obtain ⟨r, e, hg, hp⟩ := spec_l00Gcd_l0 n b (Int.tmod a b) (by omega)
   refine ⟨r, ev_succ ?_, ?_, fun h0 h1 => hp h1 (Int.tmod_nonneg _ h0)⟩
   ·simp only [spec_l00Gcd.l0]; exact ev_neg hb e
   ·rw [hg, Int.natAbs_tmod, Nat.gcd_comm a.natAbs, Nat.gcd_rec b.natAbs a.natAbs, Nat.gcd_comm]
theorem spec_l00Gcd_l0' (a b : Int) (h0 : 0 ≤ a) (h1 : 0 ≤ b) : Ev (fun k => spec_l00Gcd.l0 k a b) (Int.gcd a b : Int) := by
 obtain ⟨r, e, hg, hp⟩ := spec_l00Gcd_l0 (b.natAbs + 1) a b (by omega)
 have : r = (Int.gcd a b : Int) := by have := hp h0 h1; unfold Int.gcd; omega
 rw [← this]; exact e
theorem impl_gcd_l0 : ∀ (n : Nat) (a b : Int), b.natAbs < n → ∃ r : Int, Ev (fun k => impl_gcd.l0 k a b) r ∧ r.natAbs = Nat.gcd a.natAbs b.natAbs ∧ (0 ≤ a → 0 ≤ b → 0 ≤ r)
 | 0, a, b, h => absurd h (Nat.not_lt_zero _)
 | n + 1, a, b, h => by
  by_cases hb : b = 0
  ·subst hb
   refine ⟨a, ev_succ ?_, by simp, fun h0 _ => h0⟩
   simp only [impl_gcd.l0]; exact ev_pos (by trivial) (Ev.now _)
  ·have hlt : (Int.tmod a b).natAbs < b.natAbs := by rw [Int.natAbs_tmod]; exact Nat.mod_lt _ (by omega)
   obtain ⟨r, e, hg, hp⟩ := impl_gcd_l0 n b (Int.tmod a b) (by omega)
   refine ⟨r, ev_succ ?_, ?_, fun h0 h1 => hp h1 (Int.tmod_nonneg _ h0)⟩
   ·simp only [impl_gcd.l0]; exact ev_neg hb e
   ·rw [hg, Int.natAbs_tmod, Nat.gcd_comm a.natAbs, Nat.gcd_rec b.natAbs a.natAbs, Nat.gcd_comm]
theorem impl_gcd_l0' (a b : Int) (h0 : 0 ≤ a) (h1 : 0 ≤ b) : Ev (fun k => impl_gcd.l0 k a b) (Int.gcd a b : Int) := by
 obtain ⟨r, e, hg, hp⟩ := impl_gcd_l0 (b.natAbs + 1) a b (by omega)
 have : r = (Int.gcd a b : Int) := by have := hp h0 h1; unfold Int.gcd; omega
 rw [← this]; exact e
def denseL : Nat → List Int → Bool
 | G, [] => G == 1
 | G, n :: l => decide (-10000000000 ≤ n ∧ n ≤ 10000000000) && denseL (Nat.gcd G n.natAbs) l
theorem gcd_bd {G m : Nat} (h : 1 ≤ G ∧ G ≤ 1000000000) : 1 ≤ Nat.gcd G m ∧ Nat.gcd G m ≤ 1000000000 := by
 have a := Nat.gcd_le_left m (show 0 < G by omega)
 have b := Nat.gcd_pos_of_pos_left m (show 0 < G by omega)
 omega
theorem sDense_l0 (l : List Int) (d : Int) (hn : l.length ≤ 1048576) : ∀ (e i G : Nat), i + e = l.length → 1 ≤ G ∧ G ≤ 1000000000 → Ev (fun k => spec_l09Dense.l0 k (G : Int) (i : Int) l d) (denseL G (l.drop i))
 | 0, i, G, hd, hG => by
  refine ev_succ ?_; simp only [spec_l09Dense.l0]
  refine ev_neg (by omega) (ev_some ?_)
  rw [show l.drop i = [] by simp; omega]
  show ((G : Int) == 1) = (G == 1)
  rcases Nat.decEq G 1 with h | h
  ·rw [beq_eq_false_iff_ne.2 h, beq_eq_false_iff_ne.2 (by omega)]
  ·subst h; rfl
 | e + 1, i, G, hd, hG => by
  have hi : i < l.length := by omega
  refine ev_succ ?_; simp only [spec_l09Dense.l0]
  rw [rd_nat hi, w64s (by omega), List.drop_eq_getElem_cons hi]
  simp only [denseL]
  refine ev_pos (by omega) (ev_pos (by omega) (ev_now (l00In_eq _ _ _) (ev_if (fun g => ?_) (fun g => ev_some ?_))))
  ·rw [g]
   have g := of_decide_eq_true g
   have es : spec_l00Size.f l[i] = some (l[i].natAbs : Int) := by
    unfold spec_l00Size.f
    by_cases h : l[i] < 0
    ·rw [if_pos h, w64 (by omega) (by omega)]; congr 1; omega
    ·rw [if_neg h]; congr 1; omega
   have eg := spec_l00Gcd_l0' (G : Int) (l[i].natAbs : Int) (by omega) (by omega)
   rw [show Int.gcd (G : Int) (l[i].natAbs : Int) = Nat.gcd G l[i].natAbs by simp [Int.gcd]] at eg
   refine ev_now es (Ev.bind (by simpa only [spec_l00Gcd.f] using eg) ?_)
   have := sDense_l0 l d hn e (i + 1) (Nat.gcd G l[i].natAbs) (by omega) (gcd_bd hG)
   simpa using this
  ·rw [Bool.eq_false_iff.2 g]; rfl
theorem iDense_l0 (l : List Int) (hn : l.length ≤ 1048576) : ∀ (e i : Nat) (c : Int), i + e = l.length → 1 ≤ c.natAbs ∧ c.natAbs ≤ 1000000000 → Ev (fun k => impl_ValidDensities.l0 k c l (l.length : Int) (i : Int)) (denseL c.natAbs (l.drop i))
 | 0, i, c, hd, hG => by
  refine ev_succ ?_; simp only [impl_ValidDensities.l0]
  refine ev_neg (by omega) ?_
  rw [show l.drop i = [] by simp; omega]
  refine ev_if (fun h => ev_some ?_) (fun h => ev_some ?_)
  ·subst h; rfl
  ·show (c == -1) = (c.natAbs == 1)
   by_cases q : c = -1
   ·subst q; rfl
   ·rw [beq_eq_false_iff_ne.2 q, beq_eq_false_iff_ne.2 (by omega)]
 | e + 1, i, c, hd, hG => by
  have hi : i < l.length := by omega
  refine ev_succ ?_; simp only [impl_ValidDensities.l0]
  rw [rd_nat hi, w64s (by omega), List.drop_eq_getElem_cons hi]
  simp only [denseL]
  refine ev_pos (by omega) (ev_pos (by omega) (ev_pos (by omega) (ev_now (within_eq _ _ _) (ev_if (fun g => ?_) (fun g => ev_some ?_)))))
  ·rw [g]
   have g := of_decide_eq_true g
   have eg : ∃ r : Int, Ev (fun k => impl_gcd.f k c l[i]) r ∧ r.natAbs = Nat.gcd c.natAbs l[i].natAbs := by
    by_cases h : c < 0
    ·obtain ⟨r, e1, e2, _⟩ := impl_gcd_l0 (l[i].natAbs + 1) (-c) l[i] (by omega)
     refine ⟨r, ?_, by rw [e2, Int.natAbs_neg]⟩
     simp only [impl_gcd.f]; rw [w64 (by omega) (by omega)]
     refine ev_pos h (ev_succ ?_); simp only [impl_gcd.j0]; exact e1
    ·obtain ⟨r, e1, e2, _⟩ := impl_gcd_l0 (l[i].natAbs + 1) c l[i] (by omega)
     refine ⟨r, ?_, e2⟩
     simp only [impl_gcd.f]
     refine ev_neg h (ev_succ ?_); simp only [impl_gcd.j0]; exact e1
   obtain ⟨r, e1, e2⟩ := eg
   refine Ev.bind e1 ?_
   have := iDense_l0 l hn e (i + 1) r (by omega) (by rw [e2]; exact gcd_bd hG)
   rw [e2] at this
   simpa using this
  ·rw [Bool.eq_false_iff.2 g]; rfl
def denseOk (bs : List S84) (l : List Int) (d : Int) : Bool := decide (l.length = bs.length) && (decide (1 ≤ d ∧ d ≤ 1000000000) && denseL d.natAbs l)
theorem sDense_ev (ks : List S82) (bs : List S84) (l : List Int) (d : Int) (hn : l.length ≤ 1048576) : Ev (fun k => spec_l09Dense.f k ks bs l d) (denseOk bs l d) := by
 have bad : Ev (fun k => spec_l09Dense.j0 k true l d) false := by
  refine ev_succ ?_; simp only [spec_l09Dense.j0]; exact ev_pos (by trivial) (Ev.now _)
 simp only [spec_l09Dense.f]
 unfold denseOk
 refine ev_if (fun h => ev_now (l00In_eq _ _ _) ?_) (fun h => ?_)
 ·rw [decide_eq_true (show l.length = bs.length by omega)]
  by_cases g : 1 ≤ d ∧ d ≤ 1000000000
  ·rw [decide_eq_true g]
   refine ev_succ ?_; simp only [spec_l09Dense.j0]
   have := sDense_l0 l d hn l.length 0 d.natAbs (by omega) (by omega)
   rw [show ((d.natAbs : Nat) : Int) = d by omega] at this
   exact ev_neg (by simp) this
  ·rw [decide_eq_false g]; exact bad
 ·rw [decide_eq_false (show ¬ l.length = bs.length by omega)]; exact bad
theorem iDense_ev (ks : List S82) (bs : List S84) (l : List Int) (d : Int) (hn : l.length ≤ 1048576) : Ev (fun k => impl_ValidDensities.f k ks bs l d) (okF ks bs && denseOk bs l d) := by
 have bad : Ev (fun k => impl_ValidDensities.j0 k true l d) false := by
  refine ev_succ ?_; simp only [impl_ValidDensities.j0]; exact ev_pos (by trivial) (Ev.now _)
 simp only [impl_ValidDensities.f]
 unfold denseOk
 refine Ev.bind (validFrame_ev ks bs) (ev_if (fun hf => ev_if (fun h => ev_now (within_eq _ _ _) ?_) (fun h => ?_)) (fun hf => ?_))
 ·rw [hf, decide_eq_true (show l.length = bs.length by omega)]
  by_cases g : 1 ≤ d ∧ d ≤ 1000000000
  ·rw [decide_eq_true g]
   refine ev_succ ?_; simp only [impl_ValidDensities.j0]
   have := iDense_l0 l hn l.length 0 d (by omega) (by omega)
   exact ev_neg (by simp) this
  ·rw [decide_eq_false g]; exact bad
 ·rw [hf, decide_eq_false (show ¬ l.length = bs.length by omega)]; exact bad
 ·rw [Bool.eq_false_iff.2 hf]; exact bad
def convPull (x : S99) : S97 := ⟨x.f0, x.f1⟩
theorem rdLPull {xs : List S99} {i : Nat} (h : i < xs.length) : rd_T99 xs (i : Int) = xs[i] := by
 unfold rd_T99; simp [List.getD_eq_getElem?_getD, h]
theorem rdIPull {xs : List S97} {i : Nat} (h : i < xs.length) : rd_T97 xs (i : Int) = xs[i] := by
 unfold rd_T97; simp [List.getD_eq_getElem?_getD, h]
theorem toPullS_l0 (x0 : List S99) (hn : x0.length ≤ 1048576) : ∀ (d i : Nat) (x3 : List S97), i + d = x0.length → x3.length = x0.length → x3.take i = (x0.map convPull).take i →
  Ev (fun k => laws_toPullS.l0 k x0 x3 (i : Int)) (x0.map convPull)
 | 0, i, x3, hd, hl, ht => by
  refine ev_succ ?_
  simp only [laws_toPullS.l0]
  refine ev_neg (by omega) (ev_some ?_)
  rw [List.take_of_length_le (by omega), List.take_of_length_le (by simp; omega)] at ht; exact ht
 | d + 1, i, x3, hd, hl, ht => by
  refine ev_succ ?_
  simp only [laws_toPullS.l0]
  refine ev_pos (by omega) (ev_pos (by omega) (ev_now rfl (ev_pos (by omega) ?_)))
  rw [w64s (by omega), Int.toNat_natCast, rdLPull (by omega)]
  exact toPullS_l0 x0 hn d (i + 1) _ (by omega) (by simpa using hl) (take_set _ _ _ _ (by omega) (by simp; omega) ht (by simp [convPull]))
theorem toPullS_ev (l : List S99) (hn : l.length ≤ 1048576) : Ev (fun k => laws_toPullS.f k l) (l.map convPull) := by
 simp only [laws_toPullS.f]
 refine ev_pos (by omega) (ev_pos (by omega) ?_)
 exact toPullS_l0 l (by omega) l.length 0 _ (by omega) (by simp) (by simp)
def okLs (l : List S97) : Bool := l.all fun p => decide (-100 ≤ p.f0 ∧ p.f0 ≤ 100) && decide (-100 ≤ p.f1 ∧ p.f1 ≤ 100)
theorem okLs_drop {l : List S97} {i : Nat} (h : i < l.length) : okLs (l.drop i) = ((decide (-100 ≤ l[i].f0 ∧ l[i].f0 ≤ 100) && decide (-100 ≤ l[i].f1 ∧ l[i].f1 ≤ 100)) && okLs (l.drop (i + 1))) := by
 rw [List.drop_eq_getElem_cons h]; rfl
theorem sLoads_l0 (l : List S97) (hn : l.length ≤ 1048576) : ∀ (d i : Nat), i + d = l.length → Ev (fun k => spec_l09Loads.l0 k l (i : Int)) (okLs (l.drop i))
 | 0, i, hd => by
  refine ev_succ ?_; simp only [spec_l09Loads.l0]
  refine ev_neg (by omega) (ev_some ?_)
  rw [show l.drop i = [] by simp; omega]; rfl
 | d + 1, i, hd => by
  have hi : i < l.length := by omega
  have ih := sLoads_l0 l hn d (i + 1) (by omega)
  rw [okLs_drop hi]
  refine ev_succ ?_; simp only [spec_l09Loads.l0]
  rw [rdIPull hi, w64s (by omega)]
  refine ev_pos (by omega) (ev_pos (by omega) (ev_now (l00In_eq _ _ _) (ev_if (fun g => ev_now (l00In_eq _ _ _) (ev_if (fun g' => ?_) (fun g' => ev_some ?_))) (fun g => ev_some ?_))))
  ·rw [g, g']; simpa using ih
  ·rw [Bool.eq_false_iff.2 g']; simp
  ·rw [Bool.eq_false_iff.2 g]; simp
theorem iLoads_l0 (l : List S97) (hn : l.length ≤ 1048576) : ∀ (d i : Nat), i + d = l.length → Ev (fun k => impl_ValidLoads.l0 k l (l.length : Int) (i : Int)) (okLs (l.drop i))
 | 0, i, hd => by
  refine ev_succ ?_; simp only [impl_ValidLoads.l0]
  refine ev_neg (by omega) (ev_some ?_)
  rw [show l.drop i = [] by simp; omega]; rfl
 | d + 1, i, hd => by
  have hi : i < l.length := by omega
  have ih := iLoads_l0 l hn d (i + 1) (by omega)
  rw [okLs_drop hi]
  refine ev_succ ?_; simp only [impl_ValidLoads.l0]
  rw [rdIPull hi, w64s (by omega)]
  refine ev_pos (by omega) (ev_pos (by omega) (ev_pos (by omega) (ev_now (within_eq _ _ _) (ev_if (fun g => ev_now (within_eq _ _ _) (ev_if (fun g' => ?_) (fun g' => ev_some ?_))) (fun g => ev_some ?_)))))
  ·rw [g, g']; simpa using ih
  ·rw [Bool.eq_false_iff.2 g']; simp
  ·rw [Bool.eq_false_iff.2 g]; simp
def okL9 (ks : List S82) (l : List S97) : Bool := decide (l.length = ks.length) && okLs l
theorem sLoads_ev (ks : List S82) (bs : List S84) (l : List S97) (hn : l.length ≤ 1048576) : Ev (fun k => spec_l09Loads.f k ks bs l) (okL9 ks l) := by
 simp only [spec_l09Loads.f]
 unfold okL9
 refine ev_if (fun h => ?_) (fun h => ev_some ?_)
 ·rw [decide_eq_true (show l.length = ks.length by omega)]
  exact sLoads_l0 l hn l.length 0 (by omega)
 ·rw [decide_eq_false (show ¬ l.length = ks.length by omega)]; rfl
theorem iLoads_ev (ks : List S82) (bs : List S84) (l : List S97) (hn : l.length ≤ 1048576) : Ev (fun k => impl_ValidLoads.f k ks bs l) (okF ks bs && okL9 ks l) := by
 have bad : Ev (fun k => impl_ValidLoads.j0 k l true) false := by
  refine ev_succ ?_; simp only [impl_ValidLoads.j0]; exact ev_pos (by trivial) (Ev.now _)
 simp only [impl_ValidLoads.f]
 unfold okL9
 refine Ev.bind (validFrame_ev ks bs) (ev_if (fun h => ?_) (fun h => ?_))
 ·rw [h]
  by_cases g : l.length = ks.length
  ·rw [decide_eq_true g, show ((l.length : Int) != (ks.length : Int)) = false by simp [g]]
   refine ev_succ ?_; simp only [impl_ValidLoads.j0]
   exact ev_neg (by simp) (iLoads_l0 l hn l.length 0 (by omega))
  ·rw [decide_eq_false g, show ((l.length : Int) != (ks.length : Int)) = true by simp; omega]
   exact bad
 ·rw [Bool.eq_false_iff.2 h]; exact bad
theorem okKs_all : ∀ (l pre : List S82), okKs pre l = true → ∀ k ∈ l, (0 ≤ k.f0 ∧ k.f0 ≤ 12) ∧ (0 ≤ k.f1 ∧ k.f1 ≤ 12)
 | [], _, _, k, hk => by cases hk
 | x :: l, pre, h, k, hk => by
  simp only [okKs, Bool.and_eq_true] at h
  rcases List.mem_cons.1 hk with g | g
  ·subst g
   have := h.1; unfold knotOk at this; simp only [Bool.and_eq_true, decide_eq_true_eq] at this
   exact this.1
  ·exact okKs_all l _ h.2 k g
theorem okBs_all (ks : List S82) : ∀ (l pre : List S84), okBs ks pre l = true → ∀ b ∈ l, 0 ≤ b.f0 ∧ b.f0 < b.f1 ∧ b.f1 < (ks.length : Int)
 | [], _, _, b, hb => by cases hb
 | x :: l, pre, h, b, hb => by
  simp only [okBs, Bool.and_eq_true] at h
  rcases List.mem_cons.1 hb with g | g
  ·subst g
   have := h.1; unfold barOk at this; simp only [Bool.and_eq_true, decide_eq_true_eq] at this
   exact this.1.1
  ·exact okBs_all ks l _ h.2 b g
structure OkF (ks : List S82) (bs : List S84) : Prop where
 k8 : ks.length ≤ 8
 b8 : bs.length ≤ 8
 knots : ∀ k ∈ ks, (0 ≤ k.f0 ∧ k.f0 ≤ 12) ∧ (0 ≤ k.f1 ∧ k.f1 ≤ 12)
 bars : ∀ b ∈ bs, 0 ≤ b.f0 ∧ b.f0 < b.f1 ∧ b.f1 < (ks.length : Int)
theorem okF_facts {ks : List S82} {bs : List S84} (h : okF ks bs = true) : OkF ks bs := by
 unfold okF at h
 simp only [Bool.and_eq_true, decide_eq_true_eq] at h
 exact ⟨h.1.1, h.1.2, okKs_all ks [] h.2.1, okBs_all ks bs [] h.2.2.1⟩
theorem rdKi {ks : List S82} {a : Int} (h0 : 0 ≤ a) (h1 : a < (ks.length : Int)) : rd_T82 ks a ∈ ks := by
 obtain ⟨n, rfl⟩ := Int.eq_ofNat_of_zero_le h0
 have hn : n < ks.length := by omega
 rw [show ((n : Nat) : Int) = (n : Int) from rfl, rdIKnot hn]
 exact List.getElem_mem hn
theorem rdBi {bs : List S84} {a : Int} (h0 : 0 ≤ a) (h1 : a < (bs.length : Int)) : rd_T84 bs a ∈ bs := by
 obtain ⟨n, rfl⟩ := Int.eq_ofNat_of_zero_le h0
 have hn : n < bs.length := by omega
 rw [show ((n : Nat) : Int) = (n : Int) from rfl, rdIBar hn]
 exact List.getElem_mem hn
theorem rdEKnot {xs : List S82} {i : Nat} (h : i < xs.length) : rd_T82 xs (i : Int) = xs[i] := by
 unfold rd_T82; simp [List.getD_eq_getElem?_getD, h]
theorem eqKnot_self (x : S82) : laws_eqKnot.f x.f0 x.f1 x.f2 x.f0 x.f1 x.f2 = some true := by
 simp [laws_eqKnot.f]
theorem eqKnotS_l0 (x0 : List S82) (hn : x0.length ≤ 1048576) : ∀ (d i : Nat), i + d = x0.length → Ev (fun k => laws_eqKnotS.l0 k x0 x0 (i : Int)) true
 | 0, i, hd => by
  refine ev_succ ?_
  simp only [laws_eqKnotS.l0]
  exact ev_neg (by omega) (Ev.now _)
 | d + 1, i, hd => by
  refine ev_succ ?_
  simp only [laws_eqKnotS.l0]
  refine ev_pos (by omega) (ev_pos (by omega) (ev_pos (by omega) (ev_now (eqKnot_self _) (ev_pos (by trivial) ?_))))
  rw [w64s (by omega)]
  exact eqKnotS_l0 x0 hn d (i + 1) (by omega)
theorem eqKnotS_self (l : List S82) (hn : l.length ≤ 1048576) : Ev (fun k => laws_eqKnotS.f k l l) true := by
 simp only [laws_eqKnotS.f]
 exact ev_pos (by trivial) (eqKnotS_l0 l hn l.length 0 (by omega))
theorem rdEBar {xs : List S84} {i : Nat} (h : i < xs.length) : rd_T84 xs (i : Int) = xs[i] := by
 unfold rd_T84; simp [List.getD_eq_getElem?_getD, h]
theorem eqBar_self (x : S84) : laws_eqBar.f x.f0 x.f1 x.f2 x.f0 x.f1 x.f2 = some true := by
 simp [laws_eqBar.f]
theorem eqBarS_l0 (x0 : List S84) (hn : x0.length ≤ 1048576) : ∀ (d i : Nat), i + d = x0.length → Ev (fun k => laws_eqBarS.l0 k x0 x0 (i : Int)) true
 | 0, i, hd => by
  refine ev_succ ?_
  simp only [laws_eqBarS.l0]
  exact ev_neg (by omega) (Ev.now _)
 | d + 1, i, hd => by
  refine ev_succ ?_
  simp only [laws_eqBarS.l0]
  refine ev_pos (by omega) (ev_pos (by omega) (ev_pos (by omega) (ev_now (eqBar_self _) (ev_pos (by trivial) ?_))))
  rw [w64s (by omega)]
  exact eqBarS_l0 x0 hn d (i + 1) (by omega)
theorem eqBarS_self (l : List S84) (hn : l.length ≤ 1048576) : Ev (fun k => laws_eqBarS.f k l l) true := by
 simp only [laws_eqBarS.f]
 exact ev_pos (by trivial) (eqBarS_l0 l hn l.length 0 (by omega))
theorem szKnotS_eq (l : List S113) (n : Int) (hl : l.length ≤ maxLen) (h0 : 0 ≤ n) (h1 : n ≤ 1048576) : laws_szKnotS.f l n = some (if n - (l.length : Int) < 0 then -1 else n - (l.length : Int)) := by
 unfold maxLen at hl
 unfold laws_szKnotS.f
 rw [w64 (x := n - (l.length : Int)) (by omega) (by omega)]
 split <;> rfl
theorem szBarS_eq (l : List S115) (n : Int) (hl : l.length ≤ maxLen) (h0 : 0 ≤ n) (h1 : n ≤ 1048576) : laws_szBarS.f l n = some (if n - (l.length : Int) < 0 then -1 else n - (l.length : Int)) := by
 unfold maxLen at hl
 unfold laws_szBarS.f
 rw [w64 (x := n - (l.length : Int)) (by omega) (by omega)]
 split <;> rfl
theorem szF_eq (l0 : List S113) (l1 : List S115) (n : Int) (h0 : l0.length ≤ maxLen) (h1 : l1.length ≤ maxLen) (hn : 0 ≤ n) (hn' : n ≤ 1048576) :
  ∃ r : Int, laws_szFrame.f l0 l1 n = some r ∧ (¬ r < 0 → l0.length ≤ 1048576 ∧ l1.length ≤ 1048576 ∧ r ≤ n) := by
 unfold laws_szFrame.f
 rw [szKnotS_eq l0 n h0 hn hn']
 simp only [Option.bind_some]
 by_cases g : n - (l0.length : Int) < 0
 ·rw [if_pos g]; exact ⟨-1, rfl, fun h => by omega⟩
 ·rw [if_neg g, if_neg g, szBarS_eq l1 _ h1 (by omega) (by omega)]
  simp only [Option.bind_some]
  by_cases g' : n - (l0.length : Int) - (l1.length : Int) < 0
  ·rw [if_pos g']; exact ⟨-1, rfl, fun h => by omega⟩
  ·rw [if_neg g', if_neg g']; exact ⟨_, rfl, fun h => by omega⟩
theorem toF_ev (l0 : List S113) (l1 : List S115) (h0 : l0.length ≤ 1048576) (h1 : l1.length ≤ 1048576) : Ev (fun k => laws_toFrame.f k l0 l1) (l0.map convKnot, l1.map convBar) := by
 simp only [laws_toFrame.f]
 exact Ev.bind (toKnotS_ev l0 h0) (Ev.bind (toBarS_ev l1 h1) (Ev.now _))
theorem eqF_self (ks : List S82) (bs : List S84) (h0 : ks.length ≤ 1048576) (h1 : bs.length ≤ 1048576) : Ev (fun k => laws_eqFrame.f k ks bs ks bs) true := by
 simp only [laws_eqFrame.f]
 exact Ev.bind (eqKnotS_self _ h0) (ev_pos (by trivial) (Ev.bind (eqBarS_self _ h1) (ev_pos (by trivial) (Ev.now _))))
theorem eqInt64S_l0 (x0 x1 : List Int) (hl : x0.length = x1.length) (hn : x0.length ≤ 35184372088832) : ∀ (d i : Nat), i + d = x0.length → x0.take i = x1.take i →
  Ev (fun k => laws_eqInt64S.l0 k x0 x1 (i : Int)) (decide (x0 = x1))
 | 0, i, hd, ht => by
  refine ev_succ ?_
  simp only [laws_eqInt64S.l0]
  refine ev_neg (by omega) (ev_some ?_)
  rw [List.take_of_length_le (by omega), List.take_of_length_le (by omega)] at ht; simp [ht]
 | d + 1, i, hd, ht => by
  refine ev_succ ?_
  simp only [laws_eqInt64S.l0]
  refine ev_pos (by omega) (ev_pos (by omega) (ev_pos (by omega) (ev_if (fun h => ?_) (fun h => ev_some ?_))))
  ·rw [w64s (by omega)]
   refine eqInt64S_l0 x0 x1 hl hn d (i + 1) (by omega) ?_
   rw [rd_nat (by omega), rd_nat (by omega)] at h
   rw [List.take_succ_eq_append_getElem (by omega), List.take_succ_eq_append_getElem (by omega), ht, h]
  ·rw [rd_nat (by omega), rd_nat (by omega)] at h
   symm; rw [decide_eq_false_iff_not]; rintro rfl; exact h rfl
theorem eqInt64S_ev (a b : List Int) (hn : a.length ≤ 35184372088832) : Ev (fun k => laws_eqInt64S.f k a b) (decide (a = b)) := by
 simp only [laws_eqInt64S.f]
 refine ev_if (fun h => ?_) (fun h => ev_some ?_)
 ·exact eqInt64S_l0 a b (by omega) hn a.length 0 (by omega) (by simp)
 ·symm; rw [decide_eq_false_iff_not]; rintro rfl; exact h rfl
theorem eqInt64S_self (a : List Int) (hn : a.length ≤ 35184372088832) : Ev (fun k => laws_eqInt64S.f k a a) true := by
 simpa using eqInt64S_ev a a hn
theorem toInt64S_l0 (x0 : List Int) (hn : x0.length ≤ 35184372088832) : ∀ (d i : Nat) (x3 : List Int), i + d = x0.length → x3.length = x0.length → x3.take i = x0.take i →
  Ev (fun k => laws_toInt64S.l0 k x0 x3 (i : Int)) x0
 | 0, i, x3, hd, hl, ht => by
  refine ev_succ ?_
  simp only [laws_toInt64S.l0]
  refine ev_neg (by omega) (ev_some ?_)
  rw [List.take_of_length_le (by omega), List.take_of_length_le (by omega)] at ht; exact ht
 | d + 1, i, x3, hd, hl, ht => by
  refine ev_succ ?_
  simp only [laws_toInt64S.l0]
  refine ev_pos (by omega) (ev_pos (by omega) (ev_pos (by omega) ?_))
  rw [w64s (by omega), Int.toNat_natCast, rd_nat (by omega)]
  exact toInt64S_l0 x0 hn d (i + 1) _ (by omega) (by simpa using hl) (take_set _ _ _ _ (by omega) (by omega) ht rfl)
theorem toInt64S_ev (l : List Int) (hn : l.length ≤ 35184372088832) : Ev (fun k => laws_toInt64S.f k l) l := by
 simp only [laws_toInt64S.f]
 refine ev_pos (by omega) (ev_pos (by omega) ?_)
 exact toInt64S_l0 l (by omega) l.length 0 _ (by omega) (by simp) (by simp)
theorem szI_eq (l : List Int) (n : Int) (hl : l.length ≤ maxLen) (h0 : 0 ≤ n) (h1 : n ≤ 1048576) : laws_szInt64S.f l n = some (if n - (l.length : Int) < 0 then -1 else n - (l.length : Int)) := by
 unfold maxLen at hl
 unfold laws_szInt64S.f
 rw [w64 (x := n - (l.length : Int)) (by omega) (by omega)]
 split <;> rfl
theorem szD_eq (l : List Int) (d n : Int) (hl : l.length ≤ maxLen) (h0 : 0 ≤ n) (h1 : n ≤ 1048576) : laws_szDensities.f l d n = some (if n - (l.length : Int) < 0 then -1 else n - (l.length : Int)) := by
 unfold laws_szDensities.f
 rw [szI_eq l n hl h0 h1]
 simp only [Option.bind_some]
 repeat' split
 all_goals first | rfl | omega
theorem toD_ev (l : List Int) (d : Int) (hn : l.length ≤ 1048576) : Ev (fun k => laws_toDensities.f k l d) (l, d) := by
 simp only [laws_toDensities.f]
 exact Ev.bind (toInt64S_ev l (by omega)) (Ev.now _)
theorem eqD_self (l : List Int) (d : Int) (hn : l.length ≤ 1048576) : Ev (fun k => laws_eqDensities.f k l d l d) true := by
 simp only [laws_eqDensities.f]
 exact Ev.bind (eqInt64S_self l (by omega)) (ev_pos (by trivial) (ev_pos (by trivial) (Ev.now _)))
theorem szPullS_eq (l : List S99) (n : Int) (hl : l.length ≤ maxLen) (h0 : 0 ≤ n) (h1 : n ≤ 1048576) : laws_szPullS.f l n = some (if n - (l.length : Int) < 0 then -1 else n - (l.length : Int)) := by
 unfold maxLen at hl
 unfold laws_szPullS.f
 rw [w64 (x := n - (l.length : Int)) (by omega) (by omega)]
 split <;> rfl
theorem rdEPull {xs : List S97} {i : Nat} (h : i < xs.length) : rd_T97 xs (i : Int) = xs[i] := by
 unfold rd_T97; simp [List.getD_eq_getElem?_getD, h]
theorem eqPull_self (x : S97) : laws_eqPull.f x.f0 x.f1 x.f0 x.f1 = some true := by
 simp [laws_eqPull.f]
theorem eqPullS_l0 (x0 : List S97) (hn : x0.length ≤ 1048576) : ∀ (d i : Nat), i + d = x0.length → Ev (fun k => laws_eqPullS.l0 k x0 x0 (i : Int)) true
 | 0, i, hd => by
  refine ev_succ ?_
  simp only [laws_eqPullS.l0]
  exact ev_neg (by omega) (Ev.now _)
 | d + 1, i, hd => by
  refine ev_succ ?_
  simp only [laws_eqPullS.l0]
  refine ev_pos (by omega) (ev_pos (by omega) (ev_pos (by omega) (ev_now (eqPull_self _) (ev_pos (by trivial) ?_))))
  rw [w64s (by omega)]
  exact eqPullS_l0 x0 hn d (i + 1) (by omega)
theorem eqPullS_self (l : List S97) (hn : l.length ≤ 1048576) : Ev (fun k => laws_eqPullS.f k l l) true := by
 simp only [laws_eqPullS.f]
 exact ev_pos (by trivial) (eqPullS_l0 l hn l.length 0 (by omega))
theorem wrap_idem (x : Int) : wrap64 (wrap64 x) = wrap64 x := by unfold wrap64; omega
theorem rdPl {l : List S97} {i : Nat} (h : i < l.length) : rd_T97 l (i : Int) = l[i] := rdIPull h
theorem bal_l1 (ks : List S82) (bs : List S84) (f : OkF ks bs) (ld : List S97) (ns : List Int) (d : Int) (hl : ns.length = bs.length) (free : List Int) (v : Nat) (fi : Nat) (hfi : fi < 9) (hv : v < 9) (r : Bool)
  (h1 : Ev (fun k => spec_l09Balanced.l0 k ld ((v + 1 : Nat) : Int) ks bs ns d) r)
  (h2 : Ev (fun k => impl_IsBalanced.l0 k ld free (free.length : Int) ((fi + 1 : Nat) : Int) ks bs ns d) (r, 0)) : ∀ (e j : Nat) (sx sy : Int), j + e = bs.length → wrap64 sx = sx → wrap64 sy = sy →
  ∃ q : Bool, Ev (fun k => spec_l09Balanced.l1 k ld (v : Int) sx sy (j : Int) ks bs ns d) q ∧ Ev (fun k => impl_IsBalanced.l1 k ld (v : Int) sx sy free (free.length : Int) (fi : Int) bs (bs.length : Int) (j : Int) ks bs ns d) (q, 0)
 | 0, j, sx, sy, hd, wx, wy => by
  by_cases gx : sx = 0
  ·by_cases gy : sy = 0
   ·refine ⟨r, ?_, ?_⟩
    ·refine ev_succ ?_; simp only [spec_l09Balanced.l1]; rw [w64s (i := v) (by omega)]
     exact ev_neg (by omega) (ev_pos gx (ev_pos gy h1))
    ·refine ev_succ ?_; simp only [impl_IsBalanced.l1]; rw [w64s (i := fi) (by omega)]
     exact ev_neg (by omega) (ev_pos gx (ev_pos gy h2))
   ·refine ⟨false, ?_, ?_⟩
    ·refine ev_succ ?_; simp only [spec_l09Balanced.l1]; exact ev_neg (by omega) (ev_pos gx (ev_neg gy (Ev.now _)))
    ·refine ev_succ ?_; simp only [impl_IsBalanced.l1]; exact ev_neg (by omega) (ev_pos gx (ev_neg gy (Ev.now _)))
  ·refine ⟨false, ?_, ?_⟩
   ·refine ev_succ ?_; simp only [spec_l09Balanced.l1]; exact ev_neg (by omega) (ev_neg gx (Ev.now _))
   ·refine ev_succ ?_; simp only [impl_IsBalanced.l1]; exact ev_neg (by omega) (ev_neg gx (Ev.now _))
 | e + 1, j, sx, sy, hd, wx, wy => by
  have hj : j < bs.length := by omega
  have hj' : j < ns.length := by omega
  have b8 := f.b8
  obtain ⟨g0, g1, g2⟩ := f.bars _ (List.getElem_mem hj)
  have kA := f.knots _ (rdKi (ks := ks) (a := bs[j].f0) g0 (by omega))
  have kB := f.knots _ (rdKi (ks := ks) (a := bs[j].f1) (by omega) g2)
  have IH := fun sx sy => bal_l1 ks bs f ld ns d hl free v fi hfi hv r h1 h2 e (j + 1) sx sy (by omega)
  have S1 : ∀ q, Ev (fun k => if bs[j].f0 = (v : Int) then (if (j : Int) < (ns.length : Int) then spec_l09Balanced.j2 k ld (v : Int) (wrap64 (sx + (wrap64 (ns[j] * (wrap64 ((rd_T82 ks bs[j].f1).f0 - (rd_T82 ks bs[j].f0).f0)))))) (wrap64 (sy + (wrap64 (ns[j] * (wrap64 ((rd_T82 ks bs[j].f1).f1 - (rd_T82 ks bs[j].f0).f1)))))) (j : Int) ks bs ns d bs[j].f0 bs[j].f1 bs[j].f2 (rd_T82 ks bs[j].f0).f0 (rd_T82 ks bs[j].f0).f1 (rd_T82 ks bs[j].f0).f2 (rd_T82 ks bs[j].f1).f0 (rd_T82 ks bs[j].f1).f1 (rd_T82 ks bs[j].f1).f2 else none) else spec_l09Balanced.j2 k ld (v : Int) sx sy (j : Int) ks bs ns d bs[j].f0 bs[j].f1 bs[j].f2 (rd_T82 ks bs[j].f0).f0 (rd_T82 ks bs[j].f0).f1 (rd_T82 ks bs[j].f0).f2 (rd_T82 ks bs[j].f1).f0 (rd_T82 ks bs[j].f1).f1 (rd_T82 ks bs[j].f1).f2) q →
    Ev (fun k => spec_l09Balanced.l1 k ld (v : Int) sx sy (j : Int) ks bs ns d) q := by
   intro q hq
   refine ev_succ ?_; simp only [spec_l09Balanced.l1]
   rw [rdIBar hj, rd_nat hj']
   exact ev_pos (by omega) (ev_pos (by omega) (ev_pos g0 (ev_pos (by omega) (ev_pos (by omega) (ev_pos g2 hq)))))
  have S2 : ∀ (q : Bool) (dx dy : Int), impl_pullOf.f ks bs bs[j].f0 bs[j].f1 bs[j].f2 (v : Int) = some (dx, dy) → Ev (fun k => impl_IsBalanced.l1 k ld (v : Int) (wrap64 (sx + wrap64 (ns[j] * dx))) (wrap64 (sy + wrap64 (ns[j] * dy))) free (free.length : Int) (fi : Int) bs (bs.length : Int) ((j + 1 : Nat) : Int) ks bs ns d) (q, 0) →
    Ev (fun k => impl_IsBalanced.l1 k ld (v : Int) sx sy free (free.length : Int) (fi : Int) bs (bs.length : Int) (j : Int) ks bs ns d) (q, 0) := by
   intro q dx dy hp hq
   refine ev_succ ?_; simp only [impl_IsBalanced.l1]
   rw [rdIBar hj, rd_nat hj', w64s (i := j) (by omega)]
   exact ev_pos (by omega) (ev_pos (by omega) (ev_pos (by omega) (ev_now hp (ev_pos (by omega) hq))))
  have P : impl_pullOf.f ks bs bs[j].f0 bs[j].f1 bs[j].f2 (v : Int) = some (if (v : Int) = bs[j].f0 then ((rd_T82 ks bs[j].f1).f0 - (rd_T82 ks bs[j].f0).f0, (rd_T82 ks bs[j].f1).f1 - (rd_T82 ks bs[j].f0).f1) else if (v : Int) = bs[j].f1 then ((rd_T82 ks bs[j].f0).f0 - (rd_T82 ks bs[j].f1).f0, (rd_T82 ks bs[j].f0).f1 - (rd_T82 ks bs[j].f1).f1) else (0, 0)) := by
   unfold impl_pullOf.f
   rw [if_pos (by omega), if_pos g2, if_pos g0, if_pos (by omega)]
   generalize rd_T82 ks bs[j].f0 = A at *
   generalize rd_T82 ks bs[j].f1 = B at *
   rw [w64 (x := B.f0 - A.f0) (by omega) (by omega), w64 (x := B.f1 - A.f1) (by omega) (by omega), w64 (x := -(B.f0 - A.f0)) (by omega) (by omega), w64 (x := -(B.f1 - A.f1)) (by omega) (by omega)]
   split
   ·rfl
   ·split
    ·rw [Int.neg_sub, Int.neg_sub]
    ·rfl
  generalize hA : rd_T82 ks bs[j].f0 = A at *
  generalize hB : rd_T82 ks bs[j].f1 = B at *
  have wAB0 : wrap64 (A.f0 - B.f0) = A.f0 - B.f0 := w64 (by omega) (by omega)
  have wAB1 : wrap64 (A.f1 - B.f1) = A.f1 - B.f1 := w64 (by omega) (by omega)
  have wBA0 : wrap64 (B.f0 - A.f0) = B.f0 - A.f0 := w64 (by omega) (by omega)
  have wBA1 : wrap64 (B.f1 - A.f1) = B.f1 - A.f1 := w64 (by omega) (by omega)
  by_cases ga : bs[j].f0 = (v : Int)
  ·rw [if_pos ga.symm] at P
   obtain ⟨q, e1, e2⟩ := IH (wrap64 (sx + wrap64 (ns[j] * (B.f0 - A.f0)))) (wrap64 (sy + wrap64 (ns[j] * (B.f1 - A.f1)))) (wrap_idem _) (wrap_idem _)
   refine ⟨q, S1 q (ev_pos ga (ev_pos (by omega) (ev_succ ?_))), S2 q _ _ P e2⟩
   simp only [spec_l09Balanced.j2]
   rw [wBA0, wBA1, w64s (i := j) (by omega)]
   exact ev_neg (by omega) e1
  ·rw [if_neg (fun q => ga q.symm)] at P
   by_cases gb : bs[j].f1 = (v : Int)
   ·rw [if_pos gb.symm] at P
    obtain ⟨q, e1, e2⟩ := IH (wrap64 (sx + wrap64 (ns[j] * (A.f0 - B.f0)))) (wrap64 (sy + wrap64 (ns[j] * (A.f1 - B.f1)))) (wrap_idem _) (wrap_idem _)
    refine ⟨q, S1 q (ev_neg ga (ev_succ ?_)), S2 q _ _ P e2⟩
    simp only [spec_l09Balanced.j2]
    rw [wAB0, wAB1, w64s (i := j) (by omega), rd_nat hj']
    exact ev_pos gb (ev_pos (by omega) (ev_pos (by omega) e1))
   ·rw [if_neg (fun q => gb q.symm)] at P
    obtain ⟨q, e1, e2⟩ := IH sx sy wx wy
    refine ⟨q, S1 q (ev_neg ga (ev_succ ?_)), S2 q _ _ P ?_⟩
    ·simp only [spec_l09Balanced.j2]
     rw [w64s (i := j) (by omega)]
     exact ev_neg gb e1
    ·rw [Int.mul_zero, show wrap64 0 = 0 from w64 (by omega) (by omega), Int.add_zero, Int.add_zero, wx, wy]
     exact e2
theorem drop_cons {l : List Int} {i : Nat} {a : Int} {t : List Int} (h : l.drop i = a :: t) : ∃ hi : i < l.length, l[i] = a ∧ l.drop (i + 1) = t := by
 have hi : i < l.length := by
  rcases Nat.lt_or_ge i l.length with g | g
  ·exact g
  ·rw [List.drop_eq_nil_of_le g] at h; cases h
 rw [List.drop_eq_getElem_cons hi] at h
 injection h with h1 h2
 exact ⟨hi, h1, h2⟩
theorem bal_l0 (ks : List S82) (bs : List S84) (f : OkF ks bs) (ld : List S97) (hld : ld.length = ks.length) (ns : List Int) (d : Int) (hl : ns.length = bs.length) (free : List Int) (h8 : free.length ≤ 8) : ∀ (e i fi : Nat), i + e = ks.length → free.drop fi = freeL i (ks.drop i) → fi ≤ free.length →
  ∃ q : Bool, Ev (fun k => spec_l09Balanced.l0 k ld (i : Int) ks bs ns d) q ∧ Ev (fun k => impl_IsBalanced.l0 k ld free (free.length : Int) (fi : Int) ks bs ns d) (q, 0)
 | 0, i, fi, hd, hf, hfl => by
  have k8 := f.k8
  rw [show ks.drop i = [] by simp; omega] at hf
  have : fi = free.length := by
   have := congrArg List.length hf
   simp [freeL] at this; omega
  refine ⟨true, ?_, ?_⟩
  ·refine ev_succ ?_; simp only [spec_l09Balanced.l0]; exact ev_neg (by omega) (Ev.now _)
  ·refine ev_succ ?_; simp only [impl_IsBalanced.l0]; exact ev_neg (by omega) (Ev.now _)
 | e + 1, i, fi, hd, hf, hfl => by
  have k8 := f.k8
  have hi : i < ks.length := by omega
  rw [List.drop_eq_getElem_cons hi] at hf
  simp only [freeL] at hf
  by_cases g : ks[i].f2 = true
  ·rw [if_pos g] at hf
   obtain ⟨q, e1, e2⟩ := bal_l0 ks bs f ld hld ns d hl free h8 e (i + 1) fi (by omega) hf hfl
   refine ⟨q, ?_, e2⟩
   refine ev_succ ?_; simp only [spec_l09Balanced.l0]
   rw [rdIKnot hi, w64s (i := i) (by omega)]
   exact ev_pos (by omega) (ev_pos (by omega) (ev_pos g e1))
  ·rw [if_neg g] at hf
   obtain ⟨hfi, v1, v2⟩ := drop_cons hf
   obtain ⟨q, e1, e2⟩ := bal_l0 ks bs f ld hld ns d hl free h8 e (i + 1) (fi + 1) (by omega) v2 (by omega)
   have hil : i < ld.length := by omega
   obtain ⟨q', e3, e4⟩ := bal_l1 ks bs f ld ns d hl free i fi (by omega) (by omega) q e1 e2 bs.length 0 (wrap64 (ld[i].f0 * d)) (wrap64 (ld[i].f1 * d)) (by omega) (wrap_idem _) (wrap_idem _)
   refine ⟨q', ?_, ?_⟩
   ·refine ev_succ ?_; simp only [spec_l09Balanced.l0]
    rw [rdIKnot hi, rdPl hil]
    exact ev_pos (by omega) (ev_pos (by omega) (ev_neg g (ev_pos (by omega) e3)))
   ·refine ev_succ ?_; simp only [impl_IsBalanced.l0]
    rw [rd_nat hfi, v1, rdPl hil]
    exact ev_pos (by omega) (ev_pos (by omega) (ev_pos (by omega) (ev_pos (by omega) (ev_pos (by omega) e4))))
theorem key (ks : List S82) (bs : List S84) (ld : List S97) (ns : List Int) (d : Int) (hn : ns.length ≤ 1048576) (hm : ld.length ≤ 1048576) :
  ∃ r : Bool × Int, Ev (fun k => spec_IsBalanced.f k ks bs ld ns d) r ∧ Ev (fun k => impl_IsBalanced.f k ks bs ld ns d) r := by
 have e1 := l09Ok_ev ks bs
 have e2 := sLoads_ev ks bs ld hm
 have e3 := sDense_ev ks bs ns d hn
 have i2 := iLoads_ev ks bs ld hm
 have i3 := iDense_ev ks bs ns d hn
 have sb : Ev (fun k => spec_IsBalanced.j0 k ld true ks bs ns d) (false, 1) := by
  refine ev_succ ?_; simp only [spec_IsBalanced.j0]; exact ev_pos (by trivial) (Ev.now _)
 have ib : Ev (fun k => impl_IsBalanced.j0 k ld true ks bs ns d) (false, 1) := by
  refine ev_succ ?_; simp only [impl_IsBalanced.j0]; exact ev_pos (by trivial) (Ev.now _)
 by_cases h : okF ks bs = true
 ·have f := okF_facts h
  rw [h] at e1 i2 i3
  by_cases g : okL9 ks ld = true
  ·rw [g] at e2 i2
   by_cases t : denseOk bs ns d = true
   ·rw [t] at e3 i3
    have hl : ns.length = bs.length := by unfold denseOk at t; simp at t; exact t.1
    have hld : ld.length = ks.length := by unfold okL9 at g; simp at g; exact g.1
    have h8 : (freeL 0 ks).length ≤ 8 := by rw [freeL_length]; have := freeC_le ks; have := f.k8; omega
    obtain ⟨q, b1, b2⟩ := bal_l0 ks bs f ld hld ns d hl (freeL 0 ks) h8 ks.length 0 0 (by omega) (by simp) (by omega)
    refine ⟨(q, 0), ?_, ?_⟩
    ·simp only [spec_IsBalanced.f]
     refine Ev.bind e1 (ev_pos (by trivial) (Ev.bind e2 (ev_pos (by trivial) (Ev.bind e3 (ev_succ ?_)))))
     simp only [spec_IsBalanced.j0, spec_l09Balanced.f]
     exact ev_neg (by simp) (Ev.bind b1 (Ev.now _))
    ·simp only [impl_IsBalanced.f]
     refine Ev.bind i2 (ev_pos (by trivial) (Ev.bind i3 (ev_succ ?_)))
     simp only [impl_IsBalanced.j0]
     exact ev_neg (by simp) (Ev.bind (freeKnots_ev ks bs f.k8) b2)
   ·rw [Bool.eq_false_iff.2 t] at e3 i3
    refine ⟨(false, 1), ?_, ?_⟩
    ·simp only [spec_IsBalanced.f]; exact Ev.bind e1 (ev_pos (by trivial) (Ev.bind e2 (ev_pos (by trivial) (Ev.bind e3 sb))))
    ·simp only [impl_IsBalanced.f]; exact Ev.bind i2 (ev_pos (by trivial) (Ev.bind i3 ib))
  ·rw [Bool.eq_false_iff.2 g] at e2 i2
   refine ⟨(false, 1), ?_, ?_⟩
   ·simp only [spec_IsBalanced.f]; exact Ev.bind e1 (ev_pos (by trivial) (Ev.bind e2 (ev_neg (by simp) sb)))
   ·simp only [impl_IsBalanced.f]; exact Ev.bind i2 (ev_neg (by simp) ib)
 ·rw [Bool.eq_false_iff.2 h] at e1 i2
  refine ⟨(false, 1), ?_, ?_⟩
  ·simp only [spec_IsBalanced.f]; exact Ev.bind e1 (ev_neg (by simp) sb)
  ·simp only [impl_IsBalanced.f]; exact Ev.bind i2 (ev_neg (by simp) ib)
theorem FnExactIsBalanced : laws_FnExactIsBalanced.Pure := by
 intro l0 l1 l2 l3 a h0 _ h1 _ h2 _ h3 _ _
 refine Ev.rounds ?_
 simp only [laws_FnExactIsBalanced.f]
 obtain ⟨r, es, hr⟩ := szF_eq l0 l1 1048576 h0 h1 (by omega) (by omega)
 refine ev_now es (ev_if (fun _ => Ev.now _) (fun h => ?_))
 obtain ⟨q0, q1, q2⟩ := hr h
 refine ev_now (szPullS_eq l2 r h2 (by omega) q2) (ev_if (fun _ => Ev.now _) (fun h' => ?_))
 have hm : l2.length ≤ 1048576 ∧ ¬ r - (l2.length : Int) < 0 := by
  by_cases g : r - (l2.length : Int) < 0
  ·rw [if_pos g] at h'; omega
  ·omega
 rw [if_neg hm.2]
 refine ev_now (szD_eq l3 a _ h3 (by omega) (by omega)) (ev_if (fun _ => Ev.now _) (fun h'' => ?_))
 have hn : l3.length ≤ 1048576 := by
  by_cases g : r - (l2.length : Int) - (l3.length : Int) < 0
  ·rw [if_pos g] at h''; omega
  ·omega
 have t0 := toF_ev l0 l1 q0 q1
 have t1 := toPullS_ev l2 hm.1
 have t2 := toD_ev l3 a hn
 have m0 : (l0.map convKnot).length ≤ 1048576 := by simpa using q0
 have m1 : (l1.map convBar).length ≤ 1048576 := by simpa using q1
 have m2 : (l2.map convPull).length ≤ 1048576 := by simpa using hm.1
 obtain ⟨v, e1, e2⟩ := key (l0.map convKnot) (l1.map convBar) (l2.map convPull) l3 a hn m2
 refine Ev.bind t0 (Ev.bind t1 (Ev.bind t2 (Ev.bind e1 (Ev.bind t0 (Ev.bind t1 (Ev.bind t2 (Ev.bind e2 (ev_neg (by simp) ?_))))))))
 rw [show (v.2 != v.2) = false by simp]
 refine ev_succ ?_; simp only [laws_FnExactIsBalanced.j0]
 exact ev_neg (by simp) (Ev.bind t0 (Ev.bind (eqF_self _ _ m0 m1) (ev_pos (by trivial) (Ev.bind t1 (Ev.bind (eqPullS_self _ m2) (ev_pos (by trivial) (Ev.bind t2 (Ev.bind (eqD_self _ _ hn) (ev_pos (by trivial) (Ev.now _))))))))))
end Go.Proofs.Ytacijlpnpkhjaaa.PureFnExactIsBalanced
namespace Go.Proofs.Ytacijlpnpkhjaaa.Pure
open Go.Proofs.Ytacijlpnpkhjaaa.HBal
theorem FnExactIsBalanced : laws_FnExactIsBalanced.Pure := PureFnExactIsBalanced.FnExactIsBalanced
end Go.Proofs.Ytacijlpnpkhjaaa.Pure
