/- The program's function answers as the statement says. Conditions: none beyond the given statement's own. -/
import Derived.Test.YtacijlpnpkhjaaaHFrx27
import Derived.Test.YtacijlpnpkhjaaaLib
import Derived.Test.YtacijlpnpkhjaaaLibRat
set_option linter.unusedVariables false
set_option linter.unusedSimpArgs false
namespace Go.Proofs.Ytacijlpnpkhjaaa.PureFnExactSquareOfTension
open Go.RowKit Go.Proofs.Ytacijlpnpkhjaaa.HFr Go.Proofs.YtacijlpnpkhjaaaW.PrintWords Go.Proofs.YtacijlpnpkhjaaaW.PrintLast Go.Proofs.YtacijlpnpkhjaaaW.PrintMore Go.Proofs.Ytacijlpnpkhjaaa.Lib
theorem l00In_eq (a b c : Int) : spec_l00In.f a b c = some (decide (b ≤ a ∧ a ≤ c)) := by
  unfold spec_l00In.f; by_cases h : a ≥ b <;> simp [h]

theorem within_eq (a b c : Int) : impl_within.f a b c = some (decide (b ≤ a ∧ a ≤ c)) := by
  unfold impl_within.f; by_cases h : a ≥ b <;> simp [h]

def convKnot (x : S113) : S82 := ⟨x.f0, x.f1, x.f2⟩
theorem rdLKnot {xs : List S113} {i : Nat} (h : i < xs.length) : rd_T113 xs (i : Int) = xs[i] := by
  unfold rd_T113; simp [List.getD_eq_getElem?_getD, h]
theorem rdIKnot {xs : List S82} {i : Nat} (h : i < xs.length) : rd_T82 xs (i : Int) = xs[i] := by
  unfold rd_T82; simp [List.getD_eq_getElem?_getD, h]
theorem toKnotS_l0 (x0 : List S113) (hn : x0.length ≤ 1048576) : ∀ (d i : Nat) (x3 : List S82), i + d = x0.length → x3.length = x0.length → x3.take i = (x0.map convKnot).take i →
    Ev (fun k => laws_toKnotS.l0 k x0 x3 (i : Int)) (x0.map convKnot)
  | 0, i, x3, hd, hl, ht => by
    refine ev_succ ?_
    simp only [laws_toKnotS.l0]
    refine ev_neg (by omega) (ev_some ?_)
    rw [List.take_of_length_le (by omega), List.take_of_length_le (by simp; omega)] at ht; exact ht
  | d + 1, i, x3, hd, hl, ht => by
    refine ev_succ ?_
    simp only [laws_toKnotS.l0]
    refine ev_pos (by omega) (ev_pos (by omega) (ev_now rfl (ev_pos (by omega) ?_)))
    rw [w64s (by omega), Int.toNat_natCast, rdLKnot (by omega)]
    exact toKnotS_l0 x0 hn d (i + 1) _ (by omega) (by simpa using hl) (take_set _ _ _ _ (by omega) (by simp; omega) ht (by simp [convKnot]))
theorem toKnotS_ev (l : List S113) (hn : l.length ≤ 1048576) : Ev (fun k => laws_toKnotS.f k l) (l.map convKnot) := by
  simp only [laws_toKnotS.f]
  refine ev_pos (by omega) (ev_pos (by omega) ?_)
  exact toKnotS_l0 l (by omega) l.length 0 _ (by omega) (by simp) (by simp)

def convBar (x : S115) : S84 := ⟨x.f0, x.f1, x.f2⟩
theorem rdLBar {xs : List S115} {i : Nat} (h : i < xs.length) : rd_T115 xs (i : Int) = xs[i] := by
  unfold rd_T115; simp [List.getD_eq_getElem?_getD, h]
theorem rdIBar {xs : List S84} {i : Nat} (h : i < xs.length) : rd_T84 xs (i : Int) = xs[i] := by
  unfold rd_T84; simp [List.getD_eq_getElem?_getD, h]
theorem toBarS_l0 (x0 : List S115) (hn : x0.length ≤ 1048576) : ∀ (d i : Nat) (x3 : List S84), i + d = x0.length → x3.length = x0.length → x3.take i = (x0.map convBar).take i →
    Ev (fun k => laws_toBarS.l0 k x0 x3 (i : Int)) (x0.map convBar)
  | 0, i, x3, hd, hl, ht => by
    refine ev_succ ?_
    simp only [laws_toBarS.l0]
    refine ev_neg (by omega) (ev_some ?_)
    rw [List.take_of_length_le (by omega), List.take_of_length_le (by simp; omega)] at ht; exact ht
  | d + 1, i, x3, hd, hl, ht => by
    refine ev_succ ?_
    simp only [laws_toBarS.l0]
    refine ev_pos (by omega) (ev_pos (by omega) (ev_now rfl (ev_pos (by omega) ?_)))
    rw [w64s (by omega), Int.toNat_natCast, rdLBar (by omega)]
    exact toBarS_l0 x0 hn d (i + 1) _ (by omega) (by simpa using hl) (take_set _ _ _ _ (by omega) (by simp; omega) ht (by simp [convBar]))
theorem toBarS_ev (l : List S115) (hn : l.length ≤ 1048576) : Ev (fun k => laws_toBarS.f k l) (l.map convBar) := by
  simp only [laws_toBarS.f]
  refine ev_pos (by omega) (ev_pos (by omega) ?_)
  exact toBarS_l0 l (by omega) l.length 0 _ (by omega) (by simp) (by simp)

theorem and_f1 {a b c d : Int} (h : ¬ c = d) : (a == b && c == d) = false := by simp [h]
theorem and_f0 {a b c d : Int} (h : ¬ a = b) : (a == b && c == d) = false := by simp [h]
def anyK (l : List S82) (a b : Int) : Bool := l.any fun o => o.f0 == a && o.f1 == b
def anyB (l : List S84) (a b : Int) : Bool := l.any fun o => o.f0 == a && o.f1 == b
theorem anyK_drop {l : List S82} {i : Nat} (h : i < l.length) (a b : Int) : anyK (l.drop i) a b = ((l[i].f0 == a && l[i].f1 == b) || anyK (l.drop (i + 1)) a b) := by
  rw [List.drop_eq_getElem_cons h]; rfl
theorem anyB_drop {l : List S84} {i : Nat} (h : i < l.length) (a b : Int) : anyB (l.drop i) a b = ((l[i].f0 == a && l[i].f1 == b) || anyB (l.drop (i + 1)) a b) := by
  rw [List.drop_eq_getElem_cons h]; rfl
def knotOk (pre : List S82) (k : S82) : Bool := decide (0 ≤ k.f0 ∧ k.f0 ≤ 12) && decide (0 ≤ k.f1 ∧ k.f1 ≤ 12) && !anyK pre k.f0 k.f1
def fixK (ks : List S82) (a : Int) : Bool := (rd_T82 ks a).f2
def barOk (ks : List S82) (pre : List S84) (b : S84) : Bool := decide (0 ≤ b.f0 ∧ b.f0 < b.f1 ∧ b.f1 < (ks.length : Int)) && !(fixK ks b.f0 && fixK ks b.f1) && !anyB pre b.f0 b.f1
def okKs : List S82 → List S82 → Bool
  | _, [] => true
  | pre, k :: l => knotOk pre k && okKs (pre ++ [k]) l
def okBs (ks : List S82) : List S84 → List S84 → Bool
  | _, [] => true
  | pre, b :: l => barOk ks pre b && okBs ks (pre ++ [b]) l
def freeC (ks : List S82) : Nat := (ks.filter fun k => !k.f2).length
def okF (ks : List S82) (bs : List S84) : Bool := decide (ks.length ≤ 8) && decide (bs.length ≤ 8) && (okKs [] ks && (okBs ks [] bs && decide (freeC ks ≤ 3)))
theorem okKs_step {l : List S82} {i : Nat} (h : i < l.length) : okKs (l.take i) (l.drop i) = (knotOk (l.take i) l[i] && okKs (l.take (i + 1)) (l.drop (i + 1))) := by
  rw [List.drop_eq_getElem_cons h, List.take_succ_eq_append_getElem h]; rfl
theorem okBs_step (ks : List S82) {l : List S84} {i : Nat} (h : i < l.length) : okBs ks (l.take i) (l.drop i) = (barOk ks (l.take i) l[i] && okBs ks (l.take (i + 1)) (l.drop (i + 1))) := by
  rw [List.drop_eq_getElem_cons h, List.take_succ_eq_append_getElem h]; rfl
theorem freeC_step {l : List S82} {i : Nat} (h : i < l.length) : freeC (l.take (i + 1)) = freeC (l.take i) + if l[i].f2 = true then 0 else 1 := by
  rw [List.take_succ_eq_append_getElem h]; unfold freeC; rw [List.filter_append, List.length_append]
  congr 1
  cases h' : l[i].f2 <;> simp [List.filter, h']
theorem freeC_le (l : List S82) : freeC l ≤ l.length := List.length_filter_le ..
theorem s_l3 (ks : List S82) (bs : List S84) (n fr : Int) (i : Nat) (hi : i < bs.length) (hb : bs.length ≤ 8) (a b : Int) (c : Bool) (r : Bool) (h1 : anyB (bs.take i) a b = true → r = false)
    (h2 : anyB (bs.take i) a b = false → Ev (fun k => spec_l09Ok.l2 k n fr ((i + 1 : Nat) : Int) ks bs) r) : ∀ (d j : Nat), j + d = i → anyB (bs.take i) a b = anyB ((bs.take i).drop j) a b →
    Ev (fun k => spec_l09Ok.l3 k n fr (i : Int) (j : Int) ks bs a b c) r
  | 0, j, hd, hs => by
    refine ev_succ ?_; simp only [spec_l09Ok.l3]
    rw [w64s (i := i) (by omega)]
    refine ev_neg (by omega) (h2 ?_)
    rw [hs, show (bs.take i).drop j = [] by simp; omega]; rfl
  | d + 1, j, hd, hs => by
    have hj : j < (bs.take i).length := by simp; omega
    rw [anyB_drop hj, List.getElem_take] at hs
    refine ev_succ ?_; simp only [spec_l09Ok.l3]
    rw [rdIBar (show j < bs.length by omega), w64s (i := j) (by omega)]
    have next : (bs[j].f0 == a && bs[j].f1 == b) = false → Ev (fun k => spec_l09Ok.l3 k n fr (i : Int) ((j + 1 : Nat) : Int) ks bs a b c) r := fun g => by
      refine s_l3 ks bs n fr i hi hb a b c r h1 h2 d (j + 1) (by omega) ?_
      rw [hs, g]; rfl
    refine ev_pos (by omega) (ev_pos (by omega) (ev_pos (by omega) (ev_if (fun g1 => ev_if (fun g2 => ev_some ?_) (fun g2 => next ?_)) (fun g1 => next ?_))))
    · symm; apply h1; rw [hs, g1, g2]; simp
    · exact and_f1 g2
    · exact and_f0 g1
theorem s_l2 (ks : List S82) (bs : List S84) (hk : ks.length ≤ 8) (hb : bs.length ≤ 8) (fr : Int) : ∀ (d i : Nat), i + d = bs.length →
    Ev (fun k => spec_l09Ok.l2 k (ks.length : Int) fr (i : Int) ks bs) (okBs ks (bs.take i) (bs.drop i) && decide (fr ≤ 3))
  | 0, i, hd => by
    refine ev_succ ?_; simp only [spec_l09Ok.l2]
    refine ev_neg (by omega) (ev_some ?_)
    rw [show bs.drop i = [] by simp; omega]; rfl
  | d + 1, i, hd => by
    have hi : i < bs.length := by omega
    have ih := s_l2 ks bs hk hb fr d (i + 1) (by omega)
    rw [okBs_step ks hi]
    have bad : ∀ (a b : Int) (c : Bool), Ev (fun k => spec_l09Ok.j6 k (ks.length : Int) fr (i : Int) true ks bs a b c) false := fun a b c => by
      refine ev_succ ?_; simp only [spec_l09Ok.j6]; exact ev_pos (by trivial) (Ev.now _)
    refine ev_succ ?_; simp only [spec_l09Ok.l2]
    rw [rdIBar hi]
    generalize hx : bs[i] = x at *
    rw [w64 (x := (ks.length : Int) - 1) (by omega) (by omega)]
    refine ev_pos (by omega) (ev_pos (by omega) (ev_now (l00In_eq _ _ _) (ev_if (fun g1 => ?_) (fun g1 => ?_))))
    · have g1 := of_decide_eq_true g1
      rw [w64 (x := x.f0 + 1) (by omega) (by omega)]
      refine ev_now (l00In_eq _ _ _) (ev_if (fun g2 => ?_) (fun g2 => ?_))
      · have g2 := of_decide_eq_true g2
        have good : decide (0 ≤ x.f0 ∧ x.f0 < x.f1 ∧ x.f1 < (ks.length : Int)) = true := decide_eq_true (by omega)
        have main : ∀ q : Bool, q = (fixK ks x.f0 && fixK ks x.f1) → Ev (fun k => spec_l09Ok.j6 k (ks.length : Int) fr (i : Int) q ks bs x.f0 x.f1 x.f2) ((barOk ks (bs.take i) x && okBs ks (bs.take (i + 1)) (bs.drop (i + 1))) && decide (fr ≤ 3)) := by
          intro q hq
          unfold barOk; rw [good, ← hq]
          refine ev_succ ?_; simp only [spec_l09Ok.j6]
          refine ev_if (fun h => ev_some (by rw [h]; simp)) (fun h => ?_)
          have h : q = false := Bool.eq_false_iff.2 h
          refine s_l3 ks bs _ fr i hi hb x.f0 x.f1 x.f2 _ (fun g => ?_) (fun g => ?_) i 0 (by omega) (by simp)
          · rw [g]; simp
          · rw [g, h]; simpa using ih
        refine ev_pos (by omega) (ev_pos (by omega) (ev_if (fun h => ev_pos (by omega) (ev_pos (by omega) (main _ ?_))) (fun h => main _ ?_)))
        · unfold fixK; rw [h]; rfl
        · unfold fixK; rw [Bool.eq_false_iff.2 h]; rfl
      · rw [show barOk ks (bs.take i) x = false by unfold barOk; rw [decide_eq_false (by intro g; apply g2; apply decide_eq_true; omega)]; rfl]
        exact bad _ _ _
    · rw [show barOk ks (bs.take i) x = false by unfold barOk; rw [decide_eq_false (by intro g; apply g1; apply decide_eq_true; omega)]; rfl]
      exact bad _ _ _
theorem s_l1 (ks : List S82) (bs : List S84) (n fr : Int) (i : Nat) (hi : i < ks.length) (hb : ks.length ≤ 8) (a b : Int) (c : Bool) (r : Bool) (h1 : anyK (ks.take i) a b = true → r = false)
    (h2 : anyK (ks.take i) a b = false → Ev (fun k => spec_l09Ok.l0 k n fr ((i + 1 : Nat) : Int) ks bs) r) : ∀ (d j : Nat), j + d = i → anyK (ks.take i) a b = anyK ((ks.take i).drop j) a b →
    Ev (fun k => spec_l09Ok.l1 k n fr (i : Int) (j : Int) ks bs a b c) r
  | 0, j, hd, hs => by
    refine ev_succ ?_; simp only [spec_l09Ok.l1]
    rw [w64s (i := i) (by omega)]
    refine ev_neg (by omega) (h2 ?_)
    rw [hs, show (ks.take i).drop j = [] by simp; omega]; rfl
  | d + 1, j, hd, hs => by
    have hj : j < (ks.take i).length := by simp; omega
    rw [anyK_drop hj, List.getElem_take] at hs
    refine ev_succ ?_; simp only [spec_l09Ok.l1]
    rw [rdIKnot (show j < ks.length by omega), w64s (i := j) (by omega)]
    have next : (ks[j].f0 == a && ks[j].f1 == b) = false → Ev (fun k => spec_l09Ok.l1 k n fr (i : Int) ((j + 1 : Nat) : Int) ks bs a b c) r := fun g => by
      refine s_l1 ks bs n fr i hi hb a b c r h1 h2 d (j + 1) (by omega) ?_
      rw [hs, g]; rfl
    refine ev_pos (by omega) (ev_pos (by omega) (ev_pos (by omega) (ev_if (fun g1 => ev_if (fun g2 => ev_some ?_) (fun g2 => next ?_)) (fun g1 => next ?_))))
    · symm; apply h1; rw [hs, g1, g2]; simp
    · exact and_f1 g2
    · exact and_f0 g1
theorem s_l0 (ks : List S82) (bs : List S84) (hk : ks.length ≤ 8) (hb : bs.length ≤ 8) : ∀ (d i : Nat), i + d = ks.length →
    Ev (fun k => spec_l09Ok.l0 k (ks.length : Int) (freeC (ks.take i) : Int) (i : Int) ks bs) (okKs (ks.take i) (ks.drop i) && (okBs ks [] bs && decide (freeC ks ≤ 3)))
  | 0, i, hd => by
    refine ev_succ ?_; simp only [spec_l09Ok.l0]
    refine ev_neg (by omega) ?_
    have e := s_l2 ks bs hk hb (freeC ks : Int) bs.length 0 (by omega)
    rw [show ks.drop i = [] by simp; omega, List.take_of_length_le (by omega)]
    rw [show decide (freeC ks ≤ 3) = decide ((freeC ks : Int) ≤ 3) by apply decide_eq_decide.2; omega]
    exact e
  | d + 1, i, hd => by
    have hi : i < ks.length := by omega
    have ih := s_l0 ks bs hk hb d (i + 1) (by omega)
    rw [freeC_step hi] at ih
    have fl := freeC_le (ks.take i)
    rw [List.length_take] at fl
    rw [okKs_step hi]
    have bad : ∀ (fr a b : Int) (c : Bool), Ev (fun k => spec_l09Ok.j2 k (ks.length : Int) fr (i : Int) true ks bs a b c) false := fun fr a b c => by
      refine ev_succ ?_; simp only [spec_l09Ok.j2]; exact ev_pos (by trivial) (Ev.now _)
    refine ev_succ ?_; simp only [spec_l09Ok.l0]
    rw [rdIKnot hi]
    generalize hx : ks[i] = x at *
    refine ev_pos (by omega) (ev_pos (by omega) (ev_now (l00In_eq _ _ _) (ev_if (fun g1 => ev_now (l00In_eq _ _ _) ?_) (fun g1 => ?_))))
    · by_cases g2 : 0 ≤ x.f1 ∧ x.f1 ≤ 12
      · rw [decide_eq_true g2]
        have last : ∀ fr : Int, fr = ((freeC (ks.take i) + if x.f2 = true then 0 else 1 : Nat) : Int) → Ev (fun k => spec_l09Ok.j3 k (ks.length : Int) fr (i : Int) ks bs x.f0 x.f1 x.f2) ((knotOk (ks.take i) x && okKs (ks.take (i + 1)) (ks.drop (i + 1))) && (okBs ks [] bs && decide (freeC ks ≤ 3))) := by
          intro fr hfr
          refine ev_succ ?_; simp only [spec_l09Ok.j3]
          unfold knotOk; rw [g1, decide_eq_true g2]
          refine s_l1 ks bs _ fr i hi hk x.f0 x.f1 x.f2 _ (fun g => ?_) (fun g => ?_) i 0 (by omega) (by simp)
          · rw [g]; simp
          · rw [g, hfr]; simpa using ih
        refine ev_succ ?_; simp only [spec_l09Ok.j2]
        refine ev_neg (by simp) (ev_if (fun h => last _ ?_) (fun h => last _ ?_))
        · rw [if_pos h]; rfl
        · rw [if_neg h, w64s (by omega)]
      · rw [decide_eq_false g2, show knotOk (ks.take i) x = false by unfold knotOk; rw [decide_eq_false g2]; simp]
        exact bad _ _ _ _
    · rw [show knotOk (ks.take i) x = false by unfold knotOk; rw [Bool.eq_false_iff.2 g1]; simp]
      exact bad _ _ _ _
theorem l09Ok_ev (ks : List S82) (bs : List S84) : Ev (fun k => spec_l09Ok.f k ks bs) (okF ks bs) := by
  have bad : Ev (fun k => spec_l09Ok.j0 k (ks.length : Int) true ks bs) false := by
    refine ev_succ ?_; simp only [spec_l09Ok.j0]; exact ev_pos (by trivial) (Ev.now _)
  simp only [spec_l09Ok.f]
  refine ev_if (fun h => ?_) (fun h => ?_)
  · rw [show okF ks bs = false by unfold okF; rw [decide_eq_false (show ¬ ks.length ≤ 8 by omega)]; rfl]; exact bad
  · by_cases h8 : (bs.length : Int) > 8
    · rw [decide_eq_true h8, show okF ks bs = false by unfold okF; rw [decide_eq_false (show ¬ bs.length ≤ 8 by omega)]; simp]; exact bad
    · rw [decide_eq_false h8]
      have e := s_l0 ks bs (by omega) (by omega) ks.length 0 (by omega)
      rw [show okF ks bs = (okKs [] ks && (okBs ks [] bs && decide (freeC ks ≤ 3))) by unfold okF; rw [decide_eq_true (show ks.length ≤ 8 by omega), decide_eq_true (show bs.length ≤ 8 by omega)]; simp]
      refine ev_succ ?_; simp only [spec_l09Ok.j0]
      exact ev_neg (by simp) e
def freeL : Nat → List S82 → List Int
  | _, [] => []
  | i, k :: l => if k.f2 = true then freeL (i + 1) l else (i : Int) :: freeL (i + 1) l
theorem freeL_length : ∀ (l : List S82) (i : Nat), (freeL i l).length = freeC l
  | [], i => rfl
  | k :: l, i => by
    have ih := freeL_length l (i + 1)
    unfold freeC at ih ⊢
    rw [freeL, List.filter_cons]
    cases h : k.f2 <;> simp [ih]
theorem freeKnots_l0 (ks : List S82) (hk : ks.length ≤ 8) : ∀ (d i : Nat) (o : List Int), i + d = ks.length → o.length ≤ i →
    Ev (fun k => impl_freeKnots.l0 k o ks (ks.length : Int) (i : Int)) (o ++ freeL i (ks.drop i))
  | 0, i, o, hd, ho => by
    refine ev_succ ?_; simp only [impl_freeKnots.l0]
    refine ev_neg (by omega) (ev_some ?_)
    rw [show ks.drop i = [] by simp; omega]; simp [freeL]
  | d + 1, i, o, hd, ho => by
    have hi : i < ks.length := by omega
    refine ev_succ ?_; simp only [impl_freeKnots.l0]
    rw [rdIKnot hi, w64s (by omega), List.drop_eq_getElem_cons hi]
    simp only [freeL]
    refine ev_pos (by omega) (ev_pos (by omega) (ev_pos (by omega) (ev_if (fun h => ?_) (fun h => ev_pos (by omega) ?_))))
    · rw [if_pos h]
      exact freeKnots_l0 ks hk d (i + 1) o (by omega) (by omega)
    · rw [if_neg h]
      have := freeKnots_l0 ks hk d (i + 1) (o ++ [(i : Int)]) (by omega) (by simp; omega)
      simpa using this
theorem freeKnots_ev (ks : List S82) (bs : List S84) (hk : ks.length ≤ 8) : Ev (fun k => impl_freeKnots.f k ks bs) (freeL 0 ks) := by
  simp only [impl_freeKnots.f]
  simpa using freeKnots_l0 ks hk ks.length 0 [] (by omega) (by simp)
theorem i_l3 (ks : List S82) (bs : List S84) (i : Nat) (hi : i < bs.length) (hb : bs.length ≤ 8) (a b : Int) (c : Bool) (r : Bool) (h1 : anyB (bs.take i) a b = true → r = false)
    (h2 : anyB (bs.take i) a b = false → Ev (fun k => impl_ValidFrame.l2 k bs (bs.length : Int) ((i + 1 : Nat) : Int) ks bs) r) : ∀ (d j : Nat), j + d = i → anyB (bs.take i) a b = anyB ((bs.take i).drop j) a b →
    Ev (fun k => impl_ValidFrame.l3 k bs (bs.length : Int) (i : Int) (bs.take i) ((bs.take i).length : Int) (j : Int) ks bs a b c) r
  | 0, j, hd, hs => by
    have hl : (bs.take i).length = i := by simp; omega
    refine ev_succ ?_; simp only [impl_ValidFrame.l3]
    rw [w64s (i := i) (by omega)]
    refine ev_neg (by omega) (h2 ?_)
    rw [hs, show (bs.take i).drop j = [] by simp; omega]; rfl
  | d + 1, j, hd, hs => by
    have hl : (bs.take i).length = i := by simp; omega
    have hj : j < (bs.take i).length := by omega
    rw [anyB_drop hj] at hs
    refine ev_succ ?_; simp only [impl_ValidFrame.l3]
    rw [rdIBar hj, w64s (i := j) (by omega)]
    have next : ((bs.take i)[j].f0 == a && (bs.take i)[j].f1 == b) = false → Ev (fun k => impl_ValidFrame.l3 k bs (bs.length : Int) (i : Int) (bs.take i) ((bs.take i).length : Int) ((j + 1 : Nat) : Int) ks bs a b c) r := fun g => by
      refine i_l3 ks bs i hi hb a b c r h1 h2 d (j + 1) (by omega) ?_
      rw [hs, g]; rfl
    refine ev_pos (by omega) (ev_pos (by omega) (ev_pos (by omega) (ev_if (fun g1 => ev_if (fun g2 => ev_some ?_) (fun g2 => next ?_)) (fun g1 => next ?_))))
    · symm; apply h1; rw [hs, g1, g2]; simp
    · exact and_f1 g2
    · exact and_f0 g1
theorem i_l2 (ks : List S82) (bs : List S84) (hk : ks.length ≤ 8) (hb : bs.length ≤ 8) : ∀ (d i : Nat), i + d = bs.length →
    Ev (fun k => impl_ValidFrame.l2 k bs (bs.length : Int) (i : Int) ks bs) (okBs ks (bs.take i) (bs.drop i))
  | 0, i, hd => by
    refine ev_succ ?_; simp only [impl_ValidFrame.l2]
    refine ev_neg (by omega) (ev_some ?_)
    rw [show bs.drop i = [] by simp; omega]; rfl
  | d + 1, i, hd => by
    have hi : i < bs.length := by omega
    have ih := i_l2 ks bs hk hb d (i + 1) (by omega)
    rw [okBs_step ks hi]
    have bad : ∀ (a b : Int) (c : Bool), Ev (fun k => impl_ValidFrame.j5 k (i : Int) bs (bs.length : Int) (i : Int) true ks bs a b c) false := fun a b c => by
      refine ev_succ ?_; simp only [impl_ValidFrame.j5]; exact ev_pos (by trivial) (Ev.now _)
    refine ev_succ ?_; simp only [impl_ValidFrame.l2]
    rw [rdIBar hi]
    generalize hx : bs[i] = x at *
    have nope : ¬ (0 ≤ x.f0 ∧ x.f0 < x.f1 ∧ x.f1 < (ks.length : Int)) → barOk ks (bs.take i) x = false := fun g => by unfold barOk; rw [decide_eq_false g]; rfl
    refine ev_pos (by omega) (ev_pos (by omega) (ev_pos (by omega) (ev_if (fun g1 => ?_) (fun g1 => ev_if (fun g2 => ?_) (fun g2 => ev_if (fun g3 => ?_) (fun g3 => ?_))))))
    · rw [nope (by omega)]; exact bad _ _ _
    · rw [nope (by omega)]; exact bad _ _ _
    · rw [nope (by omega)]; exact bad _ _ _
    · have good : decide (0 ≤ x.f0 ∧ x.f0 < x.f1 ∧ x.f1 < (ks.length : Int)) = true := decide_eq_true (by omega)
      have main : ∀ q : Bool, q = (fixK ks x.f0 && fixK ks x.f1) → Ev (fun k => impl_ValidFrame.j5 k (i : Int) bs (bs.length : Int) (i : Int) q ks bs x.f0 x.f1 x.f2) (barOk ks (bs.take i) x && okBs ks (bs.take (i + 1)) (bs.drop (i + 1))) := by
        intro q hq
        unfold barOk; rw [good, ← hq]
        refine ev_succ ?_; simp only [impl_ValidFrame.j5]
        refine ev_if (fun h => ev_some (by rw [h]; simp)) (fun h => ?_)
        have h : q = false := Bool.eq_false_iff.2 h
        refine ev_pos (by omega) (ev_pos (by omega) (ev_now rfl ?_))
        rw [Int.toNat_natCast]
        refine i_l3 ks bs i hi hb x.f0 x.f1 x.f2 _ (fun g => ?_) (fun g => ?_) i 0 (by omega) (by simp)
        · rw [g]; simp
        · rw [g, h]; simpa using ih
      refine ev_pos (by omega) (ev_pos (by omega) (ev_if (fun h => ev_pos (by omega) (ev_pos (by omega) (main _ ?_))) (fun h => main _ ?_)))
      · unfold fixK; rw [h]; rfl
      · unfold fixK; rw [Bool.eq_false_iff.2 h]; rfl
theorem i_l1 (ks : List S82) (bs : List S84) (i : Nat) (hi : i < ks.length) (hb : ks.length ≤ 8) (a b : Int) (c : Bool) (r : Bool) (h1 : anyK (ks.take i) a b = true → r = false)
    (h2 : anyK (ks.take i) a b = false → Ev (fun k => impl_ValidFrame.l0 k ks (ks.length : Int) ((i + 1 : Nat) : Int) ks bs) r) : ∀ (d j : Nat), j + d = i → anyK (ks.take i) a b = anyK ((ks.take i).drop j) a b →
    Ev (fun k => impl_ValidFrame.l1 k ks (ks.length : Int) (i : Int) (ks.take i) ((ks.take i).length : Int) (j : Int) ks bs a b c) r
  | 0, j, hd, hs => by
    have hl : (ks.take i).length = i := by simp; omega
    refine ev_succ ?_; simp only [impl_ValidFrame.l1]
    rw [w64s (i := i) (by omega)]
    refine ev_neg (by omega) (h2 ?_)
    rw [hs, show (ks.take i).drop j = [] by simp; omega]; rfl
  | d + 1, j, hd, hs => by
    have hl : (ks.take i).length = i := by simp; omega
    have hj : j < (ks.take i).length := by omega
    rw [anyK_drop hj] at hs
    refine ev_succ ?_; simp only [impl_ValidFrame.l1]
    rw [rdIKnot hj, w64s (i := j) (by omega)]
    have next : ((ks.take i)[j].f0 == a && (ks.take i)[j].f1 == b) = false → Ev (fun k => impl_ValidFrame.l1 k ks (ks.length : Int) (i : Int) (ks.take i) ((ks.take i).length : Int) ((j + 1 : Nat) : Int) ks bs a b c) r := fun g => by
      refine i_l1 ks bs i hi hb a b c r h1 h2 d (j + 1) (by omega) ?_
      rw [hs, g]; rfl
    refine ev_pos (by omega) (ev_pos (by omega) (ev_pos (by omega) (ev_if (fun g1 => ev_if (fun g2 => ev_some ?_) (fun g2 => next ?_)) (fun g1 => next ?_))))
    · symm; apply h1; rw [hs, g1, g2]; simp
    · exact and_f1 g2
    · exact and_f0 g1
theorem i_l0 (ks : List S82) (bs : List S84) (hk : ks.length ≤ 8) (hb : bs.length ≤ 8) : ∀ (d i : Nat), i + d = ks.length →
    Ev (fun k => impl_ValidFrame.l0 k ks (ks.length : Int) (i : Int) ks bs) (okKs (ks.take i) (ks.drop i) && okBs ks [] bs)
  | 0, i, hd => by
    refine ev_succ ?_; simp only [impl_ValidFrame.l0]
    refine ev_neg (by omega) ?_
    have e := i_l2 ks bs hk hb bs.length 0 (by omega)
    rw [show ks.drop i = [] by simp; omega]
    exact e
  | d + 1, i, hd => by
    have hi : i < ks.length := by omega
    have ih := i_l0 ks bs hk hb d (i + 1) (by omega)
    rw [okKs_step hi]
    have bad : ∀ (a b : Int) (c : Bool), Ev (fun k => impl_ValidFrame.j2 k (i : Int) ks (ks.length : Int) (i : Int) true ks bs a b c) false := fun a b c => by
      refine ev_succ ?_; simp only [impl_ValidFrame.j2]; exact ev_pos (by trivial) (Ev.now _)
    refine ev_succ ?_; simp only [impl_ValidFrame.l0]
    rw [rdIKnot hi]
    generalize hx : ks[i] = x at *
    refine ev_pos (by omega) (ev_pos (by omega) (ev_pos (by omega) (ev_now (within_eq _ _ _) (ev_if (fun g1 => ev_now (within_eq _ _ _) ?_) (fun g1 => ?_)))))
    · by_cases g2 : 0 ≤ x.f1 ∧ x.f1 ≤ 12
      · rw [decide_eq_true g2]
        unfold knotOk; rw [g1, decide_eq_true g2]
        refine ev_succ ?_; simp only [impl_ValidFrame.j2]
        refine ev_neg (by simp) (ev_pos (by omega) (ev_pos (by omega) (ev_now rfl ?_)))
        rw [Int.toNat_natCast]
        refine i_l1 ks bs i hi hk x.f0 x.f1 x.f2 _ (fun g => ?_) (fun g => ?_) i 0 (by omega) (by simp)
        · rw [g]; simp
        · rw [g]; simpa using ih
      · rw [decide_eq_false g2, show knotOk (ks.take i) x = false by unfold knotOk; rw [decide_eq_false g2]; simp]
        exact bad _ _ _
    · rw [show knotOk (ks.take i) x = false by unfold knotOk; rw [Bool.eq_false_iff.2 g1]; simp]
      exact bad _ _ _
theorem validFrame_ev (ks : List S82) (bs : List S84) : Ev (fun k => impl_ValidFrame.f k ks bs) (okF ks bs) := by
  have bad : Ev (fun k => impl_ValidFrame.j0 k true ks bs) false := by
    refine ev_succ ?_; simp only [impl_ValidFrame.j0]; exact ev_pos (by trivial) (Ev.now _)
  simp only [impl_ValidFrame.f]
  refine ev_if (fun h => ?_) (fun h => ev_if (fun h8 => ?_) (fun h8 => ?_))
  · rw [show okF ks bs = false by unfold okF; rw [decide_eq_false (show ¬ ks.length ≤ 8 by omega)]; rfl]; exact bad
  · rw [show okF ks bs = false by unfold okF; rw [decide_eq_false (show ¬ bs.length ≤ 8 by omega)]; simp]; exact bad
  · refine Ev.bind (freeKnots_ev ks bs (by omega)) ?_
    rw [freeL_length]
    by_cases g : freeC ks ≤ 3
    · rw [decide_eq_false (show ¬ (freeC ks : Int) > 3 by omega)]
      have e := i_l0 ks bs (by omega) (by omega) ks.length 0 (by omega)
      rw [show okF ks bs = (okKs [] ks && okBs ks [] bs) by unfold okF; rw [decide_eq_true (show ks.length ≤ 8 by omega), decide_eq_true (show bs.length ≤ 8 by omega), decide_eq_true g]; simp]
      refine ev_succ ?_; simp only [impl_ValidFrame.j0]
      exact ev_neg (by simp) e
    · rw [decide_eq_true (show (freeC ks : Int) > 3 by omega), show okF ks bs = false by unfold okF; rw [decide_eq_false g]; simp]
      exact bad

theorem okKs_all : ∀ (l pre : List S82), okKs pre l = true → ∀ k ∈ l, (0 ≤ k.f0 ∧ k.f0 ≤ 12) ∧ (0 ≤ k.f1 ∧ k.f1 ≤ 12)
  | [], _, _, k, hk => by cases hk
  | x :: l, pre, h, k, hk => by
    simp only [okKs, Bool.and_eq_true] at h
    rcases List.mem_cons.1 hk with g | g
    · subst g
      have := h.1; unfold knotOk at this; simp only [Bool.and_eq_true, decide_eq_true_eq] at this
      exact this.1
    · exact okKs_all l _ h.2 k g
theorem okBs_all (ks : List S82) : ∀ (l pre : List S84), okBs ks pre l = true → ∀ b ∈ l, 0 ≤ b.f0 ∧ b.f0 < b.f1 ∧ b.f1 < (ks.length : Int)
  | [], _, _, b, hb => by cases hb
  | x :: l, pre, h, b, hb => by
    simp only [okBs, Bool.and_eq_true] at h
    rcases List.mem_cons.1 hb with g | g
    · subst g
      have := h.1; unfold barOk at this; simp only [Bool.and_eq_true, decide_eq_true_eq] at this
      exact this.1.1
    · exact okBs_all ks l _ h.2 b g
structure OkF (ks : List S82) (bs : List S84) : Prop where
  k8 : ks.length ≤ 8
  b8 : bs.length ≤ 8
  knots : ∀ k ∈ ks, (0 ≤ k.f0 ∧ k.f0 ≤ 12) ∧ (0 ≤ k.f1 ∧ k.f1 ≤ 12)
  bars : ∀ b ∈ bs, 0 ≤ b.f0 ∧ b.f0 < b.f1 ∧ b.f1 < (ks.length : Int)
theorem okF_facts {ks : List S82} {bs : List S84} (h : okF ks bs = true) : OkF ks bs := by
  unfold okF at h
  simp only [Bool.and_eq_true, decide_eq_true_eq] at h
  exact ⟨h.1.1, h.1.2, okKs_all ks [] h.2.1, okBs_all ks bs [] h.2.2.1⟩
theorem rdKi {ks : List S82} {a : Int} (h0 : 0 ≤ a) (h1 : a < (ks.length : Int)) : rd_T82 ks a ∈ ks := by
  obtain ⟨n, rfl⟩ := Int.eq_ofNat_of_zero_le h0
  have hn : n < ks.length := by omega
  rw [show ((n : Nat) : Int) = (n : Int) from rfl, rdIKnot hn]
  exact List.getElem_mem hn
theorem rdBi {bs : List S84} {a : Int} (h0 : 0 ≤ a) (h1 : a < (bs.length : Int)) : rd_T84 bs a ∈ bs := by
  obtain ⟨n, rfl⟩ := Int.eq_ofNat_of_zero_le h0
  have hn : n < bs.length := by omega
  rw [show ((n : Nat) : Int) = (n : Int) from rfl, rdIBar hn]
  exact List.getElem_mem hn

theorem sq_bd {x : Int} (h0 : -12 ≤ x) (h1 : x ≤ 12) : 0 ≤ x * x ∧ x * x ≤ 144 := by
  rcases Int.le_total 0 x with h | h
  · have := Int.mul_le_mul h1 h1 h (by omega)
    exact ⟨Int.mul_nonneg h h, by omega⟩
  · have a : (-x) * (-x) ≤ 12 * 12 := Int.mul_le_mul (by omega) (by omega) (by omega) (by omega)
    have b : 0 ≤ (-x) * (-x) := Int.mul_nonneg (by omega) (by omega)
    rw [Int.neg_mul_neg] at a b
    exact ⟨b, by omega⟩
theorem square_both (ks : List S82) (bs : List S84) (h : OkF ks bs) (a : Int) (h0 : 0 ≤ a) (h1 : a < (bs.length : Int)) :
    ∃ r : Int, 0 ≤ r ∧ r ≤ 288 ∧ spec_l09Square.f ks bs a = some r ∧ impl_squareOfBar.f ks bs a = some r := by
  obtain ⟨g0, g1, g2⟩ := h.bars _ (rdBi h0 h1)
  unfold spec_l09Square.f impl_squareOfBar.f impl_pullOf.f
  generalize rd_T84 bs a = b at *
  have kA := h.knots _ (rdKi (ks := ks) (a := b.f0) g0 (by omega))
  have kB := h.knots _ (rdKi (ks := ks) (a := b.f1) (by omega) g2)
  generalize rd_T82 ks b.f0 = A at *
  generalize rd_T82 ks b.f1 = B at *
  have s0 := sq_bd (x := B.f0 - A.f0) (by omega) (by omega)
  have s1 := sq_bd (x := B.f1 - A.f1) (by omega) (by omega)
  rw [w64 (x := B.f0 - A.f0) (by omega) (by omega), w64 (x := B.f1 - A.f1) (by omega) (by omega)]
  refine ⟨(B.f0 - A.f0) * (B.f0 - A.f0) + (B.f1 - A.f1) * (B.f1 - A.f1), by omega, by omega, ?_, ?_⟩
  · rw [if_pos h0, if_pos h1, if_pos g0, if_pos (by omega), if_pos (by omega), if_pos g2]
    rw [w64 (x := (B.f0 - A.f0) * (B.f0 - A.f0)) (by omega) (by omega), w64 (x := (B.f1 - A.f1) * (B.f1 - A.f1)) (by omega) (by omega), w64 (by omega) (by omega)]
  · rw [if_pos h0, if_pos h1, if_pos (by omega), if_pos g2, if_pos g0, if_pos (by omega), if_pos rfl]
    simp only [Option.bind_some]
    rw [w64 (x := (B.f0 - A.f0) * (B.f0 - A.f0)) (by omega) (by omega), w64 (x := (B.f1 - A.f1) * (B.f1 - A.f1)) (by omega) (by omega), w64 (by omega) (by omega)]
def codeBar (ks : List S82) (bs : List S84) (a : Int) : Int := if okF ks bs = true then (if 0 ≤ a ∧ a ≤ (bs.length : Int) - 1 then 0 else 2) else 1
theorem l09Bar_ev (ks : List S82) (bs : List S84) (a : Int) : Ev (fun k => spec_l09Bar.f k ks bs a) (codeBar ks bs a) := by
  simp only [spec_l09Bar.f]
  unfold codeBar
  refine Ev.bind (l09Ok_ev ks bs) (ev_if (fun h => ?_) (fun h => ev_some ?_))
  · have f := (okF_facts h).b8
    rw [if_pos h, w64 (x := (bs.length : Int) - 1) (by omega) (by omega)]
    refine ev_now (l00In_eq _ _ _) (ev_if (fun g => ev_some ?_) (fun g => ev_some ?_))
    · rw [if_pos (of_decide_eq_true g)]
    · rw [if_neg (fun q => g (decide_eq_true q))]
  · rw [if_neg h]

theorem rdEKnot {xs : List S82} {i : Nat} (h : i < xs.length) : rd_T82 xs (i : Int) = xs[i] := by
  unfold rd_T82; simp [List.getD_eq_getElem?_getD, h]
theorem eqKnot_self (x : S82) : laws_eqKnot.f x.f0 x.f1 x.f2 x.f0 x.f1 x.f2 = some true := by
  simp [laws_eqKnot.f]
theorem eqKnotS_l0 (x0 : List S82) (hn : x0.length ≤ 1048576) : ∀ (d i : Nat), i + d = x0.length → Ev (fun k => laws_eqKnotS.l0 k x0 x0 (i : Int)) true
  | 0, i, hd => by
    refine ev_succ ?_
    simp only [laws_eqKnotS.l0]
    exact ev_neg (by omega) (Ev.now _)
  | d + 1, i, hd => by
    refine ev_succ ?_
    simp only [laws_eqKnotS.l0]
    refine ev_pos (by omega) (ev_pos (by omega) (ev_pos (by omega) (ev_now (eqKnot_self _) (ev_pos (by trivial) ?_))))
    rw [w64s (by omega)]
    exact eqKnotS_l0 x0 hn d (i + 1) (by omega)
theorem eqKnotS_self (l : List S82) (hn : l.length ≤ 1048576) : Ev (fun k => laws_eqKnotS.f k l l) true := by
  simp only [laws_eqKnotS.f]
  exact ev_pos (by trivial) (eqKnotS_l0 l hn l.length 0 (by omega))

theorem rdEBar {xs : List S84} {i : Nat} (h : i < xs.length) : rd_T84 xs (i : Int) = xs[i] := by
  unfold rd_T84; simp [List.getD_eq_getElem?_getD, h]
theorem eqBar_self (x : S84) : laws_eqBar.f x.f0 x.f1 x.f2 x.f0 x.f1 x.f2 = some true := by
  simp [laws_eqBar.f]
theorem eqBarS_l0 (x0 : List S84) (hn : x0.length ≤ 1048576) : ∀ (d i : Nat), i + d = x0.length → Ev (fun k => laws_eqBarS.l0 k x0 x0 (i : Int)) true
  | 0, i, hd => by
    refine ev_succ ?_
    simp only [laws_eqBarS.l0]
    exact ev_neg (by omega) (Ev.now _)
  | d + 1, i, hd => by
    refine ev_succ ?_
    simp only [laws_eqBarS.l0]
    refine ev_pos (by omega) (ev_pos (by omega) (ev_pos (by omega) (ev_now (eqBar_self _) (ev_pos (by trivial) ?_))))
    rw [w64s (by omega)]
    exact eqBarS_l0 x0 hn d (i + 1) (by omega)
theorem eqBarS_self (l : List S84) (hn : l.length ≤ 1048576) : Ev (fun k => laws_eqBarS.f k l l) true := by
  simp only [laws_eqBarS.f]
  exact ev_pos (by trivial) (eqBarS_l0 l hn l.length 0 (by omega))

theorem szKnotS_eq (l : List S113) (n : Int) (hl : l.length ≤ maxLen) (h0 : 0 ≤ n) (h1 : n ≤ 1048576) : laws_szKnotS.f l n = some (if n - (l.length : Int) < 0 then -1 else n - (l.length : Int)) := by
  unfold maxLen at hl
  unfold laws_szKnotS.f
  rw [w64 (x := n - (l.length : Int)) (by omega) (by omega)]
  split <;> rfl

theorem szBarS_eq (l : List S115) (n : Int) (hl : l.length ≤ maxLen) (h0 : 0 ≤ n) (h1 : n ≤ 1048576) : laws_szBarS.f l n = some (if n - (l.length : Int) < 0 then -1 else n - (l.length : Int)) := by
  unfold maxLen at hl
  unfold laws_szBarS.f
  rw [w64 (x := n - (l.length : Int)) (by omega) (by omega)]
  split <;> rfl

theorem szF_eq (l0 : List S113) (l1 : List S115) (n : Int) (h0 : l0.length ≤ maxLen) (h1 : l1.length ≤ maxLen) (hn : 0 ≤ n) (hn' : n ≤ 1048576) :
    ∃ r : Int, laws_szFrame.f l0 l1 n = some r ∧ (¬ r < 0 → l0.length ≤ 1048576 ∧ l1.length ≤ 1048576 ∧ r ≤ n) := by
  unfold laws_szFrame.f
  rw [szKnotS_eq l0 n h0 hn hn']
  simp only [Option.bind_some]
  by_cases g : n - (l0.length : Int) < 0
  · rw [if_pos g]; exact ⟨-1, rfl, fun h => by omega⟩
  · rw [if_neg g, if_neg g, szBarS_eq l1 _ h1 (by omega) (by omega)]
    simp only [Option.bind_some]
    by_cases g' : n - (l0.length : Int) - (l1.length : Int) < 0
    · rw [if_pos g']; exact ⟨-1, rfl, fun h => by omega⟩
    · rw [if_neg g', if_neg g']; exact ⟨_, rfl, fun h => by omega⟩
theorem toF_ev (l0 : List S113) (l1 : List S115) (h0 : l0.length ≤ 1048576) (h1 : l1.length ≤ 1048576) : Ev (fun k => laws_toFrame.f k l0 l1) (l0.map convKnot, l1.map convBar) := by
  simp only [laws_toFrame.f]
  exact Ev.bind (toKnotS_ev l0 h0) (Ev.bind (toBarS_ev l1 h1) (Ev.now _))
theorem eqF_self (ks : List S82) (bs : List S84) (h0 : ks.length ≤ 1048576) (h1 : bs.length ≤ 1048576) : Ev (fun k => laws_eqFrame.f k ks bs ks bs) true := by
  simp only [laws_eqFrame.f]
  exact Ev.bind (eqKnotS_self _ h0) (ev_pos (by trivial) (Ev.bind (eqBarS_self _ h1) (ev_pos (by trivial) (Ev.now _))))

theorem spec_l00Gcd_l0 : ∀ (n : Nat) (a b : Int), b.natAbs < n → ∃ r : Int, Ev (fun k => spec_l00Gcd.l0 k a b) r ∧ r.natAbs = Nat.gcd a.natAbs b.natAbs ∧ (0 ≤ a → 0 ≤ b → 0 ≤ r)
  | 0, a, b, h => absurd h (Nat.not_lt_zero _)
  | n + 1, a, b, h => by
    by_cases hb : b = 0
    · subst hb
      refine ⟨a, ev_succ ?_, by simp, fun h0 _ => h0⟩
      simp only [spec_l00Gcd.l0]; exact ev_pos (by trivial) (Ev.now _)
    · have hlt : (Int.tmod a b).natAbs < b.natAbs := by rw [Int.natAbs_tmod]; exact Nat.mod_lt _ (by omega)
      obtain ⟨r, e, hg, hp⟩ := spec_l00Gcd_l0 n b (Int.tmod a b) (by omega)
      refine ⟨r, ev_succ ?_, ?_, fun h0 h1 => hp h1 (Int.tmod_nonneg _ h0)⟩
      · simp only [spec_l00Gcd.l0]; exact ev_neg hb e
      · rw [hg, Int.natAbs_tmod, Nat.gcd_comm a.natAbs, Nat.gcd_rec b.natAbs a.natAbs, Nat.gcd_comm]
theorem spec_l00Gcd_l0' (a b : Int) (h0 : 0 ≤ a) (h1 : 0 ≤ b) : Ev (fun k => spec_l00Gcd.l0 k a b) (Int.gcd a b : Int) := by
  obtain ⟨r, e, hg, hp⟩ := spec_l00Gcd_l0 (b.natAbs + 1) a b (by omega)
  have : r = (Int.gcd a b : Int) := by have := hp h0 h1; unfold Int.gcd; omega
  rw [← this]; exact e

theorem make_ev (n d : Int) (hn : -9223372036854775807 ≤ n) (hn' : n ≤ 9223372036854775807) (hd : 0 < d) (hd' : d ≤ 9223372036854775807) :
    Ev (fun k => spec_l01Make.f k n d) (fr ((n : Rat) / (d : Rat))) := by
  have es : spec_l00Size.f n = some (n.natAbs : Int) := by
    unfold spec_l00Size.f
    by_cases h : n < 0
    · rw [if_pos h, w64 (by omega) (by omega)]; congr 1; omega
    · rw [if_neg h]; congr 1; omega
  have eg := spec_l00Gcd_l0' (n.natAbs : Int) d (by omega) (by omega)
  have egg : Int.gcd (n.natAbs : Int) d = Int.gcd n d := by simp [Int.gcd]
  rw [egg] at eg
  simp only [spec_l01Make.f, spec_l00Gcd.f]
  refine ev_now es (Ev.bind eg (ev_neg (by have := gcd_pos (n := n) (d := d) (by omega); omega) (ev_some ?_)))
  have f := fr_make (n := n) hd
  have b1 := num_le (B := 9223372036854775807) hd (r := (n : Rat) / (d : Rat)) rfl (by omega) (by omega)
  have b2 := den_le hd (r := (n : Rat) / (d : Rat)) rfl
  have b3 := den_pos ((n : Rat) / (d : Rat))
  have f1 := congrArg Prod.fst f
  have f2 := congrArg Prod.snd f
  simp only [fr] at f1 f2
  rw [f1, f2, w64 (by omega) (by omega), w64 (by omega) (by omega)]; rfl

theorem impl_gcd_l0 : ∀ (n : Nat) (a b : Int), b.natAbs < n → ∃ r : Int, Ev (fun k => impl_gcd.l0 k a b) r ∧ r.natAbs = Nat.gcd a.natAbs b.natAbs ∧ (0 ≤ a → 0 ≤ b → 0 ≤ r)
  | 0, a, b, h => absurd h (Nat.not_lt_zero _)
  | n + 1, a, b, h => by
    by_cases hb : b = 0
    · subst hb
      refine ⟨a, ev_succ ?_, by simp, fun h0 _ => h0⟩
      simp only [impl_gcd.l0]; exact ev_pos (by trivial) (Ev.now _)
    · have hlt : (Int.tmod a b).natAbs < b.natAbs := by rw [Int.natAbs_tmod]; exact Nat.mod_lt _ (by omega)
      obtain ⟨r, e, hg, hp⟩ := impl_gcd_l0 n b (Int.tmod a b) (by omega)
      refine ⟨r, ev_succ ?_, ?_, fun h0 h1 => hp h1 (Int.tmod_nonneg _ h0)⟩
      · simp only [impl_gcd.l0]; exact ev_neg hb e
      · rw [hg, Int.natAbs_tmod, Nat.gcd_comm a.natAbs, Nat.gcd_rec b.natAbs a.natAbs, Nat.gcd_comm]
theorem impl_gcd_l0' (a b : Int) (h0 : 0 ≤ a) (h1 : 0 ≤ b) : Ev (fun k => impl_gcd.l0 k a b) (Int.gcd a b : Int) := by
  obtain ⟨r, e, hg, hp⟩ := impl_gcd_l0 (b.natAbs + 1) a b (by omega)
  have : r = (Int.gcd a b : Int) := by have := hp h0 h1; unfold Int.gcd; omega
  rw [← this]; exact e

theorem gcd_ev (a b : Int) (ha : -9223372036854775807 ≤ a) (ha' : a ≤ 9223372036854775807) (hb : 0 ≤ b) : Ev (fun k => impl_gcd.f k a b) (Int.gcd a b : Int) := by
  simp only [impl_gcd.f]
  refine ev_if (fun h => ?_) (fun h => ?_)
  · rw [w64 (by omega) (by omega)]
    refine ev_succ ?_; simp only [impl_gcd.j0]
    have := impl_gcd_l0' (-a) b (by omega) hb
    rw [Int.neg_gcd] at this; exact this
  · refine ev_succ ?_; simp only [impl_gcd.j0]
    exact impl_gcd_l0' a b (by omega) hb
theorem fraction_ev (n d : Int) (hn : -9223372036854775807 ≤ n) (hn' : n ≤ 9223372036854775807) (hd : -9223372036854775807 ≤ d) (hd' : d ≤ 9223372036854775807) (h0 : d ≠ 0) :
    Ev (fun k => impl_fraction.f k n d) (fr ((n : Rat) / (d : Rat))) := by
  have pos : ∀ m e : Int, -9223372036854775807 ≤ m → m ≤ 9223372036854775807 → 0 < e → e ≤ 9223372036854775807 →
      Ev (fun k => (impl_gcd.f k m e).bind fun t => if t = 0 then none else some (wrap64 (Int.tdiv m t), wrap64 (Int.tdiv e t))) (fr ((m : Rat) / (e : Rat))) := by
    intro m e hm hm' he he'
    refine Ev.bind (gcd_ev m e hm hm' (by omega)) (ev_neg (by have := gcd_pos (n := m) (d := e) (by omega); omega) (ev_some ?_))
    have f := fr_make (n := m) he
    have b1 := num_le (B := 9223372036854775807) he (r := (m : Rat) / (e : Rat)) rfl (by omega) (by omega)
    have b2 := den_le he (r := (m : Rat) / (e : Rat)) rfl
    have b3 := den_pos ((m : Rat) / (e : Rat))
    have f1 := congrArg Prod.fst f
    have f2 := congrArg Prod.snd f
    simp only [fr] at f1 f2
    rw [f1, f2, w64 (by omega) (by omega), w64 (by omega) (by omega)]; rfl
  simp only [impl_fraction.f]
  refine ev_if (fun h => ?_) (fun h => ?_)
  · rw [w64 (x := -n) (by omega) (by omega), w64 (x := -d) (by omega) (by omega), ← fr_make_neg h]
    exact pos (-n) (-d) (by omega) (by omega) (by omega) (by omega)
  · exact pos n d hn hn' (by omega) hd'

theorem mulbd {n : Int} (h0 : -1000000 ≤ n) (h1 : n ≤ 1000000) : 0 ≤ n * n ∧ n * n ≤ 1000000000000 := by
  rcases Int.le_total 0 n with h | h
  · have := Int.mul_le_mul h1 h1 h (by omega)
    exact ⟨Int.mul_nonneg h h, by omega⟩
  · have a : (-n) * (-n) ≤ 1000000 * 1000000 := Int.mul_le_mul (by omega) (by omega) (by omega) (by omega)
    have b : 0 ≤ (-n) * (-n) := Int.mul_nonneg (by omega) (by omega)
    rw [Int.neg_mul_neg] at a b
    exact ⟨b, by omega⟩
def densOk (n d : Int) : Bool := decide (-1000000 ≤ n ∧ n ≤ 1000000) && (decide (1 ≤ d ∧ d ≤ 1000000) && ((Int.gcd n d : Int) == 1))
theorem density_ev (n d : Int) : Ev (fun k => spec_l09Density.f k n d) (densOk n d) := by
  simp only [spec_l09Density.f, spec_l00Gcd.f]
  unfold densOk
  refine ev_now (l00In_eq _ _ _) (ev_if (fun g => ev_now (l00In_eq _ _ _) (ev_if (fun g' => ?_) (fun g' => ev_some ?_))) (fun g => ev_some ?_))
  · rw [g, g']
    have g := of_decide_eq_true g
    have g' := of_decide_eq_true g'
    have es : spec_l00Size.f n = some (n.natAbs : Int) := by
      unfold spec_l00Size.f
      by_cases h : n < 0
      · rw [if_pos h, w64 (by omega) (by omega)]; congr 1; omega
      · rw [if_neg h]; congr 1; omega
    have eg := spec_l00Gcd_l0' (n.natAbs : Int) d (by omega) (by omega)
    rw [show Int.gcd (n.natAbs : Int) d = Int.gcd n d by simp [Int.gcd]] at eg
    exact ev_now es (Ev.bind eg (ev_some (by simp)))
  · rw [g, Bool.eq_false_iff.2 g']; rfl
  · rw [Bool.eq_false_iff.2 g]; rfl
theorem key (ks : List S82) (bs : List S84) (a n d : Int) : ∃ r : Int × Int × Int, Ev (fun k => spec_SquareOfTension.f k ks bs a n d) r ∧ Ev (fun k => impl_SquareOfTension.f k ks bs a n d) r := by
  have e1 := l09Bar_ev ks bs a
  have e2 := validFrame_ev ks bs
  have ed := density_ev n d
  unfold codeBar at e1
  have sbad : ∀ c : Int, c ≠ 0 → Ev (fun k => spec_SquareOfTension.j1 k a c ks bs n d) (0, 0, c) := fun c hc => by
    refine ev_succ ?_; simp only [spec_SquareOfTension.j1]; exact ev_neg hc (Ev.now _)
  by_cases h : okF ks bs = true
  · have f := okF_facts h
    have b8 := f.b8
    rw [if_pos h] at e1
    rw [h] at e2
    have ibad : Ev (fun k => impl_SquareOfTension.j1 k a true ks bs n d) (0, 0, 2) := by
      refine ev_succ ?_; simp only [impl_SquareOfTension.j1]; exact ev_pos (by trivial) (Ev.now _)
    have w1 : wrap64 ((bs.length : Int) - 1) = (bs.length : Int) - 1 := w64 (by omega) (by omega)
    have ij : ∀ (b : Bool) (r : Int × Int × Int), Ev (fun k => impl_SquareOfTension.j0 k a b ks bs n d) r → b = densOk n d → Ev (fun k => impl_SquareOfTension.f k ks bs a n d) r := by
      intro b r hr hb
      simp only [impl_SquareOfTension.f]
      subst hb
      refine Ev.bind e2 (ev_pos (by trivial) (ev_now (within_eq _ _ _) (ev_if (fun g => ev_now (within_eq _ _ _) (ev_if (fun g' => ?_) (fun g' => ?_))) (fun g => ?_))))
      · have q := of_decide_eq_true g
        have q' := of_decide_eq_true g'
        refine Ev.bind (gcd_ev n d (by omega) (by omega) (by omega)) ?_
        unfold densOk at hr; rw [g, g'] at hr; simpa using hr
      · unfold densOk at hr; rw [g, Bool.eq_false_iff.2 g'] at hr; exact hr
      · unfold densOk at hr; rw [Bool.eq_false_iff.2 g] at hr; exact hr
    by_cases g : 0 ≤ a ∧ a ≤ (bs.length : Int) - 1
    · rw [if_pos g] at e1
      by_cases hd : densOk n d = true
      · obtain ⟨s, s0, s8, s1, s2⟩ := square_both ks bs f a g.1 (by omega)
        have hd' := hd
        unfold densOk at hd'; simp only [Bool.and_eq_true, decide_eq_true_eq] at hd'
        obtain ⟨hn, hdd, _⟩ := hd'
        have bn := mulbd hn.1 hn.2
        have bd := mulbd (n := d) (by omega) hdd.2
        have bd1 : 1 * 1 ≤ d * d := Int.mul_le_mul hdd.1 hdd.1 (by omega) (by omega)
        have m1 : n * n * s ≤ 1000000000000 * 288 := Int.mul_le_mul bn.2 s8 s0 (by omega)
        have m0 : 0 ≤ n * n * s := Int.mul_nonneg bn.1 s0
        have sn : -288000000 ≤ s * n ∧ s * n ≤ 288000000 := by
          rcases Int.le_total 0 n with q | q
          · have := Int.mul_le_mul s8 hn.2 q (by omega)
            have := Int.mul_nonneg s0 q
            omega
          · have a1 : s * (-n) ≤ 288 * 1000000 := Int.mul_le_mul s8 (by omega) (by omega) (by omega)
            have a2 : 0 ≤ s * (-n) := Int.mul_nonneg s0 (by omega)
            rw [Int.mul_neg] at a1 a2
            omega
        have ee : s * n * n = n * n * s := by rw [Int.mul_assoc, Int.mul_comm]
        have mk := make_ev (n * n * s) (d * d) (by omega) (by omega) (by omega) (by omega)
        have fk := fraction_ev (n * n * s) (d * d) (by omega) (by omega) (by omega) (by omega) (by omega)
        refine ⟨((fr (((n * n * s : Int) : Rat) / ((d * d : Int) : Rat))).1, (fr (((n * n * s : Int) : Rat) / ((d * d : Int) : Rat))).2, 0), ?_, ?_⟩
        · simp only [spec_SquareOfTension.f]
          refine Ev.bind e1 (ev_pos (by trivial) (Ev.bind ed ?_))
          rw [hd]
          refine ev_succ ?_; simp only [spec_SquareOfTension.j0]
          refine ev_neg (by simp) (ev_succ ?_)
          simp only [spec_SquareOfTension.j1]
          refine ev_pos (by trivial) (ev_now s1 ?_)
          rw [w64 (x := n * n) (by omega) (by omega), w64 (x := n * n * s) (by omega) (by omega), w64 (x := d * d) (by omega) (by omega)]
          exact Ev.bind mk (Ev.now _)
        · refine ij true _ ?_ hd.symm
          refine ev_succ ?_; simp only [impl_SquareOfTension.j0, w1]
          refine ev_now (within_eq _ _ _) (ev_pos (decide_eq_true g) (ev_succ ?_))
          simp only [impl_SquareOfTension.j1]
          refine ev_neg (by simp) (ev_now s2 ?_)
          rw [w64 (x := s * n) (by omega) (by omega), ee, w64 (x := n * n * s) (by omega) (by omega), w64 (x := d * d) (by omega) (by omega)]
          exact Ev.bind fk (Ev.now _)
      · refine ⟨(0, 0, 2), ?_, ?_⟩
        · simp only [spec_SquareOfTension.f]
          refine Ev.bind e1 (ev_pos (by trivial) (Ev.bind ed ?_))
          rw [Bool.eq_false_iff.2 hd]
          refine ev_succ ?_; simp only [spec_SquareOfTension.j0]
          exact ev_pos (by trivial) (sbad 2 (by omega))
        · refine ij false _ ?_ (Bool.eq_false_iff.2 hd).symm
          refine ev_succ ?_; simp only [impl_SquareOfTension.j0, w1]
          exact ev_now (within_eq _ _ _) (ev_pos (decide_eq_true g) ibad)
    · rw [if_neg g] at e1
      refine ⟨(0, 0, 2), ?_, ?_⟩
      · simp only [spec_SquareOfTension.f]
        refine Ev.bind e1 (ev_neg (by omega) (ev_succ ?_))
        simp only [spec_SquareOfTension.j0]
        exact ev_neg (by simp) (sbad 2 (by omega))
      · refine ij (densOk n d) _ ?_ rfl
        refine ev_succ ?_; simp only [impl_SquareOfTension.j0, w1]
        exact ev_now (within_eq _ _ _) (ev_neg (by rw [decide_eq_true_eq]; exact g) ibad)
  · rw [if_neg h] at e1
    rw [Bool.eq_false_iff.2 h] at e2
    refine ⟨(0, 0, 1), ?_, ?_⟩
    · simp only [spec_SquareOfTension.f]
      refine Ev.bind e1 (ev_neg (by omega) (ev_succ ?_))
      simp only [spec_SquareOfTension.j0]
      exact ev_neg (by simp) (sbad 1 (by omega))
    · simp only [impl_SquareOfTension.f]; exact Ev.bind e2 (ev_neg (by simp) (Ev.now _))
theorem FnExactSquareOfTension : laws_FnExactSquareOfTension.Pure := by
  intro l0 l1 a n d h0 _ h1 _ _ _ _
  refine Ev.rounds ?_
  simp only [laws_FnExactSquareOfTension.f]
  obtain ⟨r, es, hr⟩ := szF_eq l0 l1 1048576 h0 h1 (by omega) (by omega)
  refine ev_now es (ev_if (fun _ => Ev.now _) (fun h => ?_))
  obtain ⟨q0, q1, _⟩ := hr h
  have t0 := toF_ev l0 l1 q0 q1
  have m0 : (l0.map convKnot).length ≤ 1048576 := by simpa using q0
  have m1 : (l1.map convBar).length ≤ 1048576 := by simpa using q1
  obtain ⟨v, e1, e2⟩ := key (l0.map convKnot) (l1.map convBar) a n d
  refine Ev.bind t0 (ev_now rfl (Ev.bind e1 (Ev.bind t0 (ev_now rfl (Ev.bind e2 (ev_now (a := true) (by simp [laws_eqFraction.f]) (ev_pos (by trivial) ?_)))))))
  rw [show (v.2.2 != v.2.2) = false by simp]
  refine ev_succ ?_; simp only [laws_FnExactSquareOfTension.j0]
  exact ev_neg (by simp) (Ev.bind t0 (Ev.bind (eqF_self _ _ m0 m1) (ev_pos (by trivial) (Ev.now _))))

end Go.Proofs.Ytacijlpnpkhjaaa.PureFnExactSquareOfTension
namespace Go.Proofs.Ytacijlpnpkhjaaa.Pure
open Go.Proofs.Ytacijlpnpkhjaaa.HFr
theorem FnExactSquareOfTension : laws_FnExactSquareOfTension.Pure := PureFnExactSquareOfTension.FnExactSquareOfTension
end Go.Proofs.Ytacijlpnpkhjaaa.Pure
