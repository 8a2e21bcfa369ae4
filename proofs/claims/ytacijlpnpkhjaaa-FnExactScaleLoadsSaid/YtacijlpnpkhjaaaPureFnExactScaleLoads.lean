/- The program's function answers as the statement says. Conditions: none beyond the given statement's own. -/
import Derived.Test.YtacijlpnpkhjaaaHFrx23
import Derived.Test.YtacijlpnpkhjaaaLib
set_option linter.unusedVariables false
set_option linter.unusedSimpArgs false
namespace Go.Proofs.Ytacijlpnpkhjaaa.PureFnExactScaleLoads
open Go.RowKit Go.Proofs.Ytacijlpnpkhjaaa.HFr Go.Proofs.YtacijlpnpkhjaaaW.PrintWords Go.Proofs.YtacijlpnpkhjaaaW.PrintLast Go.Proofs.YtacijlpnpkhjaaaW.PrintMore Go.Proofs.Ytacijlpnpkhjaaa.Lib
theorem l00In_eq (a b c : Int) : spec_l00In.f a b c = some (decide (b ≤ a ∧ a ≤ c)) := by
  unfold spec_l00In.f; by_cases h : a ≥ b <;> simp [h]

theorem within_eq (a b c : Int) : impl_within.f a b c = some (decide (b ≤ a ∧ a ≤ c)) := by
  unfold impl_within.f; by_cases h : a ≥ b <;> simp [h]

def convKnot (x : S113) : S82 := ⟨x.f0, x.f1, x.f2⟩
theorem rdLKnot {xs : List S113} {i : Nat} (h : i < xs.length) : rd_T113 xs (i : Int) = xs[i] := by
  unfold rd_T113; simp [List.getD_eq_getElem?_getD, h]
theorem rdIKnot {xs : List S82} {i : Nat} (h : i < xs.length) : rd_T82 xs (i : Int) = xs[i] := by
  unfold rd_T82; simp [List.getD_eq_getElem?_getD, h]
theorem toKnotS_l0 (x0 : List S113) (hn : x0.length ≤ 1048576) : ∀ (d i : Nat) (x3 : List S82), i + d = x0.length → x3.length = x0.length → x3.take i = (x0.map convKnot).take i →
    Ev (fun k => laws_toKnotS.l0 k x0 x3 (i : Int)) (x0.map convKnot)
  | 0, i, x3, hd, hl, ht => by
    refine ev_succ ?_
    simp only [laws_toKnotS.l0]
    refine ev_neg (by omega) (ev_some ?_)
    rw [List.take_of_length_le (by omega), List.take_of_length_le (by simp; omega)] at ht; exact ht
  | d + 1, i, x3, hd, hl, ht => by
    refine ev_succ ?_
    simp only [laws_toKnotS.l0]
    refine ev_pos (by omega) (ev_pos (by omega) (ev_now rfl (ev_pos (by omega) ?_)))
    rw [w64s (by omega), Int.toNat_natCast, rdLKnot (by omega)]
    exact toKnotS_l0 x0 hn d (i + 1) _ (by omega) (by simpa using hl) (take_set _ _ _ _ (by omega) (by simp; omega) ht (by simp [convKnot]))
theorem toKnotS_ev (l : List S113) (hn : l.length ≤ 1048576) : Ev (fun k => laws_toKnotS.f k l) (l.map convKnot) := by
  simp only [laws_toKnotS.f]
  refine ev_pos (by omega) (ev_pos (by omega) ?_)
  exact toKnotS_l0 l (by omega) l.length 0 _ (by omega) (by simp) (by simp)

def convBar (x : S115) : S84 := ⟨x.f0, x.f1, x.f2⟩
theorem rdLBar {xs : List S115} {i : Nat} (h : i < xs.length) : rd_T115 xs (i : Int) = xs[i] := by
  unfold rd_T115; simp [List.getD_eq_getElem?_getD, h]
theorem rdIBar {xs : List S84} {i : Nat} (h : i < xs.length) : rd_T84 xs (i : Int) = xs[i] := by
  unfold rd_T84; simp [List.getD_eq_getElem?_getD, h]
theorem toBarS_l0 (x0 : List S115) (hn : x0.length ≤ 1048576) : ∀ (d i : Nat) (x3 : List S84), i + d = x0.length → x3.length = x0.length → x3.take i = (x0.map convBar).take i →
    Ev (fun k => laws_toBarS.l0 k x0 x3 (i : Int)) (x0.map convBar)
  | 0, i, x3, hd, hl, ht => by
    refine ev_succ ?_
    simp only [laws_toBarS.l0]
    refine ev_neg (by omega) (ev_some ?_)
    rw [List.take_of_length_le (by omega), List.take_of_length_le (by simp; omega)] at ht; exact ht
  | d + 1, i, x3, hd, hl, ht => by
    refine ev_succ ?_
    simp only [laws_toBarS.l0]
    refine ev_pos (by omega) (ev_pos (by omega) (ev_now rfl (ev_pos (by omega) ?_)))
    rw [w64s (by omega), Int.toNat_natCast, rdLBar (by omega)]
    exact toBarS_l0 x0 hn d (i + 1) _ (by omega) (by simpa using hl) (take_set _ _ _ _ (by omega) (by simp; omega) ht (by simp [convBar]))
theorem toBarS_ev (l : List S115) (hn : l.length ≤ 1048576) : Ev (fun k => laws_toBarS.f k l) (l.map convBar) := by
  simp only [laws_toBarS.f]
  refine ev_pos (by omega) (ev_pos (by omega) ?_)
  exact toBarS_l0 l (by omega) l.length 0 _ (by omega) (by simp) (by simp)

theorem and_f1 {a b c d : Int} (h : ¬ c = d) : (a == b && c == d) = false := by simp [h]
theorem and_f0 {a b c d : Int} (h : ¬ a = b) : (a == b && c == d) = false := by simp [h]
def anyK (l : List S82) (a b : Int) : Bool := l.any fun o => o.f0 == a && o.f1 == b
def anyB (l : List S84) (a b : Int) : Bool := l.any fun o => o.f0 == a && o.f1 == b
theorem anyK_drop {l : List S82} {i : Nat} (h : i < l.length) (a b : Int) : anyK (l.drop i) a b = ((l[i].f0 == a && l[i].f1 == b) || anyK (l.drop (i + 1)) a b) := by
  rw [List.drop_eq_getElem_cons h]; rfl
theorem anyB_drop {l : List S84} {i : Nat} (h : i < l.length) (a b : Int) : anyB (l.drop i) a b = ((l[i].f0 == a && l[i].f1 == b) || anyB (l.drop (i + 1)) a b) := by
  rw [List.drop_eq_getElem_cons h]; rfl
def knotOk (pre : List S82) (k : S82) : Bool := decide (0 ≤ k.f0 ∧ k.f0 ≤ 12) && decide (0 ≤ k.f1 ∧ k.f1 ≤ 12) && !anyK pre k.f0 k.f1
def fixK (ks : List S82) (a : Int) : Bool := (rd_T82 ks a).f2
def barOk (ks : List S82) (pre : List S84) (b : S84) : Bool := decide (0 ≤ b.f0 ∧ b.f0 < b.f1 ∧ b.f1 < (ks.length : Int)) && !(fixK ks b.f0 && fixK ks b.f1) && !anyB pre b.f0 b.f1
def okKs : List S82 → List S82 → Bool
  | _, [] => true
  | pre, k :: l => knotOk pre k && okKs (pre ++ [k]) l
def okBs (ks : List S82) : List S84 → List S84 → Bool
  | _, [] => true
  | pre, b :: l => barOk ks pre b && okBs ks (pre ++ [b]) l
def freeC (ks : List S82) : Nat := (ks.filter fun k => !k.f2).length
def okF (ks : List S82) (bs : List S84) : Bool := decide (ks.length ≤ 8) && decide (bs.length ≤ 8) && (okKs [] ks && (okBs ks [] bs && decide (freeC ks ≤ 3)))
theorem okKs_step {l : List S82} {i : Nat} (h : i < l.length) : okKs (l.take i) (l.drop i) = (knotOk (l.take i) l[i] && okKs (l.take (i + 1)) (l.drop (i + 1))) := by
  rw [List.drop_eq_getElem_cons h, List.take_succ_eq_append_getElem h]; rfl
theorem okBs_step (ks : List S82) {l : List S84} {i : Nat} (h : i < l.length) : okBs ks (l.take i) (l.drop i) = (barOk ks (l.take i) l[i] && okBs ks (l.take (i + 1)) (l.drop (i + 1))) := by
  rw [List.drop_eq_getElem_cons h, List.take_succ_eq_append_getElem h]; rfl
theorem freeC_step {l : List S82} {i : Nat} (h : i < l.length) : freeC (l.take (i + 1)) = freeC (l.take i) + if l[i].f2 = true then 0 else 1 := by
  rw [List.take_succ_eq_append_getElem h]; unfold freeC; rw [List.filter_append, List.length_append]
  congr 1
  cases h' : l[i].f2 <;> simp [List.filter, h']
theorem freeC_le (l : List S82) : freeC l ≤ l.length := List.length_filter_le ..
theorem s_l3 (ks : List S82) (bs : List S84) (n fr : Int) (i : Nat) (hi : i < bs.length) (hb : bs.length ≤ 8) (a b : Int) (c : Bool) (r : Bool) (h1 : anyB (bs.take i) a b = true → r = false)
    (h2 : anyB (bs.take i) a b = false → Ev (fun k => spec_l09Ok.l2 k n fr ((i + 1 : Nat) : Int) ks bs) r) : ∀ (d j : Nat), j + d = i → anyB (bs.take i) a b = anyB ((bs.take i).drop j) a b →
    Ev (fun k => spec_l09Ok.l3 k n fr (i : Int) (j : Int) ks bs a b c) r
  | 0, j, hd, hs => by
    refine ev_succ ?_; simp only [spec_l09Ok.l3]
    rw [w64s (i := i) (by omega)]
    refine ev_neg (by omega) (h2 ?_)
    rw [hs, show (bs.take i).drop j = [] by simp; omega]; rfl
  | d + 1, j, hd, hs => by
    have hj : j < (bs.take i).length := by simp; omega
    rw [anyB_drop hj, List.getElem_take] at hs
    refine ev_succ ?_; simp only [spec_l09Ok.l3]
    rw [rdIBar (show j < bs.length by omega), w64s (i := j) (by omega)]
    have next : (bs[j].f0 == a && bs[j].f1 == b) = false → Ev (fun k => spec_l09Ok.l3 k n fr (i : Int) ((j + 1 : Nat) : Int) ks bs a b c) r := fun g => by
      refine s_l3 ks bs n fr i hi hb a b c r h1 h2 d (j + 1) (by omega) ?_
      rw [hs, g]; rfl
    refine ev_pos (by omega) (ev_pos (by omega) (ev_pos (by omega) (ev_if (fun g1 => ev_if (fun g2 => ev_some ?_) (fun g2 => next ?_)) (fun g1 => next ?_))))
    · symm; apply h1; rw [hs, g1, g2]; simp
    · exact and_f1 g2
    · exact and_f0 g1
theorem s_l2 (ks : List S82) (bs : List S84) (hk : ks.length ≤ 8) (hb : bs.length ≤ 8) (fr : Int) : ∀ (d i : Nat), i + d = bs.length →
    Ev (fun k => spec_l09Ok.l2 k (ks.length : Int) fr (i : Int) ks bs) (okBs ks (bs.take i) (bs.drop i) && decide (fr ≤ 3))
  | 0, i, hd => by
    refine ev_succ ?_; simp only [spec_l09Ok.l2]
    refine ev_neg (by omega) (ev_some ?_)
    rw [show bs.drop i = [] by simp; omega]; rfl
  | d + 1, i, hd => by
    have hi : i < bs.length := by omega
    have ih := s_l2 ks bs hk hb fr d (i + 1) (by omega)
    rw [okBs_step ks hi]
    have bad : ∀ (a b : Int) (c : Bool), Ev (fun k => spec_l09Ok.j6 k (ks.length : Int) fr (i : Int) true ks bs a b c) false := fun a b c => by
      refine ev_succ ?_; simp only [spec_l09Ok.j6]; exact ev_pos (by trivial) (Ev.now _)
    refine ev_succ ?_; simp only [spec_l09Ok.l2]
    rw [rdIBar hi]
    generalize hx : bs[i] = x at *
    rw [w64 (x := (ks.length : Int) - 1) (by omega) (by omega)]
    refine ev_pos (by omega) (ev_pos (by omega) (ev_now (l00In_eq _ _ _) (ev_if (fun g1 => ?_) (fun g1 => ?_))))
    · have g1 := of_decide_eq_true g1
      rw [w64 (x := x.f0 + 1) (by omega) (by omega)]
      refine ev_now (l00In_eq _ _ _) (ev_if (fun g2 => ?_) (fun g2 => ?_))
      · have g2 := of_decide_eq_true g2
        have good : decide (0 ≤ x.f0 ∧ x.f0 < x.f1 ∧ x.f1 < (ks.length : Int)) = true := decide_eq_true (by omega)
        have main : ∀ q : Bool, q = (fixK ks x.f0 && fixK ks x.f1) → Ev (fun k => spec_l09Ok.j6 k (ks.length : Int) fr (i : Int) q ks bs x.f0 x.f1 x.f2) ((barOk ks (bs.take i) x && okBs ks (bs.take (i + 1)) (bs.drop (i + 1))) && decide (fr ≤ 3)) := by
          intro q hq
          unfold barOk; rw [good, ← hq]
          refine ev_succ ?_; simp only [spec_l09Ok.j6]
          refine ev_if (fun h => ev_some (by rw [h]; simp)) (fun h => ?_)
          have h : q = false := Bool.eq_false_iff.2 h
          refine s_l3 ks bs _ fr i hi hb x.f0 x.f1 x.f2 _ (fun g => ?_) (fun g => ?_) i 0 (by omega) (by simp)
          · rw [g]; simp
          · rw [g, h]; simpa using ih
        refine ev_pos (by omega) (ev_pos (by omega) (ev_if (fun h => ev_pos (by omega) (ev_pos (by omega) (main _ ?_))) (fun h => main _ ?_)))
        · unfold fixK; rw [h]; rfl
        · unfold fixK; rw [Bool.eq_false_iff.2 h]; rfl
      · rw [show barOk ks (bs.take i) x = false by unfold barOk; rw [decide_eq_false (by intro g; apply g2; apply decide_eq_true; omega)]; rfl]
        exact bad _ _ _
    · rw [show barOk ks (bs.take i) x = false by unfold barOk; rw [decide_eq_false (by intro g; apply g1; apply decide_eq_true; omega)]; rfl]
      exact bad _ _ _
theorem s_l1 (ks : List S82) (bs : List S84) (n fr : Int) (i : Nat) (hi : i < ks.length) (hb : ks.length ≤ 8) (a b : Int) (c : Bool) (r : Bool) (h1 : anyK (ks.take i) a b = true → r = false)
    (h2 : anyK (ks.take i) a b = false → Ev (fun k => spec_l09Ok.l0 k n fr ((i + 1 : Nat) : Int) ks bs) r) : ∀ (d j : Nat), j + d = i → anyK (ks.take i) a b = anyK ((ks.take i).drop j) a b →
    Ev (fun k => spec_l09Ok.l1 k n fr (i : Int) (j : Int) ks bs a b c) r
  | 0, j, hd, hs => by
    refine ev_succ ?_; simp only [spec_l09Ok.l1]
    rw [w64s (i := i) (by omega)]
    refine ev_neg (by omega) (h2 ?_)
    rw [hs, show (ks.take i).drop j = [] by simp; omega]; rfl
  | d + 1, j, hd, hs => by
    have hj : j < (ks.take i).length := by simp; omega
    rw [anyK_drop hj, List.getElem_take] at hs
    refine ev_succ ?_; simp only [spec_l09Ok.l1]
    rw [rdIKnot (show j < ks.length by omega), w64s (i := j) (by omega)]
    have next : (ks[j].f0 == a && ks[j].f1 == b) = false → Ev (fun k => spec_l09Ok.l1 k n fr (i : Int) ((j + 1 : Nat) : Int) ks bs a b c) r := fun g => by
      refine s_l1 ks bs n fr i hi hb a b c r h1 h2 d (j + 1) (by omega) ?_
      rw [hs, g]; rfl
    refine ev_pos (by omega) (ev_pos (by omega) (ev_pos (by omega) (ev_if (fun g1 => ev_if (fun g2 => ev_some ?_) (fun g2 => next ?_)) (fun g1 => next ?_))))
    · symm; apply h1; rw [hs, g1, g2]; simp
    · exact and_f1 g2
    · exact and_f0 g1
theorem s_l0 (ks : List S82) (bs : List S84) (hk : ks.length ≤ 8) (hb : bs.length ≤ 8) : ∀ (d i : Nat), i + d = ks.length →
    Ev (fun k => spec_l09Ok.l0 k (ks.length : Int) (freeC (ks.take i) : Int) (i : Int) ks bs) (okKs (ks.take i) (ks.drop i) && (okBs ks [] bs && decide (freeC ks ≤ 3)))
  | 0, i, hd => by
    refine ev_succ ?_; simp only [spec_l09Ok.l0]
    refine ev_neg (by omega) ?_
    have e := s_l2 ks bs hk hb (freeC ks : Int) bs.length 0 (by omega)
    rw [show ks.drop i = [] by simp; omega, List.take_of_length_le (by omega)]
    rw [show decide (freeC ks ≤ 3) = decide ((freeC ks : Int) ≤ 3) by apply decide_eq_decide.2; omega]
    exact e
  | d + 1, i, hd => by
    have hi : i < ks.length := by omega
    have ih := s_l0 ks bs hk hb d (i + 1) (by omega)
    rw [freeC_step hi] at ih
    have fl := freeC_le (ks.take i)
    rw [List.length_take] at fl
    rw [okKs_step hi]
    have bad : ∀ (fr a b : Int) (c : Bool), Ev (fun k => spec_l09Ok.j2 k (ks.length : Int) fr (i : Int) true ks bs a b c) false := fun fr a b c => by
      refine ev_succ ?_; simp only [spec_l09Ok.j2]; exact ev_pos (by trivial) (Ev.now _)
    refine ev_succ ?_; simp only [spec_l09Ok.l0]
    rw [rdIKnot hi]
    generalize hx : ks[i] = x at *
    refine ev_pos (by omega) (ev_pos (by omega) (ev_now (l00In_eq _ _ _) (ev_if (fun g1 => ev_now (l00In_eq _ _ _) ?_) (fun g1 => ?_))))
    · by_cases g2 : 0 ≤ x.f1 ∧ x.f1 ≤ 12
      · rw [decide_eq_true g2]
        have last : ∀ fr : Int, fr = ((freeC (ks.take i) + if x.f2 = true then 0 else 1 : Nat) : Int) → Ev (fun k => spec_l09Ok.j3 k (ks.length : Int) fr (i : Int) ks bs x.f0 x.f1 x.f2) ((knotOk (ks.take i) x && okKs (ks.take (i + 1)) (ks.drop (i + 1))) && (okBs ks [] bs && decide (freeC ks ≤ 3))) := by
          intro fr hfr
          refine ev_succ ?_; simp only [spec_l09Ok.j3]
          unfold knotOk; rw [g1, decide_eq_true g2]
          refine s_l1 ks bs _ fr i hi hk x.f0 x.f1 x.f2 _ (fun g => ?_) (fun g => ?_) i 0 (by omega) (by simp)
          · rw [g]; simp
          · rw [g, hfr]; simpa using ih
        refine ev_succ ?_; simp only [spec_l09Ok.j2]
        refine ev_neg (by simp) (ev_if (fun h => last _ ?_) (fun h => last _ ?_))
        · rw [if_pos h]; rfl
        · rw [if_neg h, w64s (by omega)]
      · rw [decide_eq_false g2, show knotOk (ks.take i) x = false by unfold knotOk; rw [decide_eq_false g2]; simp]
        exact bad _ _ _ _
    · rw [show knotOk (ks.take i) x = false by unfold knotOk; rw [Bool.eq_false_iff.2 g1]; simp]
      exact bad _ _ _ _
theorem l09Ok_ev (ks : List S82) (bs : List S84) : Ev (fun k => spec_l09Ok.f k ks bs) (okF ks bs) := by
  have bad : Ev (fun k => spec_l09Ok.j0 k (ks.length : Int) true ks bs) false := by
    refine ev_succ ?_; simp only [spec_l09Ok.j0]; exact ev_pos (by trivial) (Ev.now _)
  simp only [spec_l09Ok.f]
  refine ev_if (fun h => ?_) (fun h => ?_)
  · rw [show okF ks bs = false by unfold okF; rw [decide_eq_false (show ¬ ks.length ≤ 8 by omega)]; rfl]; exact bad
  · by_cases h8 : (bs.length : Int) > 8
    · rw [decide_eq_true h8, show okF ks bs = false by unfold okF; rw [decide_eq_false (show ¬ bs.length ≤ 8 by omega)]; simp]; exact bad
    · rw [decide_eq_false h8]
      have e := s_l0 ks bs (by omega) (by omega) ks.length 0 (by omega)
      rw [show okF ks bs = (okKs [] ks && (okBs ks [] bs && decide (freeC ks ≤ 3))) by unfold okF; rw [decide_eq_true (show ks.length ≤ 8 by omega), decide_eq_true (show bs.length ≤ 8 by omega)]; simp]
      refine ev_succ ?_; simp only [spec_l09Ok.j0]
      exact ev_neg (by simp) e
def freeL : Nat → List S82 → List Int
  | _, [] => []
  | i, k :: l => if k.f2 = true then freeL (i + 1) l else (i : Int) :: freeL (i + 1) l
theorem freeL_length : ∀ (l : List S82) (i : Nat), (freeL i l).length = freeC l
  | [], i => rfl
  | k :: l, i => by
    have ih := freeL_length l (i + 1)
    unfold freeC at ih ⊢
    rw [freeL, List.filter_cons]
    cases h : k.f2 <;> simp [ih]
theorem freeKnots_l0 (ks : List S82) (hk : ks.length ≤ 8) : ∀ (d i : Nat) (o : List Int), i + d = ks.length → o.length ≤ i →
    Ev (fun k => impl_freeKnots.l0 k o ks (ks.length : Int) (i : Int)) (o ++ freeL i (ks.drop i))
  | 0, i, o, hd, ho => by
    refine ev_succ ?_; simp only [impl_freeKnots.l0]
    refine ev_neg (by omega) (ev_some ?_)
    rw [show ks.drop i = [] by simp; omega]; simp [freeL]
  | d + 1, i, o, hd, ho => by
    have hi : i < ks.length := by omega
    refine ev_succ ?_; simp only [impl_freeKnots.l0]
    rw [rdIKnot hi, w64s (by omega), List.drop_eq_getElem_cons hi]
    simp only [freeL]
    refine ev_pos (by omega) (ev_pos (by omega) (ev_pos (by omega) (ev_if (fun h => ?_) (fun h => ev_pos (by omega) ?_))))
    · rw [if_pos h]
      exact freeKnots_l0 ks hk d (i + 1) o (by omega) (by omega)
    · rw [if_neg h]
      have := freeKnots_l0 ks hk d (i + 1) (o ++ [(i : Int)]) (by omega) (by simp; omega)
      simpa using this
theorem freeKnots_ev (ks : List S82) (bs : List S84) (hk : ks.length ≤ 8) : Ev (fun k => impl_freeKnots.f k ks bs) (freeL 0 ks) := by
  simp only [impl_freeKnots.f]
  simpa using freeKnots_l0 ks hk ks.length 0 [] (by omega) (by simp)
theorem i_l3 (ks : List S82) (bs : List S84) (i : Nat) (hi : i < bs.length) (hb : bs.length ≤ 8) (a b : Int) (c : Bool) (r : Bool) (h1 : anyB (bs.take i) a b = true → r = false)
    (h2 : anyB (bs.take i) a b = false → Ev (fun k => impl_ValidFrame.l2 k bs (bs.length : Int) ((i + 1 : Nat) : Int) ks bs) r) : ∀ (d j : Nat), j + d = i → anyB (bs.take i) a b = anyB ((bs.take i).drop j) a b →
    Ev (fun k => impl_ValidFrame.l3 k bs (bs.length : Int) (i : Int) (bs.take i) ((bs.take i).length : Int) (j : Int) ks bs a b c) r
  | 0, j, hd, hs => by
    have hl : (bs.take i).length = i := by simp; omega
    refine ev_succ ?_; simp only [impl_ValidFrame.l3]
    rw [w64s (i := i) (by omega)]
    refine ev_neg (by omega) (h2 ?_)
    rw [hs, show (bs.take i).drop j = [] by simp; omega]; rfl
  | d + 1, j, hd, hs => by
    have hl : (bs.take i).length = i := by simp; omega
    have hj : j < (bs.take i).length := by omega
    rw [anyB_drop hj] at hs
    refine ev_succ ?_; simp only [impl_ValidFrame.l3]
    rw [rdIBar hj, w64s (i := j) (by omega)]
    have next : ((bs.take i)[j].f0 == a && (bs.take i)[j].f1 == b) = false → Ev (fun k => impl_ValidFrame.l3 k bs (bs.length : Int) (i : Int) (bs.take i) ((bs.take i).length : Int) ((j + 1 : Nat) : Int) ks bs a b c) r := fun g => by
      refine i_l3 ks bs i hi hb a b c r h1 h2 d (j + 1) (by omega) ?_
      rw [hs, g]; rfl
    refine ev_pos (by omega) (ev_pos (by omega) (ev_pos (by omega) (ev_if (fun g1 => ev_if (fun g2 => ev_some ?_) (fun g2 => next ?_)) (fun g1 => next ?_))))
    · symm; apply h1; rw [hs, g1, g2]; simp
    · exact and_f1 g2
    · exact and_f0 g1
theorem i_l2 (ks : List S82) (bs : List S84) (hk : ks.length ≤ 8) (hb : bs.length ≤ 8) : ∀ (d i : Nat), i + d = bs.length →
    Ev (fun k => impl_ValidFrame.l2 k bs (bs.length : Int) (i : Int) ks bs) (okBs ks (bs.take i) (bs.drop i))
  | 0, i, hd => by
    refine ev_succ ?_; simp only [impl_ValidFrame.l2]
    refine ev_neg (by omega) (ev_some ?_)
    rw [show bs.drop i = [] by simp; omega]; rfl
  | d + 1, i, hd => by
    have hi : i < bs.length := by omega
    have ih := i_l2 ks bs hk hb d (i + 1) (by omega)
    rw [okBs_step ks hi]
    have bad : ∀ (a b : Int) (c : Bool), Ev (fun k => impl_ValidFrame.j5 k (i : Int) bs (bs.length : Int) (i : Int) true ks bs a b c) false := fun a b c => by
      refine ev_succ ?_; simp only [impl_ValidFrame.j5]; exact ev_pos (by trivial) (Ev.now _)
    refine ev_succ ?_; simp only [impl_ValidFrame.l2]
    rw [rdIBar hi]
    generalize hx : bs[i] = x at *
    have nope : ¬ (0 ≤ x.f0 ∧ x.f0 < x.f1 ∧ x.f1 < (ks.length : Int)) → barOk ks (bs.take i) x = false := fun g => by unfold barOk; rw [decide_eq_false g]; rfl
    refine ev_pos (by omega) (ev_pos (by omega) (ev_pos (by omega) (ev_if (fun g1 => ?_) (fun g1 => ev_if (fun g2 => ?_) (fun g2 => ev_if (fun g3 => ?_) (fun g3 => ?_))))))
    · rw [nope (by omega)]; exact bad _ _ _
    · rw [nope (by omega)]; exact bad _ _ _
    · rw [nope (by omega)]; exact bad _ _ _
    · have good : decide (0 ≤ x.f0 ∧ x.f0 < x.f1 ∧ x.f1 < (ks.length : Int)) = true := decide_eq_true (by omega)
      have main : ∀ q : Bool, q = (fixK ks x.f0 && fixK ks x.f1) → Ev (fun k => impl_ValidFrame.j5 k (i : Int) bs (bs.length : Int) (i : Int) q ks bs x.f0 x.f1 x.f2) (barOk ks (bs.take i) x && okBs ks (bs.take (i + 1)) (bs.drop (i + 1))) := by
        intro q hq
        unfold barOk; rw [good, ← hq]
        refine ev_succ ?_; simp only [impl_ValidFrame.j5]
        refine ev_if (fun h => ev_some (by rw [h]; simp)) (fun h => ?_)
        have h : q = false := Bool.eq_false_iff.2 h
        refine ev_pos (by omega) (ev_pos (by omega) (ev_now rfl ?_))
        rw [Int.toNat_natCast]
        refine i_l3 ks bs i hi hb x.f0 x.f1 x.f2 _ (fun g => ?_) (fun g => ?_) i 0 (by omega) (by simp)
        · rw [g]; simp
        · rw [g, h]; simpa using ih
      refine ev_pos (by omega) (ev_pos (by omega) (ev_if (fun h => ev_pos (by omega) (ev_pos (by omega) (main _ ?_))) (fun h => main _ ?_)))
      · unfold fixK; rw [h]; rfl
      · unfold fixK; rw [Bool.eq_false_iff.2 h]; rfl
theorem i_l1 (ks : List S82) (bs : List S84) (i : Nat) (hi : i < ks.length) (hb : ks.length ≤ 8) (a b : Int) (c : Bool) (r : Bool) (h1 : anyK (ks.take i) a b = true → r = false)
    (h2 : anyK (ks.take i) a b = false → Ev (fun k => impl_ValidFrame.l0 k ks (ks.length : Int) ((i + 1 : Nat) : Int) ks bs) r) : ∀ (d j : Nat), j + d = i → anyK (ks.take i) a b = anyK ((ks.take i).drop j) a b →
    Ev (fun k => impl_ValidFrame.l1 k ks (ks.length : Int) (i : Int) (ks.take i) ((ks.take i).length : Int) (j : Int) ks bs a b c) r
  | 0, j, hd, hs => by
    have hl : (ks.take i).length = i := by simp; omega
    refine ev_succ ?_; simp only [impl_ValidFrame.l1]
    rw [w64s (i := i) (by omega)]
    refine ev_neg (by omega) (h2 ?_)
    rw [hs, show (ks.take i).drop j = [] by simp; omega]; rfl
  | d + 1, j, hd, hs => by
    have hl : (ks.take i).length = i := by simp; omega
    have hj : j < (ks.take i).length := by omega
    rw [anyK_drop hj] at hs
    refine ev_succ ?_; simp only [impl_ValidFrame.l1]
    rw [rdIKnot hj, w64s (i := j) (by omega)]
    have next : ((ks.take i)[j].f0 == a && (ks.take i)[j].f1 == b) = false → Ev (fun k => impl_ValidFrame.l1 k ks (ks.length : Int) (i : Int) (ks.take i) ((ks.take i).length : Int) ((j + 1 : Nat) : Int) ks bs a b c) r := fun g => by
      refine i_l1 ks bs i hi hb a b c r h1 h2 d (j + 1) (by omega) ?_
      rw [hs, g]; rfl
    refine ev_pos (by omega) (ev_pos (by omega) (ev_pos (by omega) (ev_if (fun g1 => ev_if (fun g2 => ev_some ?_) (fun g2 => next ?_)) (fun g1 => next ?_))))
    · symm; apply h1; rw [hs, g1, g2]; simp
    · exact and_f1 g2
    · exact and_f0 g1
theorem i_l0 (ks : List S82) (bs : List S84) (hk : ks.length ≤ 8) (hb : bs.length ≤ 8) : ∀ (d i : Nat), i + d = ks.length →
    Ev (fun k => impl_ValidFrame.l0 k ks (ks.length : Int) (i : Int) ks bs) (okKs (ks.take i) (ks.drop i) && okBs ks [] bs)
  | 0, i, hd => by
    refine ev_succ ?_; simp only [impl_ValidFrame.l0]
    refine ev_neg (by omega) ?_
    have e := i_l2 ks bs hk hb bs.length 0 (by omega)
    rw [show ks.drop i = [] by simp; omega]
    exact e
  | d + 1, i, hd => by
    have hi : i < ks.length := by omega
    have ih := i_l0 ks bs hk hb d (i + 1) (by omega)
    rw [okKs_step hi]
    have bad : ∀ (a b : Int) (c : Bool), Ev (fun k => impl_ValidFrame.j2 k (i : Int) ks (ks.length : Int) (i : Int) true ks bs a b c) false := fun a b c => by
      refine ev_succ ?_; simp only [impl_ValidFrame.j2]; exact ev_pos (by trivial) (Ev.now _)
    refine ev_succ ?_; simp only [impl_ValidFrame.l0]
    rw [rdIKnot hi]
    generalize hx : ks[i] = x at *
    refine ev_pos (by omega) (ev_pos (by omega) (ev_pos (by omega) (ev_now (within_eq _ _ _) (ev_if (fun g1 => ev_now (within_eq _ _ _) ?_) (fun g1 => ?_)))))
    · by_cases g2 : 0 ≤ x.f1 ∧ x.f1 ≤ 12
      · rw [decide_eq_true g2]
        unfold knotOk; rw [g1, decide_eq_true g2]
        refine ev_succ ?_; simp only [impl_ValidFrame.j2]
        refine ev_neg (by simp) (ev_pos (by omega) (ev_pos (by omega) (ev_now rfl ?_)))
        rw [Int.toNat_natCast]
        refine i_l1 ks bs i hi hk x.f0 x.f1 x.f2 _ (fun g => ?_) (fun g => ?_) i 0 (by omega) (by simp)
        · rw [g]; simp
        · rw [g]; simpa using ih
      · rw [decide_eq_false g2, show knotOk (ks.take i) x = false by unfold knotOk; rw [decide_eq_false g2]; simp]
        exact bad _ _ _
    · rw [show knotOk (ks.take i) x = false by unfold knotOk; rw [Bool.eq_false_iff.2 g1]; simp]
      exact bad _ _ _
theorem validFrame_ev (ks : List S82) (bs : List S84) : Ev (fun k => impl_ValidFrame.f k ks bs) (okF ks bs) := by
  have bad : Ev (fun k => impl_ValidFrame.j0 k true ks bs) false := by
    refine ev_succ ?_; simp only [impl_ValidFrame.j0]; exact ev_pos (by trivial) (Ev.now _)
  simp only [impl_ValidFrame.f]
  refine ev_if (fun h => ?_) (fun h => ev_if (fun h8 => ?_) (fun h8 => ?_))
  · rw [show okF ks bs = false by unfold okF; rw [decide_eq_false (show ¬ ks.length ≤ 8 by omega)]; rfl]; exact bad
  · rw [show okF ks bs = false by unfold okF; rw [decide_eq_false (show ¬ bs.length ≤ 8 by omega)]; simp]; exact bad
  · refine Ev.bind (freeKnots_ev ks bs (by omega)) ?_
    rw [freeL_length]
    by_cases g : freeC ks ≤ 3
    · rw [decide_eq_false (show ¬ (freeC ks : Int) > 3 by omega)]
      have e := i_l0 ks bs (by omega) (by omega) ks.length 0 (by omega)
      rw [show okF ks bs = (okKs [] ks && okBs ks [] bs) by unfold okF; rw [decide_eq_true (show ks.length ≤ 8 by omega), decide_eq_true (show bs.length ≤ 8 by omega), decide_eq_true g]; simp]
      refine ev_succ ?_; simp only [impl_ValidFrame.j0]
      exact ev_neg (by simp) e
    · rw [decide_eq_true (show (freeC ks : Int) > 3 by omega), show okF ks bs = false by unfold okF; rw [decide_eq_false g]; simp]
      exact bad

def convPull (x : S99) : S97 := ⟨x.f0, x.f1⟩
theorem rdLPull {xs : List S99} {i : Nat} (h : i < xs.length) : rd_T99 xs (i : Int) = xs[i] := by
  unfold rd_T99; simp [List.getD_eq_getElem?_getD, h]
theorem rdIPull {xs : List S97} {i : Nat} (h : i < xs.length) : rd_T97 xs (i : Int) = xs[i] := by
  unfold rd_T97; simp [List.getD_eq_getElem?_getD, h]
theorem toPullS_l0 (x0 : List S99) (hn : x0.length ≤ 1048576) : ∀ (d i : Nat) (x3 : List S97), i + d = x0.length → x3.length = x0.length → x3.take i = (x0.map convPull).take i →
    Ev (fun k => laws_toPullS.l0 k x0 x3 (i : Int)) (x0.map convPull)
  | 0, i, x3, hd, hl, ht => by
    refine ev_succ ?_
    simp only [laws_toPullS.l0]
    refine ev_neg (by omega) (ev_some ?_)
    rw [List.take_of_length_le (by omega), List.take_of_length_le (by simp; omega)] at ht; exact ht
  | d + 1, i, x3, hd, hl, ht => by
    refine ev_succ ?_
    simp only [laws_toPullS.l0]
    refine ev_pos (by omega) (ev_pos (by omega) (ev_now rfl (ev_pos (by omega) ?_)))
    rw [w64s (by omega), Int.toNat_natCast, rdLPull (by omega)]
    exact toPullS_l0 x0 hn d (i + 1) _ (by omega) (by simpa using hl) (take_set _ _ _ _ (by omega) (by simp; omega) ht (by simp [convPull]))
theorem toPullS_ev (l : List S99) (hn : l.length ≤ 1048576) : Ev (fun k => laws_toPullS.f k l) (l.map convPull) := by
  simp only [laws_toPullS.f]
  refine ev_pos (by omega) (ev_pos (by omega) ?_)
  exact toPullS_l0 l (by omega) l.length 0 _ (by omega) (by simp) (by simp)

def okLs (l : List S97) : Bool := l.all fun p => decide (-100 ≤ p.f0 ∧ p.f0 ≤ 100) && decide (-100 ≤ p.f1 ∧ p.f1 ≤ 100)
theorem okLs_drop {l : List S97} {i : Nat} (h : i < l.length) : okLs (l.drop i) = ((decide (-100 ≤ l[i].f0 ∧ l[i].f0 ≤ 100) && decide (-100 ≤ l[i].f1 ∧ l[i].f1 ≤ 100)) && okLs (l.drop (i + 1))) := by
  rw [List.drop_eq_getElem_cons h]; rfl
theorem sLoads_l0 (l : List S97) (hn : l.length ≤ 1048576) : ∀ (d i : Nat), i + d = l.length → Ev (fun k => spec_l09Loads.l0 k l (i : Int)) (okLs (l.drop i))
  | 0, i, hd => by
    refine ev_succ ?_; simp only [spec_l09Loads.l0]
    refine ev_neg (by omega) (ev_some ?_)
    rw [show l.drop i = [] by simp; omega]; rfl
  | d + 1, i, hd => by
    have hi : i < l.length := by omega
    have ih := sLoads_l0 l hn d (i + 1) (by omega)
    rw [okLs_drop hi]
    refine ev_succ ?_; simp only [spec_l09Loads.l0]
    rw [rdIPull hi, w64s (by omega)]
    refine ev_pos (by omega) (ev_pos (by omega) (ev_now (l00In_eq _ _ _) (ev_if (fun g => ev_now (l00In_eq _ _ _) (ev_if (fun g' => ?_) (fun g' => ev_some ?_))) (fun g => ev_some ?_))))
    · rw [g, g']; simpa using ih
    · rw [Bool.eq_false_iff.2 g']; simp
    · rw [Bool.eq_false_iff.2 g]; simp
theorem iLoads_l0 (l : List S97) (hn : l.length ≤ 1048576) : ∀ (d i : Nat), i + d = l.length → Ev (fun k => impl_ValidLoads.l0 k l (l.length : Int) (i : Int)) (okLs (l.drop i))
  | 0, i, hd => by
    refine ev_succ ?_; simp only [impl_ValidLoads.l0]
    refine ev_neg (by omega) (ev_some ?_)
    rw [show l.drop i = [] by simp; omega]; rfl
  | d + 1, i, hd => by
    have hi : i < l.length := by omega
    have ih := iLoads_l0 l hn d (i + 1) (by omega)
    rw [okLs_drop hi]
    refine ev_succ ?_; simp only [impl_ValidLoads.l0]
    rw [rdIPull hi, w64s (by omega)]
    refine ev_pos (by omega) (ev_pos (by omega) (ev_pos (by omega) (ev_now (within_eq _ _ _) (ev_if (fun g => ev_now (within_eq _ _ _) (ev_if (fun g' => ?_) (fun g' => ev_some ?_))) (fun g => ev_some ?_)))))
    · rw [g, g']; simpa using ih
    · rw [Bool.eq_false_iff.2 g']; simp
    · rw [Bool.eq_false_iff.2 g]; simp
def okL9 (ks : List S82) (l : List S97) : Bool := decide (l.length = ks.length) && okLs l
theorem sLoads_ev (ks : List S82) (bs : List S84) (l : List S97) (hn : l.length ≤ 1048576) : Ev (fun k => spec_l09Loads.f k ks bs l) (okL9 ks l) := by
  simp only [spec_l09Loads.f]
  unfold okL9
  refine ev_if (fun h => ?_) (fun h => ev_some ?_)
  · rw [decide_eq_true (show l.length = ks.length by omega)]
    exact sLoads_l0 l hn l.length 0 (by omega)
  · rw [decide_eq_false (show ¬ l.length = ks.length by omega)]; rfl
theorem iLoads_ev (ks : List S82) (bs : List S84) (l : List S97) (hn : l.length ≤ 1048576) : Ev (fun k => impl_ValidLoads.f k ks bs l) (okF ks bs && okL9 ks l) := by
  have bad : Ev (fun k => impl_ValidLoads.j0 k l true) false := by
    refine ev_succ ?_; simp only [impl_ValidLoads.j0]; exact ev_pos (by trivial) (Ev.now _)
  simp only [impl_ValidLoads.f]
  unfold okL9
  refine Ev.bind (validFrame_ev ks bs) (ev_if (fun h => ?_) (fun h => ?_))
  · rw [h]
    by_cases g : l.length = ks.length
    · rw [decide_eq_true g, show ((l.length : Int) != (ks.length : Int)) = false by simp [g]]
      refine ev_succ ?_; simp only [impl_ValidLoads.j0]
      exact ev_neg (by simp) (iLoads_l0 l hn l.length 0 (by omega))
    · rw [decide_eq_false g, show ((l.length : Int) != (ks.length : Int)) = true by simp; omega]
      exact bad
  · rw [Bool.eq_false_iff.2 h]; exact bad

theorem rdEKnot {xs : List S82} {i : Nat} (h : i < xs.length) : rd_T82 xs (i : Int) = xs[i] := by
  unfold rd_T82; simp [List.getD_eq_getElem?_getD, h]
theorem eqKnot_self (x : S82) : laws_eqKnot.f x.f0 x.f1 x.f2 x.f0 x.f1 x.f2 = some true := by
  simp [laws_eqKnot.f]
theorem eqKnotS_l0 (x0 : List S82) (hn : x0.length ≤ 1048576) : ∀ (d i : Nat), i + d = x0.length → Ev (fun k => laws_eqKnotS.l0 k x0 x0 (i : Int)) true
  | 0, i, hd => by
    refine ev_succ ?_
    simp only [laws_eqKnotS.l0]
    exact ev_neg (by omega) (Ev.now _)
  | d + 1, i, hd => by
    refine ev_succ ?_
    simp only [laws_eqKnotS.l0]
    refine ev_pos (by omega) (ev_pos (by omega) (ev_pos (by omega) (ev_now (eqKnot_self _) (ev_pos (by trivial) ?_))))
    rw [w64s (by omega)]
    exact eqKnotS_l0 x0 hn d (i + 1) (by omega)
theorem eqKnotS_self (l : List S82) (hn : l.length ≤ 1048576) : Ev (fun k => laws_eqKnotS.f k l l) true := by
  simp only [laws_eqKnotS.f]
  exact ev_pos (by trivial) (eqKnotS_l0 l hn l.length 0 (by omega))

theorem rdEBar {xs : List S84} {i : Nat} (h : i < xs.length) : rd_T84 xs (i : Int) = xs[i] := by
  unfold rd_T84; simp [List.getD_eq_getElem?_getD, h]
theorem eqBar_self (x : S84) : laws_eqBar.f x.f0 x.f1 x.f2 x.f0 x.f1 x.f2 = some true := by
  simp [laws_eqBar.f]
theorem eqBarS_l0 (x0 : List S84) (hn : x0.length ≤ 1048576) : ∀ (d i : Nat), i + d = x0.length → Ev (fun k => laws_eqBarS.l0 k x0 x0 (i : Int)) true
  | 0, i, hd => by
    refine ev_succ ?_
    simp only [laws_eqBarS.l0]
    exact ev_neg (by omega) (Ev.now _)
  | d + 1, i, hd => by
    refine ev_succ ?_
    simp only [laws_eqBarS.l0]
    refine ev_pos (by omega) (ev_pos (by omega) (ev_pos (by omega) (ev_now (eqBar_self _) (ev_pos (by trivial) ?_))))
    rw [w64s (by omega)]
    exact eqBarS_l0 x0 hn d (i + 1) (by omega)
theorem eqBarS_self (l : List S84) (hn : l.length ≤ 1048576) : Ev (fun k => laws_eqBarS.f k l l) true := by
  simp only [laws_eqBarS.f]
  exact ev_pos (by trivial) (eqBarS_l0 l hn l.length 0 (by omega))

theorem szKnotS_eq (l : List S113) (n : Int) (hl : l.length ≤ maxLen) (h0 : 0 ≤ n) (h1 : n ≤ 1048576) : laws_szKnotS.f l n = some (if n - (l.length : Int) < 0 then -1 else n - (l.length : Int)) := by
  unfold maxLen at hl
  unfold laws_szKnotS.f
  rw [w64 (x := n - (l.length : Int)) (by omega) (by omega)]
  split <;> rfl

theorem szBarS_eq (l : List S115) (n : Int) (hl : l.length ≤ maxLen) (h0 : 0 ≤ n) (h1 : n ≤ 1048576) : laws_szBarS.f l n = some (if n - (l.length : Int) < 0 then -1 else n - (l.length : Int)) := by
  unfold maxLen at hl
  unfold laws_szBarS.f
  rw [w64 (x := n - (l.length : Int)) (by omega) (by omega)]
  split <;> rfl

theorem szF_eq (l0 : List S113) (l1 : List S115) (n : Int) (h0 : l0.length ≤ maxLen) (h1 : l1.length ≤ maxLen) (hn : 0 ≤ n) (hn' : n ≤ 1048576) :
    ∃ r : Int, laws_szFrame.f l0 l1 n = some r ∧ (¬ r < 0 → l0.length ≤ 1048576 ∧ l1.length ≤ 1048576 ∧ r ≤ n) := by
  unfold laws_szFrame.f
  rw [szKnotS_eq l0 n h0 hn hn']
  simp only [Option.bind_some]
  by_cases g : n - (l0.length : Int) < 0
  · rw [if_pos g]; exact ⟨-1, rfl, fun h => by omega⟩
  · rw [if_neg g, if_neg g, szBarS_eq l1 _ h1 (by omega) (by omega)]
    simp only [Option.bind_some]
    by_cases g' : n - (l0.length : Int) - (l1.length : Int) < 0
    · rw [if_pos g']; exact ⟨-1, rfl, fun h => by omega⟩
    · rw [if_neg g', if_neg g']; exact ⟨_, rfl, fun h => by omega⟩
theorem toF_ev (l0 : List S113) (l1 : List S115) (h0 : l0.length ≤ 1048576) (h1 : l1.length ≤ 1048576) : Ev (fun k => laws_toFrame.f k l0 l1) (l0.map convKnot, l1.map convBar) := by
  simp only [laws_toFrame.f]
  exact Ev.bind (toKnotS_ev l0 h0) (Ev.bind (toBarS_ev l1 h1) (Ev.now _))
theorem eqF_self (ks : List S82) (bs : List S84) (h0 : ks.length ≤ 1048576) (h1 : bs.length ≤ 1048576) : Ev (fun k => laws_eqFrame.f k ks bs ks bs) true := by
  simp only [laws_eqFrame.f]
  exact Ev.bind (eqKnotS_self _ h0) (ev_pos (by trivial) (Ev.bind (eqBarS_self _ h1) (ev_pos (by trivial) (Ev.now _))))

/-- Marks in a row of structs of two numbers and a bool: what the mark becomes. -/
theorem markS3Knot_l0 : ∀ (d i : Nat) (x0 : List S82) (s : Int), i + d = x0.length → x0.length ≤ 1048576 → 0 ≤ s → s + 3 * d < 4611686018427387904 →
    ∃ l : List S82, Ev (fun k => laws_markKnotS.l0 k x0 s (i : Int)) (s + 3 * d, l)
  | 0, i, x0, s, hd, hl, h0, hn => by
    refine ⟨x0, ?_⟩
    refine ev_succ ?_; simp only [laws_markKnotS.l0]
    exact ev_neg (by omega) (ev_some (by simp))
  | d + 1, i, x0, s, hd, hl, h0, hn => by
    have hi : i < x0.length := by omega
    have w1 : wrap64 (s + 1) = s + 1 := w64 (by omega) (by omega)
    have w2 : wrap64 (s + 1 + 1) = s + 1 + 1 := w64 (by omega) (by omega)
    have w3 : wrap64 (s + 1 + 1 + 1) = s + 1 + 1 + 1 := w64 (by omega) (by omega)
    obtain ⟨y1, hy1⟩ : ∃ y, y = x0.set i ⟨s, (rd_T82 x0 (i : Int)).f1, (rd_T82 x0 (i : Int)).f2⟩ := ⟨_, rfl⟩
    obtain ⟨y2, hy2⟩ : ∃ y, y = y1.set i ⟨(rd_T82 y1 (i : Int)).f0, s + 1, (rd_T82 y1 (i : Int)).f2⟩ := ⟨_, rfl⟩
    obtain ⟨y3, hy3⟩ : ∃ y, y = y2.set i ⟨(rd_T82 y2 (i : Int)).f0, (rd_T82 y2 (i : Int)).f1, (Int.tmod (s + 1 + 1) 3 == 0)⟩ := ⟨_, rfl⟩
    have hlen : y3.length = x0.length := by rw [hy3, hy2, hy1]; simp
    obtain ⟨l, hl'⟩ := markS3Knot_l0 d (i + 1) y3 (s + 1 + 1 + 1) (by omega) (by omega) (by omega) (by omega)
    refine ⟨l, ?_⟩
    rw [show s + 1 + 1 + 1 + 3 * (d : Int) = s + 3 * ((d + 1 : Nat) : Int) by omega] at hl'
    refine ev_succ ?_; simp only [laws_markKnotS.l0, w1, w2, w3]
    rw [w64s (by omega), Int.toNat_natCast]
    refine ev_pos (by omega) (ev_pos (by omega) (ev_now (congrArg some hy1.symm) (ev_now (congrArg some hy2.symm) ?_)))
    rw [← hy3]
    exact hl'
theorem markS3Knot_ev (x0 : List S82) (s : Int) (hl : x0.length ≤ 1048576) (h0 : 0 ≤ s) (hn : s ≤ 1073741824) : ∃ l : List S82, Ev (fun k => laws_markKnotS.f k x0 s) (s + 3 * (x0.length : Int), l) := by
  simp only [laws_markKnotS.f]
  exact markS3Knot_l0 x0.length 0 x0 s (by omega) hl h0 (by omega)

/-- Marks in a row of structs of two numbers and a bool: what the mark becomes. -/
theorem markS3Bar_l0 : ∀ (d i : Nat) (x0 : List S84) (s : Int), i + d = x0.length → x0.length ≤ 1048576 → 0 ≤ s → s + 3 * d < 4611686018427387904 →
    ∃ l : List S84, Ev (fun k => laws_markBarS.l0 k x0 s (i : Int)) (s + 3 * d, l)
  | 0, i, x0, s, hd, hl, h0, hn => by
    refine ⟨x0, ?_⟩
    refine ev_succ ?_; simp only [laws_markBarS.l0]
    exact ev_neg (by omega) (ev_some (by simp))
  | d + 1, i, x0, s, hd, hl, h0, hn => by
    have hi : i < x0.length := by omega
    have w1 : wrap64 (s + 1) = s + 1 := w64 (by omega) (by omega)
    have w2 : wrap64 (s + 1 + 1) = s + 1 + 1 := w64 (by omega) (by omega)
    have w3 : wrap64 (s + 1 + 1 + 1) = s + 1 + 1 + 1 := w64 (by omega) (by omega)
    obtain ⟨y1, hy1⟩ : ∃ y, y = x0.set i ⟨s, (rd_T84 x0 (i : Int)).f1, (rd_T84 x0 (i : Int)).f2⟩ := ⟨_, rfl⟩
    obtain ⟨y2, hy2⟩ : ∃ y, y = y1.set i ⟨(rd_T84 y1 (i : Int)).f0, s + 1, (rd_T84 y1 (i : Int)).f2⟩ := ⟨_, rfl⟩
    obtain ⟨y3, hy3⟩ : ∃ y, y = y2.set i ⟨(rd_T84 y2 (i : Int)).f0, (rd_T84 y2 (i : Int)).f1, (Int.tmod (s + 1 + 1) 3 == 0)⟩ := ⟨_, rfl⟩
    have hlen : y3.length = x0.length := by rw [hy3, hy2, hy1]; simp
    obtain ⟨l, hl'⟩ := markS3Bar_l0 d (i + 1) y3 (s + 1 + 1 + 1) (by omega) (by omega) (by omega) (by omega)
    refine ⟨l, ?_⟩
    rw [show s + 1 + 1 + 1 + 3 * (d : Int) = s + 3 * ((d + 1 : Nat) : Int) by omega] at hl'
    refine ev_succ ?_; simp only [laws_markBarS.l0, w1, w2, w3]
    rw [w64s (by omega), Int.toNat_natCast]
    refine ev_pos (by omega) (ev_pos (by omega) (ev_now (congrArg some hy1.symm) (ev_now (congrArg some hy2.symm) ?_)))
    rw [← hy3]
    exact hl'
theorem markS3Bar_ev (x0 : List S84) (s : Int) (hl : x0.length ≤ 1048576) (h0 : 0 ≤ s) (hn : s ≤ 1073741824) : ∃ l : List S84, Ev (fun k => laws_markBarS.f k x0 s) (s + 3 * (x0.length : Int), l) := by
  simp only [laws_markBarS.f]
  exact markS3Bar_l0 x0.length 0 x0 s (by omega) hl h0 (by omega)

theorem markF_ev (ks : List S82) (bs : List S84) (s : Int) (h0 : ks.length ≤ 1048576) (h1 : bs.length ≤ 1048576) (hs : 0 ≤ s) (hs' : s ≤ 1048576) :
    ∃ r : Int × List S82 × List S84, Ev (fun k => laws_markFrame.f k ks bs s) r ∧ s ≤ r.1 ∧ r.1 ≤ s + 6291456 := by
  obtain ⟨l, e1⟩ := markS3Knot_ev ks s h0 hs (by omega)
  obtain ⟨m, e2⟩ := markS3Bar_ev bs (s + 3 * (ks.length : Int)) h1 (by omega) (by omega)
  refine ⟨(s + 3 * (ks.length : Int) + 3 * (bs.length : Int), l, m), ?_, ?_, ?_⟩
  · simp only [laws_markFrame.f]; exact Ev.bind e1 (Ev.bind e2 (Ev.now _))
  · show s ≤ s + 3 * (ks.length : Int) + 3 * (bs.length : Int)
    omega
  · show s + 3 * (ks.length : Int) + 3 * (bs.length : Int) ≤ s + 6291456
    omega

theorem szPullS_eq (l : List S99) (n : Int) (hl : l.length ≤ maxLen) (h0 : 0 ≤ n) (h1 : n ≤ 1048576) : laws_szPullS.f l n = some (if n - (l.length : Int) < 0 then -1 else n - (l.length : Int)) := by
  unfold maxLen at hl
  unfold laws_szPullS.f
  rw [w64 (x := n - (l.length : Int)) (by omega) (by omega)]
  split <;> rfl

theorem rdEPull {xs : List S97} {i : Nat} (h : i < xs.length) : rd_T97 xs (i : Int) = xs[i] := by
  unfold rd_T97; simp [List.getD_eq_getElem?_getD, h]
theorem eqPull_self (x : S97) : laws_eqPull.f x.f0 x.f1 x.f0 x.f1 = some true := by
  simp [laws_eqPull.f]
theorem eqPullS_l0 (x0 : List S97) (hn : x0.length ≤ 1048576) : ∀ (d i : Nat), i + d = x0.length → Ev (fun k => laws_eqPullS.l0 k x0 x0 (i : Int)) true
  | 0, i, hd => by
    refine ev_succ ?_
    simp only [laws_eqPullS.l0]
    exact ev_neg (by omega) (Ev.now _)
  | d + 1, i, hd => by
    refine ev_succ ?_
    simp only [laws_eqPullS.l0]
    refine ev_pos (by omega) (ev_pos (by omega) (ev_pos (by omega) (ev_now (eqPull_self _) (ev_pos (by trivial) ?_))))
    rw [w64s (by omega)]
    exact eqPullS_l0 x0 hn d (i + 1) (by omega)
theorem eqPullS_self (l : List S97) (hn : l.length ≤ 1048576) : Ev (fun k => laws_eqPullS.f k l l) true := by
  simp only [laws_eqPullS.f]
  exact ev_pos (by trivial) (eqPullS_l0 l hn l.length 0 (by omega))


theorem rdKPull {xs : List S97} {i : Nat} (h : i < xs.length) : rd_T97 xs (i : Int) = xs[i] := by
  unfold rd_T97; simp [List.getD_eq_getElem?_getD, h]
def mksPull (s : Int) (n : Nat) : List S97 := (List.range n).map fun (j : Nat) => ⟨s + 2 * (j : Int), s + 2 * (j : Int) + 1⟩
theorem mksPull_length (s : Int) (n : Nat) : (mksPull s n).length = n := by simp [mksPull]
theorem mksPull_get (s : Int) (n i : Nat) (h : i < (mksPull s n).length) : (mksPull s n)[i] = ⟨s + 2 * (i : Int), s + 2 * (i : Int) + 1⟩ := by simp [mksPull]
theorem markPullS_l0 (s : Int) (h0 : 0 ≤ s) (n : Nat) (hn : s + 2 * n < 4611686018427387904) : ∀ (d i : Nat) (x0 : List S97), i + d = n → x0.length = n → x0.take i = (mksPull s n).take i →
    Ev (fun k => laws_markPullS.l0 k x0 (s + 2 * i) (i : Int)) (s + 2 * n, mksPull s n)
  | 0, i, x0, hd, hl, ht => by
    refine ev_succ ?_
    simp only [laws_markPullS.l0]
    refine ev_neg (by omega) (ev_some ?_)
    rw [List.take_of_length_le (by omega), List.take_of_length_le (by rw [mksPull_length]; omega)] at ht
    rw [ht]; congr 1; omega
  | d + 1, i, x0, hd, hl, ht => by
    refine ev_succ ?_
    simp only [laws_markPullS.l0]
    refine ev_pos (by omega) (ev_pos (by omega) (ev_now rfl ?_))
    rw [w64s (by omega), w64 (x := s + 2 * (i : Int) + 1) (by omega) (by omega), w64 (x := s + 2 * (i : Int) + 1 + 1) (by omega) (by omega), Int.toNat_natCast, rdKPull (xs := x0.set i _) (by simp; omega)]
    have e : s + 2 * (i : Int) + 1 + 1 = s + 2 * ((i + 1 : Nat) : Int) := by omega
    rw [e, List.set_set, List.getElem_set_self]
    refine markPullS_l0 s h0 n hn d (i + 1) _ (by omega) (by simpa using hl) (take_set _ _ _ _ (by omega) (by rw [mksPull_length]; omega) ht ?_)
    rw [mksPull_get]
theorem markPullS_ev (l : List S97) (s : Int) (h0 : 0 ≤ s) (hn : s + 2 * l.length < 4611686018427387904) :
    Ev (fun k => laws_markPullS.f k l s) (s + 2 * l.length, mksPull s l.length) := by
  simp only [laws_markPullS.f]
  have := markPullS_l0 s h0 l.length hn l.length 0 l (by omega) rfl (by simp)
  simpa using this
theorem heldPullS_l0 (s : Int) (h0 : 0 ≤ s) (n : Nat) (hn : s + 2 * n < 4611686018427387904) : ∀ (d i : Nat), i + d = n →
    Ev (fun k => laws_heldPullS.l0 k (mksPull s n) (s + 2 * i) (i : Int)) (s + 2 * n)
  | 0, i, hd => by
    refine ev_succ ?_
    simp only [laws_heldPullS.l0]
    refine ev_neg (by rw [mksPull_length]; omega) (ev_some ?_)
    omega
  | d + 1, i, hd => by
    refine ev_succ ?_
    simp only [laws_heldPullS.l0]
    rw [rdKPull (by rw [mksPull_length]; omega), mksPull_get, w64s (by omega), w64 (x := s + 2 * (i : Int) + 1) (by omega) (by omega), w64 (x := s + 2 * (i : Int) + 1 + 1) (by omega) (by omega)]
    refine ev_pos (by rw [mksPull_length]; omega) (ev_pos (by omega) (ev_pos rfl (ev_pos rfl ?_)))
    have e : s + 2 * (i : Int) + 1 + 1 = s + 2 * ((i + 1 : Nat) : Int) := by omega
    rw [e]
    exact heldPullS_l0 s h0 n hn d (i + 1) (by omega)
theorem heldPullS_ev (s : Int) (h0 : 0 ≤ s) (n : Nat) (hn : s + 2 * n < 4611686018427387904) :
    Ev (fun k => laws_heldPullS.f k (mksPull s n) s) (s + 2 * n) := by
  simp only [laws_heldPullS.f]
  have := heldPullS_l0 s h0 n hn n 0 (by omega)
  simpa using this

def scale (t : Int) (p : S97) : S97 := ⟨t * p.f0, t * p.f1⟩
theorem mul100 {t x : Int} (h0 : 0 ≤ t) (h1 : t ≤ 100) (g0 : -100 ≤ x) (g1 : x ≤ 100) : -10000 ≤ t * x ∧ t * x ≤ 10000 := by
  rcases Int.le_total 0 x with q | q
  · have := Int.mul_le_mul h1 g1 q (by omega)
    have := Int.mul_nonneg h0 q
    omega
  · have a : t * (-x) ≤ 100 * 100 := Int.mul_le_mul h1 (by omega) (by omega) (by omega)
    have b : 0 ≤ t * (-x) := Int.mul_nonneg h0 (by omega)
    rw [Int.mul_neg] at a b
    omega
theorem okLs_get {l : List S97} (h : okLs l = true) {i : Nat} (hi : i < l.length) : (-100 ≤ l[i].f0 ∧ l[i].f0 ≤ 100) ∧ (-100 ≤ l[i].f1 ∧ l[i].f1 ≤ 100) := by
  have := List.all_eq_true.1 h _ (List.getElem_mem hi)
  simpa using this
theorem sScale_l0 (ks : List S82) (bs : List S84) (l : List S97) (hn : l.length ≤ 8) (ho : okLs l = true) (t : Int) (ht : 0 ≤ t ∧ t ≤ 100) (r : List S97 × Int)
    (hr : Ev (fun k => (spec_l09Loads.f k ks bs (l.map (scale t))).bind fun b => if b = true then some (l.map (scale t), (0 : Int)) else some ([], 5)) r) : ∀ (d i : Nat), i + d = l.length →
    Ev (fun k => spec_ScaleLoads.l0 k l t ((l.take i).map (scale t)) (i : Int) ks bs) r
  | 0, i, hd => by
    refine ev_succ ?_; simp only [spec_ScaleLoads.l0]
    rw [List.take_of_length_le (by omega)]
    exact ev_neg (by omega) hr
  | d + 1, i, hd => by
    have hi : i < l.length := by omega
    obtain ⟨g0, g1⟩ := okLs_get ho hi
    have b0 := mul100 ht.1 ht.2 g0.1 g0.2
    have b1 := mul100 ht.1 ht.2 g1.1 g1.2
    have ih := sScale_l0 ks bs l hn ho t ht r hr d (i + 1) (by omega)
    rw [List.take_succ_eq_append_getElem hi, List.map_append] at ih
    refine ev_succ ?_; simp only [spec_ScaleLoads.l0]
    rw [rdIPull hi, w64s (by omega), w64 (x := t * l[i].f0) (by omega) (by omega), w64 (x := t * l[i].f1) (by omega) (by omega)]
    exact ev_pos (by omega) (ev_pos (by omega) (ev_pos (by simp; omega) ih))
theorem iScale_l0 (ks : List S82) (bs : List S84) (l : List S97) (hn : l.length ≤ 8) (ho : okLs l = true) (t : Int) (ht : 0 ≤ t ∧ t ≤ 100) (r : List S97 × Int)
    (hr : Ev (fun k => (impl_ValidLoads.f k ks bs (l.map (scale t))).bind fun b => if b = true then some (l.map (scale t), (0 : Int)) else some ([], 5)) r) : ∀ (d i : Nat), i + d = l.length →
    Ev (fun k => impl_ScaleLoads.l0 k t ((l.take i).map (scale t)) l (l.length : Int) (i : Int) ks bs) r
  | 0, i, hd => by
    refine ev_succ ?_; simp only [impl_ScaleLoads.l0]
    rw [List.take_of_length_le (by omega)]
    exact ev_neg (by omega) hr
  | d + 1, i, hd => by
    have hi : i < l.length := by omega
    obtain ⟨g0, g1⟩ := okLs_get ho hi
    have b0 := mul100 ht.1 ht.2 g0.1 g0.2
    have b1 := mul100 ht.1 ht.2 g1.1 g1.2
    have ih := iScale_l0 ks bs l hn ho t ht r hr d (i + 1) (by omega)
    rw [List.take_succ_eq_append_getElem hi, List.map_append] at ih
    refine ev_succ ?_; simp only [impl_ScaleLoads.l0]
    rw [rdIPull hi, w64s (by omega), Int.mul_comm (l[i].f0) t, Int.mul_comm (l[i].f1) t, w64 (x := t * l[i].f0) (by omega) (by omega), w64 (x := t * l[i].f1) (by omega) (by omega)]
    exact ev_pos (by omega) (ev_pos (by omega) (ev_pos (by omega) (ev_pos (by simp; omega) ih)))
theorem key (ks : List S82) (bs : List S84) (l : List S97) (t : Int) (hn : l.length ≤ 1048576) :
    ∃ r : List S97 × Int, r.1.length ≤ 8 ∧ Ev (fun k => spec_ScaleLoads.f k ks bs l t) r ∧ Ev (fun k => impl_ScaleLoads.f k ks bs l t) r := by
  have e1 := l09Ok_ev ks bs
  have e2 := sLoads_ev ks bs l hn
  have e3 := iLoads_ev ks bs l hn
  have sbad : Ev (fun k => spec_ScaleLoads.j0 k l t true ks bs) ([], 1) := by
    refine ev_succ ?_; simp only [spec_ScaleLoads.j0]; exact ev_pos (by trivial) (Ev.now _)
  by_cases h : okF ks bs = true
  · have k8 : ks.length ≤ 8 := by unfold okF at h; simp at h; exact h.1.1
    rw [h] at e1 e3
    by_cases g : okL9 ks l = true
    · rw [g] at e2 e3
      have g' := g
      unfold okL9 at g'; simp only [Bool.and_eq_true, decide_eq_true_eq] at g'
      by_cases ht : 0 ≤ t ∧ t ≤ 100
      · have es := sLoads_ev ks bs (l.map (scale t)) (by simpa using hn)
        have ei := iLoads_ev ks bs (l.map (scale t)) (by simpa using hn)
        rw [h, Bool.true_and] at ei
        refine ⟨if okL9 ks (l.map (scale t)) = true then (l.map (scale t), 0) else ([], 5), ?_, ?_, ?_⟩
        · split <;> simp; omega
        · simp only [spec_ScaleLoads.f]
          refine Ev.bind e1 (ev_pos (by trivial) (Ev.bind e2 (ev_succ ?_)))
          simp only [spec_ScaleLoads.j0]
          refine ev_neg (by simp) (ev_now (l00In_eq _ _ _) (ev_pos (decide_eq_true ht) ?_))
          have := sScale_l0 ks bs l (by omega) g'.2 t ht (if okL9 ks (l.map (scale t)) = true then (l.map (scale t), 0) else ([], 5)) (Ev.bind es (ev_if (fun q => ev_some (by rw [if_pos q])) (fun q => ev_some (by rw [if_neg q])))) l.length 0 (by omega)
          simpa using this
        · simp only [impl_ScaleLoads.f]
          refine Ev.bind e3 (ev_pos (by trivial) (ev_now (within_eq _ _ _) (ev_pos (decide_eq_true ht) ?_)))
          have := iScale_l0 ks bs l (by omega) g'.2 t ht (if okL9 ks (l.map (scale t)) = true then (l.map (scale t), 0) else ([], 5)) (Ev.bind ei (ev_if (fun q => ev_some (by rw [if_pos q])) (fun q => ev_some (by rw [if_neg q])))) l.length 0 (by omega)
          simpa using this
      · refine ⟨([], 2), by simp, ?_, ?_⟩
        · simp only [spec_ScaleLoads.f]
          refine Ev.bind e1 (ev_pos (by trivial) (Ev.bind e2 (ev_succ ?_)))
          simp only [spec_ScaleLoads.j0]
          exact ev_neg (by simp) (ev_now (l00In_eq _ _ _) (ev_neg (by rw [decide_eq_true_eq]; exact ht) (Ev.now _)))
        · simp only [impl_ScaleLoads.f]
          exact Ev.bind e3 (ev_pos (by trivial) (ev_now (within_eq _ _ _) (ev_neg (by rw [decide_eq_true_eq]; exact ht) (Ev.now _))))
    · rw [Bool.eq_false_iff.2 g] at e2 e3
      refine ⟨([], 1), by simp, ?_, ?_⟩
      · simp only [spec_ScaleLoads.f]; exact Ev.bind e1 (ev_pos (by trivial) (Ev.bind e2 sbad))
      · simp only [impl_ScaleLoads.f]; exact Ev.bind e3 (ev_neg (by simp) (Ev.now _))
  · rw [Bool.eq_false_iff.2 h] at e1 e3
    refine ⟨([], 1), by simp, ?_, ?_⟩
    · simp only [spec_ScaleLoads.f]; exact Ev.bind e1 (ev_neg (by simp) sbad)
    · simp only [impl_ScaleLoads.f]; exact Ev.bind e3 (ev_neg (by simp) (Ev.now _))
theorem FnExactScaleLoads : laws_FnExactScaleLoads.Pure := by
  intro l0 l1 l2 t h0 _ h1 _ h2 _ _
  refine Ev.rounds ?_
  simp only [laws_FnExactScaleLoads.f]
  obtain ⟨r, es, hr⟩ := szF_eq l0 l1 1048576 h0 h1 (by omega) (by omega)
  refine ev_now es (ev_if (fun _ => Ev.now _) (fun h => ?_))
  obtain ⟨q0, q1, q2⟩ := hr h
  refine ev_now (szPullS_eq l2 r h2 (by omega) q2) (ev_if (fun _ => Ev.now _) (fun h' => ?_))
  have hm : l2.length ≤ 1048576 := by
    by_cases g : r - (l2.length : Int) < 0
    · rw [if_pos g] at h'; omega
    · omega
  have t0 := toF_ev l0 l1 q0 q1
  have t1 := toPullS_ev l2 hm
  have m0 : (l0.map convKnot).length ≤ 1048576 := by simpa using q0
  have m1 : (l1.map convBar).length ≤ 1048576 := by simpa using q1
  have m2 : (l2.map convPull).length ≤ 1048576 := by simpa using hm
  obtain ⟨⟨v, c⟩, hv, e1, e2⟩ := key (l0.map convKnot) (l1.map convBar) (l2.map convPull) t m2
  have hv : v.length ≤ 8 := hv
  obtain ⟨mk, e3, b1, b2⟩ := markF_ev (l0.map convKnot) (l1.map convBar) 1 m0 m1 (by omega) (by omega)
  have e4 := markPullS_ev (l2.map convPull) mk.1 (by omega) (by omega)
  have ev := eqPullS_self v (by omega)
  have bf : (c != c) = false := by simp
  have mv := markPullS_ev v 1 (by omega) (by omega)
  have hd := heldPullS_ev 1 (by omega) v.length (by omega)
  have j2 : Ev (fun k => laws_FnExactScaleLoads.j2 k (mksPull 1 v.length) (1 + 2 * (v.length : Int)) false) true := by
    refine ev_succ ?_; simp only [laws_FnExactScaleLoads.j2]
    exact ev_neg (by simp) (Ev.bind hd (ev_neg (by omega) (ev_pos rfl (Ev.now _))))
  have j1 : Ev (fun k => laws_FnExactScaleLoads.j1 k l2 t v c v false l0 l1) true := by
    refine ev_succ ?_; simp only [laws_FnExactScaleLoads.j1]
    refine ev_neg (by simp) (Ev.bind mv (Ev.bind hd (ev_neg (by omega) (ev_pos rfl (Ev.bind t0 (Ev.bind t1 (Ev.bind e2 (Ev.bind ev (ev_pos (by trivial) ?_)))))))))
    rw [bf]; exact j2
  refine Ev.bind t0 (Ev.bind t1 (Ev.bind e1 (Ev.bind t0 (Ev.bind t1 (Ev.bind e2 (Ev.bind ev (ev_pos (by trivial) ?_)))))))
  rw [bf]
  refine ev_succ ?_; simp only [laws_FnExactScaleLoads.j0]
  refine ev_neg (by simp) (Ev.bind t0 (Ev.bind (eqF_self _ _ m0 m1) (ev_pos (by trivial) (Ev.bind t1 (Ev.bind (eqPullS_self _ m2) (ev_pos (by trivial) (Ev.bind e3 (Ev.bind e4 (ev_neg (by omega) (Ev.bind ev (ev_pos (by trivial) ?_)))))))))))
  rw [bf]; exact j1

end Go.Proofs.Ytacijlpnpkhjaaa.PureFnExactScaleLoads
namespace Go.Proofs.Ytacijlpnpkhjaaa.Pure
open Go.Proofs.Ytacijlpnpkhjaaa.HFr
theorem FnExactScaleLoads : laws_FnExactScaleLoads.Pure := PureFnExactScaleLoads.FnExactScaleLoads
end Go.Proofs.Ytacijlpnpkhjaaa.Pure
