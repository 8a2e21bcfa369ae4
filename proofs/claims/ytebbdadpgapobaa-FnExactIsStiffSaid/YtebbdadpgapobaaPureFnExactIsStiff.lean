/- The program's function answers as the statement says. Conditions: none beyond the given statement's own. -/
import Derived.Test.YtebbdadpgapobaaHElx13
import Derived.Test.YtebbdadpgapobaaLib
set_option linter.unusedVariables false
set_option linter.unusedSimpArgs false
namespace Go.Proofs.Ytebbdadpgapobaa.PureFnExactIsStiff
open Go.RowKit Go.Proofs.Ytebbdadpgapobaa.HEl Go.Proofs.YtebbdadpgapobaaW.PrintWords Go.Proofs.YtebbdadpgapobaaW.PrintLast Go.Proofs.YtebbdadpgapobaaW.PrintMore Go.Proofs.Ytebbdadpgapobaa.Lib
theorem l00In_eq (a b c : Int) : spec_l00In.f a b c = some (decide (b ≤ a ∧ a ≤ c)) := by
  unfold spec_l00In.f; by_cases h : a ≥ b <;> simp [h]

theorem within_eq (a b c : Int) : impl_within.f a b c = some (decide (b ≤ a ∧ a ≤ c)) := by
  unfold impl_within.f; by_cases h : a ≥ b <;> simp [h]

def convKnot (x : S126) : S90 := ⟨x.f0, x.f1, x.f2⟩
theorem rdLKnot {xs : List S126} {i : Nat} (h : i < xs.length) : rd_T126 xs (i : Int) = xs[i] := by
  unfold rd_T126; simp [List.getD_eq_getElem?_getD, h]
theorem rdIKnot {xs : List S90} {i : Nat} (h : i < xs.length) : rd_T90 xs (i : Int) = xs[i] := by
  unfold rd_T90; simp [List.getD_eq_getElem?_getD, h]
theorem toKnotS_l0 (x0 : List S126) (hn : x0.length ≤ 1048576) : ∀ (d i : Nat) (x3 : List S90), i + d = x0.length → x3.length = x0.length → x3.take i = (x0.map convKnot).take i →
    Ev (fun k => laws_toKnotS.l0 k x0 x3 (i : Int)) (x0.map convKnot)
  | 0, i, x3, hd, hl, ht => by
    refine ev_succ ?_
    simp only [laws_toKnotS.l0]
    refine ev_neg (by omega) (ev_some ?_)
    rw [List.take_of_length_le (by omega), List.take_of_length_le (by simp; omega)] at ht; exact ht
  | d + 1, i, x3, hd, hl, ht => by
    refine ev_succ ?_
    simp only [laws_toKnotS.l0]
    refine ev_pos (by omega) (ev_pos (by omega) (ev_now rfl (ev_pos (by omega) ?_)))
    rw [w64s (by omega), Int.toNat_natCast, rdLKnot (by omega)]
    exact toKnotS_l0 x0 hn d (i + 1) _ (by omega) (by simpa using hl) (take_set _ _ _ _ (by omega) (by simp; omega) ht (by simp [convKnot]))
theorem toKnotS_ev (l : List S126) (hn : l.length ≤ 1048576) : Ev (fun k => laws_toKnotS.f k l) (l.map convKnot) := by
  simp only [laws_toKnotS.f]
  refine ev_pos (by omega) (ev_pos (by omega) ?_)
  exact toKnotS_l0 l (by omega) l.length 0 _ (by omega) (by simp) (by simp)

def convBar (x : S128) : S104 := ⟨x.f0, x.f1, x.f2⟩
theorem rdLBar {xs : List S128} {i : Nat} (h : i < xs.length) : rd_T128 xs (i : Int) = xs[i] := by
  unfold rd_T128; simp [List.getD_eq_getElem?_getD, h]
theorem rdIBar {xs : List S104} {i : Nat} (h : i < xs.length) : rd_T104 xs (i : Int) = xs[i] := by
  unfold rd_T104; simp [List.getD_eq_getElem?_getD, h]
theorem toBarS_l0 (x0 : List S128) (hn : x0.length ≤ 1048576) : ∀ (d i : Nat) (x3 : List S104), i + d = x0.length → x3.length = x0.length → x3.take i = (x0.map convBar).take i →
    Ev (fun k => laws_toBarS.l0 k x0 x3 (i : Int)) (x0.map convBar)
  | 0, i, x3, hd, hl, ht => by
    refine ev_succ ?_
    simp only [laws_toBarS.l0]
    refine ev_neg (by omega) (ev_some ?_)
    rw [List.take_of_length_le (by omega), List.take_of_length_le (by simp; omega)] at ht; exact ht
  | d + 1, i, x3, hd, hl, ht => by
    refine ev_succ ?_
    simp only [laws_toBarS.l0]
    refine ev_pos (by omega) (ev_pos (by omega) (ev_now rfl (ev_pos (by omega) ?_)))
    rw [w64s (by omega), Int.toNat_natCast, rdLBar (by omega)]
    exact toBarS_l0 x0 hn d (i + 1) _ (by omega) (by simpa using hl) (take_set _ _ _ _ (by omega) (by simp; omega) ht (by simp [convBar]))
theorem toBarS_ev (l : List S128) (hn : l.length ≤ 1048576) : Ev (fun k => laws_toBarS.f k l) (l.map convBar) := by
  simp only [laws_toBarS.f]
  refine ev_pos (by omega) (ev_pos (by omega) ?_)
  exact toBarS_l0 l (by omega) l.length 0 _ (by omega) (by simp) (by simp)

theorem and_f1 {a b c d : Int} (h : ¬ c = d) : (a == b && c == d) = false := by simp [h]
theorem and_f0 {a b c d : Int} (h : ¬ a = b) : (a == b && c == d) = false := by simp [h]
def anyK (l : List S90) (a b : Int) : Bool := l.any fun o => o.f0 == a && o.f1 == b
def anyB (l : List S104) (a b : Int) : Bool := l.any fun o => o.f0 == a && o.f1 == b
theorem anyK_drop {l : List S90} {i : Nat} (h : i < l.length) (a b : Int) : anyK (l.drop i) a b = ((l[i].f0 == a && l[i].f1 == b) || anyK (l.drop (i + 1)) a b) := by
  rw [List.drop_eq_getElem_cons h]; rfl
theorem anyB_drop {l : List S104} {i : Nat} (h : i < l.length) (a b : Int) : anyB (l.drop i) a b = ((l[i].f0 == a && l[i].f1 == b) || anyB (l.drop (i + 1)) a b) := by
  rw [List.drop_eq_getElem_cons h]; rfl
def knotOk (pre : List S90) (k : S90) : Bool := decide (0 ≤ k.f0 ∧ k.f0 ≤ 12) && decide (0 ≤ k.f1 ∧ k.f1 ≤ 12) && !anyK pre k.f0 k.f1
def fixK (ks : List S90) (a : Int) : Bool := (rd_T90 ks a).f2
def barOk (ks : List S90) (pre : List S104) (b : S104) : Bool := decide (0 ≤ b.f0 ∧ b.f0 < b.f1 ∧ b.f1 < (ks.length : Int)) && !(fixK ks b.f0 && fixK ks b.f1) && !anyB pre b.f0 b.f1
def okKs : List S90 → List S90 → Bool
  | _, [] => true
  | pre, k :: l => knotOk pre k && okKs (pre ++ [k]) l
def okBs (ks : List S90) : List S104 → List S104 → Bool
  | _, [] => true
  | pre, b :: l => barOk ks pre b && okBs ks (pre ++ [b]) l
def freeC (ks : List S90) : Nat := (ks.filter fun k => !k.f2).length
def okF (ks : List S90) (bs : List S104) : Bool := decide (ks.length ≤ 8) && decide (bs.length ≤ 8) && (okKs [] ks && (okBs ks [] bs && decide (freeC ks ≤ 3)))
theorem okKs_step {l : List S90} {i : Nat} (h : i < l.length) : okKs (l.take i) (l.drop i) = (knotOk (l.take i) l[i] && okKs (l.take (i + 1)) (l.drop (i + 1))) := by
  rw [List.drop_eq_getElem_cons h, List.take_succ_eq_append_getElem h]; rfl
theorem okBs_step (ks : List S90) {l : List S104} {i : Nat} (h : i < l.length) : okBs ks (l.take i) (l.drop i) = (barOk ks (l.take i) l[i] && okBs ks (l.take (i + 1)) (l.drop (i + 1))) := by
  rw [List.drop_eq_getElem_cons h, List.take_succ_eq_append_getElem h]; rfl
theorem freeC_step {l : List S90} {i : Nat} (h : i < l.length) : freeC (l.take (i + 1)) = freeC (l.take i) + if l[i].f2 = true then 0 else 1 := by
  rw [List.take_succ_eq_append_getElem h]; unfold freeC; rw [List.filter_append, List.length_append]
  congr 1
  cases h' : l[i].f2 <;> simp [List.filter, h']
theorem freeC_le (l : List S90) : freeC l ≤ l.length := List.length_filter_le ..
theorem s_l3 (ks : List S90) (bs : List S104) (n fr : Int) (i : Nat) (hi : i < bs.length) (hb : bs.length ≤ 8) (a b : Int) (c : Bool) (r : Bool) (h1 : anyB (bs.take i) a b = true → r = false)
    (h2 : anyB (bs.take i) a b = false → Ev (fun k => spec_l09Ok.l2 k n fr ((i + 1 : Nat) : Int) ks bs) r) : ∀ (d j : Nat), j + d = i → anyB (bs.take i) a b = anyB ((bs.take i).drop j) a b →
    Ev (fun k => spec_l09Ok.l3 k n fr (i : Int) (j : Int) ks bs a b c) r
  | 0, j, hd, hs => by
    refine ev_succ ?_; simp only [spec_l09Ok.l3]
    rw [w64s (i := i) (by omega)]
    refine ev_neg (by omega) (h2 ?_)
    rw [hs, show (bs.take i).drop j = [] by simp; omega]; rfl
  | d + 1, j, hd, hs => by
    have hj : j < (bs.take i).length := by simp; omega
    rw [anyB_drop hj, List.getElem_take] at hs
    refine ev_succ ?_; simp only [spec_l09Ok.l3]
    rw [rdIBar (show j < bs.length by omega), w64s (i := j) (by omega)]
    have next : (bs[j].f0 == a && bs[j].f1 == b) = false → Ev (fun k => spec_l09Ok.l3 k n fr (i : Int) ((j + 1 : Nat) : Int) ks bs a b c) r := fun g => by
      refine s_l3 ks bs n fr i hi hb a b c r h1 h2 d (j + 1) (by omega) ?_
      rw [hs, g]; rfl
    refine ev_pos (by omega) (ev_pos (by omega) (ev_pos (by omega) (ev_if (fun g1 => ev_if (fun g2 => ev_some ?_) (fun g2 => next ?_)) (fun g1 => next ?_))))
    · symm; apply h1; rw [hs, g1, g2]; simp
    · exact and_f1 g2
    · exact and_f0 g1
theorem s_l2 (ks : List S90) (bs : List S104) (hk : ks.length ≤ 8) (hb : bs.length ≤ 8) (fr : Int) : ∀ (d i : Nat), i + d = bs.length →
    Ev (fun k => spec_l09Ok.l2 k (ks.length : Int) fr (i : Int) ks bs) (okBs ks (bs.take i) (bs.drop i) && decide (fr ≤ 3))
  | 0, i, hd => by
    refine ev_succ ?_; simp only [spec_l09Ok.l2]
    refine ev_neg (by omega) (ev_some ?_)
    rw [show bs.drop i = [] by simp; omega]; rfl
  | d + 1, i, hd => by
    have hi : i < bs.length := by omega
    have ih := s_l2 ks bs hk hb fr d (i + 1) (by omega)
    rw [okBs_step ks hi]
    have bad : ∀ (a b : Int) (c : Bool), Ev (fun k => spec_l09Ok.j6 k (ks.length : Int) fr (i : Int) true ks bs a b c) false := fun a b c => by
      refine ev_succ ?_; simp only [spec_l09Ok.j6]; exact ev_pos (by trivial) (Ev.now _)
    refine ev_succ ?_; simp only [spec_l09Ok.l2]
    rw [rdIBar hi]
    generalize hx : bs[i] = x at *
    rw [w64 (x := (ks.length : Int) - 1) (by omega) (by omega)]
    refine ev_pos (by omega) (ev_pos (by omega) (ev_now (l00In_eq _ _ _) (ev_if (fun g1 => ?_) (fun g1 => ?_))))
    · have g1 := of_decide_eq_true g1
      rw [w64 (x := x.f0 + 1) (by omega) (by omega)]
      refine ev_now (l00In_eq _ _ _) (ev_if (fun g2 => ?_) (fun g2 => ?_))
      · have g2 := of_decide_eq_true g2
        have good : decide (0 ≤ x.f0 ∧ x.f0 < x.f1 ∧ x.f1 < (ks.length : Int)) = true := decide_eq_true (by omega)
        have main : ∀ q : Bool, q = (fixK ks x.f0 && fixK ks x.f1) → Ev (fun k => spec_l09Ok.j6 k (ks.length : Int) fr (i : Int) q ks bs x.f0 x.f1 x.f2) ((barOk ks (bs.take i) x && okBs ks (bs.take (i + 1)) (bs.drop (i + 1))) && decide (fr ≤ 3)) := by
          intro q hq
          unfold barOk; rw [good, ← hq]
          refine ev_succ ?_; simp only [spec_l09Ok.j6]
          refine ev_if (fun h => ev_some (by rw [h]; simp)) (fun h => ?_)
          have h : q = false := Bool.eq_false_iff.2 h
          refine s_l3 ks bs _ fr i hi hb x.f0 x.f1 x.f2 _ (fun g => ?_) (fun g => ?_) i 0 (by omega) (by simp)
          · rw [g]; simp
          · rw [g, h]; simpa using ih
        refine ev_pos (by omega) (ev_pos (by omega) (ev_if (fun h => ev_pos (by omega) (ev_pos (by omega) (main _ ?_))) (fun h => main _ ?_)))
        · unfold fixK; rw [h]; rfl
        · unfold fixK; rw [Bool.eq_false_iff.2 h]; rfl
      · rw [show barOk ks (bs.take i) x = false by unfold barOk; rw [decide_eq_false (by intro g; apply g2; apply decide_eq_true; omega)]; rfl]
        exact bad _ _ _
    · rw [show barOk ks (bs.take i) x = false by unfold barOk; rw [decide_eq_false (by intro g; apply g1; apply decide_eq_true; omega)]; rfl]
      exact bad _ _ _
theorem s_l1 (ks : List S90) (bs : List S104) (n fr : Int) (i : Nat) (hi : i < ks.length) (hb : ks.length ≤ 8) (a b : Int) (c : Bool) (r : Bool) (h1 : anyK (ks.take i) a b = true → r = false)
    (h2 : anyK (ks.take i) a b = false → Ev (fun k => spec_l09Ok.l0 k n fr ((i + 1 : Nat) : Int) ks bs) r) : ∀ (d j : Nat), j + d = i → anyK (ks.take i) a b = anyK ((ks.take i).drop j) a b →
    Ev (fun k => spec_l09Ok.l1 k n fr (i : Int) (j : Int) ks bs a b c) r
  | 0, j, hd, hs => by
    refine ev_succ ?_; simp only [spec_l09Ok.l1]
    rw [w64s (i := i) (by omega)]
    refine ev_neg (by omega) (h2 ?_)
    rw [hs, show (ks.take i).drop j = [] by simp; omega]; rfl
  | d + 1, j, hd, hs => by
    have hj : j < (ks.take i).length := by simp; omega
    rw [anyK_drop hj, List.getElem_take] at hs
    refine ev_succ ?_; simp only [spec_l09Ok.l1]
    rw [rdIKnot (show j < ks.length by omega), w64s (i := j) (by omega)]
    have next : (ks[j].f0 == a && ks[j].f1 == b) = false → Ev (fun k => spec_l09Ok.l1 k n fr (i : Int) ((j + 1 : Nat) : Int) ks bs a b c) r := fun g => by
      refine s_l1 ks bs n fr i hi hb a b c r h1 h2 d (j + 1) (by omega) ?_
      rw [hs, g]; rfl
    refine ev_pos (by omega) (ev_pos (by omega) (ev_pos (by omega) (ev_if (fun g1 => ev_if (fun g2 => ev_some ?_) (fun g2 => next ?_)) (fun g1 => next ?_))))
    · symm; apply h1; rw [hs, g1, g2]; simp
    · exact and_f1 g2
    · exact and_f0 g1
theorem s_l0 (ks : List S90) (bs : List S104) (hk : ks.length ≤ 8) (hb : bs.length ≤ 8) : ∀ (d i : Nat), i + d = ks.length →
    Ev (fun k => spec_l09Ok.l0 k (ks.length : Int) (freeC (ks.take i) : Int) (i : Int) ks bs) (okKs (ks.take i) (ks.drop i) && (okBs ks [] bs && decide (freeC ks ≤ 3)))
  | 0, i, hd => by
    refine ev_succ ?_; simp only [spec_l09Ok.l0]
    refine ev_neg (by omega) ?_
    have e := s_l2 ks bs hk hb (freeC ks : Int) bs.length 0 (by omega)
    rw [show ks.drop i = [] by simp; omega, List.take_of_length_le (by omega)]
    rw [show decide (freeC ks ≤ 3) = decide ((freeC ks : Int) ≤ 3) by apply decide_eq_decide.2; omega]
    exact e
  | d + 1, i, hd => by
    have hi : i < ks.length := by omega
    have ih := s_l0 ks bs hk hb d (i + 1) (by omega)
    rw [freeC_step hi] at ih
    have fl := freeC_le (ks.take i)
    rw [List.length_take] at fl
    rw [okKs_step hi]
    have bad : ∀ (fr a b : Int) (c : Bool), Ev (fun k => spec_l09Ok.j2 k (ks.length : Int) fr (i : Int) true ks bs a b c) false := fun fr a b c => by
      refine ev_succ ?_; simp only [spec_l09Ok.j2]; exact ev_pos (by trivial) (Ev.now _)
    refine ev_succ ?_; simp only [spec_l09Ok.l0]
    rw [rdIKnot hi]
    generalize hx : ks[i] = x at *
    refine ev_pos (by omega) (ev_pos (by omega) (ev_now (l00In_eq _ _ _) (ev_if (fun g1 => ev_now (l00In_eq _ _ _) ?_) (fun g1 => ?_))))
    · by_cases g2 : 0 ≤ x.f1 ∧ x.f1 ≤ 12
      · rw [decide_eq_true g2]
        have last : ∀ fr : Int, fr = ((freeC (ks.take i) + if x.f2 = true then 0 else 1 : Nat) : Int) → Ev (fun k => spec_l09Ok.j3 k (ks.length : Int) fr (i : Int) ks bs x.f0 x.f1 x.f2) ((knotOk (ks.take i) x && okKs (ks.take (i + 1)) (ks.drop (i + 1))) && (okBs ks [] bs && decide (freeC ks ≤ 3))) := by
          intro fr hfr
          refine ev_succ ?_; simp only [spec_l09Ok.j3]
          unfold knotOk; rw [g1, decide_eq_true g2]
          refine s_l1 ks bs _ fr i hi hk x.f0 x.f1 x.f2 _ (fun g => ?_) (fun g => ?_) i 0 (by omega) (by simp)
          · rw [g]; simp
          · rw [g, hfr]; simpa using ih
        refine ev_succ ?_; simp only [spec_l09Ok.j2]
        refine ev_neg (by simp) (ev_if (fun h => last _ ?_) (fun h => last _ ?_))
        · rw [if_pos h]; rfl
        · rw [if_neg h, w64s (by omega)]
      · rw [decide_eq_false g2, show knotOk (ks.take i) x = false by unfold knotOk; rw [decide_eq_false g2]; simp]
        exact bad _ _ _ _
    · rw [show knotOk (ks.take i) x = false by unfold knotOk; rw [Bool.eq_false_iff.2 g1]; simp]
      exact bad _ _ _ _
theorem l09Ok_ev (ks : List S90) (bs : List S104) : Ev (fun k => spec_l09Ok.f k ks bs) (okF ks bs) := by
  have bad : Ev (fun k => spec_l09Ok.j0 k (ks.length : Int) true ks bs) false := by
    refine ev_succ ?_; simp only [spec_l09Ok.j0]; exact ev_pos (by trivial) (Ev.now _)
  simp only [spec_l09Ok.f]
  refine ev_if (fun h => ?_) (fun h => ?_)
  · rw [show okF ks bs = false by unfold okF; rw [decide_eq_false (show ¬ ks.length ≤ 8 by omega)]; rfl]; exact bad
  · by_cases h8 : (bs.length : Int) > 8
    · rw [decide_eq_true h8, show okF ks bs = false by unfold okF; rw [decide_eq_false (show ¬ bs.length ≤ 8 by omega)]; simp]; exact bad
    · rw [decide_eq_false h8]
      have e := s_l0 ks bs (by omega) (by omega) ks.length 0 (by omega)
      rw [show okF ks bs = (okKs [] ks && (okBs ks [] bs && decide (freeC ks ≤ 3))) by unfold okF; rw [decide_eq_true (show ks.length ≤ 8 by omega), decide_eq_true (show bs.length ≤ 8 by omega)]; simp]
      refine ev_succ ?_; simp only [spec_l09Ok.j0]
      exact ev_neg (by simp) e
def freeL : Nat → List S90 → List Int
  | _, [] => []
  | i, k :: l => if k.f2 = true then freeL (i + 1) l else (i : Int) :: freeL (i + 1) l
theorem freeL_length : ∀ (l : List S90) (i : Nat), (freeL i l).length = freeC l
  | [], i => rfl
  | k :: l, i => by
    have ih := freeL_length l (i + 1)
    unfold freeC at ih ⊢
    rw [freeL, List.filter_cons]
    cases h : k.f2 <;> simp [ih]
theorem freeKnots_l0 (ks : List S90) (hk : ks.length ≤ 8) : ∀ (d i : Nat) (o : List Int), i + d = ks.length → o.length ≤ i →
    Ev (fun k => impl_freeKnots.l0 k o ks (ks.length : Int) (i : Int)) (o ++ freeL i (ks.drop i))
  | 0, i, o, hd, ho => by
    refine ev_succ ?_; simp only [impl_freeKnots.l0]
    refine ev_neg (by omega) (ev_some ?_)
    rw [show ks.drop i = [] by simp; omega]; simp [freeL]
  | d + 1, i, o, hd, ho => by
    have hi : i < ks.length := by omega
    refine ev_succ ?_; simp only [impl_freeKnots.l0]
    rw [rdIKnot hi, w64s (by omega), List.drop_eq_getElem_cons hi]
    simp only [freeL]
    refine ev_pos (by omega) (ev_pos (by omega) (ev_pos (by omega) (ev_if (fun h => ?_) (fun h => ev_pos (by omega) ?_))))
    · rw [if_pos h]
      exact freeKnots_l0 ks hk d (i + 1) o (by omega) (by omega)
    · rw [if_neg h]
      have := freeKnots_l0 ks hk d (i + 1) (o ++ [(i : Int)]) (by omega) (by simp; omega)
      simpa using this
theorem freeKnots_ev (ks : List S90) (bs : List S104) (hk : ks.length ≤ 8) : Ev (fun k => impl_freeKnots.f k ks bs) (freeL 0 ks) := by
  simp only [impl_freeKnots.f]
  simpa using freeKnots_l0 ks hk ks.length 0 [] (by omega) (by simp)
theorem i_l3 (ks : List S90) (bs : List S104) (i : Nat) (hi : i < bs.length) (hb : bs.length ≤ 8) (a b : Int) (c : Bool) (r : Bool) (h1 : anyB (bs.take i) a b = true → r = false)
    (h2 : anyB (bs.take i) a b = false → Ev (fun k => impl_ValidFrame.l2 k bs (bs.length : Int) ((i + 1 : Nat) : Int) ks bs) r) : ∀ (d j : Nat), j + d = i → anyB (bs.take i) a b = anyB ((bs.take i).drop j) a b →
    Ev (fun k => impl_ValidFrame.l3 k bs (bs.length : Int) (i : Int) (bs.take i) ((bs.take i).length : Int) (j : Int) ks bs a b c) r
  | 0, j, hd, hs => by
    have hl : (bs.take i).length = i := by simp; omega
    refine ev_succ ?_; simp only [impl_ValidFrame.l3]
    rw [w64s (i := i) (by omega)]
    refine ev_neg (by omega) (h2 ?_)
    rw [hs, show (bs.take i).drop j = [] by simp; omega]; rfl
  | d + 1, j, hd, hs => by
    have hl : (bs.take i).length = i := by simp; omega
    have hj : j < (bs.take i).length := by omega
    rw [anyB_drop hj] at hs
    refine ev_succ ?_; simp only [impl_ValidFrame.l3]
    rw [rdIBar hj, w64s (i := j) (by omega)]
    have next : ((bs.take i)[j].f0 == a && (bs.take i)[j].f1 == b) = false → Ev (fun k => impl_ValidFrame.l3 k bs (bs.length : Int) (i : Int) (bs.take i) ((bs.take i).length : Int) ((j + 1 : Nat) : Int) ks bs a b c) r := fun g => by
      refine i_l3 ks bs i hi hb a b c r h1 h2 d (j + 1) (by omega) ?_
      rw [hs, g]; rfl
    refine ev_pos (by omega) (ev_pos (by omega) (ev_pos (by omega) (ev_if (fun g1 => ev_if (fun g2 => ev_some ?_) (fun g2 => next ?_)) (fun g1 => next ?_))))
    · symm; apply h1; rw [hs, g1, g2]; simp
    · exact and_f1 g2
    · exact and_f0 g1
theorem i_l2 (ks : List S90) (bs : List S104) (hk : ks.length ≤ 8) (hb : bs.length ≤ 8) : ∀ (d i : Nat), i + d = bs.length →
    Ev (fun k => impl_ValidFrame.l2 k bs (bs.length : Int) (i : Int) ks bs) (okBs ks (bs.take i) (bs.drop i))
  | 0, i, hd => by
    refine ev_succ ?_; simp only [impl_ValidFrame.l2]
    refine ev_neg (by omega) (ev_some ?_)
    rw [show bs.drop i = [] by simp; omega]; rfl
  | d + 1, i, hd => by
    have hi : i < bs.length := by omega
    have ih := i_l2 ks bs hk hb d (i + 1) (by omega)
    rw [okBs_step ks hi]
    have bad : ∀ (a b : Int) (c : Bool), Ev (fun k => impl_ValidFrame.j5 k (i : Int) bs (bs.length : Int) (i : Int) true ks bs a b c) false := fun a b c => by
      refine ev_succ ?_; simp only [impl_ValidFrame.j5]; exact ev_pos (by trivial) (Ev.now _)
    refine ev_succ ?_; simp only [impl_ValidFrame.l2]
    rw [rdIBar hi]
    generalize hx : bs[i] = x at *
    have nope : ¬ (0 ≤ x.f0 ∧ x.f0 < x.f1 ∧ x.f1 < (ks.length : Int)) → barOk ks (bs.take i) x = false := fun g => by unfold barOk; rw [decide_eq_false g]; rfl
    refine ev_pos (by omega) (ev_pos (by omega) (ev_pos (by omega) (ev_if (fun g1 => ?_) (fun g1 => ev_if (fun g2 => ?_) (fun g2 => ev_if (fun g3 => ?_) (fun g3 => ?_))))))
    · rw [nope (by omega)]; exact bad _ _ _
    · rw [nope (by omega)]; exact bad _ _ _
    · rw [nope (by omega)]; exact bad _ _ _
    · have good : decide (0 ≤ x.f0 ∧ x.f0 < x.f1 ∧ x.f1 < (ks.length : Int)) = true := decide_eq_true (by omega)
      have main : ∀ q : Bool, q = (fixK ks x.f0 && fixK ks x.f1) → Ev (fun k => impl_ValidFrame.j5 k (i : Int) bs (bs.length : Int) (i : Int) q ks bs x.f0 x.f1 x.f2) (barOk ks (bs.take i) x && okBs ks (bs.take (i + 1)) (bs.drop (i + 1))) := by
        intro q hq
        unfold barOk; rw [good, ← hq]
        refine ev_succ ?_; simp only [impl_ValidFrame.j5]
        refine ev_if (fun h => ev_some (by rw [h]; simp)) (fun h => ?_)
        have h : q = false := Bool.eq_false_iff.2 h
        refine ev_pos (by omega) (ev_pos (by omega) (ev_now rfl ?_))
        rw [Int.toNat_natCast]
        refine i_l3 ks bs i hi hb x.f0 x.f1 x.f2 _ (fun g => ?_) (fun g => ?_) i 0 (by omega) (by simp)
        · rw [g]; simp
        · rw [g, h]; simpa using ih
      refine ev_pos (by omega) (ev_pos (by omega) (ev_if (fun h => ev_pos (by omega) (ev_pos (by omega) (main _ ?_))) (fun h => main _ ?_)))
      · unfold fixK; rw [h]; rfl
      · unfold fixK; rw [Bool.eq_false_iff.2 h]; rfl
theorem i_l1 (ks : List S90) (bs : List S104) (i : Nat) (hi : i < ks.length) (hb : ks.length ≤ 8) (a b : Int) (c : Bool) (r : Bool) (h1 : anyK (ks.take i) a b = true → r = false)
    (h2 : anyK (ks.take i) a b = false → Ev (fun k => impl_ValidFrame.l0 k ks (ks.length : Int) ((i + 1 : Nat) : Int) ks bs) r) : ∀ (d j : Nat), j + d = i → anyK (ks.take i) a b = anyK ((ks.take i).drop j) a b →
    Ev (fun k => impl_ValidFrame.l1 k ks (ks.length : Int) (i : Int) (ks.take i) ((ks.take i).length : Int) (j : Int) ks bs a b c) r
  | 0, j, hd, hs => by
    have hl : (ks.take i).length = i := by simp; omega
    refine ev_succ ?_; simp only [impl_ValidFrame.l1]
    rw [w64s (i := i) (by omega)]
    refine ev_neg (by omega) (h2 ?_)
    rw [hs, show (ks.take i).drop j = [] by simp; omega]; rfl
  | d + 1, j, hd, hs => by
    have hl : (ks.take i).length = i := by simp; omega
    have hj : j < (ks.take i).length := by omega
    rw [anyK_drop hj] at hs
    refine ev_succ ?_; simp only [impl_ValidFrame.l1]
    rw [rdIKnot hj, w64s (i := j) (by omega)]
    have next : ((ks.take i)[j].f0 == a && (ks.take i)[j].f1 == b) = false → Ev (fun k => impl_ValidFrame.l1 k ks (ks.length : Int) (i : Int) (ks.take i) ((ks.take i).length : Int) ((j + 1 : Nat) : Int) ks bs a b c) r := fun g => by
      refine i_l1 ks bs i hi hb a b c r h1 h2 d (j + 1) (by omega) ?_
      rw [hs, g]; rfl
    refine ev_pos (by omega) (ev_pos (by omega) (ev_pos (by omega) (ev_if (fun g1 => ev_if (fun g2 => ev_some ?_) (fun g2 => next ?_)) (fun g1 => next ?_))))
    · symm; apply h1; rw [hs, g1, g2]; simp
    · exact and_f1 g2
    · exact and_f0 g1
theorem i_l0 (ks : List S90) (bs : List S104) (hk : ks.length ≤ 8) (hb : bs.length ≤ 8) : ∀ (d i : Nat), i + d = ks.length →
    Ev (fun k => impl_ValidFrame.l0 k ks (ks.length : Int) (i : Int) ks bs) (okKs (ks.take i) (ks.drop i) && okBs ks [] bs)
  | 0, i, hd => by
    refine ev_succ ?_; simp only [impl_ValidFrame.l0]
    refine ev_neg (by omega) ?_
    have e := i_l2 ks bs hk hb bs.length 0 (by omega)
    rw [show ks.drop i = [] by simp; omega]
    exact e
  | d + 1, i, hd => by
    have hi : i < ks.length := by omega
    have ih := i_l0 ks bs hk hb d (i + 1) (by omega)
    rw [okKs_step hi]
    have bad : ∀ (a b : Int) (c : Bool), Ev (fun k => impl_ValidFrame.j2 k (i : Int) ks (ks.length : Int) (i : Int) true ks bs a b c) false := fun a b c => by
      refine ev_succ ?_; simp only [impl_ValidFrame.j2]; exact ev_pos (by trivial) (Ev.now _)
    refine ev_succ ?_; simp only [impl_ValidFrame.l0]
    rw [rdIKnot hi]
    generalize hx : ks[i] = x at *
    refine ev_pos (by omega) (ev_pos (by omega) (ev_pos (by omega) (ev_now (within_eq _ _ _) (ev_if (fun g1 => ev_now (within_eq _ _ _) ?_) (fun g1 => ?_)))))
    · by_cases g2 : 0 ≤ x.f1 ∧ x.f1 ≤ 12
      · rw [decide_eq_true g2]
        unfold knotOk; rw [g1, decide_eq_true g2]
        refine ev_succ ?_; simp only [impl_ValidFrame.j2]
        refine ev_neg (by simp) (ev_pos (by omega) (ev_pos (by omega) (ev_now rfl ?_)))
        rw [Int.toNat_natCast]
        refine i_l1 ks bs i hi hk x.f0 x.f1 x.f2 _ (fun g => ?_) (fun g => ?_) i 0 (by omega) (by simp)
        · rw [g]; simp
        · rw [g]; simpa using ih
      · rw [decide_eq_false g2, show knotOk (ks.take i) x = false by unfold knotOk; rw [decide_eq_false g2]; simp]
        exact bad _ _ _
    · rw [show knotOk (ks.take i) x = false by unfold knotOk; rw [Bool.eq_false_iff.2 g1]; simp]
      exact bad _ _ _
theorem validFrame_ev (ks : List S90) (bs : List S104) : Ev (fun k => impl_ValidFrame.f k ks bs) (okF ks bs) := by
  have bad : Ev (fun k => impl_ValidFrame.j0 k true ks bs) false := by
    refine ev_succ ?_; simp only [impl_ValidFrame.j0]; exact ev_pos (by trivial) (Ev.now _)
  simp only [impl_ValidFrame.f]
  refine ev_if (fun h => ?_) (fun h => ev_if (fun h8 => ?_) (fun h8 => ?_))
  · rw [show okF ks bs = false by unfold okF; rw [decide_eq_false (show ¬ ks.length ≤ 8 by omega)]; rfl]; exact bad
  · rw [show okF ks bs = false by unfold okF; rw [decide_eq_false (show ¬ bs.length ≤ 8 by omega)]; simp]; exact bad
  · refine Ev.bind (freeKnots_ev ks bs (by omega)) ?_
    rw [freeL_length]
    by_cases g : freeC ks ≤ 3
    · rw [decide_eq_false (show ¬ (freeC ks : Int) > 3 by omega)]
      have e := i_l0 ks bs (by omega) (by omega) ks.length 0 (by omega)
      rw [show okF ks bs = (okKs [] ks && okBs ks [] bs) by unfold okF; rw [decide_eq_true (show ks.length ≤ 8 by omega), decide_eq_true (show bs.length ≤ 8 by omega), decide_eq_true g]; simp]
      refine ev_succ ?_; simp only [impl_ValidFrame.j0]
      exact ev_neg (by simp) e
    · rw [decide_eq_true (show (freeC ks : Int) > 3 by omega), show okF ks bs = false by unfold okF; rw [decide_eq_false g]; simp]
      exact bad

theorem okKs_all : ∀ (l pre : List S90), okKs pre l = true → ∀ k ∈ l, (0 ≤ k.f0 ∧ k.f0 ≤ 12) ∧ (0 ≤ k.f1 ∧ k.f1 ≤ 12)
  | [], _, _, k, hk => by cases hk
  | x :: l, pre, h, k, hk => by
    simp only [okKs, Bool.and_eq_true] at h
    rcases List.mem_cons.1 hk with g | g
    · subst g
      have := h.1; unfold knotOk at this; simp only [Bool.and_eq_true, decide_eq_true_eq] at this
      exact this.1
    · exact okKs_all l _ h.2 k g
theorem okBs_all (ks : List S90) : ∀ (l pre : List S104), okBs ks pre l = true → ∀ b ∈ l, 0 ≤ b.f0 ∧ b.f0 < b.f1 ∧ b.f1 < (ks.length : Int)
  | [], _, _, b, hb => by cases hb
  | x :: l, pre, h, b, hb => by
    simp only [okBs, Bool.and_eq_true] at h
    rcases List.mem_cons.1 hb with g | g
    · subst g
      have := h.1; unfold barOk at this; simp only [Bool.and_eq_true, decide_eq_true_eq] at this
      exact this.1.1
    · exact okBs_all ks l _ h.2 b g
structure OkF (ks : List S90) (bs : List S104) : Prop where
  k8 : ks.length ≤ 8
  b8 : bs.length ≤ 8
  knots : ∀ k ∈ ks, (0 ≤ k.f0 ∧ k.f0 ≤ 12) ∧ (0 ≤ k.f1 ∧ k.f1 ≤ 12)
  bars : ∀ b ∈ bs, 0 ≤ b.f0 ∧ b.f0 < b.f1 ∧ b.f1 < (ks.length : Int)
theorem okF_facts {ks : List S90} {bs : List S104} (h : okF ks bs = true) : OkF ks bs := by
  unfold okF at h
  simp only [Bool.and_eq_true, decide_eq_true_eq] at h
  exact ⟨h.1.1, h.1.2, okKs_all ks [] h.2.1, okBs_all ks bs [] h.2.2.1⟩
theorem rdKi {ks : List S90} {a : Int} (h0 : 0 ≤ a) (h1 : a < (ks.length : Int)) : rd_T90 ks a ∈ ks := by
  obtain ⟨n, rfl⟩ := Int.eq_ofNat_of_zero_le h0
  have hn : n < ks.length := by omega
  rw [show ((n : Nat) : Int) = (n : Int) from rfl, rdIKnot hn]
  exact List.getElem_mem hn
theorem rdBi {bs : List S104} {a : Int} (h0 : 0 ≤ a) (h1 : a < (bs.length : Int)) : rd_T104 bs a ∈ bs := by
  obtain ⟨n, rfl⟩ := Int.eq_ofNat_of_zero_le h0
  have hn : n < bs.length := by omega
  rw [show ((n : Nat) : Int) = (n : Int) from rfl, rdIBar hn]
  exact List.getElem_mem hn

def risB (hi : Int) : Int → List Int → Bool
  | _, [] => true
  | p, x :: l => decide (0 ≤ x ∧ x ≤ hi) && (decide (p < x) && risB hi x l)
theorem risB_all (hi : Int) : ∀ (l : List Int) (p : Int), risB hi p l = true → ∀ x ∈ l, 0 ≤ x ∧ x ≤ hi
  | [], _, _, x, hx => by cases hx
  | y :: l, p, h, x, hx => by
    simp only [risB, Bool.and_eq_true, decide_eq_true_eq] at h
    rcases List.mem_cons.1 hx with e | e
    · rw [e]; exact h.1
    · exact risB_all hi l y h.2.2 x e
theorem risB_len (hi : Int) : ∀ (l : List Int) (p : Int), risB hi p l = true → p ≤ hi → p + (l.length : Int) ≤ hi
  | [], p, _, hp => by simpa using hp
  | y :: l, p, h, hp => by
    simp only [risB, Bool.and_eq_true, decide_eq_true_eq] at h
    have := risB_len hi l y h.2.2 h.1.2
    rw [List.length_cons]; omega
def barsB (bs : List S104) (l : List Int) : Bool := risB ((bs.length : Int) - 1) (-1) l
theorem barsB_len {bs : List S104} {l : List Int} (h : barsB bs l = true) : l.length ≤ bs.length := by
  have := risB_len _ _ _ h (by omega); omega
theorem barsB_all {bs : List S104} {l : List Int} (h : barsB bs l = true) : ∀ x ∈ l, 0 ≤ x ∧ x < (bs.length : Int) := fun x hx => by
  have := risB_all _ _ _ h x hx; omega
theorem l00In_t (a b c : Int) : spec_l00In.f a b c = some (decide (b ≤ a ∧ a ≤ c)) := by
  unfold spec_l00In.f; by_cases h : a ≥ b <;> simp [h]
theorem sRis (l : List Int) (hi : Int) (hl : l.length ≤ 1048576) : ∀ (d i : Nat) (p : Int), i + d = l.length → (i = 0 → p = -1) → (0 < i → p = rd l ((i : Int) - 1)) → Ev (fun k => spec_l00Rises.l0 k l 0 hi (i : Int)) (risB hi p (l.drop i))
  | 0, i, p, hd, h0, h1 => by
    refine ev_succ ?_; simp only [spec_l00Rises.l0]
    refine ev_neg (by omega) (ev_some ?_)
    rw [show l.drop i = [] by simp; omega]; rfl
  | d + 1, i, p, hd, h0, h1 => by
    have hlt : i < l.length := by omega
    have ih := sRis l hi hl d (i + 1) l[i] (by omega) (by omega) (fun _ => by rw [show ((i + 1 : Nat) : Int) - 1 = (i : Int) by omega, rd_nat hlt])
    refine ev_succ ?_; simp only [spec_l00Rises.l0]
    rw [List.drop_eq_getElem_cons hlt]
    simp only [risB]
    rw [rd_nat hlt, w64s (by omega), w64 (x := (i : Int) - 1) (by omega) (by omega)]
    refine ev_pos (by omega) (ev_pos (by omega) (ev_now (l00In_t _ _ _) (ev_if (fun g => ?_) (fun g => ev_some ?_))))
    · rw [g, Bool.true_and]
      have g := of_decide_eq_true g
      refine ev_if (fun h => ?_) (fun h => ?_)
      · have hp := h1 (by omega)
        refine ev_pos (by omega) (ev_pos (by omega) ?_)
        rw [← hp]
        refine ev_if (fun q => ev_some ?_) (fun q => ?_)
        · rw [decide_eq_false (by omega), Bool.false_and]
        · rw [decide_eq_true (by omega), Bool.true_and]; exact ih
      · have hp := h0 (by omega)
        rw [hp, decide_eq_true (by omega), Bool.true_and]; exact ih
    · rw [Bool.eq_false_iff.2 g, Bool.false_and]
theorem iRis (l : List Int) (ks : List S90) (bs : List S104) (hb : bs.length ≤ 8) (hl : l.length ≤ 1048576) : ∀ (d i : Nat) (p : Int), i + d = l.length → (i = 0 → p = -1) → (0 < i → p = rd l ((i : Int) - 1)) → Ev (fun k => impl_areBars.l0 k l l (l.length : Int) (i : Int) ks bs) (risB ((bs.length : Int) - 1) p (l.drop i))
  | 0, i, p, hd, h0, h1 => by
    refine ev_succ ?_; simp only [impl_areBars.l0]
    refine ev_neg (by omega) (ev_some ?_)
    rw [show l.drop i = [] by simp; omega]; rfl
  | d + 1, i, p, hd, h0, h1 => by
    have hlt : i < l.length := by omega
    have ih := iRis l ks bs hb hl d (i + 1) l[i] (by omega) (by omega) (fun _ => by rw [show ((i + 1 : Nat) : Int) - 1 = (i : Int) by omega, rd_nat hlt])
    refine ev_succ ?_; simp only [impl_areBars.l0]
    rw [List.drop_eq_getElem_cons hlt]
    simp only [risB]
    rw [rd_nat hlt, w64s (by omega), w64 (x := (i : Int) - 1) (by omega) (by omega), w64 (x := (bs.length : Int) - 1) (by omega) (by omega)]
    refine ev_pos (by omega) (ev_pos (by omega) (ev_pos (by omega) (ev_now (within_eq _ _ _) (ev_if (fun g => ?_) (fun g => ev_some ?_)))))
    · rw [g, Bool.true_and]
      have g := of_decide_eq_true g
      refine ev_if (fun h => ?_) (fun h => ?_)
      · have hp := h1 (by omega)
        refine ev_pos (by omega) (ev_pos (by omega) ?_)
        rw [← hp]
        refine ev_if (fun q => ev_some ?_) (fun q => ?_)
        · rw [decide_eq_false (by omega), Bool.false_and]
        · rw [decide_eq_true (by omega), Bool.true_and]; exact ih
      · have hp := h0 (by omega)
        rw [hp, decide_eq_true (by omega), Bool.true_and]; exact ih
    · rw [Bool.eq_false_iff.2 g, Bool.false_and]
theorem some_ev (ks : List S90) (bs : List S104) (l : List Int) (hb : bs.length ≤ 8) (hl : l.length ≤ 1048576) : Ev (fun k => spec_l09Some.f k ks bs l) (barsB bs l) := by
  simp only [spec_l09Some.f]
  rw [w64 (x := (bs.length : Int) - 1) (by omega) (by omega)]
  have e := sRis l ((bs.length : Int) - 1) hl l.length 0 (-1) (by omega) (fun _ => rfl) (by omega)
  exact Ev.bind (show Ev (fun k => spec_l00Rises.f k l 0 ((bs.length : Int) - 1)) (barsB bs l) from e) (Ev.now _)
theorem areBars_ev (ks : List S90) (bs : List S104) (l : List Int) (hb : bs.length ≤ 8) (hl : l.length ≤ 1048576) : Ev (fun k => impl_areBars.f k ks bs l) (barsB bs l) := by
  simp only [impl_areBars.f]
  exact iRis l ks bs hb hl l.length 0 (-1) (by omega) (fun _ => rfl) (by omega)
theorem frU_free (ks : List S90) : ∀ v, v ≤ ks.length → (frU ks v).length = freeC (ks.take v)
  | 0, _ => rfl
  | v + 1, h => by
    have hv : v < ks.length := by omega
    rw [frU_succ, freeC_step hv, ← frU_free ks v (by omega), List.length_append, rdIKnot hv]
    cases ks[v].f2 <;> rfl
theorem frI_free (ks : List S90) : (frI ks).length = freeC ks := by
  unfold frI; rw [frU_free ks _ (Nat.le_refl _), List.take_length]
theorem okF_free {ks : List S90} {bs : List S104} (h : okF ks bs = true) : freeC ks ≤ 3 := by
  unfold okF at h
  simp only [Bool.and_eq_true, decide_eq_true_eq] at h
  exact h.2.2.2
theorem tok {ks : List S90} {bs : List S104} {ld : List S76} {l : List Int} (h : okF ks bs = true) (hl : barsB bs l = true) (h1 : ld.length = ks.length) (h2 : ∀ p ∈ ld, (-100 ≤ p.f0 ∧ p.f0 ≤ 100) ∧ (-100 ≤ p.f1 ∧ p.f1 ≤ 100)) : TOk ks bs ld l := by
  have f := okF_facts h
  have b8 := f.b8
  have := barsB_len hl
  exact ⟨f.k8, by omega, by omega, by rw [frI_free]; exact okF_free h, f.knots, f.bars, barsB_all hl, h1, h2⟩
theorem tok0 {ks : List S90} {bs : List S104} {l : List Int} (h : okF ks bs = true) (hl : barsB bs l = true) : TOk ks bs (List.replicate ks.length ⟨0, 0⟩) l :=
  tok h hl (by simp) (fun p hp => by rw [(List.mem_replicate.1 hp).2]; decide)

theorem bars_code (ks : List S90) (bs : List S104) (l : List Int) (hl : l.length ≤ 1048576) : Ev (fun k => spec_l09Bars.f k ks bs l) (if okF ks bs = true then (if barsB bs l = true then 0 else 2) else 1) := by
  have e1 := l09Ok_ev ks bs
  simp only [spec_l09Bars.f]
  refine Ev.bind e1 (ev_if (fun h => ?_) (fun h => ?_))
  · rw [if_pos h]
    refine Ev.bind (some_ev ks bs l (okF_facts h).b8 hl) (ev_if (fun g => ?_) (fun g => ?_))
    · rw [if_pos g]; exact Ev.now _
    · rw [if_neg g]; exact Ev.now _
  · rw [if_neg h]; exact Ev.now _
theorem rank_eq {ks : List S90} {bs : List S104} {l : List Int} (h : okF ks bs = true) (hl : barsB bs l = true) : ∃ r : Int, spec_l09Rank.f ks bs l = some r ∧ impl_rankOf.f ks bs l = some r := by
  have t := tok0 h hl
  unfold spec_l09Rank.f impl_rankOf.f
  rw [if_pos t]
  exact ⟨_, rfl, rfl⟩

theorem rdEKnot {xs : List S90} {i : Nat} (h : i < xs.length) : rd_T90 xs (i : Int) = xs[i] := by
  unfold rd_T90; simp [List.getD_eq_getElem?_getD, h]
theorem eqKnot_self (x : S90) : laws_eqKnot.f x.f0 x.f1 x.f2 x.f0 x.f1 x.f2 = some true := by
  simp [laws_eqKnot.f]
theorem eqKnotS_l0 (x0 : List S90) (hn : x0.length ≤ 1048576) : ∀ (d i : Nat), i + d = x0.length → Ev (fun k => laws_eqKnotS.l0 k x0 x0 (i : Int)) true
  | 0, i, hd => by
    refine ev_succ ?_
    simp only [laws_eqKnotS.l0]
    exact ev_neg (by omega) (Ev.now _)
  | d + 1, i, hd => by
    refine ev_succ ?_
    simp only [laws_eqKnotS.l0]
    refine ev_pos (by omega) (ev_pos (by omega) (ev_pos (by omega) (ev_now (eqKnot_self _) (ev_pos (by trivial) ?_))))
    rw [w64s (by omega)]
    exact eqKnotS_l0 x0 hn d (i + 1) (by omega)
theorem eqKnotS_self (l : List S90) (hn : l.length ≤ 1048576) : Ev (fun k => laws_eqKnotS.f k l l) true := by
  simp only [laws_eqKnotS.f]
  exact ev_pos (by trivial) (eqKnotS_l0 l hn l.length 0 (by omega))

theorem rdEBar {xs : List S104} {i : Nat} (h : i < xs.length) : rd_T104 xs (i : Int) = xs[i] := by
  unfold rd_T104; simp [List.getD_eq_getElem?_getD, h]
theorem eqBar_self (x : S104) : laws_eqBar.f x.f0 x.f1 x.f2 x.f0 x.f1 x.f2 = some true := by
  simp [laws_eqBar.f]
theorem eqBarS_l0 (x0 : List S104) (hn : x0.length ≤ 1048576) : ∀ (d i : Nat), i + d = x0.length → Ev (fun k => laws_eqBarS.l0 k x0 x0 (i : Int)) true
  | 0, i, hd => by
    refine ev_succ ?_
    simp only [laws_eqBarS.l0]
    exact ev_neg (by omega) (Ev.now _)
  | d + 1, i, hd => by
    refine ev_succ ?_
    simp only [laws_eqBarS.l0]
    refine ev_pos (by omega) (ev_pos (by omega) (ev_pos (by omega) (ev_now (eqBar_self _) (ev_pos (by trivial) ?_))))
    rw [w64s (by omega)]
    exact eqBarS_l0 x0 hn d (i + 1) (by omega)
theorem eqBarS_self (l : List S104) (hn : l.length ≤ 1048576) : Ev (fun k => laws_eqBarS.f k l l) true := by
  simp only [laws_eqBarS.f]
  exact ev_pos (by trivial) (eqBarS_l0 l hn l.length 0 (by omega))

theorem szKnotS_eq (l : List S126) (n : Int) (hl : l.length ≤ maxLen) (h0 : 0 ≤ n) (h1 : n ≤ 1048576) : laws_szKnotS.f l n = some (if n - (l.length : Int) < 0 then -1 else n - (l.length : Int)) := by
  unfold maxLen at hl
  unfold laws_szKnotS.f
  rw [w64 (x := n - (l.length : Int)) (by omega) (by omega)]
  split <;> rfl

theorem szBarS_eq (l : List S128) (n : Int) (hl : l.length ≤ maxLen) (h0 : 0 ≤ n) (h1 : n ≤ 1048576) : laws_szBarS.f l n = some (if n - (l.length : Int) < 0 then -1 else n - (l.length : Int)) := by
  unfold maxLen at hl
  unfold laws_szBarS.f
  rw [w64 (x := n - (l.length : Int)) (by omega) (by omega)]
  split <;> rfl

theorem szF_eq (l0 : List S126) (l1 : List S128) (n : Int) (h0 : l0.length ≤ maxLen) (h1 : l1.length ≤ maxLen) (hn : 0 ≤ n) (hn' : n ≤ 1048576) :
    ∃ r : Int, laws_szFrame.f l0 l1 n = some r ∧ (¬ r < 0 → l0.length ≤ 1048576 ∧ l1.length ≤ 1048576 ∧ r ≤ n) := by
  unfold laws_szFrame.f
  rw [szKnotS_eq l0 n h0 hn hn']
  simp only [Option.bind_some]
  by_cases g : n - (l0.length : Int) < 0
  · rw [if_pos g]; exact ⟨-1, rfl, fun h => by omega⟩
  · rw [if_neg g, if_neg g, szBarS_eq l1 _ h1 (by omega) (by omega)]
    simp only [Option.bind_some]
    by_cases g' : n - (l0.length : Int) - (l1.length : Int) < 0
    · rw [if_pos g']; exact ⟨-1, rfl, fun h => by omega⟩
    · rw [if_neg g', if_neg g']; exact ⟨_, rfl, fun h => by omega⟩
theorem toF_ev (l0 : List S126) (l1 : List S128) (h0 : l0.length ≤ 1048576) (h1 : l1.length ≤ 1048576) : Ev (fun k => laws_toFrame.f k l0 l1) (l0.map convKnot, l1.map convBar) := by
  simp only [laws_toFrame.f]
  exact Ev.bind (toKnotS_ev l0 h0) (Ev.bind (toBarS_ev l1 h1) (Ev.now _))
theorem eqF_self (ks : List S90) (bs : List S104) (h0 : ks.length ≤ 1048576) (h1 : bs.length ≤ 1048576) : Ev (fun k => laws_eqFrame.f k ks bs ks bs) true := by
  simp only [laws_eqFrame.f]
  exact Ev.bind (eqKnotS_self _ h0) (ev_pos (by trivial) (Ev.bind (eqBarS_self _ h1) (ev_pos (by trivial) (Ev.now _))))

theorem eqInt64S_l0 (x0 x1 : List Int) (hl : x0.length = x1.length) (hn : x0.length ≤ 35184372088832) : ∀ (d i : Nat), i + d = x0.length → x0.take i = x1.take i →
    Ev (fun k => laws_eqInt64S.l0 k x0 x1 (i : Int)) (decide (x0 = x1))
  | 0, i, hd, ht => by
    refine ev_succ ?_
    simp only [laws_eqInt64S.l0]
    refine ev_neg (by omega) (ev_some ?_)
    rw [List.take_of_length_le (by omega), List.take_of_length_le (by omega)] at ht; simp [ht]
  | d + 1, i, hd, ht => by
    refine ev_succ ?_
    simp only [laws_eqInt64S.l0]
    refine ev_pos (by omega) (ev_pos (by omega) (ev_pos (by omega) (ev_if (fun h => ?_) (fun h => ev_some ?_))))
    · rw [w64s (by omega)]
      refine eqInt64S_l0 x0 x1 hl hn d (i + 1) (by omega) ?_
      rw [rd_nat (by omega), rd_nat (by omega)] at h
      rw [List.take_succ_eq_append_getElem (by omega), List.take_succ_eq_append_getElem (by omega), ht, h]
    · rw [rd_nat (by omega), rd_nat (by omega)] at h
      symm; rw [decide_eq_false_iff_not]; rintro rfl; exact h rfl
theorem eqInt64S_ev (a b : List Int) (hn : a.length ≤ 35184372088832) : Ev (fun k => laws_eqInt64S.f k a b) (decide (a = b)) := by
  simp only [laws_eqInt64S.f]
  refine ev_if (fun h => ?_) (fun h => ev_some ?_)
  · exact eqInt64S_l0 a b (by omega) hn a.length 0 (by omega) (by simp)
  · symm; rw [decide_eq_false_iff_not]; rintro rfl; exact h rfl
theorem eqInt64S_self (a : List Int) (hn : a.length ≤ 35184372088832) : Ev (fun k => laws_eqInt64S.f k a a) true := by
  simpa using eqInt64S_ev a a hn

theorem toInt64S_l0 (x0 : List Int) (hn : x0.length ≤ 35184372088832) : ∀ (d i : Nat) (x3 : List Int), i + d = x0.length → x3.length = x0.length → x3.take i = x0.take i →
    Ev (fun k => laws_toInt64S.l0 k x0 x3 (i : Int)) x0
  | 0, i, x3, hd, hl, ht => by
    refine ev_succ ?_
    simp only [laws_toInt64S.l0]
    refine ev_neg (by omega) (ev_some ?_)
    rw [List.take_of_length_le (by omega), List.take_of_length_le (by omega)] at ht; exact ht
  | d + 1, i, x3, hd, hl, ht => by
    refine ev_succ ?_
    simp only [laws_toInt64S.l0]
    refine ev_pos (by omega) (ev_pos (by omega) (ev_pos (by omega) ?_))
    rw [w64s (by omega), Int.toNat_natCast, rd_nat (by omega)]
    exact toInt64S_l0 x0 hn d (i + 1) _ (by omega) (by simpa using hl) (take_set _ _ _ _ (by omega) (by omega) ht rfl)
theorem toInt64S_ev (l : List Int) (hn : l.length ≤ 35184372088832) : Ev (fun k => laws_toInt64S.f k l) l := by
  simp only [laws_toInt64S.f]
  refine ev_pos (by omega) (ev_pos (by omega) ?_)
  exact toInt64S_l0 l (by omega) l.length 0 _ (by omega) (by simp) (by simp)

theorem sStiff_l0 (ks : List S90) (bs : List S104) (l : List Int) (r : Int) (hr : spec_l09Rank.f ks bs l = some r) (hk : ks.length ≤ 8) : ∀ (d i : Nat), i + d = ks.length →
    Ev (fun k => spec_IsStiff.l0 k l (freeC (ks.take i) : Int) (i : Int) ks bs) (r == 2 * (freeC ks : Int), 0)
  | 0, i, hd => by
    refine ev_succ ?_; simp only [spec_IsStiff.l0]
    have hc := freeC_le ks
    refine ev_neg (by omega) (ev_now hr (ev_some ?_))
    rw [show ks.take i = ks by rw [show i = ks.length by omega, List.take_length], w64 (by omega) (by omega)]
  | d + 1, i, hd => by
    have hi : i < ks.length := by omega
    have hc := freeC_le (ks.take i)
    have ih := sStiff_l0 ks bs l r hr hk d (i + 1) (by omega)
    rw [freeC_step hi] at ih
    refine ev_succ ?_; simp only [spec_IsStiff.l0]
    rw [List.length_take] at hc
    rw [rdIKnot hi, w64s (i := i) (by omega), w64s (i := freeC (ks.take i)) (by omega)]
    refine ev_pos (by omega) (ev_pos (by omega) (ev_if (fun h => ?_) (fun h => ?_)))
    · rw [if_pos h] at ih; simpa using ih
    · rw [if_neg h] at ih; simpa using ih
theorem key (ks : List S90) (bs : List S104) (l : List Int) (hl : l.length ≤ 1048576) : ∃ r : Bool × Int, Ev (fun k => spec_IsStiff.f k ks bs l) r ∧ Ev (fun k => impl_IsStiff.f k ks bs l) r := by
  have e1 := bars_code ks bs l hl
  have e2 := validFrame_ev ks bs
  by_cases h : okF ks bs = true
  · rw [if_pos h] at e1
    have f := okF_facts h
    have k8 := f.k8
    have e3 := areBars_ev ks bs l f.b8 hl
    by_cases g : barsB bs l = true
    · rw [if_pos g] at e1
      obtain ⟨r, r1, r2⟩ := rank_eq h g
      refine ⟨(r == 2 * (freeC ks : Int), 0), ?_, ?_⟩
      · simp only [spec_IsStiff.f]; exact Ev.bind e1 (ev_pos (by trivial) (sStiff_l0 ks bs l r r1 k8 ks.length 0 (by omega)))
      · simp only [impl_IsStiff.f]
        have hc := freeC_le ks
        refine Ev.bind e2 (ev_pos h (Ev.bind e3 (ev_pos g (ev_now r2 (Ev.bind (freeKnots_ev ks bs k8) (ev_some ?_))))))
        rw [freeL_length, w64 (by omega) (by omega)]
    · rw [if_neg g] at e1
      refine ⟨(false, 2), ?_, ?_⟩
      · simp only [spec_IsStiff.f]; exact Ev.bind e1 (ev_neg (by omega) (Ev.now _))
      · simp only [impl_IsStiff.f]; exact Ev.bind e2 (ev_pos h (Ev.bind e3 (ev_neg g (Ev.now _))))
  · rw [if_neg h] at e1
    refine ⟨(false, 1), ?_, ?_⟩
    · simp only [spec_IsStiff.f]; exact Ev.bind e1 (ev_neg (by omega) (Ev.now _))
    · simp only [impl_IsStiff.f]; exact Ev.bind e2 (ev_neg h (Ev.now _))
theorem FnExactIsStiff : laws_FnExactIsStiff.Pure := by
  intro l0 l1 l2 h0 _ h1 _ h2 _
  refine Ev.rounds ?_
  simp only [laws_FnExactIsStiff.f]
  refine ev_if (fun _ => Ev.now _) (fun hl => ?_)
  obtain ⟨r, es, hr⟩ := szF_eq l0 l1 1048576 h0 h1 (by omega) (by omega)
  refine ev_now es (ev_if (fun _ => Ev.now _) (fun h => ?_))
  obtain ⟨q0, q1, _⟩ := hr h
  have t0 := toF_ev l0 l1 q0 q1
  have t2 := toInt64S_ev l2 (by omega)
  have m0 : (l0.map convKnot).length ≤ 1048576 := by simpa using q0
  have m1 : (l1.map convBar).length ≤ 1048576 := by simpa using q1
  obtain ⟨v, e1, e2⟩ := key (l0.map convKnot) (l1.map convBar) l2 (by omega)
  refine Ev.bind t0 (Ev.bind t2 (Ev.bind e1 (Ev.bind t0 (Ev.bind t2 (Ev.bind e2 (ev_neg (by simp) ?_))))))
  rw [show (v.2 != v.2) = false by simp]
  refine ev_succ ?_; simp only [laws_FnExactIsStiff.j0]
  exact ev_neg (by simp) (Ev.bind t0 (Ev.bind (eqF_self _ _ m0 m1) (ev_pos (by trivial) (Ev.bind t2 (Ev.bind (eqInt64S_self l2 (by omega)) (ev_pos (by trivial) (Ev.now _)))))))

end Go.Proofs.Ytebbdadpgapobaa.PureFnExactIsStiff
namespace Go.Proofs.Ytebbdadpgapobaa.Pure
open Go.Proofs.Ytebbdadpgapobaa.HEl
theorem FnExactIsStiff : laws_FnExactIsStiff.Pure := PureFnExactIsStiff.FnExactIsStiff
end Go.Proofs.Ytebbdadpgapobaa.Pure
