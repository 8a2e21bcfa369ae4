/- The program's function answers as the statement says. Conditions: none beyond the given statement's own. -/
import Derived.Test.YtdhdokhfgadikaaHFnExactPartTensionsx6
import Derived.Test.YtdhdokhfgadikaaLib
import Derived.Test.YtdhdokhfgadikaaLibRat
set_option linter.unusedVariables false
set_option linter.unusedSimpArgs false
namespace Go.Proofs.Ytdhdokhfgadikaa.PureFnExactPartTensions
open Go.RowKit Go.Proofs.Ytdhdokhfgadikaa.HFnExactPartTensions Go.Proofs.YtdhdokhfgadikaaW.PrintWords Go.Proofs.YtdhdokhfgadikaaW.PrintLast Go.Proofs.YtdhdokhfgadikaaW.PrintMore Go.Proofs.Ytdhdokhfgadikaa.Lib
theorem rdEFraction {xs : List S35} {i : Nat} (h : i < xs.length) : rd_T35 xs (i : Int) = xs[i] := by
  unfold rd_T35; simp [List.getD_eq_getElem?_getD, h]
theorem eqFraction_self (x : S35) : laws_eqFraction.f x.f0 x.f1 x.f0 x.f1 = some true := by
  simp [laws_eqFraction.f]
theorem eqFractionS_l0 (x0 : List S35) (hn : x0.length ≤ 1048576) : ∀ (d i : Nat), i + d = x0.length → Ev (fun k => laws_eqFractionS.l0 k x0 x0 (i : Int)) true
  | 0, i, hd => by
    refine ev_succ ?_
    simp only [laws_eqFractionS.l0]
    exact ev_neg (by omega) (Ev.now _)
  | d + 1, i, hd => by
    refine ev_succ ?_
    simp only [laws_eqFractionS.l0]
    refine ev_pos (by omega) (ev_pos (by omega) (ev_pos (by omega) (ev_now (eqFraction_self _) (ev_pos (by trivial) ?_))))
    rw [w64s (by omega)]
    exact eqFractionS_l0 x0 hn d (i + 1) (by omega)
theorem eqFractionS_self (l : List S35) (hn : l.length ≤ 1048576) : Ev (fun k => laws_eqFractionS.f k l l) true := by
  simp only [laws_eqFractionS.f]
  exact ev_pos (by trivial) (eqFractionS_l0 l hn l.length 0 (by omega))

theorem rdKFraction {xs : List S35} {i : Nat} (h : i < xs.length) : rd_T35 xs (i : Int) = xs[i] := by
  unfold rd_T35; simp [List.getD_eq_getElem?_getD, h]
def mksFraction (s : Int) (n : Nat) : List S35 := (List.range n).map fun (j : Nat) => ⟨s + 2 * (j : Int), s + 2 * (j : Int) + 1⟩
theorem mksFraction_length (s : Int) (n : Nat) : (mksFraction s n).length = n := by simp [mksFraction]
theorem mksFraction_get (s : Int) (n i : Nat) (h : i < (mksFraction s n).length) : (mksFraction s n)[i] = ⟨s + 2 * (i : Int), s + 2 * (i : Int) + 1⟩ := by simp [mksFraction]
theorem markFractionS_l0 (s : Int) (h0 : 0 ≤ s) (n : Nat) (hn : s + 2 * n < 4611686018427387904) : ∀ (d i : Nat) (x0 : List S35), i + d = n → x0.length = n → x0.take i = (mksFraction s n).take i →
    Ev (fun k => laws_markFractionS.l0 k x0 (s + 2 * i) (i : Int)) (s + 2 * n, mksFraction s n)
  | 0, i, x0, hd, hl, ht => by
    refine ev_succ ?_
    simp only [laws_markFractionS.l0]
    refine ev_neg (by omega) (ev_some ?_)
    rw [List.take_of_length_le (by omega), List.take_of_length_le (by rw [mksFraction_length]; omega)] at ht
    rw [ht]; congr 1; omega
  | d + 1, i, x0, hd, hl, ht => by
    refine ev_succ ?_
    simp only [laws_markFractionS.l0]
    refine ev_pos (by omega) (ev_pos (by omega) (ev_now rfl ?_))
    rw [w64s (by omega), w64 (x := s + 2 * (i : Int) + 1) (by omega) (by omega), w64 (x := s + 2 * (i : Int) + 1 + 1) (by omega) (by omega), Int.toNat_natCast, rdKFraction (xs := x0.set i _) (by simp; omega)]
    have e : s + 2 * (i : Int) + 1 + 1 = s + 2 * ((i + 1 : Nat) : Int) := by omega
    rw [e, List.set_set, List.getElem_set_self]
    refine markFractionS_l0 s h0 n hn d (i + 1) _ (by omega) (by simpa using hl) (take_set _ _ _ _ (by omega) (by rw [mksFraction_length]; omega) ht ?_)
    rw [mksFraction_get]
theorem markFractionS_ev (l : List S35) (s : Int) (h0 : 0 ≤ s) (hn : s + 2 * l.length < 4611686018427387904) :
    Ev (fun k => laws_markFractionS.f k l s) (s + 2 * l.length, mksFraction s l.length) := by
  simp only [laws_markFractionS.f]
  have := markFractionS_l0 s h0 l.length hn l.length 0 l (by omega) rfl (by simp)
  simpa using this
theorem heldFractionS_l0 (s : Int) (h0 : 0 ≤ s) (n : Nat) (hn : s + 2 * n < 4611686018427387904) : ∀ (d i : Nat), i + d = n →
    Ev (fun k => laws_heldFractionS.l0 k (mksFraction s n) (s + 2 * i) (i : Int)) (s + 2 * n)
  | 0, i, hd => by
    refine ev_succ ?_
    simp only [laws_heldFractionS.l0]
    refine ev_neg (by rw [mksFraction_length]; omega) (ev_some ?_)
    omega
  | d + 1, i, hd => by
    refine ev_succ ?_
    simp only [laws_heldFractionS.l0]
    rw [rdKFraction (by rw [mksFraction_length]; omega), mksFraction_get, w64s (by omega), w64 (x := s + 2 * (i : Int) + 1) (by omega) (by omega), w64 (x := s + 2 * (i : Int) + 1 + 1) (by omega) (by omega)]
    refine ev_pos (by rw [mksFraction_length]; omega) (ev_pos (by omega) (ev_pos rfl (ev_pos rfl ?_)))
    have e : s + 2 * (i : Int) + 1 + 1 = s + 2 * ((i + 1 : Nat) : Int) := by omega
    rw [e]
    exact heldFractionS_l0 s h0 n hn d (i + 1) (by omega)
theorem heldFractionS_ev (s : Int) (h0 : 0 ≤ s) (n : Nat) (hn : s + 2 * n < 4611686018427387904) :
    Ev (fun k => laws_heldFractionS.f k (mksFraction s n) s) (s + 2 * n) := by
  simp only [laws_heldFractionS.f]
  have := heldFractionS_l0 s h0 n hn n 0 (by omega)
  simpa using this

theorem l00In_eq (a b c : Int) : spec_l00In.f a b c = some (decide (b ≤ a ∧ a ≤ c)) := by
  unfold spec_l00In.f; by_cases h : a ≥ b <;> simp [h]

theorem within_eq (a b c : Int) : impl_within.f a b c = some (decide (b ≤ a ∧ a ≤ c)) := by
  unfold impl_within.f; by_cases h : a ≥ b <;> simp [h]

def okP (p : S27) : Prop := (0 ≤ p.f0 ∧ p.f0 ≤ 4) ∧ (0 ≤ p.f1 ∧ p.f1 ≤ 4) ∧ 1 ≤ p.f0 + p.f1 ∧ (if p.f2 = true then 0 ≤ p.f1 - p.f0 ∧ p.f1 - p.f0 ≤ 1 else 0 ≤ p.f0 - p.f1 ∧ p.f0 - p.f1 ≤ 1)
instance (p : S27) : Decidable (okP p) := by unfold okP; exact inferInstance
def okPs (t : List S27) : Prop := ∀ p ∈ t, okP p
instance (t : List S27) : Decidable (okPs t) := inferInstanceAs (Decidable (∀ p ∈ t, okP p))
def okT (t : List S27) : Prop := okPs t ∧ 1 ≤ t.length ∧ t.length ≤ 6
instance (t : List S27) : Decidable (okT t) := inferInstanceAs (Decidable (okPs t ∧ 1 ≤ t.length ∧ t.length ≤ 6))
theorem okPs_drop {l : List S27} {i : Nat} (h : i < l.length) : okPs (l.drop i) ↔ okP l[i] ∧ okPs (l.drop (i + 1)) := all_drop h
theorem rdP {xs : List S27} {i : Nat} (h : i < xs.length) : rd_T27 xs (i : Int) = xs[i] := by
  unfold rd_T27; simp [List.getD_eq_getElem?_getD, h]

theorem l05One_ev (p : S27) : Ev (fun k => spec_l05One.f k p.f0 p.f1 p.f2) (decide (okP p), p.f0, p.f1, p.f2) := by
  have jt : Ev (fun k => spec_l05One.j0 k true p.f0 p.f1 p.f2) (false, p.f0, p.f1, p.f2) := by
    refine ev_succ ?_; simp only [spec_l05One.j0]; exact ev_pos (by trivial) (Ev.now _)
  simp only [spec_l05One.f]
  refine ev_now (l00In_eq _ _ _) (ev_if (fun h0 => ev_now (l00In_eq _ _ _) (ev_if (fun h1 => ?_) (fun h1 => ?_))) (fun h0 => ?_))
  · have h0 := of_decide_eq_true h0
    have h1 := of_decide_eq_true h1
    rw [w64 (x := p.f0 + p.f1) (by omega) (by omega)]
    by_cases h2 : p.f0 + p.f1 < 1
    · rw [ofd1 h2, ofd (p := okP p) (fun g => by have := g.2.2.1; omega)]; exact jt
    · rw [ofd h2]
      refine ev_succ ?_; simp only [spec_l05One.j0]
      refine ev_neg (by simp) (ev_if (fun h3 => ?_) (fun h3 => ?_))
      · rw [w64 (x := p.f1 - p.f0) (by omega) (by omega)]
        refine ev_now (l00In_eq _ _ _) (ev_some ?_)
        congr 1
        apply decide_eq_decide.2; unfold okP; rw [if_pos h3]
        exact ⟨fun g => ⟨h0, h1, by omega, g⟩, fun g => g.2.2.2⟩
      · rw [w64 (x := p.f0 - p.f1) (by omega) (by omega)]
        refine ev_now (l00In_eq _ _ _) (ev_some ?_)
        congr 1
        apply decide_eq_decide.2; unfold okP; rw [if_neg h3]
        exact ⟨fun g => ⟨h0, h1, by omega, g⟩, fun g => g.2.2.2⟩
  · rw [ofd (p := okP p) (fun g => h1 (ofd1 g.2.1))]; exact jt
  · rw [ofd (p := okP p) (fun g => h0 (ofd1 g.1))]; exact jt

theorem l05One_at_ev (p : S27) : Ev (fun k => spec_l05One_at.f k p.f0 p.f1 p.f2) (decide (okP p)) := by
  simp only [spec_l05One_at.f]
  exact Ev.bind (l05One_ev p) (Ev.now _)
theorem l05Ok_l0 (x0 : List S27) (hn : x0.length ≤ 35184372088832) : ∀ (d i : Nat), i + d = x0.length → (okPs (x0.drop i) → okPs x0) →
    Ev (fun k => spec_l05Ok.l0 k x0 (i : Int)) (decide (okT x0))
  | 0, i, hd, hi => by
    refine ev_succ ?_
    simp only [spec_l05Ok.l0]
    have e : x0.drop i = [] := by simp; omega
    have g := hi (by rw [e]; simp [okPs])
    refine ev_neg (by omega) (ev_now (l00In_eq _ _ _) (ev_some ?_))
    apply decide_eq_decide.2; unfold okT; exact ⟨fun q => ⟨g, by omega, by omega⟩, fun q => by omega⟩
  | d + 1, i, hd, hi => by
    have hil : i < x0.length := by omega
    refine ev_succ ?_
    simp only [spec_l05Ok.l0]
    rw [rdP hil, w64s (by omega)]
    refine ev_pos (by omega) (ev_pos (by omega) (Ev.bind (l05One_at_ev x0[i]) (ev_if (fun h => ?_) (fun h => ev_some ?_))))
    · refine l05Ok_l0 x0 hn d (i + 1) (by omega) (fun g => hi ?_)
      rw [okPs_drop hil]; exact ⟨of_decide_eq_true h, g⟩
    · symm; apply ofd; intro g; exact h (ofd1 (g.1 _ (List.getElem_mem _)))
theorem l05Ok_ev (t : List S27) (hn : t.length ≤ 35184372088832) : Ev (fun k => spec_l05Ok.f k t) (decide (okT t)) := by
  simp only [spec_l05Ok.f]
  exact l05Ok_l0 t hn t.length 0 (by omega) (by simp)

def shT : List S27 → Int
  | [] => 0
  | p :: t => p.f0 + p.f1 + shT t
theorem shT_bd {t : List S27} (h : okPs t) : (t.length : Int) ≤ shT t ∧ shT t ≤ 8 * t.length := by
  induction t with
  | nil => simp [shT]
  | cons p t ih =>
    have h1 := h p (by simp)
    have h2 := ih (fun q hq => h q (by simp [hq]))
    have h3 := h1.1
    have h4 := h1.2.1
    have h5 := h1.2.2.1
    simp only [shT, List.length_cons]; omega

def codeL (t : List S27) (loss load : Int) : Int := if okT t then (if (0 ≤ loss ∧ loss ≤ 10) ∧ (1 ≤ load ∧ load ≤ 100000) then (if shT t > 9 then 5 else 0) else 2) else 1
theorem codeL_zero {t : List S27} {loss load : Int} (h : codeL t loss load = 0) : okT t ∧ (0 ≤ loss ∧ loss ≤ 10) ∧ (1 ≤ load ∧ load ≤ 100000) ∧ shT t ≤ 9 := by
  unfold codeL at h; split at h
  · split at h
    · split at h
      · omega
      · exact ⟨‹_›, ‹_ ∧ _›.1, ‹_ ∧ _›.2, by omega⟩
    · omega
  · omega
theorem l06Sheaves_l0 (x0 : List S27) (ho : okPs x0) (hl : x0.length ≤ 6) : ∀ (d i : Nat) (s : Int), i + d = x0.length → 0 ≤ s → s ≤ 8 * i →
    Ev (fun k => spec_l06Sheaves.l0 k x0 s (i : Int)) (s + shT (x0.drop i))
  | 0, i, s, hd, h0, h1 => by
    refine ev_succ ?_
    simp only [spec_l06Sheaves.l0]
    have e : x0.drop i = [] := by simp; omega
    refine ev_neg (by omega) (ev_some ?_)
    rw [e]; simp [shT]
  | d + 1, i, s, hd, h0, h1 => by
    have hi : i < x0.length := by omega
    have hp := ho _ (List.getElem_mem hi)
    have hp1 := hp.1
    have hp2 := hp.2.1
    refine ev_succ ?_
    simp only [spec_l06Sheaves.l0]
    rw [rdP hi, w64s (by omega), w64 (x := x0[i].f0 + x0[i].f1) (by omega) (by omega), w64 (x := s + (x0[i].f0 + x0[i].f1)) (by omega) (by omega), List.drop_eq_getElem_cons hi]
    refine ev_pos (by omega) (ev_pos (by omega) ?_)
    have := l06Sheaves_l0 x0 ho hl d (i + 1) (s + (x0[i].f0 + x0[i].f1)) (by omega) (by omega) (by omega)
    have e : s + shT (x0[i] :: x0.drop (i + 1)) = s + (x0[i].f0 + x0[i].f1) + shT (x0.drop (i + 1)) := by simp only [shT]; omega
    rw [e]; exact this
theorem l06Code_ev (t : List S27) (hn : t.length ≤ 35184372088832) (loss load : Int) : Ev (fun k => spec_l06Code.f k t loss load) (codeL t loss load) := by
  have j2 : Ev (fun k => spec_l06Code.j0 k t true) 2 := by
    refine ev_succ ?_; simp only [spec_l06Code.j0]; exact ev_pos (by trivial) (Ev.now _)
  have eL : spec_l06Loss.f loss = some (decide (0 ≤ loss ∧ loss ≤ 10)) := by simp [spec_l06Loss.f, l00In_eq]
  have eF : spec_l06Lift.f load = some (decide (1 ≤ load ∧ load ≤ 100000)) := by simp [spec_l06Lift.f, l00In_eq]
  simp only [spec_l06Code.f]
  refine Ev.bind (l05Ok_ev t hn) (ev_if (fun h => ?_) (fun h => ev_some ?_))
  · have ht := of_decide_eq_true h
    unfold codeL; rw [if_pos ht]
    refine ev_now eL (ev_if (fun h1 => ev_now eF ?_) (fun h1 => ?_))
    · have h1 := of_decide_eq_true h1
      by_cases h2 : 1 ≤ load ∧ load ≤ 100000
      · rw [ofd1 h2, if_pos ⟨h1, h2⟩]
        have e := l06Sheaves_l0 t ht.1 ht.2.2 t.length 0 0 (by omega) (by omega) (by omega)
        rw [List.drop_zero, Int.zero_add] at e
        refine ev_succ ?_; simp only [spec_l06Code.j0, spec_l06Sheaves.f]
        refine ev_neg (by simp) (Ev.bind e (ev_if (fun h3 => ev_some ?_) (fun h3 => ev_some ?_)))
        · rw [if_pos h3]
        · rw [if_neg h3]
      · rw [ofd h2, if_neg (fun g => h2 g.2)]; exact j2
    · rw [if_neg (fun g => h1 (ofd1 g.1))]; exact j2
  · unfold codeL; rw [if_neg (fun g => h (ofd1 g))]

theorem validPurchase_ev (p : S27) : Ev (fun k => impl_ValidPurchase.f k p.f0 p.f1 p.f2) (decide (okP p)) := by
  have jt : Ev (fun k => impl_ValidPurchase.j0 k true p.f0 p.f1 p.f2) false := by
    refine ev_succ ?_; simp only [impl_ValidPurchase.j0]; exact ev_pos (by trivial) (Ev.now _)
  simp only [impl_ValidPurchase.f]
  refine ev_now (within_eq _ _ _) (ev_if (fun h0 => ev_now (within_eq _ _ _) (ev_if (fun h1 => ?_) (fun h1 => ?_))) (fun h0 => ?_))
  · have h0 := of_decide_eq_true h0
    have h1 := of_decide_eq_true h1
    rw [w64 (x := p.f0 + p.f1) (by omega) (by omega)]
    by_cases h2 : p.f0 + p.f1 = 0
    · rw [beq_iff_eq.2 h2, ofd (p := okP p) (fun g => by have := g.2.2.1; omega)]; exact jt
    · rw [beq_eq_false_iff_ne.2 h2]
      refine ev_succ ?_; simp only [impl_ValidPurchase.j0]
      refine ev_neg (by simp) (ev_if (fun h3 => ?_) (fun h3 => ?_))
      · rw [w64 (x := p.f1 - p.f0) (by omega) (by omega)]
        refine ev_now (within_eq _ _ _) (ev_some ?_)
        apply decide_eq_decide.2; unfold okP; rw [if_pos h3]
        exact ⟨fun g => ⟨h0, h1, by omega, g⟩, fun g => g.2.2.2⟩
      · rw [w64 (x := p.f0 - p.f1) (by omega) (by omega)]
        refine ev_now (within_eq _ _ _) (ev_some ?_)
        apply decide_eq_decide.2; unfold okP; rw [if_neg h3]
        exact ⟨fun g => ⟨h0, h1, by omega, g⟩, fun g => g.2.2.2⟩
  · rw [ofd (p := okP p) (fun g => h1 (ofd1 g.2.1))]; exact jt
  · rw [ofd (p := okP p) (fun g => h0 (ofd1 g.1))]; exact jt
theorem validTackle_l0 (x0 : List S27) (h1 : 1 ≤ x0.length) (h6 : x0.length ≤ 6) : ∀ (d i : Nat), i + d = x0.length → (okPs (x0.drop i) → okPs x0) →
    Ev (fun k => impl_ValidTackle.l0 k x0 (x0.length : Int) (i : Int)) (decide (okT x0))
  | 0, i, hd, hi => by
    refine ev_succ ?_
    simp only [impl_ValidTackle.l0]
    have e : x0.drop i = [] := by simp; omega
    have g := hi (by rw [e]; simp [okPs])
    exact ev_neg (by omega) (ev_some (ofd1 (p := okT x0) ⟨g, h1, h6⟩).symm)
  | d + 1, i, hd, hi => by
    have hil : i < x0.length := by omega
    refine ev_succ ?_
    simp only [impl_ValidTackle.l0]
    rw [rdP hil, w64s (by omega)]
    refine ev_pos (by omega) (ev_pos (by omega) (ev_pos (by omega) (Ev.bind (validPurchase_ev x0[i]) (ev_if (fun h => ?_) (fun h => ev_some ?_)))))
    · refine validTackle_l0 x0 h1 h6 d (i + 1) (by omega) (fun g => hi ?_)
      rw [okPs_drop hil]; exact ⟨of_decide_eq_true h, g⟩
    · symm; apply ofd; intro g; exact h (ofd1 (g.1 _ (List.getElem_mem _)))
theorem validTackle_ev (t : List S27) : Ev (fun k => impl_ValidTackle.f k t) (decide (okT t)) := by
  have jt : Ev (fun k => impl_ValidTackle.j0 k t true) false := by
    refine ev_succ ?_; simp only [impl_ValidTackle.j0]; exact ev_pos (by trivial) (Ev.now _)
  simp only [impl_ValidTackle.f]
  refine ev_if (fun h => ?_) (fun h => ?_)
  · rw [ofd (p := okT t) (fun g => by have := g.2.1; omega)]; exact jt
  · by_cases h6 : (t.length : Int) > 6
    · rw [ofd1 h6, ofd (p := okT t) (fun g => by have := g.2.2; omega)]; exact jt
    · rw [ofd h6]
      refine ev_succ ?_; simp only [impl_ValidTackle.j0]
      exact ev_neg (by simp) (validTackle_l0 t (by omega) (by omega) t.length 0 (by omega) (by simp))

theorem sheavesOf_l0 (x0 : List S27) (ho : okPs x0) (hl : x0.length ≤ 6) : ∀ (d i : Nat) (s : Int), i + d = x0.length → 0 ≤ s → s ≤ 8 * i →
    Ev (fun k => impl_sheavesOf.l0 k s x0 (x0.length : Int) (i : Int)) (s + shT (x0.drop i))
  | 0, i, s, hd, h0, h1 => by
    refine ev_succ ?_
    simp only [impl_sheavesOf.l0]
    have e : x0.drop i = [] := by simp; omega
    refine ev_neg (by omega) (ev_some ?_)
    rw [e]; simp [shT]
  | d + 1, i, s, hd, h0, h1 => by
    have hi : i < x0.length := by omega
    have hp := ho _ (List.getElem_mem hi)
    have hp1 := hp.1
    have hp2 := hp.2.1
    refine ev_succ ?_
    simp only [impl_sheavesOf.l0]
    rw [rdP hi, w64s (by omega), w64 (x := x0[i].f0 + x0[i].f1) (by omega) (by omega), w64 (x := s + (x0[i].f0 + x0[i].f1)) (by omega) (by omega), List.drop_eq_getElem_cons hi]
    refine ev_pos (by omega) (ev_pos (by omega) (ev_pos (by omega) ?_))
    have := sheavesOf_l0 x0 ho hl d (i + 1) (s + (x0[i].f0 + x0[i].f1)) (by omega) (by omega) (by omega)
    have e : s + shT (x0[i] :: x0.drop (i + 1)) = s + (x0[i].f0 + x0[i].f1) + shT (x0.drop (i + 1)) := by simp only [shT]; omega
    rw [e]; exact this
theorem sheavesOf_ev (t : List S27) (h : okT t) : Ev (fun k => impl_sheavesOf.f k t) (shT t) := by
  have e := sheavesOf_l0 t h.1 h.2.2 t.length 0 0 (by omega) (by omega) (by omega)
  rw [List.drop_zero, Int.zero_add] at e
  simp only [impl_sheavesOf.f]; exact e
/-- The code of several tackles: all are looked at for their form first, then the numbers, then for their sheaves. -/
def codeR : List (List S27) → Int → Int → Int := fun ts loss load =>
  if (∀ t ∈ ts, okT t) then (if (0 ≤ loss ∧ loss ≤ 10) ∧ (1 ≤ load ∧ load ≤ 100000) then (if ∀ t ∈ ts, shT t ≤ 9 then 0 else 5) else 2) else 1
theorem rough_l1 (ts : List (List S27)) (hn : ts.length ≤ 100) (ho : ∀ t ∈ ts, okT t) : ∀ (d i : Nat), i + d = ts.length → ((∀ t ∈ ts.drop i, shT t ≤ 9) → ∀ t ∈ ts, shT t ≤ 9) →
    Ev (fun k => impl_roughCode.l1 k ts (ts.length : Int) (i : Int)) (if ∀ t ∈ ts, shT t ≤ 9 then 0 else 5)
  | 0, i, hd, hi => by
    refine ev_succ ?_
    simp only [impl_roughCode.l1]
    have e : ts.drop i = [] := by simp; omega
    have g := hi (by rw [e]; simp)
    refine ev_neg (by omega) (ev_some ?_)
    rw [if_pos g]
  | d + 1, i, hd, hi => by
    have hil : i < ts.length := by omega
    have er : rd_L4 ts (i : Int) = ts[i] := by unfold rd_L4; simp [List.getD_eq_getElem?_getD, hil]
    refine ev_succ ?_
    simp only [impl_roughCode.l1]
    rw [er, w64s (by omega)]
    refine ev_pos (by omega) (ev_pos (by omega) (ev_pos (by omega) (Ev.bind (sheavesOf_ev _ (ho _ (List.getElem_mem hil))) (ev_if (fun h => ev_some ?_) (fun h => ?_)))))
    · rw [if_neg]; intro g; have := g _ (List.getElem_mem hil); omega
    · refine rough_l1 ts hn ho d (i + 1) (by omega) (fun g => hi ?_)
      rw [all_drop hil]; exact ⟨by omega, g⟩
theorem rough_l0 (ts : List (List S27)) (hn : ts.length ≤ 100) (loss load : Int) : ∀ (d i : Nat), i + d = ts.length → ((∀ t ∈ ts.drop i, okT t) → ∀ t ∈ ts, okT t) →
    Ev (fun k => impl_roughCode.l0 k loss load ts ts (ts.length : Int) (i : Int)) (codeR ts loss load)
  | 0, i, hd, hi => by
    refine ev_succ ?_
    simp only [impl_roughCode.l0]
    have e : ts.drop i = [] := by simp; omega
    have g := hi (by rw [e]; simp)
    have j2 : Ev (fun k => impl_roughCode.j1 k ts true) 2 := by
      refine ev_succ ?_; simp only [impl_roughCode.j1]; exact ev_pos (by trivial) (Ev.now _)
    unfold codeR; rw [if_pos g]
    refine ev_neg (by omega) (ev_now (within_eq _ _ _) (ev_if (fun h1 => ev_now (within_eq _ _ _) ?_) (fun h1 => ?_)))
    · have h1 := of_decide_eq_true h1
      by_cases h2 : 1 ≤ load ∧ load ≤ 100000
      · rw [ofd1 h2, if_pos ⟨h1, h2⟩]
        refine ev_succ ?_; simp only [impl_roughCode.j1]
        exact ev_neg (by simp) (rough_l1 ts hn g ts.length 0 (by omega) (by simp))
      · rw [ofd h2, if_neg (fun q => h2 q.2)]; exact j2
    · rw [if_neg (fun q => h1 (ofd1 q.1))]; exact j2
  | d + 1, i, hd, hi => by
    have hil : i < ts.length := by omega
    have er : rd_L4 ts (i : Int) = ts[i] := by unfold rd_L4; simp [List.getD_eq_getElem?_getD, hil]
    refine ev_succ ?_
    simp only [impl_roughCode.l0]
    rw [er, w64s (by omega)]
    refine ev_pos (by omega) (ev_pos (by omega) (ev_pos (by omega) (Ev.bind (validTackle_ev _) (ev_if (fun h => ?_) (fun h => ev_some ?_)))))
    · refine rough_l0 ts hn loss load d (i + 1) (by omega) (fun g => hi ?_)
      rw [all_drop hil]; exact ⟨of_decide_eq_true h, g⟩
    · unfold codeR; rw [if_neg]; intro g; exact h (ofd1 (g _ (List.getElem_mem hil)))
theorem rough_ev (ts : List (List S27)) (hn : ts.length ≤ 100) (loss load : Int) : Ev (fun k => impl_roughCode.f k loss load ts) (codeR ts loss load) := by
  simp only [impl_roughCode.f]
  exact rough_l0 ts hn loss load ts.length 0 (by omega) (by simp)
theorem codeR_one (t : List S27) (loss load : Int) : codeR [t] loss load = codeL t loss load := by
  unfold codeR codeL
  simp only [List.mem_singleton, forall_eq]
  split
  · split
    · by_cases h : shT t ≤ 9
      · rw [if_pos h, if_neg (by omega)]
      · rw [if_neg h, if_pos (by omega)]
    · rfl
  · rfl

theorem impl_gcd_l0 : ∀ (n : Nat) (a b : Int), b.natAbs < n → ∃ r : Int, Ev (fun k => impl_gcd.l0 k a b) r ∧ r.natAbs = Nat.gcd a.natAbs b.natAbs ∧ (0 ≤ a → 0 ≤ b → 0 ≤ r)
  | 0, a, b, h => absurd h (Nat.not_lt_zero _)
  | n + 1, a, b, h => by
    by_cases hb : b = 0
    · subst hb
      refine ⟨a, ev_succ ?_, by simp, fun h0 _ => h0⟩
      simp only [impl_gcd.l0]; exact ev_pos (by trivial) (Ev.now _)
    · have hlt : (Int.tmod a b).natAbs < b.natAbs := by rw [Int.natAbs_tmod]; exact Nat.mod_lt _ (by omega)
      obtain ⟨r, e, hg, hp⟩ := impl_gcd_l0 n b (Int.tmod a b) (by omega)
      refine ⟨r, ev_succ ?_, ?_, fun h0 h1 => hp h1 (Int.tmod_nonneg _ h0)⟩
      · simp only [impl_gcd.l0]; exact ev_neg hb e
      · rw [hg, Int.natAbs_tmod, Nat.gcd_comm a.natAbs, Nat.gcd_rec b.natAbs a.natAbs, Nat.gcd_comm]
theorem impl_gcd_l0' (a b : Int) (h0 : 0 ≤ a) (h1 : 0 ≤ b) : Ev (fun k => impl_gcd.l0 k a b) (Int.gcd a b : Int) := by
  obtain ⟨r, e, hg, hp⟩ := impl_gcd_l0 (b.natAbs + 1) a b (by omega)
  have : r = (Int.gcd a b : Int) := by have := hp h0 h1; unfold Int.gcd; omega
  rw [← this]; exact e

theorem gcd_ev (a b : Int) (ha : -9223372036854775807 ≤ a) (ha' : a ≤ 9223372036854775807) (hb : 0 ≤ b) : Ev (fun k => impl_gcd.f k a b) (Int.gcd a b : Int) := by
  simp only [impl_gcd.f]
  refine ev_if (fun h => ?_) (fun h => ?_)
  · rw [w64 (by omega) (by omega)]
    refine ev_succ ?_; simp only [impl_gcd.j0]
    have := impl_gcd_l0' (-a) b (by omega) hb
    rw [Int.neg_gcd] at this; exact this
  · refine ev_succ ?_; simp only [impl_gcd.j0]
    exact impl_gcd_l0' a b (by omega) hb
theorem fraction_ev (n d : Int) (hn : -9223372036854775807 ≤ n) (hn' : n ≤ 9223372036854775807) (hd : -9223372036854775807 ≤ d) (hd' : d ≤ 9223372036854775807) (h0 : d ≠ 0) :
    Ev (fun k => impl_fraction.f k n d) (fr ((n : Rat) / (d : Rat))) := by
  have pos : ∀ m e : Int, -9223372036854775807 ≤ m → m ≤ 9223372036854775807 → 0 < e → e ≤ 9223372036854775807 →
      Ev (fun k => (impl_gcd.f k m e).bind fun t => if t = 0 then none else some (wrap64 (Int.tdiv m t), wrap64 (Int.tdiv e t))) (fr ((m : Rat) / (e : Rat))) := by
    intro m e hm hm' he he'
    refine Ev.bind (gcd_ev m e hm hm' (by omega)) (ev_neg (by have := gcd_pos (n := m) (d := e) (by omega); omega) (ev_some ?_))
    have f := fr_make (n := m) he
    have b1 := num_le (B := 9223372036854775807) he (r := (m : Rat) / (e : Rat)) rfl (by omega) (by omega)
    have b2 := den_le he (r := (m : Rat) / (e : Rat)) rfl
    have b3 := den_pos ((m : Rat) / (e : Rat))
    have f1 := congrArg Prod.fst f
    have f2 := congrArg Prod.snd f
    simp only [fr] at f1 f2
    rw [f1, f2, w64 (by omega) (by omega), w64 (by omega) (by omega)]; rfl
  simp only [impl_fraction.f]
  refine ev_if (fun h => ?_) (fun h => ?_)
  · rw [w64 (x := -n) (by omega) (by omega), w64 (x := -d) (by omega) (by omega), ← fr_make_neg h]
    exact pos (-n) (-d) (by omega) (by omega) (by omega) (by omega)
  · exact pos n d hn hn' (by omega) hd'

theorem mulFr_ev (a b : Rat) (ha : -9223372036854775807 ≤ a.num) (ha' : a.num ≤ 9223372036854775807) (hb : -9223372036854775807 ≤ b.num) (hb' : b.num ≤ 9223372036854775807)
    (hda : (a.den : Int) ≤ 9223372036854775807) (hdb : (b.den : Int) ≤ 9223372036854775807)
    (h1 : -9223372036854775807 ≤ (a * b).num) (h2 : (a * b).num ≤ 9223372036854775807) (h3 : ((a * b).den : Int) ≤ 9223372036854775807) :
    Ev (fun k => impl_mulFractions.f k a.num a.den b.num b.den) (fr (a * b)) := by
  have pa := den_pos a
  have pb := den_pos b
  have e1 := fraction_ev a.num b.den ha ha' (by omega) hdb (by omega)
  have e2 := fraction_ev b.num a.den hb hb' (by omega) hda (by omega)
  have key := mul_key a b
  simp only [impl_mulFractions.f]
  refine Ev.bind e1 (Ev.bind e2 (ev_some ?_))
  have k1 := congrArg Prod.fst key
  have k2 := congrArg Prod.snd key
  simp only [fr] at k1 k2 ⊢
  have pd := den_pos (a * b)
  rw [← k1, ← k2, w64 (by omega) (by omega), w64 (by omega) (by omega)]

theorem spec_l00Gcd_l0 : ∀ (n : Nat) (a b : Int), b.natAbs < n → ∃ r : Int, Ev (fun k => spec_l00Gcd.l0 k a b) r ∧ r.natAbs = Nat.gcd a.natAbs b.natAbs ∧ (0 ≤ a → 0 ≤ b → 0 ≤ r)
  | 0, a, b, h => absurd h (Nat.not_lt_zero _)
  | n + 1, a, b, h => by
    by_cases hb : b = 0
    · subst hb
      refine ⟨a, ev_succ ?_, by simp, fun h0 _ => h0⟩
      simp only [spec_l00Gcd.l0]; exact ev_pos (by trivial) (Ev.now _)
    · have hlt : (Int.tmod a b).natAbs < b.natAbs := by rw [Int.natAbs_tmod]; exact Nat.mod_lt _ (by omega)
      obtain ⟨r, e, hg, hp⟩ := spec_l00Gcd_l0 n b (Int.tmod a b) (by omega)
      refine ⟨r, ev_succ ?_, ?_, fun h0 h1 => hp h1 (Int.tmod_nonneg _ h0)⟩
      · simp only [spec_l00Gcd.l0]; exact ev_neg hb e
      · rw [hg, Int.natAbs_tmod, Nat.gcd_comm a.natAbs, Nat.gcd_rec b.natAbs a.natAbs, Nat.gcd_comm]
theorem spec_l00Gcd_l0' (a b : Int) (h0 : 0 ≤ a) (h1 : 0 ≤ b) : Ev (fun k => spec_l00Gcd.l0 k a b) (Int.gcd a b : Int) := by
  obtain ⟨r, e, hg, hp⟩ := spec_l00Gcd_l0 (b.natAbs + 1) a b (by omega)
  have : r = (Int.gcd a b : Int) := by have := hp h0 h1; unfold Int.gcd; omega
  rw [← this]; exact e

theorem make_ev (n d : Int) (hn : -9223372036854775807 ≤ n) (hn' : n ≤ 9223372036854775807) (hd : 0 < d) (hd' : d ≤ 9223372036854775807) :
    Ev (fun k => spec_l01Make.f k n d) (fr ((n : Rat) / (d : Rat))) := by
  have es : spec_l00Size.f n = some (n.natAbs : Int) := by
    unfold spec_l00Size.f
    by_cases h : n < 0
    · rw [if_pos h, w64 (by omega) (by omega)]; congr 1; omega
    · rw [if_neg h]; congr 1; omega
  have eg := spec_l00Gcd_l0' (n.natAbs : Int) d (by omega) (by omega)
  have egg : Int.gcd (n.natAbs : Int) d = Int.gcd n d := by simp [Int.gcd]
  rw [egg] at eg
  simp only [spec_l01Make.f, spec_l00Gcd.f]
  refine ev_now es (Ev.bind eg (ev_neg (by have := gcd_pos (n := n) (d := d) (by omega); omega) (ev_some ?_)))
  have f := fr_make (n := n) hd
  have b1 := num_le (B := 9223372036854775807) hd (r := (n : Rat) / (d : Rat)) rfl (by omega) (by omega)
  have b2 := den_le hd (r := (n : Rat) / (d : Rat)) rfl
  have b3 := den_pos ((n : Rat) / (d : Rat))
  have f1 := congrArg Prod.fst f
  have f2 := congrArg Prod.snd f
  simp only [fr] at f1 f2
  rw [f1, f2, w64 (by omega) (by omega), w64 (by omega) (by omega)]; rfl

/-- The sum of the parts' tensions ahead of part i, times the i-th power of D. -/
def gA (U D : Int) (away : Bool) : Nat → Int
  | 0 => 0
  | i + 1 => (gA U D away i + if (decide (0 < i) || away) = true then U ^ i else 0) * D
def gN (U D : Int) (away : Bool) (n : Nat) : Int := gA U D away n + if (decide (0 < n) || away) = true then U ^ n else 0
theorem pow_bd {U : Int} (h : 10 ≤ U ∧ U ≤ 20) : ∀ i : Nat, 1 ≤ U ^ i ∧ U ^ i ≤ 20 ^ i
  | 0 => by simp
  | i + 1 => by
    have ih := pow_bd h i
    rw [Int.pow_succ, Int.pow_succ]
    constructor
    · have := Int.mul_le_mul ih.1 h.1 (by omega) (by omega); omega
    · exact Int.mul_le_mul ih.2 h.2 (by omega) (by have := ih.1; omega)
theorem gA_bd {U D : Int} (hU : 10 ≤ U ∧ U ≤ 20) (hD : 10 ≤ D ∧ D ≤ 20) (away : Bool) : ∀ i : Nat, 0 ≤ gA U D away i ∧ gA U D away i ≤ i * 20 ^ i
  | 0 => by simp [gA]
  | i + 1 => by
    have ih := gA_bd hU hD away i
    have hp := pow_bd hU i
    have h1 : 0 ≤ gA U D away i + (if (decide (0 < i) || away) = true then U ^ i else 0) ∧ gA U D away i + (if (decide (0 < i) || away) = true then U ^ i else 0) ≤ (i + 1 : Nat) * 20 ^ i := by
      have e : ((i + 1 : Nat) : Int) * 20 ^ i = (i : Int) * 20 ^ i + 20 ^ i := by
        rw [Int.natCast_add, Int.add_mul]; simp
      rw [e]
      split <;> omega
    rw [gA]
    constructor
    · exact Int.mul_nonneg h1.1 (by omega)
    · have := Int.mul_le_mul h1.2 hD.2 (by omega) (by omega)
      rw [Int.pow_succ, ← Int.mul_assoc]; exact this
theorem gN_bd {U D : Int} (hU : 10 ≤ U ∧ U ≤ 20) (hD : 10 ≤ D ∧ D ≤ 20) (away : Bool) (n : Nat) (hn : 1 ≤ n) : 1 ≤ gN U D away n ∧ gN U D away n ≤ 40 ^ n := by
  have h1 := gA_bd hU hD away n
  have h2 := pow_bd hU n
  have h3 : ((n + 1 : Nat) : Int) * 20 ^ n ≤ 40 ^ n := by
    have e : (40 : Int) ^ n = 2 ^ n * 20 ^ n := by
      rw [← Int.mul_pow]; congr 1
    rw [e]
    apply Int.mul_le_mul_of_nonneg_right
    · have : ∀ m : Nat, ((m + 1 : Nat) : Int) ≤ 2 ^ m := by
        intro m; induction m with
        | zero => simp
        | succ m ih => rw [Int.pow_succ]; omega
      exact this n
    · exact Int.le_of_lt (Int.pow_pos (by omega))
  have e : ((n + 1 : Nat) : Int) * 20 ^ n = (n : Int) * 20 ^ n + 20 ^ n := by
    rw [Int.natCast_add, Int.add_mul]; simp
  unfold gN
  have hn' : (decide (0 < n) || away) = true := by simp; omega
  rw [if_pos hn']
  omega
theorem p20 : (20 : Int) ^ 9 = 512000000000 := by decide
theorem p40 : (40 : Int) ^ 9 = 262144000000000 := by decide
theorem pow_le9 {a : Int} (ha : 1 ≤ a) {i : Nat} (hi : i ≤ 9) : a ^ i ≤ a ^ 9 := by
  have h : ∀ j : Nat, 1 ≤ a ^ j := by
    intro j; induction j with
    | zero => simp
    | succ j ih => rw [Int.pow_succ]; have := Int.mul_le_mul ih ha (by omega) (by omega); omega
  obtain ⟨d, hd⟩ : ∃ d, 9 = i + d := ⟨9 - i, by omega⟩
  rw [hd, Int.pow_add]
  have := Int.mul_le_mul (Int.le_refl (a ^ i)) (h d) (by omega) (by have := h i; omega)
  omega
/-- How many parts more than the first a purchase has. -/
def nP (p : S27) : Nat := (p.f0 + p.f1).toNat
theorem nP_eq {p : S27} (h : okP p) : ((nP p : Nat) : Int) = p.f0 + p.f1 ∧ 1 ≤ nP p ∧ nP p ≤ 8 := by
  have h1 := h.1
  have h2 := h.2.1
  have h3 := h.2.2.1
  unfold nP; omega
def sP (U D : Int) (p : S27) : Rat := ((gN U D p.f2 (nP p) : Int) : Rat) / ((D ^ nP p : Int) : Rat)
/-- A tackle's gain: numerator and denominator, not in lowest terms, and the number itself. -/
def nT (U D : Int) : List S27 → Int
  | [] => 1
  | p :: t => gN U D p.f2 (nP p) * nT U D t
def eT (D : Int) : List S27 → Int
  | [] => 1
  | p :: t => D ^ nP p * eT D t
def gT (U D : Int) : List S27 → Rat
  | [] => 1
  | p :: t => sP U D p * gT U D t
def mT : List S27 → Nat
  | [] => 0
  | p :: t => nP p + mT t
theorem mT_eq {t : List S27} (h : okPs t) : ((mT t : Nat) : Int) = shT t := by
  induction t with
  | nil => rfl
  | cons p t ih =>
    have h1 := nP_eq (h p (by simp))
    have h2 := ih (fun q hq => h q (by simp [hq]))
    simp only [mT, shT]; omega
theorem gT_eq {U D : Int} (hD : 10 ≤ D ∧ D ≤ 20) (t : List S27) : gT U D t = ((nT U D t : Int) : Rat) / ((eT D t : Int) : Rat) := by
  induction t with
  | nil => simp [gT, nT, eT]; grind
  | cons p t ih =>
    have z : ∀ l : List S27, eT D l ≠ 0 := by
      intro l; induction l with
      | nil => simp [eT]
      | cons q l ih => rw [eT]; have := pow_bd hD (nP q); exact Int.mul_ne_zero (by omega) ih
    have z1 := ne0 (z t)
    have z2 := ne0 (d := D ^ nP p) (by have := pow_bd hD (nP p); omega)
    simp only [gT, nT, eT, ih, sP]
    rw [castI, castI]
    grind
theorem nT_bd {U D : Int} (hU : 10 ≤ U ∧ U ≤ 20) (hD : 10 ≤ D ∧ D ≤ 20) (t : List S27) (h : okPs t) : (1 ≤ nT U D t ∧ nT U D t ≤ 40 ^ mT t) ∧ (1 ≤ eT D t ∧ eT D t ≤ 20 ^ mT t) := by
  induction t with
  | nil => simp [nT, eT, mT]
  | cons p t ih =>
    have ih := ih (fun q hq => h q (by simp [hq]))
    have h1 := gN_bd hU hD p.f2 (nP p) (nP_eq (h p (by simp))).2.1
    have h2 := pow_bd hD (nP p)
    simp only [nT, eT, mT]
    rw [Int.pow_add, Int.pow_add]
    refine ⟨⟨?_, ?_⟩, ?_, ?_⟩
    · have := Int.mul_le_mul h1.1 ih.1.1 (by omega) (by omega); omega
    · exact Int.mul_le_mul h1.2 ih.1.2 (by omega) (by have := h1.1; omega)
    · have := Int.mul_le_mul h2.1 ih.2.1 (by omega) (by omega); omega
    · exact Int.mul_le_mul h2.2 ih.2.2 (by omega) (by have := h2.1; omega)
/-- What is known of a gain with few sheaves. -/
theorem gT_bd {U D : Int} (hU : 10 ≤ U ∧ U ≤ 20) (hD : 10 ≤ D ∧ D ≤ 20) (t : List S27) (h : okPs t) (hs : mT t ≤ 9) :
    1 ≤ (gT U D t).num ∧ (gT U D t).num ≤ 262144000000000 ∧ ((gT U D t).den : Int) ≤ 512000000000 := by
  have hb := nT_bd hU hD t h
  have e := gT_eq (U := U) hD t
  have b1 := pow_le9 (a := 40) (by omega) hs
  have b2 := pow_le9 (a := 20) (by omega) hs
  rw [p40] at b1
  rw [p20] at b2
  obtain ⟨m, hm, e1, e2⟩ := num_scale (by omega) e
  have l1 := num_le (B := 262144000000000) (by omega) e (by omega) (by omega)
  have l2 := den_le (by omega) e
  refine ⟨?_, l1.2, by omega⟩
  rcases Int.lt_or_le 0 (gT U D t).num with h' | h'
  · omega
  · have := Int.mul_nonpos_of_nonneg_of_nonpos (a := m) (b := (gT U D t).num) (by omega) h'
    rw [Int.mul_comm] at this; omega
theorem gT_append (U D : Int) (a b : List S27) : gT U D (a ++ b) = gT U D a * gT U D b := by
  induction a with
  | nil => simp [gT]
  | cons p a ih => simp only [List.cons_append, gT, ih]; grind
theorem mT_append (a b : List S27) : mT (a ++ b) = mT a + mT b := by
  induction a with
  | nil => simp [mT]
  | cons p a ih => simp only [List.cons_append, mT, ih]; omega

def ptT (loss force : Int) (i : Nat) : Rat := ((force * (20 - loss) ^ i : Int) : Rat) / ((20 ^ i : Int) : Rat)
theorem ptT_succ (loss force : Int) (i : Nat) : ptT loss force i * (((20 - loss : Int) : Rat) / ((20 : Int) : Rat)) = ptT loss force (i + 1) := by
  have z1 := ne0 (d := (20 : Int)) (by omega)
  have z2 := ne0 (d := (20 : Int) ^ i) (by have := pow_bd (U := 20) (by omega) i; omega)
  unfold ptT
  rw [Int.pow_succ, Int.pow_succ, castI, castI, castI, castI]
  grind
theorem ptT_bd {loss force : Int} (hl : 0 ≤ loss ∧ loss ≤ 10) (hf : 1 ≤ force ∧ force ≤ 100000) {i : Nat} (hi : i ≤ 9) :
    (-51200000000000000 ≤ (ptT loss force i).num ∧ (ptT loss force i).num ≤ 51200000000000000) ∧ ((ptT loss force i).den : Int) ≤ 512000000000 := by
  have b1 := pow_bd (U := 20 - loss) (by omega) i
  have b2 := pow_bd (U := 20) (by omega) i
  have c1 := pow_le9 (a := 20) (by omega) hi
  rw [p20] at c1
  have m1 : force * (20 - loss) ^ i ≤ 100000 * 512000000000 := Int.mul_le_mul hf.2 (by omega) (by omega) (by omega)
  have m2 : 0 ≤ force * (20 - loss) ^ i := Int.mul_nonneg (by omega) (by omega)
  have := num_le (B := 51200000000000000) (n := force * (20 - loss) ^ i) (d := 20 ^ i) (by omega) (r := ptT loss force i) rfl (by omega) (by omega)
  have := den_le (n := force * (20 - loss) ^ i) (d := 20 ^ i) (by omega) (r := ptT loss force i) rfl
  exact ⟨by assumption, by omega⟩
def ptL (loss force : Int) (n : Nat) : List S35 := (List.range n).map fun j => ⟨(ptT loss force j).num, ((ptT loss force j).den : Int)⟩
theorem ptL_succ (loss force : Int) (n : Nat) : ptL loss force n ++ [⟨(ptT loss force n).num, ((ptT loss force n).den : Int)⟩] = ptL loss force (n + 1) := by
  simp [ptL, List.range_succ]
theorem ptL_len (loss force : Int) (n : Nat) : (ptL loss force n).length = n := by simp [ptL]
theorem spt_l0 (loss force : Int) (hl : 0 ≤ loss ∧ loss ≤ 10) (hf : 1 ≤ force ∧ force ≤ 100000) (p : S27) (hp : okP p) : ∀ (d i : Nat), i + d = nP p + 1 →
    Ev (fun k => spec_PartTensions.l0 k loss (ptL loss force i) (i : Int) p.f0 p.f1 p.f2 (ptT loss force i).num ((ptT loss force i).den : Int)) (ptL loss force (nP p + 1), 0)
  | 0, i, hd => by
    obtain ⟨hn, h1, h8⟩ := nP_eq hp
    have hp0 := hp.1
    have hp1 := hp.2.1
    have : i = nP p + 1 := by omega
    subst this
    refine ev_succ ?_
    simp only [spec_PartTensions.l0]
    rw [w64 (x := p.f0 + p.f1) (by omega) (by omega)]
    exact ev_neg (by omega) (Ev.now _)
  | d + 1, i, hd => by
    obtain ⟨hn, h1, h8⟩ := nP_eq hp
    have hp0 := hp.1
    have hp1 := hp.2.1
    have ih := spt_l0 loss force hl hf p hp d (i + 1) (by omega)
    have b := ptT_bd hl hf (i := i) (by omega)
    have pd := den_pos (ptT loss force i)
    generalize hT : ptT loss force i = T at *
    have m1 : T.num * (20 - loss) ≤ 51200000000000000 * 20 ∧ -(51200000000000000 * 20) ≤ T.num * (20 - loss) := by
      have h : (T.num * (20 - loss)).natAbs ≤ 51200000000000000 * 20 := by
        rw [Int.natAbs_mul]; exact Nat.mul_le_mul (by omega) (by omega)
      omega
    have e1 := make_ev (T.num * (20 - loss)) ((T.den : Int) * 20) (by omega) (by omega) (by omega) (by omega)
    have e2 : ((T.num * (20 - loss) : Int) : Rat) / (((T.den : Int) * 20 : Int) : Rat) = ptT loss force (i + 1) := by
      rw [← ptT_succ, hT, castI, castI]
      have := rat_self T
      have z1 := ne0 (d := (20 : Int)) (by omega)
      have z2 := ne0 (d := (T.den : Int)) (by omega)
      grind
    rw [e2] at e1
    refine ev_succ ?_
    simp only [spec_PartTensions.l0]
    rw [w64 (x := p.f0 + p.f1) (by omega) (by omega), w64s (by omega), w64 (x := 20 - loss) (by omega) (by omega), w64 (x := T.num * (20 - loss)) (by omega) (by omega), w64 (x := (T.den : Int) * 20) (by omega) (by omega)]
    refine ev_pos (by omega) (ev_pos (by rw [ptL_len]; omega) (Ev.bind e1 ?_))
    have e3 := ptL_succ loss force i
    rw [hT] at e3
    rw [e3]; exact ih
theorem ipt_l0 (loss force : Int) (hl : 0 ≤ loss ∧ loss ≤ 10) (hf : 1 ≤ force ∧ force ≤ 100000) (p : S27) (hp : okP p) : ∀ (d i : Nat), i + d = nP p + 1 →
    Ev (fun k => impl_PartTensions.l0 k loss (ptL loss force i) (i : Int) p.f0 p.f1 p.f2 (ptT loss force i).num ((ptT loss force i).den : Int)) (ptL loss force (nP p + 1), 0)
  | 0, i, hd => by
    obtain ⟨hn, h1, h8⟩ := nP_eq hp
    have hp0 := hp.1
    have hp1 := hp.2.1
    have : i = nP p + 1 := by omega
    subst this
    refine ev_succ ?_
    simp only [impl_PartTensions.l0]
    rw [w64 (x := p.f0 + p.f1) (by omega) (by omega)]
    exact ev_neg (by omega) (Ev.now _)
  | d + 1, i, hd => by
    obtain ⟨hn, h1, h8⟩ := nP_eq hp
    have hp0 := hp.1
    have hp1 := hp.2.1
    have ih := ipt_l0 loss force hl hf p hp d (i + 1) (by omega)
    have b := ptT_bd hl hf (i := i) (by omega)
    have b' : (-102400000000000000000 ≤ (ptT loss force (i + 1)).num ∧ (ptT loss force (i + 1)).num ≤ 1024000000000000000) ∧ ((ptT loss force (i + 1)).den : Int) ≤ 10240000000000 ∧ -1024000000000000000 ≤ (ptT loss force (i + 1)).num := by
      have x1 := pow_bd (U := 20 - loss) (by omega) (i + 1)
      have x2 := pow_bd (U := 20) (by omega) (i + 1)
      have x3 := pow_le9 (a := 20) (by omega) (show i ≤ 9 by omega)
      rw [p20] at x3
      have x4 : (20 : Int) ^ (i + 1) = 20 ^ i * 20 := Int.pow_succ 20 i
      have m1 : force * (20 - loss) ^ (i + 1) ≤ 100000 * 10240000000000 := Int.mul_le_mul hf.2 (by omega) (by omega) (by omega)
      have m2 : 0 ≤ force * (20 - loss) ^ (i + 1) := Int.mul_nonneg (by omega) (by omega)
      have y1 := num_le (B := 1024000000000000000) (n := force * (20 - loss) ^ (i + 1)) (d := 20 ^ (i + 1)) (by omega) (r := ptT loss force (i + 1)) rfl (by omega) (by omega)
      have y2 := den_le (n := force * (20 - loss) ^ (i + 1)) (d := 20 ^ (i + 1)) (by omega) (r := ptT loss force (i + 1)) rfl
      omega
    have f1 := fraction_ev (20 - loss) 20 (by omega) (by omega) (by omega) (by omega) (by omega)
    have q1 := num_le (B := 20) (n := 20 - loss) (d := 20) (by omega) (r := ((20 - loss : Int) : Rat) / ((20 : Int) : Rat)) rfl (by omega) (by omega)
    have q2 := den_le (n := 20 - loss) (d := 20) (by omega) (r := ((20 - loss : Int) : Rat) / ((20 : Int) : Rat)) rfl
    have em := mulFr_ev (ptT loss force i) (((20 - loss : Int) : Rat) / ((20 : Int) : Rat)) (by omega) (by omega) (by omega) (by omega) (by omega) (by omega) (by rw [ptT_succ]; omega) (by rw [ptT_succ]; omega) (by rw [ptT_succ]; omega)
    rw [ptT_succ] at em
    refine ev_succ ?_
    simp only [impl_PartTensions.l0]
    rw [w64 (x := p.f0 + p.f1) (by omega) (by omega), w64s (by omega), w64 (x := 20 - loss) (by omega) (by omega)]
    refine ev_pos (by omega) (ev_pos (by rw [ptL_len]; omega) (Ev.bind f1 (Ev.bind em ?_)))
    have e3 := ptL_succ loss force i
    rw [e3]; exact ih
theorem key (p : S27) (a1 a2 : Int) : ∃ r : List S35 × Int, r.1.length ≤ 100 ∧ Ev (fun k => spec_PartTensions.f k p.f0 p.f1 p.f2 a1 a2) r ∧ Ev (fun k => impl_PartTensions.f k p.f0 p.f1 p.f2 a1 a2) r := by
  have es := l06Code_ev [p] (by simp) a1 a2
  have ei := rough_ev [[p]] (by simp) a1 a2
  rw [codeR_one] at ei
  by_cases hz : codeL [p] a1 a2 = 0
  · obtain ⟨h1, h2, h3, h4⟩ := codeL_zero hz
    have hp : okP p := h1.1 p (by simp)
    obtain ⟨hn, g1, g8⟩ := nP_eq hp
    rw [hz] at es ei
    have e0 : ptT a1 a2 0 = ((a2 : Int) : Rat) / ((1 : Int) : Rat) := by simp [ptT]
    have en : (ptT a1 a2 0).num = a2 ∧ ((ptT a1 a2 0).den : Int) = 1 := by
      have := fr_of_coprime (n := a2) (d := 1) (by omega) (by simp)
      rw [← e0] at this
      exact ⟨congrArg Prod.fst this, congrArg Prod.snd this⟩
    have e1 := spt_l0 a1 a2 h2 h3 p hp (nP p + 1) 0 (by omega)
    have e2 := ipt_l0 a1 a2 h2 h3 p hp (nP p + 1) 0 (by omega)
    refine ⟨(ptL a1 a2 (nP p + 1), 0), by rw [ptL_len]; omega, ?_, ?_⟩
    · simp only [spec_PartTensions.f]
      refine Ev.bind es (ev_pos (by trivial) ?_)
      rw [en.1, en.2] at e1
      exact e1
    · simp only [impl_PartTensions.f]
      have f1 := fraction_ev a2 1 (by omega) (by omega) (by omega) (by omega) (by omega)
      rw [← e0] at f1
      exact Ev.bind ei (ev_pos (by trivial) (Ev.bind f1 e2))
  · refine ⟨([], codeL [p] a1 a2), by simp, ?_, ?_⟩
    · simp only [spec_PartTensions.f]; exact Ev.bind es (ev_neg hz (Ev.now _))
    · simp only [impl_PartTensions.f]; exact Ev.bind ei (ev_neg hz (Ev.now _))
theorem FnExactPartTensions : laws_FnExactPartTensions.Pure := by
  intro b0 b1 b2 a1 a2 _ _ _ _
  refine Ev.rounds ?_
  simp only [laws_FnExactPartTensions.f]
  obtain ⟨r, hr, e1, e2⟩ := key ⟨b0, b1, b2⟩ a1 a2
  have er := eqFractionS_self r.1 (by omega)
  have : (r.2 != r.2) = false := by simp
  refine ev_now rfl (Ev.bind e1 (ev_now rfl (Ev.bind e2 (Ev.bind er (ev_pos (by trivial) ?_)))))
  rw [this]
  have em := markFractionS_ev r.1 1 (by omega) (by omega)
  have eh := heldFractionS_ev 1 (by omega) r.1.length (by omega)
  refine ev_succ ?_; simp only [laws_FnExactPartTensions.j0]
  refine ev_neg (by simp) (Ev.bind em (Ev.bind eh (ev_neg (by first | omega | (dsimp only; omega)) (ev_pos rfl (ev_now rfl (Ev.bind e2 (Ev.bind er (ev_pos (by trivial) ?_))))))))
  rw [this]
  refine ev_succ ?_; simp only [laws_FnExactPartTensions.j1]
  exact ev_neg (by simp) (Ev.bind eh (ev_neg (by first | omega | (dsimp only; omega)) (ev_pos rfl (Ev.now _))))

end Go.Proofs.Ytdhdokhfgadikaa.PureFnExactPartTensions
namespace Go.Proofs.Ytdhdokhfgadikaa.Pure
open Go.Proofs.Ytdhdokhfgadikaa.HFnExactPartTensions
theorem FnExactPartTensions : laws_FnExactPartTensions.Pure := PureFnExactPartTensions.FnExactPartTensions
end Go.Proofs.Ytdhdokhfgadikaa.Pure
