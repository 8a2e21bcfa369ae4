/- The program's function answers as the statement says. Conditions: none beyond the given statement's own. -/
import Derived.Test.YtdhdokhfgadikaaHFnExactCompareTacklesx9
import Derived.Test.YtdhdokhfgadikaaLib
import Derived.Test.YtdhdokhfgadikaaLibRat
import Derived.Test.YtdhdokhfgadikaaLibDraw
set_option linter.unusedVariables false
set_option linter.unusedSimpArgs false
namespace Go.Proofs.Ytdhdokhfgadikaa.PureFnExactCompareTackles
open Go.RowKit Go.Proofs.Ytdhdokhfgadikaa.HFnExactCompareTackles Go.Proofs.YtdhdokhfgadikaaW.PrintWords Go.Proofs.YtdhdokhfgadikaaW.PrintLast Go.Proofs.YtdhdokhfgadikaaW.PrintMore Go.Proofs.Ytdhdokhfgadikaa.Lib
theorem szPurchaseS_eq (l : List S23) (n : Int) (hl : l.length ≤ maxLen) (h0 : 0 ≤ n) (h1 : n ≤ 1048576) : laws_szPurchaseS.f l n = some (if n - (l.length : Int) < 0 then -1 else n - (l.length : Int)) := by
  unfold maxLen at hl
  unfold laws_szPurchaseS.f
  rw [w64 (x := n - (l.length : Int)) (by omega) (by omega)]
  split <;> rfl

def convPurchase (x : S23) : S27 := ⟨x.f0, x.f1, x.f2⟩
theorem rdLPurchase {xs : List S23} {i : Nat} (h : i < xs.length) : rd_T23 xs (i : Int) = xs[i] := by
  unfold rd_T23; simp [List.getD_eq_getElem?_getD, h]
theorem rdIPurchase {xs : List S27} {i : Nat} (h : i < xs.length) : rd_T27 xs (i : Int) = xs[i] := by
  unfold rd_T27; simp [List.getD_eq_getElem?_getD, h]
theorem toPurchaseS_l0 (x0 : List S23) (hn : x0.length ≤ 1048576) : ∀ (d i : Nat) (x3 : List S27), i + d = x0.length → x3.length = x0.length → x3.take i = (x0.map convPurchase).take i →
    Ev (fun k => laws_toPurchaseS.l0 k x0 x3 (i : Int)) (x0.map convPurchase)
  | 0, i, x3, hd, hl, ht => by
    refine ev_succ ?_
    simp only [laws_toPurchaseS.l0]
    refine ev_neg (by omega) (ev_some ?_)
    rw [List.take_of_length_le (by omega), List.take_of_length_le (by simp; omega)] at ht; exact ht
  | d + 1, i, x3, hd, hl, ht => by
    refine ev_succ ?_
    simp only [laws_toPurchaseS.l0]
    refine ev_pos (by omega) (ev_pos (by omega) (ev_now rfl (ev_pos (by omega) ?_)))
    rw [w64s (by omega), Int.toNat_natCast, rdLPurchase (by omega)]
    exact toPurchaseS_l0 x0 hn d (i + 1) _ (by omega) (by simpa using hl) (take_set _ _ _ _ (by omega) (by simp; omega) ht (by simp [convPurchase]))
theorem toPurchaseS_ev (l : List S23) (hn : l.length ≤ 1048576) : Ev (fun k => laws_toPurchaseS.f k l) (l.map convPurchase) := by
  simp only [laws_toPurchaseS.f]
  refine ev_pos (by omega) (ev_pos (by omega) ?_)
  exact toPurchaseS_l0 l (by omega) l.length 0 _ (by omega) (by simp) (by simp)

theorem rdEPurchase {xs : List S27} {i : Nat} (h : i < xs.length) : rd_T27 xs (i : Int) = xs[i] := by
  unfold rd_T27; simp [List.getD_eq_getElem?_getD, h]
theorem eqPurchase_self (x : S27) : laws_eqPurchase.f x.f0 x.f1 x.f2 x.f0 x.f1 x.f2 = some true := by
  simp [laws_eqPurchase.f]
theorem eqPurchaseS_l0 (x0 : List S27) (hn : x0.length ≤ 1048576) : ∀ (d i : Nat), i + d = x0.length → Ev (fun k => laws_eqPurchaseS.l0 k x0 x0 (i : Int)) true
  | 0, i, hd => by
    refine ev_succ ?_
    simp only [laws_eqPurchaseS.l0]
    exact ev_neg (by omega) (Ev.now _)
  | d + 1, i, hd => by
    refine ev_succ ?_
    simp only [laws_eqPurchaseS.l0]
    refine ev_pos (by omega) (ev_pos (by omega) (ev_pos (by omega) (ev_now (eqPurchase_self _) (ev_pos (by trivial) ?_))))
    rw [w64s (by omega)]
    exact eqPurchaseS_l0 x0 hn d (i + 1) (by omega)
theorem eqPurchaseS_self (l : List S27) (hn : l.length ≤ 1048576) : Ev (fun k => laws_eqPurchaseS.f k l l) true := by
  simp only [laws_eqPurchaseS.f]
  exact ev_pos (by trivial) (eqPurchaseS_l0 l hn l.length 0 (by omega))


theorem l00In_eq (a b c : Int) : spec_l00In.f a b c = some (decide (b ≤ a ∧ a ≤ c)) := by
  unfold spec_l00In.f; by_cases h : a ≥ b <;> simp [h]

theorem within_eq (a b c : Int) : impl_within.f a b c = some (decide (b ≤ a ∧ a ≤ c)) := by
  unfold impl_within.f; by_cases h : a ≥ b <;> simp [h]

def okP (p : S27) : Prop := (0 ≤ p.f0 ∧ p.f0 ≤ 4) ∧ (0 ≤ p.f1 ∧ p.f1 ≤ 4) ∧ 1 ≤ p.f0 + p.f1 ∧ (if p.f2 = true then 0 ≤ p.f1 - p.f0 ∧ p.f1 - p.f0 ≤ 1 else 0 ≤ p.f0 - p.f1 ∧ p.f0 - p.f1 ≤ 1)
instance (p : S27) : Decidable (okP p) := inferInstanceAs (Decidable ((0 ≤ p.f0 ∧ p.f0 ≤ 4) ∧ (0 ≤ p.f1 ∧ p.f1 ≤ 4) ∧ 1 ≤ p.f0 + p.f1 ∧ (if p.f2 = true then 0 ≤ p.f1 - p.f0 ∧ p.f1 - p.f0 ≤ 1 else 0 ≤ p.f0 - p.f1 ∧ p.f0 - p.f1 ≤ 1)))
def okPs (t : List S27) : Prop := ∀ p ∈ t, okP p
instance (t : List S27) : Decidable (okPs t) := inferInstanceAs (Decidable (∀ p ∈ t, okP p))
def okT (t : List S27) : Prop := okPs t ∧ 1 ≤ t.length ∧ t.length ≤ 6
instance (t : List S27) : Decidable (okT t) := inferInstanceAs (Decidable (okPs t ∧ 1 ≤ t.length ∧ t.length ≤ 6))
theorem okPs_drop {l : List S27} {i : Nat} (h : i < l.length) : okPs (l.drop i) ↔ okP l[i] ∧ okPs (l.drop (i + 1)) := all_drop h
theorem rdP {xs : List S27} {i : Nat} (h : i < xs.length) : rd_T27 xs (i : Int) = xs[i] := by
  unfold rd_T27; simp [List.getD_eq_getElem?_getD, h]

theorem l05One_ev (p : S27) : Ev (fun k => spec_l05One.f k p.f0 p.f1 p.f2) (decide (okP p), p.f0, p.f1, p.f2) := by
  have jt : Ev (fun k => spec_l05One.j0 k true p.f0 p.f1 p.f2) (false, p.f0, p.f1, p.f2) := by
    refine ev_succ ?_; simp only [spec_l05One.j0]; exact ev_pos (by trivial) (Ev.now _)
  simp only [spec_l05One.f]
  refine ev_now (l00In_eq _ _ _) (ev_if (fun h0 => ev_now (l00In_eq _ _ _) (ev_if (fun h1 => ?_) (fun h1 => ?_))) (fun h0 => ?_))
  · have h0 := of_decide_eq_true h0
    have h1 := of_decide_eq_true h1
    rw [w64 (x := p.f0 + p.f1) (by omega) (by omega)]
    by_cases h2 : p.f0 + p.f1 < 1
    · rw [ofd1 h2, ofd (p := okP p) (fun g => by have := g.2.2.1; omega)]; exact jt
    · rw [ofd h2]
      refine ev_succ ?_; simp only [spec_l05One.j0]
      refine ev_neg (by simp) (ev_if (fun h3 => ?_) (fun h3 => ?_))
      · rw [w64 (x := p.f1 - p.f0) (by omega) (by omega)]
        refine ev_now (l00In_eq _ _ _) (ev_some ?_)
        congr 1
        apply decide_eq_decide.2; unfold okP; rw [if_pos h3]
        exact ⟨fun g => ⟨h0, h1, by omega, g⟩, fun g => g.2.2.2⟩
      · rw [w64 (x := p.f0 - p.f1) (by omega) (by omega)]
        refine ev_now (l00In_eq _ _ _) (ev_some ?_)
        congr 1
        apply decide_eq_decide.2; unfold okP; rw [if_neg h3]
        exact ⟨fun g => ⟨h0, h1, by omega, g⟩, fun g => g.2.2.2⟩
  · rw [ofd (p := okP p) (fun g => h1 (ofd1 g.2.1))]; exact jt
  · rw [ofd (p := okP p) (fun g => h0 (ofd1 g.1))]; exact jt

theorem l05One_at_ev (p : S27) : Ev (fun k => spec_l05One_at.f k p.f0 p.f1 p.f2) (decide (okP p)) := by
  simp only [spec_l05One_at.f]
  exact Ev.bind (l05One_ev p) (Ev.now _)
theorem l05Ok_l0 (x0 : List S27) (hn : x0.length ≤ 35184372088832) : ∀ (d i : Nat), i + d = x0.length → (okPs (x0.drop i) → okPs x0) →
    Ev (fun k => spec_l05Ok.l0 k x0 (i : Int)) (decide (okT x0))
  | 0, i, hd, hi => by
    refine ev_succ ?_
    simp only [spec_l05Ok.l0]
    have e : x0.drop i = [] := by simp; omega
    have g := hi (by rw [e]; simp [okPs])
    refine ev_neg (by omega) (ev_now (l00In_eq _ _ _) (ev_some ?_))
    apply decide_eq_decide.2; unfold okT; exact ⟨fun q => ⟨g, by omega, by omega⟩, fun q => by omega⟩
  | d + 1, i, hd, hi => by
    have hil : i < x0.length := by omega
    refine ev_succ ?_
    simp only [spec_l05Ok.l0]
    rw [rdP hil, w64s (by omega)]
    refine ev_pos (by omega) (ev_pos (by omega) (Ev.bind (l05One_at_ev x0[i]) (ev_if (fun h => ?_) (fun h => ev_some ?_))))
    · refine l05Ok_l0 x0 hn d (i + 1) (by omega) (fun g => hi ?_)
      rw [okPs_drop hil]; exact ⟨of_decide_eq_true h, g⟩
    · symm; apply ofd; intro g; exact h (ofd1 (g.1 _ (List.getElem_mem _)))
theorem l05Ok_ev (t : List S27) (hn : t.length ≤ 35184372088832) : Ev (fun k => spec_l05Ok.f k t) (decide (okT t)) := by
  simp only [spec_l05Ok.f]
  exact l05Ok_l0 t hn t.length 0 (by omega) (by simp)

def shT : List S27 → Int
  | [] => 0
  | p :: t => p.f0 + p.f1 + shT t
theorem shT_bd {t : List S27} (h : okPs t) : (t.length : Int) ≤ shT t ∧ shT t ≤ 8 * t.length := by
  induction t with
  | nil => simp [shT]
  | cons p t ih =>
    have h1 := h p (by simp)
    have h2 := ih (fun q hq => h q (by simp [hq]))
    have h3 := h1.1
    have h4 := h1.2.1
    have h5 := h1.2.2.1
    simp only [shT, List.length_cons]; omega

def codeL (t : List S27) (loss load : Int) : Int := if okT t then (if (0 ≤ loss ∧ loss ≤ 10) ∧ (1 ≤ load ∧ load ≤ 100000) then (if shT t > 9 then 5 else 0) else 2) else 1
theorem codeL_zero {t : List S27} {loss load : Int} (h : codeL t loss load = 0) : okT t ∧ (0 ≤ loss ∧ loss ≤ 10) ∧ (1 ≤ load ∧ load ≤ 100000) ∧ shT t ≤ 9 := by
  unfold codeL at h; split at h
  · split at h
    · split at h
      · omega
      · exact ⟨‹_›, ‹_ ∧ _›.1, ‹_ ∧ _›.2, by omega⟩
    · omega
  · omega
theorem l06Sheaves_l0 (x0 : List S27) (ho : okPs x0) (hl : x0.length ≤ 6) : ∀ (d i : Nat) (s : Int), i + d = x0.length → 0 ≤ s → s ≤ 8 * i →
    Ev (fun k => spec_l06Sheaves.l0 k x0 s (i : Int)) (s + shT (x0.drop i))
  | 0, i, s, hd, h0, h1 => by
    refine ev_succ ?_
    simp only [spec_l06Sheaves.l0]
    have e : x0.drop i = [] := by simp; omega
    refine ev_neg (by omega) (ev_some ?_)
    rw [e]; simp [shT]
  | d + 1, i, s, hd, h0, h1 => by
    have hi : i < x0.length := by omega
    have hp := ho _ (List.getElem_mem hi)
    have hp1 := hp.1
    have hp2 := hp.2.1
    refine ev_succ ?_
    simp only [spec_l06Sheaves.l0]
    rw [rdP hi, w64s (by omega), w64 (x := x0[i].f0 + x0[i].f1) (by omega) (by omega), w64 (x := s + (x0[i].f0 + x0[i].f1)) (by omega) (by omega), List.drop_eq_getElem_cons hi]
    refine ev_pos (by omega) (ev_pos (by omega) ?_)
    have := l06Sheaves_l0 x0 ho hl d (i + 1) (s + (x0[i].f0 + x0[i].f1)) (by omega) (by omega) (by omega)
    have e : s + shT (x0[i] :: x0.drop (i + 1)) = s + (x0[i].f0 + x0[i].f1) + shT (x0.drop (i + 1)) := by simp only [shT]; omega
    rw [e]; exact this
theorem l06Code_ev (t : List S27) (hn : t.length ≤ 35184372088832) (loss load : Int) : Ev (fun k => spec_l06Code.f k t loss load) (codeL t loss load) := by
  have j2 : Ev (fun k => spec_l06Code.j0 k t true) 2 := by
    refine ev_succ ?_; simp only [spec_l06Code.j0]; exact ev_pos (by trivial) (Ev.now _)
  have eL : spec_l06Loss.f loss = some (decide (0 ≤ loss ∧ loss ≤ 10)) := by simp [spec_l06Loss.f, l00In_eq]
  have eF : spec_l06Lift.f load = some (decide (1 ≤ load ∧ load ≤ 100000)) := by simp [spec_l06Lift.f, l00In_eq]
  simp only [spec_l06Code.f]
  refine Ev.bind (l05Ok_ev t hn) (ev_if (fun h => ?_) (fun h => ev_some ?_))
  · have ht := of_decide_eq_true h
    unfold codeL; rw [if_pos ht]
    refine ev_now eL (ev_if (fun h1 => ev_now eF ?_) (fun h1 => ?_))
    · have h1 := of_decide_eq_true h1
      by_cases h2 : 1 ≤ load ∧ load ≤ 100000
      · rw [ofd1 h2, if_pos ⟨h1, h2⟩]
        have e := l06Sheaves_l0 t ht.1 ht.2.2 t.length 0 0 (by omega) (by omega) (by omega)
        rw [List.drop_zero, Int.zero_add] at e
        refine ev_succ ?_; simp only [spec_l06Code.j0, spec_l06Sheaves.f]
        refine ev_neg (by simp) (Ev.bind e (ev_if (fun h3 => ev_some ?_) (fun h3 => ev_some ?_)))
        · rw [if_pos h3]
        · rw [if_neg h3]
      · rw [ofd h2, if_neg (fun g => h2 g.2)]; exact j2
    · rw [if_neg (fun g => h1 (ofd1 g.1))]; exact j2
  · unfold codeL; rw [if_neg (fun g => h (ofd1 g))]

theorem validPurchase_ev (p : S27) : Ev (fun k => impl_ValidPurchase.f k p.f0 p.f1 p.f2) (decide (okP p)) := by
  have jt : Ev (fun k => impl_ValidPurchase.j0 k true p.f0 p.f1 p.f2) false := by
    refine ev_succ ?_; simp only [impl_ValidPurchase.j0]; exact ev_pos (by trivial) (Ev.now _)
  simp only [impl_ValidPurchase.f]
  refine ev_now (within_eq _ _ _) (ev_if (fun h0 => ev_now (within_eq _ _ _) (ev_if (fun h1 => ?_) (fun h1 => ?_))) (fun h0 => ?_))
  · have h0 := of_decide_eq_true h0
    have h1 := of_decide_eq_true h1
    rw [w64 (x := p.f0 + p.f1) (by omega) (by omega)]
    by_cases h2 : p.f0 + p.f1 = 0
    · rw [beq_iff_eq.2 h2, ofd (p := okP p) (fun g => by have := g.2.2.1; omega)]; exact jt
    · rw [beq_eq_false_iff_ne.2 h2]
      refine ev_succ ?_; simp only [impl_ValidPurchase.j0]
      refine ev_neg (by simp) (ev_if (fun h3 => ?_) (fun h3 => ?_))
      · rw [w64 (x := p.f1 - p.f0) (by omega) (by omega)]
        refine ev_now (within_eq _ _ _) (ev_some ?_)
        apply decide_eq_decide.2; unfold okP; rw [if_pos h3]
        exact ⟨fun g => ⟨h0, h1, by omega, g⟩, fun g => g.2.2.2⟩
      · rw [w64 (x := p.f0 - p.f1) (by omega) (by omega)]
        refine ev_now (within_eq _ _ _) (ev_some ?_)
        apply decide_eq_decide.2; unfold okP; rw [if_neg h3]
        exact ⟨fun g => ⟨h0, h1, by omega, g⟩, fun g => g.2.2.2⟩
  · rw [ofd (p := okP p) (fun g => h1 (ofd1 g.2.1))]; exact jt
  · rw [ofd (p := okP p) (fun g => h0 (ofd1 g.1))]; exact jt
theorem validTackle_l0 (x0 : List S27) (h1 : 1 ≤ x0.length) (h6 : x0.length ≤ 6) : ∀ (d i : Nat), i + d = x0.length → (okPs (x0.drop i) → okPs x0) →
    Ev (fun k => impl_ValidTackle.l0 k x0 (x0.length : Int) (i : Int)) (decide (okT x0))
  | 0, i, hd, hi => by
    refine ev_succ ?_
    simp only [impl_ValidTackle.l0]
    have e : x0.drop i = [] := by simp; omega
    have g := hi (by rw [e]; simp [okPs])
    exact ev_neg (by omega) (ev_some (ofd1 (p := okT x0) ⟨g, h1, h6⟩).symm)
  | d + 1, i, hd, hi => by
    have hil : i < x0.length := by omega
    refine ev_succ ?_
    simp only [impl_ValidTackle.l0]
    rw [rdP hil, w64s (by omega)]
    refine ev_pos (by omega) (ev_pos (by omega) (ev_pos (by omega) (Ev.bind (validPurchase_ev x0[i]) (ev_if (fun h => ?_) (fun h => ev_some ?_)))))
    · refine validTackle_l0 x0 h1 h6 d (i + 1) (by omega) (fun g => hi ?_)
      rw [okPs_drop hil]; exact ⟨of_decide_eq_true h, g⟩
    · symm; apply ofd; intro g; exact h (ofd1 (g.1 _ (List.getElem_mem _)))
theorem validTackle_ev (t : List S27) : Ev (fun k => impl_ValidTackle.f k t) (decide (okT t)) := by
  have jt : Ev (fun k => impl_ValidTackle.j0 k t true) false := by
    refine ev_succ ?_; simp only [impl_ValidTackle.j0]; exact ev_pos (by trivial) (Ev.now _)
  simp only [impl_ValidTackle.f]
  refine ev_if (fun h => ?_) (fun h => ?_)
  · rw [ofd (p := okT t) (fun g => by have := g.2.1; omega)]; exact jt
  · by_cases h6 : (t.length : Int) > 6
    · rw [ofd1 h6, ofd (p := okT t) (fun g => by have := g.2.2; omega)]; exact jt
    · rw [ofd h6]
      refine ev_succ ?_; simp only [impl_ValidTackle.j0]
      exact ev_neg (by simp) (validTackle_l0 t (by omega) (by omega) t.length 0 (by omega) (by simp))

theorem sheavesOf_l0 (x0 : List S27) (ho : okPs x0) (hl : x0.length ≤ 6) : ∀ (d i : Nat) (s : Int), i + d = x0.length → 0 ≤ s → s ≤ 8 * i →
    Ev (fun k => impl_sheavesOf.l0 k s x0 (x0.length : Int) (i : Int)) (s + shT (x0.drop i))
  | 0, i, s, hd, h0, h1 => by
    refine ev_succ ?_
    simp only [impl_sheavesOf.l0]
    have e : x0.drop i = [] := by simp; omega
    refine ev_neg (by omega) (ev_some ?_)
    rw [e]; simp [shT]
  | d + 1, i, s, hd, h0, h1 => by
    have hi : i < x0.length := by omega
    have hp := ho _ (List.getElem_mem hi)
    have hp1 := hp.1
    have hp2 := hp.2.1
    refine ev_succ ?_
    simp only [impl_sheavesOf.l0]
    rw [rdP hi, w64s (by omega), w64 (x := x0[i].f0 + x0[i].f1) (by omega) (by omega), w64 (x := s + (x0[i].f0 + x0[i].f1)) (by omega) (by omega), List.drop_eq_getElem_cons hi]
    refine ev_pos (by omega) (ev_pos (by omega) (ev_pos (by omega) ?_))
    have := sheavesOf_l0 x0 ho hl d (i + 1) (s + (x0[i].f0 + x0[i].f1)) (by omega) (by omega) (by omega)
    have e : s + shT (x0[i] :: x0.drop (i + 1)) = s + (x0[i].f0 + x0[i].f1) + shT (x0.drop (i + 1)) := by simp only [shT]; omega
    rw [e]; exact this
theorem sheavesOf_ev (t : List S27) (h : okT t) : Ev (fun k => impl_sheavesOf.f k t) (shT t) := by
  have e := sheavesOf_l0 t h.1 h.2.2 t.length 0 0 (by omega) (by omega) (by omega)
  rw [List.drop_zero, Int.zero_add] at e
  simp only [impl_sheavesOf.f]; exact e
/-- The code of several tackles: all are looked at for their form first, then the numbers, then for their sheaves. -/
def codeR : List (List S27) → Int → Int → Int := fun ts loss load =>
  if (∀ t ∈ ts, okT t) then (if (0 ≤ loss ∧ loss ≤ 10) ∧ (1 ≤ load ∧ load ≤ 100000) then (if ∀ t ∈ ts, shT t ≤ 9 then 0 else 5) else 2) else 1
theorem rough_l1 (ts : List (List S27)) (hn : ts.length ≤ 100) (ho : ∀ t ∈ ts, okT t) : ∀ (d i : Nat), i + d = ts.length → ((∀ t ∈ ts.drop i, shT t ≤ 9) → ∀ t ∈ ts, shT t ≤ 9) →
    Ev (fun k => impl_roughCode.l1 k ts (ts.length : Int) (i : Int)) (if ∀ t ∈ ts, shT t ≤ 9 then 0 else 5)
  | 0, i, hd, hi => by
    refine ev_succ ?_
    simp only [impl_roughCode.l1]
    have e : ts.drop i = [] := by simp; omega
    have g := hi (by rw [e]; simp)
    refine ev_neg (by omega) (ev_some ?_)
    rw [if_pos g]
  | d + 1, i, hd, hi => by
    have hil : i < ts.length := by omega
    have er : rd_L4 ts (i : Int) = ts[i] := by unfold rd_L4; simp [List.getD_eq_getElem?_getD, hil]
    refine ev_succ ?_
    simp only [impl_roughCode.l1]
    rw [er, w64s (by omega)]
    refine ev_pos (by omega) (ev_pos (by omega) (ev_pos (by omega) (Ev.bind (sheavesOf_ev _ (ho _ (List.getElem_mem hil))) (ev_if (fun h => ev_some ?_) (fun h => ?_)))))
    · rw [if_neg]; intro g; have := g _ (List.getElem_mem hil); omega
    · refine rough_l1 ts hn ho d (i + 1) (by omega) (fun g => hi ?_)
      rw [all_drop hil]; exact ⟨by omega, g⟩
theorem rough_l0 (ts : List (List S27)) (hn : ts.length ≤ 100) (loss load : Int) : ∀ (d i : Nat), i + d = ts.length → ((∀ t ∈ ts.drop i, okT t) → ∀ t ∈ ts, okT t) →
    Ev (fun k => impl_roughCode.l0 k loss load ts ts (ts.length : Int) (i : Int)) (codeR ts loss load)
  | 0, i, hd, hi => by
    refine ev_succ ?_
    simp only [impl_roughCode.l0]
    have e : ts.drop i = [] := by simp; omega
    have g := hi (by rw [e]; simp)
    have j2 : Ev (fun k => impl_roughCode.j1 k ts true) 2 := by
      refine ev_succ ?_; simp only [impl_roughCode.j1]; exact ev_pos (by trivial) (Ev.now _)
    unfold codeR; rw [if_pos g]
    refine ev_neg (by omega) (ev_now (within_eq _ _ _) (ev_if (fun h1 => ev_now (within_eq _ _ _) ?_) (fun h1 => ?_)))
    · have h1 := of_decide_eq_true h1
      by_cases h2 : 1 ≤ load ∧ load ≤ 100000
      · rw [ofd1 h2, if_pos ⟨h1, h2⟩]
        refine ev_succ ?_; simp only [impl_roughCode.j1]
        exact ev_neg (by simp) (rough_l1 ts hn g ts.length 0 (by omega) (by simp))
      · rw [ofd h2, if_neg (fun q => h2 q.2)]; exact j2
    · rw [if_neg (fun q => h1 (ofd1 q.1))]; exact j2
  | d + 1, i, hd, hi => by
    have hil : i < ts.length := by omega
    have er : rd_L4 ts (i : Int) = ts[i] := by unfold rd_L4; simp [List.getD_eq_getElem?_getD, hil]
    refine ev_succ ?_
    simp only [impl_roughCode.l0]
    rw [er, w64s (by omega)]
    refine ev_pos (by omega) (ev_pos (by omega) (ev_pos (by omega) (Ev.bind (validTackle_ev _) (ev_if (fun h => ?_) (fun h => ev_some ?_)))))
    · refine rough_l0 ts hn loss load d (i + 1) (by omega) (fun g => hi ?_)
      rw [all_drop hil]; exact ⟨of_decide_eq_true h, g⟩
    · unfold codeR; rw [if_neg]; intro g; exact h (ofd1 (g _ (List.getElem_mem hil)))
theorem rough_ev (ts : List (List S27)) (hn : ts.length ≤ 100) (loss load : Int) : Ev (fun k => impl_roughCode.f k loss load ts) (codeR ts loss load) := by
  simp only [impl_roughCode.f]
  exact rough_l0 ts hn loss load ts.length 0 (by omega) (by simp)
theorem codeR_one (t : List S27) (loss load : Int) : codeR [t] loss load = codeL t loss load := by
  unfold codeR codeL
  simp only [List.mem_singleton, forall_eq]
  split
  · split
    · by_cases h : shT t ≤ 9
      · rw [if_pos h, if_neg (by omega)]
      · rw [if_neg h, if_pos (by omega)]
    · rfl
  · rfl

theorem spec_l00Gcd_l0 : ∀ (n : Nat) (a b : Int), b.natAbs < n → ∃ r : Int, Ev (fun k => spec_l00Gcd.l0 k a b) r ∧ r.natAbs = Nat.gcd a.natAbs b.natAbs ∧ (0 ≤ a → 0 ≤ b → 0 ≤ r)
  | 0, a, b, h => absurd h (Nat.not_lt_zero _)
  | n + 1, a, b, h => by
    by_cases hb : b = 0
    · subst hb
      refine ⟨a, ev_succ ?_, by simp, fun h0 _ => h0⟩
      simp only [spec_l00Gcd.l0]; exact ev_pos (by trivial) (Ev.now _)
    · have hlt : (Int.tmod a b).natAbs < b.natAbs := by rw [Int.natAbs_tmod]; exact Nat.mod_lt _ (by omega)
      obtain ⟨r, e, hg, hp⟩ := spec_l00Gcd_l0 n b (Int.tmod a b) (by omega)
      refine ⟨r, ev_succ ?_, ?_, fun h0 h1 => hp h1 (Int.tmod_nonneg _ h0)⟩
      · simp only [spec_l00Gcd.l0]; exact ev_neg hb e
      · rw [hg, Int.natAbs_tmod, Nat.gcd_comm a.natAbs, Nat.gcd_rec b.natAbs a.natAbs, Nat.gcd_comm]
theorem spec_l00Gcd_l0' (a b : Int) (h0 : 0 ≤ a) (h1 : 0 ≤ b) : Ev (fun k => spec_l00Gcd.l0 k a b) (Int.gcd a b : Int) := by
  obtain ⟨r, e, hg, hp⟩ := spec_l00Gcd_l0 (b.natAbs + 1) a b (by omega)
  have : r = (Int.gcd a b : Int) := by have := hp h0 h1; unfold Int.gcd; omega
  rw [← this]; exact e

theorem make_ev (n d : Int) (hn : -9223372036854775807 ≤ n) (hn' : n ≤ 9223372036854775807) (hd : 0 < d) (hd' : d ≤ 9223372036854775807) :
    Ev (fun k => spec_l01Make.f k n d) (fr ((n : Rat) / (d : Rat))) := by
  have es : spec_l00Size.f n = some (n.natAbs : Int) := by
    unfold spec_l00Size.f
    by_cases h : n < 0
    · rw [if_pos h, w64 (by omega) (by omega)]; congr 1; omega
    · rw [if_neg h]; congr 1; omega
  have eg := spec_l00Gcd_l0' (n.natAbs : Int) d (by omega) (by omega)
  have egg : Int.gcd (n.natAbs : Int) d = Int.gcd n d := by simp [Int.gcd]
  rw [egg] at eg
  simp only [spec_l01Make.f, spec_l00Gcd.f]
  refine ev_now es (Ev.bind eg (ev_neg (by have := gcd_pos (n := n) (d := d) (by omega); omega) (ev_some ?_)))
  have f := fr_make (n := n) hd
  have b1 := num_le (B := 9223372036854775807) hd (r := (n : Rat) / (d : Rat)) rfl (by omega) (by omega)
  have b2 := den_le hd (r := (n : Rat) / (d : Rat)) rfl
  have b3 := den_pos ((n : Rat) / (d : Rat))
  have f1 := congrArg Prod.fst f
  have f2 := congrArg Prod.snd f
  simp only [fr] at f1 f2
  rw [f1, f2, w64 (by omega) (by omega), w64 (by omega) (by omega)]; rfl

/-- The sum of the parts' tensions ahead of part i, times the i-th power of D. -/
def gA (U D : Int) (away : Bool) : Nat → Int
  | 0 => 0
  | i + 1 => (gA U D away i + if (decide (0 < i) || away) = true then U ^ i else 0) * D
def gN (U D : Int) (away : Bool) (n : Nat) : Int := gA U D away n + if (decide (0 < n) || away) = true then U ^ n else 0
theorem pow_bd {U : Int} (h : 10 ≤ U ∧ U ≤ 20) : ∀ i : Nat, 1 ≤ U ^ i ∧ U ^ i ≤ 20 ^ i
  | 0 => by simp
  | i + 1 => by
    have ih := pow_bd h i
    rw [Int.pow_succ, Int.pow_succ]
    constructor
    · have := Int.mul_le_mul ih.1 h.1 (by omega) (by omega); omega
    · exact Int.mul_le_mul ih.2 h.2 (by omega) (by have := ih.1; omega)
theorem gA_bd {U D : Int} (hU : 10 ≤ U ∧ U ≤ 20) (hD : 10 ≤ D ∧ D ≤ 20) (away : Bool) : ∀ i : Nat, 0 ≤ gA U D away i ∧ gA U D away i ≤ i * 20 ^ i
  | 0 => by simp [gA]
  | i + 1 => by
    have ih := gA_bd hU hD away i
    have hp := pow_bd hU i
    have h1 : 0 ≤ gA U D away i + (if (decide (0 < i) || away) = true then U ^ i else 0) ∧ gA U D away i + (if (decide (0 < i) || away) = true then U ^ i else 0) ≤ (i + 1 : Nat) * 20 ^ i := by
      have e : ((i + 1 : Nat) : Int) * 20 ^ i = (i : Int) * 20 ^ i + 20 ^ i := by
        rw [Int.natCast_add, Int.add_mul]; simp
      rw [e]
      split <;> omega
    rw [gA]
    constructor
    · exact Int.mul_nonneg h1.1 (by omega)
    · have := Int.mul_le_mul h1.2 hD.2 (by omega) (by omega)
      rw [Int.pow_succ, ← Int.mul_assoc]; exact this
theorem gN_bd {U D : Int} (hU : 10 ≤ U ∧ U ≤ 20) (hD : 10 ≤ D ∧ D ≤ 20) (away : Bool) (n : Nat) (hn : 1 ≤ n) : 1 ≤ gN U D away n ∧ gN U D away n ≤ 40 ^ n := by
  have h1 := gA_bd hU hD away n
  have h2 := pow_bd hU n
  have h3 : ((n + 1 : Nat) : Int) * 20 ^ n ≤ 40 ^ n := by
    have e : (40 : Int) ^ n = 2 ^ n * 20 ^ n := by
      rw [← Int.mul_pow]; congr 1
    rw [e]
    apply Int.mul_le_mul_of_nonneg_right
    · have : ∀ m : Nat, ((m + 1 : Nat) : Int) ≤ 2 ^ m := by
        intro m; induction m with
        | zero => simp
        | succ m ih => rw [Int.pow_succ]; omega
      exact this n
    · exact Int.le_of_lt (Int.pow_pos (by omega))
  have e : ((n + 1 : Nat) : Int) * 20 ^ n = (n : Int) * 20 ^ n + 20 ^ n := by
    rw [Int.natCast_add, Int.add_mul]; simp
  unfold gN
  have hn' : (decide (0 < n) || away) = true := by simp; omega
  rw [if_pos hn']
  omega
theorem p20 : (20 : Int) ^ 9 = 512000000000 := by decide
theorem p40 : (40 : Int) ^ 9 = 262144000000000 := by decide
theorem pow_le9 {a : Int} (ha : 1 ≤ a) {i : Nat} (hi : i ≤ 9) : a ^ i ≤ a ^ 9 := by
  have h : ∀ j : Nat, 1 ≤ a ^ j := by
    intro j; induction j with
    | zero => simp
    | succ j ih => rw [Int.pow_succ]; have := Int.mul_le_mul ih ha (by omega) (by omega); omega
  obtain ⟨d, hd⟩ : ∃ d, 9 = i + d := ⟨9 - i, by omega⟩
  rw [hd, Int.pow_add]
  have := Int.mul_le_mul (Int.le_refl (a ^ i)) (h d) (by omega) (by have := h i; omega)
  omega
/-- How many parts more than the first a purchase has. -/
def nP (p : S27) : Nat := (p.f0 + p.f1).toNat
theorem nP_eq {p : S27} (h : okP p) : ((nP p : Nat) : Int) = p.f0 + p.f1 ∧ 1 ≤ nP p ∧ nP p ≤ 8 := by
  have h1 := h.1
  have h2 := h.2.1
  have h3 := h.2.2.1
  unfold nP; omega
def sP (U D : Int) (p : S27) : Rat := ((gN U D p.f2 (nP p) : Int) : Rat) / ((D ^ nP p : Int) : Rat)
/-- A tackle's gain: numerator and denominator, not in lowest terms, and the number itself. -/
def nT (U D : Int) : List S27 → Int
  | [] => 1
  | p :: t => gN U D p.f2 (nP p) * nT U D t
def eT (D : Int) : List S27 → Int
  | [] => 1
  | p :: t => D ^ nP p * eT D t
def gT (U D : Int) : List S27 → Rat
  | [] => 1
  | p :: t => sP U D p * gT U D t
def mT : List S27 → Nat
  | [] => 0
  | p :: t => nP p + mT t
theorem mT_eq {t : List S27} (h : okPs t) : ((mT t : Nat) : Int) = shT t := by
  induction t with
  | nil => rfl
  | cons p t ih =>
    have h1 := nP_eq (h p (by simp))
    have h2 := ih (fun q hq => h q (by simp [hq]))
    simp only [mT, shT]; omega
theorem gT_eq {U D : Int} (hD : 10 ≤ D ∧ D ≤ 20) (t : List S27) : gT U D t = ((nT U D t : Int) : Rat) / ((eT D t : Int) : Rat) := by
  induction t with
  | nil => simp [gT, nT, eT]; grind
  | cons p t ih =>
    have z : ∀ l : List S27, eT D l ≠ 0 := by
      intro l; induction l with
      | nil => simp [eT]
      | cons q l ih => rw [eT]; have := pow_bd hD (nP q); exact Int.mul_ne_zero (by omega) ih
    have z1 := ne0 (z t)
    have z2 := ne0 (d := D ^ nP p) (by have := pow_bd hD (nP p); omega)
    simp only [gT, nT, eT, ih, sP]
    rw [castI, castI]
    grind
theorem nT_bd {U D : Int} (hU : 10 ≤ U ∧ U ≤ 20) (hD : 10 ≤ D ∧ D ≤ 20) (t : List S27) (h : okPs t) : (1 ≤ nT U D t ∧ nT U D t ≤ 40 ^ mT t) ∧ (1 ≤ eT D t ∧ eT D t ≤ 20 ^ mT t) := by
  induction t with
  | nil => simp [nT, eT, mT]
  | cons p t ih =>
    have ih := ih (fun q hq => h q (by simp [hq]))
    have h1 := gN_bd hU hD p.f2 (nP p) (nP_eq (h p (by simp))).2.1
    have h2 := pow_bd hD (nP p)
    simp only [nT, eT, mT]
    rw [Int.pow_add, Int.pow_add]
    refine ⟨⟨?_, ?_⟩, ?_, ?_⟩
    · have := Int.mul_le_mul h1.1 ih.1.1 (by omega) (by omega); omega
    · exact Int.mul_le_mul h1.2 ih.1.2 (by omega) (by have := h1.1; omega)
    · have := Int.mul_le_mul h2.1 ih.2.1 (by omega) (by omega); omega
    · exact Int.mul_le_mul h2.2 ih.2.2 (by omega) (by have := h2.1; omega)
/-- What is known of a gain with few sheaves. -/
theorem gT_bd {U D : Int} (hU : 10 ≤ U ∧ U ≤ 20) (hD : 10 ≤ D ∧ D ≤ 20) (t : List S27) (h : okPs t) (hs : mT t ≤ 9) :
    1 ≤ (gT U D t).num ∧ (gT U D t).num ≤ 262144000000000 ∧ ((gT U D t).den : Int) ≤ 512000000000 := by
  have hb := nT_bd hU hD t h
  have e := gT_eq (U := U) hD t
  have b1 := pow_le9 (a := 40) (by omega) hs
  have b2 := pow_le9 (a := 20) (by omega) hs
  rw [p40] at b1
  rw [p20] at b2
  obtain ⟨m, hm, e1, e2⟩ := num_scale (by omega) e
  have l1 := num_le (B := 262144000000000) (by omega) e (by omega) (by omega)
  have l2 := den_le (by omega) e
  refine ⟨?_, l1.2, by omega⟩
  rcases Int.lt_or_le 0 (gT U D t).num with h' | h'
  · omega
  · have := Int.mul_nonpos_of_nonneg_of_nonpos (a := m) (b := (gT U D t).num) (by omega) h'
    rw [Int.mul_comm] at this; omega
theorem gT_append (U D : Int) (a b : List S27) : gT U D (a ++ b) = gT U D a * gT U D b := by
  induction a with
  | nil => simp [gT]
  | cons p a ih => simp only [List.cons_append, gT, ih]; grind
theorem mT_append (a b : List S27) : mT (a ++ b) = mT a + mT b := by
  induction a with
  | nil => simp [mT]
  | cons p a ih => simp only [List.cons_append, mT, ih]; omega

theorem l06Gain_l0 (U D : Int) (hU : 10 ≤ U ∧ U ≤ 20) (hD : 10 ≤ D ∧ D ≤ 20) (p : S27) (hp : okP p) : ∀ (d i : Nat), i + d = nP p →
    Ev (fun k => spec_l06Gain.l0 k U D (p.f0 + p.f1) (gA U D p.f2 i) (D ^ i) (U ^ i) (i : Int) p.f0 p.f1 p.f2) ((sP U D p).num, ((sP U D p).den : Int), p.f0, p.f1, p.f2)
  | 0, i, hd => by
    obtain ⟨hn, h1, h8⟩ := nP_eq hp
    have hi : i = nP p := by omega
    subst hi
    have bA := gA_bd hU hD p.f2 (nP p)
    have bU := pow_bd hU (nP p)
    have bD := pow_bd hD (nP p)
    have c1 := pow_le9 (a := 20) (by omega) (show nP p ≤ 9 by omega)
    rw [p20] at c1
    have bN := gN_bd hU hD p.f2 (nP p) h1
    have c2 := pow_le9 (a := 40) (by omega) (show nP p ≤ 9 by omega)
    rw [p40] at c2
    have fin : Ev (fun k => spec_l06Gain.l0 k U D (p.f0 + p.f1) (gN U D p.f2 (nP p)) (D ^ nP p) (U ^ nP p) ((nP p + 1 : Nat) : Int) p.f0 p.f1 p.f2) ((sP U D p).num, ((sP U D p).den : Int), p.f0, p.f1, p.f2) := by
      refine ev_succ ?_
      simp only [spec_l06Gain.l0]
      refine ev_neg (by omega) (Ev.bind (make_ev (gN U D p.f2 (nP p)) (D ^ nP p) (by omega) (by omega) (by omega) (by omega)) (ev_some ?_))
      rfl
    have eN : gN U D p.f2 (nP p) = gA U D p.f2 (nP p) + U ^ nP p := by unfold gN; rw [if_pos (by simp; omega)]
    rw [eN] at fin
    refine ev_succ ?_
    simp only [spec_l06Gain.l0]
    refine ev_pos (by omega) (ev_pos (by omega) ?_)
    refine ev_succ ?_
    simp only [spec_l06Gain.j1]
    rw [w64s (by omega), w64 (x := gA U D p.f2 (nP p) + U ^ nP p) (by omega) (by omega)]
    exact ev_pos (by trivial) (ev_neg (by omega) fin)
  | d + 1, i, hd => by
    obtain ⟨hn, h1, h8⟩ := nP_eq hp
    have bA := gA_bd hU hD p.f2 i
    have bU := pow_bd hU i
    have bD := pow_bd hD i
    have bA' := gA_bd hU hD p.f2 (i + 1)
    have bU' := pow_bd hU (i + 1)
    have bD' := pow_bd hD (i + 1)
    have c1 := pow_le9 (a := 20) (by omega) (show i ≤ 9 by omega)
    have c2 := pow_le9 (a := 20) (by omega) (show i + 1 ≤ 9 by omega)
    rw [p20] at c1 c2
    have m1 : (i : Int) * 20 ^ i ≤ 9 * 512000000000 := Int.mul_le_mul (by omega) c1 (by omega) (by omega)
    have m2 : ((i + 1 : Nat) : Int) * 20 ^ (i + 1) ≤ 9 * 512000000000 := Int.mul_le_mul (by omega) c2 (by omega) (by omega)
    have ih := l06Gain_l0 U D hU hD p hp d (i + 1) (by omega)
    have e3 : D ^ (i + 1) = D ^ i * D := Int.pow_succ D i
    have e4 : U ^ (i + 1) = U ^ i * U := Int.pow_succ U i
    have J : ∀ b : Bool, b = (decide (0 < i) || p.f2) → Ev (fun k => spec_l06Gain.j1 k U D (p.f0 + p.f1) (gA U D p.f2 i) (D ^ i) (U ^ i) (i : Int) b p.f0 p.f1 p.f2) ((sP U D p).num, ((sP U D p).den : Int), p.f0, p.f1, p.f2) := by
      intro b hb
      have e5 : gA U D p.f2 (i + 1) = (gA U D p.f2 i + if b = true then U ^ i else 0) * D := by rw [gA, hb]
      rw [e3, e4, e5] at ih
      rw [e3] at bD'
      rw [e4] at bU'
      rw [e5] at bA'
      refine ev_succ ?_
      simp only [spec_l06Gain.j1]
      rw [w64s (by omega), w64 (x := D ^ i * D) (by omega) (by omega), w64 (x := U ^ i * U) (by omega) (by omega)]
      refine ev_if (fun h => ev_pos (by omega) ?_) (fun h => ev_pos (by omega) ?_)
      · rw [if_pos h] at ih bA'
        rw [w64 (x := gA U D p.f2 i + U ^ i) (by omega) (by omega), w64 (x := (gA U D p.f2 i + U ^ i) * D) (by omega) (by omega)]
        exact ih
      · rw [if_neg h, Int.add_zero] at ih bA'
        rw [w64 (x := gA U D p.f2 i * D) (by omega) (by omega)]
        exact ih
    refine ev_succ ?_
    simp only [spec_l06Gain.l0]
    refine ev_pos (by omega) (ev_if (fun h => J true ?_) (fun h => J p.f2 ?_))
    · have : 0 < i := by omega
      simp [this]
    · have : ¬ 0 < i := by omega
      simp [this]
theorem l06Gain_ev (U D : Int) (hU : 10 ≤ U ∧ U ≤ 20) (hD : 10 ≤ D ∧ D ≤ 20) (p : S27) (hp : okP p) :
    Ev (fun k => spec_l06Gain.f k p.f0 p.f1 p.f2 U D) ((sP U D p).num, ((sP U D p).den : Int), p.f0, p.f1, p.f2) := by
  have h1 := hp.1
  have h2 := hp.2.1
  have := l06Gain_l0 U D hU hD p hp (nP p) 0 (by omega)
  simp only [spec_l06Gain.f]
  rw [w64 (x := p.f0 + p.f1) (by omega) (by omega)]
  simpa [gA] using this

theorem l06Gain_at_ev (U D : Int) (hU : 10 ≤ U ∧ U ≤ 20) (hD : 10 ≤ D ∧ D ≤ 20) (p : S27) (hp : okP p) :
    Ev (fun k => spec_l06Gain_at.f k p.f0 p.f1 p.f2 U D) ((sP U D p).num, ((sP U D p).den : Int)) := by
  simp only [spec_l06Gain_at.f]
  exact Ev.bind (l06Gain_ev U D hU hD p hp) (Ev.now _)
theorem sP_bd {U D : Int} (hU : 10 ≤ U ∧ U ≤ 20) (hD : 10 ≤ D ∧ D ≤ 20) {p : S27} (hp : okP p) :
    1 ≤ (sP U D p).num ∧ (sP U D p).num ≤ 262144000000000 ∧ ((sP U D p).den : Int) ≤ 512000000000 := by
  have := gT_bd hU hD [p] (by intro q hq; simp at hq; rw [hq]; exact hp) (by have := nP_eq hp; simp [mT]; omega)
  have e : gT U D [p] = sP U D p := by simp only [gT]; grind
  rw [e] at this; exact this
theorem l06All_l0 (U D : Int) (hU : 10 ≤ U ∧ U ≤ 20) (hD : 10 ≤ D ∧ D ≤ 20) (t : List S27) (ho : okPs t) (hs : mT t ≤ 9) (hn : t.length ≤ 100) : ∀ (d i : Nat), i + d = t.length →
    Ev (fun k => spec_l06All.l0 k t U D (i : Int) (gT U D (t.take i)).num ((gT U D (t.take i)).den : Int)) (fr (gT U D t))
  | 0, i, hd => by
    refine ev_succ ?_
    simp only [spec_l06All.l0]
    refine ev_neg (by omega) (ev_some ?_)
    rw [List.take_of_length_le (by omega)]; rfl
  | d + 1, i, hd => by
    have hi : i < t.length := by omega
    have ih := l06All_l0 U D hU hD t ho hs hn d (i + 1) (by omega)
    have et : t.take (i + 1) = t.take i ++ [t[i]] := by rw [List.take_succ_eq_append_getElem hi]
    have eg : gT U D (t.take (i + 1)) = gT U D (t.take i) * sP U D t[i] := by
      rw [et, gT_append]; simp only [gT]; grind
    have hp := ho _ (List.getElem_mem hi)
    have hm : mT (t.take (i + 1)) ≤ 9 := by
      have := mT_append (t.take (i + 1)) (t.drop (i + 1)); rw [List.take_append_drop] at this; omega
    have hm' : mT (t.take i) ≤ 9 := by
      have := mT_append (t.take i) (t.drop i); rw [List.take_append_drop] at this; omega
    have ho1 : okPs (t.take i) := fun q hq => ho q (List.mem_of_mem_take hq)
    have ho2 : okPs (t.take (i + 1)) := fun q hq => ho q (List.mem_of_mem_take hq)
    have b1 := gT_bd hU hD (t.take i) ho1 hm'
    have b2 := gT_bd hU hD (t.take (i + 1)) ho2 hm
    have b3 := sP_bd hU hD hp
    rw [eg] at b2 ih
    generalize gT U D (t.take i) = G at *
    generalize hS : sP U D t[i] = S at *
    have pG := den_pos G
    have pS := den_pos S
    have pGS := den_pos (G * S)
    have key := mul_key G S
    have k1 := congrArg Prod.fst key
    have k2 := congrArg Prod.snd key
    simp only [fr] at k1 k2
    refine ev_succ ?_
    simp only [spec_l06All.l0]
    rw [rdP hi, w64s (by omega)]
    have e0 := l06Gain_at_ev U D hU hD t[i] hp
    rw [hS] at e0
    refine ev_pos (by omega) (ev_pos (by omega) (Ev.bind e0 (Ev.bind (make_ev G.num (S.den : Int) (by omega) (by omega) (by omega) (by omega)) (Ev.bind (make_ev S.num (G.den : Int) (by omega) (by omega) (by omega) (by omega)) ?_))))
    simp only [fr]
    rw [← k1, ← k2, w64 (x := (G * S).num) (by omega) (by omega), w64 (x := ((G * S).den : Int)) (by omega) (by omega)]
    refine Ev.bind (make_ev (G * S).num ((G * S).den : Int) (by omega) (by omega) (by omega) (by omega)) ?_
    rw [rat_self]
    exact ih
theorem l06All_ev (U D : Int) (hU : 10 ≤ U ∧ U ≤ 20) (hD : 10 ≤ D ∧ D ≤ 20) (t : List S27) (ho : okPs t) (hs : mT t ≤ 9) (hn : t.length ≤ 100) :
    Ev (fun k => spec_l06All.f k t U D) (fr (gT U D t)) := by
  have := l06All_l0 U D hU hD t ho hs hn t.length 0 (by omega)
  simp only [spec_l06All.f]
  exact this

theorem impl_gcd_l0 : ∀ (n : Nat) (a b : Int), b.natAbs < n → ∃ r : Int, Ev (fun k => impl_gcd.l0 k a b) r ∧ r.natAbs = Nat.gcd a.natAbs b.natAbs ∧ (0 ≤ a → 0 ≤ b → 0 ≤ r)
  | 0, a, b, h => absurd h (Nat.not_lt_zero _)
  | n + 1, a, b, h => by
    by_cases hb : b = 0
    · subst hb
      refine ⟨a, ev_succ ?_, by simp, fun h0 _ => h0⟩
      simp only [impl_gcd.l0]; exact ev_pos (by trivial) (Ev.now _)
    · have hlt : (Int.tmod a b).natAbs < b.natAbs := by rw [Int.natAbs_tmod]; exact Nat.mod_lt _ (by omega)
      obtain ⟨r, e, hg, hp⟩ := impl_gcd_l0 n b (Int.tmod a b) (by omega)
      refine ⟨r, ev_succ ?_, ?_, fun h0 h1 => hp h1 (Int.tmod_nonneg _ h0)⟩
      · simp only [impl_gcd.l0]; exact ev_neg hb e
      · rw [hg, Int.natAbs_tmod, Nat.gcd_comm a.natAbs, Nat.gcd_rec b.natAbs a.natAbs, Nat.gcd_comm]
theorem impl_gcd_l0' (a b : Int) (h0 : 0 ≤ a) (h1 : 0 ≤ b) : Ev (fun k => impl_gcd.l0 k a b) (Int.gcd a b : Int) := by
  obtain ⟨r, e, hg, hp⟩ := impl_gcd_l0 (b.natAbs + 1) a b (by omega)
  have : r = (Int.gcd a b : Int) := by have := hp h0 h1; unfold Int.gcd; omega
  rw [← this]; exact e

theorem gcd_ev (a b : Int) (ha : -9223372036854775807 ≤ a) (ha' : a ≤ 9223372036854775807) (hb : 0 ≤ b) : Ev (fun k => impl_gcd.f k a b) (Int.gcd a b : Int) := by
  simp only [impl_gcd.f]
  refine ev_if (fun h => ?_) (fun h => ?_)
  · rw [w64 (by omega) (by omega)]
    refine ev_succ ?_; simp only [impl_gcd.j0]
    have := impl_gcd_l0' (-a) b (by omega) hb
    rw [Int.neg_gcd] at this; exact this
  · refine ev_succ ?_; simp only [impl_gcd.j0]
    exact impl_gcd_l0' a b (by omega) hb
theorem fraction_ev (n d : Int) (hn : -9223372036854775807 ≤ n) (hn' : n ≤ 9223372036854775807) (hd : -9223372036854775807 ≤ d) (hd' : d ≤ 9223372036854775807) (h0 : d ≠ 0) :
    Ev (fun k => impl_fraction.f k n d) (fr ((n : Rat) / (d : Rat))) := by
  have pos : ∀ m e : Int, -9223372036854775807 ≤ m → m ≤ 9223372036854775807 → 0 < e → e ≤ 9223372036854775807 →
      Ev (fun k => (impl_gcd.f k m e).bind fun t => if t = 0 then none else some (wrap64 (Int.tdiv m t), wrap64 (Int.tdiv e t))) (fr ((m : Rat) / (e : Rat))) := by
    intro m e hm hm' he he'
    refine Ev.bind (gcd_ev m e hm hm' (by omega)) (ev_neg (by have := gcd_pos (n := m) (d := e) (by omega); omega) (ev_some ?_))
    have f := fr_make (n := m) he
    have b1 := num_le (B := 9223372036854775807) he (r := (m : Rat) / (e : Rat)) rfl (by omega) (by omega)
    have b2 := den_le he (r := (m : Rat) / (e : Rat)) rfl
    have b3 := den_pos ((m : Rat) / (e : Rat))
    have f1 := congrArg Prod.fst f
    have f2 := congrArg Prod.snd f
    simp only [fr] at f1 f2
    rw [f1, f2, w64 (by omega) (by omega), w64 (by omega) (by omega)]; rfl
  simp only [impl_fraction.f]
  refine ev_if (fun h => ?_) (fun h => ?_)
  · rw [w64 (x := -n) (by omega) (by omega), w64 (x := -d) (by omega) (by omega), ← fr_make_neg h]
    exact pos (-n) (-d) (by omega) (by omega) (by omega) (by omega)
  · exact pos n d hn hn' (by omega) hd'

theorem mulFr_ev (a b : Rat) (ha : -9223372036854775807 ≤ a.num) (ha' : a.num ≤ 9223372036854775807) (hb : -9223372036854775807 ≤ b.num) (hb' : b.num ≤ 9223372036854775807)
    (hda : (a.den : Int) ≤ 9223372036854775807) (hdb : (b.den : Int) ≤ 9223372036854775807)
    (h1 : -9223372036854775807 ≤ (a * b).num) (h2 : (a * b).num ≤ 9223372036854775807) (h3 : ((a * b).den : Int) ≤ 9223372036854775807) :
    Ev (fun k => impl_mulFractions.f k a.num a.den b.num b.den) (fr (a * b)) := by
  have pa := den_pos a
  have pb := den_pos b
  have e1 := fraction_ev a.num b.den ha ha' (by omega) hdb (by omega)
  have e2 := fraction_ev b.num a.den hb hb' (by omega) hda (by omega)
  have key := mul_key a b
  simp only [impl_mulFractions.f]
  refine Ev.bind e1 (Ev.bind e2 (ev_some ?_))
  have k1 := congrArg Prod.fst key
  have k2 := congrArg Prod.snd key
  simp only [fr] at k1 k2 ⊢
  have pd := den_pos (a * b)
  rw [← k1, ← k2, w64 (by omega) (by omega), w64 (by omega) (by omega)]

theorem addFr_ev (a b : Rat) (D x y : Int) (hD : 0 < D) (hD' : D ≤ 4611686018427387903) (ha : a = (x : Rat) / (D : Rat)) (hb : b = (y : Rat) / (D : Rat))
    (hx : -4611686018427387903 ≤ x) (hx' : x ≤ 4611686018427387903) (hy : -4611686018427387903 ≤ y) (hy' : y ≤ 4611686018427387903) :
    Ev (fun k => impl_addFractions.f k a.num a.den b.num b.den) (fr (a + b)) := by
  have pa := den_pos a
  have pb := den_pos b
  have da := den_le hD ha
  have db := den_le hD hb
  have eg := gcd_ev (a.den : Int) (b.den : Int) (by omega) (by omega) (by omega)
  have gp := gcd_pos (n := (a.den : Int)) (d := (b.den : Int)) (by omega)
  generalize hg : (Int.gcd (a.den : Int) (b.den : Int) : Int) = g at *
  obtain ⟨u, hu⟩ : g ∣ (a.den : Int) := by rw [← hg]; exact Int.gcd_dvd_left _ _
  obtain ⟨v, hv⟩ : g ∣ (b.den : Int) := by rw [← hg]; exact Int.gcd_dvd_right _ _
  have tu : Int.tdiv (a.den : Int) g = u := by rw [hu]; exact Int.mul_tdiv_cancel_left _ (by omega)
  have tv : Int.tdiv (b.den : Int) g = v := by rw [hv]; exact Int.mul_tdiv_cancel_left _ (by omega)
  have hup : 0 < u := by
    rcases Int.lt_or_le 0 u with h | h
    · exact h
    · have := Int.mul_nonpos_of_nonneg_of_nonpos (Int.le_of_lt gp) h; omega
  have hvp : 0 < v := by
    rcases Int.lt_or_le 0 v with h | h
    · exact h
    · have := Int.mul_nonpos_of_nonneg_of_nonpos (Int.le_of_lt gp) h; omega
  -- the least common multiple divides D
  have hl : u * (b.den : Int) ∣ D := by
    have h1 : Int.lcm (a.den : Int) (b.den : Int) ∣ D.natAbs := Nat.lcm_dvd (Int.natAbs_dvd_natAbs.2 (den_dvd (by omega) ha)) (Int.natAbs_dvd_natAbs.2 (den_dvd (by omega) hb))
    have h2 : (Int.lcm (a.den : Int) (b.den : Int) : Int) = u * (b.den : Int) := by
      have h3 := Int.gcd_mul_lcm (a.den : Int) (b.den : Int)
      have h4 : g * (Int.lcm (a.den : Int) (b.den : Int) : Int) = g * (u * (b.den : Int)) := by
        rw [← hg, ← Int.natCast_mul, h3, hg, ← Int.mul_assoc, ← hu]
        simp [Int.natAbs_mul]
      exact Int.eq_of_mul_eq_mul_left (by omega) h4
    rw [← h2]; exact Int.natAbs_dvd_natAbs.1 (by rw [Int.natAbs_natCast]; exact h1)
  obtain ⟨c, hc⟩ := hl
  have hlp : 0 < u * (b.den : Int) := Int.mul_pos hup pb
  have hcp : 1 ≤ c := by
    rcases Int.lt_or_le 0 c with h | h
    · omega
    · have := Int.mul_nonpos_of_nonneg_of_nonpos (Int.le_of_lt hlp) h; omega
  have ca := cross (by omega) ha
  have cb := cross (by omega) hb
  have ex : x = a.num * v * c := by
    have h1 : (a.den : Int) * x = (a.den : Int) * (a.num * v * c) := by grind
    exact Int.eq_of_mul_eq_mul_left (by omega) h1
  have ey : y = b.num * u * c := by
    have h1 : (b.den : Int) * y = (b.den : Int) * (b.num * u * c) := by grind
    exact Int.eq_of_mul_eq_mul_left (by omega) h1
  have bnd : ∀ z B : Int, 0 ≤ B → -B ≤ z * c → z * c ≤ B → -B ≤ z ∧ z ≤ B := by
    intro z B hB h1 h2
    have h3 : (z * c).natAbs ≤ B.natAbs := by omega
    rw [Int.natAbs_mul] at h3
    have h4 : z.natAbs * 1 ≤ z.natAbs * c.natAbs := Nat.mul_le_mul_left _ (by omega)
    omega
  have b1 := bnd (a.num * v) 4611686018427387903 (by omega) (by omega) (by omega)
  have b2 := bnd (b.num * u) 4611686018427387903 (by omega) (by omega) (by omega)
  have b3 := bnd (u * (b.den : Int)) 4611686018427387903 (by omega) (by omega) (by omega)
  have lu : u ≤ (a.den : Int) := by
    have : u * 1 ≤ u * g := Int.mul_le_mul_of_nonneg_left (by omega) (by omega)
    rw [hu, Int.mul_comm g u]; omega
  have lv : v ≤ (b.den : Int) := by
    have : v * 1 ≤ v * g := Int.mul_le_mul_of_nonneg_left (by omega) (by omega)
    rw [hv, Int.mul_comm g v]; omega
  have es : a + b = ((a.num * v + b.num * u : Int) : Rat) / ((u * (b.den : Int) : Int) : Rat) := by
    have ea := rat_self a
    have eb := rat_self b
    have za := ne0 (d := (a.den : Int)) (by omega)
    have zb := ne0 (d := (b.den : Int)) (by omega)
    have zu := ne0 (d := u) (by omega)
    have zv := ne0 (d := v) (by omega)
    have zg := ne0 (d := g) (by omega)
    have hu' : ((a.den : Int) : Rat) = (g : Rat) * (u : Rat) := by rw [← castI, ← hu]
    have hv' : ((b.den : Int) : Rat) = (g : Rat) * (v : Rat) := by rw [← castI, ← hv]
    rw [castI, Rat.intCast_add, castI, castI]
    grind
  simp only [impl_addFractions.f]
  refine Ev.bind eg (ev_neg (by omega) ?_)
  rw [tu, tv, w64 (x := v) (by omega) (by omega), w64 (x := u) (by omega) (by omega), w64 (x := a.num * v) (by omega) (by omega), w64 (x := b.num * u) (by omega) (by omega),
    w64 (x := a.num * v + b.num * u) (by omega) (by omega), w64 (x := u * (b.den : Int)) (by omega) (by omega)]
  refine Ev.bind (fraction_ev _ _ (by omega) (by omega) (by omega) (by omega) (by omega)) (ev_some ?_)
  rw [es]

def sI (U D : Int) (away : Bool) (i : Nat) : Rat := ((gA U D away i : Int) : Rat) / ((D ^ i : Int) : Rat)
def tI (U D : Int) (i : Nat) : Rat := ((U ^ i : Int) : Rat) / ((D ^ i : Int) : Rat)
theorem tI_succ {U D : Int} (hD : 10 ≤ D ∧ D ≤ 20) (i : Nat) : tI U D i * ((U : Rat) / (D : Rat)) = tI U D (i + 1) := by
  have z1 := ne0 (d := D) (by omega)
  have z2 := ne0 (d := D ^ i) (by have := pow_bd hD i; omega)
  unfold tI
  rw [Int.pow_succ, Int.pow_succ, castI, castI]
  grind
theorem sI_succ {U D : Int} (hD : 10 ≤ D ∧ D ≤ 20) (away : Bool) (i : Nat) : sI U D away (i + 1) = if (decide (0 < i) || away) = true then sI U D away i + tI U D i else sI U D away i := by
  have z1 := ne0 (d := D) (by omega)
  have z2 := ne0 (d := D ^ i) (by have := pow_bd hD i; omega)
  unfold sI tI
  rw [Int.pow_succ, gA, castI, castI]
  split
  · rw [Rat.intCast_add]; grind
  · rw [Int.add_zero]; grind
theorem sI_last {U D : Int} (hD : 10 ≤ D ∧ D ≤ 20) (p : S27) : sI U D p.f2 (nP p + 1) = sP U D p := by
  have z1 := ne0 (d := D) (by omega)
  have z2 := ne0 (d := D ^ nP p) (by have := pow_bd hD (nP p); omega)
  unfold sI sP gN
  rw [Int.pow_succ, gA, castI, castI]
  grind
theorem gw_l1 (U D : Int) (hU : 10 ≤ U ∧ U ≤ 20) (hD : 10 ≤ D ∧ D ≤ 20) (p : S27) (hp : okP p) (t : List S27) (len x14 : Int) (G : Rat) (r : Int × Int)
    (b1 : 1 ≤ G.num ∧ G.num ≤ 262144000000000 ∧ (G.den : Int) ≤ 512000000000) (b2 : 1 ≤ (G * sP U D p).num ∧ (G * sP U D p).num ≤ 262144000000000 ∧ ((G * sP U D p).den : Int) ≤ 512000000000)
    (hr : Ev (fun k => impl_gainWith.l0 k t len (wrap64 (x14 + 1)) ((U : Rat) / (D : Rat)).num (((U : Rat) / (D : Rat)).den : Int) (G * sP U D p).num ((G * sP U D p).den : Int)) r) : ∀ (d i : Nat), i + d = nP p + 1 →
    Ev (fun k => impl_gainWith.l1 k (i : Int) t len x14 ((U : Rat) / (D : Rat)).num (((U : Rat) / (D : Rat)).den : Int) G.num (G.den : Int) p.f0 p.f1 p.f2 (sI U D p.f2 i).num ((sI U D p.f2 i).den : Int) (tI U D i).num ((tI U D i).den : Int)) r
  | 0, i, hd => by
    obtain ⟨hn, h1, h8⟩ := nP_eq hp
    have hp0 := hp.1
    have hp1 := hp.2.1
    have hi : i = nP p + 1 := by omega
    subst hi
    rw [sI_last hD]
    have bS := gN_bd hU hD p.f2 (nP p) h1
    have bD := pow_bd hD (nP p)
    have c1 := pow_le9 (a := 20) (by omega) (show nP p ≤ 9 by omega)
    have c2 := pow_le9 (a := 40) (by omega) (show nP p ≤ 9 by omega)
    rw [p20] at c1
    rw [p40] at c2
    have l1 := num_le (B := 262144000000000) (by omega) (r := sP U D p) rfl (by omega) (by omega)
    have l2 := den_le (by omega) (r := sP U D p) rfl
    refine ev_succ ?_
    simp only [impl_gainWith.l1]
    rw [w64 (x := p.f0 + p.f1) (by omega) (by omega)]
    refine ev_neg (by omega) (Ev.bind (mulFr_ev G (sP U D p) (by omega) (by omega) (by omega) (by omega) (by omega) (by omega) (by omega) (by omega) (by omega)) ?_)
    exact hr
  | d + 1, i, hd => by
    obtain ⟨hn, h1, h8⟩ := nP_eq hp
    have hp0 := hp.1
    have hp1 := hp.2.1
    have ih := gw_l1 U D hU hD p hp t len x14 G r b1 b2 hr d (i + 1) (by omega)
    have bA := gA_bd hU hD p.f2 i
    have bU := pow_bd hU i
    have bD := pow_bd hD i
    have bU' := pow_bd hU (i + 1)
    have bD' := pow_bd hD (i + 1)
    have c1 := pow_le9 (a := 20) (by omega) (show i ≤ 9 by omega)
    have c2 := pow_le9 (a := 20) (by omega) (show i + 1 ≤ 9 by omega)
    rw [p20] at c1 c2
    have m1 : (i : Int) * 20 ^ i ≤ 9 * 512000000000 := Int.mul_le_mul (by omega) c1 (by omega) (by omega)
    have lt1 := num_le (B := 512000000000) (by omega) (r := tI U D i) rfl (by omega) (by omega)
    have lt2 := den_le (by omega) (r := tI U D i) rfl
    have lt3 := num_le (B := 512000000000) (by omega) (r := tI U D (i + 1)) rfl (by omega) (by omega)
    have lt4 := den_le (by omega) (r := tI U D (i + 1)) rfl
    have lq1 := num_le (B := 20) (n := U) (d := D) (by omega) (r := (U : Rat) / (D : Rat)) rfl (by omega) (by omega)
    have lq2 := den_le (n := U) (d := D) (by omega) (r := (U : Rat) / (D : Rat)) rfl
    have em : Ev (fun k => impl_mulFractions.f k (tI U D i).num ((tI U D i).den : Int) ((U : Rat) / (D : Rat)).num (((U : Rat) / (D : Rat)).den : Int)) (fr (tI U D (i + 1))) := by
      have := mulFr_ev (tI U D i) ((U : Rat) / (D : Rat)) (by omega) (by omega) (by omega) (by omega) (by omega) (by omega) (by rw [tI_succ hD]; omega) (by rw [tI_succ hD]; omega) (by rw [tI_succ hD]; omega)
      rw [tI_succ hD] at this; exact this
    have J : ∀ b : Bool, b = (decide (0 < i) || p.f2) → Ev (fun k => impl_gainWith.j2 k (i : Int) t len x14 b ((U : Rat) / (D : Rat)).num (((U : Rat) / (D : Rat)).den : Int) G.num (G.den : Int) p.f0 p.f1 p.f2 (sI U D p.f2 i).num ((sI U D p.f2 i).den : Int) (tI U D i).num ((tI U D i).den : Int)) r := by
      intro b hb
      rw [sI_succ hD, ← hb] at ih
      refine ev_succ ?_
      simp only [impl_gainWith.j2]
      rw [w64s (by omega)]
      refine ev_if (fun h => ?_) (fun h => ?_)
      · rw [if_pos h] at ih
        refine Ev.bind (addFr_ev (sI U D p.f2 i) (tI U D i) (D ^ i) (gA U D p.f2 i) (U ^ i) (by omega) (by omega) rfl rfl (by omega) (by omega) (by omega) (by omega)) (Ev.bind em ?_)
        exact ih
      · rw [if_neg h] at ih
        refine Ev.bind em ?_
        exact ih
    refine ev_succ ?_
    simp only [impl_gainWith.l1]
    rw [w64 (x := p.f0 + p.f1) (by omega) (by omega)]
    refine ev_pos (by omega) (ev_if (fun h => J true ?_) (fun h => J p.f2 ?_))
    · have : 0 < i := by omega
      simp [this]
    · have : ¬ 0 < i := by omega
      simp [this]
theorem gw_l0 (U D : Int) (hU : 10 ≤ U ∧ U ≤ 20) (hD : 10 ≤ D ∧ D ≤ 20) (t : List S27) (ho : okPs t) (hs : mT t ≤ 9) (hn : t.length ≤ 100) : ∀ (d i : Nat), i + d = t.length →
    Ev (fun k => impl_gainWith.l0 k t (t.length : Int) (i : Int) ((U : Rat) / (D : Rat)).num (((U : Rat) / (D : Rat)).den : Int) (gT U D (t.take i)).num ((gT U D (t.take i)).den : Int)) (fr (gT U D t))
  | 0, i, hd => by
    refine ev_succ ?_
    simp only [impl_gainWith.l0]
    refine ev_neg (by omega) (ev_some ?_)
    rw [List.take_of_length_le (by omega)]; rfl
  | d + 1, i, hd => by
    have hi : i < t.length := by omega
    have ih := gw_l0 U D hU hD t ho hs hn d (i + 1) (by omega)
    have et : t.take (i + 1) = t.take i ++ [t[i]] := by rw [List.take_succ_eq_append_getElem hi]
    have eg : gT U D (t.take (i + 1)) = gT U D (t.take i) * sP U D t[i] := by
      rw [et, gT_append]; simp only [gT]; grind
    have hp := ho _ (List.getElem_mem hi)
    have hm : mT (t.take (i + 1)) ≤ 9 := by
      have := mT_append (t.take (i + 1)) (t.drop (i + 1)); rw [List.take_append_drop] at this; omega
    have hm' : mT (t.take i) ≤ 9 := by
      have := mT_append (t.take i) (t.drop i); rw [List.take_append_drop] at this; omega
    have ho1 : okPs (t.take i) := fun q hq => ho q (List.mem_of_mem_take hq)
    have ho2 : okPs (t.take (i + 1)) := fun q hq => ho q (List.mem_of_mem_take hq)
    have b1 := gT_bd hU hD (t.take i) ho1 hm'
    have b2 := gT_bd hU hD (t.take (i + 1)) ho2 hm
    rw [eg] at b2 ih
    have main := gw_l1 U D hU hD t[i] hp t (t.length : Int) (i : Int) (gT U D (t.take i)) (fr (gT U D t)) b1 b2 (by rw [w64s (by omega)]; exact ih) (nP t[i] + 1) 0 (by omega)
    have f0 := fraction_ev 0 1 (by omega) (by omega) (by omega) (by omega) (by omega)
    have f1 := fraction_ev 1 1 (by omega) (by omega) (by omega) (by omega) (by omega)
    have s0 : sI U D t[i].f2 0 = ((0 : Int) : Rat) / ((1 : Int) : Rat) := by simp [sI, gA]
    have s1 : tI U D 0 = ((1 : Int) : Rat) / ((1 : Int) : Rat) := by simp [tI]
    rw [s0, s1] at main
    refine ev_succ ?_
    simp only [impl_gainWith.l0]
    rw [rdP hi]
    refine ev_pos (by omega) (ev_pos (by omega) (ev_pos (by omega) (Ev.bind f0 (Ev.bind f1 ?_))))
    exact main
theorem gw_ev (U D : Int) (hU : 10 ≤ U ∧ U ≤ 20) (hD : 10 ≤ D ∧ D ≤ 20) (t : List S27) (ho : okPs t) (hs : mT t ≤ 9) (hn : t.length ≤ 100) :
    Ev (fun k => impl_gainWith.f k t ((U : Rat) / (D : Rat)).num (((U : Rat) / (D : Rat)).den : Int)) (fr (gT U D t)) := by
  have := gw_l0 U D hU hD t ho hs hn t.length 0 (by omega)
  have f1 := fraction_ev 1 1 (by omega) (by omega) (by omega) (by omega) (by omega)
  have e1 : ((1 : Int) : Rat) / ((1 : Int) : Rat) = 1 := by simp; grind
  rw [e1] at f1
  simp only [impl_gainWith.f]
  exact Ev.bind f1 this

theorem okT_few {t : List S27} (h : okT t) (hs : shT t ≤ 9) : okPs t ∧ mT t ≤ 9 ∧ t.length ≤ 100 := by
  have := mT_eq h.1
  have := h.2.2
  exact ⟨h.1, by omega, by omega⟩

theorem specRaise_ev (t : List S27) (loss : Int) (h : okT t) (hs : shT t ≤ 9) (hl : 0 ≤ loss ∧ loss ≤ 10) : Ev (fun k => spec_l06Raise.f k t loss) (fr (gT (20 - loss) 20 t)) := by
  obtain ⟨h1, h2, h3⟩ := okT_few h hs
  simp only [spec_l06Raise.f]
  rw [w64 (x := 20 - loss) (by omega) (by omega)]
  exact Ev.bind (l06All_ev (20 - loss) 20 (by omega) (by omega) t h1 h2 h3) (Ev.now _)
theorem implRaise_ev (t : List S27) (loss : Int) (h : okT t) (hs : shT t ≤ 9) (hl : 0 ≤ loss ∧ loss ≤ 10) : Ev (fun k => impl_raiseGain.f k t loss) (fr (gT (20 - loss) 20 t)) := by
  obtain ⟨h1, h2, h3⟩ := okT_few h hs
  simp only [impl_raiseGain.f]
  rw [w64 (x := 20 - loss) (by omega) (by omega)]
  exact Ev.bind (fraction_ev (20 - loss) 20 (by omega) (by omega) (by omega) (by omega) (by omega)) (Ev.bind (gw_ev (20 - loss) 20 (by omega) (by omega) t h1 h2 h3) (Ev.now _))

theorem less_step {a b c d : Int} (hb : 0 < b) (hd : 0 < d) (h : a / b = c / d) : a * d < c * b ↔ a % b * d < c % d * b := by
  have e1 := Int.emod_add_mul_ediv a b
  have e2 := Int.emod_add_mul_ediv c d
  rw [h] at e1
  generalize c / d = q at *
  have x1 : a * d = a % b * d + b * q * d := by rw [← Int.add_mul, e1]
  have x2 : c * b = c % d * b + d * q * b := by rw [← Int.add_mul, e2]
  have x3 : b * q * d = d * q * b := by grind
  omega
theorem less_quot {a b c d : Int} (hb : 0 < b) (hd : 0 < d) (h : a / b < c / d) : a * d < c * b := by
  have e1 := Int.emod_add_mul_ediv a b
  have e2 := Int.emod_add_mul_ediv c d
  have r1 := Int.emod_lt_of_pos a hb
  have r2 := Int.emod_nonneg c (show d ≠ 0 by omega)
  generalize a / b = x at *
  generalize c / d = y at *
  have h1 : a < b * (x + 1) := by rw [Int.mul_add]; omega
  have h2 : d * y ≤ c := by omega
  have h3 : a * d < b * (x + 1) * d := Int.mul_lt_mul_of_pos_right h1 hd
  have h4 : d * y * b ≤ c * b := Int.mul_le_mul_of_nonneg_right h2 (by omega)
  have h5 : b * (x + 1) * d ≤ d * y * b := by
    have : b * (x + 1) * d = d * (x + 1) * b := by grind
    rw [this]
    exact Int.mul_le_mul_of_nonneg_right (Int.mul_le_mul_of_nonneg_left (by omega) (by omega)) (by omega)
  omega
theorem less_l0 : ∀ (n : Nat) (a b c d : Int), (b + d).toNat ≤ n → 0 ≤ a → a ≤ 4611686018427387904 → 0 < b → b ≤ 4611686018427387904 → 0 ≤ c → c ≤ 4611686018427387904 → 0 < d → d ≤ 4611686018427387904 →
    Ev (fun k => spec_l06Less.l0 k a b c d) (decide (a * d < c * b))
  | n, a, b, c, d, hn, ha, ha', hb, hb', hc, hc', hd, hd' => by
    have qa := Int.ediv_le_self b ha
    have qa0 := Int.ediv_nonneg ha (Int.le_of_lt hb)
    have qc := Int.ediv_le_self d hc
    have qc0 := Int.ediv_nonneg hc (Int.le_of_lt hd)
    have ra := Int.emod_nonneg a (show b ≠ 0 by omega)
    have ra' := Int.emod_lt_of_pos a hb
    have rc := Int.emod_nonneg c (show d ≠ 0 by omega)
    have rc' := Int.emod_lt_of_pos c hd
    refine ev_succ ?_
    simp only [spec_l06Less.l0]
    rw [Int.tdiv_eq_ediv_of_nonneg ha, Int.tdiv_eq_ediv_of_nonneg hc, Int.tmod_eq_emod_of_nonneg ha, Int.tmod_eq_emod_of_nonneg hc, w64 (x := a / b) (by omega) (by omega), w64 (x := c / d) (by omega) (by omega)]
    refine ev_neg (by omega) (ev_neg (by omega) (ev_if (fun h => ?_) (fun h => ev_some ?_)))
    · have st := less_step hb hd h
      refine ev_if (fun g => ev_some ?_) (fun g => ev_if (fun f => ev_some ?_) (fun f => ?_))
      · symm; apply ofd; rw [st, g, Int.zero_mul]
        have := Int.mul_nonneg ra (Int.le_of_lt hd); omega
      · symm; apply ofd1; rw [st, f, Int.zero_mul]
        exact Int.mul_pos (by omega) hb
      · match n, hn with
        | 0, hn => omega
        | n + 1, hn =>
          have ih := less_l0 n d (c % d) b (a % b) (by omega) (by omega) (by omega) (by omega) (by omega) (by omega) (by omega) (by omega) (by omega)
          have e : decide (d * (a % b) < b * (c % d)) = decide (a * d < c * b) := by
            apply decide_eq_decide.2; rw [st, Int.mul_comm d, Int.mul_comm b]
          rw [e] at ih; exact ih
    · apply decide_eq_decide.2
      constructor
      · intro g; exact less_quot hb hd g
      · intro g
        rcases Int.lt_trichotomy (a / b) (c / d) with q | q | q
        · exact q
        · exact absurd q h
        · have := less_quot hd hb q; omega
theorem less_ev (a b c d : Int) (ha : 0 ≤ a) (ha' : a ≤ 4611686018427387904) (hb : 0 < b) (hb' : b ≤ 4611686018427387904) (hc : 0 ≤ c) (hc' : c ≤ 4611686018427387904) (hd : 0 < d) (hd' : d ≤ 4611686018427387904) :
    Ev (fun k => spec_l06Less.f k a b c d) (decide (a * d < c * b)) := by
  simp only [spec_l06Less.f]
  exact less_l0 _ a b c d (Nat.le_refl _) ha ha' hb hb' hc hc' hd hd'

theorem low32 (x : Int) (h0 : 0 ≤ x) (h1 : x < 18446744073709551616) : Go.bits .and .u64 x 4294967295 = x % 4294967296 := by
  rw [u64_and x 4294967295 h0 h1 (by omega) (by omega)]
  have e : x.toNat &&& (4294967295 : Int).toNat = x.toNat % 2 ^ 32 := Nat.and_two_pow_sub_one_eq_mod x.toNat 32
  rw [e]; omega
theorem u64w (x : Int) : IntKind.u64.wrap x = x % 18446744073709551616 := by simp [IntKind.wrap, IntKind.bits, IntKind.signed]
theorem mul64_eq (a b : Int) (ha : 0 ≤ a) (ha' : a < 18446744073709551616) (hb : 0 ≤ b) (hb' : b < 18446744073709551616) :
    bits_Mul64.f a b = some (a * b / 18446744073709551616, a * b % 18446744073709551616) := by
  unfold bits_Mul64.f
  rw [low32 a ha ha', low32 b hb hb']
  simp only [u64w]
  have d1 : a / 4294967296 * (b / 4294967296) ≤ 4294967295 * 4294967295 ∧ 0 ≤ a / 4294967296 * (b / 4294967296) := ⟨Int.mul_le_mul (by omega) (by omega) (by omega) (by omega), Int.mul_nonneg (by omega) (by omega)⟩
  have d2 : a / 4294967296 * (b % 4294967296) ≤ 4294967295 * 4294967295 ∧ 0 ≤ a / 4294967296 * (b % 4294967296) := ⟨Int.mul_le_mul (by omega) (by omega) (by omega) (by omega), Int.mul_nonneg (by omega) (by omega)⟩
  have d3 : a % 4294967296 * (b % 4294967296) ≤ 4294967295 * 4294967295 ∧ 0 ≤ a % 4294967296 * (b % 4294967296) := ⟨Int.mul_le_mul (by omega) (by omega) (by omega) (by omega), Int.mul_nonneg (by omega) (by omega)⟩
  have d4 : a % 4294967296 * (b / 4294967296) ≤ 4294967295 * 4294967295 ∧ 0 ≤ a % 4294967296 * (b / 4294967296) := ⟨Int.mul_le_mul (by omega) (by omega) (by omega) (by omega), Int.mul_nonneg (by omega) (by omega)⟩
  have e : a * b = a / 4294967296 * (b / 4294967296) * 18446744073709551616 + (a / 4294967296 * (b % 4294967296) + a % 4294967296 * (b / 4294967296)) * 4294967296 + a % 4294967296 * (b % 4294967296) := by
    have ea : a = a / 4294967296 * 4294967296 + a % 4294967296 := by omega
    have eb : b = b / 4294967296 * 4294967296 + b % 4294967296 := by omega
    generalize a / 4294967296 = x at *
    generalize a % 4294967296 = y at *
    generalize b / 4294967296 = z at *
    generalize b % 4294967296 = w at *
    subst ea eb
    grind
  have hhi : a * b / 18446744073709551616 < 18446744073709551616 := by
    have : a * b ≤ 18446744073709551615 * 18446744073709551615 := Int.mul_le_mul (by omega) (by omega) (by omega) (by omega)
    omega
  rw [e] at hhi ⊢
  generalize a / 4294967296 * (b / 4294967296) = S at *
  generalize a / 4294967296 * (b % 4294967296) = Q at *
  generalize a % 4294967296 * (b % 4294967296) = P at *
  generalize a % 4294967296 * (b / 4294967296) = R at *
  clear e
  congr 1
  apply Prod.ext
  · show _ = _
    dsimp only
    rw [Int.emod_eq_of_lt d1.2 (by omega), Int.emod_eq_of_lt d2.2 (by omega), Int.emod_eq_of_lt d3.2 (by omega), Int.emod_eq_of_lt d4.2 (by omega)]
    rw [Int.emod_eq_of_lt (a := Q + P / 4294967296) (by omega) (by omega), low32 _ (by omega) (by omega)]
    rw [Int.emod_eq_of_lt (a := (Q + P / 4294967296) % 4294967296 + R) (by omega) (by omega)]
    rw [Int.emod_eq_of_lt (a := S + (Q + P / 4294967296) / 4294967296) (by omega) (by omega)]
    have hs : S ≤ 18446744065119617025 := d1.1
    have key : (S * 18446744073709551616 + (Q + R) * 4294967296 + P) / 18446744073709551616 = S + (Q + P / 4294967296) / 4294967296 + ((Q + P / 4294967296) % 4294967296 + R) / 4294967296 := by
      omega
    have hh : (S * 18446744073709551616 + (Q + R) * 4294967296 + P) / 18446744073709551616 < 18446744073709551616 := hhi
    have hl : 0 ≤ S + (Q + P / 4294967296) / 4294967296 + ((Q + P / 4294967296) % 4294967296 + R) / 4294967296 := by omega
    rw [key] at hh ⊢
    exact Int.emod_eq_of_lt hl hh
  · rfl

def cmpI (x y : Int) : Int := if x < y then -1 else if x > y then 1 else 0
theorem or2_ev (x y : Int) : Ev (fun k => cmp_Or_int.f k [x, y]) (if x = 0 then y else x) := by
  simp only [cmp_Or_int.f]
  have e2 : Ev (fun k => cmp_Or_int.l0 k 0 [x, y] 2 2) 0 := by
    refine ev_succ ?_; simp only [cmp_Or_int.l0]; exact ev_neg (by omega) (Ev.now _)
  have e1 : Ev (fun k => cmp_Or_int.l0 k 0 [x, y] 2 1) y := by
    refine ev_succ ?_; simp only [cmp_Or_int.l0]
    refine ev_pos (by omega) (ev_pos (by omega) (ev_pos (by simp) (ev_if (fun h => ?_) (fun h => ev_some rfl))))
    have h' : y = 0 := h
    rw [h', w64 (by omega) (by omega)]
    rw [h'] at e2
    exact e2
  refine ev_succ ?_; simp only [cmp_Or_int.l0]
  refine ev_pos (by simp) (ev_pos (by omega) (ev_pos (by simp) (ev_if (fun h => ?_) (fun h => ev_some ?_))))
  · have h' : x = 0 := h
    rw [if_pos h', w64 (by omega) (by omega)]
    exact e1
  · have h' : ¬ x = 0 := h
    rw [if_neg h']; rfl
theorem cmpU_eq (x y : Int) : cmp_Compare_uint64.f x y = some (cmpI x y) := by
  unfold cmp_Compare_uint64.f cmp_isNaN_uint64.f cmpI
  simp only [bne_self_eq_false, Option.bind_some, Bool.false_eq_true, if_false]
  by_cases h1 : x < y
  · rw [if_pos h1, if_pos h1]
  · rw [if_neg h1, if_neg h1]
    by_cases h2 : x > y
    · rw [if_pos h2, if_pos h2]
    · rw [if_neg h2, if_neg h2]
theorem cmpP_ev (a b c d : Int) (ha : 0 ≤ a) (ha' : a < 18446744073709551616) (hb : 0 ≤ b) (hb' : b < 18446744073709551616) (hc : 0 ≤ c) (hc' : c < 18446744073709551616) (hd : 0 ≤ d) (hd' : d < 18446744073709551616) :
    Ev (fun k => impl_compareProducts.f k a b c d) (cmpI (a * b) (c * d)) := by
  simp only [impl_compareProducts.f]
  refine ev_now (mul64_eq a b ha ha' hb hb') (ev_now (mul64_eq c d hc hc' hd hd') (ev_now (cmpU_eq _ _) (ev_now (cmpU_eq _ _) (Ev.bind (or2_ev _ _) (ev_some ?_)))))
  dsimp only
  generalize a * b = p
  generalize c * d = q
  unfold cmpI
  repeat' split
  all_goals omega

theorem size_eq (a : Int) (h : 0 ≤ a) (h' : a < 9223372036854775808) : impl_size.f a = some a := by
  unfold impl_size.f; rw [if_neg (by omega), u64w, Int.emod_eq_of_lt h (by omega)]
theorem cmpFr_ev (a b c d : Int) (ha : 0 < a) (ha' : a < 9223372036854775808) (hb : 0 < b) (hb' : b < 9223372036854775808) (hc : 0 < c) (hc' : c < 9223372036854775808) (hd : 0 < d) (hd' : d < 9223372036854775808) :
    Ev (fun k => impl_compareFractions.f k a b c d) (cmpI (a * d) (c * b)) := by
  have s1 : impl_sign.f a = some 1 := by unfold impl_sign.f; rw [if_pos ha]
  have s2 : impl_sign.f c = some 1 := by unfold impl_sign.f; rw [if_pos hc]
  have c0 : cmp_Compare_int64.f 1 1 = some 0 := by decide
  have e1 := cmpP_ev a d c b (by omega) (by omega) (by omega) (by omega) (by omega) (by omega) (by omega) (by omega)
  simp only [impl_compareFractions.f]
  refine ev_now s1 (ev_now s2 (ev_now c0 (ev_now s1 (ev_now (size_eq a (by omega) ha') (ev_now (size_eq d (by omega) hd') (ev_now (size_eq c (by omega) hc') (ev_now (size_eq b (by omega) hb') (Ev.bind e1 ?_))))))))
  have hb : -1 ≤ cmpI (a * d) (c * b) ∧ cmpI (a * d) (c * b) ≤ 1 := by unfold cmpI; repeat' split
                                                                       all_goals omega
  rw [Int.one_mul, w64 (by omega) (by omega)]
  exact Ev.bind (or2_ev _ _) (ev_some (by rw [if_pos rfl]))

theorem key (t u : List S27) (ht : t.length ≤ 1048576) (hu : u.length ≤ 1048576) (a : Int) : ∃ r : Int × Int, Ev (fun k => spec_CompareTackles.f k t u a) r ∧ Ev (fun k => impl_CompareTackles.f k t u a) r := by
  have ei := rough_ev [t, u] (by simp) a 1
  have j0 : Ev (fun k => spec_CompareTackles.j0 k t u a true) (0, 1) := by
    refine ev_succ ?_; simp only [spec_CompareTackles.j0]; exact ev_pos (by trivial) (Ev.now _)
  have fail : ∀ c : Int, c ≠ 0 → codeR [t, u] a 1 = c → Ev (fun k => impl_CompareTackles.f k t u a) (0, c) := by
    intro c hc e
    rw [e] at ei
    simp only [impl_CompareTackles.f]; exact Ev.bind ei (ev_neg hc (Ev.now _))
  have cr : codeR [t, u] a 1 = if okT t ∧ okT u then (if (0 ≤ a ∧ a ≤ 10) ∧ ((1 : Int) ≤ 1 ∧ (1 : Int) ≤ 100000) then (if shT t ≤ 9 ∧ shT u ≤ 9 then 0 else 5) else 2) else 1 := by
    unfold codeR; simp only [List.mem_cons, List.not_mem_nil, or_false, forall_eq_or_imp, forall_eq]
  by_cases h1 : okT t
  · by_cases h2 : okT u
    · have eot := l05Ok_ev t (by omega)
      have eou := l05Ok_ev u (by omega)
      rw [ofd1 h1] at eot
      rw [ofd1 h2] at eou
      have ct := l06Code_ev t (by omega) a 1
      have cu := l06Code_ev u (by omega) a 1
      have j1f : ∀ c : Int, c ≠ 0 → Ev (fun k => spec_CompareTackles.j1 k t u a c) (0, c) := by
        intro c hc
        refine ev_succ ?_; simp only [spec_CompareTackles.j1]; exact ev_neg hc (Ev.now _)
      have sp : ∀ r, Ev (fun k => spec_CompareTackles.j0 k t u a false) r → Ev (fun k => spec_CompareTackles.f k t u a) r := by
        intro r hr
        simp only [spec_CompareTackles.f]
        exact Ev.bind eot (ev_pos (by trivial) (Ev.bind eou hr))
      by_cases h3 : 0 ≤ a ∧ a ≤ 10
      · by_cases h4 : shT t ≤ 9
        · have zt : codeL t a 1 = 0 := by unfold codeL; rw [if_pos h1, if_pos ⟨h3, by omega, by omega⟩, if_neg (by omega)]
          rw [zt] at ct
          by_cases h5 : shT u ≤ 9
          · have zu : codeL u a 1 = 0 := by unfold codeL; rw [if_pos h2, if_pos ⟨h3, by omega, by omega⟩, if_neg (by omega)]
            rw [zu] at cu
            have e1 := specRaise_ev t a h1 h4 h3
            have e2 := specRaise_ev u a h2 h5 h3
            have f1 := implRaise_ev t a h1 h4 h3
            have f2 := implRaise_ev u a h2 h5 h3
            obtain ⟨o1, o2, o3⟩ := okT_few h1 h4
            obtain ⟨p1, p2, p3⟩ := okT_few h2 h5
            have b1 := gT_bd (U := 20 - a) (D := 20) (by omega) (by omega) t o1 o2
            have b2 := gT_bd (U := 20 - a) (D := 20) (by omega) (by omega) u p1 p2
            have d1 := den_pos (gT (20 - a) 20 t)
            have d2 := den_pos (gT (20 - a) 20 u)
            generalize gT (20 - a) 20 t = x at *
            generalize gT (20 - a) 20 u = y at *
            have l1 := less_ev x.num (x.den : Int) y.num (y.den : Int) (by omega) (by omega) d1 (by omega) (by omega) (by omega) d2 (by omega)
            have l2 := less_ev y.num (y.den : Int) x.num (x.den : Int) (by omega) (by omega) d2 (by omega) (by omega) (by omega) d1 (by omega)
            have g := cmpFr_ev x.num (x.den : Int) y.num (y.den : Int) (by omega) (by omega) d1 (by omega) (by omega) (by omega) d2 (by omega)
            refine ⟨(cmpI (x.num * (y.den : Int)) (y.num * (x.den : Int)), 0), sp _ ?_, ?_⟩
            · refine ev_succ ?_; simp only [spec_CompareTackles.j0]
              refine ev_neg (by simp) (Ev.bind ct (ev_pos (by trivial) (Ev.bind cu ?_)))
              refine ev_succ ?_; simp only [spec_CompareTackles.j1]
              refine ev_pos (by trivial) (Ev.bind e1 (Ev.bind e2 (Ev.bind l1 (ev_if (fun q => ev_some ?_) (fun q => Ev.bind l2 (ev_if (fun q2 => ev_some ?_) (fun q2 => ev_some ?_)))))))
              · unfold cmpI; rw [if_pos (of_decide_eq_true q)]
              · unfold cmpI; rw [if_neg (fun z => q (ofd1 z)), if_pos (of_decide_eq_true q2)]
              · unfold cmpI; rw [if_neg (fun z => q (ofd1 z)), if_neg (fun z => q2 (ofd1 z))]
            · have z : codeR [t, u] a 1 = 0 := by rw [cr, if_pos ⟨h1, h2⟩, if_pos ⟨h3, by omega, by omega⟩, if_pos ⟨h4, h5⟩]
              rw [z] at ei
              simp only [impl_CompareTackles.f]
              exact Ev.bind ei (ev_pos (by trivial) (Ev.bind f1 (Ev.bind f2 (Ev.bind g (Ev.now _)))))
          · have zu : codeL u a 1 = 5 := by unfold codeL; rw [if_pos h2, if_pos ⟨h3, by omega, by omega⟩, if_pos (by omega)]
            rw [zu] at cu
            refine ⟨(0, 5), sp _ ?_, fail 5 (by omega) (by rw [cr, if_pos ⟨h1, h2⟩, if_pos ⟨h3, by omega, by omega⟩, if_neg (fun q => h5 q.2)])⟩
            refine ev_succ ?_; simp only [spec_CompareTackles.j0]
            exact ev_neg (by simp) (Ev.bind ct (ev_pos (by trivial) (Ev.bind cu (j1f 5 (by omega)))))
        · have zt : codeL t a 1 = 5 := by unfold codeL; rw [if_pos h1, if_pos ⟨h3, by omega, by omega⟩, if_pos (by omega)]
          rw [zt] at ct
          refine ⟨(0, 5), sp _ ?_, fail 5 (by omega) (by rw [cr, if_pos ⟨h1, h2⟩, if_pos ⟨h3, by omega, by omega⟩, if_neg (fun q => h4 q.1)])⟩
          refine ev_succ ?_; simp only [spec_CompareTackles.j0]
          exact ev_neg (by simp) (Ev.bind ct (ev_neg (by omega) (j1f 5 (by omega))))
      · have zt : codeL t a 1 = 2 := by unfold codeL; rw [if_pos h1, if_neg (fun q => h3 q.1)]
        rw [zt] at ct
        refine ⟨(0, 2), sp _ ?_, fail 2 (by omega) (by rw [cr, if_pos ⟨h1, h2⟩, if_neg (fun q => h3 q.1)])⟩
        refine ev_succ ?_; simp only [spec_CompareTackles.j0]
        exact ev_neg (by simp) (Ev.bind ct (ev_neg (by omega) (j1f 2 (by omega))))
    · refine ⟨(0, 1), ?_, fail 1 (by omega) (by rw [cr, if_neg (fun q => h2 q.2)])⟩
      have eot := l05Ok_ev t (by omega)
      have eou := l05Ok_ev u (by omega)
      rw [ofd1 h1] at eot
      rw [ofd h2] at eou
      simp only [spec_CompareTackles.f]
      exact Ev.bind eot (ev_pos (by trivial) (Ev.bind eou j0))
  · refine ⟨(0, 1), ?_, fail 1 (by omega) (by rw [cr, if_neg (fun q => h1 q.1)])⟩
    have eot := l05Ok_ev t (by omega)
    rw [ofd h1] at eot
    simp only [spec_CompareTackles.f]
    exact Ev.bind eot (ev_neg (by simp) j0)
theorem FnExactCompareTackles : laws_FnExactCompareTackles.Pure := by
  intro l0 l1 a2 hl _ hl1 _ _
  refine Ev.rounds ?_
  simp only [laws_FnExactCompareTackles.f]
  refine ev_now (szPurchaseS_eq l0 1048576 hl (by omega) (by omega)) (ev_if (fun _ => Ev.now _) (fun h => ?_))
  have hn : l0.length ≤ 1048576 := by
    by_cases g : (1048576 : Int) - (l0.length : Int) < 0
    · rw [if_pos g] at h; omega
    · omega
  rw [if_neg (show ¬ ((1048576 : Int) - (l0.length : Int) < 0) by omega)]
  refine ev_now (szPurchaseS_eq l1 _ hl1 (by omega) (by omega)) (ev_if (fun _ => Ev.now _) (fun h => ?_))
  have hn1 : l1.length ≤ 1048576 := by
    by_cases g : (1048576 : Int) - (l0.length : Int) - (l1.length : Int) < 0
    · rw [if_pos g] at h; omega
    · omega
  have t0 := toPurchaseS_ev l0 hn
  have t1 := toPurchaseS_ev l1 hn1
  have hm : (l0.map convPurchase).length ≤ 1048576 := by simpa using hn
  have hm1 : (l1.map convPurchase).length ≤ 1048576 := by simpa using hn1
  obtain ⟨r, e1, e2⟩ := key (l0.map convPurchase) (l1.map convPurchase) hm hm1 a2
  have : (r.2 != r.2) = false := by simp
  refine Ev.bind t0 (Ev.bind t1 (Ev.bind e1 (Ev.bind t0 (Ev.bind t1 (Ev.bind e2 (ev_pos (by trivial) ?_))))))
  rw [this]
  refine ev_succ ?_; simp only [laws_FnExactCompareTackles.j0]
  exact ev_neg (by simp) (Ev.bind t0 (Ev.bind (eqPurchaseS_self _ hm) (ev_pos (by trivial) (Ev.bind t1 (Ev.bind (eqPurchaseS_self _ hm1) (ev_pos (by trivial) (Ev.now _)))))))

end Go.Proofs.Ytdhdokhfgadikaa.PureFnExactCompareTackles
namespace Go.Proofs.Ytdhdokhfgadikaa.Pure
open Go.Proofs.Ytdhdokhfgadikaa.HFnExactCompareTackles
theorem FnExactCompareTackles : laws_FnExactCompareTackles.Pure := PureFnExactCompareTackles.FnExactCompareTackles
end Go.Proofs.Ytdhdokhfgadikaa.Pure
