/- The program's function answers as the statement says. Conditions: none beyond the given statement's own. -/
import Derived.Test.YtbfgdnogblagaaaHFnExactCutFaultx4
import Derived.Test.YtbfgdnogblagaaaLib
set_option linter.unusedVariables false
set_option linter.unusedSimpArgs false
namespace Go.Proofs.Ytbfgdnogblagaaa.PureFnExactCutFault
open Go.RowKit Go.Proofs.Ytbfgdnogblagaaa.HFnExactCutFault Go.Proofs.YtbfgdnogblagaaaW.PrintWords Go.Proofs.YtbfgdnogblagaaaW.PrintLast Go.Proofs.YtbfgdnogblagaaaW.PrintMore Go.Proofs.Ytbfgdnogblagaaa.Lib
theorem toInt64S_l0 (x0 : List Int) (hn : x0.length ≤ 35184372088832) : ∀ (d i : Nat) (x3 : List Int), i + d = x0.length → x3.length = x0.length → x3.take i = x0.take i →
    Ev (fun k => laws_toInt64S.l0 k x0 x3 (i : Int)) x0
  | 0, i, x3, hd, hl, ht => by
    refine ev_succ ?_
    simp only [laws_toInt64S.l0]
    refine ev_neg (by omega) (ev_some ?_)
    rw [List.take_of_length_le (by omega), List.take_of_length_le (by omega)] at ht; exact ht
  | d + 1, i, x3, hd, hl, ht => by
    refine ev_succ ?_
    simp only [laws_toInt64S.l0]
    refine ev_pos (by omega) (ev_pos (by omega) (ev_pos (by omega) ?_))
    rw [w64s (by omega), Int.toNat_natCast, rd_nat (by omega)]
    exact toInt64S_l0 x0 hn d (i + 1) _ (by omega) (by simpa using hl) (take_set _ _ _ _ (by omega) (by omega) ht rfl)
theorem toInt64S_ev (l : List Int) (hn : l.length ≤ 35184372088832) : Ev (fun k => laws_toInt64S.f k l) l := by
  simp only [laws_toInt64S.f]
  refine ev_pos (by omega) (ev_pos (by omega) ?_)
  exact toInt64S_l0 l (by omega) l.length 0 _ (by omega) (by simp) (by simp)
theorem eqInt64S_l0 (x0 x1 : List Int) (hl : x0.length = x1.length) (hn : x0.length ≤ 35184372088832) : ∀ (d i : Nat), i + d = x0.length → x0.take i = x1.take i →
    Ev (fun k => laws_eqInt64S.l0 k x0 x1 (i : Int)) (decide (x0 = x1))
  | 0, i, hd, ht => by
    refine ev_succ ?_
    simp only [laws_eqInt64S.l0]
    refine ev_neg (by omega) (ev_some ?_)
    rw [List.take_of_length_le (by omega), List.take_of_length_le (by omega)] at ht; simp [ht]
  | d + 1, i, hd, ht => by
    refine ev_succ ?_
    simp only [laws_eqInt64S.l0]
    refine ev_pos (by omega) (ev_pos (by omega) (ev_pos (by omega) (ev_if (fun h => ?_) (fun h => ev_some ?_))))
    · rw [w64s (by omega)]
      refine eqInt64S_l0 x0 x1 hl hn d (i + 1) (by omega) ?_
      rw [rd_nat (by omega), rd_nat (by omega)] at h
      rw [List.take_succ_eq_append_getElem (by omega), List.take_succ_eq_append_getElem (by omega), ht, h]
    · rw [rd_nat (by omega), rd_nat (by omega)] at h
      symm; rw [decide_eq_false_iff_not]; rintro rfl; exact h rfl
theorem eqInt64S_ev (a b : List Int) (hn : a.length ≤ 35184372088832) : Ev (fun k => laws_eqInt64S.f k a b) (decide (a = b)) := by
  simp only [laws_eqInt64S.f]
  refine ev_if (fun h => ?_) (fun h => ev_some ?_)
  · exact eqInt64S_l0 a b (by omega) hn a.length 0 (by omega) (by simp)
  · symm; rw [decide_eq_false_iff_not]; rintro rfl; exact h rfl
theorem eqInt64S_self (a : List Int) (hn : a.length ≤ 35184372088832) : Ev (fun k => laws_eqInt64S.f k a a) true := by
  simpa using eqInt64S_ev a a hn

theorem l00In_eq (a b c : Int) : spec_l00In.f a b c = some (decide (b ≤ a ∧ a ≤ c)) := by
  unfold spec_l00In.f; by_cases h : a ≥ b <;> simp [h]

theorem within_eq (a b c : Int) : impl_within.f a b c = some (decide (b ≤ a ∧ a ≤ c)) := by
  unfold impl_within.f; by_cases h : a ≥ b <;> simp [h]

def okL (l : List Int) : Prop := ∀ x ∈ l, 1 ≤ x ∧ x ≤ 20000
instance (l : List Int) : Decidable (okL l) := inferInstanceAs (Decidable (∀ x ∈ l, 1 ≤ x ∧ x ≤ 20000))
def okC (a b : List Int) : Prop := okL a ∧ okL b ∧ a.length ≤ 5 ∧ b.length ≤ 7
instance (a b : List Int) : Decidable (okC a b) := inferInstanceAs (Decidable (okL a ∧ okL b ∧ a.length ≤ 5 ∧ b.length ≤ 7))
theorem okL_drop {l : List Int} {i : Nat} (h : i < l.length) : okL (l.drop i) ↔ (1 ≤ l[i] ∧ l[i] ≤ 20000) ∧ okL (l.drop (i + 1)) := all_drop h

theorem iValidCoils_l1 (x19 : List (List Int)) (x20 x21 : Int) (x25 : List Int) (hn : x25.length ≤ 35184372088832) (r : Bool)
    (hr : okL x25 → Ev (fun k => impl_ValidCoils.l0 k x19 x20 (wrap64 (x21 + 1))) r) (hr' : ¬ okL x25 → r = false) : ∀ (d i : Nat), i + d = x25.length → (okL (x25.drop i) → okL x25) →
    Ev (fun k => impl_ValidCoils.l1 k x19 x20 x21 x25 (x25.length : Int) (i : Int)) r
  | 0, i, hd, hi => by
    refine ev_succ ?_
    simp only [impl_ValidCoils.l1]
    refine ev_neg (by omega) ?_
    have : x25.drop i = [] := by simp; omega
    exact hr (hi (by rw [this]; simp [okL]))
  | d + 1, i, hd, hi => by
    refine ev_succ ?_
    simp only [impl_ValidCoils.l1]
    refine ev_pos (by omega) (ev_pos (by omega) (ev_pos (by omega) (ev_now (within_eq _ _ _) (ev_if (fun h => ?_) (fun h => ev_some ?_)))))
    · rw [w64s (by omega)]
      rw [rd_nat (by omega)] at h
      refine iValidCoils_l1 x19 x20 x21 x25 hn r hr hr' d (i + 1) (by omega) (fun g => hi ?_)
      rw [okL_drop (by omega)]; exact ⟨of_decide_eq_true h, g⟩
    · rw [rd_nat (by omega)] at h
      symm; apply hr'; intro g
      apply h; apply ofd1; exact g _ (List.getElem_mem _)
theorem iValidCoils_ev (a b : List Int) (ha : a.length ≤ 35184372088832) (hb : b.length ≤ 35184372088832) :
    Ev (fun k => impl_ValidCoils.f k a b) (decide (okC a b)) := by
  have e2 : Ev (fun k => impl_ValidCoils.l0 k [a, b] 2 2) true := by
    refine ev_succ ?_; simp only [impl_ValidCoils.l0]; exact ev_neg (by omega) (Ev.now _)
  have e1 : Ev (fun k => impl_ValidCoils.l0 k [a, b] 2 1) (decide (okL b)) := by
    refine ev_succ ?_; simp only [impl_ValidCoils.l0]
    refine ev_pos (by omega) (ev_pos (by omega) (ev_pos (by simp) ?_))
    refine iValidCoils_l1 [a, b] 2 1 b hb _ (fun h => ?_) (fun h => ofd h) b.length 0 (by omega) (fun h => by simpa using h)
    rw [ofd1 h, w64 (by omega) (by omega)]; exact e2
  have e0 : Ev (fun k => impl_ValidCoils.l0 k [a, b] 2 0) (decide (okL a ∧ okL b)) := by
    refine ev_succ ?_; simp only [impl_ValidCoils.l0]
    refine ev_pos (by omega) (ev_pos (by omega) (ev_pos (by simp) ?_))
    refine iValidCoils_l1 [a, b] 2 0 a ha _ (fun h => ?_) (fun h => ofd (fun g => h g.1)) a.length 0 (by omega) (fun h => by simpa using h)
    simp only [h, true_and]; rw [w64 (by omega) (by omega)]; exact e1
  have ej : Ev (fun k => impl_ValidCoils.j0 k a b true) false := by
    refine ev_succ ?_; simp only [impl_ValidCoils.j0]; exact ev_pos (by trivial) (Ev.now _)
  have ek : Ev (fun k => impl_ValidCoils.j0 k a b false) (decide (okL a ∧ okL b)) := by
    refine ev_succ ?_; simp only [impl_ValidCoils.j0]; exact ev_neg (by simp) (ev_now rfl e0)
  simp only [impl_ValidCoils.f]
  refine ev_if (fun h => ?_) (fun h => ?_)
  · rw [ofd (p := okC a b) (fun g => by have := g.2.2.1; omega)]; exact ej
  · by_cases h7 : (b.length : Int) > 7
    · rw [ofd1 h7, ofd (p := okC a b) (fun g => by have := g.2.2.2; omega)]; exact ej
    · rw [ofd h7]
      have : decide (okC a b) = decide (okL a ∧ okL b) := by
        apply decide_eq_decide.2; unfold okC; constructor
        · intro g; exact ⟨g.1, g.2.1⟩
        · intro g; exact ⟨g.1, g.2, by omega, by omega⟩
      rw [this]; exact ek

theorem l08Lengths_l0 (x0 : List Int) (hn : x0.length ≤ 35184372088832) (x1 : Int) : ∀ (d i : Nat), i + d = x0.length → (okL (x0.drop i) → okL x0) →
    Ev (fun k => spec_l08Lengths.l0 k x0 x1 (i : Int)) (decide (okL x0 ∧ (x0.length : Int) ≤ x1))
  | 0, i, hd, hi => by
    refine ev_succ ?_
    simp only [spec_l08Lengths.l0]
    refine ev_neg (by omega) (ev_some ?_)
    have e : x0.drop i = [] := by simp; omega
    have g := hi (by rw [e]; simp [okL])
    simp [g]
  | d + 1, i, hd, hi => by
    refine ev_succ ?_
    simp only [spec_l08Lengths.l0]
    refine ev_pos (by omega) (ev_pos (by omega) (ev_now (l00In_eq _ _ _) (ev_if (fun h => ?_) (fun h => ev_some ?_))))
    · rw [w64s (by omega)]
      rw [rd_nat (by omega)] at h
      refine l08Lengths_l0 x0 hn x1 d (i + 1) (by omega) (fun g => hi ?_)
      rw [okL_drop (by omega)]; exact ⟨of_decide_eq_true h, g⟩
    · rw [rd_nat (by omega)] at h
      symm; apply ofd
      intro g; exact h (ofd1 (g.1 _ (List.getElem_mem _)))
theorem l08Ok_ev (a b : List Int) (ha : a.length ≤ 35184372088832) (hb : b.length ≤ 35184372088832) :
    Ev (fun k => spec_l08Ok.f k a b) (decide (okC a b)) := by
  have e1 := l08Lengths_l0 a ha 5 a.length 0 (by omega) (by simp)
  have e2 := l08Lengths_l0 b hb 7 b.length 0 (by omega) (by simp)
  simp only [spec_l08Ok.f, spec_l08Lengths.f]
  refine Ev.bind e1 (ev_if (fun h => Ev.bind e2 (ev_some ?_)) (fun h => ev_some ?_))
  · have h := of_decide_eq_true h
    apply decide_eq_decide.2; unfold okC; constructor
    · intro g; exact ⟨h.1, g.1, by omega, by omega⟩
    · intro g; exact ⟨g.2.1, by omega⟩
  · symm; apply ofd; intro g; exact h (ofd1 ⟨g.1, by have := g.2.2.1; omega⟩)

def okF (a f : List Int) : Prop := ∀ x ∈ f, 0 ≤ x ∧ x ≤ (a.length : Int) - 1
instance (a f : List Int) : Decidable (okF a f) := inferInstanceAs (Decidable (∀ x ∈ f, 0 ≤ x ∧ x ≤ (a.length : Int) - 1))
theorem okF_drop {a l : List Int} {i : Nat} (h : i < l.length) : okF a (l.drop i) ↔ (0 ≤ l[i] ∧ l[i] ≤ (a.length : Int) - 1) ∧ okF a (l.drop (i + 1)) := all_drop h
def codeC (a b f : List Int) : Int := if okC a b then (if okF a f ∧ f.length = b.length then 0 else 2) else 1
theorem codeC_zero {a b f : List Int} (h : codeC a b f = 0) : okC a b ∧ okF a f ∧ f.length = b.length := by
  unfold codeC at h; split at h
  · split at h
    · exact ⟨‹_›, ‹_›⟩
    · omega
  · omega
theorem sCode_l0 (x0 x1 x2 : List Int) (ha : x0.length ≤ 35184372088832) (hn : x2.length ≤ 35184372088832) : ∀ (d i : Nat), i + d = x2.length → (okF x0 (x2.drop i) → okF x0 x2) →
    Ev (fun k => spec_l08Code.l0 k x0 x1 x2 (i : Int)) (if okF x0 x2 ∧ x2.length = x1.length then 0 else 2)
  | 0, i, hd, hi => by
    refine ev_succ ?_
    simp only [spec_l08Code.l0]
    have e : x2.drop i = [] := by simp; omega
    have g := hi (by rw [e]; simp [okF])
    refine ev_neg (by omega) (ev_if (fun h => ev_some ?_) (fun h => ev_some ?_))
    · rw [if_pos ⟨g, by omega⟩]
    · rw [if_neg (fun q => h (by omega))]
  | d + 1, i, hd, hi => by
    refine ev_succ ?_
    simp only [spec_l08Code.l0]
    rw [rd_nat (by omega), w64s (by omega), w64 (x := (x0.length : Int) - 1) (by omega) (by omega)]
    refine ev_pos (by omega) (ev_pos (by omega) (ev_now (l00In_eq _ _ _) (ev_if (fun h => ?_) (fun h => ev_some ?_))))
    · refine sCode_l0 x0 x1 x2 ha hn d (i + 1) (by omega) (fun g => hi ?_)
      rw [okF_drop (by omega)]; exact ⟨of_decide_eq_true h, g⟩
    · rw [if_neg]; intro g; apply h; apply ofd1; exact g.1 _ (List.getElem_mem _)
theorem sCode_ev (a b f : List Int) (ha : a.length ≤ 35184372088832) (hb : b.length ≤ 35184372088832) (hf : f.length ≤ 35184372088832) :
    Ev (fun k => spec_l08Code.f k a b f) (codeC a b f) := by
  simp only [spec_l08Code.f]
  refine Ev.bind (l08Ok_ev a b ha hb) (ev_if (fun h => ?_) (fun h => ev_some ?_))
  · unfold codeC; rw [if_pos (of_decide_eq_true h)]
    exact sCode_l0 a b f ha hf f.length 0 (by omega) (by simp)
  · unfold codeC; rw [if_neg (fun g => h (ofd1 g))]
theorem iCode_l0 (x0 x18 : List Int) (ha : x0.length ≤ 35184372088832) (hn : x18.length ≤ 35184372088832) : ∀ (d i : Nat), i + d = x18.length → (okF x0 (x18.drop i) → okF x0 x18) →
    Ev (fun k => impl_cutCode.l0 k x0 x18 (x18.length : Int) (i : Int)) (if okF x0 x18 then 0 else 2)
  | 0, i, hd, hi => by
    refine ev_succ ?_
    simp only [impl_cutCode.l0]
    have e : x18.drop i = [] := by simp; omega
    have g := hi (by rw [e]; simp [okF])
    refine ev_neg (by omega) (ev_some ?_)
    rw [if_pos g]
  | d + 1, i, hd, hi => by
    refine ev_succ ?_
    simp only [impl_cutCode.l0]
    rw [rd_nat (by omega), w64s (by omega), w64 (x := (x0.length : Int) - 1) (by omega) (by omega)]
    refine ev_pos (by omega) (ev_pos (by omega) (ev_pos (by omega) (ev_now (within_eq _ _ _) (ev_if (fun h => ?_) (fun h => ev_some ?_)))))
    · refine iCode_l0 x0 x18 ha hn d (i + 1) (by omega) (fun g => hi ?_)
      rw [okF_drop (by omega)]; exact ⟨of_decide_eq_true h, g⟩
    · rw [if_neg]; intro g; apply h; apply ofd1; exact g _ (List.getElem_mem _)
theorem iCode_ev (a b f : List Int) (ha : a.length ≤ 35184372088832) (hb : b.length ≤ 35184372088832) (hf : f.length ≤ 35184372088832) :
    Ev (fun k => impl_cutCode.f k a b f) (codeC a b f) := by
  simp only [impl_cutCode.f]
  refine Ev.bind (iValidCoils_ev a b ha hb) (ev_if (fun h => ?_) (fun h => ev_some ?_))
  · unfold codeC; rw [if_pos (of_decide_eq_true h)]
    refine ev_if (fun g => ?_) (fun g => ev_some ?_)
    · have := iCode_l0 a f ha hf f.length 0 (by omega) (by simp)
      have e : (okF a f ∧ f.length = b.length) = okF a f := by simp; intro _; omega
      simp only [e]; exact this
    · rw [if_neg (fun q => g (by omega))]
  · unfold codeC; rw [if_neg (fun g => h (ofd1 g))]
def faultF : List Int → List Int → List Int → Int → Int × List Int
  | left, p :: ps, f :: fs, i => if rd left f < p then (i, left) else faultF (left.set f.toNat (rd left f - p)) ps fs (i + 1)
  | left, _, _, _ => (-1, left)
def subF : List Int → List Int → List Int → List Int
  | left, p :: ps, f :: fs => subF (left.set f.toNat (rd left f - p)) ps fs
  | left, _, _ => left
theorem rd_set (l : List Int) (f g : Int) (v : Int) (h0 : 0 ≤ f) (h1 : f < l.length) (hg : 0 ≤ g) : rd (l.set f.toNat v) g = if g = f then v else rd l g := by
  obtain ⟨m, rfl⟩ := Int.eq_ofNat_of_zero_le h0
  obtain ⟨n, rfl⟩ := Int.eq_ofNat_of_zero_le hg
  have hm : m < l.length := by omega
  simp only [rd, Int.toNat_natCast, List.getD_eq_getElem?_getD, List.getElem?_set]
  by_cases e : m = n
  · subst e; simp [hm]
  · have : ¬ ((n : Int) = (m : Int)) := by omega
    simp [e, this]
theorem sFault_l0 (x1 x2 : List Int) (h1 : okL x1) (hl : x1.length ≤ 7) (he : x2.length = x1.length) : ∀ (d i : Nat) (x0 : List Int), i + d = x1.length → okF x0 x2 → (∀ g : Int, 0 ≤ g → g < x0.length → 0 ≤ rd x0 g ∧ rd x0 g ≤ 20000) →
    Ev (fun k => spec_l08Fault.l0 k x0 x1 x2 (i : Int)) (faultF x0 (x1.drop i) (x2.drop i) i)
  | 0, i, x0, hd, hf, hx => by
    refine ev_succ ?_
    simp only [spec_l08Fault.l0]
    have e : x1.drop i = [] := by simp; omega
    refine ev_neg (by omega) (ev_some ?_)
    rw [e]; rfl
  | d + 1, i, x0, hd, hf, hx => by
    have hi : i < x1.length := by omega
    have hi2 : i < x2.length := by omega
    have hp := h1 _ (List.getElem_mem hi)
    have hq := hf _ (List.getElem_mem hi2)
    have hr := hx x2[i] hq.1 (by omega)
    refine ev_succ ?_
    simp only [spec_l08Fault.l0]
    rw [rd_nat hi2, rd_nat hi, w64s (by omega), w64 (x := rd x0 x2[i] - x1[i]) (by omega) (by omega), List.drop_eq_getElem_cons hi, List.drop_eq_getElem_cons hi2]
    simp only [faultF]
    refine ev_pos (by omega) (ev_pos (by omega) (ev_pos (by omega) (ev_pos (by omega) (ev_pos (by omega) (ev_if (fun h => ev_some ?_) (fun h => ?_))))))
    · rw [if_pos h]
    · rw [if_neg h]
      refine sFault_l0 x1 x2 h1 hl he d (i + 1) _ (by omega) (by unfold okF at hf ⊢; simpa using hf) (fun g g0 g1 => ?_)
      rw [List.length_set] at g1
      rw [rd_set _ _ _ _ hq.1 (by omega) g0]
      split
      · omega
      · exact hx g g0 g1
theorem faultF_fst (ps fs left : List Int) (i : Int) (h : 0 ≤ i) : (faultF left ps fs i).1 = -1 ∨ 0 ≤ (faultF left ps fs i).1 := by
  induction ps generalizing fs left i with
  | nil => left; simp [faultF]
  | cons p ps ih =>
    cases fs with
    | nil => left; simp [faultF]
    | cons f fs =>
      simp only [faultF]; split
      · right; exact h
      · exact ih _ _ _ (by omega)
theorem okL_rd {x0 : List Int} (h : okL x0) : ∀ g : Int, 0 ≤ g → g < x0.length → 0 ≤ rd x0 g ∧ rd x0 g ≤ 20000 := by
  intro g g0 g1; have := h _ (rd_mem g0 g1); omega

theorem l00Own_eq (l : List Int) (h : l.length < 17592186044416) : spec_l00Own.f l = some l := by
  simp [spec_l00Own.f, h]

theorem iCutFault_l0 (x22 x2 : List Int) (h1 : okL x22) (hl : x22.length ≤ 7) (he : x2.length = x22.length) : ∀ (d i : Nat) (x9 : List Int), i + d = x22.length → okF x9 x2 → (∀ g : Int, 0 ≤ g → g < x9.length → 0 ≤ rd x9 g ∧ rd x9 g ≤ 20000) →
    Ev (fun k => impl_CutFault.l0 k x2 x9 x22 (x22.length : Int) (i : Int)) ((faultF x9 (x22.drop i) (x2.drop i) i).1, 0)
  | 0, i, x9, hd, hf, hx => by
    refine ev_succ ?_
    simp only [impl_CutFault.l0]
    have e : x22.drop i = [] := by simp; omega
    refine ev_neg (by omega) (ev_some ?_)
    rw [e]; rfl
  | d + 1, i, x9, hd, hf, hx => by
    have hi : i < x22.length := by omega
    have hi2 : i < x2.length := by omega
    have hp := h1 _ (List.getElem_mem hi)
    have hq := hf _ (List.getElem_mem hi2)
    have hr := hx x2[i] hq.1 (by omega)
    refine ev_succ ?_
    simp only [impl_CutFault.l0]
    rw [rd_nat hi2, rd_nat hi, w64s (by omega), w64 (x := rd x9 x2[i] - x22[i]) (by omega) (by omega), List.drop_eq_getElem_cons hi, List.drop_eq_getElem_cons hi2]
    simp only [faultF]
    refine ev_pos (by omega) (ev_pos (by omega) (ev_pos (by omega) (ev_pos (by omega) (ev_pos (by omega) (ev_pos (by omega) (ev_now rfl ?_))))))
    rw [rd_set _ _ _ _ hq.1 (by omega) hq.1, if_pos rfl]
    refine ev_if (fun h => ev_some ?_) (fun h => ?_)
    · rw [if_pos (by omega)]
    · rw [if_neg (by omega)]
      refine iCutFault_l0 x22 x2 h1 hl he d (i + 1) _ (by omega) (by unfold okF at hf ⊢; simpa using hf) (fun g g0 g1 => ?_)
      rw [List.length_set] at g1
      rw [rd_set _ _ _ _ hq.1 (by omega) g0]
      split
      · omega
      · exact hx g g0 g1
theorem FnExactCutFault : laws_FnExactCutFault.Pure := by
  intro l0 l1 l2 _ h0 _ _ h1 _ _ h2 _
  refine Ev.rounds ?_
  simp only [laws_FnExactCutFault.f]
  refine ev_if (fun _ => Ev.now _) (fun _ => ev_if (fun _ => Ev.now _) (fun _ => ev_if (fun _ => Ev.now _) (fun _ => ?_)))
  have t0 := toInt64S_ev l0 (by omega)
  have t1 := toInt64S_ev l1 (by omega)
  have t2 := toInt64S_ev l2 (by omega)
  have key : ∃ r, Ev (fun k => spec_CutFault.f k l0 l1 l2) r ∧ Ev (fun k => impl_CutFault.f k l0 l1 l2) r := by
    have es := sCode_ev l0 l1 l2 (by omega) (by omega) (by omega)
    have ei := iCode_ev l0 l1 l2 (by omega) (by omega) (by omega)
    by_cases hz : codeC l0 l1 l2 = 0
    · obtain ⟨hc, hf, he⟩ := codeC_zero hz
      have e1 := sFault_l0 l1 l2 hc.2.1 hc.2.2.2 he l1.length 0 l0 (by omega) hf (okL_rd hc.1)
      have e2 := iCutFault_l0 l1 l2 hc.2.1 hc.2.2.2 he l1.length 0 l0 (by omega) hf (okL_rd hc.1)
      rw [hz] at es ei
      refine ⟨((faultF l0 l1 l2 0).1, 0), ?_, ?_⟩
      · simp only [spec_CutFault.f, spec_l08Fault.f]
        refine Ev.bind es (ev_pos (by trivial) (ev_now (l00Own_eq l0 (by omega)) (Ev.bind e1 (ev_some ?_))))
        simp
      · simp only [impl_CutFault.f]
        refine Ev.bind ei (ev_pos (by trivial) (ev_now rfl (ev_pos (by simp; omega) ?_)))
        simpa using e2
    · refine ⟨(0, codeC l0 l1 l2), ?_, ?_⟩
      · simp only [spec_CutFault.f]
        exact Ev.bind es (ev_neg hz (Ev.now _))
      · simp only [impl_CutFault.f]
        exact Ev.bind ei (ev_neg hz (Ev.now _))
  obtain ⟨r, e1, e2⟩ := key
  refine Ev.bind t0 (Ev.bind t1 (Ev.bind t2 (Ev.bind e1 (Ev.bind t0 (Ev.bind t1 (Ev.bind t2 (Ev.bind e2 (ev_pos (by trivial) ?_))))))))
  have : (r.2 != r.2) = false := by simp
  rw [this]
  refine ev_succ ?_; simp only [laws_FnExactCutFault.j0]
  exact ev_neg (by simp) (Ev.bind t0 (Ev.bind (eqInt64S_self l0 (by omega)) (ev_pos (by trivial) (Ev.bind t1 (Ev.bind (eqInt64S_self l1 (by omega)) (ev_pos (by trivial) (Ev.bind t2 (Ev.bind (eqInt64S_self l2 (by omega)) (ev_pos (by trivial) (Ev.now _))))))))))

end Go.Proofs.Ytbfgdnogblagaaa.PureFnExactCutFault
namespace Go.Proofs.Ytbfgdnogblagaaa.Pure
open Go.Proofs.Ytbfgdnogblagaaa.HFnExactCutFault
theorem FnExactCutFault : laws_FnExactCutFault.Pure := PureFnExactCutFault.FnExactCutFault
end Go.Proofs.Ytbfgdnogblagaaa.Pure
