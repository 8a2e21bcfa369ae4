/- The program's function answers as the statement says. Conditions: none beyond the given statement's own. -/
import Derived.Test.YtbfgdnogblagaaaHFnExactSplicedPiecesx3
import Derived.Test.YtbfgdnogblagaaaLib
set_option linter.unusedVariables false
set_option linter.unusedSimpArgs false
namespace Go.Proofs.Ytbfgdnogblagaaa.PureFnExactSplicedPieces
open Go.RowKit Go.Proofs.Ytbfgdnogblagaaa.HFnExactSplicedPieces Go.Proofs.YtbfgdnogblagaaaW.PrintWords Go.Proofs.YtbfgdnogblagaaaW.PrintLast Go.Proofs.YtbfgdnogblagaaaW.PrintMore Go.Proofs.Ytbfgdnogblagaaa.Lib
theorem toInt64S_l0 (x0 : List Int) (hn : x0.length ≤ 35184372088832) : ∀ (d i : Nat) (x3 : List Int), i + d = x0.length → x3.length = x0.length → x3.take i = x0.take i →
    Ev (fun k => laws_toInt64S.l0 k x0 x3 (i : Int)) x0
  | 0, i, x3, hd, hl, ht => by
    refine ev_succ ?_
    simp only [laws_toInt64S.l0]
    refine ev_neg (by omega) (ev_some ?_)
    rw [List.take_of_length_le (by omega), List.take_of_length_le (by omega)] at ht; exact ht
  | d + 1, i, x3, hd, hl, ht => by
    refine ev_succ ?_
    simp only [laws_toInt64S.l0]
    refine ev_pos (by omega) (ev_pos (by omega) (ev_pos (by omega) ?_))
    rw [w64s (by omega), Int.toNat_natCast, rd_nat (by omega)]
    exact toInt64S_l0 x0 hn d (i + 1) _ (by omega) (by simpa using hl) (take_set _ _ _ _ (by omega) (by omega) ht rfl)
theorem toInt64S_ev (l : List Int) (hn : l.length ≤ 35184372088832) : Ev (fun k => laws_toInt64S.f k l) l := by
  simp only [laws_toInt64S.f]
  refine ev_pos (by omega) (ev_pos (by omega) ?_)
  exact toInt64S_l0 l (by omega) l.length 0 _ (by omega) (by simp) (by simp)
theorem eqInt64S_l0 (x0 x1 : List Int) (hl : x0.length = x1.length) (hn : x0.length ≤ 35184372088832) : ∀ (d i : Nat), i + d = x0.length → x0.take i = x1.take i →
    Ev (fun k => laws_eqInt64S.l0 k x0 x1 (i : Int)) (decide (x0 = x1))
  | 0, i, hd, ht => by
    refine ev_succ ?_
    simp only [laws_eqInt64S.l0]
    refine ev_neg (by omega) (ev_some ?_)
    rw [List.take_of_length_le (by omega), List.take_of_length_le (by omega)] at ht; simp [ht]
  | d + 1, i, hd, ht => by
    refine ev_succ ?_
    simp only [laws_eqInt64S.l0]
    refine ev_pos (by omega) (ev_pos (by omega) (ev_pos (by omega) (ev_if (fun h => ?_) (fun h => ev_some ?_))))
    · rw [w64s (by omega)]
      refine eqInt64S_l0 x0 x1 hl hn d (i + 1) (by omega) ?_
      rw [rd_nat (by omega), rd_nat (by omega)] at h
      rw [List.take_succ_eq_append_getElem (by omega), List.take_succ_eq_append_getElem (by omega), ht, h]
    · rw [rd_nat (by omega), rd_nat (by omega)] at h
      symm; rw [decide_eq_false_iff_not]; rintro rfl; exact h rfl
theorem eqInt64S_ev (a b : List Int) (hn : a.length ≤ 35184372088832) : Ev (fun k => laws_eqInt64S.f k a b) (decide (a = b)) := by
  simp only [laws_eqInt64S.f]
  refine ev_if (fun h => ?_) (fun h => ev_some ?_)
  · exact eqInt64S_l0 a b (by omega) hn a.length 0 (by omega) (by simp)
  · symm; rw [decide_eq_false_iff_not]; rintro rfl; exact h rfl
theorem eqInt64S_self (a : List Int) (hn : a.length ≤ 35184372088832) : Ev (fun k => laws_eqInt64S.f k a a) true := by
  simpa using eqInt64S_ev a a hn

theorem l00In_eq (a b c : Int) : spec_l00In.f a b c = some (decide (b ≤ a ∧ a ≤ c)) := by
  unfold spec_l00In.f; by_cases h : a ≥ b <;> simp [h]

theorem within_eq (a b c : Int) : impl_within.f a b c = some (decide (b ≤ a ∧ a ≤ c)) := by
  unfold impl_within.f; by_cases h : a ≥ b <;> simp [h]

def okL (l : List Int) : Prop := ∀ x ∈ l, 1 ≤ x ∧ x ≤ 20000
instance (l : List Int) : Decidable (okL l) := inferInstanceAs (Decidable (∀ x ∈ l, 1 ≤ x ∧ x ≤ 20000))
def okC (a b : List Int) : Prop := okL a ∧ okL b ∧ a.length ≤ 5 ∧ b.length ≤ 7
instance (a b : List Int) : Decidable (okC a b) := inferInstanceAs (Decidable (okL a ∧ okL b ∧ a.length ≤ 5 ∧ b.length ≤ 7))
theorem okL_drop {l : List Int} {i : Nat} (h : i < l.length) : okL (l.drop i) ↔ (1 ≤ l[i] ∧ l[i] ≤ 20000) ∧ okL (l.drop (i + 1)) := all_drop h

theorem iValidCoils_l1 (x19 : List (List Int)) (x20 x21 : Int) (x25 : List Int) (hn : x25.length ≤ 35184372088832) (r : Bool)
    (hr : okL x25 → Ev (fun k => impl_ValidCoils.l0 k x19 x20 (wrap64 (x21 + 1))) r) (hr' : ¬ okL x25 → r = false) : ∀ (d i : Nat), i + d = x25.length → (okL (x25.drop i) → okL x25) →
    Ev (fun k => impl_ValidCoils.l1 k x19 x20 x21 x25 (x25.length : Int) (i : Int)) r
  | 0, i, hd, hi => by
    refine ev_succ ?_
    simp only [impl_ValidCoils.l1]
    refine ev_neg (by omega) ?_
    have : x25.drop i = [] := by simp; omega
    exact hr (hi (by rw [this]; simp [okL]))
  | d + 1, i, hd, hi => by
    refine ev_succ ?_
    simp only [impl_ValidCoils.l1]
    refine ev_pos (by omega) (ev_pos (by omega) (ev_pos (by omega) (ev_now (within_eq _ _ _) (ev_if (fun h => ?_) (fun h => ev_some ?_)))))
    · rw [w64s (by omega)]
      rw [rd_nat (by omega)] at h
      refine iValidCoils_l1 x19 x20 x21 x25 hn r hr hr' d (i + 1) (by omega) (fun g => hi ?_)
      rw [okL_drop (by omega)]; exact ⟨of_decide_eq_true h, g⟩
    · rw [rd_nat (by omega)] at h
      symm; apply hr'; intro g
      apply h; apply ofd1; exact g _ (List.getElem_mem _)
theorem iValidCoils_ev (a b : List Int) (ha : a.length ≤ 35184372088832) (hb : b.length ≤ 35184372088832) :
    Ev (fun k => impl_ValidCoils.f k a b) (decide (okC a b)) := by
  have e2 : Ev (fun k => impl_ValidCoils.l0 k [a, b] 2 2) true := by
    refine ev_succ ?_; simp only [impl_ValidCoils.l0]; exact ev_neg (by omega) (Ev.now _)
  have e1 : Ev (fun k => impl_ValidCoils.l0 k [a, b] 2 1) (decide (okL b)) := by
    refine ev_succ ?_; simp only [impl_ValidCoils.l0]
    refine ev_pos (by omega) (ev_pos (by omega) (ev_pos (by simp) ?_))
    refine iValidCoils_l1 [a, b] 2 1 b hb _ (fun h => ?_) (fun h => ofd h) b.length 0 (by omega) (fun h => by simpa using h)
    rw [ofd1 h, w64 (by omega) (by omega)]; exact e2
  have e0 : Ev (fun k => impl_ValidCoils.l0 k [a, b] 2 0) (decide (okL a ∧ okL b)) := by
    refine ev_succ ?_; simp only [impl_ValidCoils.l0]
    refine ev_pos (by omega) (ev_pos (by omega) (ev_pos (by simp) ?_))
    refine iValidCoils_l1 [a, b] 2 0 a ha _ (fun h => ?_) (fun h => ofd (fun g => h g.1)) a.length 0 (by omega) (fun h => by simpa using h)
    simp only [h, true_and]; rw [w64 (by omega) (by omega)]; exact e1
  have ej : Ev (fun k => impl_ValidCoils.j0 k a b true) false := by
    refine ev_succ ?_; simp only [impl_ValidCoils.j0]; exact ev_pos (by trivial) (Ev.now _)
  have ek : Ev (fun k => impl_ValidCoils.j0 k a b false) (decide (okL a ∧ okL b)) := by
    refine ev_succ ?_; simp only [impl_ValidCoils.j0]; exact ev_neg (by simp) (ev_now rfl e0)
  simp only [impl_ValidCoils.f]
  refine ev_if (fun h => ?_) (fun h => ?_)
  · rw [ofd (p := okC a b) (fun g => by have := g.2.2.1; omega)]; exact ej
  · by_cases h7 : (b.length : Int) > 7
    · rw [ofd1 h7, ofd (p := okC a b) (fun g => by have := g.2.2.2; omega)]; exact ej
    · rw [ofd h7]
      have : decide (okC a b) = decide (okL a ∧ okL b) := by
        apply decide_eq_decide.2; unfold okC; constructor
        · intro g; exact ⟨g.1, g.2.1⟩
        · intro g; exact ⟨g.1, g.2, by omega, by omega⟩
      rw [this]; exact ek

theorem l08Lengths_l0 (x0 : List Int) (hn : x0.length ≤ 35184372088832) (x1 : Int) : ∀ (d i : Nat), i + d = x0.length → (okL (x0.drop i) → okL x0) →
    Ev (fun k => spec_l08Lengths.l0 k x0 x1 (i : Int)) (decide (okL x0 ∧ (x0.length : Int) ≤ x1))
  | 0, i, hd, hi => by
    refine ev_succ ?_
    simp only [spec_l08Lengths.l0]
    refine ev_neg (by omega) (ev_some ?_)
    have e : x0.drop i = [] := by simp; omega
    have g := hi (by rw [e]; simp [okL])
    simp [g]
  | d + 1, i, hd, hi => by
    refine ev_succ ?_
    simp only [spec_l08Lengths.l0]
    refine ev_pos (by omega) (ev_pos (by omega) (ev_now (l00In_eq _ _ _) (ev_if (fun h => ?_) (fun h => ev_some ?_))))
    · rw [w64s (by omega)]
      rw [rd_nat (by omega)] at h
      refine l08Lengths_l0 x0 hn x1 d (i + 1) (by omega) (fun g => hi ?_)
      rw [okL_drop (by omega)]; exact ⟨of_decide_eq_true h, g⟩
    · rw [rd_nat (by omega)] at h
      symm; apply ofd
      intro g; exact h (ofd1 (g.1 _ (List.getElem_mem _)))
theorem l08Ok_ev (a b : List Int) (ha : a.length ≤ 35184372088832) (hb : b.length ≤ 35184372088832) :
    Ev (fun k => spec_l08Ok.f k a b) (decide (okC a b)) := by
  have e1 := l08Lengths_l0 a ha 5 a.length 0 (by omega) (by simp)
  have e2 := l08Lengths_l0 b hb 7 b.length 0 (by omega) (by simp)
  simp only [spec_l08Ok.f, spec_l08Lengths.f]
  refine Ev.bind e1 (ev_if (fun h => Ev.bind e2 (ev_some ?_)) (fun h => ev_some ?_))
  · have h := of_decide_eq_true h
    apply decide_eq_decide.2; unfold okC; constructor
    · intro g; exact ⟨h.1, g.1, by omega, by omega⟩
    · intro g; exact ⟨g.2.1, by omega⟩
  · symm; apply ofd; intro g; exact h (ofd1 ⟨g.1, by have := g.2.2.1; omega⟩)

def cnt (a p : Int) : List Int → Int → Int
  | [], s => s
  | e :: es, s => cnt a p es (if a < e ∧ e < a + p then s + 1 else s)
def pref (s : Int) : List Int → List Int
  | [] => []
  | c :: cs => (s + c) :: pref (s + c) cs
def tot (E : List Int) : List Int → Int → Int → Int × Int
  | [], a, s => (s, a)
  | p :: ps, a, s => tot E ps (a + p) (cnt a p E s)
theorem pref_length (s : Int) (l : List Int) : (pref s l).length = l.length := by
  induction l generalizing s with
  | nil => rfl
  | cons c cs ih => simp [pref, ih]
theorem cnt_bd (a p : Int) (E : List Int) (s : Int) : s ≤ cnt a p E s ∧ cnt a p E s ≤ s + E.length := by
  induction E generalizing s with
  | nil => simp [cnt]
  | cons e es ih =>
    have := ih (if a < e ∧ e < a + p then s + 1 else s)
    simp only [cnt, List.length_cons]
    by_cases h : a < e ∧ e < a + p
    · rw [if_pos h] at this ⊢; omega
    · rw [if_neg h] at this ⊢; omega
theorem tot_snd (E : List Int) (ps : List Int) (a s : Int) : (tot E ps a s).2 = a + ps.sum := by
  induction ps generalizing a s with
  | nil => simp [tot]
  | cons p ps ih => simp only [tot, ih, List.sum_cons]; omega
theorem tot_fst (E : List Int) (ps : List Int) (a s : Int) : s ≤ (tot E ps a s).1 ∧ (tot E ps a s).1 ≤ s + E.length * ps.length := by
  induction ps generalizing a s with
  | nil => simp [tot]
  | cons p ps ih =>
    have h1 := ih (a + p) (cnt a p E s)
    have h2 := cnt_bd a p E s
    have e : (E.length : Int) * ((p :: ps).length : Nat) = (E.length : Int) * (ps.length : Nat) + E.length := by
      rw [List.length_cons, Int.natCast_add, Int.mul_add]; simp
    simp only [tot]
    omega
theorem okL_get {l : List Int} (h : okL l) {i : Nat} (hi : i < l.length) : 1 ≤ l[i] ∧ l[i] ≤ 20000 := h _ (List.getElem_mem _)
theorem sum_bd {l : List Int} (h : okL l) : (l.length : Int) ≤ l.sum ∧ l.sum ≤ 20000 * l.length := by
  induction l with
  | nil => simp
  | cons x xs ih =>
    have h1 := h x (by simp)
    have h2 := ih (fun y hy => h y (by simp [hy]))
    simp only [List.length_cons, List.sum_cons]; omega

theorem iSpliced_l2 (x6 : List Int) (x7 : Int) (x11 x13 : Int) (h11 : 0 ≤ x11) (h11' : x11 ≤ 1000000) (h13 : 0 ≤ x13) (h13' : x13 ≤ 20000) (hl : x6.length ≤ 5) (x35 : List Int) (x36 x37 : Int) (r : Int × Int) :
    ∀ (d i : Nat) (c : Int), i + d = x6.length → 0 ≤ c → c ≤ 1000 + i →
    Ev (fun k => impl_SplicedPieces.l1 k x6 x7 (cnt x11 x13 (x6.drop i) c) (x11 + x13) x35 x36 (wrap64 (x37 + 1))) r →
    Ev (fun k => impl_SplicedPieces.l2 k x6 x7 c x11 x13 x35 x36 x37 x6 (x6.length : Int) (i : Int)) r
  | 0, i, c, hd, h0, h1, hr => by
    refine ev_succ ?_
    simp only [impl_SplicedPieces.l2]
    have e : x6.drop i = [] := by simp; omega
    rw [e] at hr; simp only [cnt] at hr
    refine ev_neg (by omega) ?_
    rw [w64 (x := x11 + x13) (by omega) (by omega)]; exact hr
  | d + 1, i, c, hd, h0, h1, hr => by
    have hi : i < x6.length := by omega
    refine ev_succ ?_
    simp only [impl_SplicedPieces.l2]
    rw [List.drop_eq_getElem_cons hi] at hr
    simp only [cnt] at hr
    rw [rd_nat hi, w64s (by omega), w64 (x := x11 + x13) (by omega) (by omega), w64 (x := c + 1) (by omega) (by omega)]
    refine ev_pos (by omega) (ev_pos (by omega) (ev_pos (by omega) (ev_if (fun ha => ev_if (fun hb => ?_) (fun hb => ?_)) (fun ha => ?_))))
    · rw [if_pos ⟨ha, hb⟩] at hr
      exact iSpliced_l2 x6 x7 x11 x13 h11 h11' h13 h13' hl x35 x36 x37 r d (i + 1) _ (by omega) (by omega) (by omega) hr
    · rw [if_neg (fun g => hb g.2)] at hr
      exact iSpliced_l2 x6 x7 x11 x13 h11 h11' h13 h13' hl x35 x36 x37 r d (i + 1) _ (by omega) (by omega) (by omega) hr
    · rw [if_neg (fun g => ha g.1)] at hr
      exact iSpliced_l2 x6 x7 x11 x13 h11 h11' h13 h13' hl x35 x36 x37 r d (i + 1) _ (by omega) (by omega) (by omega) hr
theorem iSpliced_l1 (x6 : List Int) (x7 : Int) (hl : x6.length ≤ 5) (x1 : List Int) (ho : okL x1) (h7 : x1.length ≤ 7) : ∀ (d i : Nat) (s a : Int), i + d = x1.length → 0 ≤ s → s ≤ 5 * i → 0 ≤ a → a ≤ 20000 * i →
    Ev (fun k => impl_SplicedPieces.l1 k x6 x7 s a x1 (x1.length : Int) (i : Int)) (if (tot x6 (x1.drop i) a s).2 > x7 then (0, 5) else ((tot x6 (x1.drop i) a s).1, 0))
  | 0, i, s, a, hd, h0, h1, h2, h3 => by
    refine ev_succ ?_
    simp only [impl_SplicedPieces.l1]
    have e : x1.drop i = [] := by simp; omega
    have e2 : tot x6 (x1.drop i) a s = (s, a) := by rw [e]; rfl
    rw [e2]
    refine ev_neg (by omega) (ev_if (fun h => ev_some ?_) (fun h => ev_some ?_))
    · rw [if_pos h]
    · rw [if_neg h]
  | d + 1, i, s, a, hd, h0, h1, h2, h3 => by
    have hi : i < x1.length := by omega
    have hp := okL_get ho hi
    have hb := cnt_bd a x1[i] x6 s
    refine ev_succ ?_
    simp only [impl_SplicedPieces.l1]
    rw [rd_nat hi, List.drop_eq_getElem_cons hi]
    simp only [tot]
    refine ev_pos (by omega) (ev_pos (by omega) (ev_pos (by omega) ?_))
    have ih := iSpliced_l1 x6 x7 hl x1 ho h7 d (i + 1) (cnt a x1[i] x6 s) (a + x1[i]) (by omega) (by omega) (by omega) (by omega) (by omega)
    have := iSpliced_l2 x6 x7 a x1[i] h2 (by omega) (by omega) (by omega) hl x1 (x1.length : Int) (i : Int) _ x6.length 0 s (by omega) (by omega) (by omega)
      (by rw [w64s (by omega)]; simpa using ih)
    simpa using this
theorem iSpliced_l0 (x1 x21 : List Int) (ho : okL x21) (hl : x21.length ≤ 5) (r : Int × Int) : ∀ (d i : Nat) (x6 : List Int) (x7 : Int), i + d = x21.length → x6.length = i → 0 ≤ x7 → x7 ≤ 20000 * i →
    Ev (fun k => impl_SplicedPieces.l1 k (x6 ++ pref x7 (x21.drop i)) (x7 + (x21.drop i).sum) 0 0 x1 (x1.length : Int) 0) r →
    Ev (fun k => impl_SplicedPieces.l0 k x1 x6 x7 x21 (x21.length : Int) (i : Int)) r
  | 0, i, x6, x7, hd, h6, h0, h1, hr => by
    refine ev_succ ?_
    simp only [impl_SplicedPieces.l0]
    have e : x21.drop i = [] := by simp; omega
    rw [e] at hr; simp only [pref, List.append_nil, List.sum_nil, Int.add_zero] at hr
    exact ev_neg (by omega) hr
  | d + 1, i, x6, x7, hd, h6, h0, h1, hr => by
    have hi : i < x21.length := by omega
    have hp := okL_get ho hi
    refine ev_succ ?_
    simp only [impl_SplicedPieces.l0]
    rw [List.drop_eq_getElem_cons hi] at hr
    simp only [pref, List.sum_cons] at hr
    rw [rd_nat hi, w64s (by omega), w64 (x := x7 + x21[i]) (by omega) (by omega)]
    refine ev_pos (by omega) (ev_pos (by omega) (ev_pos (by omega) (ev_pos (by omega) ?_)))
    refine iSpliced_l0 x1 x21 ho hl r d (i + 1) _ _ (by omega) (by simp [h6]) (by omega) (by omega) ?_
    rw [List.append_assoc, List.singleton_append, Int.add_assoc]; exact hr
theorem iSpliced_ev (a b : List Int) (ha : a.length ≤ 35184372088832) (hb : b.length ≤ 35184372088832) :
    Ev (fun k => impl_SplicedPieces.f k a b) (if okC a b then (if b.sum > a.sum then (0, 5) else ((tot (pref 0 a) b 0 0).1, 0)) else (0, 1)) := by
  have e := iValidCoils_ev a b ha hb
  simp only [impl_SplicedPieces.f]
  refine Ev.bind e (ev_if (fun h => ?_) (fun h => ev_some ?_))
  · have hc : okC a b := of_decide_eq_true h
    rw [if_pos hc]
    have e1 := iSpliced_l1 (pref 0 a) a.sum (by rw [pref_length]; exact hc.2.2.1) b hc.2.1 hc.2.2.2 b.length 0 0 0 (by omega) (by omega) (by omega) (by omega) (by omega)
    rw [List.drop_zero, tot_snd, Int.zero_add] at e1
    have := iSpliced_l0 b a hc.1 hc.2.2.1 _ a.length 0 [] 0 (by omega) rfl (by omega) (by omega) (by simpa using e1)
    simpa using this
  · have hc : ¬ okC a b := fun g => h (ofd1 g)
    rw [if_neg hc]

theorem sSpliced_l1 (x0 x1 : List Int) (hc : okC x0 x1) (x6 x7 : Int) (n8 : Nat) (h8 : n8 < x1.length) (h6 : 0 ≤ x6) (h6' : x6 ≤ 1000) (h7 : 0 ≤ x7) (h7' : x7 ≤ 1000000) (r : Int × Int) :
    ∀ (d i : Nat) (c x9 : Int), i + d = x0.length → 0 ≤ c → c ≤ x6 + i → 0 ≤ x9 → x9 ≤ 20000 * i →
    Ev (fun k => spec_SplicedPieces.l0 k x0 x1 (cnt x7 x1[n8] (pref x9 (x0.drop i)) c) (x7 + x1[n8]) ((n8 + 1 : Nat) : Int)) r →
    Ev (fun k => spec_SplicedPieces.l1 k x0 x1 c x7 (n8 : Int) x9 (i : Int)) r
  | 0, i, c, x9, hd, h0, h1, h2, h3, hr => by
    have hp := okL_get hc.2.1 h8
    have h7c := hc.2.2.2
    refine ev_succ ?_
    simp only [spec_SplicedPieces.l1]
    refine ev_neg (by omega) (ev_pos (by omega) (ev_pos (by omega) ?_))
    have e : x0.drop i = [] := by simp; omega
    rw [e] at hr; simp only [pref, cnt] at hr
    rw [rd_nat h8, w64s (by omega), w64 (by omega) (by omega)]; exact hr
  | d + 1, i, c, x9, hd, h0, h1, h2, h3, hr => by
    have hp := okL_get hc.2.1 h8
    have hi : i < x0.length := by omega
    have hq := okL_get hc.1 hi
    have hl := hc.2.2.1
    refine ev_succ ?_
    simp only [spec_SplicedPieces.l1]
    rw [List.drop_eq_getElem_cons hi] at hr
    simp only [pref, cnt] at hr
    rw [rd_nat hi, rd_nat h8, w64s (by omega), w64 (x := x9 + x0[i]) (by omega) (by omega), w64 (x := x7 + x1[n8]) (by omega) (by omega), w64 (x := c + 1) (by omega) (by omega)]
    refine ev_pos (by omega) (ev_pos (by omega) (ev_if (fun ha => ev_pos (by omega) (ev_pos (by omega) (ev_if (fun hb => ?_) (fun hb => ?_)))) (fun ha => ?_)))
    · rw [if_pos ⟨ha, hb⟩] at hr
      exact sSpliced_l1 x0 x1 hc x6 x7 n8 h8 h6 h6' h7 h7' r d (i + 1) _ _ (by omega) (by omega) (by omega) (by omega) (by omega) hr
    · rw [if_neg (fun g => hb g.2)] at hr
      exact sSpliced_l1 x0 x1 hc x6 x7 n8 h8 h6 h6' h7 h7' r d (i + 1) _ _ (by omega) (by omega) (by omega) (by omega) (by omega) hr
    · rw [if_neg (fun g => ha g.1)] at hr
      exact sSpliced_l1 x0 x1 hc x6 x7 n8 h8 h6 h6' h7 h7' r d (i + 1) _ _ (by omega) (by omega) (by omega) (by omega) (by omega) hr
theorem sSpliced_l0 (x0 x1 : List Int) (hc : okC x0 x1) : ∀ (d i : Nat) (s a : Int), i + d = x1.length → 0 ≤ s → s ≤ 5 * i → 0 ≤ a → a ≤ 20000 * i →
    Ev (fun k => spec_SplicedPieces.l0 k x0 x1 s a (i : Int)) ((tot (pref 0 x0) (x1.drop i) a s).1, 0)
  | 0, i, s, a, hd, h0, h1, h2, h3 => by
    refine ev_succ ?_
    simp only [spec_SplicedPieces.l0]
    have e : x1.drop i = [] := by simp; omega
    refine ev_neg (by omega) (ev_some ?_)
    rw [e]; rfl
  | d + 1, i, s, a, hd, h0, h1, h2, h3 => by
    have hi : i < x1.length := by omega
    have hp := okL_get hc.2.1 hi
    have hl := hc.2.2.2
    have hl' := hc.2.2.1
    refine ev_succ ?_
    simp only [spec_SplicedPieces.l0]
    refine ev_pos (by omega) ?_
    have hb := cnt_bd a x1[i] (pref 0 x0) s
    rw [pref_length] at hb
    rw [List.drop_eq_getElem_cons hi]
    simp only [tot]
    have ih := sSpliced_l0 x0 x1 hc d (i + 1) (cnt a x1[i] (pref 0 x0) s) (a + x1[i]) (by omega) (by omega) (by omega) (by omega) (by omega)
    have := sSpliced_l1 x0 x1 hc s a i hi (by omega) (by omega) (by omega) (by omega) _ x0.length 0 s 0 (by omega) (by omega) (by omega) (by omega) (by omega) (by simpa using ih)
    simpa using this
theorem l00Sum_l0 (x0 : List Int) (hc : okL x0) (hl : x0.length ≤ 7) : ∀ (d i : Nat) (s : Int), i + d = x0.length → 0 ≤ s → s ≤ 20000 * i →
    Ev (fun k => spec_l00Sum.l0 k x0 s (i : Int)) (s + (x0.drop i).sum)
  | 0, i, s, hd, h0, h1 => by
    refine ev_succ ?_
    simp only [spec_l00Sum.l0]
    have e : x0.drop i = [] := by simp; omega
    refine ev_neg (by omega) (ev_some ?_)
    rw [e]; simp
  | d + 1, i, s, hd, h0, h1 => by
    have hi : i < x0.length := by omega
    have hp := okL_get hc hi
    refine ev_succ ?_
    simp only [spec_l00Sum.l0]
    rw [rd_nat hi, w64s (by omega), w64 (by omega) (by omega), List.drop_eq_getElem_cons hi]
    refine ev_pos (by omega) (ev_pos (by omega) ?_)
    have := l00Sum_l0 x0 hc hl d (i + 1) (s + x0[i]) (by omega) (by omega) (by omega)
    rw [List.sum_cons, ← Int.add_assoc]; exact this
theorem sSpliced_ev (a b : List Int) (ha : a.length ≤ 35184372088832) (hb : b.length ≤ 35184372088832) :
    Ev (fun k => spec_SplicedPieces.f k a b) (if okC a b then (if b.sum > a.sum then (0, 5) else ((tot (pref 0 a) b 0 0).1, 0)) else (0, 1)) := by
  have e := l08Ok_ev a b ha hb
  simp only [spec_SplicedPieces.f]
  refine Ev.bind e (ev_if (fun h => ?_) (fun h => ev_some ?_))
  · have hc : okC a b := of_decide_eq_true h
    have e1 := l00Sum_l0 b hc.2.1 hc.2.2.2 b.length 0 0 (by omega) (by omega) (by omega)
    have e2 := l00Sum_l0 a hc.1 (by have := hc.2.2.1; omega) a.length 0 0 (by omega) (by omega) (by omega)
    have e3 := sSpliced_l0 a b hc b.length 0 0 0 (by omega) (by omega) (by omega) (by omega) (by omega)
    rw [List.drop_zero, Int.zero_add] at e1 e2
    rw [List.drop_zero] at e3
    simp only [spec_l00Sum.f]
    rw [if_pos hc]
    refine Ev.bind e1 (Ev.bind e2 (ev_if (fun g => ev_some ?_) (fun g => ?_)))
    · rw [if_pos g]
    · rw [if_neg g]; exact e3
  · have hc : ¬ okC a b := fun g => h (ofd1 g)
    rw [if_neg hc]

theorem FnExactSplicedPieces : laws_FnExactSplicedPieces.Pure := by
  intro l0 l1 _ h0 _ _ h1 _
  refine Ev.rounds ?_
  simp only [laws_FnExactSplicedPieces.f]
  refine ev_if (fun _ => Ev.now _) (fun _ => ev_if (fun _ => Ev.now _) (fun _ => ?_))
  have t0 := toInt64S_ev l0 (by omega)
  have t1 := toInt64S_ev l1 (by omega)
  refine Ev.bind t0 (Ev.bind t1 (Ev.bind (sSpliced_ev l0 l1 (by omega) (by omega)) (Ev.bind t0 (Ev.bind t1 (Ev.bind (iSpliced_ev l0 l1 (by omega) (by omega)) (ev_pos (by trivial) ?_))))))
  refine ev_succ ?_; simp only [laws_FnExactSplicedPieces.j0]
  exact ev_neg (by simp) (Ev.bind t0 (Ev.bind (eqInt64S_self l0 (by omega)) (ev_pos (by trivial) (Ev.bind t1 (Ev.bind (eqInt64S_self l1 (by omega)) (ev_pos (by trivial) (Ev.now _)))))))

end Go.Proofs.Ytbfgdnogblagaaa.PureFnExactSplicedPieces
namespace Go.Proofs.Ytbfgdnogblagaaa.Pure
open Go.Proofs.Ytbfgdnogblagaaa.HFnExactSplicedPieces
theorem FnExactSplicedPieces : laws_FnExactSplicedPieces.Pure := PureFnExactSplicedPieces.FnExactSplicedPieces
end Go.Proofs.Ytbfgdnogblagaaa.Pure
