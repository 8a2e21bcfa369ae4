/- The program's function answers as the statement says. Conditions: none beyond the given statement's own. -/
import Derived.Test.YtafjkaaabpfejaaHFnExactTightCutx4
import Derived.Test.YtafjkaaabpfejaaLib
set_option linter.unusedVariables false
set_option linter.unusedSimpArgs false
namespace Go.Proofs.Ytafjkaaabpfejaa.PureFnExactTightCut
open Go.RowKit Go.Proofs.Ytafjkaaabpfejaa.HFnExactTightCut Go.Proofs.YtafjkaaabpfejaaW.PrintWords Go.Proofs.YtafjkaaabpfejaaW.PrintLast Go.Proofs.YtafjkaaabpfejaaW.PrintMore Go.Proofs.Ytafjkaaabpfejaa.Lib
theorem eqInt64S_l0 (x0 x1 : List Int) (hl : x0.length = x1.length) (hn : x0.length ≤ 35184372088832) : ∀ (d i : Nat), i + d = x0.length → x0.take i = x1.take i →
    Ev (fun k => laws_eqInt64S.l0 k x0 x1 (i : Int)) (decide (x0 = x1))
  | 0, i, hd, ht => by
    refine ev_succ ?_
    simp only [laws_eqInt64S.l0]
    refine ev_neg (by omega) (ev_some ?_)
    rw [List.take_of_length_le (by omega), List.take_of_length_le (by omega)] at ht; simp [ht]
  | d + 1, i, hd, ht => by
    refine ev_succ ?_
    simp only [laws_eqInt64S.l0]
    refine ev_pos (by omega) (ev_pos (by omega) (ev_pos (by omega) (ev_if (fun h => ?_) (fun h => ev_some ?_))))
    · rw [w64s (by omega)]
      refine eqInt64S_l0 x0 x1 hl hn d (i + 1) (by omega) ?_
      rw [rd_nat (by omega), rd_nat (by omega)] at h
      rw [List.take_succ_eq_append_getElem (by omega), List.take_succ_eq_append_getElem (by omega), ht, h]
    · rw [rd_nat (by omega), rd_nat (by omega)] at h
      symm; rw [decide_eq_false_iff_not]; rintro rfl; exact h rfl
theorem eqInt64S_ev (a b : List Int) (hn : a.length ≤ 35184372088832) : Ev (fun k => laws_eqInt64S.f k a b) (decide (a = b)) := by
  simp only [laws_eqInt64S.f]
  refine ev_if (fun h => ?_) (fun h => ev_some ?_)
  · exact eqInt64S_l0 a b (by omega) hn a.length 0 (by omega) (by simp)
  · symm; rw [decide_eq_false_iff_not]; rintro rfl; exact h rfl
theorem eqInt64S_self (a : List Int) (hn : a.length ≤ 35184372088832) : Ev (fun k => laws_eqInt64S.f k a a) true := by
  simpa using eqInt64S_ev a a hn

theorem toInt64S_l0 (x0 : List Int) (hn : x0.length ≤ 35184372088832) : ∀ (d i : Nat) (x3 : List Int), i + d = x0.length → x3.length = x0.length → x3.take i = x0.take i →
    Ev (fun k => laws_toInt64S.l0 k x0 x3 (i : Int)) x0
  | 0, i, x3, hd, hl, ht => by
    refine ev_succ ?_
    simp only [laws_toInt64S.l0]
    refine ev_neg (by omega) (ev_some ?_)
    rw [List.take_of_length_le (by omega), List.take_of_length_le (by omega)] at ht; exact ht
  | d + 1, i, x3, hd, hl, ht => by
    refine ev_succ ?_
    simp only [laws_toInt64S.l0]
    refine ev_pos (by omega) (ev_pos (by omega) (ev_pos (by omega) ?_))
    rw [w64s (by omega), Int.toNat_natCast, rd_nat (by omega)]
    exact toInt64S_l0 x0 hn d (i + 1) _ (by omega) (by simpa using hl) (take_set _ _ _ _ (by omega) (by omega) ht rfl)
theorem toInt64S_ev (l : List Int) (hn : l.length ≤ 35184372088832) : Ev (fun k => laws_toInt64S.f k l) l := by
  simp only [laws_toInt64S.f]
  refine ev_pos (by omega) (ev_pos (by omega) ?_)
  exact toInt64S_l0 l (by omega) l.length 0 _ (by omega) (by simp) (by simp)

theorem markInt64S_l0 (s : Int) (h0 : 0 ≤ s) (n : Nat) (hn : s + n < 9223372036854775807) : ∀ (d i : Nat) (x0 : List Int), i + d = n → x0.length = n → x0.take i = (marks s n).take i →
    Ev (fun k => laws_markInt64S.l0 k x0 (s + i) (i : Int)) (s + n, marks s n)
  | 0, i, x0, hd, hl, ht => by
    refine ev_succ ?_
    simp only [laws_markInt64S.l0]
    refine ev_neg (by omega) (ev_some ?_)
    rw [List.take_of_length_le (by omega), List.take_of_length_le (by rw [marks_length]; omega)] at ht
    rw [ht]; congr 1; omega
  | d + 1, i, x0, hd, hl, ht => by
    refine ev_succ ?_
    simp only [laws_markInt64S.l0]
    refine ev_pos (by omega) (ev_pos (by omega) ?_)
    rw [w64s (by omega), w64 (by omega) (by omega), Int.toNat_natCast]
    have e : s + (i : Int) + 1 = s + ((i + 1 : Nat) : Int) := by omega
    rw [e]
    refine markInt64S_l0 s h0 n hn d (i + 1) _ (by omega) (by simpa using hl) (take_set _ _ _ _ (by omega) (by rw [marks_length]; omega) ht ?_)
    rw [marks_get]
theorem markInt64S_ev (l : List Int) (s : Int) (h0 : 0 ≤ s) (hn : s + l.length < 9223372036854775807) :
    Ev (fun k => laws_markInt64S.f k l s) (s + l.length, marks s l.length) := by
  simp only [laws_markInt64S.f]
  have := markInt64S_l0 s h0 l.length hn l.length 0 l (by omega) rfl (by simp)
  simpa using this
theorem heldInt64S_l0 (s : Int) (h0 : 0 ≤ s) (n : Nat) (hn : s + n < 9223372036854775807) : ∀ (d i : Nat), i + d = n →
    Ev (fun k => laws_heldInt64S.l0 k (marks s n) (s + i) (i : Int)) (s + n)
  | 0, i, hd => by
    refine ev_succ ?_
    simp only [laws_heldInt64S.l0]
    refine ev_neg (by rw [marks_length]; omega) (ev_some ?_)
    omega
  | d + 1, i, hd => by
    refine ev_succ ?_
    simp only [laws_heldInt64S.l0]
    refine ev_pos (by rw [marks_length]; omega) (ev_pos (by omega) (ev_pos ?_ ?_))
    · rw [rd_nat (by rw [marks_length]; omega), marks_get]
    · rw [w64s (by omega), w64 (by omega) (by omega)]
      have e : s + (i : Int) + 1 = s + ((i + 1 : Nat) : Int) := by omega
      rw [e]
      exact heldInt64S_l0 s h0 n hn d (i + 1) (by omega)
theorem heldInt64S_ev (s : Int) (h0 : 0 ≤ s) (n : Nat) (hn : s + n < 9223372036854775807) :
    Ev (fun k => laws_heldInt64S.f k (marks s n) s) (s + n) := by
  simp only [laws_heldInt64S.f]
  have := heldInt64S_l0 s h0 n hn n 0 (by omega)
  simpa using this

theorem within_eq (a b c : Int) : impl_within.f a b c = some (decide (b ≤ a ∧ a ≤ c)) := by
  unfold impl_within.f; by_cases h : a ≥ b <;> simp [h]

def okL (l : List Int) : Prop := ∀ x ∈ l, 1 ≤ x ∧ x ≤ 20000
instance (l : List Int) : Decidable (okL l) := inferInstanceAs (Decidable (∀ x ∈ l, 1 ≤ x ∧ x ≤ 20000))
def okC (a b : List Int) : Prop := okL a ∧ okL b ∧ a.length ≤ 5 ∧ b.length ≤ 7
instance (a b : List Int) : Decidable (okC a b) := inferInstanceAs (Decidable (okL a ∧ okL b ∧ a.length ≤ 5 ∧ b.length ≤ 7))
theorem okL_drop {l : List Int} {i : Nat} (h : i < l.length) : okL (l.drop i) ↔ (1 ≤ l[i] ∧ l[i] ≤ 20000) ∧ okL (l.drop (i + 1)) := all_drop h

theorem iValidCoils_l1 (x19 : List (List Int)) (x20 x21 : Int) (x25 : List Int) (hn : x25.length ≤ 35184372088832) (r : Bool)
    (hr : okL x25 → Ev (fun k => impl_ValidCoils.l0 k x19 x20 (wrap64 (x21 + 1))) r) (hr' : ¬ okL x25 → r = false) : ∀ (d i : Nat), i + d = x25.length → (okL (x25.drop i) → okL x25) →
    Ev (fun k => impl_ValidCoils.l1 k x19 x20 x21 x25 (x25.length : Int) (i : Int)) r
  | 0, i, hd, hi => by
    refine ev_succ ?_
    simp only [impl_ValidCoils.l1]
    refine ev_neg (by omega) ?_
    have : x25.drop i = [] := by simp; omega
    exact hr (hi (by rw [this]; simp [okL]))
  | d + 1, i, hd, hi => by
    refine ev_succ ?_
    simp only [impl_ValidCoils.l1]
    refine ev_pos (by omega) (ev_pos (by omega) (ev_pos (by omega) (ev_now (within_eq _ _ _) (ev_if (fun h => ?_) (fun h => ev_some ?_)))))
    · rw [w64s (by omega)]
      rw [rd_nat (by omega)] at h
      refine iValidCoils_l1 x19 x20 x21 x25 hn r hr hr' d (i + 1) (by omega) (fun g => hi ?_)
      rw [okL_drop (by omega)]; exact ⟨of_decide_eq_true h, g⟩
    · rw [rd_nat (by omega)] at h
      symm; apply hr'; intro g
      apply h; apply ofd1; exact g _ (List.getElem_mem _)
theorem iValidCoils_ev (a b : List Int) (ha : a.length ≤ 35184372088832) (hb : b.length ≤ 35184372088832) :
    Ev (fun k => impl_ValidCoils.f k a b) (decide (okC a b)) := by
  have e2 : Ev (fun k => impl_ValidCoils.l0 k [a, b] 2 2) true := by
    refine ev_succ ?_; simp only [impl_ValidCoils.l0]; exact ev_neg (by omega) (Ev.now _)
  have e1 : Ev (fun k => impl_ValidCoils.l0 k [a, b] 2 1) (decide (okL b)) := by
    refine ev_succ ?_; simp only [impl_ValidCoils.l0]
    refine ev_pos (by omega) (ev_pos (by omega) (ev_pos (by simp) ?_))
    refine iValidCoils_l1 [a, b] 2 1 b hb _ (fun h => ?_) (fun h => ofd h) b.length 0 (by omega) (fun h => by simpa using h)
    rw [ofd1 h, w64 (by omega) (by omega)]; exact e2
  have e0 : Ev (fun k => impl_ValidCoils.l0 k [a, b] 2 0) (decide (okL a ∧ okL b)) := by
    refine ev_succ ?_; simp only [impl_ValidCoils.l0]
    refine ev_pos (by omega) (ev_pos (by omega) (ev_pos (by simp) ?_))
    refine iValidCoils_l1 [a, b] 2 0 a ha _ (fun h => ?_) (fun h => ofd (fun g => h g.1)) a.length 0 (by omega) (fun h => by simpa using h)
    simp only [h, true_and]; rw [w64 (by omega) (by omega)]; exact e1
  have ej : Ev (fun k => impl_ValidCoils.j0 k a b true) false := by
    refine ev_succ ?_; simp only [impl_ValidCoils.j0]; exact ev_pos (by trivial) (Ev.now _)
  have ek : Ev (fun k => impl_ValidCoils.j0 k a b false) (decide (okL a ∧ okL b)) := by
    refine ev_succ ?_; simp only [impl_ValidCoils.j0]; exact ev_neg (by simp) (ev_now rfl e0)
  simp only [impl_ValidCoils.f]
  refine ev_if (fun h => ?_) (fun h => ?_)
  · rw [ofd (p := okC a b) (fun g => by have := g.2.2.1; omega)]; exact ej
  · by_cases h7 : (b.length : Int) > 7
    · rw [ofd1 h7, ofd (p := okC a b) (fun g => by have := g.2.2.2; omega)]; exact ej
    · rw [ofd h7]
      have : decide (okC a b) = decide (okL a ∧ okL b) := by
        apply decide_eq_decide.2; unfold okC; constructor
        · intro g; exact ⟨g.1, g.2.1⟩
        · intro g; exact ⟨g.1, g.2, by omega, by omega⟩
      rw [this]; exact ek

theorem l00In_eq (a b c : Int) : spec_l00In.f a b c = some (decide (b ≤ a ∧ a ≤ c)) := by
  unfold spec_l00In.f; by_cases h : a ≥ b <;> simp [h]

theorem l08Lengths_l0 (x0 : List Int) (hn : x0.length ≤ 35184372088832) (x1 : Int) : ∀ (d i : Nat), i + d = x0.length → (okL (x0.drop i) → okL x0) →
    Ev (fun k => spec_l08Lengths.l0 k x0 x1 (i : Int)) (decide (okL x0 ∧ (x0.length : Int) ≤ x1))
  | 0, i, hd, hi => by
    refine ev_succ ?_
    simp only [spec_l08Lengths.l0]
    refine ev_neg (by omega) (ev_some ?_)
    have e : x0.drop i = [] := by simp; omega
    have g := hi (by rw [e]; simp [okL])
    simp [g]
  | d + 1, i, hd, hi => by
    refine ev_succ ?_
    simp only [spec_l08Lengths.l0]
    refine ev_pos (by omega) (ev_pos (by omega) (ev_now (l00In_eq _ _ _) (ev_if (fun h => ?_) (fun h => ev_some ?_))))
    · rw [w64s (by omega)]
      rw [rd_nat (by omega)] at h
      refine l08Lengths_l0 x0 hn x1 d (i + 1) (by omega) (fun g => hi ?_)
      rw [okL_drop (by omega)]; exact ⟨of_decide_eq_true h, g⟩
    · rw [rd_nat (by omega)] at h
      symm; apply ofd
      intro g; exact h (ofd1 (g.1 _ (List.getElem_mem _)))
theorem l08Ok_ev (a b : List Int) (ha : a.length ≤ 35184372088832) (hb : b.length ≤ 35184372088832) :
    Ev (fun k => spec_l08Ok.f k a b) (decide (okC a b)) := by
  have e1 := l08Lengths_l0 a ha 5 a.length 0 (by omega) (by simp)
  have e2 := l08Lengths_l0 b hb 7 b.length 0 (by omega) (by simp)
  simp only [spec_l08Ok.f, spec_l08Lengths.f]
  refine Ev.bind e1 (ev_if (fun h => Ev.bind e2 (ev_some ?_)) (fun h => ev_some ?_))
  · have h := of_decide_eq_true h
    apply decide_eq_decide.2; unfold okC; constructor
    · intro g; exact ⟨h.1, g.1, by omega, by omega⟩
    · intro g; exact ⟨g.2.1, by omega⟩
  · symm; apply ofd; intro g; exact h (ofd1 ⟨g.1, by have := g.2.2.1; omega⟩)

theorem l00Own_eq (l : List Int) (h : l.length < 17592186044416) : spec_l00Own.f l = some l := by
  simp [spec_l00Own.f, h]

def stB (left : List Int) (p : Int) (tight : Bool) (k b : Int) : Int := if p ≤ rd left k then (if b < 0 then k else if (tight && decide (rd left k < rd left b)) = true then k else b) else b
def bsF (left : List Int) (p : Int) (tight : Bool) : Nat → Nat → Int → Int
  | 0, _, b => b
  | d + 1, k, b => bsF left p tight d (k + 1) (stB left p tight (k : Int) b)
theorem stB_bd {left : List Int} {p : Int} {tight : Bool} {k : Nat} {b : Int} (h : -1 ≤ b ∧ b < (k : Int)) : -1 ≤ stB left p tight (k : Int) b ∧ stB left p tight (k : Int) b < ((k + 1 : Nat) : Int) := by
  unfold stB; split
  · split
    · omega
    · split <;> omega
  · omega
theorem bsF_bd (left : List Int) (p : Int) (tight : Bool) : ∀ (d k : Nat) (b : Int), -1 ≤ b ∧ b < (k : Int) → -1 ≤ bsF left p tight d k b ∧ bsF left p tight d k b < ((k + d : Nat) : Int)
  | 0, k, b, h => by simp only [bsF]; omega
  | d + 1, k, b, h => by
    have := bsF_bd left p tight d (k + 1) _ (stB_bd (left := left) (p := p) (tight := tight) h)
    simp only [bsF]; omega
def cutF (tight : Bool) : List Int → List Int → List Int → Option (List Int)
  | _, [], out => some out
  | left, p :: ps, out => if bsF left p tight left.length 0 (-1) < 0 then none else cutF tight (left.set (bsF left p tight left.length 0 (-1)).toNat (wrap64 (rd left (bsF left p tight left.length 0 (-1)) - p))) ps (out ++ [bsF left p tight left.length 0 (-1)])
theorem cutF_len (tight : Bool) : ∀ (ps left out o : List Int), cutF tight left ps out = some o → o.length = out.length + ps.length
  | [], left, out, o, h => by simp only [cutF, Option.some.injEq] at h; subst h; simp
  | p :: ps, left, out, o, h => by
    simp only [cutF] at h
    split at h
    · cases h
    · have := cutF_len tight ps _ _ o h
      simp at this ⊢; omega
theorem sCut_l1 (ps left out : List Int) (tight : Bool) (i : Nat) (hi : i < ps.length) (hp : ps.length ≤ 100) (hl : left.length ≤ 100) (ho : out.length ≤ 100) (r : List Int × Bool) : ∀ (d k : Nat) (b : Int), k + d = left.length → (-1 ≤ b ∧ b < (k : Int)) →
    (bsF left ps[i] tight d k b < 0 → r = ([], false)) →
    (¬ bsF left ps[i] tight d k b < 0 → Ev (fun n => spec_l08Cut.l0 n ps tight (left.set (bsF left ps[i] tight d k b).toNat (wrap64 (rd left (bsF left ps[i] tight d k b) - ps[i]))) (out ++ [bsF left ps[i] tight d k b]) (((i + 1 : Nat) : Int))) r) →
    Ev (fun n => spec_l08Cut.l1 n ps tight left out (i : Int) b (k : Int)) r
  | 0, k, b, hd, hb, h1, h2 => by
    simp only [bsF] at h1 h2
    refine ev_succ ?_
    simp only [spec_l08Cut.l1]
    rw [w64s (i := i) (by omega), rd_nat hi]
    exact ev_neg (by omega) (ev_if (fun g => ev_some (h1 g).symm) (fun g => ev_pos (by omega) (ev_pos (by omega) (ev_pos (by omega) (ev_pos (by omega) (ev_pos (by omega) (h2 g)))))))
  | d + 1, k, b, hd, hb, h1, h2 => by
    simp only [bsF] at h1 h2
    have bd := stB_bd (left := left) (p := ps[i]) (tight := tight) hb
    have ih := sCut_l1 ps left out tight i hi hp hl ho r d (k + 1) (stB left ps[i] tight (k : Int) b) (by omega) bd h1 h2
    refine ev_succ ?_
    simp only [spec_l08Cut.l1]
    rw [w64s (by omega), rd_nat hi]
    unfold stB at ih
    refine ev_pos (by omega) (ev_pos (by omega) (ev_pos (by omega) (ev_pos (by omega) (ev_if (fun g => ev_if (fun g2 => ?_) (fun g2 => ev_if (fun g3 => ev_pos (by omega) (ev_pos (by omega) (ev_if (fun g4 => ?_) (fun g4 => ?_)))) (fun g3 => ?_))) (fun g => ?_)))))
    · rw [if_pos (by omega), if_pos g2] at ih; exact ih
    · rw [if_pos (by omega), if_neg g2, if_pos (by simp [g3, g4])] at ih; exact ih
    · rw [if_pos (by omega), if_neg g2, if_neg (by simp [g4])] at ih; exact ih
    · rw [if_pos (by omega), if_neg g2, if_neg (by simp [g3])] at ih; exact ih
    · rw [if_neg (by omega)] at ih; exact ih
def resS : Option (List Int) → List Int × Bool
  | some o => (o, true)
  | none => ([], false)
theorem sCut_l0 (ps : List Int) (tight : Bool) (hp : ps.length ≤ 100) : ∀ (d i : Nat) (left out : List Int), i + d = ps.length → left.length ≤ 100 → out.length ≤ i →
    Ev (fun n => spec_l08Cut.l0 n ps tight left out (i : Int)) (resS (cutF tight left (ps.drop i) out))
  | 0, i, left, out, hd, hl, ho => by
    have e : ps.drop i = [] := by simp; omega
    refine ev_succ ?_
    simp only [spec_l08Cut.l0]
    rw [e]
    exact ev_neg (by omega) (ev_some rfl)
  | d + 1, i, left, out, hd, hl, ho => by
    have hi : i < ps.length := by omega
    refine ev_succ ?_
    simp only [spec_l08Cut.l0]
    rw [List.drop_eq_getElem_cons hi]
    simp only [cutF]
    refine ev_pos (by omega) (sCut_l1 ps left out tight i hi hp hl (by omega) _ left.length 0 (-1) (by omega) (by omega) (fun g => by rw [if_pos g]; rfl) (fun g => ?_))
    rw [if_neg g]
    exact sCut_l0 ps tight hp d (i + 1) _ _ (by omega) (by simpa using hl) (by simp; omega)
theorem clo_eq (l : List Int) (k b : Int) (h0 : 0 ≤ k) (h1 : k < (l.length : Int)) (h2 : 0 ≤ b) (h3 : b < (l.length : Int)) : impl_TightCut_c1.f l k b = some (true && decide (rd l k < rd l b)) := by
  unfold impl_TightCut_c1.f
  first
    | rfl
    | simp [h0, h1, h2, h3]
theorem iCut_l1 (ps left out : List Int) (i : Nat) (hi : i < ps.length) (hp : ps.length ≤ 100) (hl : left.length ≤ 100) (ho : out.length ≤ 100) (r : List Int × Int) : ∀ (d k : Nat) (b : Int), k + d = left.length → (-1 ≤ b ∧ b < (k : Int)) →
    (bsF left ps[i] true d k b < 0 → r = ([], 5)) →
    (¬ bsF left ps[i] true d k b < 0 → Ev (fun n => impl_cutBy.l0 n (left.set (bsF left ps[i] true d k b).toNat (wrap64 (rd left (bsF left ps[i] true d k b) - ps[i]))) (out ++ [bsF left ps[i] true d k b]) ps (ps.length : Int) (((i + 1 : Nat) : Int))) r) →
    Ev (fun n => impl_cutBy.l1 n left out ps[i] b ps (ps.length : Int) (i : Int) (left.length : Int) (k : Int)) r
  | 0, k, b, hd, hb, h1, h2 => by
    simp only [bsF] at h1 h2
    refine ev_succ ?_
    simp only [impl_cutBy.l1]
    rw [w64s (i := i) (by omega)]
    exact ev_neg (by omega) (ev_if (fun g => ev_some (h1 g).symm) (fun g => ev_pos (by omega) (ev_pos (by omega) (ev_pos (by omega) (h2 g)))))
  | d + 1, k, b, hd, hb, h1, h2 => by
    simp only [bsF] at h1 h2
    have bd := stB_bd (left := left) (p := ps[i]) (tight := true) hb
    have ih := iCut_l1 ps left out i hi hp hl ho r d (k + 1) (stB left ps[i] true (k : Int) b) (by omega) bd h1 h2
    refine ev_succ ?_
    simp only [impl_cutBy.l1]
    rw [w64s (by omega)]
    unfold stB at ih
    refine ev_pos (by omega) (ev_pos (by omega) (ev_pos (by omega) (ev_if (fun g => ev_if (fun g2 => ?_) (fun g2 => ev_now (clo_eq left (k : Int) b (by omega) (by omega) (by omega) (by omega)) (ev_if (fun g3 => ?_) (fun g3 => ?_)))) (fun g => ?_))))
    · rw [if_pos (by omega), if_pos g2] at ih; exact ih
    · rw [if_pos (by omega), if_neg g2, if_pos g3] at ih; exact ih
    · rw [if_pos (by omega), if_neg g2, if_neg g3] at ih; exact ih
    · rw [if_neg (by omega)] at ih; exact ih
def resI : Option (List Int) → List Int × Int
  | some o => (o, 0)
  | none => ([], 5)
theorem iCut_l0 (ps : List Int) (hp : ps.length ≤ 100) : ∀ (d i : Nat) (left out : List Int), i + d = ps.length → left.length ≤ 100 → out.length ≤ i →
    Ev (fun n => impl_cutBy.l0 n left out ps (ps.length : Int) (i : Int)) (resI (cutF true left (ps.drop i) out))
  | 0, i, left, out, hd, hl, ho => by
    have e : ps.drop i = [] := by simp; omega
    refine ev_succ ?_
    simp only [impl_cutBy.l0]
    rw [e]
    exact ev_neg (by omega) (ev_some rfl)
  | d + 1, i, left, out, hd, hl, ho => by
    have hi : i < ps.length := by omega
    refine ev_succ ?_
    simp only [impl_cutBy.l0]
    rw [List.drop_eq_getElem_cons hi, rd_nat hi]
    simp only [cutF]
    refine ev_pos (by omega) (ev_pos (by omega) (ev_pos (by omega) (iCut_l1 ps left out i hi hp hl (by omega) _ left.length 0 (-1) (by omega) (by omega) (fun g => by rw [if_pos g]; rfl) (fun g => ?_))))
    rw [if_neg g]
    exact iCut_l0 ps hp d (i + 1) _ _ (by omega) (by simpa using hl) (by simp; omega)
theorem key (a b : List Int) (ha : a.length ≤ 1048576) (hb : b.length ≤ 1048576) : ∃ r : List Int × Int, r.1.length ≤ 7 ∧ Ev (fun k => spec_TightCut.f k a b) r ∧ Ev (fun k => impl_TightCut.f k a b) r := by
  have es := l08Ok_ev a b (by omega) (by omega)
  have ei := iValidCoils_ev a b (by omega) (by omega)
  by_cases hz : okC a b
  · rw [ofd1 hz] at es ei
    have s := sCut_l0 b true (by have := hz.2.2.2; omega) b.length 0 a [] (by omega) (by have := hz.2.2.1; omega) (by simp)
    have i := iCut_l0 b (by have := hz.2.2.2; omega) b.length 0 a [] (by omega) (by have := hz.2.2.1; omega) (by simp)
    rw [List.drop_zero] at s i
    cases hc : cutF true a b [] with
    | none =>
      rw [hc] at s i
      refine ⟨([], 5), by simp, ?_, ?_⟩
      · simp only [spec_TightCut.f, spec_l08By.f, spec_l08Cut.f]
        exact Ev.bind (Ev.bind es (ev_pos (by trivial) (Ev.bind (ev_now (l00Own_eq a (by omega)) s) (ev_neg (by simp [resS]) (Ev.now _))))) (Ev.now _)
      · simp only [impl_TightCut.f, impl_cutBy.f]
        exact Ev.bind (Ev.bind ei (ev_pos (by trivial) (ev_now rfl (ev_pos (by simp; omega) (by simpa using i))))) (Ev.now _)
    | some o =>
      rw [hc] at s i
      have hl := cutF_len true b a [] o hc
      refine ⟨(o, 0), by have := hz.2.2.2; simp at hl; dsimp only; omega, ?_, ?_⟩
      · simp only [spec_TightCut.f, spec_l08By.f, spec_l08Cut.f]
        exact Ev.bind (Ev.bind es (ev_pos (by trivial) (Ev.bind (ev_now (l00Own_eq a (by omega)) s) (ev_pos (by simp [resS]) (Ev.now _))))) (Ev.now _)
      · simp only [impl_TightCut.f, impl_cutBy.f]
        exact Ev.bind (Ev.bind ei (ev_pos (by trivial) (ev_now rfl (ev_pos (by simp; omega) (by simpa using i))))) (Ev.now _)
  · rw [ofd hz] at es ei
    refine ⟨([], 1), by simp, ?_, ?_⟩
    · simp only [spec_TightCut.f, spec_l08By.f]
      exact Ev.bind (Ev.bind es (ev_neg (by simp) (Ev.now _))) (Ev.now _)
    · simp only [impl_TightCut.f, impl_cutBy.f]
      exact Ev.bind (Ev.bind ei (ev_neg (by simp) (Ev.now _))) (Ev.now _)
theorem FnExactTightCut : laws_FnExactTightCut.Pure := by
  intro l0 l1 _ h0 _ _ h1 _
  refine Ev.rounds ?_
  simp only [laws_FnExactTightCut.f]
  refine ev_if (fun _ => Ev.now _) (fun _ => ev_if (fun _ => Ev.now _) (fun _ => ?_))
  have t0 := toInt64S_ev l0 (by omega)
  have t1 := toInt64S_ev l1 (by omega)
  obtain ⟨r, hr, e1, e2⟩ := key l0 l1 (by omega) (by omega)
  have er := eqInt64S_self r.1 (by omega)
  have : (r.2 != r.2) = false := by simp
  refine Ev.bind t0 (Ev.bind t1 (Ev.bind e1 (Ev.bind t0 (Ev.bind t1 (Ev.bind e2 (Ev.bind er (ev_pos (by trivial) ?_)))))))
  rw [this]
  refine ev_succ ?_; simp only [laws_FnExactTightCut.j0]
  refine ev_neg (by simp) (Ev.bind t0 (Ev.bind (eqInt64S_self l0 (by omega)) (ev_pos (by trivial) (Ev.bind t1 (Ev.bind (eqInt64S_self l1 (by omega)) (ev_pos (by trivial) ?_))))))
  refine Ev.bind (markInt64S_ev l0 1 (by omega) (by omega)) (Ev.bind (markInt64S_ev l1 _ (by first | omega | (dsimp only; omega)) (by first | omega | (dsimp only; omega))) (ev_neg (by first | omega | (dsimp only; omega)) (Ev.bind er (ev_pos (by trivial) ?_))))
  rw [this]
  refine ev_succ ?_; simp only [laws_FnExactTightCut.j1]
  refine ev_neg (by simp) (Ev.bind (markInt64S_ev r.1 1 (by omega) (by omega)) (Ev.bind (heldInt64S_ev 1 (by omega) r.1.length (by omega)) (ev_neg (by first | omega | (dsimp only; omega)) (ev_pos (by trivial) ?_))))
  refine Ev.bind t0 (Ev.bind t1 (Ev.bind e2 (Ev.bind er (ev_pos (by trivial) ?_))))
  rw [this]
  refine ev_succ ?_; simp only [laws_FnExactTightCut.j2]
  exact ev_neg (by simp) (Ev.bind (heldInt64S_ev 1 (by omega) r.1.length (by omega)) (ev_neg (by first | omega | (dsimp only; omega)) (ev_pos (by trivial) (Ev.now _))))


end Go.Proofs.Ytafjkaaabpfejaa.PureFnExactTightCut
namespace Go.Proofs.Ytafjkaaabpfejaa.Pure
open Go.Proofs.Ytafjkaaabpfejaa.HFnExactTightCut
theorem FnExactTightCut : laws_FnExactTightCut.Pure := PureFnExactTightCut.FnExactTightCut
end Go.Proofs.Ytafjkaaabpfejaa.Pure
