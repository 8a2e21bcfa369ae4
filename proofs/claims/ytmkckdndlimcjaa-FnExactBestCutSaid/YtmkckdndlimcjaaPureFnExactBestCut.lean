/- The program's best cut and its number of coils are the reference's. Conditions: none beyond the given statement's own. -/
import Derived.Test.YtmkckdndlimcjaaHCutx4
import Derived.Test.YtmkckdndlimcjaaLib
set_option linter.unusedVariables false
set_option linter.unusedSimpArgs false
namespace Go.Proofs.Ytmkckdndlimcjaa.PureFnExactBestCut
open Go.RowKit Go.Proofs.Ytmkckdndlimcjaa.HCut Go.Proofs.YtmkckdndlimcjaaW.PrintWords Go.Proofs.YtmkckdndlimcjaaW.PrintLast Go.Proofs.YtmkckdndlimcjaaW.PrintMore Go.Proofs.Ytmkckdndlimcjaa.Lib
theorem l00In_eq (a b c : Int) : spec_l00In.f a b c = some (decide (b ≤ a ∧ a ≤ c)) := by
  unfold spec_l00In.f; by_cases h : a ≥ b <;> simp [h]

theorem within_eq (a b c : Int) : impl_within.f a b c = some (decide (b ≤ a ∧ a ≤ c)) := by
  unfold impl_within.f; by_cases h : a ≥ b <;> simp [h]

def okL (l : List Int) : Prop := ∀ x ∈ l, 1 ≤ x ∧ x ≤ 20000
instance (l : List Int) : Decidable (okL l) := inferInstanceAs (Decidable (∀ x ∈ l, 1 ≤ x ∧ x ≤ 20000))
def okC (a b : List Int) : Prop := okL a ∧ okL b ∧ a.length ≤ 5 ∧ b.length ≤ 7
instance (a b : List Int) : Decidable (okC a b) := inferInstanceAs (Decidable (okL a ∧ okL b ∧ a.length ≤ 5 ∧ b.length ≤ 7))
theorem okL_drop {l : List Int} {i : Nat} (h : i < l.length) : okL (l.drop i) ↔ (1 ≤ l[i] ∧ l[i] ≤ 20000) ∧ okL (l.drop (i + 1)) := all_drop h

theorem iValidCoils_l1 (x19 : List (List Int)) (x20 x21 : Int) (x25 : List Int) (hn : x25.length ≤ 35184372088832) (r : Bool)
    (hr : okL x25 → Ev (fun k => impl_ValidCoils.l0 k x19 x20 (wrap64 (x21 + 1))) r) (hr' : ¬ okL x25 → r = false) : ∀ (d i : Nat), i + d = x25.length → (okL (x25.drop i) → okL x25) →
    Ev (fun k => impl_ValidCoils.l1 k x19 x20 x21 x25 (x25.length : Int) (i : Int)) r
  | 0, i, hd, hi => by
    refine ev_succ ?_
    simp only [impl_ValidCoils.l1]
    refine ev_neg (by omega) ?_
    have : x25.drop i = [] := by simp; omega
    exact hr (hi (by rw [this]; simp [okL]))
  | d + 1, i, hd, hi => by
    refine ev_succ ?_
    simp only [impl_ValidCoils.l1]
    refine ev_pos (by omega) (ev_pos (by omega) (ev_pos (by omega) (ev_now (within_eq _ _ _) (ev_if (fun h => ?_) (fun h => ev_some ?_)))))
    · rw [w64s (by omega)]
      rw [rd_nat (by omega)] at h
      refine iValidCoils_l1 x19 x20 x21 x25 hn r hr hr' d (i + 1) (by omega) (fun g => hi ?_)
      rw [okL_drop (by omega)]; exact ⟨of_decide_eq_true h, g⟩
    · rw [rd_nat (by omega)] at h
      symm; apply hr'; intro g
      apply h; apply ofd1; exact g _ (List.getElem_mem _)
theorem iValidCoils_ev (a b : List Int) (ha : a.length ≤ 35184372088832) (hb : b.length ≤ 35184372088832) :
    Ev (fun k => impl_ValidCoils.f k a b) (decide (okC a b)) := by
  have e2 : Ev (fun k => impl_ValidCoils.l0 k [a, b] 2 2) true := by
    refine ev_succ ?_; simp only [impl_ValidCoils.l0]; exact ev_neg (by omega) (Ev.now _)
  have e1 : Ev (fun k => impl_ValidCoils.l0 k [a, b] 2 1) (decide (okL b)) := by
    refine ev_succ ?_; simp only [impl_ValidCoils.l0]
    refine ev_pos (by omega) (ev_pos (by omega) (ev_pos (by simp) ?_))
    refine iValidCoils_l1 [a, b] 2 1 b hb _ (fun h => ?_) (fun h => ofd h) b.length 0 (by omega) (fun h => by simpa using h)
    rw [ofd1 h, w64 (by omega) (by omega)]; exact e2
  have e0 : Ev (fun k => impl_ValidCoils.l0 k [a, b] 2 0) (decide (okL a ∧ okL b)) := by
    refine ev_succ ?_; simp only [impl_ValidCoils.l0]
    refine ev_pos (by omega) (ev_pos (by omega) (ev_pos (by simp) ?_))
    refine iValidCoils_l1 [a, b] 2 0 a ha _ (fun h => ?_) (fun h => ofd (fun g => h g.1)) a.length 0 (by omega) (fun h => by simpa using h)
    simp only [h, true_and]; rw [w64 (by omega) (by omega)]; exact e1
  have ej : Ev (fun k => impl_ValidCoils.j0 k a b true) false := by
    refine ev_succ ?_; simp only [impl_ValidCoils.j0]; exact ev_pos (by trivial) (Ev.now _)
  have ek : Ev (fun k => impl_ValidCoils.j0 k a b false) (decide (okL a ∧ okL b)) := by
    refine ev_succ ?_; simp only [impl_ValidCoils.j0]; exact ev_neg (by simp) (ev_now rfl e0)
  simp only [impl_ValidCoils.f]
  refine ev_if (fun h => ?_) (fun h => ?_)
  · rw [ofd (p := okC a b) (fun g => by have := g.2.2.1; omega)]; exact ej
  · by_cases h7 : (b.length : Int) > 7
    · rw [ofd1 h7, ofd (p := okC a b) (fun g => by have := g.2.2.2; omega)]; exact ej
    · rw [ofd h7]
      have : decide (okC a b) = decide (okL a ∧ okL b) := by
        apply decide_eq_decide.2; unfold okC; constructor
        · intro g; exact ⟨g.1, g.2.1⟩
        · intro g; exact ⟨g.1, g.2, by omega, by omega⟩
      rw [this]; exact ek

theorem l08Lengths_l0 (x0 : List Int) (hn : x0.length ≤ 35184372088832) (x1 : Int) : ∀ (d i : Nat), i + d = x0.length → (okL (x0.drop i) → okL x0) →
    Ev (fun k => spec_l08Lengths.l0 k x0 x1 (i : Int)) (decide (okL x0 ∧ (x0.length : Int) ≤ x1))
  | 0, i, hd, hi => by
    refine ev_succ ?_
    simp only [spec_l08Lengths.l0]
    refine ev_neg (by omega) (ev_some ?_)
    have e : x0.drop i = [] := by simp; omega
    have g := hi (by rw [e]; simp [okL])
    simp [g]
  | d + 1, i, hd, hi => by
    refine ev_succ ?_
    simp only [spec_l08Lengths.l0]
    refine ev_pos (by omega) (ev_pos (by omega) (ev_now (l00In_eq _ _ _) (ev_if (fun h => ?_) (fun h => ev_some ?_))))
    · rw [w64s (by omega)]
      rw [rd_nat (by omega)] at h
      refine l08Lengths_l0 x0 hn x1 d (i + 1) (by omega) (fun g => hi ?_)
      rw [okL_drop (by omega)]; exact ⟨of_decide_eq_true h, g⟩
    · rw [rd_nat (by omega)] at h
      symm; apply ofd
      intro g; exact h (ofd1 (g.1 _ (List.getElem_mem _)))
theorem l08Ok_ev (a b : List Int) (ha : a.length ≤ 35184372088832) (hb : b.length ≤ 35184372088832) :
    Ev (fun k => spec_l08Ok.f k a b) (decide (okC a b)) := by
  have e1 := l08Lengths_l0 a ha 5 a.length 0 (by omega) (by simp)
  have e2 := l08Lengths_l0 b hb 7 b.length 0 (by omega) (by simp)
  simp only [spec_l08Ok.f, spec_l08Lengths.f]
  refine Ev.bind e1 (ev_if (fun h => Ev.bind e2 (ev_some ?_)) (fun h => ev_some ?_))
  · have h := of_decide_eq_true h
    apply decide_eq_decide.2; unfold okC; constructor
    · intro g; exact ⟨h.1, g.1, by omega, by omega⟩
    · intro g; exact ⟨g.2.1, by omega⟩
  · symm; apply ofd; intro g; exact h (ofd1 ⟨g.1, by have := g.2.2.1; omega⟩)

theorem eqInt64S_l0 (x0 x1 : List Int) (hl : x0.length = x1.length) (hn : x0.length ≤ 35184372088832) : ∀ (d i : Nat), i + d = x0.length → x0.take i = x1.take i →
    Ev (fun k => laws_eqInt64S.l0 k x0 x1 (i : Int)) (decide (x0 = x1))
  | 0, i, hd, ht => by
    refine ev_succ ?_
    simp only [laws_eqInt64S.l0]
    refine ev_neg (by omega) (ev_some ?_)
    rw [List.take_of_length_le (by omega), List.take_of_length_le (by omega)] at ht; simp [ht]
  | d + 1, i, hd, ht => by
    refine ev_succ ?_
    simp only [laws_eqInt64S.l0]
    refine ev_pos (by omega) (ev_pos (by omega) (ev_pos (by omega) (ev_if (fun h => ?_) (fun h => ev_some ?_))))
    · rw [w64s (by omega)]
      refine eqInt64S_l0 x0 x1 hl hn d (i + 1) (by omega) ?_
      rw [rd_nat (by omega), rd_nat (by omega)] at h
      rw [List.take_succ_eq_append_getElem (by omega), List.take_succ_eq_append_getElem (by omega), ht, h]
    · rw [rd_nat (by omega), rd_nat (by omega)] at h
      symm; rw [decide_eq_false_iff_not]; rintro rfl; exact h rfl
theorem eqInt64S_ev (a b : List Int) (hn : a.length ≤ 35184372088832) : Ev (fun k => laws_eqInt64S.f k a b) (decide (a = b)) := by
  simp only [laws_eqInt64S.f]
  refine ev_if (fun h => ?_) (fun h => ev_some ?_)
  · exact eqInt64S_l0 a b (by omega) hn a.length 0 (by omega) (by simp)
  · symm; rw [decide_eq_false_iff_not]; rintro rfl; exact h rfl
theorem eqInt64S_self (a : List Int) (hn : a.length ≤ 35184372088832) : Ev (fun k => laws_eqInt64S.f k a a) true := by
  simpa using eqInt64S_ev a a hn

theorem toInt64S_l0 (x0 : List Int) (hn : x0.length ≤ 35184372088832) : ∀ (d i : Nat) (x3 : List Int), i + d = x0.length → x3.length = x0.length → x3.take i = x0.take i →
    Ev (fun k => laws_toInt64S.l0 k x0 x3 (i : Int)) x0
  | 0, i, x3, hd, hl, ht => by
    refine ev_succ ?_
    simp only [laws_toInt64S.l0]
    refine ev_neg (by omega) (ev_some ?_)
    rw [List.take_of_length_le (by omega), List.take_of_length_le (by omega)] at ht; exact ht
  | d + 1, i, x3, hd, hl, ht => by
    refine ev_succ ?_
    simp only [laws_toInt64S.l0]
    refine ev_pos (by omega) (ev_pos (by omega) (ev_pos (by omega) ?_))
    rw [w64s (by omega), Int.toNat_natCast, rd_nat (by omega)]
    exact toInt64S_l0 x0 hn d (i + 1) _ (by omega) (by simpa using hl) (take_set _ _ _ _ (by omega) (by omega) ht rfl)
theorem toInt64S_ev (l : List Int) (hn : l.length ≤ 35184372088832) : Ev (fun k => laws_toInt64S.f k l) l := by
  simp only [laws_toInt64S.f]
  refine ev_pos (by omega) (ev_pos (by omega) ?_)
  exact toInt64S_l0 l (by omega) l.length 0 _ (by omega) (by simp) (by simp)

open Go.Proofs.Ytmkckdndlimcjaa.Cut
/-- What two leaves keep between two states, all cuts keep. -/
theorem wk_sim {σ τ : Type} (R : σ → τ → Prop) (G : List Int → List Int → Prop) (f1 : List Int → List Int → σ → σ) (f2 : List Int → List Int → τ → τ) (hl : ∀ left fr s t, G left fr → R s t → R (f1 left fr s) (f2 left fr t))
    (hs : ∀ left fr (k x : Int), G left fr → 0 ≤ k → k < left.length → 1 ≤ x → x ≤ rd left k → G (left.set k.toNat (rd left k - x)) (fr ++ [k])) :
    ∀ (ps : List Int), (∀ x ∈ ps, 1 ≤ x) → ∀ left fr s t, G left fr → R s t → R (wkG f1 ps left fr s) (wkG f2 ps left fr t) := by
  intro ps
  induction ps with
  | nil => intro _ left fr s t hg hr; exact hl left fr s t hg hr
  | cons x ps ih =>
    intro hp left fr s t hg hr
    have go : ∀ (m : Nat) (i : Int) (s : σ) (t : τ), 0 ≤ i → i + m ≤ left.length → R s t → R (rdsG (fun k s => if x ≤ rd left k then wkG f1 ps (left.set k.toNat (rd left k - x)) (fr ++ [k]) s else s) m i s) (rdsG (fun k s => if x ≤ rd left k then wkG f2 ps (left.set k.toNat (rd left k - x)) (fr ++ [k]) s else s) m i t) := by
      intro m
      induction m with
      | zero => intro i s t _ _ h; exact h
      | succ m ihm =>
        intro i s t h0 h1 h
        simp only [rdsG]
        refine ihm (i + 1) _ _ (by omega) (by omega) ?_
        by_cases c : x ≤ rd left i
        · rw [if_pos c, if_pos c]
          exact ih (fun y hy => hp y (by simp [hy])) _ _ _ _ (hs left fr i x hg h0 (by omega) (hp x (by simp)) c) h
        · rw [if_neg c, if_neg c]; exact h
    exact go left.length 0 s t (by omega) (by omega) hr
theorem okCut_of {a b : List Int} (h : okC a b) : okCut a b := ⟨⟨by have := h.2.2.1; omega, by have := h.2.2.2; omega⟩, fun x hx => by have := h.1 x hx; omega, fun x hx => by have := h.2.1 x hx; omega⟩
/-! the greatest rest -/
theorem gm_mx (l : List Int) : ∀ (m : Nat) (i r : Int), 0 ≤ r → gmx l m i r = mxl l m i r ∧ 0 ≤ gmx l m i r
  | 0, _, r, h => ⟨rfl, h⟩
  | m + 1, i, r, h => by
    have e : mx r (rd l i) = if r > rd l i then r else rd l i := by unfold mx; split <;> split <;> omega
    simp only [gmx, mxl]
    rw [← e]
    exact gm_mx l m (i + 1) _ (by unfold mx; split <;> omega)
theorem bg_ge (a b : List Int) : ∀ (m : Nat) (i n : Int), 0 ≤ n → 0 ≤ bg a b m i n
  | 0, _, n, h => h
  | m + 1, i, n, h => by simp only [bg]; exact bg_ge a b m (i + 1) _ (by split <;> omega)
def RL (s : Int) (t : List Int × Int × Int) : Prop := (t.2.1 < 0 → s = -1 ∧ t.2.2 = 0) ∧ (0 ≤ t.2.1 → s = t.2.2 ∧ 0 ≤ s)
theorem longest_eq (a b : List Int) (hb : ∀ x ∈ b, 1 ≤ x) : RL (wkG leafL b a [] (-1)) (wkG (lfS a) b a [] ([], -1, 0)) := by
  refine wk_sim RL (fun _ _ => True) leafL (lfS a) ?_ (fun _ _ _ _ _ _ _ _ _ => trivial) b hb a [] (-1) ([], -1, 0) trivial ⟨fun _ => ⟨rfl, rfl⟩, fun h => by simp at h⟩
  intro left fr s t _ h
  obtain ⟨t1, t2, t3⟩ := t
  have hn := bg_ge a left a.length 0 0 (by omega)
  have h1 := h.1
  have h2 := h.2
  simp only at h1 h2
  have e : 0 ≤ mx s 0 ∧ mx s 0 = t3 := by
    by_cases c : t2 < 0
    · have := h1 c; unfold mx; split <;> omega
    · have := h2 (by omega); unfold mx; split <;> omega
  have g := gm_mx left left.length 0 (mx s 0) e.1
  have f : 0 ≤ (lfS a left fr (t1, t2, t3)).2.1 := by
    simp only [lfS]
    split <;> omega
  refine ⟨fun c => by omega, fun _ => ?_⟩
  show gmx left left.length 0 (mx s 0) = mxl left left.length 0 t3 ∧ 0 ≤ gmx left left.length 0 (mx s 0)
  rw [g.1, e.2]
  exact ⟨rfl, by rw [← e.2, ← g.1]; exact g.2⟩
/-! the fewest coils -/
theorem hasI_iff (l : List Int) (v : Int) : hasI l v = true ↔ v ∈ l := by
  have go : ∀ (m : Nat) (i : Nat), i + m = l.length → (0 ≤ idxI l v m (i : Int) ↔ v ∈ l.drop i) := by
    intro m
    induction m with
    | zero => intro i hi; have e : l.drop i = [] := by simp; omega
              rw [e]; simp [idxI]
    | succ m ih =>
      intro i hi
      rw [List.drop_eq_getElem_cons (by omega)]
      simp only [idxI, List.mem_cons]
      rw [rd_nat (by omega)]
      by_cases c : v = l[i]
      · rw [if_pos c]; constructor
        · intro _; exact .inl c
        · intro _; omega
      · rw [if_neg c]
        have := ih (i + 1) (by omega)
        rw [← this]
        constructor
        · intro h; exact .inr h
        · intro h; rcases h with h | h
          · exact absurd h c
          · exact h
  have := go l.length 0 (by omega)
  simp only [hasI, decide_eq_true_eq]
  simpa using this
def GB (a left fr : List Int) : Prop := left.length = a.length ∧ ∀ i : Int, 0 ≤ i → i < a.length → (i ∈ fr → rd left i < rd a i) ∧ (i ∉ fr → rd left i = rd a i)
theorem GB_step {a left fr : List Int} {k x : Int} (h : GB a left fr) (h0 : 0 ≤ k) (h1 : k < left.length) (hx : 1 ≤ x) : GB a (left.set k.toNat (rd left k - x)) (fr ++ [k]) := by
  refine ⟨by simpa using h.1, fun i i0 i1 => ?_⟩
  have hi := h.2 i i0 i1
  have e : rd (left.set k.toNat (rd left k - x)) i = if i = k then rd left k - x else rd left i := by
    have hk : k.toNat < left.length := by omega
    by_cases c : i = k
    · subst c; simp [rd, List.getD_eq_getElem?_getD, List.getElem?_set, hk]
    · have hn : k.toNat ≠ i.toNat := by omega
      simp [rd, List.getD_eq_getElem?_getD, List.getElem?_set, hn, c]
  rw [e]
  by_cases c : i = k
  · subst c
    rw [if_pos rfl]
    refine ⟨fun _ => ?_, fun hn => absurd (by simp) hn⟩
    by_cases d : i ∈ fr
    · have := hi.1 d; omega
    · have := hi.2 d; omega
  · rw [if_neg (by omega)]
    refine ⟨fun hm => hi.1 ?_, fun hm => hi.2 ?_⟩
    · simpa [c] using hm
    · intro h; exact hm (by simp [h])
theorem beg_eq {a left fr : List Int} (h : GB a left fr) : begI fr a.length 0 0 = bg a left a.length 0 0 := by
  have go : ∀ (m : Nat) (i n : Int), 0 ≤ i → i + m ≤ a.length → begI fr m i n = bg a left m i n := by
    intro m
    induction m with
    | zero => intro i n _ _; rfl
    | succ m ih =>
      intro i n i0 i1
      have hi := h.2 i i0 (by omega)
      simp only [begI, bg]
      have e : (if hasI fr i = true then n + 1 else n) = if rd left i < rd a i then n + 1 else n := by
        by_cases c : i ∈ fr
        · rw [if_pos ((hasI_iff fr i).2 c), if_pos (hi.1 c)]
        · rw [if_neg (fun q => c ((hasI_iff fr i).1 q)), if_neg (by have := hi.2 c; omega)]
      rw [e]
      exact ih (i + 1) _ (by omega) (by omega)
  exact go a.length 0 0 (by omega) (by omega)
theorem best_eq (a b : List Int) (hb : ∀ x ∈ b, 1 ≤ x) : wkG (leafB a.length) b a [] ([], -1) = ((wkG (lfS a) b a [] ([], -1, 0)).1, (wkG (lfS a) b a [] ([], -1, 0)).2.1) := by
  refine wk_sim (fun s t => s = (t.1, t.2.1)) (GB a) (leafB a.length) (lfS a) ?_ (fun left fr k x hg h0 h1 hx _ => GB_step hg h0 h1 hx) b hb a [] ([], -1) ([], -1, 0) ⟨rfl, fun i i0 i1 => ⟨fun h => by simp at h, fun _ => rfl⟩⟩ rfl
  intro left fr s t hg h
  subst h
  simp only [leafB, lfS, beg_eq hg]
  by_cases c : t.2.1 < 0 ∨ bg a left a.length 0 0 < t.2.1
  · rw [if_pos c, if_pos c, if_pos c]
  · rw [if_neg c, if_neg c, if_neg c]
theorem wk_len {σ : Type} (P : σ → Prop) (N : Nat) (f : List Int → List Int → σ → σ) (hf : ∀ left fr s, fr.length ≤ N → P s → P (f left fr s)) : ∀ (ps left fr : List Int) (s : σ), fr.length + ps.length ≤ N → P s → P (wkG f ps left fr s) := by
  intro ps
  induction ps with
  | nil => intro left fr s h hp; exact hf left fr s (by simpa using h) hp
  | cons x ps ih =>
    intro left fr s h hp
    have go : ∀ (m : Nat) (i : Int) (s : σ), P s → P (rdsG (fun k s => if x ≤ rd left k then wkG f ps (left.set k.toNat (rd left k - x)) (fr ++ [k]) s else s) m i s) := by
      intro m
      induction m with
      | zero => intro i s h; exact h
      | succ m ihm =>
        intro i s hs
        simp only [rdsG]
        refine ihm _ _ ?_
        split
        · exact ih _ _ _ (by simp at h ⊢; omega) hs
        · exact hs
    exact go _ _ _ hp

theorem markInt64S_l0 (s : Int) (h0 : 0 ≤ s) (n : Nat) (hn : s + n < 9223372036854775807) : ∀ (d i : Nat) (x0 : List Int), i + d = n → x0.length = n → x0.take i = (marks s n).take i →
    Ev (fun k => laws_markInt64S.l0 k x0 (s + i) (i : Int)) (s + n, marks s n)
  | 0, i, x0, hd, hl, ht => by
    refine ev_succ ?_
    simp only [laws_markInt64S.l0]
    refine ev_neg (by omega) (ev_some ?_)
    rw [List.take_of_length_le (by omega), List.take_of_length_le (by rw [marks_length]; omega)] at ht
    rw [ht]; congr 1; omega
  | d + 1, i, x0, hd, hl, ht => by
    refine ev_succ ?_
    simp only [laws_markInt64S.l0]
    refine ev_pos (by omega) (ev_pos (by omega) ?_)
    rw [w64s (by omega), w64 (by omega) (by omega), Int.toNat_natCast]
    have e : s + (i : Int) + 1 = s + ((i + 1 : Nat) : Int) := by omega
    rw [e]
    refine markInt64S_l0 s h0 n hn d (i + 1) _ (by omega) (by simpa using hl) (take_set _ _ _ _ (by omega) (by rw [marks_length]; omega) ht ?_)
    rw [marks_get]
theorem markInt64S_ev (l : List Int) (s : Int) (h0 : 0 ≤ s) (hn : s + l.length < 9223372036854775807) :
    Ev (fun k => laws_markInt64S.f k l s) (s + l.length, marks s l.length) := by
  simp only [laws_markInt64S.f]
  have := markInt64S_l0 s h0 l.length hn l.length 0 l (by omega) rfl (by simp)
  simpa using this
theorem heldInt64S_l0 (s : Int) (h0 : 0 ≤ s) (n : Nat) (hn : s + n < 9223372036854775807) : ∀ (d i : Nat), i + d = n →
    Ev (fun k => laws_heldInt64S.l0 k (marks s n) (s + i) (i : Int)) (s + n)
  | 0, i, hd => by
    refine ev_succ ?_
    simp only [laws_heldInt64S.l0]
    refine ev_neg (by rw [marks_length]; omega) (ev_some ?_)
    omega
  | d + 1, i, hd => by
    refine ev_succ ?_
    simp only [laws_heldInt64S.l0]
    refine ev_pos (by rw [marks_length]; omega) (ev_pos (by omega) (ev_pos ?_ ?_))
    · rw [rd_nat (by rw [marks_length]; omega), marks_get]
    · rw [w64s (by omega), w64 (by omega) (by omega)]
      have e : s + (i : Int) + 1 = s + ((i + 1 : Nat) : Int) := by omega
      rw [e]
      exact heldInt64S_l0 s h0 n hn d (i + 1) (by omega)
theorem heldInt64S_ev (s : Int) (h0 : 0 ≤ s) (n : Nat) (hn : s + n < 9223372036854775807) :
    Ev (fun k => laws_heldInt64S.f k (marks s n) s) (s + n) := by
  simp only [laws_heldInt64S.f]
  have := heldInt64S_l0 s h0 n hn n 0 (by omega)
  simpa using this

theorem best_ev (l0 l1 : List Int) (ha : l0.length ≤ 35184372088832) (hb : l1.length ≤ 35184372088832) : ∃ r : List Int × Int × Int, r.1.length ≤ 7 ∧ Ev (fun k => spec_BestCut.f k l0 l1) r ∧ Ev (fun k => impl_BestCut.f k l0 l1) r := by
  have es := l08Ok_ev l0 l1 ha hb
  have ei := iValidCoils_ev l0 l1 ha hb
  by_cases hc : okC l0 l1
  · have ho := okCut_of hc
    have hr := best_eq l0 l1 (fun x hx => (hc.2.1 x hx).1)
    have hn := wk_len (fun s : List Int × Int × Int => s.1.length ≤ 7) 7 (lfS l0) (fun left fr s h hs => by simp only [lfS]; split <;> assumption) l1 l0 [] ([], -1, 0) (by simpa using hc.2.2.2) (by simp)
    rw [decide_eq_true hc] at es ei
    by_cases c : (wkG (lfS l0) l1 l0 [] ([], -1, 0)).2.1 < 0
    · refine ⟨([], 0, 5), by simp, ?_, ?_⟩
      · simp only [spec_BestCut.f]
        exact Ev.bind es (ev_pos rfl (ev_pos ho (ev_pos c (Ev.now _))))
      · simp only [impl_BestCut.f]
        exact Ev.bind ei (ev_pos rfl (ev_pos ho (ev_pos (by rw [hr]; exact c) (Ev.now _))))
    · refine ⟨((wkG (lfS l0) l1 l0 [] ([], -1, 0)).1, (wkG (lfS l0) l1 l0 [] ([], -1, 0)).2.1, 0), hn, ?_, ?_⟩
      · simp only [spec_BestCut.f]
        exact Ev.bind es (ev_pos rfl (ev_pos ho (ev_neg c (Ev.now _))))
      · simp only [impl_BestCut.f]
        exact Ev.bind ei (ev_pos rfl (ev_pos ho (ev_neg (by rw [hr]; exact c) (ev_some (by rw [hr])))))
  · rw [decide_eq_false hc] at es ei
    refine ⟨([], 0, 1), by simp, ?_, ?_⟩
    · simp only [spec_BestCut.f]
      exact Ev.bind es (ev_neg (by simp) (Ev.now _))
    · simp only [impl_BestCut.f]
      exact Ev.bind ei (ev_neg (by simp) (Ev.now _))
theorem FnExactBestCut : laws_FnExactBestCut.Pure := by
  intro l0 l1 _ h0 _ _ h1 _
  refine Ev.rounds ?_
  simp only [laws_FnExactBestCut.f]
  refine ev_if (fun _ => Ev.now _) (fun _ => ev_if (fun _ => Ev.now _) (fun _ => ?_))
  have t0 := toInt64S_ev l0 (by omega)
  have t1 := toInt64S_ev l1 (by omega)
  obtain ⟨r, hr, e1, e2⟩ := best_ev l0 l1 (by omega) (by omega)
  have er := eqInt64S_self r.1 (by omega)
  refine Ev.bind t0 (Ev.bind t1 (Ev.bind e1 (Ev.bind t0 (Ev.bind t1 (Ev.bind e2 (Ev.bind er (ev_pos (by trivial) (ev_pos (by trivial) ?_))))))))
  have : (r.2.2 != r.2.2) = false := by simp
  rw [this]
  refine ev_succ ?_; simp only [laws_FnExactBestCut.j0]
  refine ev_neg (by simp) (Ev.bind t0 (Ev.bind (eqInt64S_self l0 (by omega)) (ev_pos (by trivial) (Ev.bind t1 (Ev.bind (eqInt64S_self l1 (by omega)) (ev_pos (by trivial) ?_))))))
  refine Ev.bind (markInt64S_ev l0 1 (by omega) (by omega)) (Ev.bind (markInt64S_ev l1 _ (by first | omega | (dsimp only; omega)) (by first | omega | (dsimp only; omega))) (ev_neg (by first | omega | (dsimp only; omega)) (Ev.bind er (ev_pos (by trivial) (ev_pos (by trivial) ?_)))))
  rw [this]
  refine ev_succ ?_; simp only [laws_FnExactBestCut.j1]
  refine ev_neg (by simp) (Ev.bind (markInt64S_ev r.1 1 (by omega) (by omega)) (Ev.bind (heldInt64S_ev 1 (by omega) r.1.length (by omega)) (ev_neg (by first | omega | (dsimp only; omega)) (ev_pos (by trivial) ?_))))
  refine Ev.bind t0 (Ev.bind t1 (Ev.bind e2 (Ev.bind er (ev_pos (by trivial) (ev_pos (by trivial) ?_)))))
  rw [this]
  refine ev_succ ?_; simp only [laws_FnExactBestCut.j2]
  exact ev_neg (by simp) (Ev.bind (heldInt64S_ev 1 (by omega) r.1.length (by omega)) (ev_neg (by first | omega | (dsimp only; omega)) (ev_pos (by trivial) (Ev.now _))))

end Go.Proofs.Ytmkckdndlimcjaa.PureFnExactBestCut
namespace Go.Proofs.Ytmkckdndlimcjaa.Pure
open Go.Proofs.Ytmkckdndlimcjaa.HCut
theorem FnExactBestCut : laws_FnExactBestCut.Pure := PureFnExactBestCut.FnExactBestCut
end Go.Proofs.Ytmkckdndlimcjaa.Pure
