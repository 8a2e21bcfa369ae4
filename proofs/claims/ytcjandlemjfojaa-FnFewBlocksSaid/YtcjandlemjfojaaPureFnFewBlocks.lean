/- The program's function answers as the statement says. Conditions: none beyond the given statement's own. -/
import Derived.Test.YtcjandlemjfojaaHFewx11
import Derived.Test.YtcjandlemjfojaaLib
import Derived.Test.YtcjandlemjfojaaLibDraw
set_option linter.unusedVariables false
set_option linter.unusedSimpArgs false
namespace Go.Proofs.Ytcjandlemjfojaa.PureFnFewBlocks
open Go.RowKit Go.Proofs.Ytcjandlemjfojaa.HFew Go.Proofs.YtcjandlemjfojaaW.PrintWords Go.Proofs.YtcjandlemjfojaaW.PrintLast Go.Proofs.YtcjandlemjfojaaW.PrintMore Go.Proofs.Ytcjandlemjfojaa.Lib
theorem l00In_eq (a b c : Int) : spec_l00In.f a b c = some (decide (b ≤ a ∧ a ≤ c)) := by
  unfold spec_l00In.f; by_cases h : a ≥ b <;> simp [h]

theorem within_eq (a b c : Int) : impl_within.f a b c = some (decide (b ≤ a ∧ a ≤ c)) := by
  unfold impl_within.f; by_cases h : a ≥ b <;> simp [h]

def okP (p : S39) : Prop := (0 ≤ p.f0 ∧ p.f0 ≤ 4) ∧ (0 ≤ p.f1 ∧ p.f1 ≤ 4) ∧ 1 ≤ p.f0 + p.f1 ∧ (if p.f2 = true then 0 ≤ p.f1 - p.f0 ∧ p.f1 - p.f0 ≤ 1 else 0 ≤ p.f0 - p.f1 ∧ p.f0 - p.f1 ≤ 1)
instance (p : S39) : Decidable (okP p) := inferInstanceAs (Decidable ((0 ≤ p.f0 ∧ p.f0 ≤ 4) ∧ (0 ≤ p.f1 ∧ p.f1 ≤ 4) ∧ 1 ≤ p.f0 + p.f1 ∧ (if p.f2 = true then 0 ≤ p.f1 - p.f0 ∧ p.f1 - p.f0 ≤ 1 else 0 ≤ p.f0 - p.f1 ∧ p.f0 - p.f1 ≤ 1)))
def okPs (t : List S39) : Prop := ∀ p ∈ t, okP p
instance (t : List S39) : Decidable (okPs t) := inferInstanceAs (Decidable (∀ p ∈ t, okP p))
def okT (t : List S39) : Prop := okPs t ∧ 1 ≤ t.length ∧ t.length ≤ 6
instance (t : List S39) : Decidable (okT t) := inferInstanceAs (Decidable (okPs t ∧ 1 ≤ t.length ∧ t.length ≤ 6))
theorem okPs_drop {l : List S39} {i : Nat} (h : i < l.length) : okPs (l.drop i) ↔ okP l[i] ∧ okPs (l.drop (i + 1)) := all_drop h
theorem rdP {xs : List S39} {i : Nat} (h : i < xs.length) : rd_T39 xs (i : Int) = xs[i] := by
  unfold rd_T39; simp [List.getD_eq_getElem?_getD, h]

theorem validPurchase_ev (p : S39) : Ev (fun k => impl_ValidPurchase.f k p.f0 p.f1 p.f2) (decide (okP p)) := by
  have jt : Ev (fun k => impl_ValidPurchase.j0 k true p.f0 p.f1 p.f2) false := by
    refine ev_succ ?_; simp only [impl_ValidPurchase.j0]; exact ev_pos (by trivial) (Ev.now _)
  simp only [impl_ValidPurchase.f]
  refine ev_now (within_eq _ _ _) (ev_if (fun h0 => ev_now (within_eq _ _ _) (ev_if (fun h1 => ?_) (fun h1 => ?_))) (fun h0 => ?_))
  · have h0 := of_decide_eq_true h0
    have h1 := of_decide_eq_true h1
    rw [w64 (x := p.f0 + p.f1) (by omega) (by omega)]
    by_cases h2 : p.f0 + p.f1 = 0
    · rw [beq_iff_eq.2 h2, ofd (p := okP p) (fun g => by have := g.2.2.1; omega)]; exact jt
    · rw [beq_eq_false_iff_ne.2 h2]
      refine ev_succ ?_; simp only [impl_ValidPurchase.j0]
      refine ev_neg (by simp) (ev_if (fun h3 => ?_) (fun h3 => ?_))
      · rw [w64 (x := p.f1 - p.f0) (by omega) (by omega)]
        refine ev_now (within_eq _ _ _) (ev_some ?_)
        apply decide_eq_decide.2; unfold okP; rw [if_pos h3]
        exact ⟨fun g => ⟨h0, h1, by omega, g⟩, fun g => g.2.2.2⟩
      · rw [w64 (x := p.f0 - p.f1) (by omega) (by omega)]
        refine ev_now (within_eq _ _ _) (ev_some ?_)
        apply decide_eq_decide.2; unfold okP; rw [if_neg h3]
        exact ⟨fun g => ⟨h0, h1, by omega, g⟩, fun g => g.2.2.2⟩
  · rw [ofd (p := okP p) (fun g => h1 (ofd1 g.2.1))]; exact jt
  · rw [ofd (p := okP p) (fun g => h0 (ofd1 g.1))]; exact jt
theorem validTackle_l0 (x0 : List S39) (h1 : 1 ≤ x0.length) (h6 : x0.length ≤ 6) : ∀ (d i : Nat), i + d = x0.length → (okPs (x0.drop i) → okPs x0) →
    Ev (fun k => impl_ValidTackle.l0 k x0 (x0.length : Int) (i : Int)) (decide (okT x0))
  | 0, i, hd, hi => by
    refine ev_succ ?_
    simp only [impl_ValidTackle.l0]
    have e : x0.drop i = [] := by simp; omega
    have g := hi (by rw [e]; simp [okPs])
    exact ev_neg (by omega) (ev_some (ofd1 (p := okT x0) ⟨g, h1, h6⟩).symm)
  | d + 1, i, hd, hi => by
    have hil : i < x0.length := by omega
    refine ev_succ ?_
    simp only [impl_ValidTackle.l0]
    rw [rdP hil, w64s (by omega)]
    refine ev_pos (by omega) (ev_pos (by omega) (ev_pos (by omega) (Ev.bind (validPurchase_ev x0[i]) (ev_if (fun h => ?_) (fun h => ev_some ?_)))))
    · refine validTackle_l0 x0 h1 h6 d (i + 1) (by omega) (fun g => hi ?_)
      rw [okPs_drop hil]; exact ⟨of_decide_eq_true h, g⟩
    · symm; apply ofd; intro g; exact h (ofd1 (g.1 _ (List.getElem_mem _)))
theorem validTackle_ev (t : List S39) : Ev (fun k => impl_ValidTackle.f k t) (decide (okT t)) := by
  have jt : Ev (fun k => impl_ValidTackle.j0 k t true) false := by
    refine ev_succ ?_; simp only [impl_ValidTackle.j0]; exact ev_pos (by trivial) (Ev.now _)
  simp only [impl_ValidTackle.f]
  refine ev_if (fun h => ?_) (fun h => ?_)
  · rw [ofd (p := okT t) (fun g => by have := g.2.1; omega)]; exact jt
  · by_cases h6 : (t.length : Int) > 6
    · rw [ofd1 h6, ofd (p := okT t) (fun g => by have := g.2.2; omega)]; exact jt
    · rw [ofd h6]
      refine ev_succ ?_; simp only [impl_ValidTackle.j0]
      exact ev_neg (by simp) (validTackle_l0 t (by omega) (by omega) t.length 0 (by omega) (by simp))

theorem l05One_ev (p : S39) : Ev (fun k => spec_l05One.f k p.f0 p.f1 p.f2) (decide (okP p), p.f0, p.f1, p.f2) := by
  have jt : Ev (fun k => spec_l05One.j0 k true p.f0 p.f1 p.f2) (false, p.f0, p.f1, p.f2) := by
    refine ev_succ ?_; simp only [spec_l05One.j0]; exact ev_pos (by trivial) (Ev.now _)
  simp only [spec_l05One.f]
  refine ev_now (l00In_eq _ _ _) (ev_if (fun h0 => ev_now (l00In_eq _ _ _) (ev_if (fun h1 => ?_) (fun h1 => ?_))) (fun h0 => ?_))
  · have h0 := of_decide_eq_true h0
    have h1 := of_decide_eq_true h1
    rw [w64 (x := p.f0 + p.f1) (by omega) (by omega)]
    by_cases h2 : p.f0 + p.f1 < 1
    · rw [ofd1 h2, ofd (p := okP p) (fun g => by have := g.2.2.1; omega)]; exact jt
    · rw [ofd h2]
      refine ev_succ ?_; simp only [spec_l05One.j0]
      refine ev_neg (by simp) (ev_if (fun h3 => ?_) (fun h3 => ?_))
      · rw [w64 (x := p.f1 - p.f0) (by omega) (by omega)]
        refine ev_now (l00In_eq _ _ _) (ev_some ?_)
        congr 1
        apply decide_eq_decide.2; unfold okP; rw [if_pos h3]
        exact ⟨fun g => ⟨h0, h1, by omega, g⟩, fun g => g.2.2.2⟩
      · rw [w64 (x := p.f0 - p.f1) (by omega) (by omega)]
        refine ev_now (l00In_eq _ _ _) (ev_some ?_)
        congr 1
        apply decide_eq_decide.2; unfold okP; rw [if_neg h3]
        exact ⟨fun g => ⟨h0, h1, by omega, g⟩, fun g => g.2.2.2⟩
  · rw [ofd (p := okP p) (fun g => h1 (ofd1 g.2.1))]; exact jt
  · rw [ofd (p := okP p) (fun g => h0 (ofd1 g.1))]; exact jt

theorem l05One_at_ev (p : S39) : Ev (fun k => spec_l05One_at.f k p.f0 p.f1 p.f2) (decide (okP p)) := by
  simp only [spec_l05One_at.f]
  exact Ev.bind (l05One_ev p) (Ev.now _)
theorem l05Ok_l0 (x0 : List S39) (hn : x0.length ≤ 35184372088832) : ∀ (d i : Nat), i + d = x0.length → (okPs (x0.drop i) → okPs x0) →
    Ev (fun k => spec_l05Ok.l0 k x0 (i : Int)) (decide (okT x0))
  | 0, i, hd, hi => by
    refine ev_succ ?_
    simp only [spec_l05Ok.l0]
    have e : x0.drop i = [] := by simp; omega
    have g := hi (by rw [e]; simp [okPs])
    refine ev_neg (by omega) (ev_now (l00In_eq _ _ _) (ev_some ?_))
    apply decide_eq_decide.2; unfold okT; exact ⟨fun q => ⟨g, by omega, by omega⟩, fun q => by omega⟩
  | d + 1, i, hd, hi => by
    have hil : i < x0.length := by omega
    refine ev_succ ?_
    simp only [spec_l05Ok.l0]
    rw [rdP hil, w64s (by omega)]
    refine ev_pos (by omega) (ev_pos (by omega) (Ev.bind (l05One_at_ev x0[i]) (ev_if (fun h => ?_) (fun h => ev_some ?_))))
    · refine l05Ok_l0 x0 hn d (i + 1) (by omega) (fun g => hi ?_)
      rw [okPs_drop hil]; exact ⟨of_decide_eq_true h, g⟩
    · symm; apply ofd; intro g; exact h (ofd1 (g.1 _ (List.getElem_mem _)))
theorem l05Ok_ev (t : List S39) (hn : t.length ≤ 35184372088832) : Ev (fun k => spec_l05Ok.f k t) (decide (okT t)) := by
  simp only [spec_l05Ok.f]
  exact l05Ok_l0 t hn t.length 0 (by omega) (by simp)

def shT : List S39 → Int
  | [] => 0
  | p :: t => p.f0 + p.f1 + shT t
theorem shT_bd {t : List S39} (h : okPs t) : (t.length : Int) ≤ shT t ∧ shT t ≤ 8 * t.length := by
  induction t with
  | nil => simp [shT]
  | cons p t ih =>
    have h1 := h p (by simp)
    have h2 := ih (fun q hq => h q (by simp [hq]))
    have h3 := h1.1
    have h4 := h1.2.1
    have h5 := h1.2.2.1
    simp only [shT, List.length_cons]; omega

def partsP (p : S39) : Int := p.f0 + p.f1 + if p.f2 = true then 1 else 0
def advT : List S39 → Int
  | [] => 1
  | p :: t => partsP p * advT t
theorem partsP_bd {p : S39} (h : okP p) : 1 ≤ partsP p ∧ partsP p ≤ 9 := by
  obtain ⟨h1, h2, h3, h4⟩ := h
  unfold partsP
  cases hx : p.f2 with
  | true => rw [hx, if_pos rfl] at h4; rw [if_pos rfl]; omega
  | false => rw [hx, if_neg (by simp)] at h4; rw [if_neg (by simp)]; omega
theorem advT_bd {t : List S39} (h : okPs t) : 1 ≤ advT t ∧ advT t ≤ 9 ^ t.length := by
  induction t with
  | nil => simp [advT]
  | cons p t ih =>
    have ih := ih (fun q hq => h q (by simp [hq]))
    have h1 := partsP_bd (h p (by simp))
    simp only [advT, List.length_cons]
    rw [Int.pow_succ, Int.mul_comm (9 ^ t.length) 9]
    constructor
    · have := Int.mul_le_mul h1.1 ih.1 (by omega) (by omega); omega
    · exact Int.mul_le_mul h1.2 ih.2 (by omega) (by omega)
theorem p9 : (9 : Int) ^ 6 = 531441 := by decide
theorem advT_le {t : List S39} (h : okT t) : 1 ≤ advT t ∧ advT t ≤ 531441 := by
  have h1 := advT_bd h.1
  have h2 : (9 : Int) ^ t.length ≤ 9 ^ 6 := by
    obtain ⟨d, hd⟩ : ∃ d, 6 = t.length + d := ⟨6 - t.length, by have := h.2.2; omega⟩
    rw [hd, Int.pow_add]
    have : (1 : Int) ≤ 9 ^ d := by have := Int.pow_pos (n := 9) (m := d) (by omega); omega
    have := Int.mul_le_mul (Int.le_refl ((9 : Int) ^ t.length)) this (by omega) (by omega)
    omega
  rw [p9] at h2
  omega

theorem l05Parts_eq {p : S39} (h : okP p) : spec_l05Parts_at.f p.f0 p.f1 p.f2 = some (partsP p) := by
  have h1 := h.1
  have h2 := h.2.1
  unfold spec_l05Parts_at.f spec_l05Parts.f partsP
  rw [w64 (x := p.f0 + p.f1) (by omega) (by omega)]
  by_cases e : p.f2 = true
  · rw [if_pos e, if_pos e, w64 (by omega) (by omega)]; rfl
  · rw [if_neg e, if_neg e]; simp
theorem l05Adv_l0 (x0 : List S39) (ho : okPs x0) (hl : x0.length ≤ 6) : ∀ (d i : Nat) (s : Int), i + d = x0.length → 1 ≤ s → s ≤ 9 ^ i →
    Ev (fun k => spec_l05Advantage.l0 k x0 s (i : Int)) (s * advT (x0.drop i))
  | 0, i, s, hd, h0, h1 => by
    refine ev_succ ?_
    simp only [spec_l05Advantage.l0]
    have e : x0.drop i = [] := by simp; omega
    refine ev_neg (by omega) (ev_some ?_)
    rw [e]; simp [advT]
  | d + 1, i, s, hd, h0, h1 => by
    have hi : i < x0.length := by omega
    have hp := ho _ (List.getElem_mem hi)
    have hb := partsP_bd hp
    have h9 : (9 : Int) ^ i ≤ 531441 := by
      have : ∀ j : Fin 7, (9 : Nat) ^ j.val ≤ 531441 := by decide
      have := Int.ofNat_le.2 (this ⟨i, by omega⟩)
      simpa using this
    have m1 : s * partsP x0[i] ≤ 9 ^ i * 9 := Int.mul_le_mul h1 hb.2 (by omega) (by omega)
    have m2 : 1 ≤ s * partsP x0[i] := by have := Int.mul_le_mul h0 hb.1 (by omega) (by omega); omega
    refine ev_succ ?_
    simp only [spec_l05Advantage.l0]
    rw [rdP hi, w64s (by omega), List.drop_eq_getElem_cons hi]
    refine ev_pos (by omega) (ev_pos (by omega) (ev_now (l05Parts_eq hp) ?_))
    rw [w64 (x := s * partsP x0[i]) (by omega) (by omega)]
    have := l05Adv_l0 x0 ho hl d (i + 1) (s * partsP x0[i]) (by omega) m2 (by rw [Int.pow_succ]; exact m1)
    simp only [advT]
    rw [← Int.mul_assoc]; exact this
theorem l05Adv_ev (t : List S39) (h : okT t) : Ev (fun k => spec_l05Advantage.f k t) (advT t) := by
  have := l05Adv_l0 t h.1 h.2.2 t.length 0 1 (by omega) (by omega) (by simp)
  rw [List.drop_zero, Int.one_mul] at this
  simp only [spec_l05Advantage.f]; exact this

theorem partsOf_eq {p : S39} (h : okP p) : impl_partsOf.f p.f0 p.f1 p.f2 = some (partsP p) := by
  have h1 := h.1
  have h2 := h.2.1
  unfold impl_partsOf.f partsP
  rw [w64 (x := p.f0 + p.f1) (by omega) (by omega)]
  by_cases e : p.f2 = true
  · rw [if_pos e, if_pos e, w64 (by omega) (by omega)]
  · rw [if_neg e, if_neg e]; simp
theorem advOf_l0 (x0 : List S39) (ho : okPs x0) (hl : x0.length ≤ 6) : ∀ (d i : Nat) (s : Int), i + d = x0.length → 1 ≤ s → s ≤ 9 ^ i →
    Ev (fun k => impl_advantageOf.l0 k s x0 (x0.length : Int) (i : Int)) (s * advT (x0.drop i))
  | 0, i, s, hd, h0, h1 => by
    refine ev_succ ?_
    simp only [impl_advantageOf.l0]
    have e : x0.drop i = [] := by simp; omega
    refine ev_neg (by omega) (ev_some ?_)
    rw [e]; simp [advT]
  | d + 1, i, s, hd, h0, h1 => by
    have hi : i < x0.length := by omega
    have hp := ho _ (List.getElem_mem hi)
    have hb := partsP_bd hp
    have h9 : (9 : Int) ^ i ≤ 531441 := by
      have : ∀ j : Fin 7, (9 : Nat) ^ j.val ≤ 531441 := by decide
      have := Int.ofNat_le.2 (this ⟨i, by omega⟩)
      simpa using this
    have m1 : s * partsP x0[i] ≤ 9 ^ i * 9 := Int.mul_le_mul h1 hb.2 (by omega) (by omega)
    have m2 : 1 ≤ s * partsP x0[i] := by have := Int.mul_le_mul h0 hb.1 (by omega) (by omega); omega
    refine ev_succ ?_
    simp only [impl_advantageOf.l0]
    rw [rdP hi, w64s (by omega), List.drop_eq_getElem_cons hi]
    refine ev_pos (by omega) (ev_pos (by omega) (ev_pos (by omega) (ev_now (partsOf_eq hp) ?_)))
    rw [w64 (x := s * partsP x0[i]) (by omega) (by omega)]
    have := advOf_l0 x0 ho hl d (i + 1) (s * partsP x0[i]) (by omega) m2 (by rw [Int.pow_succ]; exact m1)
    simp only [advT]
    rw [← Int.mul_assoc]; exact this
theorem advOf_ev (t : List S39) (h : okT t) : Ev (fun k => impl_advantageOf.f k t) (advT t) := by
  have := advOf_l0 t h.1 h.2.2 t.length 0 1 (by omega) (by omega) (by simp)
  rw [List.drop_zero, Int.one_mul] at this
  simp only [impl_advantageOf.f]; exact this

/-- What a search has kept: the program's and the reference's. -/
def TkR (n : Nat) (x : Option (List S39 × Int)) (y : List S39 × Int) : Prop :=
  (x = none ∧ y = ([], -1)) ∨ ∃ l c, 0 ≤ c ∧ 1 ≤ l.length ∧ l.length ≤ n ∧ x = some (l, c) ∧ y = (l, c)
theorem rdD_id {σ : Type} (f : Int → σ → Option σ) (s : σ) : ∀ q : Nat, (∀ a : Int, 2 ≤ a → a ≤ (q : Int) + 1 → f a s = some s) → rdD f q s = some s
  | 0, _ => rfl
  | q + 1, h => by
    rw [rdD, h ((q : Int) + 2) (by omega) (by omega)]
    exact rdD_id f s q (fun a h1 h2 => h a h1 (by omega))
theorem rdD_two {σ τ : Type} (P : σ → τ → Prop) (f : Int → σ → Option σ) (g : Int → τ → Option τ) : ∀ (q : Nat) (s : σ) (t : τ), (∀ (a : Int) (s : σ) (t : τ), 2 ≤ a → a ≤ (q : Int) + 1 → P s t → ∃ s' t', P s' t' ∧ f a s = some s' ∧ g a t = some t') → P s t → ∃ s' t', P s' t' ∧ rdD f q s = some s' ∧ rdD g q t = some t'
  | 0, s, t, _, h0 => ⟨s, t, h0, rfl, rfl⟩
  | q + 1, s, t, h, h0 => by
    obtain ⟨s1, t1, h1, e1, e2⟩ := h ((q : Int) + 2) s t (by omega) (by omega) h0
    obtain ⟨s2, t2, h2, e3, e4⟩ := rdD_two P f g q s1 t1 (fun a s t ha hb => h a s t ha (by omega)) h1
    exact ⟨s2, t2, h2, by rw [rdD, e1]; exact e3, by rw [rdD, e2]; exact e4⟩
theorem top_le {most left : Int} {q : Nat} (hq : q = ((if most < left then most else left) - 1).toNat) (h1 : 1 ≤ left) (h2 : 0 ≤ most ∧ most ≤ 9) {a : Int} (ha : 2 ≤ a) (hb : a ≤ (q : Int) + 1) : a ≤ 9 ∧ a ≤ left ∧ a ≤ most := by
  subst hq
  split at hb <;> omega
/-- The tables of both sides: the same first purchases, of the same number of blocks. -/
structure TkT (fst : Int → S39) (all : Int → Option (List S39)) (cI cS : S39 → Option Int) : Prop where
  at_ : ∀ a : Int, 2 ≤ a → a ≤ 9 → ∃ (rest : List S39) (c : Int), all a = some (fst a :: rest) ∧ cI (fst a) = some c ∧ cS (fst a) = some c ∧ 0 ≤ c ∧ c ≤ 2
section
variable {fst : Int → S39} {all : Int → Option (List S39)} {cI cS : S39 → Option Int}
theorem tkI_cut (H : TkT fst all cI cS) (l : List S39) (c : Int) : ∀ (m : Nat) (left most blocks : Int) (list : List S39), 1 ≤ left → (0 ≤ most ∧ most ≤ 9) → c ≤ blocks → tkI fst cI m left most blocks list (some (l, c)) = some (some (l, c))
  | 0, left, most, blocks, list, h1, h2, h3 => by
    unfold tkI
    split
    · show some (if blocks < c then some (list, blocks) else some (l, c)) = _
      rw [if_neg (by omega)]
    · rfl
  | m + 1, left, most, blocks, list, h1, h2, h3 => by
    rw [tkI]
    split
    · show some (if blocks < c then some (list, blocks) else some (l, c)) = _
      rw [if_neg (by omega)]
    · refine rdD_id _ _ _ (fun a ha hb => ?_)
      have hb := top_le rfl h1 h2 ha hb
      split
      · rename_i hd
        obtain ⟨rest, d, e1, e2, e3, e4, e5⟩ := H.at_ a ha hb.1
        rw [e2]
        show (if 0 ≤ d ∧ d ≤ 2 then _ else _) = _
        rw [if_pos ⟨e4, e5⟩]
        refine tkI_cut H l c m (Int.tdiv left a) a (blocks + d) (list ++ [fst a]) ?_ ⟨by omega, hb.1⟩ (by omega)
        obtain ⟨z, hz⟩ : ∃ z, left = a * z := ⟨Int.tdiv left a, by have := Int.mul_tdiv_add_tmod left a; rw [hd] at this; omega⟩
        rw [hz, Int.mul_tdiv_cancel_left _ (by omega)]
        have : ¬ z ≤ 0 := fun h => by have := Int.mul_nonpos_of_nonneg_of_nonpos (show 0 ≤ a by omega) h; omega
        omega
      · rfl
theorem tk_both (H : TkT fst all cI cS) : ∀ (m n : Nat) (left most blocks : Int) (list : List S39) (x : Option (List S39 × Int)) (y : List S39 × Int), list.length + m ≤ n → (left = 1 → 1 ≤ list.length) → 1 ≤ left → (0 ≤ most ∧ most ≤ 9) → 0 ≤ blocks → TkR n x y →
    ∃ x' y', TkR n x' y' ∧ tkI fst cI m left most blocks list x = some x' ∧ tkS all cS m left most blocks list y = some y'
  | 0, n, left, most, blocks, list, x, y, hl, hne, h1, h2, h3, hr => by
    by_cases hp : 0 ≤ y.2 ∧ y.2 ≤ blocks
    · rcases hr with ⟨rfl, rfl⟩ | ⟨l, c, hc, q1, q2, rfl, rfl⟩
      · exact absurd hp.1 (by decide)
      · exact ⟨_, _, Or.inr ⟨l, c, hc, q1, q2, rfl, rfl⟩, tkI_cut H l c 0 _ _ _ _ h1 h2 hp.2, by unfold tkS; rw [if_pos hp]⟩
    · by_cases hx : left = 1
      · refine ⟨some (list, blocks), (list, blocks), Or.inr ⟨list, blocks, h3, hne hx, by omega, rfl, rfl⟩, ?_, by unfold tkS; rw [if_neg hp, if_pos hx]⟩
        unfold tkI; rw [if_pos hx]
        rcases hr with ⟨rfl, rfl⟩ | ⟨l, c, hc, q1, q2, rfl, rfl⟩
        · rfl
        · show some (if blocks < c then some (list, blocks) else some (l, c)) = _
          rw [if_pos (by have hp : ¬ (0 ≤ c ∧ c ≤ blocks) := hp; omega)]
      · exact ⟨x, y, hr, by unfold tkI; rw [if_neg hx], by unfold tkS; rw [if_neg hp, if_neg hx]⟩
  | m + 1, n, left, most, blocks, list, x, y, hl, hne, h1, h2, h3, hr => by
    by_cases hp : 0 ≤ y.2 ∧ y.2 ≤ blocks
    · rcases hr with ⟨rfl, rfl⟩ | ⟨l, c, hc, q1, q2, rfl, rfl⟩
      · exact absurd hp.1 (by decide)
      · exact ⟨_, _, Or.inr ⟨l, c, hc, q1, q2, rfl, rfl⟩, tkI_cut H l c (m + 1) _ _ _ _ h1 h2 hp.2, by unfold tkS; rw [if_pos hp]⟩
    · by_cases hx : left = 1
      · refine ⟨some (list, blocks), (list, blocks), Or.inr ⟨list, blocks, h3, hne hx, by omega, rfl, rfl⟩, ?_, by unfold tkS; rw [if_neg hp, if_pos hx]⟩
        unfold tkI; rw [if_pos hx]
        rcases hr with ⟨rfl, rfl⟩ | ⟨l, c, hc, q1, q2, rfl, rfl⟩
        · rfl
        · show some (if blocks < c then some (list, blocks) else some (l, c)) = _
          rw [if_pos (by have hp : ¬ (0 ≤ c ∧ c ≤ blocks) := hp; omega)]
      · rw [tkI, tkS, if_neg hx, if_neg hp, if_neg hx]
        refine rdD_two (TkR n) _ _ _ _ _ (fun a s t ha hb hst => ?_) hr
        have hb := top_le rfl h1 h2 ha hb
        by_cases hd : Int.tmod left a = 0
        · obtain ⟨rest, d, e1, e2, e3, e4, e5⟩ := H.at_ a ha hb.1
          have hz : 1 ≤ Int.tdiv left a := by
            obtain ⟨z, hz⟩ : ∃ z, left = a * z := ⟨Int.tdiv left a, by have := Int.mul_tdiv_add_tmod left a; rw [hd] at this; omega⟩
            rw [hz, Int.mul_tdiv_cancel_left _ (by omega)]
            have : ¬ z ≤ 0 := fun h => by have := Int.mul_nonpos_of_nonneg_of_nonpos (show 0 ≤ a by omega) h; omega
            omega
          obtain ⟨x', y', q1, q2, q3⟩ := tk_both H m n (Int.tdiv left a) a (blocks + d) (list ++ [fst a]) s t (by simp; omega) (fun _ => by simp) hz ⟨by omega, hb.1⟩ (by omega) hst
          refine ⟨x', y', q1, ?_, ?_⟩
          · rw [if_pos hd, e2]
            show (if 0 ≤ d ∧ d ≤ 2 then _ else _) = _
            rw [if_pos ⟨e4, e5⟩]; exact q2
          · rw [if_pos hd, e1, Option.bind_some, if_pos (by simp)]
            have e6 : rd_T39 (fst a :: rest) 0 = fst a := rfl
            rw [e6, e3]
            show (if 0 ≤ d ∧ d ≤ 2 then _ else _) = _
            rw [if_pos ⟨e4, e5⟩]; exact q3
        · exact ⟨s, t, hst, by rw [if_neg hd], by rw [if_neg hd]⟩
end

/-- How many blocks a purchase has. -/
def bP (p : S39) : Int := (if 1 ≤ p.f0 then 1 else 0) + (if 1 ≤ p.f1 then 1 else 0)
def blT : List S39 → Int
  | [] => 0
  | p :: t => bP p + blT t
theorem blT_app (t u : List S39) : blT (t ++ u) = blT t + blT u := by
  induction t with
  | nil => simp [blT]
  | cons p t ih => simp only [List.cons_append, blT, ih]; omega
theorem advT_app (t u : List S39) : advT (t ++ u) = advT t * advT u := by
  induction t with
  | nil => simp [advT]
  | cons p t ih => simp only [List.cons_append, advT, ih, Int.mul_assoc]
theorem bP_bd {p : S39} (h : okP p) : 1 ≤ bP p ∧ bP p ≤ 2 := by
  have h1 := h.1
  have h2 := h.2.1
  have h3 := h.2.2.1
  unfold bP; split <;> split <;> omega
theorem blT_bd : ∀ {t : List S39}, okPs t → (t.length : Int) ≤ blT t ∧ blT t ≤ 2 * t.length
  | [], _ => by simp [blT]
  | p :: t, h => by
    have h1 := bP_bd (h p (by simp))
    have h2 := blT_bd (t := t) (fun q hq => h q (by simp [hq]))
    simp only [blT, List.length_cons]; omega
/-- What the search is laid with. -/
structure TkG (fst : Int → S39) (cI : S39 → Option Int) : Prop where
  at_ : ∀ a : Int, 2 ≤ a → a ≤ 9 → okP (fst a) ∧ partsP (fst a) = a ∧ cI (fst a) = some (bP (fst a)) ∧ ∀ p, okP p → partsP p = a → bP (fst a) ≤ bP p
def TkSnd (a : Int) (x : Option (List S39 × Int)) : Prop := ∀ l c, x = some (l, c) → okPs l ∧ (1 ≤ l.length ∧ l.length ≤ 6) ∧ advT l = a ∧ blT l = c
def TkLe (B : Int) (x : Option (List S39 × Int)) : Prop := ∃ l c, x = some (l, c) ∧ c ≤ B
theorem rdD_keep {σ : Type} {P : σ → Prop} {f : Int → σ → Option σ} : ∀ (q : Nat) (s r : σ), (∀ (i : Int) (s t : σ), 2 ≤ i → i ≤ (q : Int) + 1 → P s → f i s = some t → P t) → P s → rdD f q s = some r → P r
  | 0, s, r, _, h0, e => by
    have e : s = r := Option.some.inj e
    rw [← e]; exact h0
  | q + 1, s, r, h, h0, e => by
    rw [rdD] at e
    obtain ⟨s1, e1, e2⟩ := Option.bind_eq_some_iff.mp e
    exact rdD_keep q s1 r (fun i s t h1 h2 => h i s t h1 (by omega)) (h _ _ _ (by omega) (by omega) h0 e1) e2
theorem rdD_hit {σ : Type} {P : σ → Prop} {f : Int → σ → Option σ} (d : Int) (h2 : 2 ≤ d) (hd : ∀ s t, f d s = some t → P t) : ∀ (q : Nat) (s r : σ), (∀ (i : Int) (s t : σ), 2 ≤ i → i ≤ (q : Int) + 1 → P s → f i s = some t → P t) → d ≤ (q : Int) + 1 → rdD f q s = some r → P r
  | 0, _, _, _, h, _ => by omega
  | q + 1, s, r, h, h1, e => by
    rw [rdD] at e
    obtain ⟨s1, e1, e2⟩ := Option.bind_eq_some_iff.mp e
    by_cases hq : d = (q : Int) + 2
    · rw [← hq] at e1
      exact rdD_keep q s1 r (fun i s t h1 h2 => h i s t h1 (by omega)) (hd _ _ e1) e2
    · exact rdD_hit d h2 hd q s1 r (fun i s t h1 h2 => h i s t h1 (by omega)) (by omega) e2
section
variable {fst : Int → S39} {cI : S39 → Option Int}
theorem tdiv_one {left a : Int} (h1 : 1 ≤ left) (ha : 2 ≤ a) (hd : Int.tmod left a = 0) : 1 ≤ Int.tdiv left a ∧ a * Int.tdiv left a = left := by
  have e : a * Int.tdiv left a = left := by have := Int.mul_tdiv_add_tmod left a; rw [hd] at this; omega
  refine ⟨?_, e⟩
  have : ¬ Int.tdiv left a ≤ 0 := fun h => by have := Int.mul_nonpos_of_nonneg_of_nonpos (show 0 ≤ a by omega) h; omega
  omega
theorem bet_snd {a : Int} {list : List S39} {x : Option (List S39 × Int)} (hl : okPs list ∧ (1 ≤ list.length ∧ list.length ≤ 6) ∧ advT list = a) (hx : TkSnd a x) : TkSnd a (betI list (blT list) x) := by
  intro l c e
  cases x with
  | none =>
    have e : some (list, blT list) = some (l, c) := e
    simp only [Option.some.injEq, Prod.mk.injEq] at e
    obtain ⟨rfl, rfl⟩ := e
    exact ⟨hl.1, hl.2.1, hl.2.2, rfl⟩
  | some y =>
    have e : (if blT list < y.2 then some (list, blT list) else some y) = some (l, c) := e
    split at e
    · simp only [Option.some.injEq, Prod.mk.injEq] at e
      obtain ⟨rfl, rfl⟩ := e
      exact ⟨hl.1, hl.2.1, hl.2.2, rfl⟩
    · exact hx l c e
/-- What is found is a tackle with the advantage, and its blocks are counted. -/
theorem tk_sound (H : TkG fst cI) (a : Int) : ∀ (m : Nat) (left most : Int) (list : List S39) (x r : Option (List S39 × Int)), list.length + m ≤ 6 → okPs list → advT list * left = a → 1 ≤ left → (left = 1 → 1 ≤ list.length) → (0 ≤ most ∧ most ≤ 9) → TkSnd a x → tkI fst cI m left most (blT list) list x = some r → TkSnd a r
  | 0, left, most, list, x, r, hl, ho, hp, h1, hne, h2, hx, e => by
    unfold tkI at e
    split at e
    · rename_i c
      rw [← Option.some.inj e]
      subst c
      exact bet_snd ⟨ho, ⟨hne rfl, by omega⟩, by omega⟩ hx
    · rw [← Option.some.inj e]; exact hx
  | m + 1, left, most, list, x, r, hl, ho, hp, h1, hne, h2, hx, e => by
    rw [tkI] at e
    split at e
    · rename_i c
      rw [← Option.some.inj e]
      subst c
      exact bet_snd ⟨ho, ⟨hne rfl, by omega⟩, by omega⟩ hx
    · refine rdD_keep (P := TkSnd a) _ _ _ (fun d s t hd1 hd2 hs et => ?_) hx e
      have hb := top_le rfl h1 h2 hd1 hd2
      obtain ⟨o1, o2, o3, o4⟩ := H.at_ d hd1 hb.1
      split at et
      · rename_i hm
        obtain ⟨z1, z2⟩ := tdiv_one h1 hd1 hm
        rw [o3, Option.bind_some, if_pos (by have := bP_bd o1; omega)] at et
        have eb : blT list + bP (fst d) = blT (list ++ [fst d]) := by rw [blT_app]; simp [blT]
        rw [eb] at et
        refine tk_sound H a m _ _ _ _ _ (by simp; omega) (fun p hp => ?_) ?_ z1 (fun _ => by simp) ⟨by omega, hb.1⟩ hs et
        · simp only [List.mem_append, List.mem_singleton] at hp
          rcases hp with hp | rfl
          · exact ho p hp
          · exact o1
        · rw [advT_app]
          simp only [advT, o2, Int.mul_one]
          rw [Int.mul_assoc, z2]; exact hp
      · rw [← Option.some.inj et]; exact hs
theorem bet_le {B blocks : Int} {list : List S39} {x : Option (List S39 × Int)} (hx : TkLe B x ∨ blocks ≤ B) : TkLe B (betI list blocks x) := by
  cases x with
  | none =>
    rcases hx with ⟨l, c, e, _⟩ | h
    · cases e
    · exact ⟨list, blocks, rfl, h⟩
  | some y =>
    show TkLe B (if blocks < y.2 then some (list, blocks) else some y)
    split
    · rename_i c
      refine ⟨list, blocks, rfl, ?_⟩
      rcases hx with ⟨l, d, e, h⟩ | h
      · have e := Option.some.inj e
        subst e
        have c : blocks < d := c
        omega
      · exact h
    · rename_i c
      refine ⟨y.1, y.2, rfl, ?_⟩
      rcases hx with ⟨l, d, e, h⟩ | h
      · have e := Option.some.inj e
        subst e
        exact h
      · omega
/-- More search never makes it worse. -/
theorem tk_keep (B : Int) : ∀ (m : Nat) (left most blocks : Int) (list : List S39) (x r : Option (List S39 × Int)), TkLe B x → tkI fst cI m left most blocks list x = some r → TkLe B r
  | 0, left, most, blocks, list, x, r, hx, e => by
    unfold tkI at e
    split at e
    · rw [← Option.some.inj e]; exact bet_le (.inl hx)
    · rw [← Option.some.inj e]; exact hx
  | m + 1, left, most, blocks, list, x, r, hx, e => by
    rw [tkI] at e
    split at e
    · rw [← Option.some.inj e]; exact bet_le (.inl hx)
    · refine rdD_keep (P := TkLe B) _ _ _ (fun d s t _ _ hs et => ?_) hx e
      split at et
      · obtain ⟨c, _, et⟩ := Option.bind_eq_some_iff.mp et
        split at et
        · exact tk_keep B m _ _ _ _ _ _ hs et
        · cases et
      · rw [← Option.some.inj et]; exact hs
/-- Advantages, the greatest first. -/
def Desc : Int → List Int → Prop
  | _, [] => True
  | m, x :: xs => 2 ≤ x ∧ x ≤ m ∧ Desc x xs
def prodL : List Int → Int
  | [] => 1
  | x :: xs => x * prodL xs
def blL (fst : Int → S39) : List Int → Int
  | [] => 0
  | x :: xs => bP (fst x) + blL fst xs
theorem prodL_pos : ∀ (m : Int) (av : List Int), Desc m av → 1 ≤ prodL av
  | _, [], _ => by simp [prodL]
  | m, x :: xs, h => by
    have h1 := prodL_pos x xs h.2.2
    have h2 := h.1
    simp only [prodL]
    have := Int.mul_le_mul (show (1 : Int) ≤ x by omega) h1 (by omega) (by omega)
    omega
/-- The search comes by every such row of advantages. -/
theorem tk_reach (H : TkG fst cI) : ∀ (m : Nat) (av : List Int) (left most blocks : Int) (list : List S39) (x r : Option (List S39 × Int)), av.length ≤ m → Desc most av → prodL av = left → (0 ≤ most ∧ most ≤ 9) → tkI fst cI m left most blocks list x = some r → TkLe (blocks + blL fst av) r
  | 0, [], left, most, blocks, list, x, r, _, _, hp, _, e => by
    have hp : 1 = left := hp
    unfold tkI at e
    rw [if_pos hp.symm] at e
    rw [← Option.some.inj e]; exact bet_le (.inr (by simp [blL]))
  | 0, y :: ys, _, _, _, _, _, _, hl, _, _, _, _ => by simp at hl
  | m + 1, [], left, most, blocks, list, x, r, _, _, hp, _, e => by
    have hp : 1 = left := hp
    rw [tkI, if_pos hp.symm] at e
    rw [← Option.some.inj e]; exact bet_le (.inr (by simp [blL]))
  | m + 1, d :: av, left, most, blocks, list, x, r, hl, hD, hp, h2, e => by
    obtain ⟨d2, dm, hD⟩ := hD
    have hq := prodL_pos d av hD
    have hp : d * prodL av = left := hp
    have hdl : d ≤ left := by
      have := Int.mul_le_mul (Int.le_refl d) hq (by omega) (by omega)
      omega
    rw [tkI, if_neg (by omega)] at e
    obtain ⟨o1, o2, o3, o4⟩ := H.at_ d d2 (by omega)
    refine rdD_hit (P := TkLe (blocks + blL fst (d :: av))) d d2 (fun s t et => ?_) _ _ _ (fun i s t _ _ hs et => ?_) ?_ e
    · have hm : Int.tmod left d = 0 := by rw [← hp]; exact Int.mul_tmod_right d (prodL av)
      rw [if_pos hm, o3, Option.bind_some, if_pos (by have := bP_bd o1; omega)] at et
      have hz : Int.tdiv left d = prodL av := by rw [← hp]; exact Int.mul_tdiv_cancel_left _ (by omega)
      have := tk_reach H m av _ _ _ _ _ _ (by simp at hl; omega) hD hz.symm ⟨by omega, by omega⟩ et
      simp only [blL]
      rw [← Int.add_assoc]; exact this
    · split at et
      · obtain ⟨c, _, et⟩ := Option.bind_eq_some_iff.mp et
        split at et
        · exact tk_keep _ m _ _ _ _ _ _ hs et
        · cases et
      · rw [← Option.some.inj et]; exact hs
    · split <;> omega
def insD (x : Int) : List Int → List Int
  | [] => [x]
  | y :: ys => if y ≤ x then x :: y :: ys else y :: insD x ys
theorem insD_len (x : Int) : ∀ av, (insD x av).length = av.length + 1
  | [] => rfl
  | y :: ys => by unfold insD; split <;> simp [insD_len x ys]
theorem insD_prod (x : Int) : ∀ av, prodL (insD x av) = x * prodL av
  | [] => rfl
  | y :: ys => by
    unfold insD; split
    · rfl
    · simp only [prodL, insD_prod x ys]; rw [← Int.mul_assoc, ← Int.mul_assoc, Int.mul_comm y x]
theorem insD_bl (fst : Int → S39) (x : Int) : ∀ av, blL fst (insD x av) = bP (fst x) + blL fst av
  | [] => rfl
  | y :: ys => by
    unfold insD; split
    · rfl
    · simp only [blL, insD_bl fst x ys]; omega
theorem insD_desc (x : Int) (hx : 2 ≤ x) : ∀ (m : Int) (av : List Int), x ≤ m → Desc m av → Desc m (insD x av)
  | m, [], h, _ => ⟨hx, h, trivial⟩
  | m, y :: ys, h, hD => by
    unfold insD; split
    · rename_i c; exact ⟨hx, h, hD.1, c, hD.2.2⟩
    · rename_i c; exact ⟨hD.1, hD.2.1, insD_desc x hx y ys (by omega) hD.2.2⟩
/-- A tackle's advantages in that order: no more blocks than it has itself. -/
theorem desc_of (H : TkG fst cI) : ∀ (t : List S39), okPs t → ∃ av : List Int, av.length ≤ t.length ∧ Desc 9 av ∧ prodL av = advT t ∧ blL fst av ≤ blT t
  | [], _ => ⟨[], by simp, trivial, rfl, by simp [blL, blT]⟩
  | p :: t, h => by
    obtain ⟨av, h1, h2, h3, h4⟩ := desc_of H t (fun q hq => h q (by simp [hq]))
    have hp := h p (by simp)
    have hb := bP_bd hp
    have hq := partsP_bd hp
    by_cases c : partsP p = 1
    · exact ⟨av, by simp; omega, h2, by simp only [advT, c, Int.one_mul]; exact h3, by simp only [blT]; omega⟩
    · obtain ⟨o1, o2, o3, o4⟩ := H.at_ (partsP p) (by omega) hq.2
      have := o4 p hp rfl
      exact ⟨insD (partsP p) av, by rw [insD_len]; simp; omega, insD_desc _ (by omega) _ _ hq.2 h2, by rw [insD_prod, h3]; rfl, by rw [insD_bl]; simp only [blT]; omega⟩
end

def tkF (a : Int) : S39 := if a = 2 then ⟨0, 1, true⟩ else if a = 3 then ⟨1, 1, true⟩ else if a = 4 then ⟨1, 2, true⟩ else if a = 5 then ⟨2, 2, true⟩ else if a = 6 then ⟨2, 3, true⟩ else if a = 7 then ⟨3, 3, true⟩ else if a = 8 then ⟨3, 4, true⟩ else ⟨4, 4, true⟩
theorem fst1_2 : fst1 600 2 = some ⟨0, 1, true⟩ := by kernel_rfl
theorem fst1_3 : fst1 600 3 = some ⟨1, 1, true⟩ := by kernel_rfl
theorem fst1_4 : fst1 600 4 = some ⟨1, 2, true⟩ := by kernel_rfl
theorem fst1_5 : fst1 600 5 = some ⟨2, 2, true⟩ := by kernel_rfl
theorem fst1_6 : fst1 600 6 = some ⟨2, 3, true⟩ := by kernel_rfl
theorem fst1_7 : fst1 600 7 = some ⟨3, 3, true⟩ := by kernel_rfl
theorem fst1_8 : fst1 600 8 = some ⟨3, 4, true⟩ := by kernel_rfl
theorem fst1_9 : fst1 600 9 = some ⟨4, 4, true⟩ := by kernel_rfl
theorem fsts_600 : fsts 600 = some tkF := by
  unfold fsts
  rw [fst1_2, fst1_3, fst1_4, fst1_5, fst1_6, fst1_7, fst1_8, fst1_9]
  rfl
theorem headS {a : Int} {p : S39} (h : (spec_l05All.f 600 a).bind (fun l => l.head?) = some p) : ∃ rest, allS 600 a = some (p :: rest) := by
  obtain ⟨l, hl, hp⟩ := Option.bind_eq_some_iff.mp h
  cases l with
  | nil => cases hp
  | cons x rest => exact ⟨rest, by rw [← Option.some.inj hp]; exact hl⟩
theorem tkT_600 : TkT tkF (allS 600) cntB cntP := by
  refine ⟨fun a h2 h9 => ?_⟩
  have hc : a = 2 ∨ a = 3 ∨ a = 4 ∨ a = 5 ∨ a = 6 ∨ a = 7 ∨ a = 8 ∨ a = 9 := by omega
  rcases hc with rfl | rfl | rfl | rfl | rfl | rfl | rfl | rfl
  · obtain ⟨rest, hr⟩ := headS (a := 2) (p := tkF 2) (by kernel_rfl); exact ⟨rest, 1, hr, by kernel_rfl, by kernel_rfl, by decide, by decide⟩
  · obtain ⟨rest, hr⟩ := headS (a := 3) (p := tkF 3) (by kernel_rfl); exact ⟨rest, 2, hr, by kernel_rfl, by kernel_rfl, by decide, by decide⟩
  · obtain ⟨rest, hr⟩ := headS (a := 4) (p := tkF 4) (by kernel_rfl); exact ⟨rest, 2, hr, by kernel_rfl, by kernel_rfl, by decide, by decide⟩
  · obtain ⟨rest, hr⟩ := headS (a := 5) (p := tkF 5) (by kernel_rfl); exact ⟨rest, 2, hr, by kernel_rfl, by kernel_rfl, by decide, by decide⟩
  · obtain ⟨rest, hr⟩ := headS (a := 6) (p := tkF 6) (by kernel_rfl); exact ⟨rest, 2, hr, by kernel_rfl, by kernel_rfl, by decide, by decide⟩
  · obtain ⟨rest, hr⟩ := headS (a := 7) (p := tkF 7) (by kernel_rfl); exact ⟨rest, 2, hr, by kernel_rfl, by kernel_rfl, by decide, by decide⟩
  · obtain ⟨rest, hr⟩ := headS (a := 8) (p := tkF 8) (by kernel_rfl); exact ⟨rest, 2, hr, by kernel_rfl, by kernel_rfl, by decide, by decide⟩
  · obtain ⟨rest, hr⟩ := headS (a := 9) (p := tkF 9) (by kernel_rfl); exact ⟨rest, 2, hr, by kernel_rfl, by kernel_rfl, by decide, by decide⟩
theorem wanted_yes {a : Int} (h : 1 ≤ a ∧ a ≤ 5000) : spec_l05Wanted.f a = some true := by
  unfold spec_l05Wanted.f spec_l00In.f; rw [if_pos (show a ≥ 1 from h.1), decide_eq_true h.2]; rfl
theorem wanted_no {a : Int} (h : ¬ (1 ≤ a ∧ a ≤ 5000)) : spec_l05Wanted.f a = some false := by
  unfold spec_l05Wanted.f spec_l00In.f
  split
  · rw [decide_eq_false (fun hh => h ⟨by assumption, hh⟩)]; rfl
  · rfl

def allP : List S39 := [⟨1, 0, false⟩, ⟨0, 1, true⟩, ⟨1, 1, false⟩, ⟨1, 1, true⟩, ⟨2, 1, false⟩, ⟨1, 2, true⟩, ⟨2, 2, false⟩, ⟨2, 2, true⟩, ⟨3, 2, false⟩, ⟨2, 3, true⟩, ⟨3, 3, false⟩, ⟨3, 3, true⟩, ⟨4, 3, false⟩, ⟨3, 4, true⟩, ⟨4, 4, false⟩, ⟨4, 4, true⟩]
theorem allP_eq : impl_allPurchases.f 600 = some allP := by kernel_rfl
theorem allP_ev : Ev (fun k => impl_allPurchases.f k) allP := Ev.of impl_allPurchases.mono allP_eq
theorem allP_ok : ∀ p ∈ allP, okP p := by decide
theorem okT_one {p : S39} (h : okP p) : okT [p] ∧ shT [p] ≤ 9 := by
  have h1 := h.1
  have h2 := h.2.1
  refine ⟨⟨fun q hq => ?_, by simp, by simp⟩, by simp [shT]; omega⟩
  simp at hq; rw [hq]; exact h

theorem mn_one {a : Int} (h : 0 ≤ a ∧ a ≤ 4) : mn a 1 = if 1 ≤ a then 1 else 0 := by
  unfold mn; split <;> split <;> omega
theorem blocksI {p : S39} (h : okP p) : impl_blocksOf.f p.f0 p.f1 p.f2 = some (bP p) := by
  have hb := bP_bd h
  unfold impl_blocksOf.f
  rw [mn_one h.1, mn_one h.2.1]
  have e : ((if 1 ≤ p.f0 then 1 else 0) + (if 1 ≤ p.f1 then 1 else 0) : Int) = bP p := rfl
  rw [e, w64 (by omega) (by omega)]
theorem blocksS {p : S39} (h : okP p) : spec_l05Count_at.f p.f0 p.f1 p.f2 = some (bP p) := by
  have h1 := h.1
  have h2 := h.2.1
  have h3 := h.2.2.1
  unfold spec_l05Count_at.f spec_l05Count.f bP
  by_cases a : p.f0 > 0
  · by_cases b : p.f1 > 0
    · rw [if_pos a, if_pos b, if_pos (by omega), if_pos (by omega)]; rfl
    · rw [if_pos a, if_neg b, if_pos (by omega), if_neg (by omega)]; rfl
  · rw [if_neg a, if_neg (by omega), if_pos (by omega)]; rfl
theorem sumB_I (x0 : List S39) (ho : okPs x0) (hl : x0.length ≤ 6) : ∀ (d i : Nat) (s : Int), i + d = x0.length → 0 ≤ s → s ≤ 2 * i →
    Ev (fun k => impl_BlocksOf.l0 k s x0 (x0.length : Int) (i : Int)) (s + blT (x0.drop i), 0)
  | 0, i, s, hd, h0, h1 => by
    refine ev_succ ?_
    simp only [impl_BlocksOf.l0]
    have e : x0.drop i = [] := by simp; omega
    refine ev_neg (by omega) (ev_some ?_)
    rw [e]; simp [blT]
  | d + 1, i, s, hd, h0, h1 => by
    have hi : i < x0.length := by omega
    have hp := ho _ (List.getElem_mem hi)
    have hb := bP_bd hp
    refine ev_succ ?_
    simp only [impl_BlocksOf.l0]
    rw [rdP hi, w64s (by omega), List.drop_eq_getElem_cons hi]
    refine ev_pos (by omega) (ev_pos (by omega) (ev_pos (by omega) (ev_now (blocksI hp) ?_)))
    rw [w64 (x := s + bP x0[i]) (by omega) (by omega)]
    have := sumB_I x0 ho hl d (i + 1) (s + bP x0[i]) (by omega) (by omega) (by omega)
    simp only [blT]
    rw [← Int.add_assoc]; exact this
theorem sumB_S (x0 : List S39) (ho : okPs x0) (hl : x0.length ≤ 6) : ∀ (d i : Nat) (s : Int), i + d = x0.length → 0 ≤ s → s ≤ 2 * i →
    Ev (fun k => spec_l05Blocks.l0 k x0 s (i : Int)) (s + blT (x0.drop i))
  | 0, i, s, hd, h0, h1 => by
    refine ev_succ ?_
    simp only [spec_l05Blocks.l0]
    have e : x0.drop i = [] := by simp; omega
    refine ev_neg (by omega) (ev_some ?_)
    rw [e]; simp [blT]
  | d + 1, i, s, hd, h0, h1 => by
    have hi : i < x0.length := by omega
    have hp := ho _ (List.getElem_mem hi)
    have hb := bP_bd hp
    refine ev_succ ?_
    simp only [spec_l05Blocks.l0]
    rw [rdP hi, w64s (by omega), List.drop_eq_getElem_cons hi]
    refine ev_pos (by omega) (ev_pos (by omega) (ev_now (blocksS hp) ?_))
    rw [w64 (x := s + bP x0[i]) (by omega) (by omega)]
    have := sumB_S x0 ho hl d (i + 1) (s + bP x0[i]) (by omega) (by omega) (by omega)
    simp only [blT]
    rw [← Int.add_assoc]; exact this
theorem shP_bd {p : S39} (h : okP p) : 1 ≤ p.f0 + p.f1 ∧ p.f0 + p.f1 ≤ 8 := by
  have h1 := h.1
  have h2 := h.2.1
  have h3 := h.2.2.1
  omega
theorem sumS_I (x0 : List S39) (ho : okPs x0) (hl : x0.length ≤ 6) : ∀ (d i : Nat) (s : Int), i + d = x0.length → 0 ≤ s → s ≤ 8 * i →
    Ev (fun k => impl_sheavesOf.l0 k s x0 (x0.length : Int) (i : Int)) (s + shT (x0.drop i))
  | 0, i, s, hd, h0, h1 => by
    refine ev_succ ?_
    simp only [impl_sheavesOf.l0]
    have e : x0.drop i = [] := by simp; omega
    refine ev_neg (by omega) (ev_some ?_)
    rw [e]; simp [shT]
  | d + 1, i, s, hd, h0, h1 => by
    have hi : i < x0.length := by omega
    have hp := ho _ (List.getElem_mem hi)
    have hb := shP_bd hp
    refine ev_succ ?_
    simp only [impl_sheavesOf.l0]
    rw [rdP hi, w64s (by omega), List.drop_eq_getElem_cons hi]
    refine ev_pos (by omega) (ev_pos (by omega) (ev_pos (by omega) ?_))
    rw [w64 (x := x0[i].f0 + x0[i].f1) (by omega) (by omega), w64 (x := s + (x0[i].f0 + x0[i].f1)) (by omega) (by omega)]
    have := sumS_I x0 ho hl d (i + 1) (s + (x0[i].f0 + x0[i].f1)) (by omega) (by omega) (by omega)
    simp only [shT]
    rw [show s + (x0[i].f0 + x0[i].f1 + shT (x0.drop (i + 1))) = s + (x0[i].f0 + x0[i].f1) + shT (x0.drop (i + 1)) by omega]; exact this
theorem sumS_S (x0 : List S39) (ho : okPs x0) (hl : x0.length ≤ 6) : ∀ (d i : Nat) (s : Int), i + d = x0.length → 0 ≤ s → s ≤ 8 * i →
    Ev (fun k => spec_SheavesOf.l0 k x0 s (i : Int)) (s + shT (x0.drop i), 0)
  | 0, i, s, hd, h0, h1 => by
    refine ev_succ ?_
    simp only [spec_SheavesOf.l0]
    have e : x0.drop i = [] := by simp; omega
    refine ev_neg (by omega) (ev_some ?_)
    rw [e]; simp [shT]
  | d + 1, i, s, hd, h0, h1 => by
    have hi : i < x0.length := by omega
    have hp := ho _ (List.getElem_mem hi)
    have hb := shP_bd hp
    refine ev_succ ?_
    simp only [spec_SheavesOf.l0]
    rw [rdP hi, w64s (by omega), List.drop_eq_getElem_cons hi]
    refine ev_pos (by omega) (ev_pos (by omega) ?_)
    rw [w64 (x := x0[i].f0 + x0[i].f1) (by omega) (by omega), w64 (x := s + (x0[i].f0 + x0[i].f1)) (by omega) (by omega)]
    have := sumS_S x0 ho hl d (i + 1) (s + (x0[i].f0 + x0[i].f1)) (by omega) (by omega) (by omega)
    simp only [shT]
    rw [show s + (x0[i].f0 + x0[i].f1 + shT (x0.drop (i + 1))) = s + (x0[i].f0 + x0[i].f1) + shT (x0.drop (i + 1)) by omega]; exact this
/-- Both sides count a tackle's blocks, sheaves and parts. -/
theorem counts_ok {t : List S39} (h : okT t) : Ev (fun k => impl_BlocksOf.f k t) (blT t, 0) ∧ Ev (fun k => spec_BlocksOf.f k t) (blT t, 0) ∧ Ev (fun k => impl_SheavesOf.f k t) (shT t, 0) ∧ Ev (fun k => spec_SheavesOf.f k t) (shT t, 0) ∧ Ev (fun k => impl_AdvantageOf.f k t) (advT t, 0) ∧ Ev (fun k => spec_AdvantageOf.f k t) (advT t, 0) := by
  have vi := validTackle_ev t
  have vs := l05Ok_ev t (by have := h.2.2; omega)
  rw [decide_eq_true h] at vi vs
  have b1 := sumB_I t h.1 h.2.2 t.length 0 0 (by omega) (by omega) (by omega)
  have b2 := sumB_S t h.1 h.2.2 t.length 0 0 (by omega) (by omega) (by omega)
  have s1 := sumS_I t h.1 h.2.2 t.length 0 0 (by omega) (by omega) (by omega)
  have s2 := sumS_S t h.1 h.2.2 t.length 0 0 (by omega) (by omega) (by omega)
  rw [List.drop_zero, Int.zero_add] at b1 b2 s1 s2
  refine ⟨?_, ?_, ?_, ?_, ?_, ?_⟩
  · simp only [impl_BlocksOf.f]; exact Ev.bind vi (ev_pos rfl b1)
  · simp only [spec_BlocksOf.f, spec_l05Blocks.f]; exact Ev.bind vs (ev_pos rfl (Ev.bind b2 (Ev.now _)))
  · simp only [impl_SheavesOf.f, impl_sheavesOf.f]; exact Ev.bind vi (ev_pos rfl (Ev.bind s1 (Ev.now _)))
  · simp only [spec_SheavesOf.f]; exact Ev.bind vs (ev_pos rfl s2)
  · simp only [impl_AdvantageOf.f]; exact Ev.bind vi (ev_pos rfl (Ev.bind (advOf_ev t h) (Ev.now _)))
  · simp only [spec_AdvantageOf.f]; exact Ev.bind vs (ev_pos rfl (Ev.bind (l05Adv_ev t h) (Ev.now _)))
theorem counts_no {t : List S39} (h : ¬ okT t) (hn : t.length ≤ 35184372088832) : Ev (fun k => impl_BlocksOf.f k t) (0, 1) ∧ Ev (fun k => spec_BlocksOf.f k t) (0, 1) ∧ Ev (fun k => impl_SheavesOf.f k t) (0, 1) ∧ Ev (fun k => spec_SheavesOf.f k t) (0, 1) ∧ Ev (fun k => spec_AdvantageOf.f k t) (0, 1) := by
  have vi := validTackle_ev t
  have vs := l05Ok_ev t hn
  rw [decide_eq_false h] at vi vs
  refine ⟨?_, ?_, ?_, ?_, ?_⟩
  · simp only [impl_BlocksOf.f]; exact Ev.bind vi (ev_neg (by simp) (Ev.now _))
  · simp only [spec_BlocksOf.f]; exact Ev.bind vs (ev_neg (by simp) (Ev.now _))
  · simp only [impl_SheavesOf.f]; exact Ev.bind vi (ev_neg (by simp) (Ev.now _))
  · simp only [spec_SheavesOf.f]; exact Ev.bind vs (ev_neg (by simp) (Ev.now _))
  · simp only [spec_AdvantageOf.f]; exact Ev.bind vs (ev_neg (by simp) (Ev.now _))
theorem tkF_ok : ∀ a : Int, 2 ≤ a → a ≤ 9 → okP (tkF a) ∧ partsP (tkF a) = a := by
  intro a h2 h9
  have hc : a = 2 ∨ a = 3 ∨ a = 4 ∨ a = 5 ∨ a = 6 ∨ a = 7 ∨ a = 8 ∨ a = 9 := by omega
  rcases hc with rfl | rfl | rfl | rfl | rfl | rfl | rfl | rfl <;> exact ⟨by decide, by decide⟩
theorem tkF_few {a : Int} (h2 : 2 ≤ a) {p : S39} (hp : okP p) (h : partsP p = a) : bP (tkF a) ≤ bP p := by
  have hb := bP_bd hp
  by_cases c : a = 2
  · subst c
    have e : bP (tkF 2) = 1 := by decide
    omega
  · have e : bP (tkF a) ≤ 2 := by
      unfold bP; split <;> split <;> omega
    have : bP p = 2 := by
      obtain ⟨h1, h2, h3, h4⟩ := hp
      unfold partsP at h
      unfold bP
      cases hx : p.f2 with
      | true => rw [hx, if_pos rfl] at h h4; rw [if_pos (by omega), if_pos (by omega)]; rfl
      | false => rw [hx, if_neg (by simp)] at h h4; rw [if_pos (by omega), if_pos (by omega)]; rfl
    omega
theorem tkG : TkG tkF cntB := ⟨fun a h2 h9 => ⟨(tkF_ok a h2 h9).1, (tkF_ok a h2 h9).2, blocksI (tkF_ok a h2 h9).1, fun _ hp h => tkF_few h2 hp h⟩⟩
/-- What is found, and that nothing is better. -/
theorem best_few (a : Int) (h : 1 ≤ a ∧ a ≤ 5000) : ∃ (l : List S39) (c : Int), Ev (fun k => impl_bestTackle.f k a) l ∧ Ev (fun k => spec_l05Best.f k a) (l, c) ∧
    ((l = [] ∧ c < 0 ∧ ∀ t, okT t → advT t = a → False) ∨ (okT l ∧ advT l = a ∧ blT l = c ∧ ∀ t, okT t → advT t = a → c ≤ blT t)) := by
  by_cases h1 : a = 1
  · refine ⟨[⟨1, 0, false⟩], 1, Ev.of (impl_bestTackle.mono a) (k := 0) ?_, Ev.of (spec_l05Best.mono a) (k := 0) ?_, .inr ⟨⟨fun p hp => ?_, by simp, by simp⟩, ?_, by decide, fun t ht _ => ?_⟩⟩
    · unfold impl_bestTackle.f; rw [if_pos h1]
    · unfold spec_l05Best.f; rw [if_pos h1]
    · simp at hp; subst hp; decide
    · rw [h1]; decide
    · have := blT_bd ht.1; have := ht.2.1; omega
  · obtain ⟨x, y, hr, e1, e2⟩ := tk_both tkT_600 6 6 a 9 0 [] none ([], -1) (by simp) (fun h => absurd h h1) h.1 (by omega) (by omega) (Or.inl ⟨rfl, rfl⟩)
    have i1 : impl_bestTackle.f 600 a = some (tkRes x) := by
      unfold impl_bestTackle.f; rw [if_neg h1, if_pos h, fsts_600]
      show (tkI tkF cntB 6 a 9 0 [] none).bind _ = _
      rw [e1]; rfl
    have s1 : spec_l05Best.f 600 a = some (y.1, y.2) := by
      unfold spec_l05Best.f; rw [if_neg h1, if_pos h, e2]; rfl
    have hs := tk_sound tkG a 6 a 9 [] none x (by simp) (by simp [okPs]) (by simp [advT]) h.1 (fun h => absurd h h1) (by omega) (fun _ _ e => by cases e) e1
    have hle : ∀ t, okT t → advT t = a → TkLe (blT t) x := by
      intro t ht ha
      obtain ⟨av, q1, q2, q3, q4⟩ := desc_of tkG t ht.1
      obtain ⟨l, c, hx, hc⟩ := tk_reach tkG 6 av a 9 0 [] none x (by have := ht.2.2; omega) q2 (q3.trans ha) (by omega) e1
      exact ⟨l, c, hx, by omega⟩
    refine ⟨tkRes x, y.2, Ev.of (impl_bestTackle.mono a) i1, Ev.of (spec_l05Best.mono a) (s1.trans ?_), ?_⟩
    · rcases hr with ⟨rfl, rfl⟩ | ⟨l, c, q0, q1, q2, rfl, rfl⟩ <;> rfl
    · rcases hr with ⟨rfl, rfl⟩ | ⟨l, c, q0, q1, q2, rfl, rfl⟩
      · refine .inl ⟨rfl, by decide, fun t ht ha => ?_⟩
        obtain ⟨l, c, hx, _⟩ := hle t ht ha
        cases hx
      · obtain ⟨o1, o2, o3, o4⟩ := hs l c rfl
        refine .inr ⟨⟨o1, o2⟩, o3, o4, fun t ht ha => ?_⟩
        obtain ⟨l', c', hx, hc⟩ := hle t ht ha
        simp only [Option.some.injEq, Prod.mk.injEq] at hx
        rw [hx.2]; exact hc
/-- BestTackle and FewestBlocks, of both sides. -/
theorem few_both (a : Int) : ∃ (l : List S39) (c e : Int), l.length ≤ 6 ∧ Ev (fun k => impl_BestTackle.f k a) (l, e) ∧ Ev (fun k => spec_BestTackle.f k a) (l, e) ∧ Ev (fun k => impl_FewestBlocks.f k a) (c, e) ∧ Ev (fun k => spec_FewestBlocks.f k a) (c, e) ∧
    (e = 0 → okT l ∧ advT l = a ∧ blT l = c) ∧ (a ≤ 5000 → ∀ t, okT t → advT t = a → e = 0 ∧ c ≤ blT t) := by
  by_cases h : 1 ≤ a ∧ a ≤ 5000
  · obtain ⟨l, c, i1, s1, hx⟩ := best_few a h
    rcases hx with ⟨rfl, hc, hno⟩ | ⟨ho, hadv, hbl, hle⟩
    · refine ⟨[], 0, 3, by simp, ?_, ?_, ?_, ?_, fun e => absurd e (by decide), fun _ t ht ha => (hno t ht ha).elim⟩
      · simp only [impl_BestTackle.f]; exact ev_pos h (Ev.bind i1 (ev_pos rfl (Ev.now _)))
      · simp only [spec_BestTackle.f]; exact ev_now (wanted_yes h) (ev_pos rfl (Ev.bind s1 (ev_pos hc (Ev.now _))))
      · simp only [impl_FewestBlocks.f]; exact ev_pos h (Ev.bind i1 (ev_pos rfl (Ev.now _)))
      · simp only [spec_FewestBlocks.f]; exact ev_now (wanted_yes h) (ev_pos rfl (Ev.bind s1 (ev_pos hc (Ev.now _))))
    · have hl : ¬ l.length = 0 := by have := ho.2.1; omega
      have hc : ¬ c < 0 := by have := (blT_bd ho.1).1; omega
      refine ⟨l, c, 0, ho.2.2, ?_, ?_, ?_, ?_, fun _ => ⟨ho, hadv, hbl⟩, fun _ t ht ha => ⟨rfl, hle t ht ha⟩⟩
      · simp only [impl_BestTackle.f]; exact ev_pos h (Ev.bind i1 (ev_neg hl (Ev.now _)))
      · simp only [spec_BestTackle.f]; exact ev_now (wanted_yes h) (ev_pos rfl (Ev.bind s1 (ev_neg hc (Ev.now _))))
      · simp only [impl_FewestBlocks.f]
        have := (counts_ok ho).1
        rw [hbl] at this
        exact ev_pos h (Ev.bind i1 (ev_neg hl this))
      · simp only [spec_FewestBlocks.f]; exact ev_now (wanted_yes h) (ev_pos rfl (Ev.bind s1 (ev_neg hc (Ev.now _))))
  · refine ⟨[], 0, 2, by simp, ?_, ?_, ?_, ?_, fun e => absurd e (by decide), fun h5 t ht ha => absurd ⟨by have := (advT_bd ht.1).1; omega, h5⟩ h⟩
    · simp only [impl_BestTackle.f]; exact ev_neg h (Ev.now _)
    · simp only [spec_BestTackle.f]; exact ev_now (wanted_no h) (ev_neg (by simp) (Ev.now _))
    · simp only [impl_FewestBlocks.f]; exact ev_neg h (Ev.now _)
    · simp only [spec_FewestBlocks.f]; exact ev_now (wanted_no h) (ev_neg (by simp) (Ev.now _))

def forA (a : Int) : List S39 := allP.filter (fun p => partsP p == a)
theorem purI_l0 (a : Int) (x0 : List S39) (ho : okPs x0) (hl : x0.length ≤ 100) : ∀ (d i : Nat) (out : List S39), i + d = x0.length → out.length ≤ i →
    Ev (fun k => impl_purchasesFor.l0 k a out x0 (x0.length : Int) (i : Int)) (out ++ (x0.drop i).filter (fun p => partsP p == a))
  | 0, i, out, hd, h0 => by
    refine ev_succ ?_
    simp only [impl_purchasesFor.l0]
    have e : x0.drop i = [] := by simp; omega
    refine ev_neg (by omega) (ev_some ?_)
    rw [e]; simp
  | d + 1, i, out, hd, h0 => by
    have hi : i < x0.length := by omega
    have hp := ho _ (List.getElem_mem hi)
    refine ev_succ ?_
    simp only [impl_purchasesFor.l0]
    rw [rdP hi, w64s (by omega), List.drop_eq_getElem_cons hi]
    refine ev_pos (by omega) (ev_pos (by omega) (ev_pos (by omega) (ev_now (partsOf_eq hp) (ev_if (fun h => ev_pos (by omega) ?_) (fun h => ?_)))))
    · have := purI_l0 a x0 ho hl d (i + 1) (out ++ [x0[i]]) (by omega) (by simp; omega)
      rw [List.filter_cons_of_pos (by simp [h])]
      rw [List.append_assoc] at this
      exact this
    · have := purI_l0 a x0 ho hl d (i + 1) out (by omega) (by omega)
      rw [List.filter_cons_of_neg (by simp [h])]
      exact this
theorem purI_ev (a : Int) : Ev (fun k => impl_purchasesFor.f k a) (forA a) := by
  have h := purI_l0 a allP allP_ok (by decide) allP.length 0 [] (by omega) (by simp)
  simp only [impl_purchasesFor.f]
  exact Ev.bind allP_ev h
theorem oneP_none {a : Int} (ha : 10 ≤ a) (bl : Int) (p : S39) (out : List S39) : Ev (fun k => oneP k bl a p out) out := by
  simp only [oneP]
  refine Ev.bind (l05One_at_ev p) (ev_if (fun h => ?_) (fun h => ev_some rfl))
  have hp := of_decide_eq_true h
  exact ev_now (blocksS hp) (ev_if (fun _ => ev_now (l05Parts_eq hp) (ev_neg (by have := partsP_bd hp; omega) (ev_some rfl))) (fun _ => ev_some rfl))
theorem shR_none {a : Int} (ha : 10 ≤ a) (bl : Int) (out : List S39) : ∀ (m : Nat) (sh : Int), Ev (fun k => shR k a bl m sh out) out
  | 0, sh => ev_some rfl
  | m + 1, sh => by
    simp only [shR]
    exact Ev.bind (oneP_none ha bl _ out) (Ev.bind (oneP_none ha bl _ out) (shR_none ha bl out m (sh + 1)))
theorem blR_none {a : Int} (ha : 10 ≤ a) (out : List S39) : ∀ (m : Nat) (bl : Int), Ev (fun k => blR k a m bl out) out
  | 0, bl => ev_some rfl
  | m + 1, bl => by
    simp only [blR]
    exact Ev.bind (shR_none ha bl out 8 1) (blR_none ha out m (bl + 1))
theorem forA_none {a : Int} (ha : 10 ≤ a) : forA a = [] := by
  unfold forA
  rw [List.filter_eq_nil_iff]
  intro p hp
  have := partsP_bd (allP_ok p hp)
  simp; omega
theorem purS_ev (a : Int) (h : 1 ≤ a) : Ev (fun k => spec_l05All.f k a) (forA a) := by
  by_cases ha : 10 ≤ a
  · rw [forA_none ha]
    simp only [spec_l05All.f]
    exact blR_none ha [] 2 1
  · have hc : a = 1 ∨ a = 2 ∨ a = 3 ∨ a = 4 ∨ a = 5 ∨ a = 6 ∨ a = 7 ∨ a = 8 ∨ a = 9 := by omega
    rcases hc with rfl | rfl | rfl | rfl | rfl | rfl | rfl | rfl | rfl <;> exact Ev.of (spec_l05All.mono _) (k := 600) (by kernel_rfl)
/-- PurchasesFor: the same on both sides. -/
theorem pur_both (a : Int) : ∃ (l : List S39) (e : Int), l.length ≤ 100 ∧ (∀ p ∈ l, okP p ∧ partsP p = a) ∧ Ev (fun k => impl_PurchasesFor.f k a) (l, e) ∧ Ev (fun k => spec_PurchasesFor.f k a) (l, e) := by
  by_cases h : 1 ≤ a ∧ a ≤ 5000
  · refine ⟨forA a, 0, Nat.le_trans (List.length_filter_le _ _) (by decide), fun p hp => ?_, ?_, ?_⟩
    · unfold forA at hp
      rw [List.mem_filter] at hp
      exact ⟨allP_ok p hp.1, by simpa using hp.2⟩
    · simp only [impl_PurchasesFor.f]
      exact ev_now (within_yes h) (ev_pos (by trivial) (Ev.bind (purI_ev a) (Ev.now _)))
    · simp only [spec_PurchasesFor.f]
      exact ev_now (wanted_yes h) (ev_pos rfl (Ev.bind (purS_ev a h.1) (Ev.now _)))
  · refine ⟨[], 2, by simp, by simp, ?_, ?_⟩
    · simp only [impl_PurchasesFor.f]
      exact ev_now (within_no h) (ev_neg (by simp) (Ev.now _))
    · simp only [spec_PurchasesFor.f]
      exact ev_now (wanted_no h) (ev_neg (by simp) (Ev.now _))
theorem sameT_l0 (x0 : List S39) (hn : x0.length ≤ 1048576) : ∀ (d i : Nat), i + d = x0.length → Ev (fun k => spec_SameTackle.l0 k x0 x0 (i : Int)) true
  | 0, i, hd => by
    refine ev_succ ?_
    simp only [spec_SameTackle.l0]
    exact ev_neg (by omega) (Ev.now _)
  | d + 1, i, hd => by
    refine ev_succ ?_
    simp only [spec_SameTackle.l0]
    rw [w64s (by omega)]
    exact ev_pos (by omega) (ev_pos (by omega) (ev_pos (by omega) (ev_neg (by simp) (sameT_l0 x0 hn d (i + 1) (by omega)))))
theorem sameT_ev (l : List S39) (hn : l.length ≤ 1048576) : Ev (fun k => spec_SameTackle.f k l l) true := by
  simp only [spec_SameTackle.f]
  exact ev_pos (by trivial) (sameT_l0 l hn l.length 0 (by omega))

theorem next_ev (c : List Int) (at_ sd : Int) (m : Nat) (h : Sr c at_ (m + 1)) :
    ∃ r a' s', spec_l00Src_next.f c at_ sd = some (r, a', s') ∧ 0 ≤ r ∧ r ≤ 255 ∧ Sr c a' m := by
  obtain ⟨h1, h2, h3⟩ := h
  have e : wrap64 (at_ + 1) = at_ + 1 := w64 (by omega) (by omega)
  have hs : Sr c (at_ + 1) m := ⟨h1, by omega, by omega⟩
  unfold spec_l00Src_next.f
  rw [e]
  by_cases hl : at_ < (c.length : Int)
  · rw [if_pos hl, if_pos h2, if_pos (by omega)]
    have := h1 _ (rd_mem h2 hl)
    rw [w64 (by omega) (by omega)]
    exact ⟨_, _, _, rfl, this.1, this.2, hs⟩
  · rw [if_neg hl, if_neg (by omega)]
    have := and255 (IntKind.u64.wrap (IntKind.u64.wrap (sd * 6364136223846793005)) + 1442695040888963407)
    refine ⟨_, _, _, rfl, ?_, ?_, hs⟩
    · rw [w64 (by omega) (by omega)]; exact this.1
    · rw [w64 (by omega) (by omega)]; exact this.2
theorem pick_ev (c : List Int) (at_ sd n : Int) (m : Nat) (h : Sr c at_ (m + 2)) :
    ∃ r a' s', spec_l00Src_pick.f c at_ sd n = some (r, a', s') ∧ 0 ≤ r ∧ (n ≤ 1 ∧ r = 0 ∨ 1 < n ∧ r < n) ∧ Sr c a' m := by
  unfold spec_l00Src_pick.f
  by_cases h1 : n ≤ 1
  · rw [if_pos h1]; exact ⟨_, _, _, rfl, by omega, .inl ⟨h1, rfl⟩, h.less (by omega)⟩
  · rw [if_neg h1]
    obtain ⟨r, a', s', e, r0, r1, hs⟩ := next_ev c at_ sd (m + 1) h
    rw [e]; simp only [Option.bind_some]
    by_cases h2 : n > 200
    · rw [if_pos h2]
      obtain ⟨q, b', t', e', q0, q1, hs'⟩ := next_ev c a' s' m hs
      rw [e']; simp only [Option.bind_some]
      rw [if_neg (by omega), w64 (x := r * 256) (by omega) (by omega), w64 (x := r * 256 + q) (by omega) (by omega)]
      exact ⟨_, _, _, rfl, Int.tmod_nonneg _ (by omega), .inr ⟨by omega, Int.tmod_lt_of_pos _ (by omega)⟩, hs'⟩
    · rw [if_neg h2, if_neg (by omega)]
      exact ⟨_, _, _, rfl, Int.tmod_nonneg _ (by omega), .inr ⟨by omega, Int.tmod_lt_of_pos _ (by omega)⟩, hs.less (by omega)⟩

theorem among_ev (c : List Int) (at_ sd : Int) (m : Nat) (h : Sr c at_ (m + 2)) (l : List Int) (hl : 1 ≤ l.length) :
    ∃ r a' s', spec_l00Src_among.f c at_ sd l = some (r, a', s') ∧ r ∈ l ∧ Sr c a' m := by
  obtain ⟨r, a', s', e, r0, r1, hs⟩ := pick_ev c at_ sd (l.length : Int) m h
  have hr : r < (l.length : Int) := by omega
  unfold spec_l00Src_among.f
  rw [e, Option.bind_some, if_pos r0, if_pos hr]
  exact ⟨_, _, _, rfl, rd_mem r0 hr, hs⟩
theorem new_ev (c : List Int) (at_ sd : Int) (m : Nat) (h : Sr c at_ (m + 4)) :
    ∃ x y z a' s', spec_l05New.f c at_ sd = some (x, y, z, a', s') ∧ Sr c a' m := by
  obtain ⟨r, a', s', e, r0, r1, hs⟩ := pick_ev c at_ sd 8 (m + 2) h
  obtain ⟨q, b', t', e', q0, q1, hs'⟩ := pick_ev c a' s' 2 m hs
  unfold spec_l05New.f spec_l00Src_one.f
  rw [e, Option.bind_some, e', Option.bind_some, Option.bind_some]
  by_cases hq : (q == 0) = true
  · rw [if_pos hq]; exact ⟨_, _, _, _, _, rfl, hs'⟩
  · rw [if_neg hq]; exact ⟨_, _, _, _, _, rfl, hs'⟩
theorem drawT_l0 (c : List Int) (m : Nat) : ∀ (d : Nat) (out : List S39) (at_ sd : Int), out.length + d ≤ 100 → Sr c at_ (m + 4 * d) →
    ∃ (t : List S39) (a' s' : Int), Ev (fun k => spec_l05Draw.l0 k out (d : Int) c at_ sd) (t, a', s') ∧ t.length = out.length + d ∧ Sr c a' m
  | 0, out, at_, sd, _, hs => by
    refine ⟨out, at_, sd, ev_succ ?_, by omega, hs⟩
    simp only [spec_l05Draw.l0]
    exact ev_neg (by omega) (Ev.now _)
  | d + 1, out, at_, sd, h1, hs => by
    obtain ⟨x, y, z, a', s', e, hs'⟩ := new_ev c at_ sd (m + 4 * d) (hs.less (by omega))
    obtain ⟨t, a2, s2, e2, e3, e4⟩ := drawT_l0 c m d (out ++ [⟨x, y, z⟩]) a' s' (by simp; omega) hs'
    refine ⟨t, a2, s2, ev_succ ?_, by simp at e3; omega, e4⟩
    simp only [spec_l05Draw.l0]
    rw [w64 (x := ((d + 1 : Nat) : Int) - 1) (by omega) (by omega), show ((d + 1 : Nat) : Int) - 1 = (d : Int) by omega]
    exact ev_pos (by omega) (ev_now e (ev_pos (by omega) e2))
theorem drawT_ev (c : List Int) (m : Nat) (at_ sd : Int) (h : Sr c at_ (m + 14)) :
    ∃ (t : List S39) (a' s' : Int), Ev (fun k => spec_l05Draw.f k c at_ sd) (t, a', s') ∧ (1 ≤ t.length ∧ t.length ≤ 3) ∧ Sr c a' m := by
  obtain ⟨r, a', s', e, r0, r1, hs⟩ := pick_ev c at_ sd 3 (m + 12) h
  obtain ⟨d, hd⟩ : ∃ d : Nat, 1 + r = (d : Int) := ⟨(1 + r).toNat, by omega⟩
  obtain ⟨t, a2, s2, e2, e3, e4⟩ := drawT_l0 c m d [] a' s' (by simp; omega) (hs.less (by omega))
  refine ⟨t, a2, s2, ?_, by simp at e3; omega, e4⟩
  simp only [spec_l05Draw.f]
  refine ev_now e ?_
  rw [w64 (x := 1 + r) (by omega) (by omega), hd]
  exact e2
theorem bentT_l0 (c : List Int) (m : Nat) : ∀ (d : Nat) (out : List S39) (at_ sd : Int), out.length + d ≤ 100 → Sr c at_ (m + 4 * d) →
    ∃ (t : List S39) (a' s' : Int), Ev (fun k => spec_l05Bent.l0 k out (d : Int) c at_ sd) (t, a', s') ∧ t.length = out.length + d ∧ Sr c a' m
  | 0, out, at_, sd, _, hs => by
    refine ⟨out, at_, sd, ev_succ ?_, by omega, hs⟩
    simp only [spec_l05Bent.l0]
    exact ev_neg (by omega) (Ev.now _)
  | d + 1, out, at_, sd, h1, hs => by
    obtain ⟨x, y, z, a', s', e, hs'⟩ := new_ev c at_ sd (m + 4 * d) (hs.less (by omega))
    obtain ⟨t, a2, s2, e2, e3, e4⟩ := bentT_l0 c m d (out ++ [⟨x, y, z⟩]) a' s' (by simp; omega) hs'
    refine ⟨t, a2, s2, ev_succ ?_, by simp at e3; omega, e4⟩
    simp only [spec_l05Bent.l0]
    rw [w64 (x := ((d + 1 : Nat) : Int) - 1) (by omega) (by omega), show ((d + 1 : Nat) : Int) - 1 = (d : Int) by omega]
    exact ev_pos (by omega) (ev_now e (ev_pos (by omega) e2))
theorem bentT_ev (c : List Int) (m : Nat) (at_ sd : Int) (h : Sr c at_ (m + 60)) :
    ∃ (t : List S39) (a' s' : Int), Ev (fun k => spec_l05Bent.f k c at_ sd) (t, a', s') ∧ t.length ≤ 7 ∧ Sr c a' m := by
  obtain ⟨t, a1, s1, e1, l1, h1⟩ := drawT_ev c (m + 46) at_ sd h
  obtain ⟨i, a2, s2, e2, i0, i1, h2⟩ := pick_ev c a1 s1 (t.length : Int) (m + 44) h1
  obtain ⟨q, a3, s3, e3, q0, q1, h3⟩ := pick_ev c a2 s2 16 (m + 42) h2
  have hi : i < (t.length : Int) := by omega
  simp only [spec_l05Bent.f]
  by_cases c0 : q = 0
  · obtain ⟨z, a4, s4, e4, _, h4⟩ := among_ev c a3 s3 (m + 40) h3 [(-1), 0, 4, 5, (-9223372036854775808)] (by simp)
    exact ⟨_, _, _, Ev.bind e1 (ev_now e2 (ev_pos i0 (ev_pos hi (ev_now e3 (ev_pos c0 (ev_now e4 (Ev.now _))))))), by simp; omega, h4.less (by omega)⟩
  by_cases c1 : q = 1
  · obtain ⟨z, a4, s4, e4, _, h4⟩ := among_ev c a3 s3 (m + 40) h3 [(-1), 0, 4, 5] (by simp)
    exact ⟨_, _, _, Ev.bind e1 (ev_now e2 (ev_pos i0 (ev_pos hi (ev_now e3 (ev_neg c0 (ev_pos c1 (ev_now e4 (Ev.now _)))))))), by simp; omega, h4.less (by omega)⟩
  by_cases c2 : q = 2
  · exact ⟨_, _, _, Ev.bind e1 (ev_now e2 (ev_pos i0 (ev_pos hi (ev_now e3 (ev_neg c0 (ev_neg c1 (ev_pos c2 (Ev.now _)))))))), by simp; omega, h3.less (by omega)⟩
  by_cases c3 : q = 3
  · obtain ⟨z, a4, s4, e4, hz, h4⟩ := among_ev c a3 s3 (m + 40) h3 [0, 6, 7] (by simp)
    obtain ⟨d, hd, hd7⟩ : ∃ d : Nat, z = (d : Int) ∧ d ≤ 7 := by
      simp at hz
      rcases hz with rfl | rfl | rfl
      · exact ⟨0, rfl, by omega⟩
      · exact ⟨6, rfl, by omega⟩
      · exact ⟨7, rfl, by omega⟩
    obtain ⟨u, a5, s5, e5, l5, h5⟩ := bentT_l0 c m d [] a4 s4 (by simp; omega) (h4.less (by omega))
    rw [← hd] at e5
    exact ⟨_, _, _, Ev.bind e1 (ev_now e2 (ev_pos i0 (ev_pos hi (ev_now e3 (ev_neg c0 (ev_neg c1 (ev_neg c2 (ev_pos c3 (ev_now e4 e5))))))))), by simp at l5; omega, h5⟩
  exact ⟨_, _, _, Ev.bind e1 (ev_now e2 (ev_pos i0 (ev_pos hi (ev_now e3 (ev_neg c0 (ev_neg c1 (ev_neg c2 (ev_neg c3 (Ev.now _))))))))), by show t.length ≤ 7; omega, h3.less (by omega)⟩
theorem numT_l0 (c : List Int) (m : Nat) : ∀ (d : Nat) (n : Int) (at_ sd : Int), d ≤ 100 → Sr c at_ (m + 2 * d) → ∃ r : Int, Ev (fun k => spec_l05Number.l0 k n (d : Int) c at_ sd) r
  | 0, n, at_, sd, _, hs => by
    refine ⟨n, ev_succ ?_⟩
    simp only [spec_l05Number.l0]
    exact ev_neg (by omega) (Ev.now _)
  | d + 1, n, at_, sd, h1, hs => by
    obtain ⟨q, a', s', e, _, _, hs'⟩ := pick_ev c at_ sd 4 (m + 2 * d) (hs.less (by omega))
    obtain ⟨r, e2⟩ := numT_l0 c m d (wrap64 (n * (wrap64 (2 + q)))) a' s' (by omega) hs'
    refine ⟨r, ev_succ ?_⟩
    simp only [spec_l05Number.l0]
    rw [w64 (x := ((d + 1 : Nat) : Int) - 1) (by omega) (by omega), show ((d + 1 : Nat) : Int) - 1 = (d : Int) by omega]
    exact ev_pos (by omega) (ev_now e e2)
theorem numT_ev (c : List Int) (h : ∀ x ∈ c, (Lit.int .u8 x).wf = true) : ∃ n : Int, Ev (fun k => spec_l05Number.f k c) n := by
  obtain ⟨q, a1, s1, e1, q0, q1, h1⟩ := pick_ev c 0 0 4 100 ((Sr.start h).less (by omega))
  have e0 : spec_l00From.f c = some (c, 0, 0) := rfl
  simp only [spec_l05Number.f]
  by_cases c0 : q = 0
  · obtain ⟨z, a2, s2, e2, _, h2⟩ := among_ev c a1 s1 98 h1 [(-1), 0, 1, 2, 11, 13, 4096, 4374, 5000, 5001] (by simp)
    exact ⟨_, ev_now e0 (ev_now e1 (ev_pos c0 (ev_now e2 (Ev.now _))))⟩
  by_cases c1 : q = 1
  · obtain ⟨z, a2, s2, e2, z0, z1, h2⟩ := pick_ev c a1 s1 5 98 h1
    obtain ⟨d, hd⟩ : ∃ d : Nat, z = (d : Int) := ⟨z.toNat, by omega⟩
    obtain ⟨r, e3⟩ := numT_l0 c 0 d 1 a2 s2 (by omega) (h2.less (by omega))
    rw [← hd] at e3
    exact ⟨_, ev_now e0 (ev_now e1 (ev_neg c0 (ev_pos c1 (ev_now e2 e3))))⟩
  · obtain ⟨z, a2, s2, e2, z0, z1, h2⟩ := pick_ev c a1 s1 100 98 h1
    exact ⟨_, ev_now e0 (ev_now e1 (ev_neg c0 (ev_neg c1 (ev_now e2 (Ev.now _)))))⟩

theorem one_of {α : Type} (x : List α) (i : Nat) (h : i < x.length) : (x.take (i + 1)).drop i = [x[i]] := by
  rw [List.drop_take, show i + 1 - i = 1 by omega, List.drop_eq_getElem_cons h]; rfl
theorem FnFewBlocks : laws_FnFewBlocks.Pure := by
  intro c _ _ hc
  refine Ev.rounds ?_
  simp only [laws_FnFewBlocks.f]
  refine ev_now (show laws_f6big.f c = some (decide ((c.length : Int) > 4096)) from rfl) (ev_if (fun _ => Ev.now _) (fun _ => ?_))
  obtain ⟨want, dw⟩ := numT_ev c hc
  obtain ⟨l, few, e, hl6, b1, b2, f1, f2, hok, hbest⟩ := few_both want
  obtain ⟨all, e4, hn, hall, p1, p2⟩ := pur_both want
  obtain ⟨b, a', s', db, hb7, _⟩ := bentT_ev c 0 0 0 ((Sr.start hc).less (by omega))
  have d1 : Ev (fun k => spec_DrawBestTackle.f k c) want := by simp only [spec_DrawBestTackle.f]; exact Ev.bind dw (Ev.now _)
  have d2 : Ev (fun k => spec_DrawPurchasesFor.f k c) want := by simp only [spec_DrawPurchasesFor.f]; exact Ev.bind dw (Ev.now _)
  have d3 : Ev (fun k => spec_DrawBlocksOf.f k c) b := by simp only [spec_DrawBlocksOf.f]; exact ev_now rfl (Ev.bind db (Ev.now _))
  have j4 : Ev (fun k => laws_FnFewBlocks.j4 k want l e few) true := by
    refine ev_succ ?_; simp only [laws_FnFewBlocks.j4]
    refine ev_if (fun h0 => ?_) (fun _ => Ev.now _)
    obtain ⟨ho, hadv, hbl⟩ := hok h0
    obtain ⟨q1, _, _, _, q5, _⟩ := counts_ok ho
    rw [hadv] at q5
    rw [hbl] at q1
    exact Ev.bind q5 (Ev.bind q1 (ev_pos rfl (ev_pos rfl (ev_pos rfl (ev_some (by simp))))))
  have hdone : ∃ (n en m em cnt : Int), Ev (fun k => impl_BlocksOf.f k b) (n, en) ∧ Ev (fun k => spec_BlocksOf.f k b) (n, en) ∧ Ev (fun k => impl_SheavesOf.f k b) (m, em) ∧ Ev (fun k => spec_SheavesOf.f k b) (m, em) ∧
      (en = 0 → (b.length : Int) ≤ n ∧ n ≤ 2 * b.length ∧ n ≤ m) ∧ Ev (fun k => laws_FnFewBlocks.j2 k want l e few b n false) true := by
    by_cases ho : okT b
    · obtain ⟨q1, q2, q3, q4, q5, q6⟩ := counts_ok ho
      have hb := blT_bd ho.1
      refine ⟨_, _, _, _, 0, q1, q2, q3, q4, fun _ => ⟨hb.1, hb.2, ?_⟩, ?_⟩
      · have : ∀ t : List S39, okPs t → blT t ≤ shT t := by
          intro t
          induction t with
          | nil => intro _; simp [blT, shT]
          | cons p t ih =>
            intro h
            have h1 := ih (fun q hq => h q (by simp [hq]))
            have h2 := h p (by simp)
            have h3 := h2.1
            have h4 := h2.2.1
            simp only [blT, shT, bP]
            split <;> split <;> omega
        exact this b ho.1
      · refine ev_succ ?_; simp only [laws_FnFewBlocks.j2]
        refine ev_neg (by simp) (Ev.bind q6 (ev_pos rfl ?_))
        refine ev_succ ?_; simp only [laws_FnFewBlocks.j3]
        by_cases hr : advT b ≤ 5000
        · obtain ⟨l2, few2, e2, _, _, _, g1, _, _, hbest2⟩ := few_both (advT b)
          obtain ⟨r0, r1⟩ := hbest2 hr b ho rfl
          subst r0
          exact ev_pos (decide_eq_true hr) (Ev.bind g1 (ev_pos rfl (ev_neg (by omega) j4)))
        · exact ev_neg (by simp; omega) j4
    · obtain ⟨q1, q2, q3, q4, q6⟩ := counts_no ho (by omega)
      refine ⟨_, _, _, _, 0, q1, q2, q3, q4, fun h => absurd h (by decide), ?_⟩
      refine ev_succ ?_; simp only [laws_FnFewBlocks.j2]
      refine ev_neg (by simp) (Ev.bind q6 (ev_neg (by decide) ?_))
      refine ev_succ ?_; simp only [laws_FnFewBlocks.j3]
      exact ev_neg (by simp) j4
  obtain ⟨n, en, m, em, _, b3, b4, s3, s4, hcnt, j2⟩ := hdone
  have l0 : ∀ (d i : Nat), i + d = all.length → Ev (fun k => laws_FnFewBlocks.l0 k want l e few want all b n en n m (i : Int)) true := by
    intro d
    induction d with
    | zero =>
      intro i hd
      refine ev_succ ?_; simp only [laws_FnFewBlocks.l0]
      refine ev_neg (by omega) (ev_if (fun h0 => ?_) (fun _ => j2))
      obtain ⟨h1, h2, h3⟩ := hcnt h0
      rw [w64 (x := 2 * (b.length : Int)) (by omega) (by omega)]
      refine ev_neg (by omega) (ev_neg (by omega) ?_)
      rw [decide_eq_false (by omega)]
      exact j2
    | succ d ih =>
      intro i hd
      have hi : i < all.length := by omega
      obtain ⟨hp, ha⟩ := hall _ (List.getElem_mem hi)
      have q5 := (counts_ok (okT_one hp).1).2.2.2.2.1
      have ea : advT [all[i]] = want := by simp only [advT, Int.mul_one]; exact ha
      rw [ea] at q5
      refine ev_succ ?_; simp only [laws_FnFewBlocks.l0]
      rw [w64s (by omega)]
      refine ev_pos (by omega) (ev_pos (by omega) (ev_pos (by omega) (ev_pos (by omega) ?_)))
      rw [Int.toNat_natCast, Int.toNat_natCast, one_of all i hi]
      exact Ev.bind q5 (ev_pos rfl (ev_pos rfl (ih (i + 1) (by omega))))
  have st := sameT_ev l (by omega)
  have sa := sameT_ev all (by omega)
  have j0 : Ev (fun k => laws_FnFewBlocks.j0 k want l e few want all b n en n m false) true := by
    refine ev_succ ?_; simp only [laws_FnFewBlocks.j0]
    exact ev_neg (by simp) (l0 all.length 0 (by omega))
  have be : (e != e) = false := by simp
  refine Ev.bind d1 (Ev.bind b1 (Ev.bind b2 (Ev.bind f1 (Ev.bind f2 (Ev.bind d2 (Ev.bind p1 (Ev.bind p2 (Ev.bind d3 (Ev.bind b3 (Ev.bind b4 (Ev.bind s3 (Ev.bind s4 ?_))))))))))))
  refine ev_pos rfl (Ev.bind st (ev_pos rfl (ev_pos rfl (ev_pos rfl (ev_pos rfl (Ev.bind sa (ev_pos rfl (ev_pos rfl (ev_pos rfl (ev_pos rfl (ev_pos rfl ?_)))))))))))
  rw [be]
  exact j0

end Go.Proofs.Ytcjandlemjfojaa.PureFnFewBlocks
namespace Go.Proofs.Ytcjandlemjfojaa.Pure
open Go.Proofs.Ytcjandlemjfojaa.HFew
theorem FnFewBlocks : laws_FnFewBlocks.Pure := PureFnFewBlocks.FnFewBlocks
end Go.Proofs.Ytcjandlemjfojaa.Pure
