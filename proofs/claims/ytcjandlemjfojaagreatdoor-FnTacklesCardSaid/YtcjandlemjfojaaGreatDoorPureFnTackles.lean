/- The program's function answers as the statement says. Conditions: none beyond the given statement's own. -/
import Derived.Test.YtcjandlemjfojaaGreatDoorHTksx9
import Derived.Test.YtcjandlemjfojaaGreatDoorLib
import Derived.Test.YtcjandlemjfojaaGreatDoorLibDraw
set_option linter.unusedVariables false
set_option linter.unusedSimpArgs false
namespace Go.Proofs.YtcjandlemjfojaaGreatDoor.PureFnTackles
open Go.RowKit Go.Proofs.YtcjandlemjfojaaGreatDoor.HTks Go.Proofs.YtcjandlemjfojaaGreatDoorW.PrintWords Go.Proofs.YtcjandlemjfojaaGreatDoorW.PrintLast Go.Proofs.YtcjandlemjfojaaGreatDoorW.PrintMore Go.Proofs.YtcjandlemjfojaaGreatDoor.Lib
theorem l00In_eq (a b c : Int) : spec_l00In.f a b c = some (decide (b ≤ a ∧ a ≤ c)) := by
 unfold spec_l00In.f; by_cases h : a ≥ b <;> simp [h]

theorem within_eq (a b c : Int) : impl_within.f a b c = some (decide (b ≤ a ∧ a ≤ c)) := by
 unfold impl_within.f; by_cases h : a ≥ b <;> simp [h]

def okP (p : S35) : Prop := (0 ≤ p.f0 ∧ p.f0 ≤ 4) ∧ (0 ≤ p.f1 ∧ p.f1 ≤ 4) ∧ 1 ≤ p.f0 + p.f1 ∧ (if p.f2 = true then 0 ≤ p.f1 - p.f0 ∧ p.f1 - p.f0 ≤ 1 else 0 ≤ p.f0 - p.f1 ∧ p.f0 - p.f1 ≤ 1)
instance (p : S35) : Decidable (okP p) := inferInstanceAs (Decidable ((0 ≤ p.f0 ∧ p.f0 ≤ 4) ∧ (0 ≤ p.f1 ∧ p.f1 ≤ 4) ∧ 1 ≤ p.f0 + p.f1 ∧ (if p.f2 = true then 0 ≤ p.f1 - p.f0 ∧ p.f1 - p.f0 ≤ 1 else 0 ≤ p.f0 - p.f1 ∧ p.f0 - p.f1 ≤ 1)))
def okPs (t : List S35) : Prop := ∀ p ∈ t, okP p
instance (t : List S35) : Decidable (okPs t) := inferInstanceAs (Decidable (∀ p ∈ t, okP p))
def okT (t : List S35) : Prop := okPs t ∧ 1 ≤ t.length ∧ t.length ≤ 6
instance (t : List S35) : Decidable (okT t) := inferInstanceAs (Decidable (okPs t ∧ 1 ≤ t.length ∧ t.length ≤ 6))
theorem okPs_drop {l : List S35} {i : Nat} (h : i < l.length) : okPs (l.drop i) ↔ okP l[i] ∧ okPs (l.drop (i + 1)) := all_drop h
theorem rdP {xs : List S35} {i : Nat} (h : i < xs.length) : rd_T35 xs (i : Int) = xs[i] := by
 unfold rd_T35; simp [List.getD_eq_getElem?_getD, h]

def partsP (p : S35) : Int := p.f0 + p.f1 + if p.f2 = true then 1 else 0
def advT : List S35 → Int
 | [] => 1
 | p :: t => partsP p * advT t
theorem partsP_bd {p : S35} (h : okP p) : 1 ≤ partsP p ∧ partsP p ≤ 9 := by
 obtain ⟨h1, h2, h3, h4⟩ := h
 unfold partsP
 cases hx : p.f2 with
 | true => rw [hx, if_pos rfl] at h4; rw [if_pos rfl]; omega
 | false => rw [hx, if_neg (by simp)] at h4; rw [if_neg (by simp)]; omega
theorem advT_bd {t : List S35} (h : okPs t) : 1 ≤ advT t ∧ advT t ≤ 9 ^ t.length := by
 induction t with
 | nil => simp [advT]
 | cons p t ih =>
  have ih := ih (fun q hq => h q (by simp [hq]))
  have h1 := partsP_bd (h p (by simp))
  simp only [advT, List.length_cons]
  rw [Int.pow_succ, Int.mul_comm (9 ^ t.length) 9]
  constructor
  ·have := Int.mul_le_mul h1.1 ih.1 (by omega) (by omega); omega
  ·exact Int.mul_le_mul h1.2 ih.2 (by omega) (by omega)
theorem p9 : (9 : Int) ^ 6 = 531441 := by decide
theorem advT_le {t : List S35} (h : okT t) : 1 ≤ advT t ∧ advT t ≤ 531441 := by
 have h1 := advT_bd h.1
 have h2 : (9 : Int) ^ t.length ≤ 9 ^ 6 := by
  obtain ⟨d, hd⟩ : ∃ d, 6 = t.length + d := ⟨6 - t.length, by have := h.2.2; omega⟩
  rw [hd, Int.pow_add]
  have : (1 : Int) ≤ 9 ^ d := by have := Int.pow_pos (n := 9) (m := d) (by omega); omega
  have := Int.mul_le_mul (Int.le_refl ((9 : Int) ^ t.length)) this (by omega) (by omega)
  omega
 rw [p9] at h2
 omega

theorem partsOf_eq {p : S35} (h : okP p) : impl_partsOf.f p.f0 p.f1 p.f2 = some (partsP p) := by
 have h1 := h.1
 have h2 := h.2.1
 unfold impl_partsOf.f partsP
 rw [w64 (x := p.f0 + p.f1) (by omega) (by omega)]
 by_cases e : p.f2 = true
 ·rw [if_pos e, if_pos e, w64 (by omega) (by omega)]
 ·rw [if_neg e, if_neg e]; simp
theorem advOf_l0 (x0 : List S35) (ho : okPs x0) (hl : x0.length ≤ 6) : ∀ (d i : Nat) (s : Int), i + d = x0.length → 1 ≤ s → s ≤ 9 ^ i →
  Ev (fun k => impl_advantageOf.l0 k s x0 (x0.length : Int) (i : Int)) (s * advT (x0.drop i))
 | 0, i, s, hd, h0, h1 => by
  refine ev_succ ?_
  simp only [impl_advantageOf.l0]
  have e : x0.drop i = [] := by simp; omega
  refine ev_neg (by omega) (ev_some ?_)
  rw [e]; simp [advT]
 | d + 1, i, s, hd, h0, h1 => by
  have hi : i < x0.length := by omega
  have hp := ho _ (List.getElem_mem hi)
  have hb := partsP_bd hp
  have h9 : (9 : Int) ^ i ≤ 531441 := by
   have : ∀ j : Fin 7, (9 : Nat) ^ j.val ≤ 531441 := by decide
   have := Int.ofNat_le.2 (this ⟨i, by omega⟩)
   simpa using this
  have m1 : s * partsP x0[i] ≤ 9 ^ i * 9 := Int.mul_le_mul h1 hb.2 (by omega) (by omega)
  have m2 : 1 ≤ s * partsP x0[i] := by have := Int.mul_le_mul h0 hb.1 (by omega) (by omega); omega
  refine ev_succ ?_
  simp only [impl_advantageOf.l0]
  rw [rdP hi, w64s (by omega), List.drop_eq_getElem_cons hi]
  refine ev_pos (by omega) (ev_pos (by omega) (ev_pos (by omega) (ev_now (partsOf_eq hp) ?_)))
  rw [w64 (x := s * partsP x0[i]) (by omega) (by omega)]
  have := advOf_l0 x0 ho hl d (i + 1) (s * partsP x0[i]) (by omega) m2 (by rw [Int.pow_succ]; exact m1)
  simp only [advT]
  rw [← Int.mul_assoc]; exact this
theorem advOf_ev (t : List S35) (h : okT t) : Ev (fun k => impl_advantageOf.f k t) (advT t) := by
 have := advOf_l0 t h.1 h.2.2 t.length 0 1 (by omega) (by omega) (by simp)
 rw [List.drop_zero, Int.one_mul] at this
 simp only [impl_advantageOf.f]; exact this

theorem l05Parts_eq {p : S35} (h : okP p) : spec_l05Parts_at.f p.f0 p.f1 p.f2 = some (partsP p) := by
 have h1 := h.1
 have h2 := h.2.1
 unfold spec_l05Parts_at.f spec_l05Parts.f partsP
 rw [w64 (x := p.f0 + p.f1) (by omega) (by omega)]
 by_cases e : p.f2 = true
 ·rw [if_pos e, if_pos e, w64 (by omega) (by omega)]; rfl
 ·rw [if_neg e, if_neg e]; simp
theorem l05Adv_l0 (x0 : List S35) (ho : okPs x0) (hl : x0.length ≤ 6) : ∀ (d i : Nat) (s : Int), i + d = x0.length → 1 ≤ s → s ≤ 9 ^ i →
  Ev (fun k => spec_l05Advantage.l0 k x0 s (i : Int)) (s * advT (x0.drop i))
 | 0, i, s, hd, h0, h1 => by
  refine ev_succ ?_
  simp only [spec_l05Advantage.l0]
  have e : x0.drop i = [] := by simp; omega
  refine ev_neg (by omega) (ev_some ?_)
  rw [e]; simp [advT]
 | d + 1, i, s, hd, h0, h1 => by
  have hi : i < x0.length := by omega
  have hp := ho _ (List.getElem_mem hi)
  have hb := partsP_bd hp
  have h9 : (9 : Int) ^ i ≤ 531441 := by
   have : ∀ j : Fin 7, (9 : Nat) ^ j.val ≤ 531441 := by decide
   have := Int.ofNat_le.2 (this ⟨i, by omega⟩)
   simpa using this
  have m1 : s * partsP x0[i] ≤ 9 ^ i * 9 := Int.mul_le_mul h1 hb.2 (by omega) (by omega)
  have m2 : 1 ≤ s * partsP x0[i] := by have := Int.mul_le_mul h0 hb.1 (by omega) (by omega); omega
  refine ev_succ ?_
  simp only [spec_l05Advantage.l0]
  rw [rdP hi, w64s (by omega), List.drop_eq_getElem_cons hi]
  refine ev_pos (by omega) (ev_pos (by omega) (ev_now (l05Parts_eq hp) ?_))
  rw [w64 (x := s * partsP x0[i]) (by omega) (by omega)]
  have := l05Adv_l0 x0 ho hl d (i + 1) (s * partsP x0[i]) (by omega) m2 (by rw [Int.pow_succ]; exact m1)
  simp only [advT]
  rw [← Int.mul_assoc]; exact this
theorem l05Adv_ev (t : List S35) (h : okT t) : Ev (fun k => spec_l05Advantage.f k t) (advT t) := by
 have := l05Adv_l0 t h.1 h.2.2 t.length 0 1 (by omega) (by omega) (by simp)
 rw [List.drop_zero, Int.one_mul] at this
 simp only [spec_l05Advantage.f]; exact this

theorem validPurchase_ev (p : S35) : Ev (fun k => impl_ValidPurchase.f k p.f0 p.f1 p.f2) (decide (okP p)) := by
 have jt : Ev (fun k => impl_ValidPurchase.j0 k true p.f0 p.f1 p.f2) false := by
  refine ev_succ ?_; simp only [impl_ValidPurchase.j0]; exact ev_pos (by trivial) (Ev.now _)
 simp only [impl_ValidPurchase.f]
 refine ev_now (within_eq _ _ _) (ev_if (fun h0 => ev_now (within_eq _ _ _) (ev_if (fun h1 => ?_) (fun h1 => ?_))) (fun h0 => ?_))
 ·have h0 := of_decide_eq_true h0
  have h1 := of_decide_eq_true h1
  rw [w64 (x := p.f0 + p.f1) (by omega) (by omega)]
  by_cases h2 : p.f0 + p.f1 = 0
  ·rw [beq_iff_eq.2 h2, ofd (p := okP p) (fun g => by have := g.2.2.1; omega)]; exact jt
  ·rw [beq_eq_false_iff_ne.2 h2]
   refine ev_succ ?_; simp only [impl_ValidPurchase.j0]
   refine ev_neg (by simp) (ev_if (fun h3 => ?_) (fun h3 => ?_))
   ·rw [w64 (x := p.f1 - p.f0) (by omega) (by omega)]
    refine ev_now (within_eq _ _ _) (ev_some ?_)
    apply decide_eq_decide.2; unfold okP; rw [if_pos h3]
    exact ⟨fun g => ⟨h0, h1, by omega, g⟩, fun g => g.2.2.2⟩
   ·rw [w64 (x := p.f0 - p.f1) (by omega) (by omega)]
    refine ev_now (within_eq _ _ _) (ev_some ?_)
    apply decide_eq_decide.2; unfold okP; rw [if_neg h3]
    exact ⟨fun g => ⟨h0, h1, by omega, g⟩, fun g => g.2.2.2⟩
 ·rw [ofd (p := okP p) (fun g => h1 (ofd1 g.2.1))]; exact jt
 ·rw [ofd (p := okP p) (fun g => h0 (ofd1 g.1))]; exact jt
theorem validTackle_l0 (x0 : List S35) (h1 : 1 ≤ x0.length) (h6 : x0.length ≤ 6) : ∀ (d i : Nat), i + d = x0.length → (okPs (x0.drop i) → okPs x0) →
  Ev (fun k => impl_ValidTackle.l0 k x0 (x0.length : Int) (i : Int)) (decide (okT x0))
 | 0, i, hd, hi => by
  refine ev_succ ?_
  simp only [impl_ValidTackle.l0]
  have e : x0.drop i = [] := by simp; omega
  have g := hi (by rw [e]; simp [okPs])
  exact ev_neg (by omega) (ev_some (ofd1 (p := okT x0) ⟨g, h1, h6⟩).symm)
 | d + 1, i, hd, hi => by
  have hil : i < x0.length := by omega
  refine ev_succ ?_
  simp only [impl_ValidTackle.l0]
  rw [rdP hil, w64s (by omega)]
  refine ev_pos (by omega) (ev_pos (by omega) (ev_pos (by omega) (Ev.bind (validPurchase_ev x0[i]) (ev_if (fun h => ?_) (fun h => ev_some ?_)))))
  ·refine validTackle_l0 x0 h1 h6 d (i + 1) (by omega) (fun g => hi ?_)
   rw [okPs_drop hil]; exact ⟨of_decide_eq_true h, g⟩
  ·symm; apply ofd; intro g; exact h (ofd1 (g.1 _ (List.getElem_mem _)))
theorem validTackle_ev (t : List S35) : Ev (fun k => impl_ValidTackle.f k t) (decide (okT t)) := by
 have jt : Ev (fun k => impl_ValidTackle.j0 k t true) false := by
  refine ev_succ ?_; simp only [impl_ValidTackle.j0]; exact ev_pos (by trivial) (Ev.now _)
 simp only [impl_ValidTackle.f]
 refine ev_if (fun h => ?_) (fun h => ?_)
 ·rw [ofd (p := okT t) (fun g => by have := g.2.1; omega)]; exact jt
 ·by_cases h6 : (t.length : Int) > 6
  ·rw [ofd1 h6, ofd (p := okT t) (fun g => by have := g.2.2; omega)]; exact jt
  ·rw [ofd h6]
   refine ev_succ ?_; simp only [impl_ValidTackle.j0]
   exact ev_neg (by simp) (validTackle_l0 t (by omega) (by omega) t.length 0 (by omega) (by simp))

theorem l05One_ev (p : S35) : Ev (fun k => spec_l05One.f k p.f0 p.f1 p.f2) (decide (okP p), p.f0, p.f1, p.f2) := by
 have jt : Ev (fun k => spec_l05One.j0 k true p.f0 p.f1 p.f2) (false, p.f0, p.f1, p.f2) := by
  refine ev_succ ?_; simp only [spec_l05One.j0]; exact ev_pos (by trivial) (Ev.now _)
 simp only [spec_l05One.f]
 refine ev_now (l00In_eq _ _ _) (ev_if (fun h0 => ev_now (l00In_eq _ _ _) (ev_if (fun h1 => ?_) (fun h1 => ?_))) (fun h0 => ?_))
 ·have h0 := of_decide_eq_true h0
  have h1 := of_decide_eq_true h1
  rw [w64 (x := p.f0 + p.f1) (by omega) (by omega)]
  by_cases h2 : p.f0 + p.f1 < 1
  ·rw [ofd1 h2, ofd (p := okP p) (fun g => by have := g.2.2.1; omega)]; exact jt
  ·rw [ofd h2]
   refine ev_succ ?_; simp only [spec_l05One.j0]
   refine ev_neg (by simp) (ev_if (fun h3 => ?_) (fun h3 => ?_))
   ·rw [w64 (x := p.f1 - p.f0) (by omega) (by omega)]
    refine ev_now (l00In_eq _ _ _) (ev_some ?_)
    congr 1
    apply decide_eq_decide.2; unfold okP; rw [if_pos h3]
    exact ⟨fun g => ⟨h0, h1, by omega, g⟩, fun g => g.2.2.2⟩
   ·rw [w64 (x := p.f0 - p.f1) (by omega) (by omega)]
    refine ev_now (l00In_eq _ _ _) (ev_some ?_)
    congr 1
    apply decide_eq_decide.2; unfold okP; rw [if_neg h3]
    exact ⟨fun g => ⟨h0, h1, by omega, g⟩, fun g => g.2.2.2⟩
 ·rw [ofd (p := okP p) (fun g => h1 (ofd1 g.2.1))]; exact jt
 ·rw [ofd (p := okP p) (fun g => h0 (ofd1 g.1))]; exact jt

theorem l05One_at_ev (p : S35) : Ev (fun k => spec_l05One_at.f k p.f0 p.f1 p.f2) (decide (okP p)) := by
 simp only [spec_l05One_at.f]
 exact Ev.bind (l05One_ev p) (Ev.now _)
theorem l05Ok_l0 (x0 : List S35) (hn : x0.length ≤ 35184372088832) : ∀ (d i : Nat), i + d = x0.length → (okPs (x0.drop i) → okPs x0) →
  Ev (fun k => spec_l05Ok.l0 k x0 (i : Int)) (decide (okT x0))
 | 0, i, hd, hi => by
  refine ev_succ ?_
  simp only [spec_l05Ok.l0]
  have e : x0.drop i = [] := by simp; omega
  have g := hi (by rw [e]; simp [okPs])
  refine ev_neg (by omega) (ev_now (l00In_eq _ _ _) (ev_some ?_))
  apply decide_eq_decide.2; unfold okT; exact ⟨fun q => ⟨g, by omega, by omega⟩, fun q => by omega⟩
 | d + 1, i, hd, hi => by
  have hil : i < x0.length := by omega
  refine ev_succ ?_
  simp only [spec_l05Ok.l0]
  rw [rdP hil, w64s (by omega)]
  refine ev_pos (by omega) (ev_pos (by omega) (Ev.bind (l05One_at_ev x0[i]) (ev_if (fun h => ?_) (fun h => ev_some ?_))))
  ·refine l05Ok_l0 x0 hn d (i + 1) (by omega) (fun g => hi ?_)
   rw [okPs_drop hil]; exact ⟨of_decide_eq_true h, g⟩
  ·symm; apply ofd; intro g; exact h (ofd1 (g.1 _ (List.getElem_mem _)))
theorem l05Ok_ev (t : List S35) (hn : t.length ≤ 35184372088832) : Ev (fun k => spec_l05Ok.f k t) (decide (okT t)) := by
 simp only [spec_l05Ok.f]
 exact l05Ok_l0 t hn t.length 0 (by omega) (by simp)

def pullL (s : Int) : List S35 → List Int
 | [] => []
 | p :: t => s :: pullL (s * partsP p) t
theorem pullL_length (t : List S35) : ∀ s, (pullL s t).length = t.length := by
 induction t with
 | nil => intro s; rfl
 | cons p t ih => intro s; simp [pullL, ih]
theorem pullL_snoc (p : S35) (t : List S35) : ∀ s, pullL s (t ++ [p]) = pullL s t ++ [s * advT t] := by
 induction t with
 | nil => intro s; simp [pullL, advT]
 | cons q t ih => intro s; simp only [List.cons_append, pullL, ih, advT, Int.mul_assoc]
theorem advT_snoc (p : S35) (t : List S35) : advT (t ++ [p]) = advT t * partsP p := by
 induction t with
 | nil => simp [advT]
 | cons q t ih => simp only [List.cons_append, advT, ih, Int.mul_assoc]
theorem p9le (i : Nat) (h : i ≤ 6) : (9 : Int) ^ i ≤ 531441 := by
 have : ∀ j : Fin 7, (9 : Nat) ^ j.val ≤ 531441 := by decide
 have := Int.ofNat_le.2 (this ⟨i, by omega⟩)
 simpa using this
theorem mul9 {s : Int} {p : S35} (hp : okP p) {i : Nat} (h0 : 1 ≤ s) (h1 : s ≤ 9 ^ i) : 1 ≤ s * partsP p ∧ s * partsP p ≤ 9 ^ (i + 1) := by
 have hb := partsP_bd hp
 have m1 : s * partsP p ≤ 9 ^ i * 9 := Int.mul_le_mul h1 hb.2 (by omega) (by omega)
 have m2 := Int.mul_le_mul h0 hb.1 (by omega) (by omega)
 rw [Int.pow_succ]
 omega
theorem pullI_l0 (x0 : List S35) (ho : okPs x0) (hl : x0.length ≤ 6) : ∀ (d i : Nat) (out : List Int) (s : Int), i + d = x0.length → out.length ≤ 100 + i → 1 ≤ s → s ≤ 9 ^ i →
  Ev (fun k => impl_PullsOf.l0 k out s x0 (x0.length : Int) (i : Int)) (out ++ pullL s (x0.drop i), 0)
 | 0, i, out, s, hd, _, h0, h1 => by
  refine ev_succ ?_
  simp only [impl_PullsOf.l0]
  have e : x0.drop i = [] := by simp; omega
  rw [e]
  exact ev_neg (by omega) (ev_some (by simp [pullL]))
 | d + 1, i, out, s, hd, hol, h0, h1 => by
  have hi : i < x0.length := by omega
  have hp := ho _ (List.getElem_mem hi)
  have m := mul9 hp h0 h1
  have b := p9le (i + 1) (by omega)
  refine ev_succ ?_
  simp only [impl_PullsOf.l0]
  rw [rdP hi, w64s (by omega), List.drop_eq_getElem_cons hi]
  refine ev_pos (by omega) (ev_pos (by omega) (ev_pos (by omega) (ev_pos (by omega) (ev_now (partsOf_eq hp) ?_))))
  rw [w64 (x := s * partsP x0[i]) (by omega) (by omega)]
  have := pullI_l0 x0 ho hl d (i + 1) (out ++ [s]) (s * partsP x0[i]) (by omega) (by simp; omega) m.1 m.2
  rw [List.append_assoc] at this
  exact this
theorem pullS_l0 (x0 : List S35) (ho : okPs x0) (hl : x0.length ≤ 6) : ∀ (d i : Nat) (out : List Int) (s : Int), i + d = x0.length → out.length ≤ 100 + i → 1 ≤ s → s ≤ 9 ^ i →
  Ev (fun k => spec_PullsOf.l0 k x0 out s (i : Int)) (out ++ pullL s (x0.drop i), 0)
 | 0, i, out, s, hd, _, h0, h1 => by
  refine ev_succ ?_
  simp only [spec_PullsOf.l0]
  have e : x0.drop i = [] := by simp; omega
  rw [e]
  exact ev_neg (by omega) (ev_some (by simp [pullL]))
 | d + 1, i, out, s, hd, hol, h0, h1 => by
  have hi : i < x0.length := by omega
  have hp := ho _ (List.getElem_mem hi)
  have m := mul9 hp h0 h1
  have b := p9le (i + 1) (by omega)
  refine ev_succ ?_
  simp only [spec_PullsOf.l0]
  rw [rdP hi, w64s (by omega), List.drop_eq_getElem_cons hi]
  refine ev_pos (by omega) (ev_pos (by omega) (ev_pos (by omega) (ev_now (l05Parts_eq hp) ?_)))
  rw [w64 (x := s * partsP x0[i]) (by omega) (by omega)]
  have := pullS_l0 x0 ho hl d (i + 1) (out ++ [s]) (s * partsP x0[i]) (by omega) (by simp; omega) m.1 m.2
  rw [List.append_assoc] at this
  exact this
def ropeR (a : Int) : List S35 → List Int × Int
 | [] => ([], a)
 | p :: t => ((ropeR a t).2 * (p.f0 + p.f1 + 1) :: (ropeR a t).1, (ropeR a t).2 * partsP p)
theorem ropeR_length (a : Int) (t : List S35) : (ropeR a t).1.length = t.length := by
 induction t with
 | nil => rfl
 | cons p t ih => simp [ropeR, ih]
theorem ropeR_bd {a : Int} (ha : 0 ≤ a ∧ a ≤ 100000) {t : List S35} (h : okPs t) : 0 ≤ (ropeR a t).2 ∧ (ropeR a t).2 ≤ 100000 * 9 ^ t.length := by
 induction t with
 | nil => simp [ropeR]; omega
 | cons p t ih =>
  have ih := ih (fun q hq => h q (by simp [hq]))
  have hb := partsP_bd (h p (by simp))
  simp only [ropeR, List.length_cons]
  rw [Int.pow_succ, ← Int.mul_assoc]
  exact ⟨Int.mul_nonneg ih.1 (by omega), Int.mul_le_mul ih.2 hb.2 (by omega) (by omega)⟩
theorem rope_step (a : Int) (x0 : List S35) {i : Nat} (h : i < x0.length) : ropeR a (x0.drop i) = ((ropeR a (x0.drop (i + 1))).2 * (x0[i].f0 + x0[i].f1 + 1) :: (ropeR a (x0.drop (i + 1))).1, (ropeR a (x0.drop (i + 1))).2 * partsP x0[i]) := by
 rw [List.drop_eq_getElem_cons h]; rfl
theorem okPs_dropI {x0 : List S35} (ho : okPs x0) (i : Nat) : okPs (x0.drop i) := fun p hp => ho p (List.mem_of_mem_drop hp)
theorem rope_nums {a : Int} (ha : 0 ≤ a ∧ a ≤ 100000) {x0 : List S35} (ho : okPs x0) (hl : x0.length ≤ 6) {i : Nat} (hi : i < x0.length) :
  ∃ w, w = (ropeR a (x0.drop (i + 1))).2 ∧ 0 ≤ w ∧ w ≤ 60000000000 ∧ (0 ≤ w * (x0[i].f0 + x0[i].f1) ∧ w * (x0[i].f0 + x0[i].f1) ≤ 600000000000) ∧ (0 ≤ w * (x0[i].f0 + x0[i].f1 + 1) ∧ w * (x0[i].f0 + x0[i].f1 + 1) ≤ 600000000000) ∧ (0 ≤ w * partsP x0[i] ∧ w * partsP x0[i] ≤ 600000000000) := by
 have hp := ho _ (List.getElem_mem hi)
 have h1 := hp.1
 have h2 := hp.2.1
 have hb := partsP_bd hp
 have hr := ropeR_bd ha (okPs_dropI ho (i + 1))
 have h9 := p9le (x0.drop (i + 1)).length (by simp; omega)
 have hw : (ropeR a (x0.drop (i + 1))).2 ≤ 60000000000 := by
  have := Int.mul_le_mul_of_nonneg_left h9 (show (0 : Int) ≤ 100000 by omega)
  omega
 refine ⟨_, rfl, hr.1, hw, ⟨Int.mul_nonneg hr.1 (by omega), ?_⟩, ⟨Int.mul_nonneg hr.1 (by omega), ?_⟩, ⟨Int.mul_nonneg hr.1 (by omega), ?_⟩⟩
 ·have := Int.mul_le_mul hw (show x0[i].f0 + x0[i].f1 ≤ 10 by omega) (by omega) (by omega); omega
 ·have := Int.mul_le_mul hw (show x0[i].f0 + x0[i].f1 + 1 ≤ 10 by omega) (by omega) (by omega); omega
 ·have := Int.mul_le_mul hw (show partsP x0[i] ≤ 10 by omega) (by omega) (by omega); omega
theorem ropeS_l0 (a : Int) (ha : 0 ≤ a ∧ a ≤ 100000) (x0 : List S35) (ho : okPs x0) (hl : x0.length ≤ 6) : ∀ (i : Nat), i ≤ x0.length →
  Ev (fun k => spec_RopeLengths.l0 k x0 (ropeR a (x0.drop i)).1 (ropeR a (x0.drop i)).2 ((i : Int) - 1)) ((ropeR a x0).1, 0)
 | 0, _ => by
  refine ev_succ ?_
  simp only [spec_RopeLengths.l0]
  exact ev_neg (by omega) (ev_some rfl)
 | i + 1, hi => by
  have hi' : i < x0.length := by omega
  have hp := ho _ (List.getElem_mem hi')
  have h1 := hp.1
  have h2 := hp.2.1
  have ih := ropeS_l0 a ha x0 ho hl i (by omega)
  obtain ⟨w, hw, w0, w1, ⟨n1, n2⟩, ⟨n3, n4⟩, ⟨n5, n6⟩⟩ := rope_nums ha ho hl hi'
  have hlen := ropeR_length a (x0.drop (i + 1))
  rw [List.length_drop] at hlen
  rw [rope_step a x0 hi', ← hw] at ih
  rw [← hw]
  refine ev_succ ?_
  simp only [spec_RopeLengths.l0]
  rw [show ((i + 1 : Nat) : Int) - 1 = (i : Int) by omega, rdP hi', w64 (x := (i : Int) - 1) (by omega) (by omega), w64 (x := x0[i].f0 + x0[i].f1) (by omega) (by omega), w64 (x := w * (x0[i].f0 + x0[i].f1)) (by omega) (by omega),
   w64 (x := w * (x0[i].f0 + x0[i].f1) + w) (by omega) (by omega)]
  refine ev_pos (by omega) (ev_pos (by omega) (ev_pos (by omega) (ev_now rfl (ev_pos (by simp; omega) (ev_now (l05Parts_eq hp) ?_)))))
  rw [w64 (x := w * partsP x0[i]) (by omega) (by omega), show w * (x0[i].f0 + x0[i].f1) + w = w * (x0[i].f0 + x0[i].f1 + 1) by rw [Int.mul_add w (x0[i].f0 + x0[i].f1) 1, Int.mul_one]]
  exact ih
theorem ropeI_l0 (a : Int) (ha : 0 ≤ a ∧ a ≤ 100000) (x0 : List S35) (ho : okPs x0) (hl : x0.length ≤ 6) : ∀ (i : Nat), i ≤ x0.length →
  Ev (fun k => impl_RopeLengths.l0 k x0 (List.replicate i 0 ++ (ropeR a (x0.drop i)).1) (ropeR a (x0.drop i)).2 ((i : Int) - 1)) ((ropeR a x0).1, 0)
 | 0, _ => by
  refine ev_succ ?_
  simp only [impl_RopeLengths.l0]
  exact ev_neg (by omega) (ev_some rfl)
 | i + 1, hi => by
  have hi' : i < x0.length := by omega
  have hp := ho _ (List.getElem_mem hi')
  have h1 := hp.1
  have h2 := hp.2.1
  have ih := ropeI_l0 a ha x0 ho hl i (by omega)
  obtain ⟨w, hw, w0, w1, ⟨n1, n2⟩, ⟨n3, n4⟩, ⟨n5, n6⟩⟩ := rope_nums ha ho hl hi'
  have hlen := ropeR_length a (x0.drop (i + 1))
  rw [List.length_drop] at hlen
  rw [rope_step a x0 hi', ← hw] at ih
  rw [← hw]
  refine ev_succ ?_
  simp only [impl_RopeLengths.l0]
  rw [show ((i + 1 : Nat) : Int) - 1 = (i : Int) by omega, rdP hi', w64 (x := (i : Int) - 1) (by omega) (by omega), w64 (x := x0[i].f0 + x0[i].f1) (by omega) (by omega), w64 (x := x0[i].f0 + x0[i].f1 + 1) (by omega) (by omega),
   w64 (x := w * (x0[i].f0 + x0[i].f1 + 1)) (by omega) (by omega)]
  refine ev_pos (by omega) (ev_pos (by omega) (ev_pos (by omega) (ev_pos (by simp; omega) (ev_now (partsOf_eq hp) ?_))))
  rw [w64 (x := w * partsP x0[i]) (by omega) (by omega)]
  have e : (List.replicate (i + 1) (0 : Int) ++ (ropeR a (x0.drop (i + 1))).1).set (i : Int).toNat (w * (x0[i].f0 + x0[i].f1 + 1)) = List.replicate i 0 ++ (w * (x0[i].f0 + x0[i].f1 + 1) :: (ropeR a (x0.drop (i + 1))).1) := by
   rw [Int.toNat_natCast, List.replicate_succ', List.append_assoc, List.set_append_right _ _ (by simp)]
   simp
  rw [e]
  exact ih

theorem rdQPurchase {xs : List S35} {i : Nat} (h : i < xs.length) : rd_T35 xs (i : Int) = xs[i] := by
 unfold rd_T35; simp [List.getD_eq_getElem?_getD, h]
def samePurchase (x y : S35) : Bool := !(!(x.f0 == y.f0) || (!(x.f1 == y.f1) || (!(x.f2 == y.f2))))
def eqLPurchase : List S35 → List S35 → Bool
 | x :: a, y :: b => samePurchase x y && eqLPurchase a b
 | _, _ => true
theorem eqLPurchase_drop {a b : List S35} {i : Nat} (h : i < a.length) (h' : i < b.length) : eqLPurchase (a.drop i) (b.drop i) = (samePurchase a[i] b[i] && eqLPurchase (a.drop (i + 1)) (b.drop (i + 1))) := by
 rw [List.drop_eq_getElem_cons h, List.drop_eq_getElem_cons h']; rfl
theorem eqLPurchase_end {a b : List S35} {i : Nat} (h : a.length ≤ i) : eqLPurchase (a.drop i) (b.drop i) = true := by
 rw [List.drop_eq_nil_of_le h]; rfl
theorem eqPurchase_l0 (a b : List S35) (hl : a.length = b.length) (hn : a.length ≤ 1048576) : ∀ (d i : Nat), i + d = a.length → Ev (fun k => impl_Purchase.l0 k a b (a.length : Int) (i : Int)) (eqLPurchase (a.drop i) (b.drop i))
 | 0, i, hd => by
  rw [eqLPurchase_end (by omega)]
  refine ev_succ ?_; simp only [impl_Purchase.l0]; exact ev_neg (by omega) (Ev.now _)
 | d + 1, i, hd => by
  have hi : i < a.length := by omega
  have hi' : i < b.length := by omega
  have ih := eqPurchase_l0 a b hl hn d (i + 1) (by omega)
  rw [eqLPurchase_drop hi hi']
  refine ev_succ ?_; simp only [impl_Purchase.l0]
  rw [rdQPurchase hi, rdQPurchase hi', w64s (by omega)]
  refine ev_pos (by omega) (ev_pos (by omega) (ev_pos (by omega) (ev_pos (by omega) (ev_if (fun g => ev_some ?_) (fun g => ?_)))))
  ·unfold samePurchase; rw [g]; rfl
  ·unfold samePurchase; rw [Bool.eq_false_iff.2 g]; simpa using ih
theorem eqPurchase_ev (a b : List S35) (hn : a.length ≤ 1048576) : Ev (fun k => impl_Purchase.f k a b) (if a.length = b.length then eqLPurchase a b else false) := by
 simp only [impl_Purchase.f]
 refine ev_if (fun h => ?_) (fun h => ev_some ?_)
 ·rw [if_pos (by omega)]; exact eqPurchase_l0 a b (by omega) hn a.length 0 (by omega)
 ·rw [if_neg (by omega)]

theorem sameS_l0 (a b : List S35) (hl : a.length = b.length) (hn : a.length ≤ 1048576) : ∀ (d i : Nat), i + d = a.length → Ev (fun k => spec_SameTackle.l0 k a b (i : Int)) (eqLPurchase (a.drop i) (b.drop i))
 | 0, i, hd => by
  rw [eqLPurchase_end (by omega)]
  refine ev_succ ?_; simp only [spec_SameTackle.l0]; exact ev_neg (by omega) (Ev.now _)
 | d + 1, i, hd => by
  have hi : i < a.length := by omega
  have hi' : i < b.length := by omega
  have ih := sameS_l0 a b hl hn d (i + 1) (by omega)
  rw [eqLPurchase_drop hi hi']
  refine ev_succ ?_; simp only [spec_SameTackle.l0]
  rw [rdQPurchase hi, rdQPurchase hi', w64s (by omega)]
  refine ev_pos (by omega) (ev_pos (by omega) (ev_pos (by omega) (ev_if (fun g => ev_some ?_) (fun g => ?_))))
  ·unfold samePurchase; rw [g]; rfl
  ·unfold samePurchase; rw [Bool.eq_false_iff.2 g]; simpa using ih
theorem sameS_ev (a b : List S35) (hn : a.length ≤ 1048576) : Ev (fun k => spec_SameTackle.f k a b) (if a.length = b.length then eqLPurchase a b else false) := by
 simp only [spec_SameTackle.f]
 refine ev_if (fun h => ?_) (fun h => ev_some ?_)
 ·rw [if_pos (by omega)]; exact sameS_l0 a b (by omega) hn a.length 0 (by omega)
 ·rw [if_neg (by omega)]
theorem eqL_self : ∀ a : List S35, eqLPurchase a a = true
 | [] => rfl
 | x :: a => by
  show (samePurchase x x && eqLPurchase a a) = true
  rw [eqL_self a]; unfold samePurchase; simp
theorem sameS_self (a : List S35) (hn : a.length ≤ 1048576) : Ev (fun k => spec_SameTackle.f k a a) true := by
 have := sameS_ev a a hn
 rwa [if_pos rfl, eqL_self] at this
theorem intsE_l0 (a : List Int) (hn : a.length ≤ 1048576) : ∀ (d i : Nat), i + d = a.length → Ev (fun k => laws_f6ints.l0 k a a (i : Int)) true
 | 0, i, hd => by
  refine ev_succ ?_; simp only [laws_f6ints.l0]; exact ev_neg (by omega) (Ev.now _)
 | d + 1, i, hd => by
  refine ev_succ ?_; simp only [laws_f6ints.l0]
  rw [w64s (by omega)]
  exact ev_pos (by omega) (ev_pos (by omega) (ev_pos (by omega) (ev_pos (by trivial) (intsE_l0 a hn d (i + 1) (by omega)))))
theorem intsE_ev (a : List Int) (hn : a.length ≤ 1048576) : Ev (fun k => laws_f6ints.f k a a) true := by
 simp only [laws_f6ints.f]
 exact ev_pos (by trivial) (intsE_l0 a hn a.length 0 (by omega))

def namesP : List ByteArray := [(⟨#[119, 104, 105, 112]⟩ : ByteArray), (⟨#[103, 117, 110]⟩ : ByteArray), (⟨#[108, 117, 102, 102]⟩ : ByteArray), (⟨#[116, 119, 111, 102, 111, 108, 100]⟩ : ByteArray), (⟨#[103, 121, 110]⟩ : ByteArray), (⟨#[116, 104, 114, 101, 101, 102, 111, 108, 100]⟩ : ByteArray), (⟨#[119, 97, 116, 99, 104]⟩ : ByteArray), (⟨#[102, 111, 117, 114, 102, 111, 108, 100]⟩ : ByteArray)]
theorem names_size : ∀ i : Fin 8, (rdOf ByteArray.empty namesP (i.val : Int)).size ≤ 9 := by decide
def nameP (p : S35) : ByteArray :=
 if p.f2 = true then (if p.f0 = 0 then (⟨#[114, 117, 110, 110, 101, 114]⟩ : ByteArray) else rdOf ByteArray.empty namesP (p.f0 + p.f1 - 1) ++ (⟨#[45, 116, 117, 114, 110, 101, 100]⟩ : ByteArray)) else rdOf ByteArray.empty namesP (p.f0 + p.f1 - 1)
theorem okP_turn {p : S35} (h : okP p) : okP (⟨p.f1, p.f0, !p.f2⟩ : S35) := by
 obtain ⟨h1, h2, h3, h4⟩ := h
 refine ⟨h2, h1, by show 1 ≤ p.f1 + p.f0; omega, ?_⟩
 cases hx : p.f2 with
 | true => rw [hx, if_pos rfl] at h4; rw [if_neg (by simp)]; exact h4
 | false => rw [hx, if_neg (by simp)] at h4; rw [if_pos (by rfl)]; exact h4
theorem name_both (p : S35) : ∃ r : ByteArray, Ev (fun k => impl_PurchaseName.f k p.f0 p.f1 p.f2) r ∧ Ev (fun k => spec_PurchaseName.f k p.f0 p.f1 p.f2) r := by
 have ei := validPurchase_ev p
 have es := l05One_ev p
 by_cases h : okP p
 ·rw [ofd1 h] at ei es
  obtain ⟨h1, h2, h3, h4⟩ := h
  have hs : (rdOf ByteArray.empty namesP (p.f0 + p.f1 - 1)).size ≤ 9 := by
   obtain ⟨n, hn⟩ := Int.eq_ofNat_of_zero_le (show 0 ≤ p.f0 + p.f1 - 1 by omega)
   have h8 : n < 8 := by
    cases hx : p.f2 with
    | true => rw [hx, if_pos rfl] at h4; omega
    | false => rw [hx, if_neg (by simp)] at h4; omega
   rw [hn]; exact names_size ⟨n, h8⟩
  have hn8 : p.f0 + p.f1 - 1 < 8 := by omega
  have hw : wrap64 (wrap64 (p.f0 + p.f1) - 1) = p.f0 + p.f1 - 1 := by rw [w64 (x := p.f0 + p.f1) (by omega) (by omega), w64 (by omega) (by omega)]
  refine ⟨nameP p, ?_, ?_⟩
  ·simp only [impl_PurchaseName.f]
   refine Ev.bind ei (ev_pos (by trivial) (ev_now rfl ?_))
   rw [hw]
   refine ev_pos (by omega) (ev_pos (by simp; omega) ?_)
   cases hx : p.f2 with
   | true =>
    rw [hx, if_pos rfl] at h4
    refine ev_pos (by trivial) (ev_succ ?_)
    simp only [impl_PurchaseName.j0]
    rw [w64 (x := p.f0 + p.f1) (by omega) (by omega)]
    by_cases e : p.f0 + p.f1 = 1
    ·refine ev_pos (by simp [e]) (ev_some ?_)
     unfold nameP; rw [if_pos hx, if_pos (by omega)]
    ·refine ev_neg (by simp [e]) (ev_pos (by trivial) (ev_pos (by show (rdOf ByteArray.empty namesP (p.f0 + p.f1 - 1)).size + 7 ≤ _; omega) (ev_some ?_)))
     unfold nameP; rw [if_pos hx, if_neg (by omega)]; rfl
   | false =>
    refine ev_neg (by simp) (ev_succ ?_)
    simp only [impl_PurchaseName.j0]
    refine ev_neg (by simp) (ev_neg (by simp) (ev_some ?_))
    unfold nameP; rw [if_neg (by simp [hx])]; rfl
  ·simp only [spec_PurchaseName.f]
   refine Ev.bind es (ev_pos (by trivial) (ev_now rfl ?_))
   simp only []
   rw [hw]
   refine ev_pos (by omega) (ev_pos (by simp; omega) (ev_if (fun hx => ev_if (fun h0 => ev_some ?_) (fun h0 => ev_pos (by show (rdOf ByteArray.empty namesP (p.f0 + p.f1 - 1)).size + 7 ≤ _; omega) (ev_some ?_))) (fun hx => ev_some ?_)))
   ·unfold nameP; rw [if_pos hx, if_pos h0]
   ·unfold nameP; rw [if_pos hx, if_neg h0]; rfl
   ·unfold nameP; rw [if_neg hx]; rfl
 ·rw [ofd h] at ei es
  refine ⟨⟨#[]⟩, ?_, ?_⟩
  ·simp only [impl_PurchaseName.f]; exact Ev.bind ei (ev_neg (by simp) (Ev.now _))
  ·simp only [spec_PurchaseName.f]; exact Ev.bind es (ev_neg (by simp) (Ev.now _))

theorem next_ev (c : List Int) (at_ sd : Int) (m : Nat) (h : Sr c at_ (m + 1)) :
  ∃ r a' s', spec_l00Src_next.f c at_ sd = some (r, a', s') ∧ 0 ≤ r ∧ r ≤ 255 ∧ Sr c a' m := by
 obtain ⟨h1, h2, h3⟩ := h
 have e : wrap64 (at_ + 1) = at_ + 1 := w64 (by omega) (by omega)
 have hs : Sr c (at_ + 1) m := ⟨h1, by omega, by omega⟩
 unfold spec_l00Src_next.f
 rw [e]
 by_cases hl : at_ < (c.length : Int)
 ·rw [if_pos hl, if_pos h2, if_pos (by omega)]
  have := h1 _ (rd_mem h2 hl)
  rw [w64 (by omega) (by omega)]
  exact ⟨_, _, _, rfl, this.1, this.2, hs⟩
 ·rw [if_neg hl, if_neg (by omega)]
  have := and255 (IntKind.u64.wrap (IntKind.u64.wrap (sd * 6364136223846793005)) + 1442695040888963407)
  refine ⟨_, _, _, rfl, ?_, ?_, hs⟩
  ·rw [w64 (by omega) (by omega)]; exact this.1
  ·rw [w64 (by omega) (by omega)]; exact this.2
theorem pick_ev (c : List Int) (at_ sd n : Int) (m : Nat) (h : Sr c at_ (m + 2)) :
  ∃ r a' s', spec_l00Src_pick.f c at_ sd n = some (r, a', s') ∧ 0 ≤ r ∧ (n ≤ 1 ∧ r = 0 ∨ 1 < n ∧ r < n) ∧ Sr c a' m := by
 unfold spec_l00Src_pick.f
 by_cases h1 : n ≤ 1
 ·rw [if_pos h1]; exact ⟨_, _, _, rfl, by omega, .inl ⟨h1, rfl⟩, h.less (by omega)⟩
 ·rw [if_neg h1]
  obtain ⟨r, a', s', e, r0, r1, hs⟩ := next_ev c at_ sd (m + 1) h
  rw [e]; simp only [Option.bind_some]
  by_cases h2 : n > 200
  ·rw [if_pos h2]
   obtain ⟨q, b', t', e', q0, q1, hs'⟩ := next_ev c a' s' m hs
   rw [e']; simp only [Option.bind_some]
   rw [if_neg (by omega), w64 (x := r * 256) (by omega) (by omega), w64 (x := r * 256 + q) (by omega) (by omega)]
   exact ⟨_, _, _, rfl, Int.tmod_nonneg _ (by omega), .inr ⟨by omega, Int.tmod_lt_of_pos _ (by omega)⟩, hs'⟩
  ·rw [if_neg h2, if_neg (by omega)]
   exact ⟨_, _, _, rfl, Int.tmod_nonneg _ (by omega), .inr ⟨by omega, Int.tmod_lt_of_pos _ (by omega)⟩, hs.less (by omega)⟩

theorem among_ev (c : List Int) (at_ sd : Int) (m : Nat) (h : Sr c at_ (m + 2)) (l : List Int) (hl : 1 ≤ l.length) :
  ∃ r a' s', spec_l00Src_among.f c at_ sd l = some (r, a', s') ∧ r ∈ l ∧ Sr c a' m := by
 obtain ⟨r, a', s', e, r0, r1, hs⟩ := pick_ev c at_ sd (l.length : Int) m h
 have hr : r < (l.length : Int) := by omega
 unfold spec_l00Src_among.f
 rw [e, Option.bind_some, if_pos r0, if_pos hr]
 exact ⟨_, _, _, rfl, rd_mem r0 hr, hs⟩
theorem new_ev (c : List Int) (at_ sd : Int) (m : Nat) (h : Sr c at_ (m + 4)) :
  ∃ x y z a' s', spec_l05New.f c at_ sd = some (x, y, z, a', s') ∧ Sr c a' m := by
 obtain ⟨r, a', s', e, r0, r1, hs⟩ := pick_ev c at_ sd 8 (m + 2) h
 obtain ⟨q, b', t', e', q0, q1, hs'⟩ := pick_ev c a' s' 2 m hs
 unfold spec_l05New.f spec_l00Src_one.f
 rw [e, Option.bind_some, e', Option.bind_some, Option.bind_some]
 by_cases hq : (q == 0) = true
 ·rw [if_pos hq]; exact ⟨_, _, _, _, _, rfl, hs'⟩
 ·rw [if_neg hq]; exact ⟨_, _, _, _, _, rfl, hs'⟩
theorem drawT_l0 (c : List Int) (m : Nat) : ∀ (d : Nat) (out : List S35) (at_ sd : Int), out.length + d ≤ 100 → Sr c at_ (m + 4 * d) →
  ∃ (t : List S35) (a' s' : Int), Ev (fun k => spec_l05Draw.l0 k out (d : Int) c at_ sd) (t, a', s') ∧ t.length = out.length + d ∧ Sr c a' m
 | 0, out, at_, sd, _, hs => by
  refine ⟨out, at_, sd, ev_succ ?_, by omega, hs⟩
  simp only [spec_l05Draw.l0]
  exact ev_neg (by omega) (Ev.now _)
 | d + 1, out, at_, sd, h1, hs => by
  obtain ⟨x, y, z, a', s', e, hs'⟩ := new_ev c at_ sd (m + 4 * d) (hs.less (by omega))
  obtain ⟨t, a2, s2, e2, e3, e4⟩ := drawT_l0 c m d (out ++ [⟨x, y, z⟩]) a' s' (by simp; omega) hs'
  refine ⟨t, a2, s2, ev_succ ?_, by simp at e3; omega, e4⟩
  simp only [spec_l05Draw.l0]
  rw [w64 (x := ((d + 1 : Nat) : Int) - 1) (by omega) (by omega), show ((d + 1 : Nat) : Int) - 1 = (d : Int) by omega]
  exact ev_pos (by omega) (ev_now e (ev_pos (by omega) e2))
theorem drawT_ev (c : List Int) (m : Nat) (at_ sd : Int) (h : Sr c at_ (m + 14)) :
  ∃ (t : List S35) (a' s' : Int), Ev (fun k => spec_l05Draw.f k c at_ sd) (t, a', s') ∧ (1 ≤ t.length ∧ t.length ≤ 3) ∧ Sr c a' m := by
 obtain ⟨r, a', s', e, r0, r1, hs⟩ := pick_ev c at_ sd 3 (m + 12) h
 obtain ⟨d, hd⟩ : ∃ d : Nat, 1 + r = (d : Int) := ⟨(1 + r).toNat, by omega⟩
 obtain ⟨t, a2, s2, e2, e3, e4⟩ := drawT_l0 c m d [] a' s' (by simp; omega) (hs.less (by omega))
 refine ⟨t, a2, s2, ?_, by simp at e3; omega, e4⟩
 simp only [spec_l05Draw.f]
 refine ev_now e ?_
 rw [w64 (x := 1 + r) (by omega) (by omega), hd]
 exact e2
theorem bentT_l0 (c : List Int) (m : Nat) : ∀ (d : Nat) (out : List S35) (at_ sd : Int), out.length + d ≤ 100 → Sr c at_ (m + 4 * d) →
  ∃ (t : List S35) (a' s' : Int), Ev (fun k => spec_l05Bent.l0 k out (d : Int) c at_ sd) (t, a', s') ∧ t.length = out.length + d ∧ Sr c a' m
 | 0, out, at_, sd, _, hs => by
  refine ⟨out, at_, sd, ev_succ ?_, by omega, hs⟩
  simp only [spec_l05Bent.l0]
  exact ev_neg (by omega) (Ev.now _)
 | d + 1, out, at_, sd, h1, hs => by
  obtain ⟨x, y, z, a', s', e, hs'⟩ := new_ev c at_ sd (m + 4 * d) (hs.less (by omega))
  obtain ⟨t, a2, s2, e2, e3, e4⟩ := bentT_l0 c m d (out ++ [⟨x, y, z⟩]) a' s' (by simp; omega) hs'
  refine ⟨t, a2, s2, ev_succ ?_, by simp at e3; omega, e4⟩
  simp only [spec_l05Bent.l0]
  rw [w64 (x := ((d + 1 : Nat) : Int) - 1) (by omega) (by omega), show ((d + 1 : Nat) : Int) - 1 = (d : Int) by omega]
  exact ev_pos (by omega) (ev_now e (ev_pos (by omega) e2))
theorem bentT_ev (c : List Int) (m : Nat) (at_ sd : Int) (h : Sr c at_ (m + 60)) :
  ∃ (t : List S35) (a' s' : Int), Ev (fun k => spec_l05Bent.f k c at_ sd) (t, a', s') ∧ t.length ≤ 7 ∧ Sr c a' m := by
 obtain ⟨t, a1, s1, e1, l1, h1⟩ := drawT_ev c (m + 46) at_ sd h
 obtain ⟨i, a2, s2, e2, i0, i1, h2⟩ := pick_ev c a1 s1 (t.length : Int) (m + 44) h1
 obtain ⟨q, a3, s3, e3, q0, q1, h3⟩ := pick_ev c a2 s2 16 (m + 42) h2
 have hi : i < (t.length : Int) := by omega
 simp only [spec_l05Bent.f]
 by_cases c0 : q = 0
 ·obtain ⟨z, a4, s4, e4, _, h4⟩ := among_ev c a3 s3 (m + 40) h3 [(-1), 0, 4, 5, (-9223372036854775808)] (by simp)
  exact ⟨_, _, _, Ev.bind e1 (ev_now e2 (ev_pos i0 (ev_pos hi (ev_now e3 (ev_pos c0 (ev_now e4 (Ev.now _))))))), by simp; omega, h4.less (by omega)⟩
 by_cases c1 : q = 1
 ·obtain ⟨z, a4, s4, e4, _, h4⟩ := among_ev c a3 s3 (m + 40) h3 [(-1), 0, 4, 5] (by simp)
  exact ⟨_, _, _, Ev.bind e1 (ev_now e2 (ev_pos i0 (ev_pos hi (ev_now e3 (ev_neg c0 (ev_pos c1 (ev_now e4 (Ev.now _)))))))), by simp; omega, h4.less (by omega)⟩
 by_cases c2 : q = 2
 ·exact ⟨_, _, _, Ev.bind e1 (ev_now e2 (ev_pos i0 (ev_pos hi (ev_now e3 (ev_neg c0 (ev_neg c1 (ev_pos c2 (Ev.now _)))))))), by simp; omega, h3.less (by omega)⟩
 by_cases c3 : q = 3
 ·obtain ⟨z, a4, s4, e4, hz, h4⟩ := among_ev c a3 s3 (m + 40) h3 [0, 6, 7] (by simp)
  obtain ⟨d, hd, hd7⟩ : ∃ d : Nat, z = (d : Int) ∧ d ≤ 7 := by
   simp at hz
   rcases hz with rfl | rfl | rfl
   ·exact ⟨0, rfl, by omega⟩
   ·exact ⟨6, rfl, by omega⟩
   ·exact ⟨7, rfl, by omega⟩
  obtain ⟨u, a5, s5, e5, l5, h5⟩ := bentT_l0 c m d [] a4 s4 (by simp; omega) (h4.less (by omega))
  rw [← hd] at e5
  exact ⟨_, _, _, Ev.bind e1 (ev_now e2 (ev_pos i0 (ev_pos hi (ev_now e3 (ev_neg c0 (ev_neg c1 (ev_neg c2 (ev_pos c3 (ev_now e4 e5))))))))), by simp at l5; omega, h5⟩
 exact ⟨_, _, _, Ev.bind e1 (ev_now e2 (ev_pos i0 (ev_pos hi (ev_now e3 (ev_neg c0 (ev_neg c1 (ev_neg c2 (ev_neg c3 (Ev.now _))))))))), by show t.length ≤ 7; omega, h3.less (by omega)⟩
def dg (n : Int) : ByteArray := ⟨#[UInt8.ofNat (48 + n.toNat)]⟩
theorem dg_size (n : Int) : (dg n).size = 1 := rfl
theorem implDec (n : Int) (h : 0 ≤ n ∧ n ≤ 9) : impl_Decimal.f n = some (dg n) := by
 unfold impl_Decimal.f
 first
 | (rw [if_pos h.1, if_pos (by omega)]; unfold Go.Lib.decDigits; rw [dif_pos (by omega)]; rfl)
 | (rw [if_pos (by omega), if_pos (by omega)]; unfold Go.Lib.itoa; rw [if_neg (by omega)]; unfold Go.Lib.decDigits; rw [dif_pos (by omega)]; rfl)
theorem specDec (n : Int) (h : 0 ≤ n ∧ n ≤ 9) : Ev (fun k => spec_l01Dec.f k n) (dg n) := by
 obtain h | h | h | h | h | h | h | h | h | h : n = 0 ∨ n = 1 ∨ n = 2 ∨ n = 3 ∨ n = 4 ∨ n = 5 ∨ n = 6 ∨ n = 7 ∨ n = 8 ∨ n = 9 := by omega
 all_goals subst h; exact Ev.of (spec_l01Dec.mono _) (k := 5) (by kernel_rfl)

def jn (l : List ByteArray) : ByteArray := ⟨(Go.Lib.join (l.map (·.data.toList)) [32]).toArray⟩
theorem jn_nil : jn [] = ⟨#[]⟩ := rfl
theorem jn_one (x : ByteArray) : jn [x] = x := by
 apply ByteArray.ext; simp [jn, Go.Lib.join_one]
theorem jn_snoc (l : List ByteArray) (x : ByteArray) (h : l ≠ []) : jn (l ++ [x]) = (jn l ++ (⟨#[32]⟩ : ByteArray)) ++ x := by
 obtain ⟨a, r, rfl⟩ : ∃ a r, l = a :: r := by
  cases l with
  | nil => exact absurd rfl h
  | cons a r => exact ⟨a, r, rfl⟩
 apply ByteArray.ext
 apply Array.toList_inj.1
 simp [jn, Go.Lib.join_cons, Go.Lib.joinTail, ByteArray.data_append]
theorem join_some (l : List ByteArray) (h0 : l.length ≤ 100000000) (h : (jn l).size ≤ 1000000000) : strings_Join.f l (⟨#[32]⟩ : ByteArray) = some (jn l) := by
 unfold strings_Join.f
 have e : (Go.Lib.join (l.map (·.data.toList)) (⟨#[32]⟩ : ByteArray).data.toList).length = (jn l).size := by
  simp [jn, ByteArray.size]
 rw [if_pos (by omega), if_pos (by omega)]
 rfl

def wP (p : S35) : ByteArray := if p.f2 = true then (dg p.f0 ++ (⟨#[62]⟩ : ByteArray)) ++ dg p.f1 else (dg p.f0 ++ (⟨#[60]⟩ : ByteArray)) ++ dg p.f1
theorem wP_size (p : S35) : (wP p).size = 3 := by
 unfold wP; split <;> simp [ByteArray.size_append, dg_size] <;> rfl
theorem take_w (t : List S35) {i : Nat} (h : i < t.length) : (t.take (i + 1)).map wP = (t.take i).map wP ++ [wP t[i]] := by
 rw [List.take_succ_eq_append_getElem h, List.map_append]; rfl
theorem w_ne (t : List S35) {i : Nat} (h0 : i ≠ 0) (h : i < t.length) : (t.take i).map wP ≠ [] := by
 intro e
 have := congrArg List.length e
 rw [List.length_map, List.length_take] at this
 simp only [List.length_nil] at this
 omega
theorem jn_w (t : List S35) : ∀ {i : Nat}, i ≤ t.length → (jn ((t.take i).map wP)).size ≤ 4 * i
 | 0, _ => by simp [jn_nil]; rfl
 | i + 1, h => by
  have ih := jn_w t (i := i) (by omega)
  rw [take_w t (by omega)]
  by_cases h0 : i = 0
  ·subst h0; simp only [List.take_zero, List.map_nil, List.nil_append]; rw [jn_one, wP_size]; omega
  ·rw [jn_snoc _ _ (w_ne t (by omega) (by omega)), ByteArray.size_append, ByteArray.size_append, wP_size]
   have : (⟨#[32]⟩ : ByteArray).size = 1 := rfl
   omega
theorem spec_j1 (t : List S35) (ho : okPs t) (i : Nat) (hi : i < t.length) (hl : t.length ≤ 6) (acc r : ByteArray) (ha : acc.size ≤ 1000)
  (h : Ev (fun k => spec_l05Text.l0 k t (acc ++ wP t[i]) (((i + 1 : Nat) : Int))) r) : Ev (fun k => spec_l05Text.j1 k t acc (i : Int)) r := by
 have hp := ho _ (List.getElem_mem hi)
 obtain ⟨a1, a2, _, _⟩ := id hp
 have hs := wP_size t[i]
 have d0 := specDec t[i].f0 (by omega)
 have d1 := specDec t[i].f1 (by omega)
 refine ev_succ ?_
 simp only [spec_l05Text.j1]
 rw [rdP hi, w64s (by omega)]
 refine ev_pos (by omega) (ev_pos (by omega) ?_)
 generalize t[i] = p at *
 have z0 := dg_size p.f0
 have z1 := dg_size p.f1
 have y1 : (⟨#[62]⟩ : ByteArray).size = 1 := rfl
 have y2 : (⟨#[60]⟩ : ByteArray).size = 1 := rfl
 refine ev_if (fun g => ?_) (fun g => ?_)
 ·have e : wP p = (dg p.f0 ++ (⟨#[62]⟩ : ByteArray)) ++ dg p.f1 := by unfold wP; rw [if_pos g]
  rw [e] at h hs
  refine Ev.bind d0 (ev_pos (by omega) (Ev.bind d1 (ev_pos (by rw [ByteArray.size_append] at *; omega) (ev_pos (by omega) h))))
 ·have e : wP p = (dg p.f0 ++ (⟨#[60]⟩ : ByteArray)) ++ dg p.f1 := by unfold wP; rw [if_neg g]
  rw [e] at h hs
  refine Ev.bind d0 (ev_pos (by omega) (Ev.bind d1 (ev_pos (by rw [ByteArray.size_append] at *; omega) (ev_pos (by omega) h))))
theorem spec_l0 (t : List S35) (ho : okPs t) (hl : t.length ≤ 6) : ∀ (d i : Nat), i + d = t.length → Ev (fun k => spec_l05Text.l0 k t (jn ((t.take i).map wP)) (i : Int)) (jn (t.map wP))
 | 0, i, hd => by
  refine ev_succ ?_
  simp only [spec_l05Text.l0]
  refine ev_neg (by omega) (ev_some ?_)
  rw [List.take_of_length_le (by omega)]
 | d + 1, i, hd => by
  have hi : i < t.length := by omega
  have ih := spec_l0 t ho hl d (i + 1) (by omega)
  have hs := jn_w t (i := i) (by omega)
  rw [take_w t hi] at ih
  refine ev_succ ?_
  simp only [spec_l05Text.l0]
  refine ev_pos (by omega) (ev_if (fun g => ev_pos (by omega) ?_) (fun g => ?_))
  ·refine spec_j1 t ho i hi hl _ _ (by rw [ByteArray.size_append]; have : (⟨#[32]⟩ : ByteArray).size = 1 := rfl; omega) ?_
   rw [jn_snoc _ _ (w_ne t (by omega) (by omega))] at ih
   exact ih
  ·have h0 : i = 0 := by omega
   subst h0
   refine spec_j1 t ho 0 hi hl _ _ (by omega) ?_
   simp only [List.take_zero, List.map_nil, List.nil_append] at ih ⊢
   rw [jn_one] at ih
   have e : jn [] ++ wP t[0] = wP t[0] := by apply ByteArray.ext; simp [jn_nil, ByteArray.data_append]
   rw [e]; exact ih
theorem impl_l0 (t : List S35) (ho : okPs t) (hl : t.length ≤ 6) : ∀ (d i : Nat), i + d = t.length → Ev (fun k => impl_TackleText.l0 k ((t.take i).map wP) t (t.length : Int) (i : Int)) (jn (t.map wP))
 | 0, i, hd => by
  have hs := jn_w t (i := i) (by omega)
  refine ev_succ ?_
  simp only [impl_TackleText.l0]
  refine ev_neg (by omega) (ev_now (join_some _ (by simp; omega) (by omega)) (ev_some ?_))
  rw [List.take_of_length_le (by omega)]
 | d + 1, i, hd => by
  have hi : i < t.length := by omega
  have ih := impl_l0 t ho hl d (i + 1) (by omega)
  have hp := ho _ (List.getElem_mem hi)
  obtain ⟨a1, a2, _, _⟩ := id hp
  have d0 := implDec t[i].f0 (by omega)
  have d1 := implDec t[i].f1 (by omega)
  rw [take_w t hi] at ih
  refine ev_succ ?_
  simp only [impl_TackleText.l0]
  rw [rdP hi, w64s (by omega)]
  refine ev_pos (by omega) (ev_pos (by omega) (ev_pos (by omega) ?_))
  have hn : ((t.take i).map wP).length < 8796093022208 := by simp; omega
  generalize t[i] = p at *
  have z0 := dg_size p.f0
  have z1 := dg_size p.f1
  have y1 : (⟨#[62]⟩ : ByteArray).size = 1 := rfl
  have y2 : (⟨#[60]⟩ : ByteArray).size = 1 := rfl
  refine ev_if (fun g => ?_) (fun g => ?_)
  ·have e : wP p = (dg p.f0 ++ (⟨#[62]⟩ : ByteArray)) ++ dg p.f1 := by unfold wP; rw [if_pos g]
   rw [e] at ih
   exact ev_now d0 (ev_pos (by omega) (ev_now d1 (ev_pos (by rw [ByteArray.size_append]; omega) (ev_pos hn ih))))
  ·have e : wP p = (dg p.f0 ++ (⟨#[60]⟩ : ByteArray)) ++ dg p.f1 := by unfold wP; rw [if_neg g]
   rw [e] at ih
   exact ev_now d0 (ev_pos (by omega) (ev_now d1 (ev_pos (by rw [ByteArray.size_append]; omega) (ev_pos hn ih))))
theorem key (t : List S35) (hn : t.length ≤ 1048576) : ∃ r : ByteArray, Ev (fun k => spec_TackleText.f k t) r ∧ Ev (fun k => impl_TackleText.f k t) r := by
 have es := l05Ok_ev t (by omega)
 have ei := validTackle_ev t
 by_cases h : okT t
 ·rw [ofd1 h] at es ei
  have s := spec_l0 t h.1 h.2.2 t.length 0 (by omega)
  have i := impl_l0 t h.1 h.2.2 t.length 0 (by omega)
  refine ⟨jn (t.map wP), ?_, ?_⟩
  ·simp only [spec_TackleText.f, spec_l05Text.f]
   exact Ev.bind es (ev_pos (by trivial) (Ev.bind s (Ev.now _)))
  ·simp only [impl_TackleText.f]
   exact Ev.bind ei (ev_pos (by trivial) i)
 ·rw [ofd h] at es ei
  refine ⟨⟨#[]⟩, ?_, ?_⟩
  ·simp only [spec_TackleText.f]
   exact Ev.bind es (ev_neg (by simp) (Ev.now _))
  ·simp only [impl_TackleText.f]
   exact Ev.bind ei (ev_neg (by simp) (Ev.now _))

theorem one_ev (c : List Int) (at_ sd n : Int) (m : Nat) (h : Sr c at_ (m + 2)) : ∃ (b : Bool) (a' s' : Int), spec_l00Src_one.f c at_ sd n = some (b, a', s') ∧ Sr c a' m := by
 obtain ⟨q, b', t', e', q0, q1, hs'⟩ := pick_ev c at_ sd n m h
 unfold spec_l00Src_one.f
 rw [e', Option.bind_some]
 exact ⟨_, _, _, rfl, hs'⟩
theorem newOk_ev (c : List Int) (at_ sd : Int) (m : Nat) (h : Sr c at_ (m + 4)) :
  ∃ x y z a' s', spec_l05New.f c at_ sd = some (x, y, z, a', s') ∧ okP (⟨x, y, z⟩ : S35) ∧ Sr c a' m := by
 obtain ⟨r, a', s', e, r0, r1, hs⟩ := pick_ev c at_ sd 8 (m + 2) h
 obtain ⟨q, b', t', e', q0, q1, hs'⟩ := pick_ev c a' s' 2 m hs
 unfold spec_l05New.f spec_l00Src_one.f
 rw [e, Option.bind_some, e', Option.bind_some, Option.bind_some]
 have h8 : r = 0 ∨ r = 1 ∨ r = 2 ∨ r = 3 ∨ r = 4 ∨ r = 5 ∨ r = 6 ∨ r = 7 := by omega
 by_cases hq : (q == 0) = true
 ·rw [if_pos hq]
  refine ⟨_, _, _, _, _, rfl, ?_, hs'⟩
  dsimp only
  rcases h8 with rfl | rfl | rfl | rfl | rfl | rfl | rfl | rfl <;> exact of_decide_eq_true (by kernel_rfl)
 ·rw [if_neg hq]
  refine ⟨_, _, _, _, _, rfl, ?_, hs'⟩
  dsimp only
  rcases h8 with rfl | rfl | rfl | rfl | rfl | rfl | rfl | rfl <;> exact of_decide_eq_true (by kernel_rfl)
theorem drawOk_l0 (c : List Int) (m : Nat) : ∀ (d : Nat) (out : List S35) (at_ sd : Int), okPs out → out.length + d ≤ 100 → Sr c at_ (m + 4 * d) →
  ∃ (t : List S35) (a' s' : Int), Ev (fun k => spec_l05Draw.l0 k out (d : Int) c at_ sd) (t, a', s') ∧ t.length = out.length + d ∧ okPs t ∧ Sr c a' m
 | 0, out, at_, sd, ho, _, hs => by
  refine ⟨out, at_, sd, ev_succ ?_, by omega, ho, hs⟩
  simp only [spec_l05Draw.l0]
  exact ev_neg (by omega) (Ev.now _)
 | d + 1, out, at_, sd, ho, h1, hs => by
  obtain ⟨x, y, z, a', s', e, hp, hs'⟩ := newOk_ev c at_ sd (m + 4 * d) (hs.less (by omega))
  obtain ⟨t, a2, s2, e2, e3, e5, e4⟩ := drawOk_l0 c m d (out ++ [⟨x, y, z⟩]) a' s' (fun q hq => by
   rcases List.mem_append.1 hq with g | g
   ·exact ho q g
   ·rw [List.mem_singleton.1 g]; exact hp) (by simp; omega) hs'
  refine ⟨t, a2, s2, ev_succ ?_, by simp at e3; omega, e5, e4⟩
  simp only [spec_l05Draw.l0]
  rw [w64 (x := ((d + 1 : Nat) : Int) - 1) (by omega) (by omega), show ((d + 1 : Nat) : Int) - 1 = (d : Int) by omega]
  exact ev_pos (by omega) (ev_now e (ev_pos (by omega) e2))
theorem drawOk_ev (c : List Int) (m : Nat) (at_ sd : Int) (h : Sr c at_ (m + 14)) :
  ∃ (t : List S35) (a' s' : Int), Ev (fun k => spec_l05Draw.f k c at_ sd) (t, a', s') ∧ (1 ≤ t.length ∧ t.length ≤ 3) ∧ okPs t ∧ Sr c a' m := by
 obtain ⟨r, a', s', e, r0, r1, hs⟩ := pick_ev c at_ sd 3 (m + 12) h
 obtain ⟨d, hd⟩ : ∃ d : Nat, 1 + r = (d : Int) := ⟨(1 + r).toNat, by omega⟩
 obtain ⟨t, a2, s2, e2, e3, e5, e4⟩ := drawOk_l0 c m d [] a' s' (fun q hq => by cases hq) (by simp; omega) (hs.less (by omega))
 refine ⟨t, a2, s2, ?_, by simp at e3; omega, e5, e4⟩
 simp only [spec_l05Draw.f]
 refine ev_now e ?_
 rw [w64 (x := 1 + r) (by omega) (by omega), hd]
 exact e2
theorem withT_ev (c : List Int) (h : Sr c 0 100) : ∃ (t : List S35) (w : Int), Ev (fun k => spec_l05With.f k c) (t, w) ∧ t.length ≤ 7 := by
 obtain ⟨t, a1, s1, e1, l1, h1⟩ := bentT_ev c 40 0 0 h
 obtain ⟨b, a2, s2, e2, h2⟩ := one_ev c a1 s1 8 38 h1
 simp only [spec_l05With.f]
 cases b with
 | true =>
  obtain ⟨z, a4, s4, e4, _, h4⟩ := among_ev c a2 s2 36 h2 [(-1), 0, 100000, 100001, (-9223372036854775808)] (by simp)
  exact ⟨t, z, ev_now rfl (Ev.bind e1 (ev_now e2 (ev_pos rfl (ev_now e4 (Ev.now _))))), l1⟩
 | false =>
  obtain ⟨z, a4, s4, e4, _, _, h4⟩ := pick_ev c a2 s2 500 36 h2
  exact ⟨t, z, ev_now rfl (Ev.bind e1 (ev_now e2 (ev_neg (by simp) (ev_now e4 (Ev.now _))))), l1⟩
theorem anyT_ev (c : List Int) (h : Sr c 0 100) : ∃ (p : S35), Ev (fun k => spec_DrawTurnPurchase.f k c) (p.f0, p.f1, p.f2) := by
 obtain ⟨t, a1, s1, e1, l1, h1⟩ := bentT_ev c 40 0 0 h
 simp only [spec_DrawTurnPurchase.f, spec_l05Any.f]
 by_cases h0 : (t.length : Int) = 0
 ·exact ⟨⟨0, 0, false⟩, ev_now rfl (Ev.bind (Ev.bind e1 (ev_pos h0 (Ev.now _))) (Ev.now _))⟩
 ·exact ⟨rd_T35 t 0, ev_now rfl (Ev.bind (Ev.bind e1 (ev_neg h0 (ev_pos (by show (0 : Int) < (t.length : Int); omega) (Ev.now _)))) (Ev.now _))⟩
theorem textT_ev (t : List S35) (ho : okPs t) (hl : t.length ≤ 6) : Ev (fun k => spec_l05Text.f k t) (jn (t.map wP)) := by
 simp only [spec_l05Text.f]
 exact spec_l0 t ho hl t.length 0 (by omega)
theorem srcText_ev (c : List Int) (at_ sd : Int) (m : Nat) (h : Sr c at_ (m + 2)) (l : List ByteArray) (hl : 1 ≤ l.length) :
  ∃ r a' s', spec_l00Src_text.f c at_ sd l = some (r, a', s') ∧ r ∈ l ∧ Sr c a' m := by
 obtain ⟨r, a', s', e, r0, r1, hs⟩ := pick_ev c at_ sd (l.length : Int) m h
 have hr : r < (l.length : Int) := by omega
 unfold spec_l00Src_text.f
 rw [e, Option.bind_some, if_pos r0, if_pos hr]
 obtain ⟨n, rfl⟩ := Int.eq_ofNat_of_zero_le r0
 have hn : n < l.length := by omega
 refine ⟨_, _, _, rfl, ?_, hs⟩
 unfold rdOf; simp [List.getD_eq_getElem?_getD, hn]
theorem bt_tl (a : ByteArray) : a.toList = a.data.toList := by simpa using ByteArray.toList_eq a
theorem spoil_ev (c : List Int) (at_ sd : Int) (m : Nat) (h : Sr c at_ (m + 6)) (a : ByteArray) (ha : a.size ≤ 1000) :
  ∃ r a' s', spec_l01Spoil.f c at_ sd a = some (r, a', s') ∧ r.size ≤ 3000 := by
 obtain ⟨q, a1, s1, e1, q0, q1, h1⟩ := pick_ev c at_ sd 5 (m + 4) h
 unfold spec_l01Spoil.f
 rw [e1, Option.bind_some]
 by_cases c0 : q = 0
 ·rw [if_pos c0, w64 (x := (a.size : Int) + 1) (by omega) (by omega)]
  obtain ⟨i, a2, s2, e2, i0, i1, h2⟩ := pick_ev c a1 s1 ((a.size : Int) + 1) (m + 2) h1
  rw [e2, Option.bind_some, if_pos i0, if_pos (by show i ≤ (a.size : Int); omega)]
  obtain ⟨x, a3, s3, e3, hx, h3⟩ := srcText_ev c a2 s2 m h2 [(⟨#[32]⟩ : ByteArray), (⟨#[48]⟩ : ByteArray), (⟨#[45]⟩ : ByteArray), (⟨#[120]⟩ : ByteArray), (⟨#[49]⟩ : ByteArray), (⟨#[57]⟩ : ByteArray), (⟨#[46]⟩ : ByteArray)] (by simp)
  have hx1 : x.size = 1 := by
   simp only [List.mem_cons, List.not_mem_nil, or_false] at hx
   rcases hx with rfl | rfl | rfl | rfl | rfl | rfl | rfl <;> rfl
  rw [e3, Option.bind_some]
  have z1 : (a.extract 0 i.toNat).size ≤ 1000 := by rw [ByteArray.size_extract]; omega
  have z2 : (a.extract i.toNat a.size).size ≤ 1000 := by rw [ByteArray.size_extract]; omega
  rw [if_pos (by show (a.extract 0 i.toNat).size + x.size ≤ _; omega), if_pos (by show ((a.extract 0 i.toNat) ++ x).size + (a.extract i.toNat a.size).size ≤ _; rw [ByteArray.size_append]; omega)]
  exact ⟨_, _, _, rfl, by dsimp only; rw [ByteArray.size_append, ByteArray.size_append]; omega⟩
 ·rw [if_neg c0]
  by_cases c1 : q = 1
  ·rw [if_pos c1]
   by_cases c2 : a.toList = ([] : List UInt8)
   ·rw [if_pos c2]; exact ⟨_, _, _, rfl, by omega⟩
   ·rw [if_neg c2]
    obtain ⟨i, a2, s2, e2, i0, i1, h2⟩ := pick_ev c a1 s1 (a.size : Int) (m + 2) h1
    have hz : 1 ≤ a.size := by
     apply Nat.one_le_iff_ne_zero.2
     intro z
     apply c2
     have := Go.Lib.size_eq a
     rw [z] at this
     rw [bt_tl]
     exact List.length_eq_zero_iff.1 this.symm
    rw [e2, Option.bind_some, if_pos i0, if_pos (by show i ≤ (a.size : Int); omega), w64 (x := i + 1) (by omega) (by omega), if_pos (by show (0 : Int) ≤ i + 1; omega), if_pos (by show i + 1 ≤ (a.size : Int); omega)]
    have z1 : (a.extract 0 i.toNat).size ≤ 1000 := by rw [ByteArray.size_extract]; omega
    have z2 : (a.extract (i + 1).toNat a.size).size ≤ 1000 := by rw [ByteArray.size_extract]; omega
    rw [if_pos (by show (a.extract 0 i.toNat).size + (a.extract (i + 1).toNat a.size).size ≤ _; omega)]
    exact ⟨_, _, _, rfl, by dsimp only; rw [ByteArray.size_append]; omega⟩
  ·rw [if_neg c1]; exact ⟨_, _, _, rfl, by omega⟩
theorem jn_wP (t : List S35) : (jn (t.map wP)).size ≤ 4 * t.length := by
 have := jn_w t (i := t.length) (Nat.le_refl _)
 rwa [List.take_length] at this
theorem drawRead_ev (c : List Int) (h : Sr c 0 100) : ∃ x : ByteArray, Ev (fun k => spec_DrawReadTackle.f k c) x ∧ x.size ≤ 3000 := by
 obtain ⟨t, a1, s1, e1, l1, ho, h1⟩ := drawOk_ev c 86 0 0 h
 have e2 := textT_ev t ho (by omega)
 have z := jn_wP t
 obtain ⟨b, a2, s2, e3, h2⟩ := one_ev c a1 s1 3 84 h1
 simp only [spec_DrawReadTackle.f]
 cases b with
 | true =>
  obtain ⟨r, a3, s3, e4, hr⟩ := spoil_ev c a2 s2 78 h2 (jn (t.map wP)) (by omega)
  exact ⟨r, ev_now rfl (Ev.bind e1 (Ev.bind e2 (ev_now e3 (ev_pos rfl (ev_now e4 (Ev.now _)))))), hr⟩
 | false => exact ⟨jn (t.map wP), ev_now rfl (Ev.bind e1 (Ev.bind e2 (ev_now e3 (ev_neg (by simp) (Ev.now _))))), by omega⟩
theorem drawSame_ev (c : List Int) (h : Sr c 0 100) : ∃ a b : List S35, Ev (fun k => spec_DrawSameTackle.f k c) (a, b) ∧ a.length ≤ 100 ∧ b.length ≤ 100 := by
 obtain ⟨t, a1, s1, e1, l1, ho, h1⟩ := drawOk_ev c 86 0 0 h
 obtain ⟨b1, a2, s2, e2, h2⟩ := one_ev c a1 s1 2 84 h1
 simp only [spec_DrawSameTackle.f]
 have hl : ([] : List S35).length + t.length < 5864062014805 := by simp; omega
 cases b1 with
 | true =>
  obtain ⟨q, a3, s3, e3, _, _, h3⟩ := pick_ev c a2 s2 2 82 h2
  obtain ⟨b2, a4, s4, e4, h4⟩ := one_ev c a3 s3 5 80 h3
  cases b2 with
  | true => exact ⟨t, _, ev_now rfl (Ev.bind e1 (ev_now rfl (ev_pos hl (ev_now rfl (ev_now e2 (ev_pos rfl (ev_pos (by simp; omega) (ev_now e3 (ev_now rfl (ev_now e4 (ev_pos rfl (ev_pos (by simp; omega) (Ev.now _))))))))))))), by omega, by simp; omega⟩
  | false => exact ⟨t, _, ev_now rfl (Ev.bind e1 (ev_now rfl (ev_pos hl (ev_now rfl (ev_now e2 (ev_pos rfl (ev_pos (by simp; omega) (ev_now e3 (ev_now rfl (ev_now e4 (ev_neg (by simp) (Ev.now _)))))))))))), by omega, by simp; omega⟩
 | false =>
  obtain ⟨b2, a4, s4, e4, h4⟩ := one_ev c a2 s2 5 82 h2
  cases b2 with
  | true => exact ⟨t, _, ev_now rfl (Ev.bind e1 (ev_now rfl (ev_pos hl (ev_now rfl (ev_now e2 (ev_neg (by simp) (ev_now e4 (ev_pos rfl (ev_pos (by simp; omega) (Ev.now _)))))))))), by omega, by simp; omega⟩
  | false => exact ⟨t, _, ev_now rfl (Ev.bind e1 (ev_now rfl (ev_pos hl (ev_now rfl (ev_now e2 (ev_neg (by simp) (ev_now e4 (ev_neg (by simp) (Ev.now _))))))))), by omega, by simp; omega⟩

def splW : List UInt8 → List (List UInt8)
 | [] => [[]]
 | c :: cs => if c = 32 then [] :: splW cs else match splW cs with
  | [] => [[c]]
  | w :: ws => (c :: w) :: ws
theorem splW_ne : ∀ l, splW l ≠ []
 | [] => by simp [splW]
 | c :: cs => by
  unfold splW
  split
  ·simp
  ·split <;> simp
theorem index_cons (c : UInt8) (cs : List UInt8) : Go.Lib.index (c :: cs) [32] = if c = 32 then 0 else if Go.Lib.index cs [32] = -1 then -1 else Go.Lib.index cs [32] + 1 := by
 conv => lhs; unfold Go.Lib.index
 by_cases h : c = 32
 ·subst h
  simp
 ·have h2 : (32 : UInt8) ≠ c := fun e => h e.symm
  have h1 : List.isPrefixOf [(32 : UInt8)] (c :: cs) = false := by simp [List.isPrefixOf, h2]
  rw [h1, if_neg h]
  simp
theorem splitK_W : ∀ l : List UInt8, Go.Lib.splitK [32] 0 (Go.Lib.count l [32]) l = splW l
 | [] => rfl
 | c :: cs => by
  have ih := splitK_W cs
  have hi := index_cons c cs
  by_cases h : c = 32
  ·rw [if_pos h] at hi
   have hc : Go.Lib.count (c :: cs) [32] = 1 + Go.Lib.count cs [32] := by
    have := Go.Lib.count_hit (s := c :: cs) (sub := [32]) (i := 0) (by simp) hi
    simpa using this
   rw [hc, Nat.add_comm]
   unfold Go.Lib.splitK splW
   rw [hi, if_pos h, ← ih]
   simp
  ·rw [if_neg h] at hi
   have hge := Go.Lib.index_ge cs [32]
   by_cases hm : Go.Lib.index cs [32] = -1
   ·rw [if_pos hm] at hi
    have hc : Go.Lib.count (c :: cs) [32] = 0 := Go.Lib.count_miss hi
    have hc2 : Go.Lib.count cs [32] = 0 := Go.Lib.count_miss hm
    rw [hc2] at ih
    rw [hc]
    have ih : [cs] = splW cs := ih
    unfold splW
    rw [if_neg h, ← ih]
    rfl
   ·rw [if_neg hm] at hi
    obtain ⟨i, hx⟩ : ∃ i : Nat, Go.Lib.index cs [32] = (i : Int) := ⟨(Go.Lib.index cs [32]).toNat, by omega⟩
    rw [hx] at hi
    have hi : Go.Lib.index (c :: cs) [32] = ((i + 1 : Nat) : Int) := by rw [hi]; omega
    have c1 : Go.Lib.count (c :: cs) [32] = 1 + Go.Lib.count (cs.drop (i + 1)) [32] := by
     have := Go.Lib.count_hit (s := c :: cs) (sub := [32]) (i := i + 1) (by simp) hi
     simpa using this
    have c2 : Go.Lib.count cs [32] = 1 + Go.Lib.count (cs.drop (i + 1)) [32] := by
     have := Go.Lib.count_hit (s := cs) (sub := [32]) (i := i) (by simp) hx
     simpa using this
    rw [c2, Nat.add_comm] at ih
    rw [c1, Nat.add_comm]
    unfold Go.Lib.splitK at ih
    rw [hx] at ih
    have e1 : (((i : Nat) : Int) == -1) = false := by rw [beq_eq_false_iff_ne]; omega
    rw [e1] at ih
    unfold Go.Lib.splitK splW
    rw [hi, if_neg h, ← ih]
    have e2 : (((i + 1 : Nat) : Int) == -1) = false := by rw [beq_eq_false_iff_ne]; omega
    rw [e2]
    simp

def ba (l : List UInt8) : ByteArray := ⟨l.toArray⟩
theorem ba_self (x : ByteArray) : ba x.data.toList = x := by apply ByteArray.ext; simp [ba]
theorem ba_list (l : List UInt8) : (ba l).data.toList = l := by simp [ba]
theorem ba_ext {x y : ByteArray} (h : x.data.toList = y.data.toList) : x = y := by rw [← ba_self x, h, ba_self]
theorem bt_list {x : ByteArray} {i : Nat} (h : i < x.data.toList.length) : bt x (i : Int) = (x.data.toList[i].toNat : Int) := by
 have hs : (i : Int).toNat < x.size := by rw [Go.Lib.size_eq]; simpa using h
 unfold bt
 rw [dif_pos hs]
 rfl
theorem ext_ba (x : ByteArray) (a b : Nat) (hb : b ≤ x.size) : x.extract a b = ba ((x.data.toList.take b).drop a) := by
 apply ba_ext
 rw [ba_list, Go.Lib.extract_data]
 simp [List.drop_take]
theorem specSplit_l0 (x : ByteArray) (hx : x.size ≤ 1048576) : ∀ (d i f : Nat) (out : List ByteArray), i + d = x.size → f ≤ i → out.length ≤ i →
  ∃ w ws, splW (x.data.toList.drop i) = w :: ws ∧ Ev (fun k => spec_l01Split.l0 k x 32 out (f : Int) (i : Int)) (out ++ ba ((x.data.toList.take i).drop f ++ w) :: ws.map ba)
 | 0, i, f, out, hd, hf, ho => by
  have hs := Go.Lib.size_eq x
  have e : x.data.toList.drop i = [] := by rw [List.drop_eq_nil_iff]; omega
  refine ⟨[], [], by rw [e]; rfl, ev_succ ?_⟩
  simp only [spec_l01Split.l0]
  refine ev_neg (by omega) (ev_pos (by omega) (ev_pos (by omega) (ev_pos (by omega) (ev_some ?_))))
  rw [List.append_nil, Int.toNat_natCast, ext_ba x f x.size (Nat.le_refl _), show i = x.size by omega]
  rfl
 | d + 1, i, f, out, hd, hf, ho => by
  have hs := Go.Lib.size_eq x
  have hi : i < x.data.toList.length := by omega
  have hb := bt_list hi
  have hdrop : x.data.toList.drop i = x.data.toList[i] :: x.data.toList.drop (i + 1) := List.drop_eq_getElem_cons hi
  by_cases c : x.data.toList[i] = 32
  ·obtain ⟨w, ws, e1, e2⟩ := specSplit_l0 x hx d (i + 1) (i + 1) (out ++ [x.extract f i]) (by omega) (Nat.le_refl _) (by simp; omega)
   refine ⟨[], w :: ws, by rw [hdrop, splW, if_pos c, e1], ev_succ ?_⟩
   simp only [spec_l01Split.l0]
   rw [w64s (i := i) (by omega), Int.toNat_natCast, Int.toNat_natCast]
   refine ev_pos (by omega) (ev_pos (by omega) (ev_pos (by rw [hb, c]; rfl) (ev_pos (by omega) (ev_pos (by omega) (ev_pos (by omega) (ev_pos (by omega) ?_))))))
   have e3 : (x.data.toList.take (i + 1)).drop (i + 1) = [] := by rw [List.drop_eq_nil_iff]; simp; omega
   rw [e3, List.nil_append] at e2
   rw [ext_ba x f i (by omega)] at e2 ⊢
   rw [List.append_nil, List.map_cons]
   simpa [List.append_assoc] using e2
  ·obtain ⟨w, ws, e1, e2⟩ := specSplit_l0 x hx d (i + 1) f out (by omega) (by omega) (by omega)
   refine ⟨x.data.toList[i] :: w, ws, by rw [hdrop, splW, if_neg c, e1], ev_succ ?_⟩
   simp only [spec_l01Split.l0]
   rw [w64s (i := i) (by omega)]
   refine ev_pos (by omega) (ev_pos (by omega) (ev_neg ?_ ?_))
   ·rw [hb]
    intro h
    apply c
    apply UInt8.toNat_inj.mp
    have : (x.data.toList[i]).toNat = 32 := by omega
    rw [this]; rfl
   ·have e3 : (x.data.toList.take (i + 1)).drop f = (x.data.toList.take i).drop f ++ [x.data.toList[i]] := by
     rw [List.take_add_one, List.getElem?_eq_getElem hi, List.drop_append_of_le_length (by simp; omega)]
     rfl
    rw [e3, List.append_assoc] at e2
    exact e2
theorem specSplit_ev (x : ByteArray) (hx : x.size ≤ 1048576) : Ev (fun k => spec_l01Split.f k x 32) ((splW x.data.toList).map ba) := by
 obtain ⟨w, ws, e1, e2⟩ := specSplit_l0 x hx x.size 0 0 [] (by omega) (Nat.le_refl _) (by simp)
 rw [List.drop_zero] at e1
 simp only [spec_l01Split.f]
 rw [e1]
 simpa using e2
theorem implSplit_eq (x : ByteArray) (hx : x.size ≤ 1048576) : strings_Split.f x (⟨#[32]⟩ : ByteArray) = some ((splW x.data.toList).map ba) := by
 unfold strings_Split.f
 rw [if_pos (by omega), if_pos (by decide)]
 have h := Go.Lib.splitB_data (⟨#[32]⟩ : ByteArray) 0 (Go.Lib.countB x (⟨#[32]⟩ : ByteArray)) x
 have h2 : Go.Lib.splitK [32] 0 (Go.Lib.countB x (⟨#[32]⟩ : ByteArray)) x.data.toList = splW x.data.toList := splitK_W x.data.toList
 have h3 : (⟨#[32]⟩ : ByteArray).data.toList = [32] := rfl
 rw [h3, h2] at h
 rw [← h, List.map_map]
 congr 1
 symm
 rw [List.map_congr_left (g := id) (fun y _ => by simp [ba_self])]
 simp
theorem splW_len : ∀ l, (splW l).length ≤ l.length + 1
 | [] => by simp [splW]
 | c :: cs => by
  have ih := splW_len cs
  unfold splW
  split
  ·simp; omega
  ·split
   ·simp
   ·rename_i e
    rw [e] at ih
    simp at ih ⊢; omega

theorem bt_rng (s : ByteArray) (i : Int) : 0 ≤ bt s i ∧ bt s i ≤ 255 := by
 unfold bt
 by_cases h : i.toNat < s.size
 ·rw [dif_pos h]
  have := UInt8.toNat_lt (s[i.toNat]'h)
  omega
 ·rw [dif_neg h]; omega

theorem p18 : ∀ i : Fin 19, (10 : Int) ^ i.val ≤ 1000000000000000000 := by decide
theorem decOf (n : Int) (h0 : -9223372036854775808 ≤ n) (h1 : n ≤ 9223372036854775807) : impl_Decimal.f n = some (ba (Go.Lib.itoa n)) := by
 unfold impl_Decimal.f; rw [if_pos h0, if_pos h1]; rfl
theorem dec_l0 (t g : ByteArray) (hg : g.size ≤ 18) : ∀ (d i : Nat) (n : Int), i + d = g.size → 0 ≤ n → n < 10 ^ i →
  ∃ r : Int × Bool, Ev (fun k => impl_ReadDecimal.l0 k t g n (i : Int)) r ∧ (r.2 = true → t.data.toList = Go.Lib.itoa r.1)
 | 0, i, n, hd, h0, h1 => by
  have hp := p18 ⟨i, by omega⟩
  have hp : (10 : Int) ^ i ≤ 1000000000000000000 := hp
  have hn : wrap64 (-n) = -n := w64 (by omega) (by omega)
  have key : ∀ m : Int, -9223372036854775808 ≤ m → m ≤ 9223372036854775807 → ∃ r : Int × Bool, Ev (fun k => (impl_Decimal.f m).bind fun t133 => (if t133.toList = t.toList then (some (m, true)) else (some (0, false)))) r ∧ (r.2 = true → t.data.toList = Go.Lib.itoa r.1) := by
   intro m m0 m1
   by_cases e : (ba (Go.Lib.itoa m)).toList = t.toList
   ·refine ⟨(m, true), ev_now (decOf m m0 m1) (ev_pos e (Ev.now _)), fun _ => ?_⟩
    rw [Go.Lib.toList_data, Go.Lib.toList_data, ba_list] at e
    exact e.symm
   ·exact ⟨(0, false), ev_now (decOf m m0 m1) (ev_neg e (Ev.now _)), fun h => by cases h⟩
  by_cases c : (g.size : Int) < (t.size : Int)
  ·obtain ⟨r, e1, e2⟩ := key (-n) (by omega) (by omega)
   refine ⟨r, ev_succ ?_, e2⟩
   simp only [impl_ReadDecimal.l0]
   rw [hn]
   exact ev_neg (by omega) (ev_pos c e1)
  ·obtain ⟨r, e1, e2⟩ := key n (by omega) (by omega)
   refine ⟨r, ev_succ ?_, e2⟩
   simp only [impl_ReadDecimal.l0]
   exact ev_neg (by omega) (ev_neg c e1)
 | d + 1, i, n, hd, h0, h1 => by
  have hp : (10 : Int) ^ (i + 1) ≤ 1000000000000000000 := p18 ⟨i + 1, by omega⟩
  have hb := bt_rng g (i : Int)
  by_cases c1 : bt g (i : Int) < 48
  ·refine ⟨(0, false), ev_succ ?_, fun h => by cases h⟩
   simp only [impl_ReadDecimal.l0]
   exact ev_pos (by omega) (ev_pos (by omega) (ev_pos c1 (Ev.now _)))
  by_cases c2 : bt g (i : Int) > 57
  ·refine ⟨(0, false), ev_succ ?_, fun h => by cases h⟩
   simp only [impl_ReadDecimal.l0]
   exact ev_pos (by omega) (ev_pos (by omega) (ev_neg c1 (ev_pos c2 (Ev.now _))))
  have hm : (bt g (i : Int) - 48) % 256 = bt g (i : Int) - 48 := by omega
  rw [Int.pow_succ] at hp
  obtain ⟨r, e1, e2⟩ := dec_l0 t g hg d (i + 1) (10 * n + (bt g (i : Int) - 48)) (by omega) (by omega) (by rw [Int.pow_succ]; omega)
  refine ⟨r, ev_succ ?_, e2⟩
  simp only [impl_ReadDecimal.l0]
  rw [hm, w64 (x := 10 * n) (by omega) (by omega), w64 (x := 10 * n + (bt g (i : Int) - 48)) (by omega) (by omega), w64s (by omega)]
  exact ev_pos (by omega) (ev_pos (by omega) (ev_neg c1 (ev_neg c2 e1)))
theorem dec_ev (t : ByteArray) : ∃ r : Int × Bool, Ev (fun k => impl_ReadDecimal.f k t) r ∧ (r.2 = true → t.data.toList = Go.Lib.itoa r.1) := by
 simp only [impl_ReadDecimal.f]
 have hp : strings_TrimPrefix.f t (⟨#[45]⟩ : ByteArray) = some (ba (Go.Lib.trimPrefix t.data.toList [45])) := rfl
 generalize ba (Go.Lib.trimPrefix t.data.toList [45]) = g at hp
 have jt : Ev (fun k => impl_ReadDecimal.j0 k t g true) (0, false) := by
  refine ev_succ ?_; simp only [impl_ReadDecimal.j0]; exact ev_pos (by trivial) (Ev.now _)
 by_cases c1 : (g.size : Int) < 1
 ·exact ⟨(0, false), ev_now hp (ev_pos c1 jt), fun h => by cases h⟩
 by_cases c2 : (g.size : Int) > 18
 ·refine ⟨(0, false), ev_now hp (ev_neg c1 ?_), fun h => by cases h⟩
  rw [decide_eq_true c2]; exact jt
 ·obtain ⟨r, e1, e2⟩ := dec_l0 t g (by omega) g.size 0 0 (by omega) (by omega) (by simp)
  refine ⟨r, ev_now hp (ev_neg c1 ?_), e2⟩
  rw [decide_eq_false c2]
  refine ev_succ ?_; simp only [impl_ReadDecimal.j0]
  exact ev_neg (by simp) e1
theorem dec_digit (t : ByteArray) (d : Nat) (hd : d < 10) (ht : t.data.toList = [UInt8.ofNat (48 + d)]) : Ev (fun k => impl_ReadDecimal.f k t) ((d : Int), true) := by
 have hs : t.size = 1 := by rw [Go.Lib.size_eq, ht]; rfl
 have hb : bt t 0 = ((48 + d : Nat) : Int) := by
  have := bt_list (x := t) (i := 0) (by rw [ht]; simp)
  have e : t.data.toList[0]'(by rw [ht]; simp) = UInt8.ofNat (48 + d) := by simp [ht]
  rw [e] at this
  rw [show ((0 : Nat) : Int) = 0 from rfl] at this
  rw [this, UInt8.toNat_ofNat']
  congr 1
  omega
 have htrim : Go.Lib.trimPrefix t.data.toList [45] = t.data.toList := by
  rw [ht]
  have : d = 0 ∨ d = 1 ∨ d = 2 ∨ d = 3 ∨ d = 4 ∨ d = 5 ∨ d = 6 ∨ d = 7 ∨ d = 8 ∨ d = 9 := by omega
  rcases this with rfl | rfl | rfl | rfl | rfl | rfl | rfl | rfl | rfl | rfl <;> rfl
 have hi : Go.Lib.itoa (d : Int) = [UInt8.ofNat (48 + d)] := by
  unfold Go.Lib.itoa
  rw [if_neg (by omega)]
  unfold Go.Lib.decDigits
  rw [dif_pos (by omega)]
  rfl
 have hp : strings_TrimPrefix.f t (⟨#[45]⟩ : ByteArray) = some t := by
  show some (ba (Go.Lib.trimPrefix t.data.toList [45])) = some t
  rw [htrim, ba_self]
 simp only [impl_ReadDecimal.f]
 refine ev_now hp (ev_neg (by omega) ?_)
 rw [decide_eq_false (by omega)]
 refine ev_succ ?_; simp only [impl_ReadDecimal.j0]
 refine ev_neg (by simp) ?_
 refine ev_succ ?_; simp only [impl_ReadDecimal.l0]
 rw [hb]
 have e1 : wrap64 (wrap64 (10 * 0) + (((48 + d : Nat) : Int) - 48) % 256) = (d : Int) := by
  rw [w64 (x := 10 * 0) (by omega) (by omega), w64 (by omega) (by omega)]; omega
 have e2 : wrap64 (0 + 1) = 1 := by rw [w64 (by omega) (by omega)]; rfl
 rw [e1, e2]
 refine ev_pos (by omega) (ev_pos (by omega) (ev_neg (by omega) (ev_neg (by omega) ?_)))
 refine ev_succ ?_; simp only [impl_ReadDecimal.l0]
 refine ev_neg (by omega) (ev_neg (by omega) (ev_now (decOf _ (by omega) (by omega)) (ev_pos ?_ (Ev.now _))))
 rw [Go.Lib.toList_data, Go.Lib.toList_data, ba_list, hi, ht]

theorem digit_eq (x : Int) : spec_l01Digit.f x = some (decide (48 ≤ x ∧ x ≤ 57)) := by
 unfold spec_l01Digit.f
 by_cases h : x ≥ 48
 ·rw [if_pos h]; congr 1; apply decide_eq_decide.2; omega
 ·rw [if_neg h]; congr 1; symm; apply decide_eq_false; omega
def okT3 (w : ByteArray) : Prop := w.size = 3 ∧ (48 ≤ bt w 0 ∧ bt w 0 ≤ 57) ∧ (48 ≤ bt w 2 ∧ bt w 2 ≤ 57) ∧ (bt w 1 = 60 ∨ bt w 1 = 62)
instance (w : ByteArray) : Decidable (okT3 w) := inferInstanceAs (Decidable (_ ∧ (_ ∧ _) ∧ (_ ∧ _) ∧ (_ ∨ _)))
def stP (w : ByteArray) : S35 := ⟨bt w 0 - 48, bt w 2 - 48, bt w 1 == 62⟩
def tkR (L : List ByteArray) (out : List S35) : List S35 × Bool :=
 if (∀ w ∈ L, okT3 w) ∧ okT (out ++ L.map stP) then (out ++ L.map stP, true) else ([], false)
theorem tkR_step (w : ByteArray) (L : List ByteArray) (out : List S35) (h : okT3 w) : tkR (w :: L) out = tkR L (out ++ [stP w]) := by
 unfold tkR
 rw [List.map_cons, List.append_assoc]
 by_cases q : (∀ w ∈ L, okT3 w) ∧ okT (out ++ stP w :: L.map stP)
 ·rw [if_pos ⟨List.forall_mem_cons.mpr ⟨h, q.1⟩, q.2⟩, if_pos ⟨q.1, q.2⟩]; rfl
 ·rw [if_neg (fun g => q ⟨(List.forall_mem_cons.mp g.1).2, g.2⟩), if_neg (fun g => q ⟨g.1, g.2⟩)]
theorem tkR_no (w : ByteArray) (L : List ByteArray) (out : List S35) (h : ¬ okT3 w) : tkR (w :: L) out = ([], false) := by
 unfold tkR
 rw [if_neg (fun g => h (List.forall_mem_cons.mp g.1).1)]
theorem tkR_bad (p : S35) (L : List ByteArray) (out : List S35) (h : ¬ okP p) : tkR L (out ++ [p]) = ([], false) := by
 unfold tkR
 rw [if_neg (fun g => h (g.2.1 p (by simp)))]
theorem rdOfT {L : List ByteArray} {i : Nat} (h : i < L.length) : rdOf ByteArray.empty L (i : Int) = L[i] := by
 unfold rdOf; simp [List.getD_eq_getElem?_getD, h]
theorem specTk_l0 (L : List ByteArray) (hL : L.length ≤ 1048577) : ∀ (d i : Nat) (out : List S35), i + d = L.length → out.length = i →
  Ev (fun k => spec_ReadTackle.l0 k L out (i : Int)) (tkR (L.drop i) out)
 | 0, i, out, hd, ho => by
  have e : L.drop i = [] := by rw [List.drop_eq_nil_iff]; omega
  refine ev_succ ?_
  simp only [spec_ReadTackle.l0]
  rw [e]
  refine ev_neg (by omega) (Ev.bind (l05Ok_ev out (by omega)) (ev_if (fun h => ev_some ?_) (fun h => ev_some ?_)))
  ·unfold tkR; rw [if_pos ⟨fun w hw => (by cases hw), by simpa using of_decide_eq_true h⟩]; simp
  ·unfold tkR; rw [if_neg (fun g => h (decide_eq_true (by simpa using g.2)))]
 | d + 1, i, out, hd, ho => by
  have hi : i < L.length := by omega
  have hb0 := bt_rng L[i] 0
  have hb2 := bt_rng L[i] 2
  have ih := specTk_l0 L hL d (i + 1) (out ++ [stP L[i]]) (by omega) (by simp; omega)
  rw [List.drop_eq_getElem_cons hi]
  refine ev_succ ?_
  simp only [spec_ReadTackle.l0]
  rw [rdOfT hi, w64s (by omega)]
  refine ev_pos (by omega) (ev_pos (by omega) ?_)
  by_cases ok : okT3 L[i]
  ·rw [tkR_step _ _ _ ok]
   obtain ⟨o1, ⟨o2, o3⟩, ⟨o4, o5⟩, o6⟩ := ok
   have es : (⟨(bt L[i] 0 - 48) % 256, (bt L[i] 2 - 48) % 256, (bt L[i] 1 == 62)⟩ : S35) = stP L[i] := by
    unfold stP; rw [show (bt L[i] 0 - 48) % 256 = bt L[i] 0 - 48 by omega, show (bt L[i] 2 - 48) % 256 = bt L[i] 2 - 48 by omega]
   rw [es]
   refine ev_pos (by omega) (ev_pos (by omega) (ev_now (digit_eq _) (ev_pos (decide_eq_true ⟨o2, o3⟩) (ev_pos (by omega) (ev_now (digit_eq _) (ev_pos (decide_eq_true ⟨o4, o5⟩) (ev_pos (by omega) ?_)))))))
   exact ev_if (fun _ => ev_pos (by omega) ih) (fun h => ev_pos (by omega) (ev_pos (by omega) ih))
  ·rw [tkR_no _ _ _ ok]
   refine ev_if (fun h1 => ev_pos (by omega) (ev_now (digit_eq _) (ev_if (fun h2 => ev_pos (by omega) (ev_now (digit_eq _) (ev_if (fun h3 => ev_pos (by omega) ?_) (fun _ => Ev.now _)))) (fun _ => Ev.now _)))) (fun _ => Ev.now _)
   have h2 := of_decide_eq_true h2
   have h3 := of_decide_eq_true h3
   exact ev_neg (fun h => ok ⟨by omega, h2, h3, .inl h⟩) (ev_neg (fun h => ok ⟨by omega, h2, h3, .inr h⟩) (Ev.now _))
theorem indexAny_cases (c : List UInt8) : ∀ l : List UInt8, Go.Lib.indexAny l c = -1 ∧ (∀ x ∈ l, c.contains x = false) ∨ ∃ (i : Nat) (h : i < l.length), Go.Lib.indexAny l c = i ∧ c.contains l[i] = true ∧ ∀ (j : Nat) (hj : j < i), c.contains (l[j]'(by omega)) = false
 | [] => .inl ⟨rfl, fun x hx => by cases hx⟩
 | b :: l => by
  by_cases h : c.contains b = true
  ·refine .inr ⟨0, by simp, ?_, h, fun j hj => absurd hj (by omega)⟩
   unfold Go.Lib.indexAny; rw [if_pos h]; rfl
  ·have hf : c.contains b = false := by simpa using h
   rcases indexAny_cases c l with ⟨h1, h2⟩ | ⟨i, hi, h1, h2, h3⟩
   ·refine .inl ⟨?_, List.forall_mem_cons.mpr ⟨hf, h2⟩⟩
    unfold Go.Lib.indexAny; rw [if_neg h, h1]; rfl
   ·refine .inr ⟨i + 1, by simp; omega, ?_, by simpa using h2, fun j hj => ?_⟩
    ·unfold Go.Lib.indexAny; rw [if_neg h, h1, if_neg (fun e => by have := beq_iff_eq.mp e; omega)]; push_cast; rfl
    ·cases j with
     | zero => exact hf
     | succ j => simpa using h3 j (by omega)
theorem itoa_dig {n : Int} (h0 : 0 ≤ n) (h1 : n ≤ 9) : Go.Lib.itoa n = [UInt8.ofNat (48 + n.toNat)] := by
 unfold Go.Lib.itoa
 rw [if_neg (by omega)]
 unfold Go.Lib.decDigits
 rw [dif_pos (by omega)]
theorem marks_true {x : UInt8} (h : ([60, 62] : List UInt8).contains x = true) : (x.toNat : Int) = 60 ∨ (x.toNat : Int) = 62 := by
 simp at h
 rcases h with h | h
 ·left; rw [h]; rfl
 ·right; rw [h]; rfl
theorem marks_false {x : UInt8} (h : ([60, 62] : List UInt8).contains x = false) : (x.toNat : Int) ≠ 60 ∧ (x.toNat : Int) ≠ 62 := by
 simp at h
 refine ⟨fun e => h.1 (UInt8.toNat_inj.mp ?_), fun e => h.2 (UInt8.toNat_inj.mp ?_)⟩
 ·show x.toNat = 60; omega
 ·show x.toNat = 62; omega
theorem tk_word (w : ByteArray) (i : Nat) (hi : i < w.data.toList.length) (h1 : ([60, 62] : List UInt8).contains w.data.toList[i] = true) (h2 : ∀ (j : Nat) (hj : j < i), ([60, 62] : List UInt8).contains (w.data.toList[j]'(by omega)) = false) :
  ∃ (r s : Int × Bool), Ev (fun k => impl_ReadDecimal.f k (w.extract 0 i)) r ∧ Ev (fun k => impl_ReadDecimal.f k (w.extract (i + 1) w.size)) s ∧
   (okT3 w → r.2 = true ∧ s.2 = true ∧ (⟨r.1, s.1, bt w i == 62⟩ : S35) = stP w) ∧ (¬ okT3 w → r.2 = true → s.2 = true → ¬ okP (⟨r.1, s.1, bt w i == 62⟩ : S35)) := by
 have hs := Go.Lib.size_eq w
 have hbt : ∀ (j : Nat) (hj : j < w.data.toList.length), bt w (j : Int) = ((w.data.toList[j]'hj).toNat : Int) := fun j hj => bt_list hj
 have x1 : (w.extract 0 i).data.toList = w.data.toList.take i := by rw [ext_ba w 0 i (by omega), ba_list, List.drop_zero]
 have x2 : (w.extract (i + 1) w.size).data.toList = w.data.toList.drop (i + 1) := Go.Lib.extract_to_end w (i + 1)
 by_cases ok : okT3 w
 ·obtain ⟨o1, ⟨o2, o3⟩, ⟨o4, o5⟩, o6⟩ := ok
  have hl : w.data.toList.length = 3 := by omega
  have b0 := hbt 0 (by omega)
  have b1 := hbt 1 (by omega)
  have b2 := hbt 2 (by omega)
  have c0 : bt w 0 = ((w.data.toList[0]'(by omega)).toNat : Int) := b0
  have c1 : bt w 1 = ((w.data.toList[1]'(by omega)).toNat : Int) := b1
  have c2 : bt w 2 = ((w.data.toList[2]'(by omega)).toNat : Int) := b2
  have hi1 : i = 1 := by
   rcases (show i = 0 ∨ i = 1 ∨ i = 2 by omega) with rfl | rfl | rfl
   ·have := marks_true h1; omega
   ·rfl
   ·have := marks_false (h2 1 (by omega)); omega
  subst hi1
  obtain ⟨a, ha, ha9⟩ : ∃ a : Nat, bt w 0 = ((48 + a : Nat) : Int) ∧ a < 10 := ⟨(bt w 0 - 48).toNat, by omega, by omega⟩
  obtain ⟨b, hb, hb9⟩ : ∃ b : Nat, bt w 2 = ((48 + b : Nat) : Int) ∧ b < 10 := ⟨(bt w 2 - 48).toNat, by omega, by omega⟩
  have y1 : w.data.toList.take 1 = [UInt8.ofNat (48 + a)] := by
   rw [List.take_succ_eq_append_getElem (by omega), List.take_zero, List.nil_append]
   congr 1
   apply UInt8.toNat_inj.mp
   rw [UInt8.toNat_ofNat']
   omega
  have y2 : w.data.toList.drop 2 = [UInt8.ofNat (48 + b)] := by
   rw [List.drop_eq_getElem_cons (by omega), List.drop_eq_nil_iff.mpr (by omega)]
   congr 1
   apply UInt8.toNat_inj.mp
   rw [UInt8.toNat_ofNat']
   omega
  refine ⟨((a : Int), true), ((b : Int), true), dec_digit _ a ha9 (by rw [x1, y1]), dec_digit _ b hb9 (by rw [x2]; exact y2), fun _ => ⟨rfl, rfl, ?_⟩, fun g => absurd ⟨o1, ⟨o2, o3⟩, ⟨o4, o5⟩, o6⟩ g⟩
  unfold stP
  rw [show bt w 0 - 48 = (a : Int) by omega, show bt w 2 - 48 = (b : Int) by omega]
  rfl
 ·obtain ⟨r, e1, f1⟩ := dec_ev (w.extract 0 i)
  obtain ⟨s, e2, f2⟩ := dec_ev (w.extract (i + 1) w.size)
  refine ⟨r, s, e1, e2, fun g => absurd g ok, fun _ q1 q2 hp => ok ?_⟩
  obtain ⟨⟨p1, p2⟩, ⟨p3, p4⟩, _⟩ := hp
  have p1 : 0 ≤ r.1 := p1
  have p2 : r.1 ≤ 4 := p2
  have p3 : 0 ≤ s.1 := p3
  have p4 : s.1 ≤ 4 := p4
  have g1 := f1 q1
  have g2 := f2 q2
  rw [x1, itoa_dig p1 (by omega)] at g1
  rw [x2, itoa_dig p3 (by omega)] at g2
  have l1 : i = 1 := by
   have := congrArg List.length g1
   rw [List.length_take] at this
   simp at this
   omega
  subst l1
  have l2 : w.data.toList.length = 3 := by
   have := congrArg List.length g2
   rw [List.length_drop] at this
   simp only [List.length_cons, List.length_nil] at this
   omega
  have b0 : bt w 0 = ((w.data.toList[0]'(by omega)).toNat : Int) := hbt 0 (by omega)
  have b1 : bt w 1 = ((w.data.toList[1]'(by omega)).toNat : Int) := hbt 1 (by omega)
  have b2 : bt w 2 = ((w.data.toList[2]'(by omega)).toNat : Int) := hbt 2 (by omega)
  rw [List.take_succ_eq_append_getElem (by omega), List.take_zero, List.nil_append] at g1
  rw [List.drop_eq_getElem_cons (by omega)] at g2
  have u1 := (List.cons.inj g1).1
  have u2 := (List.cons.inj g2).1
  rw [u1, UInt8.toNat_ofNat'] at b0
  have u2' : (w.data.toList[2]'(by omega)) = UInt8.ofNat (48 + s.1.toNat) := u2
  rw [u2', UInt8.toNat_ofNat'] at b2
  have u3 := marks_true h1
  exact ⟨by omega, by omega, by omega, by omega⟩
theorem implTk_l0 (L : List ByteArray) (hL : L.length ≤ 1048577) (hw : ∀ w ∈ L, w.size ≤ 1048576) : ∀ (d i : Nat) (out : List S35), i + d = L.length → out.length = i →
  Ev (fun k => impl_ReadTackle.l0 k out L (L.length : Int) (i : Int)) (tkR (L.drop i) out)
 | 0, i, out, hd, ho => by
  have e : L.drop i = [] := by rw [List.drop_eq_nil_iff]; omega
  refine ev_succ ?_
  simp only [impl_ReadTackle.l0]
  rw [e]
  refine ev_neg (by omega) (Ev.bind (validTackle_ev out) (ev_if (fun h => ev_some ?_) (fun h => ev_some ?_)))
  ·unfold tkR; rw [if_pos ⟨fun w hw => (by cases hw), by simpa using of_decide_eq_true h⟩]; simp
  ·unfold tkR; rw [if_neg (fun g => h (decide_eq_true (by simpa using g.2)))]
 | d + 1, i, out, hd, ho => by
  have hi : i < L.length := by omega
  have hsz := hw L[i] (List.getElem_mem _)
  have hs := Go.Lib.size_eq L[i]
  rw [List.drop_eq_getElem_cons hi]
  refine ev_succ ?_
  simp only [impl_ReadTackle.l0]
  rw [rdOfT hi, w64s (i := i) (by omega)]
  have hx : strings_IndexAny.f L[i] (⟨#[60, 62]⟩ : ByteArray) = some (Go.Lib.indexAny L[i].data.toList [60, 62]) := by
   unfold strings_IndexAny.f; rw [if_pos (by omega), if_pos rfl]
  refine ev_pos (by omega) (ev_pos (by omega) (ev_pos (by omega) (ev_now hx ?_)))
  rcases indexAny_cases [60, 62] L[i].data.toList with ⟨h1, h2⟩ | ⟨j, hj, h1, h2, h3⟩
  ·rw [h1]
   have no : ¬ okT3 L[i] := fun ok => by
    have hl : 1 < L[i].data.toList.length := by have := ok.1; omega
    have b0 := bt_list hl
    have b1 : bt L[i] 1 = ((L[i].data.toList[1]'hl).toNat : Int) := b0
    have := marks_false (h2 _ (List.getElem_mem hl))
    have := ok.2.2.2
    omega
   rw [tkR_no _ _ _ no]
   exact ev_pos (by omega) (Ev.now _)
  ·rw [h1]
   obtain ⟨r, s, e1, e2, q1, q2⟩ := tk_word L[i] j hj h2 h3
   have hw1 : wrap64 ((j : Int) + 1) = ((j + 1 : Nat) : Int) := w64s (by omega)
   rw [hw1]
   have hjs : j < L[i].size := by omega
   clear hw1 h1 h2 h3 hx
   have t0 : ((j : Nat) : Int).toNat = j := by omega
   have t1 : (((j + 1 : Nat) : Nat) : Int).toNat = j + 1 := by omega
   rw [t0, t1]
   refine ev_neg (by omega) (ev_pos (by omega) (ev_pos (by omega) (Ev.bind e1 (ev_pos (by omega) (ev_pos (by omega) (Ev.bind e2 ?_))))))
   have ih := fun p => implTk_l0 L hL hw d (i + 1) (out ++ [p]) (by omega) (by simp; omega)
   by_cases ok : okT3 L[i]
   ·obtain ⟨a1, a2, a3⟩ := q1 ok
    rw [tkR_step _ _ _ ok, ← a3]
    exact ev_pos a1 (ev_pos a2 (ev_pos (by omega) (ev_pos (by omega) (ih _))))
   ·rw [tkR_no _ _ _ ok]
    refine ev_if (fun a1 => ev_if (fun a2 => ev_pos (by omega) (ev_pos (by omega) ?_)) (fun _ => Ev.now _)) (fun _ => Ev.now _)
    have ih := ih ⟨r.1, s.1, bt L[i] j == 62⟩
    rw [tkR_bad _ _ _ (q2 ok a1 a2)] at ih
    exact ih
theorem splW_size : ∀ (l : List UInt8), ∀ w ∈ splW l, w.length ≤ l.length
 | [] => by simp [splW]
 | c :: cs => by
  have ih := splW_size cs
  unfold splW
  split
  ·intro w hw
   rcases List.mem_cons.mp hw with rfl | hw
   ·simp
   ·have := ih w hw; simp; omega
  ·split
   ·rename_i e
    intro w hw
    simp at hw
    subst hw
    simp
   ·rename_i v vs e
    intro w hw
    rcases List.mem_cons.mp hw with rfl | hw
    ·have := ih v (by rw [e]; simp); simpa using this
    ·have := ih w (by rw [e]; simp [hw]); simp; omega
theorem tkR_len (L : List ByteArray) : (tkR L []).1.length ≤ 6 := by
 unfold tkR
 split
 ·rename_i h; exact h.2.2.2
 ·simp
theorem readTk_both (x : ByteArray) (hx : x.size ≤ 1048576) : ∃ (l : List S35) (b : Bool), l.length ≤ 6 ∧ Ev (fun k => spec_ReadTackle.f k x) (l, b) ∧ Ev (fun k => impl_ReadTackle.f k x) (l, b) := by
 have s1 := specSplit_ev x hx
 have s2 := implSplit_eq x hx
 have hl := splW_len x.data.toList
 have hs := Go.Lib.size_eq x
 have hz : ∀ w ∈ (splW x.data.toList).map ba, w.size ≤ 1048576 := by
  intro w hw
  obtain ⟨v, hv, rfl⟩ := List.mem_map.mp hw
  have := splW_size _ v hv
  rw [Go.Lib.size_eq, ba_list]
  omega
 obtain ⟨L, hL⟩ : ∃ L, L = (splW x.data.toList).map ba := ⟨_, rfl⟩
 have hn : L.length ≤ 1048577 := by rw [hL, List.length_map]; omega
 rw [← hL] at s1 s2 hz
 have e1 := specTk_l0 L hn L.length 0 [] (by omega) rfl
 have e2 := implTk_l0 L hn hz L.length 0 [] (by omega) rfl
 rw [List.drop_zero] at e1 e2
 refine ⟨(tkR L []).1, (tkR L []).2, tkR_len L, ?_, ?_⟩
 ·simp only [spec_ReadTackle.f]; exact Ev.bind s1 e1
 ·simp only [impl_ReadTackle.f]; exact ev_now s2 e2

theorem splW_app (w l : List UInt8) (h : ∀ c ∈ w, c ≠ 32) : ∃ v vs, splW l = v :: vs ∧ splW (w ++ l) = (w ++ v) :: vs := by
 induction w with
 | nil =>
  cases e : splW l with
  | nil => exact absurd e (splW_ne l)
  | cons v vs => exact ⟨v, vs, rfl, e⟩
 | cons c cs ih =>
  obtain ⟨v, vs, e1, e2⟩ := ih (fun x hx => h x (List.mem_cons_of_mem _ hx))
  refine ⟨v, vs, e1, ?_⟩
  show splW (c :: (cs ++ l)) = _
  rw [splW, if_neg (h c (List.mem_cons_self ..)), e2]
  rfl
theorem splW_one (w : List UInt8) (h : ∀ c ∈ w, c ≠ 32) : splW w = [w] := by
 obtain ⟨v, vs, e1, e2⟩ := splW_app w [] h
 have e : splW [] = [[]] := rfl
 rw [e] at e1
 obtain ⟨rfl, rfl⟩ := List.cons.inj e1
 simpa using e2
theorem splW_tail : ∀ (ws : List (List UInt8)) (w : List UInt8), (∀ c ∈ w, c ≠ 32) → (∀ x ∈ ws, ∀ c ∈ x, c ≠ 32) → splW (w ++ Go.Lib.joinTail [32] ws) = w :: ws
 | [], w, h, _ => by
  have : Go.Lib.joinTail [32] [] = ([] : List UInt8) := rfl
  rw [this, List.append_nil]; exact splW_one w h
 | x :: ws, w, h, hs => by
  have ih := splW_tail ws x (hs x (List.mem_cons_self ..)) (fun y hy => hs y (List.mem_cons_of_mem _ hy))
  have e : Go.Lib.joinTail [32] (x :: ws) = 32 :: (x ++ Go.Lib.joinTail [32] ws) := rfl
  rw [e]
  obtain ⟨v, vs, e1, e2⟩ := splW_app w (32 :: (x ++ Go.Lib.joinTail [32] ws)) h
  rw [e2]
  rw [splW, if_pos rfl, ih] at e1
  obtain ⟨rfl, rfl⟩ := List.cons.inj e1
  rw [List.append_nil]
theorem splW_jn (ws : List ByteArray) (h0 : ws ≠ []) (h : ∀ w ∈ ws, ∀ c ∈ w.data.toList, c ≠ 32) : (splW (jn ws).data.toList).map ba = ws := by
 cases ws with
 | nil => exact absurd rfl h0
 | cons a r =>
  have e : (jn (a :: r)).data.toList = a.data.toList ++ Go.Lib.joinTail [32] (r.map (·.data.toList)) := by simp [jn, Go.Lib.join_cons]
  rw [e, splW_tail _ _ (h a (List.mem_cons_self ..)) (fun x hx => by
   obtain ⟨w, hw, rfl⟩ := List.mem_map.mp hx
   exact h w (List.mem_cons_of_mem _ hw))]
  rw [List.map_cons, List.map_map, ba_self]
  congr 1
  rw [List.map_congr_left (g := id) (fun y _ => by simp [ba_self])]
  simp

theorem haul_both (t : List S35) (w : Int) (hn : t.length ≤ 1048576) : ∃ h e : Int, Ev (fun k => impl_HaulFor.f k t w) (h, e) ∧ Ev (fun k => spec_HaulFor.f k t w) (h, e) ∧ (e = 0 → h = wrap64 (w * advT t)) := by
 have ei := validTackle_ev t
 have es := l05Ok_ev t (by omega)
 simp only [impl_HaulFor.f, spec_HaulFor.f, spec_l05Way.f]
 by_cases h : okT t
 ·rw [ofd1 h] at ei es
  by_cases g : 0 ≤ w ∧ w ≤ 100000
  ·refine ⟨wrap64 (w * advT t), 0, Ev.bind ei (ev_pos (by trivial) (ev_now (within_eq _ _ _) (ev_pos (decide_eq_true g) (Ev.bind (advOf_ev t h) (Ev.now _))))), Ev.bind es (ev_pos (by trivial) (ev_now (by rw [l00In_eq, decide_eq_true g]; rfl) (ev_pos (by trivial) (Ev.bind (l05Adv_ev t h) (Ev.now _))))), fun _ => rfl⟩
  ·refine ⟨0, 2, Ev.bind ei (ev_pos (by trivial) (ev_now (within_eq _ _ _) (ev_neg (by rw [decide_eq_false g]; simp) (Ev.now _)))), Ev.bind es (ev_pos (by trivial) (ev_now (by rw [l00In_eq, decide_eq_false g]; rfl) (ev_neg (by simp) (Ev.now _)))), fun z => absurd z (by decide)⟩
 ·rw [ofd h] at ei es
  exact ⟨0, 1, Ev.bind ei (ev_neg (by simp) (Ev.now _)), Ev.bind es (ev_neg (by simp) (Ev.now _)), fun z => absurd z (by decide)⟩
theorem adv_both (t : List S35) (hn : t.length ≤ 1048576) : ∃ n e : Int, Ev (fun k => impl_AdvantageOf.f k t) (n, e) ∧ Ev (fun k => spec_AdvantageOf.f k t) (n, e) ∧ (e = 0 → okT t ∧ n = advT t) ∧ (okT t → n = advT t ∧ e = 0) := by
 have ei := validTackle_ev t
 have es := l05Ok_ev t (by omega)
 simp only [impl_AdvantageOf.f, spec_AdvantageOf.f]
 by_cases h : okT t
 ·rw [ofd1 h] at ei es
  exact ⟨advT t, 0, Ev.bind ei (ev_pos (by trivial) (Ev.bind (advOf_ev t h) (Ev.now _))), Ev.bind es (ev_pos (by trivial) (Ev.bind (l05Adv_ev t h) (Ev.now _))), fun _ => ⟨h, rfl⟩, fun _ => ⟨rfl, rfl⟩⟩
 ·rw [ofd h] at ei es
  exact ⟨0, 1, Ev.bind ei (ev_neg (by simp) (Ev.now _)), Ev.bind es (ev_neg (by simp) (Ev.now _)), fun z => absurd z (by decide), fun z => absurd z h⟩
theorem pull_both (t : List S35) (hn : t.length ≤ 1048576) : ∃ (l : List Int) (e : Int), Ev (fun k => impl_PullsOf.f k t) (l, e) ∧ Ev (fun k => spec_PullsOf.f k t) (l, e) ∧ l.length ≤ 6 ∧ (okT t → l = pullL 1 t) := by
 have ei := validTackle_ev t
 have es := l05Ok_ev t (by omega)
 simp only [impl_PullsOf.f, spec_PullsOf.f]
 by_cases h : okT t
 ·rw [ofd1 h] at ei es
  have i := pullI_l0 t h.1 h.2.2 t.length 0 [] 1 (by omega) (by simp) (by omega) (by simp)
  have s := pullS_l0 t h.1 h.2.2 t.length 0 [] 1 (by omega) (by simp) (by omega) (by simp)
  exact ⟨pullL 1 t, 0, Ev.bind ei (ev_pos (by trivial) i), Ev.bind es (ev_pos (by trivial) s), by rw [pullL_length]; exact h.2.2, fun _ => rfl⟩
 ·rw [ofd h] at ei es
  exact ⟨[], 1, Ev.bind ei (ev_neg (by simp) (Ev.now _)), Ev.bind es (ev_neg (by simp) (Ev.now _)), by simp, fun z => absurd z h⟩
theorem rope_both (t : List S35) (w : Int) (hn : t.length ≤ 1048576) : ∃ (l : List Int) (e : Int), Ev (fun k => impl_RopeLengths.f k t w) (l, e) ∧ Ev (fun k => spec_RopeLengths.f k t w) (l, e) ∧ l.length ≤ 6 := by
 have ei := validTackle_ev t
 have es := l05Ok_ev t (by omega)
 simp only [impl_RopeLengths.f, spec_RopeLengths.f, spec_l05Way.f]
 by_cases h : okT t
 ·rw [ofd1 h] at ei es
  have h6 := h.2.2
  by_cases g : 0 ≤ w ∧ w ≤ 100000
  ·have i := ropeI_l0 w g t h.1 h.2.2 t.length (Nat.le_refl _)
   have s := ropeS_l0 w g t h.1 h.2.2 t.length (Nat.le_refl _)
   rw [List.drop_length] at i s
   rw [w64 (x := (t.length : Int) - 1) (by omega) (by omega), Int.toNat_natCast]
   have i' : Ev (fun k => impl_RopeLengths.l0 k t (List.replicate t.length 0) w ((t.length : Int) - 1)) ((ropeR w t).1, 0) := by
    have e : List.replicate t.length (0 : Int) ++ (ropeR w []).1 = List.replicate t.length 0 := by simp [ropeR]
    rw [e] at i; exact i
   exact ⟨(ropeR w t).1, 0, Ev.bind ei (ev_pos (by trivial) (ev_now (within_eq _ _ _) (ev_pos (decide_eq_true g) (ev_pos (by omega) (ev_pos (by omega) i'))))), Ev.bind es (ev_pos (by trivial) (ev_now (by rw [l00In_eq, decide_eq_true g]; rfl) (ev_pos (by trivial) s))), by rw [ropeR_length]; exact h.2.2⟩
  ·exact ⟨[], 2, Ev.bind ei (ev_pos (by trivial) (ev_now (within_eq _ _ _) (ev_neg (by rw [decide_eq_false g]; simp) (Ev.now _)))), Ev.bind es (ev_pos (by trivial) (ev_now (by rw [l00In_eq, decide_eq_false g]; rfl) (ev_neg (by simp) (Ev.now _)))), by simp⟩
 ·rw [ofd h] at ei es
  exact ⟨[], 1, Ev.bind ei (ev_neg (by simp) (Ev.now _)), Ev.bind es (ev_neg (by simp) (Ev.now _)), by simp⟩
theorem turn_both (p : S35) : ∃ (q : S35) (e : Int), Ev (fun k => impl_TurnPurchase.f k p.f0 p.f1 p.f2) (q.f0, q.f1, q.f2, e) ∧ Ev (fun k => spec_TurnPurchase.f k p.f0 p.f1 p.f2) (q.f0, q.f1, q.f2, e) ∧
  (e = 0 → okP q ∧ Ev (fun k => impl_TurnPurchase.f k q.f0 q.f1 q.f2) (p.f0, p.f1, p.f2, 0)) := by
 have ei := validPurchase_ev p
 have es := l05One_ev p
 by_cases h : okP p
 ·rw [ofd1 h] at ei es
  have hq := okP_turn h
  have eq := validPurchase_ev (⟨p.f1, p.f0, !p.f2⟩ : S35)
  rw [ofd1 hq] at eq
  refine ⟨⟨p.f1, p.f0, !p.f2⟩, 0, ?_, ?_, fun _ => ⟨hq, ?_⟩⟩
  ·simp only [impl_TurnPurchase.f]; exact Ev.bind ei (ev_pos (by trivial) (Ev.now _))
  ·simp only [spec_TurnPurchase.f]; exact Ev.bind es (ev_pos (by trivial) (Ev.now _))
  ·simp only [impl_TurnPurchase.f]; exact Ev.bind eq (ev_pos (by trivial) (ev_some (by simp)))
 ·rw [ofd h] at ei es
  refine ⟨⟨0, 0, false⟩, 1, ?_, ?_, fun z => absurd z (by decide)⟩
  ·simp only [impl_TurnPurchase.f]; exact Ev.bind ei (ev_neg (by simp) (Ev.now _))
  ·simp only [spec_TurnPurchase.f]; exact Ev.bind es (ev_neg (by simp) (Ev.now _))
theorem wP_list {p : S35} (h : okP p) : (wP p).data.toList = [UInt8.ofNat (48 + p.f0.toNat), if p.f2 = true then 62 else 60, UInt8.ofNat (48 + p.f1.toNat)] := by
 unfold wP dg
 split <;> simp
theorem wP_ok {p : S35} (h : okP p) : okT3 (wP p) ∧ stP (wP p) = p := by
 have l := wP_list h
 have h1 := h.1
 have h2 := h.2.1
 have hl : (wP p).data.toList.length = 3 := by rw [l]; rfl
 have b0 : bt (wP p) 0 = 48 + p.f0 := by
  have := bt_list (x := wP p) (i := 0) (by omega)
  simp only [l] at this
  rw [show ((0 : Nat) : Int) = 0 from rfl] at this
  rw [this]
  simp only [List.getElem_cons_zero]
  rw [UInt8.toNat_ofNat']
  omega
 have b1 : bt (wP p) 1 = if p.f2 = true then 62 else 60 := by
  have := bt_list (x := wP p) (i := 1) (by omega)
  simp only [l] at this
  rw [show ((1 : Nat) : Int) = 1 from rfl] at this
  rw [this]
  simp only [List.getElem_cons_succ, List.getElem_cons_zero]
  split <;> rfl
 have b2 : bt (wP p) 2 = 48 + p.f1 := by
  have := bt_list (x := wP p) (i := 2) (by omega)
  simp only [l] at this
  rw [show ((2 : Nat) : Int) = 2 from rfl] at this
  rw [this]
  simp only [List.getElem_cons_succ, List.getElem_cons_zero]
  rw [UInt8.toNat_ofNat']
  omega
 refine ⟨⟨wP_size p, by rw [b0]; omega, by rw [b2]; omega, ?_⟩, ?_⟩
 ·rw [b1]; split
  ·right; rfl
  ·left; rfl
 ·unfold stP
  rw [b0, b1, b2, show 48 + p.f0 - 48 = p.f0 by omega, show 48 + p.f1 - 48 = p.f1 by omega]
  obtain ⟨a, b, c⟩ := p
  cases c <;> rfl
theorem wP_blank {p : S35} (h : okP p) : ∀ c ∈ (wP p).data.toList, c ≠ 32 := by
 have h1 := h.1
 have h2 := h.2.1
 intro c hc
 rw [wP_list h] at hc
 simp only [List.mem_cons, List.not_mem_nil, or_false] at hc
 have dig : ∀ n : Int, 0 ≤ n ∧ n ≤ 4 → UInt8.ofNat (48 + n.toNat) ≠ 32 := by
  intro n hn e
  have := congrArg UInt8.toNat e
  rw [UInt8.toNat_ofNat'] at this
  have h32 : (32 : UInt8).toNat = 32 := rfl
  omega
 rcases hc with rfl | rfl | rfl
 ·exact dig _ h1
 ·split <;> decide
 ·exact dig _ h2
theorem back_ev (b : List S35) (hn : b.length ≤ 1048576) : ∃ (x : ByteArray) (l : List S35) (ok : Bool), Ev (fun k => impl_TackleText.f k b) x ∧ Ev (fun k => spec_TackleText.f k b) x ∧ Ev (fun k => impl_ReadTackle.f k x) (l, ok) ∧ ok = (x.toList != ([] : List UInt8)) ∧ (ok = true → l = b) ∧ l.length ≤ 6 := by
 have ei := validTackle_ev b
 have es := l05Ok_ev b (by omega)
 have rd : ∀ x : ByteArray, x.size ≤ 1048576 → Ev (fun k => impl_ReadTackle.f k x) (tkR ((splW x.data.toList).map ba) []) := by
  intro x hx
  have s2 := implSplit_eq x hx
  have hl := splW_len x.data.toList
  have hs := Go.Lib.size_eq x
  have hz : ∀ w ∈ (splW x.data.toList).map ba, w.size ≤ 1048576 := by
   intro w hw
   obtain ⟨v, hv, rfl⟩ := List.mem_map.mp hw
   have := splW_size _ v hv
   rw [Go.Lib.size_eq, ba_list]
   omega
  have e2 := implTk_l0 ((splW x.data.toList).map ba) (by rw [List.length_map]; omega) hz _ 0 [] (Nat.zero_add _) rfl
  simp only [impl_ReadTackle.f]; exact ev_now s2 e2
 by_cases h : okT b
 ·rw [ofd1 h] at ei es
  have s := spec_l0 b h.1 h.2.2 b.length 0 (by omega)
  have i := impl_l0 b h.1 h.2.2 b.length 0 (by omega)
  have z := jn_wP b
  have h6 := h.2.2
  have hne : b.map wP ≠ [] := by
   intro e
   have g1 := congrArg List.length e
   rw [List.length_map] at g1
   have g2 := h.2.1
   simp only [List.length_nil] at g1
   omega
  have hw := splW_jn (b.map wP) hne (fun w hw => by
   obtain ⟨p, hp, rfl⟩ := List.mem_map.mp hw
   exact wP_blank (h.1 p hp))
  have r := rd (jn (b.map wP)) (by omega)
  rw [hw] at r
  have hm : (b.map wP).map stP = b := by
   rw [List.map_map]
   conv => rhs; rw [← List.map_id b]
   exact List.map_congr_left (fun p hp => (wP_ok (h.1 p hp)).2)
  have ht : tkR (b.map wP) [] = (b, true) := by
   unfold tkR
   rw [List.nil_append, hm, if_pos ⟨fun w hw => by
    obtain ⟨p, hp, rfl⟩ := List.mem_map.mp hw
    exact (wP_ok (h.1 p hp)).1, h⟩]
  rw [ht] at r
  refine ⟨jn (b.map wP), b, true, ?_, ?_, r, ?_, fun _ => rfl, h6⟩
  ·simp only [impl_TackleText.f]
   exact Ev.bind ei (ev_pos (by trivial) i)
  ·simp only [spec_TackleText.f, spec_l05Text.f]
   exact Ev.bind es (ev_pos (by trivial) (Ev.bind s (Ev.now _)))
  ·symm
   rw [bne_iff_ne]
   intro e
   have hs : (jn (b.map wP)).size = 0 := by rw [Go.Lib.size_eq, ← bt_tl, e]; rfl
   cases b with
   | nil => exact hne rfl
   | cons p b =>
    have l3 : (wP p).data.toList.length = 3 := by rw [wP_list (h.1 p (by simp))]; rfl
    have : (jn ((p :: b).map wP)).data.toList.length = 0 := by rw [← Go.Lib.size_eq]; exact hs
    simp [jn, Go.Lib.join_cons] at this
    have := this.1
    rw [this] at l3
    simp at l3
 ·rw [ofd h] at ei es
  have r := rd ⟨#[]⟩ (by decide)
  have ht : tkR ((splW (⟨#[]⟩ : ByteArray).data.toList).map ba) [] = ([], false) := by
   show tkR [ba []] [] = _
   exact tkR_no _ _ _ (fun g => absurd g.1 (by decide))
  rw [ht] at r
  refine ⟨⟨#[]⟩, [], false, ?_, ?_, r, by rw [bt_tl]; rfl, fun z => absurd z (by simp), by simp⟩
  ·simp only [impl_TackleText.f]; exact Ev.bind ei (ev_neg (by simp) (Ev.now _))
  ·simp only [spec_TackleText.f]; exact Ev.bind es (ev_neg (by simp) (Ev.now _))
theorem ev_rnd {α : Type} {g : Nat → Option α} {r : α} (h : Ev g r) : ∃ k, g k = some r := by
 obtain ⟨K, h⟩ := h
 exact ⟨K, h K (Nat.le_refl _)⟩
theorem FnTackles : laws_FnTackles.Pure := by
 intro c _ _ hc
 refine ev_rnd ?_
 simp only [laws_FnTackles.f]
 refine ev_now (show laws_f6big.f c = some (decide ((c.length : Int) > 4096)) from rfl) (ev_if (fun _ => Ev.now _) (fun _ => ?_))
 have hS := (Sr.start hc).less (m := 100) (by omega)
 obtain ⟨t, w, d1, l1⟩ := withT_ev c hS
 obtain ⟨p, d2⟩ := anyT_ev c hS
 obtain ⟨b, a1, s1, d3, l3, _⟩ := bentT_ev c 40 0 0 hS
 obtain ⟨x, d4, hx⟩ := drawRead_ev c hS
 obtain ⟨ca, cb, d5, lca, lcb⟩ := drawSame_ev c hS
 have d1a : Ev (fun k => spec_DrawHaulFor.f k c) (t, w) := by simp only [spec_DrawHaulFor.f]; exact Ev.bind d1 (Ev.now _)
 have d1b : Ev (fun k => spec_DrawRopeLengths.f k c) (t, w) := by simp only [spec_DrawRopeLengths.f]; exact Ev.bind d1 (Ev.now _)
 have d3a : Ev (fun k => spec_DrawTackleText.f k c) b := by simp only [spec_DrawTackleText.f]; exact ev_now rfl (Ev.bind d3 (Ev.now _))
 obtain ⟨hl, bad, h1, h2, h3⟩ := haul_both t w (by omega)
 obtain ⟨n, one, n1, n2, n3, n4⟩ := adv_both t (by omega)
 obtain ⟨pl, three, p1, p2, p3, p4⟩ := pull_both t (by omega)
 obtain ⟨rl, five, r1, r2, r3⟩ := rope_both t w (by omega)
 obtain ⟨q, seven, t1, t2, t3⟩ := turn_both p
 obtain ⟨tx, bk, ok, b1, b2, b3, b4, b5, b6⟩ := back_ev b (by omega)
 obtain ⟨u, nine, u1, u2, u3⟩ := readTk_both x (by omega)
 obtain ⟨nm, m1, m2⟩ := name_both p
 have sc := eqPurchase_ev ca cb (by omega)
 have ss := sameS_ev ca cb (by omega)
 have vt := validTackle_ev t
 have vs := l05Ok_ev t (by omega)
 have vp := validPurchase_ev p
 have vo := l05One_ev p
 have j1 : Ev (fun k => laws_FnTackles.j1 k t w hl bad one n pl) true := by
  refine ev_succ ?_; simp only [laws_FnTackles.j1]
  refine ev_if (fun z => ?_) (fun _ => Ev.now _)
  obtain ⟨ho, hadv⟩ := n3 z
  have hpl := p4 ho
  have hlen1 := ho.2.1
  obtain ⟨v, y, hv⟩ : ∃ (v : List S35) (y : S35), t = v ++ [y] := by
   have hne : t ≠ [] := by intro e; rw [e] at hlen1; simp at hlen1
   exact ⟨t.dropLast, t.getLast hne, (List.dropLast_concat_getLast hne).symm⟩
  have hy : okP y := ho.1 y (by rw [hv]; simp)
  have hvo : okPs v := fun z hz => ho.1 z (by rw [hv]; simp [hz])
  have hyb := partsP_bd hy
  have hab := advT_le ho
  have hoy : okT [y] := ⟨fun z hz => by rw [List.mem_singleton.1 hz]; exact hy, by simp, by simp⟩
  obtain ⟨ny, ey, y1, _, _, y4⟩ := adv_both [y] (by simp)
  obtain ⟨y5, y6⟩ := y4 hoy
  have hadv1 : advT [y] = partsP y := by simp [advT]
  rw [hadv1] at y5
  subst y5
  subst y6
  have htl : (t.length : Int) - 1 = (v.length : Int) := by rw [hv]; simp
  have hdrop : t.drop ((v.length : Int)).toNat = [y] := by rw [hv, Int.toNat_natCast, List.drop_left]
  have hplen : pl.length = v.length + 1 := by rw [hpl, pullL_length, hv]; simp
  have hpv : pl = pullL 1 v ++ [advT v] := by rw [hpl, hv, pullL_snoc, Int.one_mul]
  have hlast : rd pl (v.length : Int) = advT v := by
   rw [hpv]; unfold rd
   rw [Int.toNat_natCast, List.getD_eq_getElem?_getD, List.getElem?_append_right (by rw [pullL_length]; exact Nat.le_refl _), pullL_length, Nat.sub_self]
   rfl
  have hfirst : rd pl 0 = 1 := by
   rw [hpl, hv]
   cases v with
   | nil => rfl
   | cons a v => rfl
  have hprod : advT v * partsP y = n := by rw [hadv, hv, advT_snoc]
  have hl6 := ho.2.2
  rw [htl, w64 (x := (v.length : Int)) (by omega) (by omega), show (pl.length : Int) - 1 = (v.length : Int) by omega, w64 (x := (v.length : Int)) (by omega) (by omega), hdrop, hlast, hfirst]
  refine ev_pos (by omega) (ev_pos (by omega) (Ev.bind y1 (ev_pos rfl (ev_neg (by show ¬ partsP y < 1; omega) (ev_neg (by show ¬ partsP y > 9; omega) (ev_pos (by omega) (ev_pos (by omega) (ev_pos (by show wrap64 (advT v * partsP y) = n; rw [hprod, w64 (by omega) (by omega)]) (ev_pos (by omega) (ev_pos rfl (ev_if (fun z => ev_some ?_) (fun _ => Ev.now _))))))))))))
  rw [h3 z, ← hadv]; simp
 have j0 : Ev (fun k => laws_FnTackles.j0 k t w hl bad one n pl seven (nm.toList != nm.toList) p.f0 p.f1 p.f2 q.f0 q.f1 q.f2) true := by
  refine ev_succ ?_; simp only [laws_FnTackles.j0]
  refine ev_neg (by simp) (ev_if (fun z => ?_) (fun _ => j1))
  obtain ⟨hq, hq2⟩ := t3 z
  have vq := validPurchase_ev q
  rw [ofd1 hq] at vq
  exact Ev.bind hq2 (ev_pos rfl (ev_neg (by simp) (Ev.bind vq (ev_pos (by trivial) j1))))
 have su : Ev (fun k => spec_SameTackle.f k u u) true := sameS_self u (by omega)
 have tail : Ev (fun k => (impl_SameTackle.f k ca cb).bind fun t592 => ((spec_SameTackle.f k ca cb).bind fun t593 => (if (t592 != t593) = true then (none) else ((impl_ValidTackle.f k t).bind fun t594 => ((spec_ValidTackle.f k t).bind fun t595 => (if (t594 != t595) = true then (none) else ((impl_ValidPurchase.f k p.f0 p.f1 p.f2).bind fun t596 => ((spec_ValidPurchase.f k p.f0 p.f1 p.f2).bind fun t597 => (if (t596 != t597) = true then (none) else ((impl_PurchaseName.f k p.f0 p.f1 p.f2).bind fun t598 => ((spec_PurchaseName.f k p.f0 p.f1 p.f2).bind fun t599 => (laws_FnTackles.j0 k t w hl bad one n pl seven (t598.toList != t599.toList) p.f0 p.f1 p.f2 q.f0 q.f1 q.f2)))))))))))) true := by
  simp only [impl_SameTackle.f, spec_ValidTackle.f, spec_ValidPurchase.f]
  exact Ev.bind (Ev.bind sc (Ev.now _)) (Ev.bind ss (ev_neg (by simp) (Ev.bind vt (Ev.bind (Ev.bind vs (Ev.now _)) (ev_neg (by simp) (Ev.bind vp (Ev.bind (Ev.bind vo (Ev.now _)) (ev_neg (by simp) (Ev.bind m1 (Ev.bind m2 j0))))))))))
 refine Ev.bind d1a (Ev.bind h1 (Ev.bind h2 (Ev.bind n1 (Ev.bind n2 (Ev.bind p1 (Ev.bind p2 (Ev.bind d1b (Ev.bind r1 (Ev.bind r2 (Ev.bind d2 (Ev.bind t1 (Ev.bind t2 (Ev.bind d3a (Ev.bind b1 (Ev.bind b3 (Ev.bind d4 (Ev.bind u3 (Ev.bind u2 (Ev.bind d5 ?_)))))))))))))))))))
 refine ev_pos rfl (ev_pos rfl (ev_pos rfl (ev_pos rfl (ev_pos rfl (Ev.bind (intsE_ev pl (by omega)) (ev_pos rfl (ev_pos rfl (Ev.bind (intsE_ev rl (by omega)) (ev_pos rfl (ev_pos rfl (ev_neg (by simp) (Ev.bind b2 (ev_pos rfl (ev_neg (by rw [b4]; simp) (ev_if (fun z => ?_) (fun z => ?_))))))))))))))))
 ·have hb := b5 z
  subst hb
  exact Ev.bind (sameS_self bk (by omega)) (ev_pos rfl (ev_neg (by simp) (Ev.bind su (ev_pos rfl tail))))
 ·exact ev_neg (by simp) (Ev.bind su (ev_pos rfl tail))

end Go.Proofs.YtcjandlemjfojaaGreatDoor.PureFnTackles
namespace Go.Proofs.YtcjandlemjfojaaGreatDoor.Pure
open Go.Proofs.YtcjandlemjfojaaGreatDoor.HTks
theorem FnTackles : laws_FnTackles.Pure := PureFnTackles.FnTackles
end Go.Proofs.YtcjandlemjfojaaGreatDoor.Pure
