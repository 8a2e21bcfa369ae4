/- The program's function answers as the statement says. Conditions: none beyond the given statement's own. -/
import Derived.Test.YtdhdokhfgadikaaHFnGainsx9
import Derived.Test.YtdhdokhfgadikaaLib
import Derived.Test.YtdhdokhfgadikaaLibDraw
import Derived.Test.YtdhdokhfgadikaaLibRat
set_option linter.unusedVariables false
set_option linter.unusedSimpArgs false
namespace Go.Proofs.Ytdhdokhfgadikaa.PureFnGains
open Go.RowKit Go.Proofs.Ytdhdokhfgadikaa.HFnGains Go.Proofs.YtdhdokhfgadikaaW.PrintWords Go.Proofs.YtdhdokhfgadikaaW.PrintLast Go.Proofs.YtdhdokhfgadikaaW.PrintMore Go.Proofs.Ytdhdokhfgadikaa.Lib
theorem next_ev (c : List Int) (at_ sd : Int) (m : Nat) (h : Sr c at_ (m + 1)) :
  ∃ r a' s', spec_l00Src_next.f c at_ sd = some (r, a', s') ∧ 0 ≤ r ∧ r ≤ 255 ∧ Sr c a' m := by
 obtain ⟨h1, h2, h3⟩ := h
 have e : wrap64 (at_ + 1) = at_ + 1 := w64 (by omega) (by omega)
 have hs : Sr c (at_ + 1) m := ⟨h1, by omega, by omega⟩
 unfold spec_l00Src_next.f
 rw [e]
 by_cases hl : at_ < (c.length : Int)
 ·rw [if_pos hl, if_pos h2, if_pos (by omega)]
  have := h1 _ (rd_mem h2 hl)
  rw [w64 (by omega) (by omega)]
  exact ⟨_, _, _, rfl, this.1, this.2, hs⟩
 ·rw [if_neg hl, if_neg (by omega)]
  have := and255 (IntKind.u64.wrap (IntKind.u64.wrap (sd * 6364136223846793005)) + 1442695040888963407)
  refine ⟨_, _, _, rfl, ?_, ?_, hs⟩
  ·rw [w64 (by omega) (by omega)]; exact this.1
  ·rw [w64 (by omega) (by omega)]; exact this.2
theorem pick_ev (c : List Int) (at_ sd n : Int) (m : Nat) (h : Sr c at_ (m + 2)) :
  ∃ r a' s', spec_l00Src_pick.f c at_ sd n = some (r, a', s') ∧ 0 ≤ r ∧ (n ≤ 1 ∧ r = 0 ∨ 1 < n ∧ r < n) ∧ Sr c a' m := by
 unfold spec_l00Src_pick.f
 by_cases h1 : n ≤ 1
 ·rw [if_pos h1]; exact ⟨_, _, _, rfl, by omega, .inl ⟨h1, rfl⟩, h.less (by omega)⟩
 ·rw [if_neg h1]
  obtain ⟨r, a', s', e, r0, r1, hs⟩ := next_ev c at_ sd (m + 1) h
  rw [e]; simp only [Option.bind_some]
  by_cases h2 : n > 200
  ·rw [if_pos h2]
   obtain ⟨q, b', t', e', q0, q1, hs'⟩ := next_ev c a' s' m hs
   rw [e']; simp only [Option.bind_some]
   rw [if_neg (by omega), w64 (x := r * 256) (by omega) (by omega), w64 (x := r * 256 + q) (by omega) (by omega)]
   exact ⟨_, _, _, rfl, Int.tmod_nonneg _ (by omega), .inr ⟨by omega, Int.tmod_lt_of_pos _ (by omega)⟩, hs'⟩
  ·rw [if_neg h2, if_neg (by omega)]
   exact ⟨_, _, _, rfl, Int.tmod_nonneg _ (by omega), .inr ⟨by omega, Int.tmod_lt_of_pos _ (by omega)⟩, hs.less (by omega)⟩
theorem l00In_eq (a b c : Int) : spec_l00In.f a b c = some (decide (b ≤ a ∧ a ≤ c)) := by
 unfold spec_l00In.f; by_cases h : a ≥ b <;> simp [h]
theorem within_eq (a b c : Int) : impl_within.f a b c = some (decide (b ≤ a ∧ a ≤ c)) := by
 unfold impl_within.f; by_cases h : a ≥ b <;> simp [h]
def okP (p : S27) : Prop := (0 ≤ p.f0 ∧ p.f0 ≤ 4) ∧ (0 ≤ p.f1 ∧ p.f1 ≤ 4) ∧ 1 ≤ p.f0 + p.f1 ∧ (if p.f2 = true then 0 ≤ p.f1 - p.f0 ∧ p.f1 - p.f0 ≤ 1 else 0 ≤ p.f0 - p.f1 ∧ p.f0 - p.f1 ≤ 1)
instance (p : S27) : Decidable (okP p) := inferInstanceAs (Decidable ((0 ≤ p.f0 ∧ p.f0 ≤ 4) ∧ (0 ≤ p.f1 ∧ p.f1 ≤ 4) ∧ 1 ≤ p.f0 + p.f1 ∧ (if p.f2 = true then 0 ≤ p.f1 - p.f0 ∧ p.f1 - p.f0 ≤ 1 else 0 ≤ p.f0 - p.f1 ∧ p.f0 - p.f1 ≤ 1)))
def okPs (t : List S27) : Prop := ∀ p ∈ t, okP p
instance (t : List S27) : Decidable (okPs t) := inferInstanceAs (Decidable (∀ p ∈ t, okP p))
def okT (t : List S27) : Prop := okPs t ∧ 1 ≤ t.length ∧ t.length ≤ 6
instance (t : List S27) : Decidable (okT t) := inferInstanceAs (Decidable (okPs t ∧ 1 ≤ t.length ∧ t.length ≤ 6))
theorem okPs_drop {l : List S27} {i : Nat} (h : i < l.length) : okPs (l.drop i) ↔ okP l[i] ∧ okPs (l.drop (i + 1)) := all_drop h
theorem rdP {xs : List S27} {i : Nat} (h : i < xs.length) : rd_T27 xs (i : Int) = xs[i] := by
 unfold rd_T27; simp [List.getD_eq_getElem?_getD, h]
def shT : List S27 → Int
 | [] => 0
 | p :: t => p.f0 + p.f1 + shT t
theorem shT_bd {t : List S27} (h : okPs t) : (t.length : Int) ≤ shT t ∧ shT t ≤ 8 * t.length := by
 induction t with
 | nil => simp [shT]
 | cons p t ih =>
  have h1 := h p (by simp)
  have h2 := ih (fun q hq => h q (by simp [hq]))
  have h3 := h1.1
  have h4 := h1.2.1
  have h5 := h1.2.2.1
  simp only [shT, List.length_cons]; omega
theorem shT_snoc (l : List S27) (p : S27) : shT (l ++ [p]) = shT l + (p.f0 + p.f1) := by
 induction l with
 | nil => simp [shT]
 | cons q l ih => simp only [List.cons_append, shT, ih]; omega
theorem A2Rough_l0 (c : List Int) : ∀ (d : Nat) (o : List S27) (at_ sd left : Int), Sr c at_ (4 * d) → okPs o → shT o + left = 9 → 0 ≤ left → o.length + d ≤ 3 → (1 ≤ o.length ∨ (1 ≤ d ∧ 0 < left)) →
  ∃ t, Ev (fun k => spec_A2Rough.l0 k o left (d : Int) c at_ sd) t ∧ okPs t ∧ shT t ≤ 9 ∧ 1 ≤ t.length ∧ t.length ≤ 3
 | 0, o, at_, sd, left, hs, ho, hl, h0, hn, h1 => by
  refine ⟨o, ev_succ ?_, ho, by omega, by omega, by omega⟩
  simp only [spec_A2Rough.l0]
  refine ev_neg (by omega) (ev_succ ?_)
  simp only [spec_A2Rough.j1]
  exact ev_neg (by simp) (Ev.now _)
 | d + 1, o, at_, sd, left, hs, ho, hl, h0, hn, h1 => by
  by_cases hp : left > 0
  ·obtain ⟨m, hm, m1, m4, ml⟩ : ∃ m : Int, spec_l00Min.f left 4 = some m ∧ 1 ≤ m ∧ m ≤ 4 ∧ m ≤ left := by
    unfold spec_l00Min.f
    by_cases g : left < 4
    ·rw [if_pos g]; exact ⟨_, rfl, by omega, by omega, by omega⟩
    ·rw [if_neg g]; exact ⟨_, rfl, by omega, by omega, by omega⟩
   obtain ⟨r, a', s', e, r0, r1, hs'⟩ := pick_ev c at_ sd m (4 * d + 2) (hs.less (by omega))
   obtain ⟨q, b', t', e', q0, q1, hs''⟩ := pick_ev c a' s' 2 (4 * d) hs'
   have so := shT_bd ho
   have hr : 0 ≤ r ∧ 1 + r ≤ m := by rcases r1 with z | z <;> omega
   have w1 : wrap64 (1 + r) = 1 + r := w64 (by omega) (by omega)
   have w2 : wrap64 (1 + r + 1) = 1 + r + 1 := w64 (by omega) (by omega)
   have t1 : wrap64 (Int.tdiv (1 + r) 2) = (1 + r) / 2 := by rw [Int.tdiv_eq_ediv_of_nonneg (by omega)]; exact w64 (by omega) (by omega)
   have t2 : wrap64 (Int.tdiv (1 + r + 1) 2) = (1 + r + 1) / 2 := by rw [Int.tdiv_eq_ediv_of_nonneg (by omega)]; exact w64 (by omega) (by omega)
   have w3 : wrap64 (left - (1 + r)) = left - (1 + r) := w64 (by omega) (by omega)
   have w4 : wrap64 (((d + 1 : Nat) : Int) - 1) = (d : Int) := by rw [w64 (by omega) (by omega)]; omega
   have next : ∀ p : S27, okP p → p.f0 + p.f1 = 1 + r → ∃ t, Ev (fun k => spec_A2Rough.l0 k (o ++ [p]) (left - (1 + r)) (d : Int) c b' t') t ∧ okPs t ∧ shT t ≤ 9 ∧ 1 ≤ t.length ∧ t.length ≤ 3 := by
    intro p op hp'
    refine A2Rough_l0 c d (o ++ [p]) b' t' (left - (1 + r)) hs'' ?_ ?_ (by omega) (by simp; omega) (.inl (by simp))
    ·intro x hx; rcases List.mem_append.1 hx with z | z
     ·exact ho x z
     ·simp at z; rw [z]; exact op
    ·rw [shT_snoc, hp']; omega
   by_cases hq : q = 0
   ·obtain ⟨t, et, ht⟩ := next ⟨(1 + r) / 2, (1 + r + 1) / 2, true⟩ (by unfold okP; simp only [if_true]; omega) (by show (1 + r) / 2 + (1 + r + 1) / 2 = 1 + r; omega)
    refine ⟨t, ev_succ ?_, ht⟩
    simp only [spec_A2Rough.l0]
    rw [decide_eq_true hp]
    refine ev_pos (by omega) (ev_succ ?_)
    simp only [spec_A2Rough.j1, spec_l00Src_one.f]
    refine ev_pos (by trivial) (ev_now hm (ev_now e (ev_now (by rw [e']; rfl) ?_)))
    refine ev_pos (by rw [hq]; rfl) (ev_pos (by omega) ?_)
    rw [w1, w2, t1, t2, w3, w4]
    exact et
   ·obtain ⟨t, et, ht⟩ := next ⟨(1 + r + 1) / 2, (1 + r) / 2, false⟩ (by unfold okP; simp only [Bool.false_eq_true, if_false]; omega) (by show (1 + r + 1) / 2 + (1 + r) / 2 = 1 + r; omega)
    refine ⟨t, ev_succ ?_, ht⟩
    simp only [spec_A2Rough.l0]
    rw [decide_eq_true hp]
    refine ev_pos (by omega) (ev_succ ?_)
    simp only [spec_A2Rough.j1, spec_l00Src_one.f]
    refine ev_pos (by trivial) (ev_now hm (ev_now e (ev_now (by rw [e']; rfl) ?_)))
    refine ev_neg (by simp; exact hq) (ev_pos (by omega) ?_)
    rw [w1, w2, t1, t2, w3, w4]
    exact et
  ·refine ⟨o, ev_succ ?_, ho, by omega, by omega, by omega⟩
   simp only [spec_A2Rough.l0]
   rw [decide_eq_false hp]
   refine ev_pos (by omega) (ev_succ ?_)
   simp only [spec_A2Rough.j1]
   exact ev_neg (by simp) (Ev.now _)
theorem A2Rough_ev (c : List Int) (h : ∀ x ∈ c, (Lit.int .u8 x).wf = true) : ∃ t, Ev (fun k => spec_A2Rough.f k c) t ∧ okT t ∧ shT t ≤ 9 := by
 obtain ⟨r, a', s', e, r0, r1, hs'⟩ := pick_ev c 0 0 3 100 ((Sr.start h).less (by omega))
 have hr : r ≤ 2 := by rcases r1 with z | z <;> omega
 obtain ⟨n, rfl⟩ := Int.eq_ofNat_of_zero_le r0
 obtain ⟨t, et, h1, h2, h3, h4⟩ := A2Rough_l0 c (n + 1) [] a' s' 9 (hs'.less (by omega)) (by simp [okPs]) (by simp [shT]) (by omega) (by simp; omega) (.inr ⟨by omega, by omega⟩)
 refine ⟨t, ?_, ⟨h1, h3, by omega⟩, h2⟩
 simp only [spec_A2Rough.f, spec_l00From.f]
 refine ev_now rfl (ev_now e ?_)
 rw [show wrap64 (1 + (n : Int)) = ((n + 1 : Nat) : Int) by rw [w64 (by omega) (by omega)]; omega]
 exact et
theorem l05One_ev (p : S27) : Ev (fun k => spec_l05One.f k p.f0 p.f1 p.f2) (decide (okP p), p.f0, p.f1, p.f2) := by
 have jt : Ev (fun k => spec_l05One.j0 k true p.f0 p.f1 p.f2) (false, p.f0, p.f1, p.f2) := by
  refine ev_succ ?_; simp only [spec_l05One.j0]; exact ev_pos (by trivial) (Ev.now _)
 simp only [spec_l05One.f]
 refine ev_now (l00In_eq _ _ _) (ev_if (fun h0 => ev_now (l00In_eq _ _ _) (ev_if (fun h1 => ?_) (fun h1 => ?_))) (fun h0 => ?_))
 ·have h0 := of_decide_eq_true h0
  have h1 := of_decide_eq_true h1
  rw [w64 (x := p.f0 + p.f1) (by omega) (by omega)]
  by_cases h2 : p.f0 + p.f1 < 1
  ·rw [ofd1 h2, ofd (p := okP p) (fun g => by have := g.2.2.1; omega)]; exact jt
  ·rw [ofd h2]
   refine ev_succ ?_; simp only [spec_l05One.j0]
   refine ev_neg (by simp) (ev_if (fun h3 => ?_) (fun h3 => ?_))
   ·rw [w64 (x := p.f1 - p.f0) (by omega) (by omega)]
    refine ev_now (l00In_eq _ _ _) (ev_some ?_)
    congr 1
    apply decide_eq_decide.2; unfold okP; rw [if_pos h3]
    exact ⟨fun g => ⟨h0, h1, by omega, g⟩, fun g => g.2.2.2⟩
   ·rw [w64 (x := p.f0 - p.f1) (by omega) (by omega)]
    refine ev_now (l00In_eq _ _ _) (ev_some ?_)
    congr 1
    apply decide_eq_decide.2; unfold okP; rw [if_neg h3]
    exact ⟨fun g => ⟨h0, h1, by omega, g⟩, fun g => g.2.2.2⟩
 ·rw [ofd (p := okP p) (fun g => h1 (ofd1 g.2.1))]; exact jt
 ·rw [ofd (p := okP p) (fun g => h0 (ofd1 g.1))]; exact jt
theorem l05One_at_ev (p : S27) : Ev (fun k => spec_l05One_at.f k p.f0 p.f1 p.f2) (decide (okP p)) := by
 simp only [spec_l05One_at.f]
 exact Ev.bind (l05One_ev p) (Ev.now _)
theorem l05Ok_l0 (x0 : List S27) (hn : x0.length ≤ 35184372088832) : ∀ (d i : Nat), i + d = x0.length → (okPs (x0.drop i) → okPs x0) →
  Ev (fun k => spec_l05Ok.l0 k x0 (i : Int)) (decide (okT x0))
 | 0, i, hd, hi => by
  refine ev_succ ?_
  simp only [spec_l05Ok.l0]
  have e : x0.drop i = [] := by simp; omega
  have g := hi (by rw [e]; simp [okPs])
  refine ev_neg (by omega) (ev_now (l00In_eq _ _ _) (ev_some ?_))
  apply decide_eq_decide.2; unfold okT; exact ⟨fun q => ⟨g, by omega, by omega⟩, fun q => by omega⟩
 | d + 1, i, hd, hi => by
  have hil : i < x0.length := by omega
  refine ev_succ ?_
  simp only [spec_l05Ok.l0]
  rw [rdP hil, w64s (by omega)]
  refine ev_pos (by omega) (ev_pos (by omega) (Ev.bind (l05One_at_ev x0[i]) (ev_if (fun h => ?_) (fun h => ev_some ?_))))
  ·refine l05Ok_l0 x0 hn d (i + 1) (by omega) (fun g => hi ?_)
   rw [okPs_drop hil]; exact ⟨of_decide_eq_true h, g⟩
  ·symm; apply ofd; intro g; exact h (ofd1 (g.1 _ (List.getElem_mem _)))
theorem l05Ok_ev (t : List S27) (hn : t.length ≤ 35184372088832) : Ev (fun k => spec_l05Ok.f k t) (decide (okT t)) := by
 simp only [spec_l05Ok.f]
 exact l05Ok_l0 t hn t.length 0 (by omega) (by simp)
def codeL (t : List S27) (loss load : Int) : Int := if okT t then (if (0 ≤ loss ∧ loss ≤ 10) ∧ (1 ≤ load ∧ load ≤ 100000) then (if shT t > 9 then 5 else 0) else 2) else 1
theorem codeL_zero {t : List S27} {loss load : Int} (h : codeL t loss load = 0) : okT t ∧ (0 ≤ loss ∧ loss ≤ 10) ∧ (1 ≤ load ∧ load ≤ 100000) ∧ shT t ≤ 9 := by
 unfold codeL at h; split at h
 ·split at h
  ·split at h
   ·omega
   ·exact ⟨‹_›, ‹_ ∧ _›.1, ‹_ ∧ _›.2, by omega⟩
  ·omega
 ·omega
theorem validPurchase_ev (p : S27) : Ev (fun k => impl_ValidPurchase.f k p.f0 p.f1 p.f2) (decide (okP p)) := by
 have jt : Ev (fun k => impl_ValidPurchase.j0 k true p.f0 p.f1 p.f2) false := by
  refine ev_succ ?_; simp only [impl_ValidPurchase.j0]; exact ev_pos (by trivial) (Ev.now _)
 simp only [impl_ValidPurchase.f]
 refine ev_now (within_eq _ _ _) (ev_if (fun h0 => ev_now (within_eq _ _ _) (ev_if (fun h1 => ?_) (fun h1 => ?_))) (fun h0 => ?_))
 ·have h0 := of_decide_eq_true h0
  have h1 := of_decide_eq_true h1
  rw [w64 (x := p.f0 + p.f1) (by omega) (by omega)]
  by_cases h2 : p.f0 + p.f1 = 0
  ·rw [beq_iff_eq.2 h2, ofd (p := okP p) (fun g => by have := g.2.2.1; omega)]; exact jt
  ·rw [beq_eq_false_iff_ne.2 h2]
   refine ev_succ ?_; simp only [impl_ValidPurchase.j0]
   refine ev_neg (by simp) (ev_if (fun h3 => ?_) (fun h3 => ?_))
   ·rw [w64 (x := p.f1 - p.f0) (by omega) (by omega)]
    refine ev_now (within_eq _ _ _) (ev_some ?_)
    apply decide_eq_decide.2; unfold okP; rw [if_pos h3]
    exact ⟨fun g => ⟨h0, h1, by omega, g⟩, fun g => g.2.2.2⟩
   ·rw [w64 (x := p.f0 - p.f1) (by omega) (by omega)]
    refine ev_now (within_eq _ _ _) (ev_some ?_)
    apply decide_eq_decide.2; unfold okP; rw [if_neg h3]
    exact ⟨fun g => ⟨h0, h1, by omega, g⟩, fun g => g.2.2.2⟩
 ·rw [ofd (p := okP p) (fun g => h1 (ofd1 g.2.1))]; exact jt
 ·rw [ofd (p := okP p) (fun g => h0 (ofd1 g.1))]; exact jt
theorem validTackle_l0 (x0 : List S27) (h1 : 1 ≤ x0.length) (h6 : x0.length ≤ 6) : ∀ (d i : Nat), i + d = x0.length → (okPs (x0.drop i) → okPs x0) →
  Ev (fun k => impl_ValidTackle.l0 k x0 (x0.length : Int) (i : Int)) (decide (okT x0))
 | 0, i, hd, hi => by
  refine ev_succ ?_
  simp only [impl_ValidTackle.l0]
  have e : x0.drop i = [] := by simp; omega
  have g := hi (by rw [e]; simp [okPs])
  exact ev_neg (by omega) (ev_some (ofd1 (p := okT x0) ⟨g, h1, h6⟩).symm)
 | d + 1, i, hd, hi => by
  have hil : i < x0.length := by omega
  refine ev_succ ?_
  simp only [impl_ValidTackle.l0]
  rw [rdP hil, w64s (by omega)]
  refine ev_pos (by omega) (ev_pos (by omega) (ev_pos (by omega) (Ev.bind (validPurchase_ev x0[i]) (ev_if (fun h => ?_) (fun h => ev_some ?_)))))
  ·refine validTackle_l0 x0 h1 h6 d (i + 1) (by omega) (fun g => hi ?_)
   rw [okPs_drop hil]; exact ⟨of_decide_eq_true h, g⟩
  ·symm; apply ofd; intro g; exact h (ofd1 (g.1 _ (List.getElem_mem _)))
theorem validTackle_ev (t : List S27) : Ev (fun k => impl_ValidTackle.f k t) (decide (okT t)) := by
 have jt : Ev (fun k => impl_ValidTackle.j0 k t true) false := by
  refine ev_succ ?_; simp only [impl_ValidTackle.j0]; exact ev_pos (by trivial) (Ev.now _)
 simp only [impl_ValidTackle.f]
 refine ev_if (fun h => ?_) (fun h => ?_)
 ·rw [ofd (p := okT t) (fun g => by have := g.2.1; omega)]; exact jt
 ·by_cases h6 : (t.length : Int) > 6
  ·rw [ofd1 h6, ofd (p := okT t) (fun g => by have := g.2.2; omega)]; exact jt
  ·rw [ofd h6]
   refine ev_succ ?_; simp only [impl_ValidTackle.j0]
   exact ev_neg (by simp) (validTackle_l0 t (by omega) (by omega) t.length 0 (by omega) (by simp))
theorem sheavesOf_l0 (x0 : List S27) (ho : okPs x0) (hl : x0.length ≤ 6) : ∀ (d i : Nat) (s : Int), i + d = x0.length → 0 ≤ s → s ≤ 8 * i →
  Ev (fun k => impl_sheavesOf.l0 k s x0 (x0.length : Int) (i : Int)) (s + shT (x0.drop i))
 | 0, i, s, hd, h0, h1 => by
  refine ev_succ ?_
  simp only [impl_sheavesOf.l0]
  have e : x0.drop i = [] := by simp; omega
  refine ev_neg (by omega) (ev_some ?_)
  rw [e]; simp [shT]
 | d + 1, i, s, hd, h0, h1 => by
  have hi : i < x0.length := by omega
  have hp := ho _ (List.getElem_mem hi)
  have hp1 := hp.1
  have hp2 := hp.2.1
  refine ev_succ ?_
  simp only [impl_sheavesOf.l0]
  rw [rdP hi, w64s (by omega), w64 (x := x0[i].f0 + x0[i].f1) (by omega) (by omega), w64 (x := s + (x0[i].f0 + x0[i].f1)) (by omega) (by omega), List.drop_eq_getElem_cons hi]
  refine ev_pos (by omega) (ev_pos (by omega) (ev_pos (by omega) ?_))
  have := sheavesOf_l0 x0 ho hl d (i + 1) (s + (x0[i].f0 + x0[i].f1)) (by omega) (by omega) (by omega)
  have e : s + shT (x0[i] :: x0.drop (i + 1)) = s + (x0[i].f0 + x0[i].f1) + shT (x0.drop (i + 1)) := by simp only [shT]; omega
  rw [e]; exact this
theorem sheavesOf_ev (t : List S27) (h : okT t) : Ev (fun k => impl_sheavesOf.f k t) (shT t) := by
 have e := sheavesOf_l0 t h.1 h.2.2 t.length 0 0 (by omega) (by omega) (by omega)
 rw [List.drop_zero, Int.zero_add] at e
 simp only [impl_sheavesOf.f]; exact e
/-- The code of several tackles: all are looked at for their form first, then the numbers, then for their sheaves. -/
def codeR : List (List S27) → Int → Int → Int := fun ts loss load =>
 if (∀ t ∈ ts, okT t) then (if (0 ≤ loss ∧ loss ≤ 10) ∧ (1 ≤ load ∧ load ≤ 100000) then (if ∀ t ∈ ts, shT t ≤ 9 then 0 else 5) else 2) else 1
theorem rough_l1 (ts : List (List S27)) (hn : ts.length ≤ 100) (ho : ∀ t ∈ ts, okT t) : ∀ (d i : Nat), i + d = ts.length → ((∀ t ∈ ts.drop i, shT t ≤ 9) → ∀ t ∈ ts, shT t ≤ 9) →
  Ev (fun k => impl_roughCode.l1 k ts (ts.length : Int) (i : Int)) (if ∀ t ∈ ts, shT t ≤ 9 then 0 else 5)
 | 0, i, hd, hi => by
  refine ev_succ ?_
  simp only [impl_roughCode.l1]
  have e : ts.drop i = [] := by simp; omega
  have g := hi (by rw [e]; simp)
  refine ev_neg (by omega) (ev_some ?_)
  rw [if_pos g]
 | d + 1, i, hd, hi => by
  have hil : i < ts.length := by omega
  have er : rd_L3 ts (i : Int) = ts[i] := by unfold rd_L3; simp [List.getD_eq_getElem?_getD, hil]
  refine ev_succ ?_
  simp only [impl_roughCode.l1]
  rw [er, w64s (by omega)]
  refine ev_pos (by omega) (ev_pos (by omega) (ev_pos (by omega) (Ev.bind (sheavesOf_ev _ (ho _ (List.getElem_mem hil))) (ev_if (fun h => ev_some ?_) (fun h => ?_)))))
  ·rw [if_neg]; intro g; have := g _ (List.getElem_mem hil); omega
  ·refine rough_l1 ts hn ho d (i + 1) (by omega) (fun g => hi ?_)
   rw [all_drop hil]; exact ⟨by omega, g⟩
theorem rough_l0 (ts : List (List S27)) (hn : ts.length ≤ 100) (loss load : Int) : ∀ (d i : Nat), i + d = ts.length → ((∀ t ∈ ts.drop i, okT t) → ∀ t ∈ ts, okT t) →
  Ev (fun k => impl_roughCode.l0 k loss load ts ts (ts.length : Int) (i : Int)) (codeR ts loss load)
 | 0, i, hd, hi => by
  refine ev_succ ?_
  simp only [impl_roughCode.l0]
  have e : ts.drop i = [] := by simp; omega
  have g := hi (by rw [e]; simp)
  have j2 : Ev (fun k => impl_roughCode.j1 k ts true) 2 := by
   refine ev_succ ?_; simp only [impl_roughCode.j1]; exact ev_pos (by trivial) (Ev.now _)
  unfold codeR; rw [if_pos g]
  refine ev_neg (by omega) (ev_now (within_eq _ _ _) (ev_if (fun h1 => ev_now (within_eq _ _ _) ?_) (fun h1 => ?_)))
  ·have h1 := of_decide_eq_true h1
   by_cases h2 : 1 ≤ load ∧ load ≤ 100000
   ·rw [ofd1 h2, if_pos ⟨h1, h2⟩]
    refine ev_succ ?_; simp only [impl_roughCode.j1]
    exact ev_neg (by simp) (rough_l1 ts hn g ts.length 0 (by omega) (by simp))
   ·rw [ofd h2, if_neg (fun q => h2 q.2)]; exact j2
  ·rw [if_neg (fun q => h1 (ofd1 q.1))]; exact j2
 | d + 1, i, hd, hi => by
  have hil : i < ts.length := by omega
  have er : rd_L3 ts (i : Int) = ts[i] := by unfold rd_L3; simp [List.getD_eq_getElem?_getD, hil]
  refine ev_succ ?_
  simp only [impl_roughCode.l0]
  rw [er, w64s (by omega)]
  refine ev_pos (by omega) (ev_pos (by omega) (ev_pos (by omega) (Ev.bind (validTackle_ev _) (ev_if (fun h => ?_) (fun h => ev_some ?_)))))
  ·refine rough_l0 ts hn loss load d (i + 1) (by omega) (fun g => hi ?_)
   rw [all_drop hil]; exact ⟨of_decide_eq_true h, g⟩
  ·unfold codeR; rw [if_neg]; intro g; exact h (ofd1 (g _ (List.getElem_mem hil)))
theorem rough_ev (ts : List (List S27)) (hn : ts.length ≤ 100) (loss load : Int) : Ev (fun k => impl_roughCode.f k loss load ts) (codeR ts loss load) := by
 simp only [impl_roughCode.f]
 exact rough_l0 ts hn loss load ts.length 0 (by omega) (by simp)
theorem codeR_one (t : List S27) (loss load : Int) : codeR [t] loss load = codeL t loss load := by
 unfold codeR codeL
 simp only [List.mem_singleton, forall_eq]
 split
 ·split
  ·by_cases h : shT t ≤ 9
   ·rw [if_pos h, if_neg (by omega)]
   ·rw [if_neg h, if_pos (by omega)]
  ·rfl
 ·rfl
/-- The sum of the parts' tensions ahead of part i, times the i-th power of D. -/
def gA (U D : Int) (away : Bool) : Nat → Int
 | 0 => 0
 | i + 1 => (gA U D away i + if (decide (0 < i) || away) = true then U ^ i else 0) * D
def gN (U D : Int) (away : Bool) (n : Nat) : Int := gA U D away n + if (decide (0 < n) || away) = true then U ^ n else 0
theorem pow_bd {U : Int} (h : 10 ≤ U ∧ U ≤ 20) : ∀ i : Nat, 1 ≤ U ^ i ∧ U ^ i ≤ 20 ^ i
 | 0 => by simp
 | i + 1 => by
  have ih := pow_bd h i
  rw [Int.pow_succ, Int.pow_succ]
  constructor
  ·have := Int.mul_le_mul ih.1 h.1 (by omega) (by omega); omega
  ·exact Int.mul_le_mul ih.2 h.2 (by omega) (by have := ih.1; omega)
theorem gA_bd {U D : Int} (hU : 10 ≤ U ∧ U ≤ 20) (hD : 10 ≤ D ∧ D ≤ 20) (away : Bool) : ∀ i : Nat, 0 ≤ gA U D away i ∧ gA U D away i ≤ i * 20 ^ i
 | 0 => by simp [gA]
 | i + 1 => by
  have ih := gA_bd hU hD away i
  have hp := pow_bd hU i
  have h1 : 0 ≤ gA U D away i + (if (decide (0 < i) || away) = true then U ^ i else 0) ∧ gA U D away i + (if (decide (0 < i) || away) = true then U ^ i else 0) ≤ (i + 1 : Nat) * 20 ^ i := by
   have e : ((i + 1 : Nat) : Int) * 20 ^ i = (i : Int) * 20 ^ i + 20 ^ i := by
    rw [Int.natCast_add, Int.add_mul]; simp
   rw [e]
   split <;> omega
  rw [gA]
  constructor
  ·exact Int.mul_nonneg h1.1 (by omega)
  ·have := Int.mul_le_mul h1.2 hD.2 (by omega) (by omega)
   rw [Int.pow_succ, ← Int.mul_assoc]; exact this
theorem gN_bd {U D : Int} (hU : 10 ≤ U ∧ U ≤ 20) (hD : 10 ≤ D ∧ D ≤ 20) (away : Bool) (n : Nat) (hn : 1 ≤ n) : 1 ≤ gN U D away n ∧ gN U D away n ≤ 40 ^ n := by
 have h1 := gA_bd hU hD away n
 have h2 := pow_bd hU n
 have h3 : ((n + 1 : Nat) : Int) * 20 ^ n ≤ 40 ^ n := by
  have e : (40 : Int) ^ n = 2 ^ n * 20 ^ n := by
   rw [← Int.mul_pow]; congr 1
  rw [e]
  apply Int.mul_le_mul_of_nonneg_right
  ·have : ∀ m : Nat, ((m + 1 : Nat) : Int) ≤ 2 ^ m := by
    intro m; induction m with
    | zero => simp
    | succ m ih => rw [Int.pow_succ]; omega
   exact this n
  ·exact Int.le_of_lt (Int.pow_pos (by omega))
 have e : ((n + 1 : Nat) : Int) * 20 ^ n = (n : Int) * 20 ^ n + 20 ^ n := by
  rw [Int.natCast_add, Int.add_mul]; simp
 unfold gN
 have hn' : (decide (0 < n) || away) = true := by simp; omega
 rw [if_pos hn']
 omega
theorem p20 : (20 : Int) ^ 9 = 512000000000 := by decide
theorem p40 : (40 : Int) ^ 9 = 262144000000000 := by decide
theorem pow_le9 {a : Int} (ha : 1 ≤ a) {i : Nat} (hi : i ≤ 9) : a ^ i ≤ a ^ 9 := by
 have h : ∀ j : Nat, 1 ≤ a ^ j := by
  intro j; induction j with
  | zero => simp
  | succ j ih => rw [Int.pow_succ]; have := Int.mul_le_mul ih ha (by omega) (by omega); omega
 obtain ⟨d, hd⟩ : ∃ d, 9 = i + d := ⟨9 - i, by omega⟩
 rw [hd, Int.pow_add]
 have := Int.mul_le_mul (Int.le_refl (a ^ i)) (h d) (by omega) (by have := h i; omega)
 omega
/-- How many parts more than the first a purchase has. -/
def nP (p : S27) : Nat := (p.f0 + p.f1).toNat
theorem nP_eq {p : S27} (h : okP p) : ((nP p : Nat) : Int) = p.f0 + p.f1 ∧ 1 ≤ nP p ∧ nP p ≤ 8 := by
 have h1 := h.1
 have h2 := h.2.1
 have h3 := h.2.2.1
 unfold nP; omega
def sP (U D : Int) (p : S27) : Rat := ((gN U D p.f2 (nP p) : Int) : Rat) / ((D ^ nP p : Int) : Rat)
/-- A tackle's gain: numerator and denominator, not in lowest terms, and the number itself. -/
def nT (U D : Int) : List S27 → Int
 | [] => 1
 | p :: t => gN U D p.f2 (nP p) * nT U D t
def eT (D : Int) : List S27 → Int
 | [] => 1
 | p :: t => D ^ nP p * eT D t
def gT (U D : Int) : List S27 → Rat
 | [] => 1
 | p :: t => sP U D p * gT U D t
def mT : List S27 → Nat
 | [] => 0
 | p :: t => nP p + mT t
theorem mT_eq {t : List S27} (h : okPs t) : ((mT t : Nat) : Int) = shT t := by
 induction t with
 | nil => rfl
 | cons p t ih =>
  have h1 := nP_eq (h p (by simp))
  have h2 := ih (fun q hq => h q (by simp [hq]))
  simp only [mT, shT]; omega
theorem gT_eq {U D : Int} (hD : 10 ≤ D ∧ D ≤ 20) (t : List S27) : gT U D t = ((nT U D t : Int) : Rat) / ((eT D t : Int) : Rat) := by
 induction t with
 | nil => simp [gT, nT, eT]; grind
 | cons p t ih =>
  have z : ∀ l : List S27, eT D l ≠ 0 := by
   intro l; induction l with
   | nil => simp [eT]
   | cons q l ih => rw [eT]; have := pow_bd hD (nP q); exact Int.mul_ne_zero (by omega) ih
  have z1 := ne0 (z t)
  have z2 := ne0 (d := D ^ nP p) (by have := pow_bd hD (nP p); omega)
  simp only [gT, nT, eT, ih, sP]
  rw [castI, castI]
  grind
theorem nT_bd {U D : Int} (hU : 10 ≤ U ∧ U ≤ 20) (hD : 10 ≤ D ∧ D ≤ 20) (t : List S27) (h : okPs t) : (1 ≤ nT U D t ∧ nT U D t ≤ 40 ^ mT t) ∧ (1 ≤ eT D t ∧ eT D t ≤ 20 ^ mT t) := by
 induction t with
 | nil => simp [nT, eT, mT]
 | cons p t ih =>
  have ih := ih (fun q hq => h q (by simp [hq]))
  have h1 := gN_bd hU hD p.f2 (nP p) (nP_eq (h p (by simp))).2.1
  have h2 := pow_bd hD (nP p)
  simp only [nT, eT, mT]
  rw [Int.pow_add, Int.pow_add]
  refine ⟨⟨?_, ?_⟩, ?_, ?_⟩
  ·have := Int.mul_le_mul h1.1 ih.1.1 (by omega) (by omega); omega
  ·exact Int.mul_le_mul h1.2 ih.1.2 (by omega) (by have := h1.1; omega)
  ·have := Int.mul_le_mul h2.1 ih.2.1 (by omega) (by omega); omega
  ·exact Int.mul_le_mul h2.2 ih.2.2 (by omega) (by have := h2.1; omega)
/-- What is known of a gain with few sheaves. -/
theorem gT_bd {U D : Int} (hU : 10 ≤ U ∧ U ≤ 20) (hD : 10 ≤ D ∧ D ≤ 20) (t : List S27) (h : okPs t) (hs : mT t ≤ 9) :
  1 ≤ (gT U D t).num ∧ (gT U D t).num ≤ 262144000000000 ∧ ((gT U D t).den : Int) ≤ 512000000000 := by
 have hb := nT_bd hU hD t h
 have e := gT_eq (U := U) hD t
 have b1 := pow_le9 (a := 40) (by omega) hs
 have b2 := pow_le9 (a := 20) (by omega) hs
 rw [p40] at b1
 rw [p20] at b2
 obtain ⟨m, hm, e1, e2⟩ := num_scale (by omega) e
 have l1 := num_le (B := 262144000000000) (by omega) e (by omega) (by omega)
 have l2 := den_le (by omega) e
 refine ⟨?_, l1.2, by omega⟩
 rcases Int.lt_or_le 0 (gT U D t).num with h' | h'
 ·omega
 ·have := Int.mul_nonpos_of_nonneg_of_nonpos (a := m) (b := (gT U D t).num) (by omega) h'
  rw [Int.mul_comm] at this; omega
theorem gT_append (U D : Int) (a b : List S27) : gT U D (a ++ b) = gT U D a * gT U D b := by
 induction a with
 | nil => simp [gT]
 | cons p a ih => simp only [List.cons_append, gT, ih]; grind
theorem mT_append (a b : List S27) : mT (a ++ b) = mT a + mT b := by
 induction a with
 | nil => simp [mT]
 | cons p a ih => simp only [List.cons_append, mT, ih]; omega
theorem sP_bd {U D : Int} (hU : 10 ≤ U ∧ U ≤ 20) (hD : 10 ≤ D ∧ D ≤ 20) {p : S27} (hp : okP p) :
  1 ≤ (sP U D p).num ∧ (sP U D p).num ≤ 262144000000000 ∧ ((sP U D p).den : Int) ≤ 512000000000 := by
 have := gT_bd hU hD [p] (by intro q hq; simp at hq; rw [hq]; exact hp) (by have := nP_eq hp; simp [mT]; omega)
 have e : gT U D [p] = sP U D p := by simp only [gT]; grind
 rw [e] at this; exact this
theorem impl_gcd_l0 : ∀ (n : Nat) (a b : Int), b.natAbs < n → ∃ r : Int, Ev (fun k => impl_gcd.l0 k a b) r ∧ r.natAbs = Nat.gcd a.natAbs b.natAbs ∧ (0 ≤ a → 0 ≤ b → 0 ≤ r)
 | 0, a, b, h => absurd h (Nat.not_lt_zero _)
 | n + 1, a, b, h => by
  by_cases hb : b = 0
  ·subst hb
   refine ⟨a, ev_succ ?_, by simp, fun h0 _ => h0⟩
   simp only [impl_gcd.l0]; exact ev_pos (by trivial) (Ev.now _)
  ·have hlt : (Int.tmod a b).natAbs < b.natAbs := by rw [Int.natAbs_tmod]; exact Nat.mod_lt _ (by omega)
   obtain ⟨r, e, hg, hp⟩ := impl_gcd_l0 n b (Int.tmod a b) (by omega)
   refine ⟨r, ev_succ ?_, ?_, fun h0 h1 => hp h1 (Int.tmod_nonneg _ h0)⟩
   ·simp only [impl_gcd.l0]; exact ev_neg hb e
   ·rw [hg, Int.natAbs_tmod, Nat.gcd_comm a.natAbs, Nat.gcd_rec b.natAbs a.natAbs, Nat.gcd_comm]
theorem impl_gcd_l0' (a b : Int) (h0 : 0 ≤ a) (h1 : 0 ≤ b) : Ev (fun k => impl_gcd.l0 k a b) (Int.gcd a b : Int) := by
 obtain ⟨r, e, hg, hp⟩ := impl_gcd_l0 (b.natAbs + 1) a b (by omega)
 have : r = (Int.gcd a b : Int) := by have := hp h0 h1; unfold Int.gcd; omega
 rw [← this]; exact e
theorem gcd_ev (a b : Int) (ha : -9223372036854775807 ≤ a) (ha' : a ≤ 9223372036854775807) (hb : 0 ≤ b) : Ev (fun k => impl_gcd.f k a b) (Int.gcd a b : Int) := by
 simp only [impl_gcd.f]
 refine ev_if (fun h => ?_) (fun h => ?_)
 ·rw [w64 (by omega) (by omega)]
  refine ev_succ ?_; simp only [impl_gcd.j0]
  have := impl_gcd_l0' (-a) b (by omega) hb
  rw [Int.neg_gcd] at this; exact this
 ·refine ev_succ ?_; simp only [impl_gcd.j0]
  exact impl_gcd_l0' a b (by omega) hb
theorem fraction_ev (n d : Int) (hn : -9223372036854775807 ≤ n) (hn' : n ≤ 9223372036854775807) (hd : -9223372036854775807 ≤ d) (hd' : d ≤ 9223372036854775807) (h0 : d ≠ 0) :
  Ev (fun k => impl_fraction.f k n d) (fr ((n : Rat) / (d : Rat))) := by
 have pos : ∀ m e : Int, -9223372036854775807 ≤ m → m ≤ 9223372036854775807 → 0 < e → e ≤ 9223372036854775807 →
   Ev (fun k => (impl_gcd.f k m e).bind fun t => if t = 0 then none else some (wrap64 (Int.tdiv m t), wrap64 (Int.tdiv e t))) (fr ((m : Rat) / (e : Rat))) := by
  intro m e hm hm' he he'
  refine Ev.bind (gcd_ev m e hm hm' (by omega)) (ev_neg (by have := gcd_pos (n := m) (d := e) (by omega); omega) (ev_some ?_))
  have f := fr_make (n := m) he
  have b1 := num_le (B := 9223372036854775807) he (r := (m : Rat) / (e : Rat)) rfl (by omega) (by omega)
  have b2 := den_le he (r := (m : Rat) / (e : Rat)) rfl
  have b3 := den_pos ((m : Rat) / (e : Rat))
  have f1 := congrArg Prod.fst f
  have f2 := congrArg Prod.snd f
  simp only [fr] at f1 f2
  rw [f1, f2, w64 (by omega) (by omega), w64 (by omega) (by omega)]; rfl
 simp only [impl_fraction.f]
 refine ev_if (fun h => ?_) (fun h => ?_)
 ·rw [w64 (x := -n) (by omega) (by omega), w64 (x := -d) (by omega) (by omega), ← fr_make_neg h]
  exact pos (-n) (-d) (by omega) (by omega) (by omega) (by omega)
 ·exact pos n d hn hn' (by omega) hd'
theorem mulFr_ev (a b : Rat) (ha : -9223372036854775807 ≤ a.num) (ha' : a.num ≤ 9223372036854775807) (hb : -9223372036854775807 ≤ b.num) (hb' : b.num ≤ 9223372036854775807)
  (hda : (a.den : Int) ≤ 9223372036854775807) (hdb : (b.den : Int) ≤ 9223372036854775807)
  (h1 : -9223372036854775807 ≤ (a * b).num) (h2 : (a * b).num ≤ 9223372036854775807) (h3 : ((a * b).den : Int) ≤ 9223372036854775807) :
  Ev (fun k => impl_mulFractions.f k a.num a.den b.num b.den) (fr (a * b)) := by
 have pa := den_pos a
 have pb := den_pos b
 have e1 := fraction_ev a.num b.den ha ha' (by omega) hdb (by omega)
 have e2 := fraction_ev b.num a.den hb hb' (by omega) hda (by omega)
 have key := mul_key a b
 simp only [impl_mulFractions.f]
 refine Ev.bind e1 (Ev.bind e2 (ev_some ?_))
 have k1 := congrArg Prod.fst key
 have k2 := congrArg Prod.snd key
 simp only [fr] at k1 k2 ⊢
 have pd := den_pos (a * b)
 rw [← k1, ← k2, w64 (by omega) (by omega), w64 (by omega) (by omega)]
theorem addFr_ev (a b : Rat) (D x y : Int) (hD : 0 < D) (hD' : D ≤ 4611686018427387903) (ha : a = (x : Rat) / (D : Rat)) (hb : b = (y : Rat) / (D : Rat))
  (hx : -4611686018427387903 ≤ x) (hx' : x ≤ 4611686018427387903) (hy : -4611686018427387903 ≤ y) (hy' : y ≤ 4611686018427387903) :
  Ev (fun k => impl_addFractions.f k a.num a.den b.num b.den) (fr (a + b)) := by
 have pa := den_pos a
 have pb := den_pos b
 have da := den_le hD ha
 have db := den_le hD hb
 have eg := gcd_ev (a.den : Int) (b.den : Int) (by omega) (by omega) (by omega)
 have gp := gcd_pos (n := (a.den : Int)) (d := (b.den : Int)) (by omega)
 generalize hg : (Int.gcd (a.den : Int) (b.den : Int) : Int) = g at *
 obtain ⟨u, hu⟩ : g ∣ (a.den : Int) := by rw [← hg]; exact Int.gcd_dvd_left _ _
 obtain ⟨v, hv⟩ : g ∣ (b.den : Int) := by rw [← hg]; exact Int.gcd_dvd_right _ _
 have tu : Int.tdiv (a.den : Int) g = u := by rw [hu]; exact Int.mul_tdiv_cancel_left _ (by omega)
 have tv : Int.tdiv (b.den : Int) g = v := by rw [hv]; exact Int.mul_tdiv_cancel_left _ (by omega)
 have hup : 0 < u := by
  rcases Int.lt_or_le 0 u with h | h
  ·exact h
  ·have := Int.mul_nonpos_of_nonneg_of_nonpos (Int.le_of_lt gp) h; omega
 have hvp : 0 < v := by
  rcases Int.lt_or_le 0 v with h | h
  ·exact h
  ·have := Int.mul_nonpos_of_nonneg_of_nonpos (Int.le_of_lt gp) h; omega
 -- the least common multiple divides D
 have hl : u * (b.den : Int) ∣ D := by
  have h1 : Int.lcm (a.den : Int) (b.den : Int) ∣ D.natAbs := Nat.lcm_dvd (Int.natAbs_dvd_natAbs.2 (den_dvd (by omega) ha)) (Int.natAbs_dvd_natAbs.2 (den_dvd (by omega) hb))
  have h2 : (Int.lcm (a.den : Int) (b.den : Int) : Int) = u * (b.den : Int) := by
   have h3 := Int.gcd_mul_lcm (a.den : Int) (b.den : Int)
   have h4 : g * (Int.lcm (a.den : Int) (b.den : Int) : Int) = g * (u * (b.den : Int)) := by
    rw [← hg, ← Int.natCast_mul, h3, hg, ← Int.mul_assoc, ← hu]
    simp [Int.natAbs_mul]
   exact Int.eq_of_mul_eq_mul_left (by omega) h4
  rw [← h2]; exact Int.natAbs_dvd_natAbs.1 (by rw [Int.natAbs_natCast]; exact h1)
 obtain ⟨c, hc⟩ := hl
 have hlp : 0 < u * (b.den : Int) := Int.mul_pos hup pb
 have hcp : 1 ≤ c := by
  rcases Int.lt_or_le 0 c with h | h
  ·omega
  ·have := Int.mul_nonpos_of_nonneg_of_nonpos (Int.le_of_lt hlp) h; omega
 have ca := cross (by omega) ha
 have cb := cross (by omega) hb
 have ex : x = a.num * v * c := by
  have h1 : (a.den : Int) * x = (a.den : Int) * (a.num * v * c) := by grind
  exact Int.eq_of_mul_eq_mul_left (by omega) h1
 have ey : y = b.num * u * c := by
  have h1 : (b.den : Int) * y = (b.den : Int) * (b.num * u * c) := by grind
  exact Int.eq_of_mul_eq_mul_left (by omega) h1
 have bnd : ∀ z B : Int, 0 ≤ B → -B ≤ z * c → z * c ≤ B → -B ≤ z ∧ z ≤ B := by
  intro z B hB h1 h2
  have h3 : (z * c).natAbs ≤ B.natAbs := by omega
  rw [Int.natAbs_mul] at h3
  have h4 : z.natAbs * 1 ≤ z.natAbs * c.natAbs := Nat.mul_le_mul_left _ (by omega)
  omega
 have b1 := bnd (a.num * v) 4611686018427387903 (by omega) (by omega) (by omega)
 have b2 := bnd (b.num * u) 4611686018427387903 (by omega) (by omega) (by omega)
 have b3 := bnd (u * (b.den : Int)) 4611686018427387903 (by omega) (by omega) (by omega)
 have lu : u ≤ (a.den : Int) := by
  have : u * 1 ≤ u * g := Int.mul_le_mul_of_nonneg_left (by omega) (by omega)
  rw [hu, Int.mul_comm g u]; omega
 have lv : v ≤ (b.den : Int) := by
  have : v * 1 ≤ v * g := Int.mul_le_mul_of_nonneg_left (by omega) (by omega)
  rw [hv, Int.mul_comm g v]; omega
 have es : a + b = ((a.num * v + b.num * u : Int) : Rat) / ((u * (b.den : Int) : Int) : Rat) := by
  have ea := rat_self a
  have eb := rat_self b
  have za := ne0 (d := (a.den : Int)) (by omega)
  have zb := ne0 (d := (b.den : Int)) (by omega)
  have zu := ne0 (d := u) (by omega)
  have zv := ne0 (d := v) (by omega)
  have zg := ne0 (d := g) (by omega)
  have hu' : ((a.den : Int) : Rat) = (g : Rat) * (u : Rat) := by rw [← castI, ← hu]
  have hv' : ((b.den : Int) : Rat) = (g : Rat) * (v : Rat) := by rw [← castI, ← hv]
  rw [castI, Rat.intCast_add, castI, castI]
  grind
 simp only [impl_addFractions.f]
 refine Ev.bind eg (ev_neg (by omega) ?_)
 rw [tu, tv, w64 (x := v) (by omega) (by omega), w64 (x := u) (by omega) (by omega), w64 (x := a.num * v) (by omega) (by omega), w64 (x := b.num * u) (by omega) (by omega),
  w64 (x := a.num * v + b.num * u) (by omega) (by omega), w64 (x := u * (b.den : Int)) (by omega) (by omega)]
 refine Ev.bind (fraction_ev _ _ (by omega) (by omega) (by omega) (by omega) (by omega)) (ev_some ?_)
 rw [es]
def sI (U D : Int) (away : Bool) (i : Nat) : Rat := ((gA U D away i : Int) : Rat) / ((D ^ i : Int) : Rat)
def tI (U D : Int) (i : Nat) : Rat := ((U ^ i : Int) : Rat) / ((D ^ i : Int) : Rat)
theorem tI_succ {U D : Int} (hD : 10 ≤ D ∧ D ≤ 20) (i : Nat) : tI U D i * ((U : Rat) / (D : Rat)) = tI U D (i + 1) := by
 have z1 := ne0 (d := D) (by omega)
 have z2 := ne0 (d := D ^ i) (by have := pow_bd hD i; omega)
 unfold tI
 rw [Int.pow_succ, Int.pow_succ, castI, castI]
 grind
theorem sI_succ {U D : Int} (hD : 10 ≤ D ∧ D ≤ 20) (away : Bool) (i : Nat) : sI U D away (i + 1) = if (decide (0 < i) || away) = true then sI U D away i + tI U D i else sI U D away i := by
 have z1 := ne0 (d := D) (by omega)
 have z2 := ne0 (d := D ^ i) (by have := pow_bd hD i; omega)
 unfold sI tI
 rw [Int.pow_succ, gA, castI, castI]
 split
 ·rw [Rat.intCast_add]; grind
 ·rw [Int.add_zero]; grind
theorem sI_last {U D : Int} (hD : 10 ≤ D ∧ D ≤ 20) (p : S27) : sI U D p.f2 (nP p + 1) = sP U D p := by
 have z1 := ne0 (d := D) (by omega)
 have z2 := ne0 (d := D ^ nP p) (by have := pow_bd hD (nP p); omega)
 unfold sI sP gN
 rw [Int.pow_succ, gA, castI, castI]
 grind
theorem gw_l1 (U D : Int) (hU : 10 ≤ U ∧ U ≤ 20) (hD : 10 ≤ D ∧ D ≤ 20) (p : S27) (hp : okP p) (t : List S27) (len x14 : Int) (G : Rat) (r : Int × Int)
  (b1 : 1 ≤ G.num ∧ G.num ≤ 262144000000000 ∧ (G.den : Int) ≤ 512000000000) (b2 : 1 ≤ (G * sP U D p).num ∧ (G * sP U D p).num ≤ 262144000000000 ∧ ((G * sP U D p).den : Int) ≤ 512000000000)
  (hr : Ev (fun k => impl_gainWith.l0 k t len (wrap64 (x14 + 1)) ((U : Rat) / (D : Rat)).num (((U : Rat) / (D : Rat)).den : Int) (G * sP U D p).num ((G * sP U D p).den : Int)) r) : ∀ (d i : Nat), i + d = nP p + 1 →
  Ev (fun k => impl_gainWith.l1 k (i : Int) t len x14 ((U : Rat) / (D : Rat)).num (((U : Rat) / (D : Rat)).den : Int) G.num (G.den : Int) p.f0 p.f1 p.f2 (sI U D p.f2 i).num ((sI U D p.f2 i).den : Int) (tI U D i).num ((tI U D i).den : Int)) r
 | 0, i, hd => by
  obtain ⟨hn, h1, h8⟩ := nP_eq hp
  have hp0 := hp.1
  have hp1 := hp.2.1
  have hi : i = nP p + 1 := by omega
  subst hi
  rw [sI_last hD]
  have bS := gN_bd hU hD p.f2 (nP p) h1
  have bD := pow_bd hD (nP p)
  have c1 := pow_le9 (a := 20) (by omega) (show nP p ≤ 9 by omega)
  have c2 := pow_le9 (a := 40) (by omega) (show nP p ≤ 9 by omega)
  rw [p20] at c1
  rw [p40] at c2
  have l1 := num_le (B := 262144000000000) (by omega) (r := sP U D p) rfl (by omega) (by omega)
  have l2 := den_le (by omega) (r := sP U D p) rfl
  refine ev_succ ?_
  simp only [impl_gainWith.l1]
  rw [w64 (x := p.f0 + p.f1) (by omega) (by omega)]
  refine ev_neg (by omega) (Ev.bind (mulFr_ev G (sP U D p) (by omega) (by omega) (by omega) (by omega) (by omega) (by omega) (by omega) (by omega) (by omega)) ?_)
  exact hr
 | d + 1, i, hd => by
  obtain ⟨hn, h1, h8⟩ := nP_eq hp
  have hp0 := hp.1
  have hp1 := hp.2.1
  have ih := gw_l1 U D hU hD p hp t len x14 G r b1 b2 hr d (i + 1) (by omega)
  have bA := gA_bd hU hD p.f2 i
  have bU := pow_bd hU i
  have bD := pow_bd hD i
  have bU' := pow_bd hU (i + 1)
  have bD' := pow_bd hD (i + 1)
  have c1 := pow_le9 (a := 20) (by omega) (show i ≤ 9 by omega)
  have c2 := pow_le9 (a := 20) (by omega) (show i + 1 ≤ 9 by omega)
  rw [p20] at c1 c2
  have m1 : (i : Int) * 20 ^ i ≤ 9 * 512000000000 := Int.mul_le_mul (by omega) c1 (by omega) (by omega)
  have lt1 := num_le (B := 512000000000) (by omega) (r := tI U D i) rfl (by omega) (by omega)
  have lt2 := den_le (by omega) (r := tI U D i) rfl
  have lt3 := num_le (B := 512000000000) (by omega) (r := tI U D (i + 1)) rfl (by omega) (by omega)
  have lt4 := den_le (by omega) (r := tI U D (i + 1)) rfl
  have lq1 := num_le (B := 20) (n := U) (d := D) (by omega) (r := (U : Rat) / (D : Rat)) rfl (by omega) (by omega)
  have lq2 := den_le (n := U) (d := D) (by omega) (r := (U : Rat) / (D : Rat)) rfl
  have em : Ev (fun k => impl_mulFractions.f k (tI U D i).num ((tI U D i).den : Int) ((U : Rat) / (D : Rat)).num (((U : Rat) / (D : Rat)).den : Int)) (fr (tI U D (i + 1))) := by
   have := mulFr_ev (tI U D i) ((U : Rat) / (D : Rat)) (by omega) (by omega) (by omega) (by omega) (by omega) (by omega) (by rw [tI_succ hD]; omega) (by rw [tI_succ hD]; omega) (by rw [tI_succ hD]; omega)
   rw [tI_succ hD] at this; exact this
  have J : ∀ b : Bool, b = (decide (0 < i) || p.f2) → Ev (fun k => impl_gainWith.j2 k (i : Int) t len x14 b ((U : Rat) / (D : Rat)).num (((U : Rat) / (D : Rat)).den : Int) G.num (G.den : Int) p.f0 p.f1 p.f2 (sI U D p.f2 i).num ((sI U D p.f2 i).den : Int) (tI U D i).num ((tI U D i).den : Int)) r := by
   intro b hb
   rw [sI_succ hD, ← hb] at ih
   refine ev_succ ?_
   simp only [impl_gainWith.j2]
   rw [w64s (by omega)]
   refine ev_if (fun h => ?_) (fun h => ?_)
   ·rw [if_pos h] at ih
    refine Ev.bind (addFr_ev (sI U D p.f2 i) (tI U D i) (D ^ i) (gA U D p.f2 i) (U ^ i) (by omega) (by omega) rfl rfl (by omega) (by omega) (by omega) (by omega)) (Ev.bind em ?_)
    exact ih
   ·rw [if_neg h] at ih
    refine Ev.bind em ?_
    exact ih
  refine ev_succ ?_
  simp only [impl_gainWith.l1]
  rw [w64 (x := p.f0 + p.f1) (by omega) (by omega)]
  refine ev_pos (by omega) (ev_if (fun h => J true ?_) (fun h => J p.f2 ?_))
  ·have : 0 < i := by omega
   simp [this]
  ·have : ¬ 0 < i := by omega
   simp [this]
theorem gw_l0 (U D : Int) (hU : 10 ≤ U ∧ U ≤ 20) (hD : 10 ≤ D ∧ D ≤ 20) (t : List S27) (ho : okPs t) (hs : mT t ≤ 9) (hn : t.length ≤ 100) : ∀ (d i : Nat), i + d = t.length →
  Ev (fun k => impl_gainWith.l0 k t (t.length : Int) (i : Int) ((U : Rat) / (D : Rat)).num (((U : Rat) / (D : Rat)).den : Int) (gT U D (t.take i)).num ((gT U D (t.take i)).den : Int)) (fr (gT U D t))
 | 0, i, hd => by
  refine ev_succ ?_
  simp only [impl_gainWith.l0]
  refine ev_neg (by omega) (ev_some ?_)
  rw [List.take_of_length_le (by omega)]; rfl
 | d + 1, i, hd => by
  have hi : i < t.length := by omega
  have ih := gw_l0 U D hU hD t ho hs hn d (i + 1) (by omega)
  have et : t.take (i + 1) = t.take i ++ [t[i]] := by rw [List.take_succ_eq_append_getElem hi]
  have eg : gT U D (t.take (i + 1)) = gT U D (t.take i) * sP U D t[i] := by
   rw [et, gT_append]; simp only [gT]; grind
  have hp := ho _ (List.getElem_mem hi)
  have hm : mT (t.take (i + 1)) ≤ 9 := by
   have := mT_append (t.take (i + 1)) (t.drop (i + 1)); rw [List.take_append_drop] at this; omega
  have hm' : mT (t.take i) ≤ 9 := by
   have := mT_append (t.take i) (t.drop i); rw [List.take_append_drop] at this; omega
  have ho1 : okPs (t.take i) := fun q hq => ho q (List.mem_of_mem_take hq)
  have ho2 : okPs (t.take (i + 1)) := fun q hq => ho q (List.mem_of_mem_take hq)
  have b1 := gT_bd hU hD (t.take i) ho1 hm'
  have b2 := gT_bd hU hD (t.take (i + 1)) ho2 hm
  rw [eg] at b2 ih
  have main := gw_l1 U D hU hD t[i] hp t (t.length : Int) (i : Int) (gT U D (t.take i)) (fr (gT U D t)) b1 b2 (by rw [w64s (by omega)]; exact ih) (nP t[i] + 1) 0 (by omega)
  have f0 := fraction_ev 0 1 (by omega) (by omega) (by omega) (by omega) (by omega)
  have f1 := fraction_ev 1 1 (by omega) (by omega) (by omega) (by omega) (by omega)
  have s0 : sI U D t[i].f2 0 = ((0 : Int) : Rat) / ((1 : Int) : Rat) := by simp [sI, gA]
  have s1 : tI U D 0 = ((1 : Int) : Rat) / ((1 : Int) : Rat) := by simp [tI]
  rw [s0, s1] at main
  refine ev_succ ?_
  simp only [impl_gainWith.l0]
  rw [rdP hi]
  refine ev_pos (by omega) (ev_pos (by omega) (ev_pos (by omega) (Ev.bind f0 (Ev.bind f1 ?_))))
  exact main
theorem gw_ev (U D : Int) (hU : 10 ≤ U ∧ U ≤ 20) (hD : 10 ≤ D ∧ D ≤ 20) (t : List S27) (ho : okPs t) (hs : mT t ≤ 9) (hn : t.length ≤ 100) :
  Ev (fun k => impl_gainWith.f k t ((U : Rat) / (D : Rat)).num (((U : Rat) / (D : Rat)).den : Int)) (fr (gT U D t)) := by
 have := gw_l0 U D hU hD t ho hs hn t.length 0 (by omega)
 have f1 := fraction_ev 1 1 (by omega) (by omega) (by omega) (by omega) (by omega)
 have e1 : ((1 : Int) : Rat) / ((1 : Int) : Rat) = 1 := by simp; grind
 rw [e1] at f1
 simp only [impl_gainWith.f]
 exact Ev.bind f1 this
theorem okT_few {t : List S27} (h : okT t) (hs : shT t ≤ 9) : okPs t ∧ mT t ≤ 9 ∧ t.length ≤ 100 := by
 have := mT_eq h.1
 have := h.2.2
 exact ⟨h.1, by omega, by omega⟩
theorem implHold_ev (t : List S27) (loss : Int) (h : okT t) (hs : shT t ≤ 9) (hl : 0 ≤ loss ∧ loss ≤ 10) : Ev (fun k => impl_holdGain.f k t loss) (fr (gT 20 (20 - loss) t)) := by
 obtain ⟨h1, h2, h3⟩ := okT_few h hs
 simp only [impl_holdGain.f]
 rw [w64 (x := 20 - loss) (by omega) (by omega)]
 exact Ev.bind (fraction_ev 20 (20 - loss) (by omega) (by omega) (by omega) (by omega) (by omega)) (Ev.bind (gw_ev 20 (20 - loss) (by omega) (by omega) t h1 h2 h3) (Ev.now _))
theorem implRaise_ev (t : List S27) (loss : Int) (h : okT t) (hs : shT t ≤ 9) (hl : 0 ≤ loss ∧ loss ≤ 10) : Ev (fun k => impl_raiseGain.f k t loss) (fr (gT (20 - loss) 20 t)) := by
 obtain ⟨h1, h2, h3⟩ := okT_few h hs
 simp only [impl_raiseGain.f]
 rw [w64 (x := 20 - loss) (by omega) (by omega)]
 exact Ev.bind (fraction_ev (20 - loss) 20 (by omega) (by omega) (by omega) (by omega) (by omega)) (Ev.bind (gw_ev (20 - loss) 20 (by omega) (by omega) t h1 h2 h3) (Ev.now _))
def cI (away : Bool) : Nat → Int
 | 0 => 0
 | i + 1 => cI away i + if (decide (0 < i) || away) = true then 1 else 0
theorem cI_succ (away : Bool) : ∀ i : Nat, cI away (i + 1) = (i : Int) + if away = true then 1 else 0
 | 0 => by simp [cI]
 | i + 1 => by
  rw [cI, cI_succ away i]
  have : (decide (0 < i + 1) || away) = true := by simp
  rw [if_pos this]; omega
theorem cI_nonneg (away : Bool) : ∀ i : Nat, 0 ≤ cI away i
 | 0 => by simp [cI]
 | i + 1 => by rw [cI_succ]; split <;> omega
def partsP (p : S27) : Int := p.f0 + p.f1 + if p.f2 = true then 1 else 0
def advT : List S27 → Int
 | [] => 1
 | p :: t => partsP p * advT t
theorem partsP_bd {p : S27} (h : okP p) : 1 ≤ partsP p ∧ partsP p ≤ 9 ∧ partsP p ≤ (nP p : Int) + 1 := by
 have h1 := nP_eq h
 unfold partsP; split <;> omega
theorem partsP_cI {p : S27} (h : okP p) : partsP p = cI p.f2 (nP p) + 1 := by
 obtain ⟨h1, h2, _⟩ := nP_eq h
 obtain ⟨m, hm⟩ : ∃ m, nP p = m + 1 := ⟨nP p - 1, by omega⟩
 rw [hm, cI_succ]; unfold partsP; rw [← h1, hm]; omega
theorem pow_mono {U D : Int} (hU : 10 ≤ U ∧ U ≤ 20) (h : U ≤ D) : ∀ i : Nat, U ^ i ≤ D ^ i
 | 0 => by simp
 | i + 1 => by
  rw [Int.pow_succ, Int.pow_succ]
  exact Int.mul_le_mul (pow_mono hU h i) h (by omega) (by have := pow_bd hU i; have := pow_mono hU h i; omega)
theorem gA_le {U D : Int} (hU : 10 ≤ U ∧ U ≤ 20) (hD : 10 ≤ D ∧ D ≤ 20) (h : U ≤ D) (away : Bool) : ∀ i : Nat, gA U D away i ≤ cI away i * D ^ i
 | 0 => by simp [gA, cI]
 | i + 1 => by
  have ih := gA_le hU hD h away i
  have hp := pow_mono hU h i
  have h1 : gA U D away i + (if (decide (0 < i) || away) = true then U ^ i else 0) ≤ cI away (i + 1) * D ^ i := by
   rw [cI, Int.add_mul]; split <;> omega
  rw [gA, Int.pow_succ, ← Int.mul_assoc]
  exact Int.mul_le_mul_of_nonneg_right h1 (by omega)
theorem gA_ge {U D : Int} (hU : 10 ≤ U ∧ U ≤ 20) (hD : 10 ≤ D ∧ D ≤ 20) (h : D ≤ U) (away : Bool) : ∀ i : Nat, cI away i * D ^ i ≤ gA U D away i
 | 0 => by simp [gA, cI]
 | i + 1 => by
  have ih := gA_ge hU hD h away i
  have hp := pow_mono hD h i
  have h1 : cI away (i + 1) * D ^ i ≤ gA U D away i + (if (decide (0 < i) || away) = true then U ^ i else 0) := by
   rw [cI, Int.add_mul]; split <;> omega
  rw [gA, Int.pow_succ, ← Int.mul_assoc]
  exact Int.mul_le_mul_of_nonneg_right h1 (by omega)
theorem gN_le {U D : Int} (hU : 10 ≤ U ∧ U ≤ 20) (hD : 10 ≤ D ∧ D ≤ 20) (h : U ≤ D) {p : S27} (hp : okP p) : gN U D p.f2 (nP p) ≤ partsP p * D ^ nP p := by
 have h1 := gA_le hU hD h p.f2 (nP p)
 have h2 := pow_mono hU h (nP p)
 rw [partsP_cI hp, Int.add_mul]
 have := (nP_eq hp).2.1
 unfold gN; rw [if_pos (by simp; omega)]; omega
theorem gN_ge {U D : Int} (hU : 10 ≤ U ∧ U ≤ 20) (hD : 10 ≤ D ∧ D ≤ 20) (h : D ≤ U) {p : S27} (hp : okP p) : partsP p * D ^ nP p ≤ gN U D p.f2 (nP p) := by
 have h1 := gA_ge hU hD h p.f2 (nP p)
 have h2 := pow_mono hD h (nP p)
 rw [partsP_cI hp, Int.add_mul]
 have := (nP_eq hp).2.1
 unfold gN; rw [if_pos (by simp; omega)]; omega
theorem advT_bd {t : List S27} (h : okPs t) : 1 ≤ advT t ∧ advT t ≤ 9 ^ t.length := by
 induction t with
 | nil => simp [advT]
 | cons p t ih =>
  have ih := ih (fun q hq => h q (by simp [hq]))
  have h1 := partsP_bd (h p (by simp))
  simp only [advT, List.length_cons]
  rw [Int.pow_succ, Int.mul_comm (9 ^ t.length) 9]
  constructor
  ·have := Int.mul_le_mul h1.1 ih.1 (by omega) (by omega); omega
  ·exact Int.mul_le_mul h1.2.1 ih.2 (by omega) (by omega)
theorem p9 : (9 : Int) ^ 6 = 531441 := by decide
theorem advT_le {t : List S27} (h : okT t) : 1 ≤ advT t ∧ advT t ≤ 531441 := by
 have h1 := advT_bd h.1
 have h2 : (9 : Int) ^ t.length ≤ 9 ^ 6 := by
  obtain ⟨d, hd⟩ : ∃ d, 6 = t.length + d := ⟨6 - t.length, by have := h.2.2; omega⟩
  rw [hd, Int.pow_add]
  have : (1 : Int) ≤ 9 ^ d := by have := Int.pow_pos (n := 9) (m := d) (by omega); omega
  have := Int.mul_le_mul (Int.le_refl ((9 : Int) ^ t.length)) this (by omega) (by omega)
  omega
 rw [p9] at h2
 omega
theorem nT_le {U D : Int} (hU : 10 ≤ U ∧ U ≤ 20) (hD : 10 ≤ D ∧ D ≤ 20) (h : U ≤ D) (t : List S27) (ho : okPs t) : nT U D t ≤ advT t * eT D t := by
 induction t with
 | nil => simp [nT, advT, eT]
 | cons p t ih =>
  have ho' : okPs t := fun q hq => ho q (by simp [hq])
  have ih := ih ho'
  have h1 := gN_le hU hD h (ho p (by simp))
  have h2 := nT_bd hU hD t ho'
  have h3 := gN_bd hU hD p.f2 (nP p) (nP_eq (ho p (by simp))).2.1
  simp only [nT, advT, eT]
  have := Int.mul_le_mul h1 ih (by omega) (by omega)
  have e : partsP p * D ^ nP p * (advT t * eT D t) = partsP p * advT t * (D ^ nP p * eT D t) := by grind
  omega
theorem nT_ge {U D : Int} (hU : 10 ≤ U ∧ U ≤ 20) (hD : 10 ≤ D ∧ D ≤ 20) (h : D ≤ U) (t : List S27) (ho : okPs t) : advT t * eT D t ≤ nT U D t := by
 induction t with
 | nil => simp [nT, advT, eT]
 | cons p t ih =>
  have ho' : okPs t := fun q hq => ho q (by simp [hq])
  have ih := ih ho'
  have h1 := gN_ge hU hD h (ho p (by simp))
  have h2 := nT_bd hU hD t ho'
  have h3 := gN_bd hU hD p.f2 (nP p) (nP_eq (ho p (by simp))).2.1
  have h4 := (advT_bd ho').1
  have h5 : 0 ≤ advT t * eT D t := Int.mul_nonneg (by omega) (by omega)
  simp only [nT, advT, eT]
  have := Int.mul_le_mul h1 ih h5 (by omega)
  have e : partsP p * D ^ nP p * (advT t * eT D t) = partsP p * advT t * (D ^ nP p * eT D t) := by grind
  omega
theorem gT_le_adv {U D : Int} (hU : 10 ≤ U ∧ U ≤ 20) (hD : 10 ≤ D ∧ D ≤ 20) (h : U ≤ D) (t : List S27) (ho : okPs t) : (gT U D t).num ≤ advT t * ((gT U D t).den : Int) := by
 have hb := nT_bd hU hD t ho
 obtain ⟨m, hm, e1, e2⟩ := num_scale (by omega) (gT_eq (U := U) hD t)
 have h1 := nT_le hU hD h t ho
 rw [e1, e2, ← Int.mul_assoc] at h1
 exact Int.le_of_mul_le_mul_right h1 (by omega)
theorem gT_ge_adv {U D : Int} (hU : 10 ≤ U ∧ U ≤ 20) (hD : 10 ≤ D ∧ D ≤ 20) (h : D ≤ U) (t : List S27) (ho : okPs t) : advT t * ((gT U D t).den : Int) ≤ (gT U D t).num := by
 have hb := nT_bd hU hD t ho
 obtain ⟨m, hm, e1, e2⟩ := num_scale (by omega) (gT_eq (U := U) hD t)
 have h1 := nT_ge hU hD h t ho
 rw [e1, e2, ← Int.mul_assoc] at h1
 exact Int.le_of_mul_le_mul_right h1 (by omega)
theorem few_parts : ∀ n : Fin 9, 1 ≤ n.val → (n.val + 1) * 3 * 2 ^ n.val ≤ 4 * 3 ^ n.val := by decide
theorem advT_few {t : List S27} (h : okPs t) : advT t * (3 ^ t.length * 2 ^ mT t) ≤ 4 ^ t.length * 3 ^ mT t := by
 induction t with
 | nil => simp [advT, mT]
 | cons p t ih =>
  have ih := ih (fun q hq => h q (by simp [hq]))
  have h1 := partsP_bd (h p (by simp))
  have h2 := nP_eq (h p (by simp))
  have h3 := (advT_bd (t := t) (fun q hq => h q (by simp [hq]))).1
  have h4 := few_parts ⟨nP p, by omega⟩ h2.2.1
  have h5 : partsP p * (3 * 2 ^ nP p) ≤ 4 * 3 ^ nP p := by
   have q1 : partsP p * (3 * 2 ^ nP p) ≤ ((nP p : Int) + 1) * (3 * 2 ^ nP p) := Int.mul_le_mul_of_nonneg_right h1.2.2 (by have := Int.pow_pos (n := 2) (m := nP p) (by omega); omega)
   have q2 : ((nP p : Int) + 1) * (3 * 2 ^ nP p) ≤ 4 * 3 ^ nP p := by
    have := Int.ofNat_le.2 h4
    simp only [Int.natCast_mul, Int.natCast_add, Int.natCast_pow] at this
    rw [← Int.mul_assoc]; simpa using this
   omega
  have e1 : partsP p * advT t * (3 ^ (t.length + 1) * 2 ^ (nP p + mT t)) = partsP p * (3 * 2 ^ nP p) * (advT t * (3 ^ t.length * 2 ^ mT t)) := by
   rw [Int.pow_succ, Int.pow_add]; grind
  have e2 : (4 : Int) ^ (t.length + 1) * 3 ^ (nP p + mT t) = 4 * 3 ^ nP p * (4 ^ t.length * 3 ^ mT t) := by
   rw [Int.pow_succ, Int.pow_add]; grind
  simp only [advT, mT, List.length_cons]
  rw [e1, e2]
  refine Int.mul_le_mul h5 ih ?_ ?_
  ·refine Int.mul_nonneg (by omega) (Int.mul_nonneg ?_ ?_)
   ·exact Int.le_of_lt (Int.pow_pos (by omega))
   ·exact Int.le_of_lt (Int.pow_pos (by omega))
  ·exact Int.mul_nonneg (by omega) (Int.le_of_lt (Int.pow_pos (by omega)))
theorem few_all : ∀ (l : Fin 7) (m : Fin 10), 4 ^ l.val * 3 ^ m.val ≤ 216 * (3 ^ l.val * 2 ^ m.val) := by decide
theorem advT_216 {t : List S27} (h : okT t) (hs : mT t ≤ 9) : advT t ≤ 216 := by
 have h1 := advT_few h.1
 have h2 := few_all ⟨t.length, by have := h.2.2; omega⟩ ⟨mT t, by omega⟩
 have h3 : (4 : Int) ^ t.length * 3 ^ mT t ≤ 216 * (3 ^ t.length * 2 ^ mT t) := by
  have := Int.ofNat_le.2 h2
  simp only [Int.natCast_mul, Int.natCast_pow] at this
  simpa using this
 have h4 : (0 : Int) < 3 ^ t.length * 2 ^ mT t := Int.mul_pos (Int.pow_pos (by omega)) (Int.pow_pos (by omega))
 exact Int.le_of_mul_le_mul_right (Int.le_trans h1 h3) h4
theorem gT_tight {U : Int} (hU : 10 ≤ U ∧ U ≤ 20) (t : List S27) (h : okT t) (hs : mT t ≤ 9) : (gT U 20 t).num ≤ 110592000000000 := by
 have hb := nT_bd hU (D := 20) (by omega) t h.1
 have h1 := nT_le hU (D := 20) (by omega) (by omega) t h.1
 have h2 := advT_216 h hs
 have h3 := pow_le9 (a := 20) (by omega) hs
 rw [p20] at h3
 have h4 : advT t * eT 20 t ≤ 216 * 512000000000 := Int.mul_le_mul h2 (by omega) (by omega) (by omega)
 exact (num_le (B := 110592000000000) (by omega) (gT_eq (U := U) (D := 20) (by omega) t) (by omega) (by omega)).2
theorem l05Parts_eq {p : S27} (h : okP p) : spec_l05Parts_at.f p.f0 p.f1 p.f2 = some (partsP p) := by
 have h1 := h.1
 have h2 := h.2.1
 unfold spec_l05Parts_at.f spec_l05Parts.f partsP
 rw [w64 (x := p.f0 + p.f1) (by omega) (by omega)]
 by_cases e : p.f2 = true
 ·rw [if_pos e, if_pos e, w64 (by omega) (by omega)]; rfl
 ·rw [if_neg e, if_neg e]; simp
theorem l05Adv_l0 (x0 : List S27) (ho : okPs x0) (hl : x0.length ≤ 6) : ∀ (d i : Nat) (s : Int), i + d = x0.length → 1 ≤ s → s ≤ 9 ^ i →
  Ev (fun k => spec_l05Advantage.l0 k x0 s (i : Int)) (s * advT (x0.drop i))
 | 0, i, s, hd, h0, h1 => by
  refine ev_succ ?_
  simp only [spec_l05Advantage.l0]
  have e : x0.drop i = [] := by simp; omega
  refine ev_neg (by omega) (ev_some ?_)
  rw [e]; simp [advT]
 | d + 1, i, s, hd, h0, h1 => by
  have hi : i < x0.length := by omega
  have hp := ho _ (List.getElem_mem hi)
  have hb := partsP_bd hp
  have h9 : (9 : Int) ^ i ≤ 531441 := by
   have : ∀ j : Fin 7, (9 : Nat) ^ j.val ≤ 531441 := by decide
   have := Int.ofNat_le.2 (this ⟨i, by omega⟩)
   simpa using this
  have m1 : s * partsP x0[i] ≤ 9 ^ i * 9 := Int.mul_le_mul h1 hb.2.1 (by omega) (by omega)
  have m2 : 1 ≤ s * partsP x0[i] := by have := Int.mul_le_mul h0 hb.1 (by omega) (by omega); omega
  refine ev_succ ?_
  simp only [spec_l05Advantage.l0]
  rw [rdP hi, w64s (by omega), List.drop_eq_getElem_cons hi]
  refine ev_pos (by omega) (ev_pos (by omega) (ev_now (l05Parts_eq hp) ?_))
  rw [w64 (x := s * partsP x0[i]) (by omega) (by omega)]
  have := l05Adv_l0 x0 ho hl d (i + 1) (s * partsP x0[i]) (by omega) m2 (by rw [Int.pow_succ]; exact m1)
  simp only [advT]
  rw [← Int.mul_assoc]; exact this
theorem l05Adv_ev (t : List S27) (h : okT t) : Ev (fun k => spec_l05Advantage.f k t) (advT t) := by
 have := l05Adv_l0 t h.1 h.2.2 t.length 0 1 (by omega) (by omega) (by simp)
 rw [List.drop_zero, Int.one_mul] at this
 simp only [spec_l05Advantage.f]; exact this
theorem partsOf_eq {p : S27} (h : okP p) : impl_partsOf.f p.f0 p.f1 p.f2 = some (partsP p) := by
 have h1 := h.1
 have h2 := h.2.1
 unfold impl_partsOf.f partsP
 rw [w64 (x := p.f0 + p.f1) (by omega) (by omega)]
 by_cases e : p.f2 = true
 ·rw [if_pos e, if_pos e, w64 (by omega) (by omega)]
 ·rw [if_neg e, if_neg e]; simp
theorem advOf_l0 (x0 : List S27) (ho : okPs x0) (hl : x0.length ≤ 6) : ∀ (d i : Nat) (s : Int), i + d = x0.length → 1 ≤ s → s ≤ 9 ^ i →
  Ev (fun k => impl_advantageOf.l0 k s x0 (x0.length : Int) (i : Int)) (s * advT (x0.drop i))
 | 0, i, s, hd, h0, h1 => by
  refine ev_succ ?_
  simp only [impl_advantageOf.l0]
  have e : x0.drop i = [] := by simp; omega
  refine ev_neg (by omega) (ev_some ?_)
  rw [e]; simp [advT]
 | d + 1, i, s, hd, h0, h1 => by
  have hi : i < x0.length := by omega
  have hp := ho _ (List.getElem_mem hi)
  have hb := partsP_bd hp
  have h9 : (9 : Int) ^ i ≤ 531441 := by
   have : ∀ j : Fin 7, (9 : Nat) ^ j.val ≤ 531441 := by decide
   have := Int.ofNat_le.2 (this ⟨i, by omega⟩)
   simpa using this
  have m1 : s * partsP x0[i] ≤ 9 ^ i * 9 := Int.mul_le_mul h1 hb.2.1 (by omega) (by omega)
  have m2 : 1 ≤ s * partsP x0[i] := by have := Int.mul_le_mul h0 hb.1 (by omega) (by omega); omega
  refine ev_succ ?_
  simp only [impl_advantageOf.l0]
  rw [rdP hi, w64s (by omega), List.drop_eq_getElem_cons hi]
  refine ev_pos (by omega) (ev_pos (by omega) (ev_pos (by omega) (ev_now (partsOf_eq hp) ?_)))
  rw [w64 (x := s * partsP x0[i]) (by omega) (by omega)]
  have := advOf_l0 x0 ho hl d (i + 1) (s * partsP x0[i]) (by omega) m2 (by rw [Int.pow_succ]; exact m1)
  simp only [advT]
  rw [← Int.mul_assoc]; exact this
theorem advOf_ev (t : List S27) (h : okT t) : Ev (fun k => impl_advantageOf.f k t) (advT t) := by
 have := advOf_l0 t h.1 h.2.2 t.length 0 1 (by omega) (by omega) (by simp)
 rw [List.drop_zero, Int.one_mul] at this
 simp only [impl_advantageOf.f]; exact this
theorem eff_eq (q : Rat) (a : Int) : q * (((1 : Int) : Rat) / (a : Rat)) = ((q.num : Int) : Rat) / (((q.den : Int) * a : Int) : Rat) := by
 have e := rat_self q
 have z := ne0 (d := (q.den : Int)) (by have := den_pos q; omega)
 rw [castI]
 generalize ((q.den : Int) : Rat) = d at *
 generalize (q.num : Rat) = n at *
 subst e
 grind
theorem low32 (x : Int) (h0 : 0 ≤ x) (h1 : x < 18446744073709551616) : Go.bits .and .u64 x 4294967295 = x % 4294967296 := by
 rw [u64_and x 4294967295 h0 h1 (by omega) (by omega)]
 have e : x.toNat &&& (4294967295 : Int).toNat = x.toNat % 2 ^ 32 := Nat.and_two_pow_sub_one_eq_mod x.toNat 32
 rw [e]; omega
theorem u64w (x : Int) : IntKind.u64.wrap x = x % 18446744073709551616 := by simp [IntKind.wrap, IntKind.bits, IntKind.signed]
theorem mul64_eq (a b : Int) (ha : 0 ≤ a) (ha' : a < 18446744073709551616) (hb : 0 ≤ b) (hb' : b < 18446744073709551616) :
  bits_Mul64.f a b = some (a * b / 18446744073709551616, a * b % 18446744073709551616) := by
 unfold bits_Mul64.f
 rw [low32 a ha ha', low32 b hb hb']
 simp only [u64w]
 have d1 : a / 4294967296 * (b / 4294967296) ≤ 4294967295 * 4294967295 ∧ 0 ≤ a / 4294967296 * (b / 4294967296) := ⟨Int.mul_le_mul (by omega) (by omega) (by omega) (by omega), Int.mul_nonneg (by omega) (by omega)⟩
 have d2 : a / 4294967296 * (b % 4294967296) ≤ 4294967295 * 4294967295 ∧ 0 ≤ a / 4294967296 * (b % 4294967296) := ⟨Int.mul_le_mul (by omega) (by omega) (by omega) (by omega), Int.mul_nonneg (by omega) (by omega)⟩
 have d3 : a % 4294967296 * (b % 4294967296) ≤ 4294967295 * 4294967295 ∧ 0 ≤ a % 4294967296 * (b % 4294967296) := ⟨Int.mul_le_mul (by omega) (by omega) (by omega) (by omega), Int.mul_nonneg (by omega) (by omega)⟩
 have d4 : a % 4294967296 * (b / 4294967296) ≤ 4294967295 * 4294967295 ∧ 0 ≤ a % 4294967296 * (b / 4294967296) := ⟨Int.mul_le_mul (by omega) (by omega) (by omega) (by omega), Int.mul_nonneg (by omega) (by omega)⟩
 have e : a * b = a / 4294967296 * (b / 4294967296) * 18446744073709551616 + (a / 4294967296 * (b % 4294967296) + a % 4294967296 * (b / 4294967296)) * 4294967296 + a % 4294967296 * (b % 4294967296) := by
  have ea : a = a / 4294967296 * 4294967296 + a % 4294967296 := by omega
  have eb : b = b / 4294967296 * 4294967296 + b % 4294967296 := by omega
  generalize a / 4294967296 = x at *
  generalize a % 4294967296 = y at *
  generalize b / 4294967296 = z at *
  generalize b % 4294967296 = w at *
  subst ea eb
  grind
 have hhi : a * b / 18446744073709551616 < 18446744073709551616 := by
  have : a * b ≤ 18446744073709551615 * 18446744073709551615 := Int.mul_le_mul (by omega) (by omega) (by omega) (by omega)
  omega
 rw [e] at hhi ⊢
 generalize a / 4294967296 * (b / 4294967296) = S at *
 generalize a / 4294967296 * (b % 4294967296) = Q at *
 generalize a % 4294967296 * (b % 4294967296) = P at *
 generalize a % 4294967296 * (b / 4294967296) = R at *
 clear e
 congr 1
 apply Prod.ext
 ·show _ = _
  dsimp only
  rw [Int.emod_eq_of_lt d1.2 (by omega), Int.emod_eq_of_lt d2.2 (by omega), Int.emod_eq_of_lt d3.2 (by omega), Int.emod_eq_of_lt d4.2 (by omega)]
  rw [Int.emod_eq_of_lt (a := Q + P / 4294967296) (by omega) (by omega), low32 _ (by omega) (by omega)]
  rw [Int.emod_eq_of_lt (a := (Q + P / 4294967296) % 4294967296 + R) (by omega) (by omega)]
  rw [Int.emod_eq_of_lt (a := S + (Q + P / 4294967296) / 4294967296) (by omega) (by omega)]
  have hs : S ≤ 18446744065119617025 := d1.1
  have key : (S * 18446744073709551616 + (Q + R) * 4294967296 + P) / 18446744073709551616 = S + (Q + P / 4294967296) / 4294967296 + ((Q + P / 4294967296) % 4294967296 + R) / 4294967296 := by
   omega
  have hh : (S * 18446744073709551616 + (Q + R) * 4294967296 + P) / 18446744073709551616 < 18446744073709551616 := hhi
  have hl : 0 ≤ S + (Q + P / 4294967296) / 4294967296 + ((Q + P / 4294967296) % 4294967296 + R) / 4294967296 := by omega
  rw [key] at hh ⊢
  exact Int.emod_eq_of_lt hl hh
 ·rfl
def cmpI (x y : Int) : Int := if x < y then -1 else if x > y then 1 else 0
theorem or2_ev (x y : Int) : Ev (fun k => cmp_Or_int.f k [x, y]) (if x = 0 then y else x) := by
 simp only [cmp_Or_int.f]
 have e2 : Ev (fun k => cmp_Or_int.l0 k 0 [x, y] 2 2) 0 := by
  refine ev_succ ?_; simp only [cmp_Or_int.l0]; exact ev_neg (by omega) (Ev.now _)
 have e1 : Ev (fun k => cmp_Or_int.l0 k 0 [x, y] 2 1) y := by
  refine ev_succ ?_; simp only [cmp_Or_int.l0]
  refine ev_pos (by omega) (ev_pos (by omega) (ev_pos (by simp) (ev_if (fun h => ?_) (fun h => ev_some rfl))))
  have h' : y = 0 := h
  rw [h', w64 (by omega) (by omega)]
  rw [h'] at e2
  exact e2
 refine ev_succ ?_; simp only [cmp_Or_int.l0]
 refine ev_pos (by simp) (ev_pos (by omega) (ev_pos (by simp) (ev_if (fun h => ?_) (fun h => ev_some ?_))))
 ·have h' : x = 0 := h
  rw [if_pos h', w64 (by omega) (by omega)]
  exact e1
 ·have h' : ¬ x = 0 := h
  rw [if_neg h']; rfl
theorem cmpU_eq (x y : Int) : cmp_Compare_uint64.f x y = some (cmpI x y) := by
 unfold cmp_Compare_uint64.f cmp_isNaN_uint64.f cmpI
 simp only [bne_self_eq_false, Option.bind_some, Bool.false_eq_true, if_false]
 by_cases h1 : x < y
 ·rw [if_pos h1, if_pos h1]
 ·rw [if_neg h1, if_neg h1]
  by_cases h2 : x > y
  ·rw [if_pos h2, if_pos h2]
  ·rw [if_neg h2, if_neg h2]
theorem cmpP_ev (a b c d : Int) (ha : 0 ≤ a) (ha' : a < 18446744073709551616) (hb : 0 ≤ b) (hb' : b < 18446744073709551616) (hc : 0 ≤ c) (hc' : c < 18446744073709551616) (hd : 0 ≤ d) (hd' : d < 18446744073709551616) :
  Ev (fun k => impl_compareProducts.f k a b c d) (cmpI (a * b) (c * d)) := by
 simp only [impl_compareProducts.f]
 refine ev_now (mul64_eq a b ha ha' hb hb') (ev_now (mul64_eq c d hc hc' hd hd') (ev_now (cmpU_eq _ _) (ev_now (cmpU_eq _ _) (Ev.bind (or2_ev _ _) (ev_some ?_)))))
 dsimp only
 generalize a * b = p
 generalize c * d = q
 unfold cmpI
 repeat' split
 all_goals omega
theorem size_eq (a : Int) (h : 0 ≤ a) (h' : a < 9223372036854775808) : impl_size.f a = some a := by
 unfold impl_size.f; rw [if_neg (by omega), u64w, Int.emod_eq_of_lt h (by omega)]
theorem cmpFr_ev (a b c d : Int) (ha : 0 < a) (ha' : a < 9223372036854775808) (hb : 0 < b) (hb' : b < 9223372036854775808) (hc : 0 < c) (hc' : c < 9223372036854775808) (hd : 0 < d) (hd' : d < 9223372036854775808) :
  Ev (fun k => impl_compareFractions.f k a b c d) (cmpI (a * d) (c * b)) := by
 have s1 : impl_sign.f a = some 1 := by unfold impl_sign.f; rw [if_pos ha]
 have s2 : impl_sign.f c = some 1 := by unfold impl_sign.f; rw [if_pos hc]
 have c0 : cmp_Compare_int64.f 1 1 = some 0 := by decide
 have e1 := cmpP_ev a d c b (by omega) (by omega) (by omega) (by omega) (by omega) (by omega) (by omega) (by omega)
 simp only [impl_compareFractions.f]
 refine ev_now s1 (ev_now s2 (ev_now c0 (ev_now s1 (ev_now (size_eq a (by omega) ha') (ev_now (size_eq d (by omega) hd') (ev_now (size_eq c (by omega) hc') (ev_now (size_eq b (by omega) hb') (Ev.bind e1 ?_))))))))
 have hb : -1 ≤ cmpI (a * d) (c * b) ∧ cmpI (a * d) (c * b) ≤ 1 := by unfold cmpI; (repeat' split) <;> omega
 rw [Int.one_mul, w64 (by omega) (by omega)]
 exact Ev.bind (or2_ev _ _) (ev_some (by rw [if_pos rfl]))
theorem codeL_ok {t : List S27} (h : okT t) (hs : shT t ≤ 9) {a : Int} (ha : 0 ≤ a ∧ a ≤ 10) : codeL t a 1 = 0 := by
 unfold codeL; rw [if_pos h, if_pos ⟨ha, by omega, by omega⟩, if_neg (by omega)]
theorem codeR_ok {t u : List S27} (h : okT t) (hs : shT t ≤ 9) (h' : okT u) (hs' : shT u ≤ 9) {a : Int} (ha : 0 ≤ a ∧ a ≤ 10) : codeR [t, u] a 1 = 0 := by
 unfold codeR; simp only [List.mem_cons, List.not_mem_nil, or_false, forall_eq_or_imp, forall_eq]
 rw [if_pos ⟨h, h'⟩, if_pos ⟨ha, by omega, by omega⟩, if_pos ⟨hs, hs'⟩]
theorem raise_ev (t : List S27) (h : okT t) (hs : shT t ≤ 9) (a : Int) (ha : 0 ≤ a ∧ a ≤ 10) : Ev (fun k => impl_RaiseGain.f k t a) ((gT (20 - a) 20 t).num, ((gT (20 - a) 20 t).den : Int), 0) := by
 have ei := rough_ev [t] (by simp) a 1
 rw [codeR_one, codeL_ok h hs ha] at ei
 have e2 := implRaise_ev t a h hs ha
 simp only [impl_RaiseGain.f]; exact Ev.bind ei (ev_pos (by trivial) (Ev.bind e2 (Ev.now _)))
theorem hold_ev (t : List S27) (h : okT t) (hs : shT t ≤ 9) (a : Int) (ha : 0 ≤ a ∧ a ≤ 10) : Ev (fun k => impl_HoldGain.f k t a) ((gT 20 (20 - a) t).num, ((gT 20 (20 - a) t).den : Int), 0) := by
 have ei := rough_ev [t] (by simp) a 1
 rw [codeR_one, codeL_ok h hs ha] at ei
 have e2 := implHold_ev t a h hs ha
 simp only [impl_HoldGain.f]; exact Ev.bind ei (ev_pos (by trivial) (Ev.bind e2 (Ev.now _)))
theorem eff_ev (t : List S27) (h : okT t) (hs : shT t ≤ 9) (a1 : Int) (ha : 0 ≤ a1 ∧ a1 ≤ 10) : ∃ r : Rat, Ev (fun k => impl_EfficiencyOf.f k t a1) (r.num, (r.den : Int), 0) ∧ r = (((gT (20 - a1) 20 t).num : Int) : Rat) / ((((gT (20 - a1) 20 t).den : Int) * advT t : Int) : Rat) := by
 have ei := rough_ev [t] (by simp) a1 1
 rw [codeR_one, codeL_ok h hs ha] at ei
 have e2 := implRaise_ev t a1 h hs ha
 obtain ⟨o1, o2, o3⟩ := okT_few h hs
 have b := gT_bd (U := 20 - a1) (D := 20) (by omega) (by omega) t o1 o2
 have ad := advT_le h
 have eb := advOf_ev t h
 generalize gT (20 - a1) 20 t = q at *
 generalize advT t = a at *
 have pd := den_pos q
 have m1 : (q.den : Int) * a ≤ 512000000000 * 531441 := Int.mul_le_mul (by omega) (by omega) (by omega) (by omega)
 have m0 : 0 < (q.den : Int) * a := Int.mul_pos pd (by omega)
 have ef := eff_eq q a
 have l1 := num_le (B := 262144000000000) m0 ef (by omega) (by omega)
 have l2 := den_le m0 ef
 generalize hr : q * (((1 : Int) : Rat) / (a : Rat)) = r at *
 refine ⟨r, ?_, ef⟩
 have y1 := fraction_ev 1 a (by omega) (by omega) (by omega) (by omega) (by omega)
 have n1 := num_le (B := 1) (n := 1) (d := a) (by omega) (r := ((1 : Int) : Rat) / (a : Rat)) rfl (by omega) (by omega)
 have n2 := den_le (n := 1) (d := a) (by omega) (r := ((1 : Int) : Rat) / (a : Rat)) rfl
 have y2 := mulFr_ev q (((1 : Int) : Rat) / (a : Rat)) (by omega) (by omega) (by omega) (by omega) (by omega) (by omega) (by rw [hr]; omega) (by rw [hr]; omega) (by rw [hr]; omega)
 rw [hr] at y2
 simp only [impl_EfficiencyOf.f]
 exact Ev.bind ei (ev_pos (by trivial) (Ev.bind e2 (Ev.bind eb (Ev.bind y1 (Ev.bind y2 (Ev.now _))))))
theorem compare_ev (t u : List S27) (h : okT t) (hs : shT t ≤ 9) (h' : okT u) (hs' : shT u ≤ 9) (a : Int) (ha : 0 ≤ a ∧ a ≤ 10) :
  Ev (fun k => impl_CompareTackles.f k t u a) (cmpI ((gT (20 - a) 20 t).num * ((gT (20 - a) 20 u).den : Int)) ((gT (20 - a) 20 u).num * ((gT (20 - a) 20 t).den : Int)), 0) := by
 have ei := rough_ev [t, u] (by simp) a 1
 rw [codeR_ok h hs h' hs' ha] at ei
 have f1 := implRaise_ev t a h hs ha
 have f2 := implRaise_ev u a h' hs' ha
 obtain ⟨o1, o2, o3⟩ := okT_few h hs
 obtain ⟨p1, p2, p3⟩ := okT_few h' hs'
 have b1 := gT_bd (U := 20 - a) (D := 20) (by omega) (by omega) t o1 o2
 have b2 := gT_bd (U := 20 - a) (D := 20) (by omega) (by omega) u p1 p2
 have d1 := den_pos (gT (20 - a) 20 t)
 have d2 := den_pos (gT (20 - a) 20 u)
 generalize gT (20 - a) 20 t = x at *
 generalize gT (20 - a) 20 u = y at *
 have g := cmpFr_ev x.num (x.den : Int) y.num (y.den : Int) (by omega) (by omega) d1 (by omega) (by omega) (by omega) d2 (by omega)
 simp only [impl_CompareTackles.f]
 exact Ev.bind ei (ev_pos (by trivial) (Ev.bind f1 (Ev.bind f2 (Ev.bind g (Ev.now _)))))
theorem cmpI_bd (a b : Int) : cmpI a b = -cmpI b a ∧ -1 ≤ cmpI a b ∧ cmpI a b ≤ 1 := by
 unfold cmpI; repeat' split
 all_goals omega
theorem scale_facts {r : Rat} {n d : Int} (hd : 0 < d) (h : r = (n : Rat) / (d : Rat)) (h1 : 1 ≤ n) (h2 : n ≤ d) : 1 ≤ r.num ∧ r.num ≤ (r.den : Int) ∧ (n = d → r.num = (r.den : Int)) := by
 obtain ⟨m, m1, e1, e2⟩ := num_scale hd h
 refine ⟨?_, ?_, ?_⟩
 ·rcases Int.lt_or_le r.num 1 with g | g
  ·have : r.num * m ≤ 0 * m := Int.mul_le_mul_of_nonneg_right (by omega) (by omega)
   omega
  ·exact g
 ·rcases Int.lt_or_le (r.den : Int) r.num with g | g
  ·have : ((r.den : Int) + 1) * m ≤ r.num * m := Int.mul_le_mul_of_nonneg_right (by omega) (by omega)
   rw [Int.add_mul] at this; omega
  ·exact g
 ·intro e
  exact Int.eq_of_mul_eq_mul_right (by omega) (by omega : r.num * m = (r.den : Int) * m)
theorem whole {q : Rat} {A : Int} (h : q.num = A * (q.den : Int)) : q.num = A ∧ (q.den : Int) = 1 := by
 have e := of_cross (r := q) (n := A) (d := 1) (by omega) (by omega)
 obtain ⟨m, m1, e1, e2⟩ := num_scale (by omega) e
 have pd := den_pos q
 have : (q.den : Int) ≤ (q.den : Int) * m := by have := Int.mul_le_mul_of_nonneg_left m1 (Int.le_of_lt pd); omega
 have hd : (q.den : Int) = 1 := by omega
 rw [hd] at h
 exact ⟨by omega, hd⟩
theorem FnGains : laws_FnGains.Pure := by
 intro l0 l1 _ _ h0 _ _ h1
 refine Ev.rounds ?_
 simp only [laws_FnGains.f]
 have hlong : ∃ b, laws_a2Long.f l0 l1 = some b := by unfold laws_a2Long.f; split <;> exact ⟨_, rfl⟩
 obtain ⟨b, hb⟩ := hlong
 refine ev_now hb (ev_if (fun _ => Ev.now _) (fun _ => ?_))
 obtain ⟨t, et, ht, hs⟩ := A2Rough_ev l0 h0
 obtain ⟨u, eu, hu, hs'⟩ := A2Rough_ev l1 h1
 have hloss : ∃ v : Int, laws_a2At.f l1 0 8 = some v ∧ 0 ≤ v ∧ v ≤ 7 := by
  unfold laws_a2At.f
  by_cases g : (0 : Int) ≥ (l1.length : Int)
  ·rw [if_pos g]; exact ⟨0, rfl, by omega, by omega⟩
  ·rw [if_neg g, if_neg (by omega), if_pos (by omega), if_pos (by omega), if_neg (by omega)]
   have := (Sr.start h1).1 _ (rd_mem (xs := l1) (i := 0) (by omega) (by omega))
   rw [w64 (by omega) (by omega)]
   refine ⟨_, rfl, Int.tmod_nonneg _ (by omega), ?_⟩
   have := Int.tmod_lt_of_pos (rd l1 0) (show (0 : Int) < 8 by omega)
   omega
 obtain ⟨v, ev, v0, v7⟩ := hloss
 obtain ⟨o1, o2, o3⟩ := okT_few ht hs
 have ad := advT_le ht
 have eok := l05Ok_ev t (by have := ht.2.2; omega)
 rw [ofd1 ht] at eok
 have eadv : Ev (fun k => spec_AdvantageOf.f k t) (advT t, 0) := by
  simp only [spec_AdvantageOf.f]; exact Ev.bind eok (ev_pos (by trivial) (Ev.bind (l05Adv_ev t ht) (Ev.now _)))
 have p1 := raise_ev t ht hs 0 (by omega)
 have p2 := hold_ev t ht hs 0 (by omega)
 have p3 := raise_ev t ht hs v (by omega)
 have p4 := hold_ev t ht hs v (by omega)
 have p5 := raise_ev t ht hs (v + 1) (by omega)
 obtain ⟨r, p6, hr⟩ := eff_ev t ht hs v (by omega)
 have c1 := compare_ev t t ht hs ht hs v (by omega)
 have c2 := compare_ev t u ht hs hu hs' v (by omega)
 have c3 := compare_ev u t hu hs' ht hs v (by omega)
 have z1 := gT_le_adv (U := 20) (D := 20) (by omega) (by omega) (by omega) t o1
 have z2 := gT_ge_adv (U := 20) (D := 20) (by omega) (by omega) (by omega) t o1
 obtain ⟨w1, w2⟩ := whole (q := gT 20 20 t) (A := advT t) (by omega)
 rw [show (20 : Int) - 0 = 20 by omega, w1, w2] at p1 p2
 have k1 := gT_le_adv (U := 20 - v) (D := 20) (by omega) (by omega) (by omega) t o1
 have k2 := gT_ge_adv (U := 20) (D := 20 - v) (by omega) (by omega) (by omega) t o1
 have b3 := gT_bd (U := 20 - v) (D := 20) (by omega) (by omega) t o1 o2
 have b4 := gT_bd (U := 20) (D := 20 - v) (by omega) (by omega) t o1 o2
 have b5 := gT_bd (U := 20 - (v + 1)) (D := 20) (by omega) (by omega) t o1 o2
 have d3 := den_pos (gT (20 - v) 20 t)
 have d4 := den_pos (gT 20 (20 - v) t)
 have d5 := den_pos (gT (20 - (v + 1)) 20 t)
 have dr := den_pos r
 have m0 : 0 < ((gT (20 - v) 20 t).den : Int) * advT t := Int.mul_pos d3 (by omega)
 have cm : ((gT (20 - v) 20 t).den : Int) * advT t = advT t * ((gT (20 - v) 20 t).den : Int) := Int.mul_comm ..
 have sf := scale_facts m0 hr (by omega) (by omega)
 have zero : v = 0 → r.num = (r.den : Int) := fun hv => sf.2.2 (by rw [hv, show (20 : Int) - 0 = 20 by omega]; rw [w1, w2]; omega)
 have g1 := cmpI_bd ((gT (20 - v) 20 t).num * ((gT (20 - v) 20 t).den : Int)) ((gT (20 - v) 20 t).num * ((gT (20 - v) 20 t).den : Int))
 have g2 := cmpI_bd ((gT (20 - v) 20 t).num * ((gT (20 - v) 20 u).den : Int)) ((gT (20 - v) 20 u).num * ((gT (20 - v) 20 t).den : Int))
 generalize cmpI ((gT (20 - v) 20 t).num * ((gT (20 - v) 20 t).den : Int)) ((gT (20 - v) 20 t).num * ((gT (20 - v) 20 t).den : Int)) = cc1 at *
 generalize cmpI ((gT (20 - v) 20 t).num * ((gT (20 - v) 20 u).den : Int)) ((gT (20 - v) 20 u).num * ((gT (20 - v) 20 t).den : Int)) = cc2 at *
 generalize cmpI ((gT (20 - v) 20 u).num * ((gT (20 - v) 20 t).den : Int)) ((gT (20 - v) 20 t).num * ((gT (20 - v) 20 u).den : Int)) = cc3 at *
 generalize gT (20 - v) 20 t = x at *
 generalize gT 20 (20 - v) t = y at *
 generalize gT (20 - (v + 1)) 20 t = z at *
 generalize advT t = A at *
 have mx1 : A * (x.den : Int) ≤ 531441 * 512000000000 := Int.mul_le_mul (by omega) (by omega) (by omega) (by omega)
 have my1 : A * (y.den : Int) ≤ 531441 * 512000000000 := Int.mul_le_mul (by omega) (by omega) (by omega) (by omega)
 have mx0 : 0 ≤ A * (x.den : Int) := Int.mul_nonneg (by omega) (by omega)
 have my0 : 0 ≤ A * (y.den : Int) := Int.mul_nonneg (by omega) (by omega)
 have wx : wrap64 (A * (x.den : Int)) = A * (x.den : Int) := w64 (by omega) (by omega)
 have wy : wrap64 (A * (y.den : Int)) = A * (y.den : Int) := w64 (by omega) (by omega)
 have j2 : Ev (fun k => laws_FnGains.j2 k l1 t v false) true := by
  refine ev_succ ?_; simp only [laws_FnGains.j2]
  refine ev_neg (by simp) (Ev.bind c1 (Ev.bind eu (Ev.bind c2 (Ev.bind c3 (ev_pos rfl (ev_pos (by omega) (ev_pos rfl (ev_pos rfl (ev_pos ?_ (ev_pos (by omega) (ev_some ?_)))))))))))
  ·rw [w64 (by omega) (by omega)]; omega
  ·exact decide_eq_true (by omega)
 have j1 : Ev (fun k => laws_FnGains.j1 k l1 t A v false x.num (x.den : Int) y.num (y.den : Int) r.num (r.den : Int)) true := by
  refine ev_succ ?_; simp only [laws_FnGains.j1, wx, wy]
  refine ev_neg (by simp) (ev_neg (by omega) (ev_neg (by omega) (ev_neg (by omega) (ev_neg (by omega) (ev_if (fun hv => ?_) (fun _ => j2))))))
  rw [show (r.num != (r.den : Int)) = false by rw [zero hv]; simp]; exact j2
 have j0 : Ev (fun k => laws_FnGains.j0 k l1 t A v false x.num (x.den : Int) y.num (y.den : Int) z.num (z.den : Int) r.num (r.den : Int)) true := by
  refine ev_succ ?_; simp only [laws_FnGains.j0]
  refine ev_neg (by simp) (ev_neg (by omega) (ev_neg (by omega) (ev_neg (by omega) (ev_neg (by omega) (ev_neg (by omega) (ev_neg (by omega) ?_))))))
  rw [decide_eq_false (by unfold mx; split <;> omega)]; exact j1
 refine Ev.bind et (Ev.bind eadv (ev_now ev (Ev.bind p1 (Ev.bind p2 (Ev.bind p3 (Ev.bind p4 ?_))))))
 rw [w64 (x := v + 1) (by omega) (by omega)]
 refine Ev.bind p5 (Ev.bind p6 (ev_pos rfl (ev_pos rfl (ev_pos rfl (ev_pos rfl (ev_pos rfl (ev_neg (by simp) (ev_pos rfl (ev_pos rfl (ev_pos rfl ?_)))))))))) 
 exact j0
end Go.Proofs.Ytdhdokhfgadikaa.PureFnGains
namespace Go.Proofs.Ytdhdokhfgadikaa.Pure
open Go.Proofs.Ytdhdokhfgadikaa.HFnGains
theorem FnGains : laws_FnGains.Pure := PureFnGains.FnGains
end Go.Proofs.Ytdhdokhfgadikaa.Pure
