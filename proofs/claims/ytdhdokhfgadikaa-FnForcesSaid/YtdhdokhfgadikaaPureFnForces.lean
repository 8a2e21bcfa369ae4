/- The program's function answers as the statement says. Conditions: none beyond the given statement's own. -/
import Derived.Test.YtdhdokhfgadikaaHFnForcesx11
import Derived.Test.YtdhdokhfgadikaaLib
import Derived.Test.YtdhdokhfgadikaaLibDraw
import Derived.Test.YtdhdokhfgadikaaLibRat
set_option linter.unusedVariables false
set_option linter.unusedSimpArgs false
namespace Go.Proofs.Ytdhdokhfgadikaa.PureFnForces
open Go.RowKit Go.Proofs.Ytdhdokhfgadikaa.HFnForces Go.Proofs.YtdhdokhfgadikaaW.PrintWords Go.Proofs.YtdhdokhfgadikaaW.PrintLast Go.Proofs.YtdhdokhfgadikaaW.PrintMore Go.Proofs.Ytdhdokhfgadikaa.Lib
theorem next_ev (c : List Int) (at_ sd : Int) (m : Nat) (h : Sr c at_ (m + 1)) :
  ∃ r a' s', spec_l00Src_next.f c at_ sd = some (r, a', s') ∧ 0 ≤ r ∧ r ≤ 255 ∧ Sr c a' m := by
 obtain ⟨h1, h2, h3⟩ := h
 have e : wrap64 (at_ + 1) = at_ + 1 := w64 (by omega) (by omega)
 have hs : Sr c (at_ + 1) m := ⟨h1, by omega, by omega⟩
 unfold spec_l00Src_next.f
 rw [e]
 by_cases hl : at_ < (c.length : Int)
 ·rw [if_pos hl, if_pos h2, if_pos (by omega)]
  have := h1 _ (rd_mem h2 hl)
  rw [w64 (by omega) (by omega)]
  exact ⟨_, _, _, rfl, this.1, this.2, hs⟩
 ·rw [if_neg hl, if_neg (by omega)]
  have := and255 (IntKind.u64.wrap (IntKind.u64.wrap (sd * 6364136223846793005)) + 1442695040888963407)
  refine ⟨_, _, _, rfl, ?_, ?_, hs⟩
  ·rw [w64 (by omega) (by omega)]; exact this.1
  ·rw [w64 (by omega) (by omega)]; exact this.2
theorem pick_ev (c : List Int) (at_ sd n : Int) (m : Nat) (h : Sr c at_ (m + 2)) :
  ∃ r a' s', spec_l00Src_pick.f c at_ sd n = some (r, a', s') ∧ 0 ≤ r ∧ (n ≤ 1 ∧ r = 0 ∨ 1 < n ∧ r < n) ∧ Sr c a' m := by
 unfold spec_l00Src_pick.f
 by_cases h1 : n ≤ 1
 ·rw [if_pos h1]; exact ⟨_, _, _, rfl, by omega, .inl ⟨h1, rfl⟩, h.less (by omega)⟩
 ·rw [if_neg h1]
  obtain ⟨r, a', s', e, r0, r1, hs⟩ := next_ev c at_ sd (m + 1) h
  rw [e]; simp only [Option.bind_some]
  by_cases h2 : n > 200
  ·rw [if_pos h2]
   obtain ⟨q, b', t', e', q0, q1, hs'⟩ := next_ev c a' s' m hs
   rw [e']; simp only [Option.bind_some]
   rw [if_neg (by omega), w64 (x := r * 256) (by omega) (by omega), w64 (x := r * 256 + q) (by omega) (by omega)]
   exact ⟨_, _, _, rfl, Int.tmod_nonneg _ (by omega), .inr ⟨by omega, Int.tmod_lt_of_pos _ (by omega)⟩, hs'⟩
  ·rw [if_neg h2, if_neg (by omega)]
   exact ⟨_, _, _, rfl, Int.tmod_nonneg _ (by omega), .inr ⟨by omega, Int.tmod_lt_of_pos _ (by omega)⟩, hs.less (by omega)⟩
theorem l00In_eq (a b c : Int) : spec_l00In.f a b c = some (decide (b ≤ a ∧ a ≤ c)) := by
 unfold spec_l00In.f; by_cases h : a ≥ b <;> simp [h]
theorem within_eq (a b c : Int) : impl_within.f a b c = some (decide (b ≤ a ∧ a ≤ c)) := by
 unfold impl_within.f; by_cases h : a ≥ b <;> simp [h]
def okP (p : S27) : Prop := (0 ≤ p.f0 ∧ p.f0 ≤ 4) ∧ (0 ≤ p.f1 ∧ p.f1 ≤ 4) ∧ 1 ≤ p.f0 + p.f1 ∧ (if p.f2 = true then 0 ≤ p.f1 - p.f0 ∧ p.f1 - p.f0 ≤ 1 else 0 ≤ p.f0 - p.f1 ∧ p.f0 - p.f1 ≤ 1)
instance (p : S27) : Decidable (okP p) := inferInstanceAs (Decidable ((0 ≤ p.f0 ∧ p.f0 ≤ 4) ∧ (0 ≤ p.f1 ∧ p.f1 ≤ 4) ∧ 1 ≤ p.f0 + p.f1 ∧ (if p.f2 = true then 0 ≤ p.f1 - p.f0 ∧ p.f1 - p.f0 ≤ 1 else 0 ≤ p.f0 - p.f1 ∧ p.f0 - p.f1 ≤ 1)))
def okPs (t : List S27) : Prop := ∀ p ∈ t, okP p
instance (t : List S27) : Decidable (okPs t) := inferInstanceAs (Decidable (∀ p ∈ t, okP p))
def okT (t : List S27) : Prop := okPs t ∧ 1 ≤ t.length ∧ t.length ≤ 6
instance (t : List S27) : Decidable (okT t) := inferInstanceAs (Decidable (okPs t ∧ 1 ≤ t.length ∧ t.length ≤ 6))
theorem okPs_drop {l : List S27} {i : Nat} (h : i < l.length) : okPs (l.drop i) ↔ okP l[i] ∧ okPs (l.drop (i + 1)) := all_drop h
theorem rdP {xs : List S27} {i : Nat} (h : i < xs.length) : rd_T27 xs (i : Int) = xs[i] := by
 unfold rd_T27; simp [List.getD_eq_getElem?_getD, h]
def shT : List S27 → Int
 | [] => 0
 | p :: t => p.f0 + p.f1 + shT t
theorem shT_bd {t : List S27} (h : okPs t) : (t.length : Int) ≤ shT t ∧ shT t ≤ 8 * t.length := by
 induction t with
 | nil => simp [shT]
 | cons p t ih =>
  have h1 := h p (by simp)
  have h2 := ih (fun q hq => h q (by simp [hq]))
  have h3 := h1.1
  have h4 := h1.2.1
  have h5 := h1.2.2.1
  simp only [shT, List.length_cons]; omega
theorem shT_snoc (l : List S27) (p : S27) : shT (l ++ [p]) = shT l + (p.f0 + p.f1) := by
 induction l with
 | nil => simp [shT]
 | cons q l ih => simp only [List.cons_append, shT, ih]; omega
theorem A2Rough_l0 (c : List Int) : ∀ (d : Nat) (o : List S27) (at_ sd left : Int), Sr c at_ (4 * d) → okPs o → shT o + left = 9 → 0 ≤ left → o.length + d ≤ 3 → (1 ≤ o.length ∨ (1 ≤ d ∧ 0 < left)) →
  ∃ t, Ev (fun k => spec_A2Rough.l0 k o left (d : Int) c at_ sd) t ∧ okPs t ∧ shT t ≤ 9 ∧ 1 ≤ t.length ∧ t.length ≤ 3
 | 0, o, at_, sd, left, hs, ho, hl, h0, hn, h1 => by
  refine ⟨o, ev_succ ?_, ho, by omega, by omega, by omega⟩
  simp only [spec_A2Rough.l0]
  refine ev_neg (by omega) (ev_succ ?_)
  simp only [spec_A2Rough.j1]
  exact ev_neg (by simp) (Ev.now _)
 | d + 1, o, at_, sd, left, hs, ho, hl, h0, hn, h1 => by
  by_cases hp : left > 0
  ·obtain ⟨m, hm, m1, m4, ml⟩ : ∃ m : Int, spec_l00Min.f left 4 = some m ∧ 1 ≤ m ∧ m ≤ 4 ∧ m ≤ left := by
    unfold spec_l00Min.f
    by_cases g : left < 4
    ·rw [if_pos g]; exact ⟨_, rfl, by omega, by omega, by omega⟩
    ·rw [if_neg g]; exact ⟨_, rfl, by omega, by omega, by omega⟩
   obtain ⟨r, a', s', e, r0, r1, hs'⟩ := pick_ev c at_ sd m (4 * d + 2) (hs.less (by omega))
   obtain ⟨q, b', t', e', q0, q1, hs''⟩ := pick_ev c a' s' 2 (4 * d) hs'
   have so := shT_bd ho
   have hr : 0 ≤ r ∧ 1 + r ≤ m := by rcases r1 with z | z <;> omega
   have w1 : wrap64 (1 + r) = 1 + r := w64 (by omega) (by omega)
   have w2 : wrap64 (1 + r + 1) = 1 + r + 1 := w64 (by omega) (by omega)
   have t1 : wrap64 (Int.tdiv (1 + r) 2) = (1 + r) / 2 := by rw [Int.tdiv_eq_ediv_of_nonneg (by omega)]; exact w64 (by omega) (by omega)
   have t2 : wrap64 (Int.tdiv (1 + r + 1) 2) = (1 + r + 1) / 2 := by rw [Int.tdiv_eq_ediv_of_nonneg (by omega)]; exact w64 (by omega) (by omega)
   have w3 : wrap64 (left - (1 + r)) = left - (1 + r) := w64 (by omega) (by omega)
   have w4 : wrap64 (((d + 1 : Nat) : Int) - 1) = (d : Int) := by rw [w64 (by omega) (by omega)]; omega
   have next : ∀ p : S27, okP p → p.f0 + p.f1 = 1 + r → ∃ t, Ev (fun k => spec_A2Rough.l0 k (o ++ [p]) (left - (1 + r)) (d : Int) c b' t') t ∧ okPs t ∧ shT t ≤ 9 ∧ 1 ≤ t.length ∧ t.length ≤ 3 := by
    intro p op hp'
    refine A2Rough_l0 c d (o ++ [p]) b' t' (left - (1 + r)) hs'' ?_ ?_ (by omega) (by simp; omega) (.inl (by simp))
    ·intro x hx; rcases List.mem_append.1 hx with z | z
     ·exact ho x z
     ·simp at z; rw [z]; exact op
    ·rw [shT_snoc, hp']; omega
   by_cases hq : q = 0
   ·obtain ⟨t, et, ht⟩ := next ⟨(1 + r) / 2, (1 + r + 1) / 2, true⟩ (by unfold okP; simp only [if_true]; omega) (by show (1 + r) / 2 + (1 + r + 1) / 2 = 1 + r; omega)
    refine ⟨t, ev_succ ?_, ht⟩
    simp only [spec_A2Rough.l0]
    rw [decide_eq_true hp]
    refine ev_pos (by omega) (ev_succ ?_)
    simp only [spec_A2Rough.j1, spec_l00Src_one.f]
    refine ev_pos (by trivial) (ev_now hm (ev_now e (ev_now (by rw [e']; rfl) ?_)))
    refine ev_pos (by rw [hq]; rfl) (ev_pos (by omega) ?_)
    rw [w1, w2, t1, t2, w3, w4]
    exact et
   ·obtain ⟨t, et, ht⟩ := next ⟨(1 + r + 1) / 2, (1 + r) / 2, false⟩ (by unfold okP; simp only [Bool.false_eq_true, if_false]; omega) (by show (1 + r + 1) / 2 + (1 + r) / 2 = 1 + r; omega)
    refine ⟨t, ev_succ ?_, ht⟩
    simp only [spec_A2Rough.l0]
    rw [decide_eq_true hp]
    refine ev_pos (by omega) (ev_succ ?_)
    simp only [spec_A2Rough.j1, spec_l00Src_one.f]
    refine ev_pos (by trivial) (ev_now hm (ev_now e (ev_now (by rw [e']; rfl) ?_)))
    refine ev_neg (by simp; exact hq) (ev_pos (by omega) ?_)
    rw [w1, w2, t1, t2, w3, w4]
    exact et
  ·refine ⟨o, ev_succ ?_, ho, by omega, by omega, by omega⟩
   simp only [spec_A2Rough.l0]
   rw [decide_eq_false hp]
   refine ev_pos (by omega) (ev_succ ?_)
   simp only [spec_A2Rough.j1]
   exact ev_neg (by simp) (Ev.now _)
theorem A2Rough_ev (c : List Int) (h : ∀ x ∈ c, (Lit.int .u8 x).wf = true) : ∃ t, Ev (fun k => spec_A2Rough.f k c) t ∧ okT t ∧ shT t ≤ 9 := by
 obtain ⟨r, a', s', e, r0, r1, hs'⟩ := pick_ev c 0 0 3 100 ((Sr.start h).less (by omega))
 have hr : r ≤ 2 := by rcases r1 with z | z <;> omega
 obtain ⟨n, rfl⟩ := Int.eq_ofNat_of_zero_le r0
 obtain ⟨t, et, h1, h2, h3, h4⟩ := A2Rough_l0 c (n + 1) [] a' s' 9 (hs'.less (by omega)) (by simp [okPs]) (by simp [shT]) (by omega) (by simp; omega) (.inr ⟨by omega, by omega⟩)
 refine ⟨t, ?_, ⟨h1, h3, by omega⟩, h2⟩
 simp only [spec_A2Rough.f, spec_l00From.f]
 refine ev_now rfl (ev_now e ?_)
 rw [show wrap64 (1 + (n : Int)) = ((n + 1 : Nat) : Int) by rw [w64 (by omega) (by omega)]; omega]
 exact et
theorem l05One_ev (p : S27) : Ev (fun k => spec_l05One.f k p.f0 p.f1 p.f2) (decide (okP p), p.f0, p.f1, p.f2) := by
 have jt : Ev (fun k => spec_l05One.j0 k true p.f0 p.f1 p.f2) (false, p.f0, p.f1, p.f2) := by
  refine ev_succ ?_; simp only [spec_l05One.j0]; exact ev_pos (by trivial) (Ev.now _)
 simp only [spec_l05One.f]
 refine ev_now (l00In_eq _ _ _) (ev_if (fun h0 => ev_now (l00In_eq _ _ _) (ev_if (fun h1 => ?_) (fun h1 => ?_))) (fun h0 => ?_))
 ·have h0 := of_decide_eq_true h0
  have h1 := of_decide_eq_true h1
  rw [w64 (x := p.f0 + p.f1) (by omega) (by omega)]
  by_cases h2 : p.f0 + p.f1 < 1
  ·rw [ofd1 h2, ofd (p := okP p) (fun g => by have := g.2.2.1; omega)]; exact jt
  ·rw [ofd h2]
   refine ev_succ ?_; simp only [spec_l05One.j0]
   refine ev_neg (by simp) (ev_if (fun h3 => ?_) (fun h3 => ?_))
   ·rw [w64 (x := p.f1 - p.f0) (by omega) (by omega)]
    refine ev_now (l00In_eq _ _ _) (ev_some ?_)
    congr 1
    apply decide_eq_decide.2; unfold okP; rw [if_pos h3]
    exact ⟨fun g => ⟨h0, h1, by omega, g⟩, fun g => g.2.2.2⟩
   ·rw [w64 (x := p.f0 - p.f1) (by omega) (by omega)]
    refine ev_now (l00In_eq _ _ _) (ev_some ?_)
    congr 1
    apply decide_eq_decide.2; unfold okP; rw [if_neg h3]
    exact ⟨fun g => ⟨h0, h1, by omega, g⟩, fun g => g.2.2.2⟩
 ·rw [ofd (p := okP p) (fun g => h1 (ofd1 g.2.1))]; exact jt
 ·rw [ofd (p := okP p) (fun g => h0 (ofd1 g.1))]; exact jt
theorem l05One_at_ev (p : S27) : Ev (fun k => spec_l05One_at.f k p.f0 p.f1 p.f2) (decide (okP p)) := by
 simp only [spec_l05One_at.f]
 exact Ev.bind (l05One_ev p) (Ev.now _)
theorem l05Ok_l0 (x0 : List S27) (hn : x0.length ≤ 35184372088832) : ∀ (d i : Nat), i + d = x0.length → (okPs (x0.drop i) → okPs x0) →
  Ev (fun k => spec_l05Ok.l0 k x0 (i : Int)) (decide (okT x0))
 | 0, i, hd, hi => by
  refine ev_succ ?_
  simp only [spec_l05Ok.l0]
  have e : x0.drop i = [] := by simp; omega
  have g := hi (by rw [e]; simp [okPs])
  refine ev_neg (by omega) (ev_now (l00In_eq _ _ _) (ev_some ?_))
  apply decide_eq_decide.2; unfold okT; exact ⟨fun q => ⟨g, by omega, by omega⟩, fun q => by omega⟩
 | d + 1, i, hd, hi => by
  have hil : i < x0.length := by omega
  refine ev_succ ?_
  simp only [spec_l05Ok.l0]
  rw [rdP hil, w64s (by omega)]
  refine ev_pos (by omega) (ev_pos (by omega) (Ev.bind (l05One_at_ev x0[i]) (ev_if (fun h => ?_) (fun h => ev_some ?_))))
  ·refine l05Ok_l0 x0 hn d (i + 1) (by omega) (fun g => hi ?_)
   rw [okPs_drop hil]; exact ⟨of_decide_eq_true h, g⟩
  ·symm; apply ofd; intro g; exact h (ofd1 (g.1 _ (List.getElem_mem _)))
theorem l05Ok_ev (t : List S27) (hn : t.length ≤ 35184372088832) : Ev (fun k => spec_l05Ok.f k t) (decide (okT t)) := by
 simp only [spec_l05Ok.f]
 exact l05Ok_l0 t hn t.length 0 (by omega) (by simp)
def codeL (t : List S27) (loss load : Int) : Int := if okT t then (if (0 ≤ loss ∧ loss ≤ 10) ∧ (1 ≤ load ∧ load ≤ 100000) then (if shT t > 9 then 5 else 0) else 2) else 1
theorem codeL_zero {t : List S27} {loss load : Int} (h : codeL t loss load = 0) : okT t ∧ (0 ≤ loss ∧ loss ≤ 10) ∧ (1 ≤ load ∧ load ≤ 100000) ∧ shT t ≤ 9 := by
 unfold codeL at h; split at h
 ·split at h
  ·split at h
   ·omega
   ·exact ⟨‹_›, ‹_ ∧ _›.1, ‹_ ∧ _›.2, by omega⟩
  ·omega
 ·omega
theorem l06Sheaves_l0 (x0 : List S27) (ho : okPs x0) (hl : x0.length ≤ 6) : ∀ (d i : Nat) (s : Int), i + d = x0.length → 0 ≤ s → s ≤ 8 * i →
  Ev (fun k => spec_l06Sheaves.l0 k x0 s (i : Int)) (s + shT (x0.drop i))
 | 0, i, s, hd, h0, h1 => by
  refine ev_succ ?_
  simp only [spec_l06Sheaves.l0]
  have e : x0.drop i = [] := by simp; omega
  refine ev_neg (by omega) (ev_some ?_)
  rw [e]; simp [shT]
 | d + 1, i, s, hd, h0, h1 => by
  have hi : i < x0.length := by omega
  have hp := ho _ (List.getElem_mem hi)
  have hp1 := hp.1
  have hp2 := hp.2.1
  refine ev_succ ?_
  simp only [spec_l06Sheaves.l0]
  rw [rdP hi, w64s (by omega), w64 (x := x0[i].f0 + x0[i].f1) (by omega) (by omega), w64 (x := s + (x0[i].f0 + x0[i].f1)) (by omega) (by omega), List.drop_eq_getElem_cons hi]
  refine ev_pos (by omega) (ev_pos (by omega) ?_)
  have := l06Sheaves_l0 x0 ho hl d (i + 1) (s + (x0[i].f0 + x0[i].f1)) (by omega) (by omega) (by omega)
  have e : s + shT (x0[i] :: x0.drop (i + 1)) = s + (x0[i].f0 + x0[i].f1) + shT (x0.drop (i + 1)) := by simp only [shT]; omega
  rw [e]; exact this
theorem l06Code_ev (t : List S27) (hn : t.length ≤ 35184372088832) (loss load : Int) : Ev (fun k => spec_l06Code.f k t loss load) (codeL t loss load) := by
 have j2 : Ev (fun k => spec_l06Code.j0 k t true) 2 := by
  refine ev_succ ?_; simp only [spec_l06Code.j0]; exact ev_pos (by trivial) (Ev.now _)
 have eL : spec_l06Loss.f loss = some (decide (0 ≤ loss ∧ loss ≤ 10)) := by simp [spec_l06Loss.f, l00In_eq]
 have eF : spec_l06Lift.f load = some (decide (1 ≤ load ∧ load ≤ 100000)) := by simp [spec_l06Lift.f, l00In_eq]
 simp only [spec_l06Code.f]
 refine Ev.bind (l05Ok_ev t hn) (ev_if (fun h => ?_) (fun h => ev_some ?_))
 ·have ht := of_decide_eq_true h
  unfold codeL; rw [if_pos ht]
  refine ev_now eL (ev_if (fun h1 => ev_now eF ?_) (fun h1 => ?_))
  ·have h1 := of_decide_eq_true h1
   by_cases h2 : 1 ≤ load ∧ load ≤ 100000
   ·rw [ofd1 h2, if_pos ⟨h1, h2⟩]
    have e := l06Sheaves_l0 t ht.1 ht.2.2 t.length 0 0 (by omega) (by omega) (by omega)
    rw [List.drop_zero, Int.zero_add] at e
    refine ev_succ ?_; simp only [spec_l06Code.j0, spec_l06Sheaves.f]
    refine ev_neg (by simp) (Ev.bind e (ev_if (fun h3 => ev_some ?_) (fun h3 => ev_some ?_)))
    ·rw [if_pos h3]
    ·rw [if_neg h3]
   ·rw [ofd h2, if_neg (fun g => h2 g.2)]; exact j2
  ·rw [if_neg (fun g => h1 (ofd1 g.1))]; exact j2
 ·unfold codeL; rw [if_neg (fun g => h (ofd1 g))]
theorem validPurchase_ev (p : S27) : Ev (fun k => impl_ValidPurchase.f k p.f0 p.f1 p.f2) (decide (okP p)) := by
 have jt : Ev (fun k => impl_ValidPurchase.j0 k true p.f0 p.f1 p.f2) false := by
  refine ev_succ ?_; simp only [impl_ValidPurchase.j0]; exact ev_pos (by trivial) (Ev.now _)
 simp only [impl_ValidPurchase.f]
 refine ev_now (within_eq _ _ _) (ev_if (fun h0 => ev_now (within_eq _ _ _) (ev_if (fun h1 => ?_) (fun h1 => ?_))) (fun h0 => ?_))
 ·have h0 := of_decide_eq_true h0
  have h1 := of_decide_eq_true h1
  rw [w64 (x := p.f0 + p.f1) (by omega) (by omega)]
  by_cases h2 : p.f0 + p.f1 = 0
  ·rw [beq_iff_eq.2 h2, ofd (p := okP p) (fun g => by have := g.2.2.1; omega)]; exact jt
  ·rw [beq_eq_false_iff_ne.2 h2]
   refine ev_succ ?_; simp only [impl_ValidPurchase.j0]
   refine ev_neg (by simp) (ev_if (fun h3 => ?_) (fun h3 => ?_))
   ·rw [w64 (x := p.f1 - p.f0) (by omega) (by omega)]
    refine ev_now (within_eq _ _ _) (ev_some ?_)
    apply decide_eq_decide.2; unfold okP; rw [if_pos h3]
    exact ⟨fun g => ⟨h0, h1, by omega, g⟩, fun g => g.2.2.2⟩
   ·rw [w64 (x := p.f0 - p.f1) (by omega) (by omega)]
    refine ev_now (within_eq _ _ _) (ev_some ?_)
    apply decide_eq_decide.2; unfold okP; rw [if_neg h3]
    exact ⟨fun g => ⟨h0, h1, by omega, g⟩, fun g => g.2.2.2⟩
 ·rw [ofd (p := okP p) (fun g => h1 (ofd1 g.2.1))]; exact jt
 ·rw [ofd (p := okP p) (fun g => h0 (ofd1 g.1))]; exact jt
theorem validTackle_l0 (x0 : List S27) (h1 : 1 ≤ x0.length) (h6 : x0.length ≤ 6) : ∀ (d i : Nat), i + d = x0.length → (okPs (x0.drop i) → okPs x0) →
  Ev (fun k => impl_ValidTackle.l0 k x0 (x0.length : Int) (i : Int)) (decide (okT x0))
 | 0, i, hd, hi => by
  refine ev_succ ?_
  simp only [impl_ValidTackle.l0]
  have e : x0.drop i = [] := by simp; omega
  have g := hi (by rw [e]; simp [okPs])
  exact ev_neg (by omega) (ev_some (ofd1 (p := okT x0) ⟨g, h1, h6⟩).symm)
 | d + 1, i, hd, hi => by
  have hil : i < x0.length := by omega
  refine ev_succ ?_
  simp only [impl_ValidTackle.l0]
  rw [rdP hil, w64s (by omega)]
  refine ev_pos (by omega) (ev_pos (by omega) (ev_pos (by omega) (Ev.bind (validPurchase_ev x0[i]) (ev_if (fun h => ?_) (fun h => ev_some ?_)))))
  ·refine validTackle_l0 x0 h1 h6 d (i + 1) (by omega) (fun g => hi ?_)
   rw [okPs_drop hil]; exact ⟨of_decide_eq_true h, g⟩
  ·symm; apply ofd; intro g; exact h (ofd1 (g.1 _ (List.getElem_mem _)))
theorem validTackle_ev (t : List S27) : Ev (fun k => impl_ValidTackle.f k t) (decide (okT t)) := by
 have jt : Ev (fun k => impl_ValidTackle.j0 k t true) false := by
  refine ev_succ ?_; simp only [impl_ValidTackle.j0]; exact ev_pos (by trivial) (Ev.now _)
 simp only [impl_ValidTackle.f]
 refine ev_if (fun h => ?_) (fun h => ?_)
 ·rw [ofd (p := okT t) (fun g => by have := g.2.1; omega)]; exact jt
 ·by_cases h6 : (t.length : Int) > 6
  ·rw [ofd1 h6, ofd (p := okT t) (fun g => by have := g.2.2; omega)]; exact jt
  ·rw [ofd h6]
   refine ev_succ ?_; simp only [impl_ValidTackle.j0]
   exact ev_neg (by simp) (validTackle_l0 t (by omega) (by omega) t.length 0 (by omega) (by simp))
theorem sheavesOf_l0 (x0 : List S27) (ho : okPs x0) (hl : x0.length ≤ 6) : ∀ (d i : Nat) (s : Int), i + d = x0.length → 0 ≤ s → s ≤ 8 * i →
  Ev (fun k => impl_sheavesOf.l0 k s x0 (x0.length : Int) (i : Int)) (s + shT (x0.drop i))
 | 0, i, s, hd, h0, h1 => by
  refine ev_succ ?_
  simp only [impl_sheavesOf.l0]
  have e : x0.drop i = [] := by simp; omega
  refine ev_neg (by omega) (ev_some ?_)
  rw [e]; simp [shT]
 | d + 1, i, s, hd, h0, h1 => by
  have hi : i < x0.length := by omega
  have hp := ho _ (List.getElem_mem hi)
  have hp1 := hp.1
  have hp2 := hp.2.1
  refine ev_succ ?_
  simp only [impl_sheavesOf.l0]
  rw [rdP hi, w64s (by omega), w64 (x := x0[i].f0 + x0[i].f1) (by omega) (by omega), w64 (x := s + (x0[i].f0 + x0[i].f1)) (by omega) (by omega), List.drop_eq_getElem_cons hi]
  refine ev_pos (by omega) (ev_pos (by omega) (ev_pos (by omega) ?_))
  have := sheavesOf_l0 x0 ho hl d (i + 1) (s + (x0[i].f0 + x0[i].f1)) (by omega) (by omega) (by omega)
  have e : s + shT (x0[i] :: x0.drop (i + 1)) = s + (x0[i].f0 + x0[i].f1) + shT (x0.drop (i + 1)) := by simp only [shT]; omega
  rw [e]; exact this
theorem sheavesOf_ev (t : List S27) (h : okT t) : Ev (fun k => impl_sheavesOf.f k t) (shT t) := by
 have e := sheavesOf_l0 t h.1 h.2.2 t.length 0 0 (by omega) (by omega) (by omega)
 rw [List.drop_zero, Int.zero_add] at e
 simp only [impl_sheavesOf.f]; exact e
/-- The code of several tackles: all are looked at for their form first, then the numbers, then for their sheaves. -/
def codeR : List (List S27) → Int → Int → Int := fun ts loss load =>
 if (∀ t ∈ ts, okT t) then (if (0 ≤ loss ∧ loss ≤ 10) ∧ (1 ≤ load ∧ load ≤ 100000) then (if ∀ t ∈ ts, shT t ≤ 9 then 0 else 5) else 2) else 1
theorem rough_l1 (ts : List (List S27)) (hn : ts.length ≤ 100) (ho : ∀ t ∈ ts, okT t) : ∀ (d i : Nat), i + d = ts.length → ((∀ t ∈ ts.drop i, shT t ≤ 9) → ∀ t ∈ ts, shT t ≤ 9) →
  Ev (fun k => impl_roughCode.l1 k ts (ts.length : Int) (i : Int)) (if ∀ t ∈ ts, shT t ≤ 9 then 0 else 5)
 | 0, i, hd, hi => by
  refine ev_succ ?_
  simp only [impl_roughCode.l1]
  have e : ts.drop i = [] := by simp; omega
  have g := hi (by rw [e]; simp)
  refine ev_neg (by omega) (ev_some ?_)
  rw [if_pos g]
 | d + 1, i, hd, hi => by
  have hil : i < ts.length := by omega
  have er : rd_L3 ts (i : Int) = ts[i] := by unfold rd_L3; simp [List.getD_eq_getElem?_getD, hil]
  refine ev_succ ?_
  simp only [impl_roughCode.l1]
  rw [er, w64s (by omega)]
  refine ev_pos (by omega) (ev_pos (by omega) (ev_pos (by omega) (Ev.bind (sheavesOf_ev _ (ho _ (List.getElem_mem hil))) (ev_if (fun h => ev_some ?_) (fun h => ?_)))))
  ·rw [if_neg]; intro g; have := g _ (List.getElem_mem hil); omega
  ·refine rough_l1 ts hn ho d (i + 1) (by omega) (fun g => hi ?_)
   rw [all_drop hil]; exact ⟨by omega, g⟩
theorem rough_l0 (ts : List (List S27)) (hn : ts.length ≤ 100) (loss load : Int) : ∀ (d i : Nat), i + d = ts.length → ((∀ t ∈ ts.drop i, okT t) → ∀ t ∈ ts, okT t) →
  Ev (fun k => impl_roughCode.l0 k loss load ts ts (ts.length : Int) (i : Int)) (codeR ts loss load)
 | 0, i, hd, hi => by
  refine ev_succ ?_
  simp only [impl_roughCode.l0]
  have e : ts.drop i = [] := by simp; omega
  have g := hi (by rw [e]; simp)
  have j2 : Ev (fun k => impl_roughCode.j1 k ts true) 2 := by
   refine ev_succ ?_; simp only [impl_roughCode.j1]; exact ev_pos (by trivial) (Ev.now _)
  unfold codeR; rw [if_pos g]
  refine ev_neg (by omega) (ev_now (within_eq _ _ _) (ev_if (fun h1 => ev_now (within_eq _ _ _) ?_) (fun h1 => ?_)))
  ·have h1 := of_decide_eq_true h1
   by_cases h2 : 1 ≤ load ∧ load ≤ 100000
   ·rw [ofd1 h2, if_pos ⟨h1, h2⟩]
    refine ev_succ ?_; simp only [impl_roughCode.j1]
    exact ev_neg (by simp) (rough_l1 ts hn g ts.length 0 (by omega) (by simp))
   ·rw [ofd h2, if_neg (fun q => h2 q.2)]; exact j2
  ·rw [if_neg (fun q => h1 (ofd1 q.1))]; exact j2
 | d + 1, i, hd, hi => by
  have hil : i < ts.length := by omega
  have er : rd_L3 ts (i : Int) = ts[i] := by unfold rd_L3; simp [List.getD_eq_getElem?_getD, hil]
  refine ev_succ ?_
  simp only [impl_roughCode.l0]
  rw [er, w64s (by omega)]
  refine ev_pos (by omega) (ev_pos (by omega) (ev_pos (by omega) (Ev.bind (validTackle_ev _) (ev_if (fun h => ?_) (fun h => ev_some ?_)))))
  ·refine rough_l0 ts hn loss load d (i + 1) (by omega) (fun g => hi ?_)
   rw [all_drop hil]; exact ⟨of_decide_eq_true h, g⟩
  ·unfold codeR; rw [if_neg]; intro g; exact h (ofd1 (g _ (List.getElem_mem hil)))
theorem rough_ev (ts : List (List S27)) (hn : ts.length ≤ 100) (loss load : Int) : Ev (fun k => impl_roughCode.f k loss load ts) (codeR ts loss load) := by
 simp only [impl_roughCode.f]
 exact rough_l0 ts hn loss load ts.length 0 (by omega) (by simp)
theorem codeR_one (t : List S27) (loss load : Int) : codeR [t] loss load = codeL t loss load := by
 unfold codeR codeL
 simp only [List.mem_singleton, forall_eq]
 split
 ·split
  ·by_cases h : shT t ≤ 9
   ·rw [if_pos h, if_neg (by omega)]
   ·rw [if_neg h, if_pos (by omega)]
  ·rfl
 ·rfl
theorem spec_l00Gcd_l0 : ∀ (n : Nat) (a b : Int), b.natAbs < n → ∃ r : Int, Ev (fun k => spec_l00Gcd.l0 k a b) r ∧ r.natAbs = Nat.gcd a.natAbs b.natAbs ∧ (0 ≤ a → 0 ≤ b → 0 ≤ r)
 | 0, a, b, h => absurd h (Nat.not_lt_zero _)
 | n + 1, a, b, h => by
  by_cases hb : b = 0
  ·subst hb
   refine ⟨a, ev_succ ?_, by simp, fun h0 _ => h0⟩
   simp only [spec_l00Gcd.l0]; exact ev_pos (by trivial) (Ev.now _)
  ·have hlt : (Int.tmod a b).natAbs < b.natAbs := by rw [Int.natAbs_tmod]; exact Nat.mod_lt _ (by omega)
   obtain ⟨r, e, hg, hp⟩ := spec_l00Gcd_l0 n b (Int.tmod a b) (by omega)
   refine ⟨r, ev_succ ?_, ?_, fun h0 h1 => hp h1 (Int.tmod_nonneg _ h0)⟩
   ·simp only [spec_l00Gcd.l0]; exact ev_neg hb e
   ·rw [hg, Int.natAbs_tmod, Nat.gcd_comm a.natAbs, Nat.gcd_rec b.natAbs a.natAbs, Nat.gcd_comm]
theorem spec_l00Gcd_l0' (a b : Int) (h0 : 0 ≤ a) (h1 : 0 ≤ b) : Ev (fun k => spec_l00Gcd.l0 k a b) (Int.gcd a b : Int) := by
 obtain ⟨r, e, hg, hp⟩ := spec_l00Gcd_l0 (b.natAbs + 1) a b (by omega)
 have : r = (Int.gcd a b : Int) := by have := hp h0 h1; unfold Int.gcd; omega
 rw [← this]; exact e
theorem make_ev (n d : Int) (hn : -9223372036854775807 ≤ n) (hn' : n ≤ 9223372036854775807) (hd : 0 < d) (hd' : d ≤ 9223372036854775807) :
  Ev (fun k => spec_l01Make.f k n d) (fr ((n : Rat) / (d : Rat))) := by
 have es : spec_l00Size.f n = some (n.natAbs : Int) := by
  unfold spec_l00Size.f
  by_cases h : n < 0
  ·rw [if_pos h, w64 (by omega) (by omega)]; congr 1; omega
  ·rw [if_neg h]; congr 1; omega
 have eg := spec_l00Gcd_l0' (n.natAbs : Int) d (by omega) (by omega)
 have egg : Int.gcd (n.natAbs : Int) d = Int.gcd n d := by simp [Int.gcd]
 rw [egg] at eg
 simp only [spec_l01Make.f, spec_l00Gcd.f]
 refine ev_now es (Ev.bind eg (ev_neg (by have := gcd_pos (n := n) (d := d) (by omega); omega) (ev_some ?_)))
 have f := fr_make (n := n) hd
 have b1 := num_le (B := 9223372036854775807) hd (r := (n : Rat) / (d : Rat)) rfl (by omega) (by omega)
 have b2 := den_le hd (r := (n : Rat) / (d : Rat)) rfl
 have b3 := den_pos ((n : Rat) / (d : Rat))
 have f1 := congrArg Prod.fst f
 have f2 := congrArg Prod.snd f
 simp only [fr] at f1 f2
 rw [f1, f2, w64 (by omega) (by omega), w64 (by omega) (by omega)]; rfl
/-- The sum of the parts' tensions ahead of part i, times the i-th power of D. -/
def gA (U D : Int) (away : Bool) : Nat → Int
 | 0 => 0
 | i + 1 => (gA U D away i + if (decide (0 < i) || away) = true then U ^ i else 0) * D
def gN (U D : Int) (away : Bool) (n : Nat) : Int := gA U D away n + if (decide (0 < n) || away) = true then U ^ n else 0
theorem pow_bd {U : Int} (h : 10 ≤ U ∧ U ≤ 20) : ∀ i : Nat, 1 ≤ U ^ i ∧ U ^ i ≤ 20 ^ i
 | 0 => by simp
 | i + 1 => by
  have ih := pow_bd h i
  rw [Int.pow_succ, Int.pow_succ]
  constructor
  ·have := Int.mul_le_mul ih.1 h.1 (by omega) (by omega); omega
  ·exact Int.mul_le_mul ih.2 h.2 (by omega) (by have := ih.1; omega)
theorem gA_bd {U D : Int} (hU : 10 ≤ U ∧ U ≤ 20) (hD : 10 ≤ D ∧ D ≤ 20) (away : Bool) : ∀ i : Nat, 0 ≤ gA U D away i ∧ gA U D away i ≤ i * 20 ^ i
 | 0 => by simp [gA]
 | i + 1 => by
  have ih := gA_bd hU hD away i
  have hp := pow_bd hU i
  have h1 : 0 ≤ gA U D away i + (if (decide (0 < i) || away) = true then U ^ i else 0) ∧ gA U D away i + (if (decide (0 < i) || away) = true then U ^ i else 0) ≤ (i + 1 : Nat) * 20 ^ i := by
   have e : ((i + 1 : Nat) : Int) * 20 ^ i = (i : Int) * 20 ^ i + 20 ^ i := by
    rw [Int.natCast_add, Int.add_mul]; simp
   rw [e]
   split <;> omega
  rw [gA]
  constructor
  ·exact Int.mul_nonneg h1.1 (by omega)
  ·have := Int.mul_le_mul h1.2 hD.2 (by omega) (by omega)
   rw [Int.pow_succ, ← Int.mul_assoc]; exact this
theorem gN_bd {U D : Int} (hU : 10 ≤ U ∧ U ≤ 20) (hD : 10 ≤ D ∧ D ≤ 20) (away : Bool) (n : Nat) (hn : 1 ≤ n) : 1 ≤ gN U D away n ∧ gN U D away n ≤ 40 ^ n := by
 have h1 := gA_bd hU hD away n
 have h2 := pow_bd hU n
 have h3 : ((n + 1 : Nat) : Int) * 20 ^ n ≤ 40 ^ n := by
  have e : (40 : Int) ^ n = 2 ^ n * 20 ^ n := by
   rw [← Int.mul_pow]; congr 1
  rw [e]
  apply Int.mul_le_mul_of_nonneg_right
  ·have : ∀ m : Nat, ((m + 1 : Nat) : Int) ≤ 2 ^ m := by
    intro m; induction m with
    | zero => simp
    | succ m ih => rw [Int.pow_succ]; omega
   exact this n
  ·exact Int.le_of_lt (Int.pow_pos (by omega))
 have e : ((n + 1 : Nat) : Int) * 20 ^ n = (n : Int) * 20 ^ n + 20 ^ n := by
  rw [Int.natCast_add, Int.add_mul]; simp
 unfold gN
 have hn' : (decide (0 < n) || away) = true := by simp; omega
 rw [if_pos hn']
 omega
theorem p20 : (20 : Int) ^ 9 = 512000000000 := by decide
theorem p40 : (40 : Int) ^ 9 = 262144000000000 := by decide
theorem pow_le9 {a : Int} (ha : 1 ≤ a) {i : Nat} (hi : i ≤ 9) : a ^ i ≤ a ^ 9 := by
 have h : ∀ j : Nat, 1 ≤ a ^ j := by
  intro j; induction j with
  | zero => simp
  | succ j ih => rw [Int.pow_succ]; have := Int.mul_le_mul ih ha (by omega) (by omega); omega
 obtain ⟨d, hd⟩ : ∃ d, 9 = i + d := ⟨9 - i, by omega⟩
 rw [hd, Int.pow_add]
 have := Int.mul_le_mul (Int.le_refl (a ^ i)) (h d) (by omega) (by have := h i; omega)
 omega
/-- How many parts more than the first a purchase has. -/
def nP (p : S27) : Nat := (p.f0 + p.f1).toNat
theorem nP_eq {p : S27} (h : okP p) : ((nP p : Nat) : Int) = p.f0 + p.f1 ∧ 1 ≤ nP p ∧ nP p ≤ 8 := by
 have h1 := h.1
 have h2 := h.2.1
 have h3 := h.2.2.1
 unfold nP; omega
def sP (U D : Int) (p : S27) : Rat := ((gN U D p.f2 (nP p) : Int) : Rat) / ((D ^ nP p : Int) : Rat)
/-- A tackle's gain: numerator and denominator, not in lowest terms, and the number itself. -/
def nT (U D : Int) : List S27 → Int
 | [] => 1
 | p :: t => gN U D p.f2 (nP p) * nT U D t
def eT (D : Int) : List S27 → Int
 | [] => 1
 | p :: t => D ^ nP p * eT D t
def gT (U D : Int) : List S27 → Rat
 | [] => 1
 | p :: t => sP U D p * gT U D t
def mT : List S27 → Nat
 | [] => 0
 | p :: t => nP p + mT t
theorem mT_eq {t : List S27} (h : okPs t) : ((mT t : Nat) : Int) = shT t := by
 induction t with
 | nil => rfl
 | cons p t ih =>
  have h1 := nP_eq (h p (by simp))
  have h2 := ih (fun q hq => h q (by simp [hq]))
  simp only [mT, shT]; omega
theorem gT_eq {U D : Int} (hD : 10 ≤ D ∧ D ≤ 20) (t : List S27) : gT U D t = ((nT U D t : Int) : Rat) / ((eT D t : Int) : Rat) := by
 induction t with
 | nil => simp [gT, nT, eT]; grind
 | cons p t ih =>
  have z : ∀ l : List S27, eT D l ≠ 0 := by
   intro l; induction l with
   | nil => simp [eT]
   | cons q l ih => rw [eT]; have := pow_bd hD (nP q); exact Int.mul_ne_zero (by omega) ih
  have z1 := ne0 (z t)
  have z2 := ne0 (d := D ^ nP p) (by have := pow_bd hD (nP p); omega)
  simp only [gT, nT, eT, ih, sP]
  rw [castI, castI]
  grind
theorem nT_bd {U D : Int} (hU : 10 ≤ U ∧ U ≤ 20) (hD : 10 ≤ D ∧ D ≤ 20) (t : List S27) (h : okPs t) : (1 ≤ nT U D t ∧ nT U D t ≤ 40 ^ mT t) ∧ (1 ≤ eT D t ∧ eT D t ≤ 20 ^ mT t) := by
 induction t with
 | nil => simp [nT, eT, mT]
 | cons p t ih =>
  have ih := ih (fun q hq => h q (by simp [hq]))
  have h1 := gN_bd hU hD p.f2 (nP p) (nP_eq (h p (by simp))).2.1
  have h2 := pow_bd hD (nP p)
  simp only [nT, eT, mT]
  rw [Int.pow_add, Int.pow_add]
  refine ⟨⟨?_, ?_⟩, ?_, ?_⟩
  ·have := Int.mul_le_mul h1.1 ih.1.1 (by omega) (by omega); omega
  ·exact Int.mul_le_mul h1.2 ih.1.2 (by omega) (by have := h1.1; omega)
  ·have := Int.mul_le_mul h2.1 ih.2.1 (by omega) (by omega); omega
  ·exact Int.mul_le_mul h2.2 ih.2.2 (by omega) (by have := h2.1; omega)
/-- What is known of a gain with few sheaves. -/
theorem gT_bd {U D : Int} (hU : 10 ≤ U ∧ U ≤ 20) (hD : 10 ≤ D ∧ D ≤ 20) (t : List S27) (h : okPs t) (hs : mT t ≤ 9) :
  1 ≤ (gT U D t).num ∧ (gT U D t).num ≤ 262144000000000 ∧ ((gT U D t).den : Int) ≤ 512000000000 := by
 have hb := nT_bd hU hD t h
 have e := gT_eq (U := U) hD t
 have b1 := pow_le9 (a := 40) (by omega) hs
 have b2 := pow_le9 (a := 20) (by omega) hs
 rw [p40] at b1
 rw [p20] at b2
 obtain ⟨m, hm, e1, e2⟩ := num_scale (by omega) e
 have l1 := num_le (B := 262144000000000) (by omega) e (by omega) (by omega)
 have l2 := den_le (by omega) e
 refine ⟨?_, l1.2, by omega⟩
 rcases Int.lt_or_le 0 (gT U D t).num with h' | h'
 ·omega
 ·have := Int.mul_nonpos_of_nonneg_of_nonpos (a := m) (b := (gT U D t).num) (by omega) h'
  rw [Int.mul_comm] at this; omega
theorem gT_append (U D : Int) (a b : List S27) : gT U D (a ++ b) = gT U D a * gT U D b := by
 induction a with
 | nil => simp [gT]
 | cons p a ih => simp only [List.cons_append, gT, ih]; grind
theorem mT_append (a b : List S27) : mT (a ++ b) = mT a + mT b := by
 induction a with
 | nil => simp [mT]
 | cons p a ih => simp only [List.cons_append, mT, ih]; omega
theorem l06Gain_l0 (U D : Int) (hU : 10 ≤ U ∧ U ≤ 20) (hD : 10 ≤ D ∧ D ≤ 20) (p : S27) (hp : okP p) : ∀ (d i : Nat), i + d = nP p →
  Ev (fun k => spec_l06Gain.l0 k U D (p.f0 + p.f1) (gA U D p.f2 i) (D ^ i) (U ^ i) (i : Int) p.f0 p.f1 p.f2) ((sP U D p).num, ((sP U D p).den : Int), p.f0, p.f1, p.f2)
 | 0, i, hd => by
  obtain ⟨hn, h1, h8⟩ := nP_eq hp
  have hi : i = nP p := by omega
  subst hi
  have bA := gA_bd hU hD p.f2 (nP p)
  have bU := pow_bd hU (nP p)
  have bD := pow_bd hD (nP p)
  have c1 := pow_le9 (a := 20) (by omega) (show nP p ≤ 9 by omega)
  rw [p20] at c1
  have bN := gN_bd hU hD p.f2 (nP p) h1
  have c2 := pow_le9 (a := 40) (by omega) (show nP p ≤ 9 by omega)
  rw [p40] at c2
  have fin : Ev (fun k => spec_l06Gain.l0 k U D (p.f0 + p.f1) (gN U D p.f2 (nP p)) (D ^ nP p) (U ^ nP p) ((nP p + 1 : Nat) : Int) p.f0 p.f1 p.f2) ((sP U D p).num, ((sP U D p).den : Int), p.f0, p.f1, p.f2) := by
   refine ev_succ ?_
   simp only [spec_l06Gain.l0]
   refine ev_neg (by omega) (Ev.bind (make_ev (gN U D p.f2 (nP p)) (D ^ nP p) (by omega) (by omega) (by omega) (by omega)) (ev_some ?_))
   rfl
  have eN : gN U D p.f2 (nP p) = gA U D p.f2 (nP p) + U ^ nP p := by unfold gN; rw [if_pos (by simp; omega)]
  rw [eN] at fin
  refine ev_succ ?_
  simp only [spec_l06Gain.l0]
  refine ev_pos (by omega) (ev_pos (by omega) ?_)
  refine ev_succ ?_
  simp only [spec_l06Gain.j1]
  rw [w64s (by omega), w64 (x := gA U D p.f2 (nP p) + U ^ nP p) (by omega) (by omega)]
  exact ev_pos (by trivial) (ev_neg (by omega) fin)
 | d + 1, i, hd => by
  obtain ⟨hn, h1, h8⟩ := nP_eq hp
  have bA := gA_bd hU hD p.f2 i
  have bU := pow_bd hU i
  have bD := pow_bd hD i
  have bA' := gA_bd hU hD p.f2 (i + 1)
  have bU' := pow_bd hU (i + 1)
  have bD' := pow_bd hD (i + 1)
  have c1 := pow_le9 (a := 20) (by omega) (show i ≤ 9 by omega)
  have c2 := pow_le9 (a := 20) (by omega) (show i + 1 ≤ 9 by omega)
  rw [p20] at c1 c2
  have m1 : (i : Int) * 20 ^ i ≤ 9 * 512000000000 := Int.mul_le_mul (by omega) c1 (by omega) (by omega)
  have m2 : ((i + 1 : Nat) : Int) * 20 ^ (i + 1) ≤ 9 * 512000000000 := Int.mul_le_mul (by omega) c2 (by omega) (by omega)
  have ih := l06Gain_l0 U D hU hD p hp d (i + 1) (by omega)
  have e3 : D ^ (i + 1) = D ^ i * D := Int.pow_succ D i
  have e4 : U ^ (i + 1) = U ^ i * U := Int.pow_succ U i
  have J : ∀ b : Bool, b = (decide (0 < i) || p.f2) → Ev (fun k => spec_l06Gain.j1 k U D (p.f0 + p.f1) (gA U D p.f2 i) (D ^ i) (U ^ i) (i : Int) b p.f0 p.f1 p.f2) ((sP U D p).num, ((sP U D p).den : Int), p.f0, p.f1, p.f2) := by
   intro b hb
   have e5 : gA U D p.f2 (i + 1) = (gA U D p.f2 i + if b = true then U ^ i else 0) * D := by rw [gA, hb]
   rw [e3, e4, e5] at ih
   rw [e3] at bD'
   rw [e4] at bU'
   rw [e5] at bA'
   refine ev_succ ?_
   simp only [spec_l06Gain.j1]
   rw [w64s (by omega), w64 (x := D ^ i * D) (by omega) (by omega), w64 (x := U ^ i * U) (by omega) (by omega)]
   refine ev_if (fun h => ev_pos (by omega) ?_) (fun h => ev_pos (by omega) ?_)
   ·rw [if_pos h] at ih bA'
    rw [w64 (x := gA U D p.f2 i + U ^ i) (by omega) (by omega), w64 (x := (gA U D p.f2 i + U ^ i) * D) (by omega) (by omega)]
    exact ih
   ·rw [if_neg h, Int.add_zero] at ih bA'
    rw [w64 (x := gA U D p.f2 i * D) (by omega) (by omega)]
    exact ih
  refine ev_succ ?_
  simp only [spec_l06Gain.l0]
  refine ev_pos (by omega) (ev_if (fun h => J true ?_) (fun h => J p.f2 ?_))
  ·have : 0 < i := by omega
   simp [this]
  ·have : ¬ 0 < i := by omega
   simp [this]
theorem l06Gain_ev (U D : Int) (hU : 10 ≤ U ∧ U ≤ 20) (hD : 10 ≤ D ∧ D ≤ 20) (p : S27) (hp : okP p) :
  Ev (fun k => spec_l06Gain.f k p.f0 p.f1 p.f2 U D) ((sP U D p).num, ((sP U D p).den : Int), p.f0, p.f1, p.f2) := by
 have h1 := hp.1
 have h2 := hp.2.1
 have := l06Gain_l0 U D hU hD p hp (nP p) 0 (by omega)
 simp only [spec_l06Gain.f]
 rw [w64 (x := p.f0 + p.f1) (by omega) (by omega)]
 simpa [gA] using this
theorem l06Gain_at_ev (U D : Int) (hU : 10 ≤ U ∧ U ≤ 20) (hD : 10 ≤ D ∧ D ≤ 20) (p : S27) (hp : okP p) :
  Ev (fun k => spec_l06Gain_at.f k p.f0 p.f1 p.f2 U D) ((sP U D p).num, ((sP U D p).den : Int)) := by
 simp only [spec_l06Gain_at.f]
 exact Ev.bind (l06Gain_ev U D hU hD p hp) (Ev.now _)
theorem sP_bd {U D : Int} (hU : 10 ≤ U ∧ U ≤ 20) (hD : 10 ≤ D ∧ D ≤ 20) {p : S27} (hp : okP p) :
  1 ≤ (sP U D p).num ∧ (sP U D p).num ≤ 262144000000000 ∧ ((sP U D p).den : Int) ≤ 512000000000 := by
 have := gT_bd hU hD [p] (by intro q hq; simp at hq; rw [hq]; exact hp) (by have := nP_eq hp; simp [mT]; omega)
 have e : gT U D [p] = sP U D p := by simp only [gT]; grind
 rw [e] at this; exact this
theorem l06All_l0 (U D : Int) (hU : 10 ≤ U ∧ U ≤ 20) (hD : 10 ≤ D ∧ D ≤ 20) (t : List S27) (ho : okPs t) (hs : mT t ≤ 9) (hn : t.length ≤ 100) : ∀ (d i : Nat), i + d = t.length →
  Ev (fun k => spec_l06All.l0 k t U D (i : Int) (gT U D (t.take i)).num ((gT U D (t.take i)).den : Int)) (fr (gT U D t))
 | 0, i, hd => by
  refine ev_succ ?_
  simp only [spec_l06All.l0]
  refine ev_neg (by omega) (ev_some ?_)
  rw [List.take_of_length_le (by omega)]; rfl
 | d + 1, i, hd => by
  have hi : i < t.length := by omega
  have ih := l06All_l0 U D hU hD t ho hs hn d (i + 1) (by omega)
  have et : t.take (i + 1) = t.take i ++ [t[i]] := by rw [List.take_succ_eq_append_getElem hi]
  have eg : gT U D (t.take (i + 1)) = gT U D (t.take i) * sP U D t[i] := by
   rw [et, gT_append]; simp only [gT]; grind
  have hp := ho _ (List.getElem_mem hi)
  have hm : mT (t.take (i + 1)) ≤ 9 := by
   have := mT_append (t.take (i + 1)) (t.drop (i + 1)); rw [List.take_append_drop] at this; omega
  have hm' : mT (t.take i) ≤ 9 := by
   have := mT_append (t.take i) (t.drop i); rw [List.take_append_drop] at this; omega
  have ho1 : okPs (t.take i) := fun q hq => ho q (List.mem_of_mem_take hq)
  have ho2 : okPs (t.take (i + 1)) := fun q hq => ho q (List.mem_of_mem_take hq)
  have b1 := gT_bd hU hD (t.take i) ho1 hm'
  have b2 := gT_bd hU hD (t.take (i + 1)) ho2 hm
  have b3 := sP_bd hU hD hp
  rw [eg] at b2 ih
  generalize gT U D (t.take i) = G at *
  generalize hS : sP U D t[i] = S at *
  have pG := den_pos G
  have pS := den_pos S
  have pGS := den_pos (G * S)
  have key := mul_key G S
  have k1 := congrArg Prod.fst key
  have k2 := congrArg Prod.snd key
  simp only [fr] at k1 k2
  refine ev_succ ?_
  simp only [spec_l06All.l0]
  rw [rdP hi, w64s (by omega)]
  have e0 := l06Gain_at_ev U D hU hD t[i] hp
  rw [hS] at e0
  refine ev_pos (by omega) (ev_pos (by omega) (Ev.bind e0 (Ev.bind (make_ev G.num (S.den : Int) (by omega) (by omega) (by omega) (by omega)) (Ev.bind (make_ev S.num (G.den : Int) (by omega) (by omega) (by omega) (by omega)) ?_))))
  simp only [fr]
  rw [← k1, ← k2, w64 (x := (G * S).num) (by omega) (by omega), w64 (x := ((G * S).den : Int)) (by omega) (by omega)]
  refine Ev.bind (make_ev (G * S).num ((G * S).den : Int) (by omega) (by omega) (by omega) (by omega)) ?_
  rw [rat_self]
  exact ih
theorem l06All_ev (U D : Int) (hU : 10 ≤ U ∧ U ≤ 20) (hD : 10 ≤ D ∧ D ≤ 20) (t : List S27) (ho : okPs t) (hs : mT t ≤ 9) (hn : t.length ≤ 100) :
  Ev (fun k => spec_l06All.f k t U D) (fr (gT U D t)) := by
 have := l06All_l0 U D hU hD t ho hs hn t.length 0 (by omega)
 simp only [spec_l06All.f]
 exact this
theorem impl_gcd_l0 : ∀ (n : Nat) (a b : Int), b.natAbs < n → ∃ r : Int, Ev (fun k => impl_gcd.l0 k a b) r ∧ r.natAbs = Nat.gcd a.natAbs b.natAbs ∧ (0 ≤ a → 0 ≤ b → 0 ≤ r)
 | 0, a, b, h => absurd h (Nat.not_lt_zero _)
 | n + 1, a, b, h => by
  by_cases hb : b = 0
  ·subst hb
   refine ⟨a, ev_succ ?_, by simp, fun h0 _ => h0⟩
   simp only [impl_gcd.l0]; exact ev_pos (by trivial) (Ev.now _)
  ·have hlt : (Int.tmod a b).natAbs < b.natAbs := by rw [Int.natAbs_tmod]; exact Nat.mod_lt _ (by omega)
   obtain ⟨r, e, hg, hp⟩ := impl_gcd_l0 n b (Int.tmod a b) (by omega)
   refine ⟨r, ev_succ ?_, ?_, fun h0 h1 => hp h1 (Int.tmod_nonneg _ h0)⟩
   ·simp only [impl_gcd.l0]; exact ev_neg hb e
   ·rw [hg, Int.natAbs_tmod, Nat.gcd_comm a.natAbs, Nat.gcd_rec b.natAbs a.natAbs, Nat.gcd_comm]
theorem impl_gcd_l0' (a b : Int) (h0 : 0 ≤ a) (h1 : 0 ≤ b) : Ev (fun k => impl_gcd.l0 k a b) (Int.gcd a b : Int) := by
 obtain ⟨r, e, hg, hp⟩ := impl_gcd_l0 (b.natAbs + 1) a b (by omega)
 have : r = (Int.gcd a b : Int) := by have := hp h0 h1; unfold Int.gcd; omega
 rw [← this]; exact e
theorem gcd_ev (a b : Int) (ha : -9223372036854775807 ≤ a) (ha' : a ≤ 9223372036854775807) (hb : 0 ≤ b) : Ev (fun k => impl_gcd.f k a b) (Int.gcd a b : Int) := by
 simp only [impl_gcd.f]
 refine ev_if (fun h => ?_) (fun h => ?_)
 ·rw [w64 (by omega) (by omega)]
  refine ev_succ ?_; simp only [impl_gcd.j0]
  have := impl_gcd_l0' (-a) b (by omega) hb
  rw [Int.neg_gcd] at this; exact this
 ·refine ev_succ ?_; simp only [impl_gcd.j0]
  exact impl_gcd_l0' a b (by omega) hb
theorem fraction_ev (n d : Int) (hn : -9223372036854775807 ≤ n) (hn' : n ≤ 9223372036854775807) (hd : -9223372036854775807 ≤ d) (hd' : d ≤ 9223372036854775807) (h0 : d ≠ 0) :
  Ev (fun k => impl_fraction.f k n d) (fr ((n : Rat) / (d : Rat))) := by
 have pos : ∀ m e : Int, -9223372036854775807 ≤ m → m ≤ 9223372036854775807 → 0 < e → e ≤ 9223372036854775807 →
   Ev (fun k => (impl_gcd.f k m e).bind fun t => if t = 0 then none else some (wrap64 (Int.tdiv m t), wrap64 (Int.tdiv e t))) (fr ((m : Rat) / (e : Rat))) := by
  intro m e hm hm' he he'
  refine Ev.bind (gcd_ev m e hm hm' (by omega)) (ev_neg (by have := gcd_pos (n := m) (d := e) (by omega); omega) (ev_some ?_))
  have f := fr_make (n := m) he
  have b1 := num_le (B := 9223372036854775807) he (r := (m : Rat) / (e : Rat)) rfl (by omega) (by omega)
  have b2 := den_le he (r := (m : Rat) / (e : Rat)) rfl
  have b3 := den_pos ((m : Rat) / (e : Rat))
  have f1 := congrArg Prod.fst f
  have f2 := congrArg Prod.snd f
  simp only [fr] at f1 f2
  rw [f1, f2, w64 (by omega) (by omega), w64 (by omega) (by omega)]; rfl
 simp only [impl_fraction.f]
 refine ev_if (fun h => ?_) (fun h => ?_)
 ·rw [w64 (x := -n) (by omega) (by omega), w64 (x := -d) (by omega) (by omega), ← fr_make_neg h]
  exact pos (-n) (-d) (by omega) (by omega) (by omega) (by omega)
 ·exact pos n d hn hn' (by omega) hd'
theorem mulFr_ev (a b : Rat) (ha : -9223372036854775807 ≤ a.num) (ha' : a.num ≤ 9223372036854775807) (hb : -9223372036854775807 ≤ b.num) (hb' : b.num ≤ 9223372036854775807)
  (hda : (a.den : Int) ≤ 9223372036854775807) (hdb : (b.den : Int) ≤ 9223372036854775807)
  (h1 : -9223372036854775807 ≤ (a * b).num) (h2 : (a * b).num ≤ 9223372036854775807) (h3 : ((a * b).den : Int) ≤ 9223372036854775807) :
  Ev (fun k => impl_mulFractions.f k a.num a.den b.num b.den) (fr (a * b)) := by
 have pa := den_pos a
 have pb := den_pos b
 have e1 := fraction_ev a.num b.den ha ha' (by omega) hdb (by omega)
 have e2 := fraction_ev b.num a.den hb hb' (by omega) hda (by omega)
 have key := mul_key a b
 simp only [impl_mulFractions.f]
 refine Ev.bind e1 (Ev.bind e2 (ev_some ?_))
 have k1 := congrArg Prod.fst key
 have k2 := congrArg Prod.snd key
 simp only [fr] at k1 k2 ⊢
 have pd := den_pos (a * b)
 rw [← k1, ← k2, w64 (by omega) (by omega), w64 (by omega) (by omega)]
theorem addFr_ev (a b : Rat) (D x y : Int) (hD : 0 < D) (hD' : D ≤ 4611686018427387903) (ha : a = (x : Rat) / (D : Rat)) (hb : b = (y : Rat) / (D : Rat))
  (hx : -4611686018427387903 ≤ x) (hx' : x ≤ 4611686018427387903) (hy : -4611686018427387903 ≤ y) (hy' : y ≤ 4611686018427387903) :
  Ev (fun k => impl_addFractions.f k a.num a.den b.num b.den) (fr (a + b)) := by
 have pa := den_pos a
 have pb := den_pos b
 have da := den_le hD ha
 have db := den_le hD hb
 have eg := gcd_ev (a.den : Int) (b.den : Int) (by omega) (by omega) (by omega)
 have gp := gcd_pos (n := (a.den : Int)) (d := (b.den : Int)) (by omega)
 generalize hg : (Int.gcd (a.den : Int) (b.den : Int) : Int) = g at *
 obtain ⟨u, hu⟩ : g ∣ (a.den : Int) := by rw [← hg]; exact Int.gcd_dvd_left _ _
 obtain ⟨v, hv⟩ : g ∣ (b.den : Int) := by rw [← hg]; exact Int.gcd_dvd_right _ _
 have tu : Int.tdiv (a.den : Int) g = u := by rw [hu]; exact Int.mul_tdiv_cancel_left _ (by omega)
 have tv : Int.tdiv (b.den : Int) g = v := by rw [hv]; exact Int.mul_tdiv_cancel_left _ (by omega)
 have hup : 0 < u := by
  rcases Int.lt_or_le 0 u with h | h
  ·exact h
  ·have := Int.mul_nonpos_of_nonneg_of_nonpos (Int.le_of_lt gp) h; omega
 have hvp : 0 < v := by
  rcases Int.lt_or_le 0 v with h | h
  ·exact h
  ·have := Int.mul_nonpos_of_nonneg_of_nonpos (Int.le_of_lt gp) h; omega
 -- the least common multiple divides D
 have hl : u * (b.den : Int) ∣ D := by
  have h1 : Int.lcm (a.den : Int) (b.den : Int) ∣ D.natAbs := Nat.lcm_dvd (Int.natAbs_dvd_natAbs.2 (den_dvd (by omega) ha)) (Int.natAbs_dvd_natAbs.2 (den_dvd (by omega) hb))
  have h2 : (Int.lcm (a.den : Int) (b.den : Int) : Int) = u * (b.den : Int) := by
   have h3 := Int.gcd_mul_lcm (a.den : Int) (b.den : Int)
   have h4 : g * (Int.lcm (a.den : Int) (b.den : Int) : Int) = g * (u * (b.den : Int)) := by
    rw [← hg, ← Int.natCast_mul, h3, hg, ← Int.mul_assoc, ← hu]
    simp [Int.natAbs_mul]
   exact Int.eq_of_mul_eq_mul_left (by omega) h4
  rw [← h2]; exact Int.natAbs_dvd_natAbs.1 (by rw [Int.natAbs_natCast]; exact h1)
 obtain ⟨c, hc⟩ := hl
 have hlp : 0 < u * (b.den : Int) := Int.mul_pos hup pb
 have hcp : 1 ≤ c := by
  rcases Int.lt_or_le 0 c with h | h
  ·omega
  ·have := Int.mul_nonpos_of_nonneg_of_nonpos (Int.le_of_lt hlp) h; omega
 have ca := cross (by omega) ha
 have cb := cross (by omega) hb
 have ex : x = a.num * v * c := by
  have h1 : (a.den : Int) * x = (a.den : Int) * (a.num * v * c) := by grind
  exact Int.eq_of_mul_eq_mul_left (by omega) h1
 have ey : y = b.num * u * c := by
  have h1 : (b.den : Int) * y = (b.den : Int) * (b.num * u * c) := by grind
  exact Int.eq_of_mul_eq_mul_left (by omega) h1
 have bnd : ∀ z B : Int, 0 ≤ B → -B ≤ z * c → z * c ≤ B → -B ≤ z ∧ z ≤ B := by
  intro z B hB h1 h2
  have h3 : (z * c).natAbs ≤ B.natAbs := by omega
  rw [Int.natAbs_mul] at h3
  have h4 : z.natAbs * 1 ≤ z.natAbs * c.natAbs := Nat.mul_le_mul_left _ (by omega)
  omega
 have b1 := bnd (a.num * v) 4611686018427387903 (by omega) (by omega) (by omega)
 have b2 := bnd (b.num * u) 4611686018427387903 (by omega) (by omega) (by omega)
 have b3 := bnd (u * (b.den : Int)) 4611686018427387903 (by omega) (by omega) (by omega)
 have lu : u ≤ (a.den : Int) := by
  have : u * 1 ≤ u * g := Int.mul_le_mul_of_nonneg_left (by omega) (by omega)
  rw [hu, Int.mul_comm g u]; omega
 have lv : v ≤ (b.den : Int) := by
  have : v * 1 ≤ v * g := Int.mul_le_mul_of_nonneg_left (by omega) (by omega)
  rw [hv, Int.mul_comm g v]; omega
 have es : a + b = ((a.num * v + b.num * u : Int) : Rat) / ((u * (b.den : Int) : Int) : Rat) := by
  have ea := rat_self a
  have eb := rat_self b
  have za := ne0 (d := (a.den : Int)) (by omega)
  have zb := ne0 (d := (b.den : Int)) (by omega)
  have zu := ne0 (d := u) (by omega)
  have zv := ne0 (d := v) (by omega)
  have zg := ne0 (d := g) (by omega)
  have hu' : ((a.den : Int) : Rat) = (g : Rat) * (u : Rat) := by rw [← castI, ← hu]
  have hv' : ((b.den : Int) : Rat) = (g : Rat) * (v : Rat) := by rw [← castI, ← hv]
  rw [castI, Rat.intCast_add, castI, castI]
  grind
 simp only [impl_addFractions.f]
 refine Ev.bind eg (ev_neg (by omega) ?_)
 rw [tu, tv, w64 (x := v) (by omega) (by omega), w64 (x := u) (by omega) (by omega), w64 (x := a.num * v) (by omega) (by omega), w64 (x := b.num * u) (by omega) (by omega),
  w64 (x := a.num * v + b.num * u) (by omega) (by omega), w64 (x := u * (b.den : Int)) (by omega) (by omega)]
 refine Ev.bind (fraction_ev _ _ (by omega) (by omega) (by omega) (by omega) (by omega)) (ev_some ?_)
 rw [es]
def sI (U D : Int) (away : Bool) (i : Nat) : Rat := ((gA U D away i : Int) : Rat) / ((D ^ i : Int) : Rat)
def tI (U D : Int) (i : Nat) : Rat := ((U ^ i : Int) : Rat) / ((D ^ i : Int) : Rat)
theorem tI_succ {U D : Int} (hD : 10 ≤ D ∧ D ≤ 20) (i : Nat) : tI U D i * ((U : Rat) / (D : Rat)) = tI U D (i + 1) := by
 have z1 := ne0 (d := D) (by omega)
 have z2 := ne0 (d := D ^ i) (by have := pow_bd hD i; omega)
 unfold tI
 rw [Int.pow_succ, Int.pow_succ, castI, castI]
 grind
theorem sI_succ {U D : Int} (hD : 10 ≤ D ∧ D ≤ 20) (away : Bool) (i : Nat) : sI U D away (i + 1) = if (decide (0 < i) || away) = true then sI U D away i + tI U D i else sI U D away i := by
 have z1 := ne0 (d := D) (by omega)
 have z2 := ne0 (d := D ^ i) (by have := pow_bd hD i; omega)
 unfold sI tI
 rw [Int.pow_succ, gA, castI, castI]
 split
 ·rw [Rat.intCast_add]; grind
 ·rw [Int.add_zero]; grind
theorem sI_last {U D : Int} (hD : 10 ≤ D ∧ D ≤ 20) (p : S27) : sI U D p.f2 (nP p + 1) = sP U D p := by
 have z1 := ne0 (d := D) (by omega)
 have z2 := ne0 (d := D ^ nP p) (by have := pow_bd hD (nP p); omega)
 unfold sI sP gN
 rw [Int.pow_succ, gA, castI, castI]
 grind
theorem gw_l1 (U D : Int) (hU : 10 ≤ U ∧ U ≤ 20) (hD : 10 ≤ D ∧ D ≤ 20) (p : S27) (hp : okP p) (t : List S27) (len x14 : Int) (G : Rat) (r : Int × Int)
  (b1 : 1 ≤ G.num ∧ G.num ≤ 262144000000000 ∧ (G.den : Int) ≤ 512000000000) (b2 : 1 ≤ (G * sP U D p).num ∧ (G * sP U D p).num ≤ 262144000000000 ∧ ((G * sP U D p).den : Int) ≤ 512000000000)
  (hr : Ev (fun k => impl_gainWith.l0 k t len (wrap64 (x14 + 1)) ((U : Rat) / (D : Rat)).num (((U : Rat) / (D : Rat)).den : Int) (G * sP U D p).num ((G * sP U D p).den : Int)) r) : ∀ (d i : Nat), i + d = nP p + 1 →
  Ev (fun k => impl_gainWith.l1 k (i : Int) t len x14 ((U : Rat) / (D : Rat)).num (((U : Rat) / (D : Rat)).den : Int) G.num (G.den : Int) p.f0 p.f1 p.f2 (sI U D p.f2 i).num ((sI U D p.f2 i).den : Int) (tI U D i).num ((tI U D i).den : Int)) r
 | 0, i, hd => by
  obtain ⟨hn, h1, h8⟩ := nP_eq hp
  have hp0 := hp.1
  have hp1 := hp.2.1
  have hi : i = nP p + 1 := by omega
  subst hi
  rw [sI_last hD]
  have bS := gN_bd hU hD p.f2 (nP p) h1
  have bD := pow_bd hD (nP p)
  have c1 := pow_le9 (a := 20) (by omega) (show nP p ≤ 9 by omega)
  have c2 := pow_le9 (a := 40) (by omega) (show nP p ≤ 9 by omega)
  rw [p20] at c1
  rw [p40] at c2
  have l1 := num_le (B := 262144000000000) (by omega) (r := sP U D p) rfl (by omega) (by omega)
  have l2 := den_le (by omega) (r := sP U D p) rfl
  refine ev_succ ?_
  simp only [impl_gainWith.l1]
  rw [w64 (x := p.f0 + p.f1) (by omega) (by omega)]
  refine ev_neg (by omega) (Ev.bind (mulFr_ev G (sP U D p) (by omega) (by omega) (by omega) (by omega) (by omega) (by omega) (by omega) (by omega) (by omega)) ?_)
  exact hr
 | d + 1, i, hd => by
  obtain ⟨hn, h1, h8⟩ := nP_eq hp
  have hp0 := hp.1
  have hp1 := hp.2.1
  have ih := gw_l1 U D hU hD p hp t len x14 G r b1 b2 hr d (i + 1) (by omega)
  have bA := gA_bd hU hD p.f2 i
  have bU := pow_bd hU i
  have bD := pow_bd hD i
  have bU' := pow_bd hU (i + 1)
  have bD' := pow_bd hD (i + 1)
  have c1 := pow_le9 (a := 20) (by omega) (show i ≤ 9 by omega)
  have c2 := pow_le9 (a := 20) (by omega) (show i + 1 ≤ 9 by omega)
  rw [p20] at c1 c2
  have m1 : (i : Int) * 20 ^ i ≤ 9 * 512000000000 := Int.mul_le_mul (by omega) c1 (by omega) (by omega)
  have lt1 := num_le (B := 512000000000) (by omega) (r := tI U D i) rfl (by omega) (by omega)
  have lt2 := den_le (by omega) (r := tI U D i) rfl
  have lt3 := num_le (B := 512000000000) (by omega) (r := tI U D (i + 1)) rfl (by omega) (by omega)
  have lt4 := den_le (by omega) (r := tI U D (i + 1)) rfl
  have lq1 := num_le (B := 20) (n := U) (d := D) (by omega) (r := (U : Rat) / (D : Rat)) rfl (by omega) (by omega)
  have lq2 := den_le (n := U) (d := D) (by omega) (r := (U : Rat) / (D : Rat)) rfl
  have em : Ev (fun k => impl_mulFractions.f k (tI U D i).num ((tI U D i).den : Int) ((U : Rat) / (D : Rat)).num (((U : Rat) / (D : Rat)).den : Int)) (fr (tI U D (i + 1))) := by
   have := mulFr_ev (tI U D i) ((U : Rat) / (D : Rat)) (by omega) (by omega) (by omega) (by omega) (by omega) (by omega) (by rw [tI_succ hD]; omega) (by rw [tI_succ hD]; omega) (by rw [tI_succ hD]; omega)
   rw [tI_succ hD] at this; exact this
  have J : ∀ b : Bool, b = (decide (0 < i) || p.f2) → Ev (fun k => impl_gainWith.j2 k (i : Int) t len x14 b ((U : Rat) / (D : Rat)).num (((U : Rat) / (D : Rat)).den : Int) G.num (G.den : Int) p.f0 p.f1 p.f2 (sI U D p.f2 i).num ((sI U D p.f2 i).den : Int) (tI U D i).num ((tI U D i).den : Int)) r := by
   intro b hb
   rw [sI_succ hD, ← hb] at ih
   refine ev_succ ?_
   simp only [impl_gainWith.j2]
   rw [w64s (by omega)]
   refine ev_if (fun h => ?_) (fun h => ?_)
   ·rw [if_pos h] at ih
    refine Ev.bind (addFr_ev (sI U D p.f2 i) (tI U D i) (D ^ i) (gA U D p.f2 i) (U ^ i) (by omega) (by omega) rfl rfl (by omega) (by omega) (by omega) (by omega)) (Ev.bind em ?_)
    exact ih
   ·rw [if_neg h] at ih
    refine Ev.bind em ?_
    exact ih
  refine ev_succ ?_
  simp only [impl_gainWith.l1]
  rw [w64 (x := p.f0 + p.f1) (by omega) (by omega)]
  refine ev_pos (by omega) (ev_if (fun h => J true ?_) (fun h => J p.f2 ?_))
  ·have : 0 < i := by omega
   simp [this]
  ·have : ¬ 0 < i := by omega
   simp [this]
theorem gw_l0 (U D : Int) (hU : 10 ≤ U ∧ U ≤ 20) (hD : 10 ≤ D ∧ D ≤ 20) (t : List S27) (ho : okPs t) (hs : mT t ≤ 9) (hn : t.length ≤ 100) : ∀ (d i : Nat), i + d = t.length →
  Ev (fun k => impl_gainWith.l0 k t (t.length : Int) (i : Int) ((U : Rat) / (D : Rat)).num (((U : Rat) / (D : Rat)).den : Int) (gT U D (t.take i)).num ((gT U D (t.take i)).den : Int)) (fr (gT U D t))
 | 0, i, hd => by
  refine ev_succ ?_
  simp only [impl_gainWith.l0]
  refine ev_neg (by omega) (ev_some ?_)
  rw [List.take_of_length_le (by omega)]; rfl
 | d + 1, i, hd => by
  have hi : i < t.length := by omega
  have ih := gw_l0 U D hU hD t ho hs hn d (i + 1) (by omega)
  have et : t.take (i + 1) = t.take i ++ [t[i]] := by rw [List.take_succ_eq_append_getElem hi]
  have eg : gT U D (t.take (i + 1)) = gT U D (t.take i) * sP U D t[i] := by
   rw [et, gT_append]; simp only [gT]; grind
  have hp := ho _ (List.getElem_mem hi)
  have hm : mT (t.take (i + 1)) ≤ 9 := by
   have := mT_append (t.take (i + 1)) (t.drop (i + 1)); rw [List.take_append_drop] at this; omega
  have hm' : mT (t.take i) ≤ 9 := by
   have := mT_append (t.take i) (t.drop i); rw [List.take_append_drop] at this; omega
  have ho1 : okPs (t.take i) := fun q hq => ho q (List.mem_of_mem_take hq)
  have ho2 : okPs (t.take (i + 1)) := fun q hq => ho q (List.mem_of_mem_take hq)
  have b1 := gT_bd hU hD (t.take i) ho1 hm'
  have b2 := gT_bd hU hD (t.take (i + 1)) ho2 hm
  rw [eg] at b2 ih
  have main := gw_l1 U D hU hD t[i] hp t (t.length : Int) (i : Int) (gT U D (t.take i)) (fr (gT U D t)) b1 b2 (by rw [w64s (by omega)]; exact ih) (nP t[i] + 1) 0 (by omega)
  have f0 := fraction_ev 0 1 (by omega) (by omega) (by omega) (by omega) (by omega)
  have f1 := fraction_ev 1 1 (by omega) (by omega) (by omega) (by omega) (by omega)
  have s0 : sI U D t[i].f2 0 = ((0 : Int) : Rat) / ((1 : Int) : Rat) := by simp [sI, gA]
  have s1 : tI U D 0 = ((1 : Int) : Rat) / ((1 : Int) : Rat) := by simp [tI]
  rw [s0, s1] at main
  refine ev_succ ?_
  simp only [impl_gainWith.l0]
  rw [rdP hi]
  refine ev_pos (by omega) (ev_pos (by omega) (ev_pos (by omega) (Ev.bind f0 (Ev.bind f1 ?_))))
  exact main
theorem gw_ev (U D : Int) (hU : 10 ≤ U ∧ U ≤ 20) (hD : 10 ≤ D ∧ D ≤ 20) (t : List S27) (ho : okPs t) (hs : mT t ≤ 9) (hn : t.length ≤ 100) :
  Ev (fun k => impl_gainWith.f k t ((U : Rat) / (D : Rat)).num (((U : Rat) / (D : Rat)).den : Int)) (fr (gT U D t)) := by
 have := gw_l0 U D hU hD t ho hs hn t.length 0 (by omega)
 have f1 := fraction_ev 1 1 (by omega) (by omega) (by omega) (by omega) (by omega)
 have e1 : ((1 : Int) : Rat) / ((1 : Int) : Rat) = 1 := by simp; grind
 rw [e1] at f1
 simp only [impl_gainWith.f]
 exact Ev.bind f1 this
theorem okT_few {t : List S27} (h : okT t) (hs : shT t ≤ 9) : okPs t ∧ mT t ≤ 9 ∧ t.length ≤ 100 := by
 have := mT_eq h.1
 have := h.2.2
 exact ⟨h.1, by omega, by omega⟩
theorem implHold_ev (t : List S27) (loss : Int) (h : okT t) (hs : shT t ≤ 9) (hl : 0 ≤ loss ∧ loss ≤ 10) : Ev (fun k => impl_holdGain.f k t loss) (fr (gT 20 (20 - loss) t)) := by
 obtain ⟨h1, h2, h3⟩ := okT_few h hs
 simp only [impl_holdGain.f]
 rw [w64 (x := 20 - loss) (by omega) (by omega)]
 exact Ev.bind (fraction_ev 20 (20 - loss) (by omega) (by omega) (by omega) (by omega) (by omega)) (Ev.bind (gw_ev 20 (20 - loss) (by omega) (by omega) t h1 h2 h3) (Ev.now _))
theorem specRaise_ev (t : List S27) (loss : Int) (h : okT t) (hs : shT t ≤ 9) (hl : 0 ≤ loss ∧ loss ≤ 10) : Ev (fun k => spec_l06Raise.f k t loss) (fr (gT (20 - loss) 20 t)) := by
 obtain ⟨h1, h2, h3⟩ := okT_few h hs
 simp only [spec_l06Raise.f]
 rw [w64 (x := 20 - loss) (by omega) (by omega)]
 exact Ev.bind (l06All_ev (20 - loss) 20 (by omega) (by omega) t h1 h2 h3) (Ev.now _)
theorem implRaise_ev (t : List S27) (loss : Int) (h : okT t) (hs : shT t ≤ 9) (hl : 0 ≤ loss ∧ loss ≤ 10) : Ev (fun k => impl_raiseGain.f k t loss) (fr (gT (20 - loss) 20 t)) := by
 obtain ⟨h1, h2, h3⟩ := okT_few h hs
 simp only [impl_raiseGain.f]
 rw [w64 (x := 20 - loss) (by omega) (by omega)]
 exact Ev.bind (fraction_ev (20 - loss) 20 (by omega) (by omega) (by omega) (by omega) (by omega)) (Ev.bind (gw_ev (20 - loss) 20 (by omega) (by omega) t h1 h2 h3) (Ev.now _))
def cI (away : Bool) : Nat → Int
 | 0 => 0
 | i + 1 => cI away i + if (decide (0 < i) || away) = true then 1 else 0
theorem cI_succ (away : Bool) : ∀ i : Nat, cI away (i + 1) = (i : Int) + if away = true then 1 else 0
 | 0 => by simp [cI]
 | i + 1 => by
  rw [cI, cI_succ away i]
  have : (decide (0 < i + 1) || away) = true := by simp
  rw [if_pos this]; omega
theorem cI_nonneg (away : Bool) : ∀ i : Nat, 0 ≤ cI away i
 | 0 => by simp [cI]
 | i + 1 => by rw [cI_succ]; split <;> omega
def partsP (p : S27) : Int := p.f0 + p.f1 + if p.f2 = true then 1 else 0
def advT : List S27 → Int
 | [] => 1
 | p :: t => partsP p * advT t
theorem partsP_bd {p : S27} (h : okP p) : 1 ≤ partsP p ∧ partsP p ≤ 9 ∧ partsP p ≤ (nP p : Int) + 1 := by
 have h1 := nP_eq h
 unfold partsP; split <;> omega
theorem partsP_cI {p : S27} (h : okP p) : partsP p = cI p.f2 (nP p) + 1 := by
 obtain ⟨h1, h2, _⟩ := nP_eq h
 obtain ⟨m, hm⟩ : ∃ m, nP p = m + 1 := ⟨nP p - 1, by omega⟩
 rw [hm, cI_succ]; unfold partsP; rw [← h1, hm]; omega
theorem pow_mono {U D : Int} (hU : 10 ≤ U ∧ U ≤ 20) (h : U ≤ D) : ∀ i : Nat, U ^ i ≤ D ^ i
 | 0 => by simp
 | i + 1 => by
  rw [Int.pow_succ, Int.pow_succ]
  exact Int.mul_le_mul (pow_mono hU h i) h (by omega) (by have := pow_bd hU i; have := pow_mono hU h i; omega)
theorem gA_le {U D : Int} (hU : 10 ≤ U ∧ U ≤ 20) (hD : 10 ≤ D ∧ D ≤ 20) (h : U ≤ D) (away : Bool) : ∀ i : Nat, gA U D away i ≤ cI away i * D ^ i
 | 0 => by simp [gA, cI]
 | i + 1 => by
  have ih := gA_le hU hD h away i
  have hp := pow_mono hU h i
  have h1 : gA U D away i + (if (decide (0 < i) || away) = true then U ^ i else 0) ≤ cI away (i + 1) * D ^ i := by
   rw [cI, Int.add_mul]; split <;> omega
  rw [gA, Int.pow_succ, ← Int.mul_assoc]
  exact Int.mul_le_mul_of_nonneg_right h1 (by omega)
theorem gA_ge {U D : Int} (hU : 10 ≤ U ∧ U ≤ 20) (hD : 10 ≤ D ∧ D ≤ 20) (h : D ≤ U) (away : Bool) : ∀ i : Nat, cI away i * D ^ i ≤ gA U D away i
 | 0 => by simp [gA, cI]
 | i + 1 => by
  have ih := gA_ge hU hD h away i
  have hp := pow_mono hD h i
  have h1 : cI away (i + 1) * D ^ i ≤ gA U D away i + (if (decide (0 < i) || away) = true then U ^ i else 0) := by
   rw [cI, Int.add_mul]; split <;> omega
  rw [gA, Int.pow_succ, ← Int.mul_assoc]
  exact Int.mul_le_mul_of_nonneg_right h1 (by omega)
theorem gN_le {U D : Int} (hU : 10 ≤ U ∧ U ≤ 20) (hD : 10 ≤ D ∧ D ≤ 20) (h : U ≤ D) {p : S27} (hp : okP p) : gN U D p.f2 (nP p) ≤ partsP p * D ^ nP p := by
 have h1 := gA_le hU hD h p.f2 (nP p)
 have h2 := pow_mono hU h (nP p)
 rw [partsP_cI hp, Int.add_mul]
 have := (nP_eq hp).2.1
 unfold gN; rw [if_pos (by simp; omega)]; omega
theorem gN_ge {U D : Int} (hU : 10 ≤ U ∧ U ≤ 20) (hD : 10 ≤ D ∧ D ≤ 20) (h : D ≤ U) {p : S27} (hp : okP p) : partsP p * D ^ nP p ≤ gN U D p.f2 (nP p) := by
 have h1 := gA_ge hU hD h p.f2 (nP p)
 have h2 := pow_mono hD h (nP p)
 rw [partsP_cI hp, Int.add_mul]
 have := (nP_eq hp).2.1
 unfold gN; rw [if_pos (by simp; omega)]; omega
theorem advT_bd {t : List S27} (h : okPs t) : 1 ≤ advT t ∧ advT t ≤ 9 ^ t.length := by
 induction t with
 | nil => simp [advT]
 | cons p t ih =>
  have ih := ih (fun q hq => h q (by simp [hq]))
  have h1 := partsP_bd (h p (by simp))
  simp only [advT, List.length_cons]
  rw [Int.pow_succ, Int.mul_comm (9 ^ t.length) 9]
  constructor
  ·have := Int.mul_le_mul h1.1 ih.1 (by omega) (by omega); omega
  ·exact Int.mul_le_mul h1.2.1 ih.2 (by omega) (by omega)
theorem p9 : (9 : Int) ^ 6 = 531441 := by decide
theorem advT_le {t : List S27} (h : okT t) : 1 ≤ advT t ∧ advT t ≤ 531441 := by
 have h1 := advT_bd h.1
 have h2 : (9 : Int) ^ t.length ≤ 9 ^ 6 := by
  obtain ⟨d, hd⟩ : ∃ d, 6 = t.length + d := ⟨6 - t.length, by have := h.2.2; omega⟩
  rw [hd, Int.pow_add]
  have : (1 : Int) ≤ 9 ^ d := by have := Int.pow_pos (n := 9) (m := d) (by omega); omega
  have := Int.mul_le_mul (Int.le_refl ((9 : Int) ^ t.length)) this (by omega) (by omega)
  omega
 rw [p9] at h2
 omega
theorem nT_le {U D : Int} (hU : 10 ≤ U ∧ U ≤ 20) (hD : 10 ≤ D ∧ D ≤ 20) (h : U ≤ D) (t : List S27) (ho : okPs t) : nT U D t ≤ advT t * eT D t := by
 induction t with
 | nil => simp [nT, advT, eT]
 | cons p t ih =>
  have ho' : okPs t := fun q hq => ho q (by simp [hq])
  have ih := ih ho'
  have h1 := gN_le hU hD h (ho p (by simp))
  have h2 := nT_bd hU hD t ho'
  have h3 := gN_bd hU hD p.f2 (nP p) (nP_eq (ho p (by simp))).2.1
  simp only [nT, advT, eT]
  have := Int.mul_le_mul h1 ih (by omega) (by omega)
  have e : partsP p * D ^ nP p * (advT t * eT D t) = partsP p * advT t * (D ^ nP p * eT D t) := by grind
  omega
theorem nT_ge {U D : Int} (hU : 10 ≤ U ∧ U ≤ 20) (hD : 10 ≤ D ∧ D ≤ 20) (h : D ≤ U) (t : List S27) (ho : okPs t) : advT t * eT D t ≤ nT U D t := by
 induction t with
 | nil => simp [nT, advT, eT]
 | cons p t ih =>
  have ho' : okPs t := fun q hq => ho q (by simp [hq])
  have ih := ih ho'
  have h1 := gN_ge hU hD h (ho p (by simp))
  have h2 := nT_bd hU hD t ho'
  have h3 := gN_bd hU hD p.f2 (nP p) (nP_eq (ho p (by simp))).2.1
  have h4 := (advT_bd ho').1
  have h5 : 0 ≤ advT t * eT D t := Int.mul_nonneg (by omega) (by omega)
  simp only [nT, advT, eT]
  have := Int.mul_le_mul h1 ih h5 (by omega)
  have e : partsP p * D ^ nP p * (advT t * eT D t) = partsP p * advT t * (D ^ nP p * eT D t) := by grind
  omega
theorem gT_le_adv {U D : Int} (hU : 10 ≤ U ∧ U ≤ 20) (hD : 10 ≤ D ∧ D ≤ 20) (h : U ≤ D) (t : List S27) (ho : okPs t) : (gT U D t).num ≤ advT t * ((gT U D t).den : Int) := by
 have hb := nT_bd hU hD t ho
 obtain ⟨m, hm, e1, e2⟩ := num_scale (by omega) (gT_eq (U := U) hD t)
 have h1 := nT_le hU hD h t ho
 rw [e1, e2, ← Int.mul_assoc] at h1
 exact Int.le_of_mul_le_mul_right h1 (by omega)
theorem gT_ge_adv {U D : Int} (hU : 10 ≤ U ∧ U ≤ 20) (hD : 10 ≤ D ∧ D ≤ 20) (h : D ≤ U) (t : List S27) (ho : okPs t) : advT t * ((gT U D t).den : Int) ≤ (gT U D t).num := by
 have hb := nT_bd hU hD t ho
 obtain ⟨m, hm, e1, e2⟩ := num_scale (by omega) (gT_eq (U := U) hD t)
 have h1 := nT_ge hU hD h t ho
 rw [e1, e2, ← Int.mul_assoc] at h1
 exact Int.le_of_mul_le_mul_right h1 (by omega)
theorem few_parts : ∀ n : Fin 9, 1 ≤ n.val → (n.val + 1) * 3 * 2 ^ n.val ≤ 4 * 3 ^ n.val := by decide
theorem advT_few {t : List S27} (h : okPs t) : advT t * (3 ^ t.length * 2 ^ mT t) ≤ 4 ^ t.length * 3 ^ mT t := by
 induction t with
 | nil => simp [advT, mT]
 | cons p t ih =>
  have ih := ih (fun q hq => h q (by simp [hq]))
  have h1 := partsP_bd (h p (by simp))
  have h2 := nP_eq (h p (by simp))
  have h3 := (advT_bd (t := t) (fun q hq => h q (by simp [hq]))).1
  have h4 := few_parts ⟨nP p, by omega⟩ h2.2.1
  have h5 : partsP p * (3 * 2 ^ nP p) ≤ 4 * 3 ^ nP p := by
   have q1 : partsP p * (3 * 2 ^ nP p) ≤ ((nP p : Int) + 1) * (3 * 2 ^ nP p) := Int.mul_le_mul_of_nonneg_right h1.2.2 (by have := Int.pow_pos (n := 2) (m := nP p) (by omega); omega)
   have q2 : ((nP p : Int) + 1) * (3 * 2 ^ nP p) ≤ 4 * 3 ^ nP p := by
    have := Int.ofNat_le.2 h4
    simp only [Int.natCast_mul, Int.natCast_add, Int.natCast_pow] at this
    rw [← Int.mul_assoc]; simpa using this
   omega
  have e1 : partsP p * advT t * (3 ^ (t.length + 1) * 2 ^ (nP p + mT t)) = partsP p * (3 * 2 ^ nP p) * (advT t * (3 ^ t.length * 2 ^ mT t)) := by
   rw [Int.pow_succ, Int.pow_add]; grind
  have e2 : (4 : Int) ^ (t.length + 1) * 3 ^ (nP p + mT t) = 4 * 3 ^ nP p * (4 ^ t.length * 3 ^ mT t) := by
   rw [Int.pow_succ, Int.pow_add]; grind
  simp only [advT, mT, List.length_cons]
  rw [e1, e2]
  refine Int.mul_le_mul h5 ih ?_ ?_
  ·refine Int.mul_nonneg (by omega) (Int.mul_nonneg ?_ ?_)
   ·exact Int.le_of_lt (Int.pow_pos (by omega))
   ·exact Int.le_of_lt (Int.pow_pos (by omega))
  ·exact Int.mul_nonneg (by omega) (Int.le_of_lt (Int.pow_pos (by omega)))
theorem few_all : ∀ (l : Fin 7) (m : Fin 10), 4 ^ l.val * 3 ^ m.val ≤ 216 * (3 ^ l.val * 2 ^ m.val) := by decide
theorem advT_216 {t : List S27} (h : okT t) (hs : mT t ≤ 9) : advT t ≤ 216 := by
 have h1 := advT_few h.1
 have h2 := few_all ⟨t.length, by have := h.2.2; omega⟩ ⟨mT t, by omega⟩
 have h3 : (4 : Int) ^ t.length * 3 ^ mT t ≤ 216 * (3 ^ t.length * 2 ^ mT t) := by
  have := Int.ofNat_le.2 h2
  simp only [Int.natCast_mul, Int.natCast_pow] at this
  simpa using this
 have h4 : (0 : Int) < 3 ^ t.length * 2 ^ mT t := Int.mul_pos (Int.pow_pos (by omega)) (Int.pow_pos (by omega))
 exact Int.le_of_mul_le_mul_right (Int.le_trans h1 h3) h4
theorem gT_tight {U : Int} (hU : 10 ≤ U ∧ U ≤ 20) (t : List S27) (h : okT t) (hs : mT t ≤ 9) : (gT U 20 t).num ≤ 110592000000000 := by
 have hb := nT_bd hU (D := 20) (by omega) t h.1
 have h1 := nT_le hU (D := 20) (by omega) (by omega) t h.1
 have h2 := advT_216 h hs
 have h3 := pow_le9 (a := 20) (by omega) hs
 rw [p20] at h3
 have h4 : advT t * eT 20 t ≤ 216 * 512000000000 := Int.mul_le_mul h2 (by omega) (by omega) (by omega)
 exact (num_le (B := 110592000000000) (by omega) (gT_eq (U := U) (D := 20) (by omega) t) (by omega) (by omega)).2
theorem down_split (N D f : Int) (hD : 0 < D) : N / D * f + N % D * f / D = N * f / D := by
 have e : N * f = N % D * f + D * (N / D * f) := by
  have := Int.emod_add_mul_ediv N D
  grind
 rw [e, Int.add_mul_ediv_left _ _ (by omega)]
 omega
theorem l06Down_eq (N D f : Int) (hN : 0 ≤ N) (hD : 0 < D) (hf : 0 ≤ f) (hb : N * f ≤ 4611686018427387904) (hN' : N ≤ 4611686018427387904) :
  spec_l06Down.f N D f = some (N * f / D) := by
 have hq : 0 ≤ N / D := Int.ediv_nonneg hN (by omega)
 have hr : 0 ≤ N % D := Int.emod_nonneg _ (by omega)
 have hr' : N % D ≤ N := by
  have e := Int.emod_add_mul_ediv N D
  have : 0 ≤ D * (N / D) := Int.mul_nonneg (by omega) hq
  omega
 have hq' : N / D ≤ N := Int.ediv_le_self _ hN
 have b1 : N / D * f ≤ N * f := Int.mul_le_mul_of_nonneg_right hq' hf
 have b2 : N % D * f ≤ N * f := Int.mul_le_mul_of_nonneg_right hr' hf
 have b3 : 0 ≤ N / D * f := Int.mul_nonneg hq hf
 have b4 : 0 ≤ N % D * f := Int.mul_nonneg hr hf
 have b5 : N % D * f / D ≤ N % D * f := Int.ediv_le_self _ b4
 have b6 : 0 ≤ N % D * f / D := Int.ediv_nonneg b4 (by omega)
 have b7 := down_split N D f hD
 have b8 : N * f / D ≤ N * f := Int.ediv_le_self _ (Int.mul_nonneg hN hf)
 unfold spec_l06Down.f
 rw [if_neg (by omega), Int.tdiv_eq_ediv_of_nonneg hN, Int.tmod_eq_emod_of_nonneg hN, w64 (x := N / D) (by omega) (by omega), w64 (x := N / D * f) (by omega) (by omega), w64 (x := N % D * f) (by omega) (by omega),
  Int.tdiv_eq_ediv_of_nonneg b4, w64 (x := N % D * f / D) (by omega) (by omega), w64 (by omega) (by omega), down_split N D f hD]
theorem low32 (x : Int) (h0 : 0 ≤ x) (h1 : x < 18446744073709551616) : Go.bits .and .u64 x 4294967295 = x % 4294967296 := by
 rw [u64_and x 4294967295 h0 h1 (by omega) (by omega)]
 have e : x.toNat &&& (4294967295 : Int).toNat = x.toNat % 2 ^ 32 := Nat.and_two_pow_sub_one_eq_mod x.toNat 32
 rw [e]; omega
theorem u64w (x : Int) : IntKind.u64.wrap x = x % 18446744073709551616 := by simp [IntKind.wrap, IntKind.bits, IntKind.signed]
theorem mul64_eq (a b : Int) (ha : 0 ≤ a) (ha' : a < 18446744073709551616) (hb : 0 ≤ b) (hb' : b < 18446744073709551616) :
  bits_Mul64.f a b = some (a * b / 18446744073709551616, a * b % 18446744073709551616) := by
 unfold bits_Mul64.f
 rw [low32 a ha ha', low32 b hb hb']
 simp only [u64w]
 have d1 : a / 4294967296 * (b / 4294967296) ≤ 4294967295 * 4294967295 ∧ 0 ≤ a / 4294967296 * (b / 4294967296) := ⟨Int.mul_le_mul (by omega) (by omega) (by omega) (by omega), Int.mul_nonneg (by omega) (by omega)⟩
 have d2 : a / 4294967296 * (b % 4294967296) ≤ 4294967295 * 4294967295 ∧ 0 ≤ a / 4294967296 * (b % 4294967296) := ⟨Int.mul_le_mul (by omega) (by omega) (by omega) (by omega), Int.mul_nonneg (by omega) (by omega)⟩
 have d3 : a % 4294967296 * (b % 4294967296) ≤ 4294967295 * 4294967295 ∧ 0 ≤ a % 4294967296 * (b % 4294967296) := ⟨Int.mul_le_mul (by omega) (by omega) (by omega) (by omega), Int.mul_nonneg (by omega) (by omega)⟩
 have d4 : a % 4294967296 * (b / 4294967296) ≤ 4294967295 * 4294967295 ∧ 0 ≤ a % 4294967296 * (b / 4294967296) := ⟨Int.mul_le_mul (by omega) (by omega) (by omega) (by omega), Int.mul_nonneg (by omega) (by omega)⟩
 have e : a * b = a / 4294967296 * (b / 4294967296) * 18446744073709551616 + (a / 4294967296 * (b % 4294967296) + a % 4294967296 * (b / 4294967296)) * 4294967296 + a % 4294967296 * (b % 4294967296) := by
  have ea : a = a / 4294967296 * 4294967296 + a % 4294967296 := by omega
  have eb : b = b / 4294967296 * 4294967296 + b % 4294967296 := by omega
  generalize a / 4294967296 = x at *
  generalize a % 4294967296 = y at *
  generalize b / 4294967296 = z at *
  generalize b % 4294967296 = w at *
  subst ea eb
  grind
 have hhi : a * b / 18446744073709551616 < 18446744073709551616 := by
  have : a * b ≤ 18446744073709551615 * 18446744073709551615 := Int.mul_le_mul (by omega) (by omega) (by omega) (by omega)
  omega
 rw [e] at hhi ⊢
 generalize a / 4294967296 * (b / 4294967296) = S at *
 generalize a / 4294967296 * (b % 4294967296) = Q at *
 generalize a % 4294967296 * (b % 4294967296) = P at *
 generalize a % 4294967296 * (b / 4294967296) = R at *
 clear e
 congr 1
 apply Prod.ext
 ·show _ = _
  dsimp only
  rw [Int.emod_eq_of_lt d1.2 (by omega), Int.emod_eq_of_lt d2.2 (by omega), Int.emod_eq_of_lt d3.2 (by omega), Int.emod_eq_of_lt d4.2 (by omega)]
  rw [Int.emod_eq_of_lt (a := Q + P / 4294967296) (by omega) (by omega), low32 _ (by omega) (by omega)]
  rw [Int.emod_eq_of_lt (a := (Q + P / 4294967296) % 4294967296 + R) (by omega) (by omega)]
  rw [Int.emod_eq_of_lt (a := S + (Q + P / 4294967296) / 4294967296) (by omega) (by omega)]
  have hs : S ≤ 18446744065119617025 := d1.1
  have key : (S * 18446744073709551616 + (Q + R) * 4294967296 + P) / 18446744073709551616 = S + (Q + P / 4294967296) / 4294967296 + ((Q + P / 4294967296) % 4294967296 + R) / 4294967296 := by
   omega
  have hh : (S * 18446744073709551616 + (Q + R) * 4294967296 + P) / 18446744073709551616 < 18446744073709551616 := hhi
  have hl : 0 ≤ S + (Q + P / 4294967296) / 4294967296 + ((Q + P / 4294967296) % 4294967296 + R) / 4294967296 := by omega
  rw [key] at hh ⊢
  exact Int.emod_eq_of_lt hl hh
 ·rfl
theorem mulDiv_eq (a b c : Int) (ha : 0 ≤ a) (ha' : a < 9223372036854775808) (hb : 0 ≤ b) (hb' : b < 9223372036854775808) (hc : 0 < c) (hc' : c < 9223372036854775808) (hp : a * b < 18446744073709551616) (hq : a * b / c < 9223372036854775808) :
  impl_mulDiv.f a b c = some (a * b / c) := by
 have hn : 0 ≤ a * b := Int.mul_nonneg ha hb
 unfold impl_mulDiv.f
 simp only [u64w]
 rw [Int.emod_eq_of_lt ha (by omega), Int.emod_eq_of_lt hb (by omega), Int.emod_eq_of_lt (Int.le_of_lt hc) (by omega), mul64_eq a b ha (by omega) hb (by omega)]
 simp only [Option.bind_some]
 rw [Int.ediv_eq_zero_of_lt hn hp, Int.emod_eq_of_lt hn hp]
 unfold bits_Div64.f
 rw [if_pos hc, if_pos rfl, if_pos hn, if_pos hp]
 simp only [Option.bind_some]
 rw [w64 (by have := Int.ediv_nonneg hn (Int.le_of_lt hc); omega) (by omega)]
def cmpI (x y : Int) : Int := if x < y then -1 else if x > y then 1 else 0
theorem or2_ev (x y : Int) : Ev (fun k => cmp_Or_int.f k [x, y]) (if x = 0 then y else x) := by
 simp only [cmp_Or_int.f]
 have e2 : Ev (fun k => cmp_Or_int.l0 k 0 [x, y] 2 2) 0 := by
  refine ev_succ ?_; simp only [cmp_Or_int.l0]; exact ev_neg (by omega) (Ev.now _)
 have e1 : Ev (fun k => cmp_Or_int.l0 k 0 [x, y] 2 1) y := by
  refine ev_succ ?_; simp only [cmp_Or_int.l0]
  refine ev_pos (by omega) (ev_pos (by omega) (ev_pos (by simp) (ev_if (fun h => ?_) (fun h => ev_some rfl))))
  have h' : y = 0 := h
  rw [h', w64 (by omega) (by omega)]
  rw [h'] at e2
  exact e2
 refine ev_succ ?_; simp only [cmp_Or_int.l0]
 refine ev_pos (by simp) (ev_pos (by omega) (ev_pos (by simp) (ev_if (fun h => ?_) (fun h => ev_some ?_))))
 ·have h' : x = 0 := h
  rw [if_pos h', w64 (by omega) (by omega)]
  exact e1
 ·have h' : ¬ x = 0 := h
  rw [if_neg h']; rfl
theorem cmpU_eq (x y : Int) : cmp_Compare_uint64.f x y = some (cmpI x y) := by
 unfold cmp_Compare_uint64.f cmp_isNaN_uint64.f cmpI
 simp only [bne_self_eq_false, Option.bind_some, Bool.false_eq_true, if_false]
 by_cases h1 : x < y
 ·rw [if_pos h1, if_pos h1]
 ·rw [if_neg h1, if_neg h1]
  by_cases h2 : x > y
  ·rw [if_pos h2, if_pos h2]
  ·rw [if_neg h2, if_neg h2]
theorem cmpP_ev (a b c d : Int) (ha : 0 ≤ a) (ha' : a < 18446744073709551616) (hb : 0 ≤ b) (hb' : b < 18446744073709551616) (hc : 0 ≤ c) (hc' : c < 18446744073709551616) (hd : 0 ≤ d) (hd' : d < 18446744073709551616) :
  Ev (fun k => impl_compareProducts.f k a b c d) (cmpI (a * b) (c * d)) := by
 simp only [impl_compareProducts.f]
 refine ev_now (mul64_eq a b ha ha' hb hb') (ev_now (mul64_eq c d hc hc' hd hd') (ev_now (cmpU_eq _ _) (ev_now (cmpU_eq _ _) (Ev.bind (or2_ev _ _) (ev_some ?_)))))
 dsimp only
 generalize a * b = p
 generalize c * d = q
 unfold cmpI
 repeat' split
 all_goals omega
theorem least_unique {N L F G : Int} (hN : 0 < N) (h1 : L ≤ F * N) (h2 : (F - 1) * N < L) (g1 : L ≤ G * N) (g2 : (G - 1) * N < L) : F = G := by
 rcases Int.lt_trichotomy F G with h | h | h
 ·have := Int.mul_le_mul_of_nonneg_right (show F ≤ G - 1 by omega) (Int.le_of_lt hN); omega
 ·exact h
 ·have := Int.mul_le_mul_of_nonneg_right (show G ≤ F - 1 by omega) (Int.le_of_lt hN); omega
theorem forceFor_ev (N D load : Int) (hN : 0 < N) (hN' : N ≤ 262144000000000) (hD : 0 < D) (hD' : D ≤ 512000000000) (hl : 1 ≤ load ∧ load ≤ 100000) :
  ∃ F : Int, 1 ≤ F ∧ load * D ≤ F * N ∧ (F - 1) * N < load * D ∧ Ev (fun k => impl_forceFor.f k N D load) F := by
 have b1 : load * D ≤ 100000 * 512000000000 := Int.mul_le_mul hl.2 hD' (by omega) (by omega)
 have b0 : 0 < load * D := Int.mul_pos (by omega) hD
 have q0 : 0 ≤ load * D / N := Int.ediv_nonneg (by omega) (by omega)
 have q1 : load * D / N ≤ load * D := Int.ediv_le_self _ (by omega)
 have e1 := mulDiv_eq load D N (by omega) (by omega) (by omega) (by omega) hN (by omega) (by omega) (by omega)
 have eq : N * (load * D / N) + load * D % N = load * D := Int.mul_ediv_add_emod _ _
 have m0 := Int.emod_nonneg (load * D) (show N ≠ 0 by omega)
 have m1 := Int.emod_lt_of_pos (load * D) hN
 have em : ∀ x : Int, N * x = x * N := fun x => Int.mul_comm N x
 have pp : load * D / N * N ≤ load * D := by have := em (load * D / N); omega
 have pn : 0 ≤ load * D / N * N := Int.mul_nonneg q0 (by omega)
 have e2 := cmpP_ev (load * D / N) N load D q0 (by omega) (by omega) (by omega) (by omega) (by omega) (by omega) (by omega)
 have u1 : IntKind.u64.wrap (load * D / N) = load * D / N := by rw [u64w]; exact Int.emod_eq_of_lt q0 (by omega)
 have u2 : IntKind.u64.wrap N = N := by rw [u64w]; exact Int.emod_eq_of_lt (by omega) (by omega)
 have u3 : IntKind.u64.wrap load = load := by rw [u64w]; exact Int.emod_eq_of_lt (by omega) (by omega)
 have u4 : IntKind.u64.wrap D = D := by rw [u64w]; exact Int.emod_eq_of_lt (by omega) (by omega)
 generalize load * D / N = f at *
 have x1 : (f + 1) * N = f * N + N := by rw [Int.add_mul]; omega
 have x2 : (f - 1) * N = f * N - N := by rw [Int.sub_mul]; omega
 have x3 := em f
 by_cases h : f * N < load * D
 ·refine ⟨f + 1, by omega, by omega, by rw [show f + 1 - 1 = f by omega]; exact h, ?_⟩
  simp only [impl_forceFor.f]
  rw [show cmpI (f * N) (load * D) = -1 by unfold cmpI; rw [if_pos h]] at e2
  refine ev_now e1 ?_
  rw [u1, u2, u3, u4]
  refine Ev.bind e2 (ev_pos (by omega) (ev_some ?_))
  exact w64 (by omega) (by omega)
 ·refine ⟨f, ?_, by omega, by omega, ?_⟩
  ·rcases Int.lt_or_le 0 f with g | g
   ·omega
   ·have : f = 0 := by omega
    rw [this] at h; simp at h; omega
  ·simp only [impl_forceFor.f]
   rw [show cmpI (f * N) (load * D) = 0 by unfold cmpI; rw [if_neg h, if_neg (by omega)]] at e2
   refine ev_now e1 ?_
   rw [u1, u2, u3, u4]
   exact Ev.bind e2 (ev_neg (by omega) (Ev.now _))
theorem nT_low {U D : Int} (hU : 10 ≤ U ∧ U ≤ 20) (hD : 10 ≤ D ∧ D ≤ 20) (t : List S27) (ho : okPs t) : U ^ mT t ≤ nT U D t := by
 induction t with
 | nil => simp [nT, mT]
 | cons p t ih =>
  have ho' : okPs t := fun q hq => ho q (by simp [hq])
  have ih := ih ho'
  have hn := nP_eq (ho p (by simp))
  have h1 := gA_bd hU hD p.f2 (nP p)
  have h2 := pow_bd hU (nP p)
  have h3 := pow_bd hU (mT t)
  have g : U ^ nP p ≤ gN U D p.f2 (nP p) := by
   unfold gN
   rw [if_pos (by simp; omega)]; omega
  simp only [nT, mT]
  rw [Int.pow_add]
  exact Int.mul_le_mul g ih (by omega) (by omega)
theorem p13 : ∀ m : Fin 10, (20 : Int) ^ m.val ≤ 49 * 13 ^ m.val := by decide
theorem e20 {U : Int} (h : 13 ≤ U ∧ U ≤ 20) {m : Nat} (hm : m ≤ 9) : (20 : Int) ^ m ≤ 49 * U ^ m := by
 have a := p13 ⟨m, by omega⟩
 have b := pow_mono (U := 13) (D := U) (by omega) h.1 m
 have a' : (20 : Int) ^ m ≤ 49 * 13 ^ m := a
 omega
/-- No force that a drawn tackle asks for is great. -/
theorem force_bd {N D load F : Int} (hN : 0 < N) (hF' : (F - 1) * N < load * D) (hl : load ≤ 100000) (hD : 0 < D) (hlow : D ≤ 49 * N) : F ≤ 4900001 := by
 rcases Int.lt_or_le 4900001 F with g | g
 ·have h1 : 4900001 * N ≤ (F - 1) * N := Int.mul_le_mul_of_nonneg_right (by omega) (by omega)
  have h2 : load * D ≤ 100000 * D := Int.mul_le_mul_of_nonneg_right hl (by omega)
  omega
 ·exact g
/-- Who holds needs no more force than who raises. -/
theorem hold_le {N D N' D' A load F H : Int} (hN' : 0 < N') (hD : 0 < D) (hD' : 0 < D') (hF0 : 0 ≤ F) (h1 : load * D ≤ F * N) (h2 : N ≤ A * D) (h3 : A * D' ≤ N') (h4 : (H - 1) * N' < load * D') : H ≤ F := by
 have a : F * N ≤ F * (A * D) := Int.mul_le_mul_of_nonneg_left h2 hF0
 have b : load * D ≤ F * A * D := by rw [Int.mul_assoc]; omega
 have c : load ≤ F * A := Int.le_of_mul_le_mul_right b hD
 have d : load * D' ≤ F * A * D' := Int.mul_le_mul_of_nonneg_right c (by omega)
 have e : F * (A * D') ≤ F * N' := Int.mul_le_mul_of_nonneg_left h3 hF0
 rw [Int.mul_assoc] at d
 rcases Int.lt_or_le F H with g | g
 ·have : F * N' ≤ (H - 1) * N' := Int.mul_le_mul_of_nonneg_right (by omega) (by omega)
  omega
 ·exact g
theorem l06Down_eq2 (N D f : Int) (hN : 0 ≤ N) (hD : 0 < D) (hf : 0 ≤ f) (hN' : N ≤ 4611686018427387904) (h1 : N / D * f ≤ 4611686018427387903) (h2 : N % D * f ≤ 4611686018427387903) :
  spec_l06Down.f N D f = some (N * f / D) := by
 have hq : 0 ≤ N / D := Int.ediv_nonneg hN (by omega)
 have hr : 0 ≤ N % D := Int.emod_nonneg _ (by omega)
 have hq' : N / D ≤ N := Int.ediv_le_self _ hN
 have b3 : 0 ≤ N / D * f := Int.mul_nonneg hq hf
 have b4 : 0 ≤ N % D * f := Int.mul_nonneg hr hf
 have b5 : N % D * f / D ≤ N % D * f := Int.ediv_le_self _ b4
 have b6 : 0 ≤ N % D * f / D := Int.ediv_nonneg b4 (by omega)
 unfold spec_l06Down.f
 rw [if_neg (by omega), Int.tdiv_eq_ediv_of_nonneg hN, Int.tmod_eq_emod_of_nonneg hN, w64 (x := N / D) (by omega) (by omega), w64 (x := N / D * f) (by omega) (by omega), w64 (x := N % D * f) (by omega) (by omega),
  Int.tdiv_eq_ediv_of_nonneg b4, w64 (x := N % D * f / D) (by omega) (by omega), w64 (by omega) (by omega), down_split N D f hD]
/-- What a force raises: both ways of reckoning it, and no overflow. -/
theorem most_both (t : List S27) (loss force : Int) (h1 : okT t) (hl : 0 ≤ loss ∧ loss ≤ 10) (hf : 1 ≤ force ∧ force ≤ 100000) (hs : shT t ≤ 9) :
  spec_l06Down.f (gT (20 - loss) 20 t).num ((gT (20 - loss) 20 t).den : Int) force = some ((gT (20 - loss) 20 t).num * force / ((gT (20 - loss) 20 t).den : Int)) ∧
  impl_mulDiv.f (gT (20 - loss) 20 t).num force ((gT (20 - loss) 20 t).den : Int) = some ((gT (20 - loss) 20 t).num * force / ((gT (20 - loss) 20 t).den : Int)) := by
 obtain ⟨o1, o2, o3⟩ := okT_few h1 hs
 have b := gT_bd (U := 20 - loss) (D := 20) (by omega) (by omega) t o1 o2
 have tb := gT_tight (U := 20 - loss) (by omega) t h1 o2
 have ga := gT_le_adv (U := 20 - loss) (D := 20) (by omega) (by omega) (by omega) t o1
 have ad := advT_le h1
 have pd := den_pos (gT (20 - loss) 20 t)
 generalize gT (20 - loss) 20 t = q at *
 generalize advT t = A at *
 have m1 : q.num * force ≤ 110592000000000 * 100000 := Int.mul_le_mul tb hf.2 (by omega) (by omega)
 have hq : 0 ≤ q.num / (q.den : Int) := Int.ediv_nonneg (by omega) (by omega)
 have hq' : q.num / (q.den : Int) ≤ A := Int.ediv_le_of_le_mul pd ga
 have hr : 0 ≤ q.num % (q.den : Int) := Int.emod_nonneg _ (by omega)
 have hr' : q.num % (q.den : Int) < (q.den : Int) := Int.emod_lt_of_pos _ pd
 have b1 : q.num / (q.den : Int) * force ≤ 531441 * 100000 := Int.mul_le_mul (by omega) hf.2 (by omega) (by omega)
 have b2 : q.num % (q.den : Int) * force ≤ 512000000000 * 100000 := Int.mul_le_mul (by omega) hf.2 (by omega) (by omega)
 have b3 : 0 ≤ q.num % (q.den : Int) * force := Int.mul_nonneg hr (by omega)
 have e := down_split q.num (q.den : Int) force pd
 have b5 := Int.ediv_le_self (q.den : Int) b3
 exact ⟨l06Down_eq2 _ _ _ (by omega) pd (by omega) (by omega) (by omega) (by omega), mulDiv_eq _ _ _ (by omega) (by omega) (by omega) (by omega) pd (by omega) (by omega) (by omega)⟩
/-- What the search knows of a number: too little force, or enough. -/
theorem down_lt {N D f load : Int} (hD : 0 < D) : N * f / D < load ↔ f * N < load * D := by
 rw [Int.ediv_lt_iff_lt_mul hD, Int.mul_comm N f]
theorem l06Force_l1 (N D load F : Int) (hN : 0 < N) (hN' : N ≤ 262144000000000) (hD : 0 < D) (hD' : D ≤ 512000000000) (hl : 1 ≤ load ∧ load ≤ 100000)
  (hF : load * D ≤ F * N) (hF' : (F - 1) * N < load * D) : ∀ (n : Nat) (lo hi : Int), (hi - lo).toNat ≤ n → 0 ≤ lo → lo < hi → lo * N < load * D → load * D ≤ hi * N → hi * N ≤ 2 * (load * D) + 262144000000000 →
  Ev (fun k => spec_l06Force.l1 k load lo hi N D) F
 | 0, lo, hi, hn, h0, h1, h2, h3, h4 => by omega
 | n + 1, lo, hi, hn, h0, h1, h2, h3, h4 => by
  have b1 : load * D ≤ 100000 * 512000000000 := Int.mul_le_mul hl.2 hD' (by omega) (by omega)
  have hh : hi * 1 ≤ hi * N := Int.mul_le_mul_of_nonneg_left (by omega) (by omega)
  refine ev_succ ?_
  simp only [spec_l06Force.l1]
  rw [w64 (x := hi - lo) (by omega) (by omega), w64 (x := lo + hi) (by omega) (by omega), Int.tdiv_eq_ediv_of_nonneg (show 0 ≤ lo + hi by omega), w64 (x := (lo + hi) / 2) (by omega) (by omega)]
  refine ev_if (fun h => ?_) (fun h => ev_some ?_)
  ·have hm : (lo + hi) / 2 * N ≤ hi * N := Int.mul_le_mul_of_nonneg_right (by omega) (by omega)
   have hm0 : 0 ≤ (lo + hi) / 2 * N := Int.mul_nonneg (by omega) (by omega)
   have ed := l06Down_eq N D ((lo + hi) / 2) (by omega) hD (by omega) (by rw [Int.mul_comm]; omega) (by omega)
   refine ev_now ed (ev_if (fun g => ?_) (fun g => ?_))
   ·rw [down_lt hD] at g
    exact l06Force_l1 N D load F hN hN' hD hD' hl hF hF' n _ hi (by omega) (by omega) (by omega) g h3 h4
   ·rw [down_lt hD] at g
    exact l06Force_l1 N D load F hN hN' hD hD' hl hF hF' n lo _ (by omega) h0 (by omega) h2 (by omega) (by omega)
  ·refine least_unique hN h3 ?_ hF hF'
   rw [show hi - 1 = lo by omega]; exact h2
theorem l06Force_l0 (N D load F : Int) (hN : 0 < N) (hN' : N ≤ 262144000000000) (hD : 0 < D) (hD' : D ≤ 512000000000) (hl : 1 ≤ load ∧ load ≤ 100000)
  (hF : load * D ≤ F * N) (hF' : (F - 1) * N < load * D) : ∀ (n : Nat) (lo hi : Int), (F - hi + 1).toNat ≤ n → 0 ≤ lo → lo < hi → lo * N < load * D → hi * N ≤ 2 * (load * D) + 262144000000000 →
  Ev (fun k => spec_l06Force.l0 k load lo hi N D) F
 | n, lo, hi, hn, h0, h1, h2, h4 => by
  have b1 : load * D ≤ 100000 * 512000000000 := Int.mul_le_mul hl.2 hD' (by omega) (by omega)
  have hh : hi * 1 ≤ hi * N := Int.mul_le_mul_of_nonneg_left (by omega) (by omega)
  have ed := l06Down_eq N D hi (by omega) hD (by omega) (by rw [Int.mul_comm]; omega) (by omega)
  refine ev_succ ?_
  simp only [spec_l06Force.l0]
  refine ev_now ed (ev_if (fun g => ?_) (fun g => ?_))
  ·rw [down_lt hD] at g
   have hlt : hi < F := by
    rcases Int.lt_or_le hi F with q | q
    ·exact q
    ·have := Int.mul_le_mul_of_nonneg_right q (Int.le_of_lt hN); omega
   have e2 : hi * 2 * N = 2 * (hi * N) := by grind
   rw [w64 (x := hi * 2) (by omega) (by omega)]
   match n, hn with
   | 0, hn => omega
   | n + 1, hn => exact l06Force_l0 N D load F hN hN' hD hD' hl hF hF' n hi (hi * 2) (by omega) (by omega) (by omega) g (by omega)
  ·rw [down_lt hD] at g
   exact l06Force_l1 N D load F hN hN' hD hD' hl hF hF' _ lo hi (Nat.le_refl _) h0 h1 h2 (by omega) h4
theorem l06Force_ev (N D load F : Int) (hN : 0 < N) (hN' : N ≤ 262144000000000) (hD : 0 < D) (hD' : D ≤ 512000000000) (hl : 1 ≤ load ∧ load ≤ 100000)
  (hF : load * D ≤ F * N) (hF' : (F - 1) * N < load * D) : Ev (fun k => spec_l06Force.f k N D load) F := by
 have b0 : 0 < load * D := Int.mul_pos (by omega) hD
 simp only [spec_l06Force.f]
 exact l06Force_l0 N D load F hN hN' hD hD' hl hF hF' _ 0 1 (Nat.le_refl _) (by omega) (by omega) (by simpa using b0) (by omega)
theorem rdEFraction {xs : List S35} {i : Nat} (h : i < xs.length) : rd_T35 xs (i : Int) = xs[i] := by
 unfold rd_T35; simp [List.getD_eq_getElem?_getD, h]
theorem rdKFraction {xs : List S35} {i : Nat} (h : i < xs.length) : rd_T35 xs (i : Int) = xs[i] := by
 unfold rd_T35; simp [List.getD_eq_getElem?_getD, h]
def mksFraction (s : Int) (n : Nat) : List S35 := (List.range n).map fun (j : Nat) => ⟨s + 2 * (j : Int), s + 2 * (j : Int) + 1⟩
theorem mksFraction_length (s : Int) (n : Nat) : (mksFraction s n).length = n := by simp [mksFraction]
theorem mksFraction_get (s : Int) (n i : Nat) (h : i < (mksFraction s n).length) : (mksFraction s n)[i] = ⟨s + 2 * (i : Int), s + 2 * (i : Int) + 1⟩ := by simp [mksFraction]
def ptT (loss force : Int) (i : Nat) : Rat := ((force * (20 - loss) ^ i : Int) : Rat) / ((20 ^ i : Int) : Rat)
theorem ptT_succ (loss force : Int) (i : Nat) : ptT loss force i * (((20 - loss : Int) : Rat) / ((20 : Int) : Rat)) = ptT loss force (i + 1) := by
 have z1 := ne0 (d := (20 : Int)) (by omega)
 have z2 := ne0 (d := (20 : Int) ^ i) (by have := pow_bd (U := 20) (by omega) i; omega)
 unfold ptT
 rw [Int.pow_succ, Int.pow_succ, castI, castI, castI, castI]
 grind
theorem ptT_bd {loss force : Int} (hl : 0 ≤ loss ∧ loss ≤ 10) (hf : 1 ≤ force ∧ force ≤ 100000) {i : Nat} (hi : i ≤ 9) :
  (-51200000000000000 ≤ (ptT loss force i).num ∧ (ptT loss force i).num ≤ 51200000000000000) ∧ ((ptT loss force i).den : Int) ≤ 512000000000 := by
 have b1 := pow_bd (U := 20 - loss) (by omega) i
 have b2 := pow_bd (U := 20) (by omega) i
 have c1 := pow_le9 (a := 20) (by omega) hi
 rw [p20] at c1
 have m1 : force * (20 - loss) ^ i ≤ 100000 * 512000000000 := Int.mul_le_mul hf.2 (by omega) (by omega) (by omega)
 have m2 : 0 ≤ force * (20 - loss) ^ i := Int.mul_nonneg (by omega) (by omega)
 have := num_le (B := 51200000000000000) (n := force * (20 - loss) ^ i) (d := 20 ^ i) (by omega) (r := ptT loss force i) rfl (by omega) (by omega)
 have := den_le (n := force * (20 - loss) ^ i) (d := 20 ^ i) (by omega) (r := ptT loss force i) rfl
 exact ⟨by assumption, by omega⟩
def ptL (loss force : Int) (n : Nat) : List S35 := (List.range n).map fun j => ⟨(ptT loss force j).num, ((ptT loss force j).den : Int)⟩
theorem ptL_succ (loss force : Int) (n : Nat) : ptL loss force n ++ [⟨(ptT loss force n).num, ((ptT loss force n).den : Int)⟩] = ptL loss force (n + 1) := by
 simp [ptL, List.range_succ]
theorem ptL_len (loss force : Int) (n : Nat) : (ptL loss force n).length = n := by simp [ptL]
theorem ipt_l0 (loss force : Int) (hl : 0 ≤ loss ∧ loss ≤ 10) (hf : 1 ≤ force ∧ force ≤ 100000) (p : S27) (hp : okP p) : ∀ (d i : Nat), i + d = nP p + 1 →
  Ev (fun k => impl_PartTensions.l0 k loss (ptL loss force i) (i : Int) p.f0 p.f1 p.f2 (ptT loss force i).num ((ptT loss force i).den : Int)) (ptL loss force (nP p + 1), 0)
 | 0, i, hd => by
  obtain ⟨hn, h1, h8⟩ := nP_eq hp
  have hp0 := hp.1
  have hp1 := hp.2.1
  have : i = nP p + 1 := by omega
  subst this
  refine ev_succ ?_
  simp only [impl_PartTensions.l0]
  rw [w64 (x := p.f0 + p.f1) (by omega) (by omega)]
  exact ev_neg (by omega) (Ev.now _)
 | d + 1, i, hd => by
  obtain ⟨hn, h1, h8⟩ := nP_eq hp
  have hp0 := hp.1
  have hp1 := hp.2.1
  have ih := ipt_l0 loss force hl hf p hp d (i + 1) (by omega)
  have b := ptT_bd hl hf (i := i) (by omega)
  have b' : (-102400000000000000000 ≤ (ptT loss force (i + 1)).num ∧ (ptT loss force (i + 1)).num ≤ 1024000000000000000) ∧ ((ptT loss force (i + 1)).den : Int) ≤ 10240000000000 ∧ -1024000000000000000 ≤ (ptT loss force (i + 1)).num := by
   have x1 := pow_bd (U := 20 - loss) (by omega) (i + 1)
   have x2 := pow_bd (U := 20) (by omega) (i + 1)
   have x3 := pow_le9 (a := 20) (by omega) (show i ≤ 9 by omega)
   rw [p20] at x3
   have x4 : (20 : Int) ^ (i + 1) = 20 ^ i * 20 := Int.pow_succ 20 i
   have m1 : force * (20 - loss) ^ (i + 1) ≤ 100000 * 10240000000000 := Int.mul_le_mul hf.2 (by omega) (by omega) (by omega)
   have m2 : 0 ≤ force * (20 - loss) ^ (i + 1) := Int.mul_nonneg (by omega) (by omega)
   have y1 := num_le (B := 1024000000000000000) (n := force * (20 - loss) ^ (i + 1)) (d := 20 ^ (i + 1)) (by omega) (r := ptT loss force (i + 1)) rfl (by omega) (by omega)
   have y2 := den_le (n := force * (20 - loss) ^ (i + 1)) (d := 20 ^ (i + 1)) (by omega) (r := ptT loss force (i + 1)) rfl
   omega
  have f1 := fraction_ev (20 - loss) 20 (by omega) (by omega) (by omega) (by omega) (by omega)
  have q1 := num_le (B := 20) (n := 20 - loss) (d := 20) (by omega) (r := ((20 - loss : Int) : Rat) / ((20 : Int) : Rat)) rfl (by omega) (by omega)
  have q2 := den_le (n := 20 - loss) (d := 20) (by omega) (r := ((20 - loss : Int) : Rat) / ((20 : Int) : Rat)) rfl
  have em := mulFr_ev (ptT loss force i) (((20 - loss : Int) : Rat) / ((20 : Int) : Rat)) (by omega) (by omega) (by omega) (by omega) (by omega) (by omega) (by rw [ptT_succ]; omega) (by rw [ptT_succ]; omega) (by rw [ptT_succ]; omega)
  rw [ptT_succ] at em
  refine ev_succ ?_
  simp only [impl_PartTensions.l0]
  rw [w64 (x := p.f0 + p.f1) (by omega) (by omega), w64s (by omega), w64 (x := 20 - loss) (by omega) (by omega)]
  refine ev_pos (by omega) (ev_pos (by rw [ptL_len]; omega) (Ev.bind f1 (Ev.bind em ?_)))
  have e3 := ptL_succ loss force i
  rw [e3]; exact ih
def allP : List S27 := [⟨1, 0, false⟩, ⟨0, 1, true⟩, ⟨1, 1, false⟩, ⟨1, 1, true⟩, ⟨2, 1, false⟩, ⟨1, 2, true⟩, ⟨2, 2, false⟩, ⟨2, 2, true⟩, ⟨3, 2, false⟩, ⟨2, 3, true⟩, ⟨3, 3, false⟩, ⟨3, 3, true⟩, ⟨4, 3, false⟩, ⟨3, 4, true⟩, ⟨4, 4, false⟩, ⟨4, 4, true⟩]
theorem allP_eq : impl_allPurchases.f 600 = some allP := by kernel_rfl
theorem allP_ev : Ev (fun k => impl_allPurchases.f k) allP := Ev.of impl_allPurchases.mono allP_eq
theorem allP_ok : ∀ p ∈ allP, okP p := by decide
theorem okT_one {p : S27} (h : okP p) : okT [p] ∧ shT [p] ≤ 9 := by
 have h1 := h.1
 have h2 := h.2.1
 refine ⟨⟨fun q hq => ?_, by simp, by simp⟩, by simp [shT]; omega⟩
 simp at hq; rw [hq]; exact h
def enough (loss load force : Int) (p : S27) : Bool := decide (load ≤ (gT (20 - loss) 20 [p]).num * force / ((gT (20 - loss) 20 [p]).den : Int))
def resP (loss load force : Int) : List S27 → Int × Int × Bool × Int
 | [] => (0, 0, false, 3)
 | p :: l => if enough loss load force p = true then (p.f0, p.f1, p.f2, 0) else resP loss load force l
theorem spp_one (loss load force : Int) (hl : 0 ≤ loss ∧ loss ≤ 10) (hf : 1 ≤ force ∧ force ≤ 100000) (p : S27) (hp : okP p) (A B : Nat → Option (Int × Int × Bool × Int)) (r : Int × Int × Bool × Int)
  (h1 : enough loss load force p = true → Ev A r) (h2 : ¬ enough loss load force p = true → Ev B r) :
  Ev (fun k => (spec_l06Raise.f k [p] loss).bind fun bt => (spec_l06Down.f bt.1 bt.2 force).bind fun t => if t ≥ load then A k else B k) r := by
 obtain ⟨o1, o2⟩ := okT_one hp
 have e1 := specRaise_ev [p] loss o1 o2 hl
 obtain ⟨m1, m2⟩ := most_both [p] loss force o1 hl hf o2
 unfold enough at h1 h2
 generalize gT (20 - loss) 20 [p] = q at *
 refine Ev.bind e1 (ev_now m1 (ev_if (fun h => h1 ?_) (fun h => h2 ?_)))
 ·exact decide_eq_true h
 ·intro g; exact h (of_decide_eq_true g)
theorem imp_found (loss load force : Int) (b : S27) (hb : 1 ≤ b.f0 + b.f1 ∧ b.f0 + b.f1 ≤ 9) : ∀ d i : Nat, i + d = 16 → (∀ p ∈ allP.drop i, b.f0 + b.f1 ≤ p.f0 + p.f1) →
  Ev (fun k => impl_PurchaseForForce.l0 k loss load force allP (allP.length : Int) (i : Int) b.f0 b.f1 b.f2) (b.f0, b.f1, b.f2, 0)
 | 0, i, hd, hs => by
  refine ev_succ ?_
  simp only [impl_PurchaseForForce.l0]
  rw [w64 (x := b.f0 + b.f1) (by omega) (by omega)]
  exact ev_neg (by have h16 : allP.length = 16 := rfl; omega) (ev_neg (by omega) (Ev.now _))
 | d + 1, i, hd, hs => by
  have hn : allP.length = 16 := rfl
  have hi : i < allP.length := by omega
  have ec := List.drop_eq_getElem_cons hi
  have ih := imp_found loss load force b hb d (i + 1) (by omega) (fun p hp => hs p (by rw [ec]; exact List.mem_cons_of_mem _ hp))
  have hp := hs allP[i] (by rw [ec]; exact List.mem_cons_self)
  obtain ⟨o1, o2, o3, _⟩ := allP_ok allP[i] (List.getElem_mem hi)
  refine ev_succ ?_
  simp only [impl_PurchaseForForce.l0]
  rw [w64 (x := b.f0 + b.f1) (by omega) (by omega), rdP hi]
  generalize allP[i] = p at *
  rw [w64 (x := p.f0 + p.f1) (by omega) (by omega)]
  refine ev_pos (by omega) (ev_pos (by omega) (ev_pos (by omega) (ev_neg (by omega) ?_)))
  refine ev_succ ?_
  simp only [impl_PurchaseForForce.j2]
  refine ev_neg (by simp; omega) ?_
  rw [w64s (by omega)]
  exact ih
theorem allP_sorted : ∀ i : Fin 16, ∀ p ∈ allP.drop (i.val + 1), (allP[i.val]'i.isLt).f0 + (allP[i.val]'i.isLt).f1 ≤ p.f0 + p.f1 := by decide
theorem imp_l0 (loss load force : Int) (hl : 0 ≤ loss ∧ loss ≤ 10) (hd : 1 ≤ load ∧ load ≤ 100000) (hf : 1 ≤ force ∧ force ≤ 100000) : ∀ d i : Nat, i + d = 16 →
  Ev (fun k => impl_PurchaseForForce.l0 k loss load force allP (allP.length : Int) (i : Int) 0 0 false) (resP loss load force (allP.drop i))
 | 0, i, hi' => by
  have : i = 16 := by omega
  subst this
  refine ev_succ ?_
  simp only [impl_PurchaseForForce.l0]
  exact ev_neg (by have h16 : allP.length = 16 := rfl; omega) (ev_pos (by rw [w64 (by omega) (by omega)]; rfl) (Ev.now _))
 | d + 1, i, hi' => by
  have hn : allP.length = 16 := rfl
  have hi : i < allP.length := by omega
  have ec := List.drop_eq_getElem_cons hi
  have ih := imp_l0 loss load force hl hd hf d (i + 1) (by omega)
  have hk := allP_ok allP[i] (List.getElem_mem hi)
  have fnd := fun (hb : 1 ≤ allP[i].f0 + allP[i].f1 ∧ allP[i].f0 + allP[i].f1 ≤ 9) => imp_found loss load force allP[i] hb d (i + 1) (by omega) (allP_sorted ⟨i, by omega⟩)
  rw [ec]
  simp only [resP]
  refine ev_succ ?_
  simp only [impl_PurchaseForForce.l0]
  rw [rdP hi]
  generalize allP[i] = p at *
  obtain ⟨o1, o2, o3, _⟩ := id hk
  obtain ⟨k1, k2⟩ := okT_one hk
  refine ev_pos (by omega) (ev_pos (by omega) (ev_pos (by omega) (ev_pos (by rw [w64 (by omega) (by omega)]; rfl) ?_)))
  refine ev_succ ?_
  simp only [impl_PurchaseForForce.j2]
  refine ev_pos (by trivial) ?_
  have e1 := implRaise_ev [p] loss k1 k2 hl
  obtain ⟨t1, t2, t3⟩ := okT_few k1 k2
  have b := gT_bd (U := 20 - loss) (D := 20) (by omega) (by omega) [p] t1 t2
  have pd := den_pos (gT (20 - loss) 20 [p])
  unfold enough
  generalize gT (20 - loss) 20 [p] = q at *
  obtain ⟨F, f1, f2, f3, f4⟩ := forceFor_ev q.num (q.den : Int) load (by omega) (by omega) pd (by omega) hd
  have iff : F ≤ force ↔ load ≤ q.num * force / (q.den : Int) := by
   rw [Int.le_ediv_iff_mul_le pd, Int.mul_comm q.num force]
   constructor
   ·intro h
    have := Int.mul_le_mul_of_nonneg_right h (show 0 ≤ q.num by omega); omega
   ·intro h
    rcases Int.lt_or_le force F with g | g
    ·have := Int.mul_le_mul_of_nonneg_right (show force ≤ F - 1 by omega) (show 0 ≤ q.num by omega); omega
    ·exact g
  refine Ev.bind e1 (Ev.bind f4 (ev_if (fun h => ?_) (fun h => ?_)))
  ·rw [if_pos (decide_eq_true (iff.1 h)), w64s (by omega)]
   exact fnd (by omega)
  ·rw [if_neg (by rw [decide_eq_true_eq]; exact fun g => h (iff.2 g)), w64s (by omega)]
   exact ih
theorem codeF {t : List S27} (h : okT t) (hs : shT t ≤ 9) {a : Int} (ha : 0 ≤ a ∧ a ≤ 10) {L : Int} (hL : 1 ≤ L ∧ L ≤ 100000) : codeL t a L = 0 := by
 unfold codeL; rw [if_pos h, if_pos ⟨ha, hL⟩, if_neg (by omega)]
theorem gT_low {v : Int} (hv : 0 ≤ v ∧ v ≤ 7) (t : List S27) (h : okPs t) (hm : mT t ≤ 9) : ((gT (20 - v) 20 t).den : Int) ≤ 49 * (gT (20 - v) 20 t).num := by
 have hb := nT_bd (U := 20 - v) (D := 20) (by omega) (by omega) t h
 obtain ⟨m, m1, e1, e2⟩ := num_scale (by omega) (gT_eq (U := 20 - v) (D := 20) (by omega) t)
 have h1 := nT_low (U := 20 - v) (D := 20) (by omega) (by omega) t h
 have h2 := e20 (U := 20 - v) (by omega) hm
 have h3 : ((gT (20 - v) 20 t).den : Int) * m ≤ 49 * (gT (20 - v) 20 t).num * m := by rw [Int.mul_assoc]; omega
 exact Int.le_of_mul_le_mul_right h3 (by omega)
/-- The two forces of a tackle. -/
theorem forces_ev (t : List S27) (h : okT t) (hs : shT t ≤ 9) (v L : Int) (hv : 0 ≤ v ∧ v ≤ 7) (hL : 1 ≤ L ∧ L ≤ 100000) :
  ∃ F H : Int, Ev (fun k => impl_RaiseForce.f k t v L) (F, 0) ∧ Ev (fun k => impl_HoldForce.f k t v L) (H, 0) ∧ 1 ≤ F ∧ F ≤ 4900001 ∧ 1 ≤ H ∧ H ≤ F ∧
   L * ((gT (20 - v) 20 t).den : Int) ≤ F * (gT (20 - v) 20 t).num ∧ (F - 1) * (gT (20 - v) 20 t).num < L * ((gT (20 - v) 20 t).den : Int) := by
 have ei := rough_ev [t] (by simp) v L
 rw [codeR_one, codeF h hs (by omega) hL] at ei
 have e2 := implRaise_ev t v h hs (by omega)
 have e3 := implHold_ev t v h hs (by omega)
 obtain ⟨o1, o2, o3⟩ := okT_few h hs
 have b := gT_bd (U := 20 - v) (D := 20) (by omega) (by omega) t o1 o2
 have b' := gT_bd (U := 20) (D := 20 - v) (by omega) (by omega) t o1 o2
 have pd := den_pos (gT (20 - v) 20 t)
 have pd' := den_pos (gT 20 (20 - v) t)
 have lo := gT_low hv t o1 o2
 have k1 := gT_le_adv (U := 20 - v) (D := 20) (by omega) (by omega) (by omega) t o1
 have k2 := gT_ge_adv (U := 20) (D := 20 - v) (by omega) (by omega) (by omega) t o1
 generalize gT (20 - v) 20 t = q at *
 generalize gT 20 (20 - v) t = y at *
 obtain ⟨F, f1, f2, f3, f4⟩ := forceFor_ev q.num (q.den : Int) L (by omega) (by omega) pd (by omega) hL
 obtain ⟨H, g1, g2, g3, g4⟩ := forceFor_ev y.num (y.den : Int) L (by omega) (by omega) pd' (by omega) hL
 refine ⟨F, H, ?_, ?_, f1, force_bd (by omega) f3 hL.2 pd lo, g1, hold_le (by omega) pd pd' (by omega) f2 k1 k2 g3, f2, f3⟩
 ·simp only [impl_RaiseForce.f]; exact Ev.bind ei (ev_pos (by trivial) (Ev.bind e2 (Ev.bind f4 (Ev.now _))))
 ·simp only [impl_HoldForce.f]; exact Ev.bind ei (ev_pos (by trivial) (Ev.bind e3 (Ev.bind g4 (Ev.now _))))
theorem most_ev (t : List S27) (h : okT t) (hs : shT t ≤ 9) (v f : Int) (hv : 0 ≤ v ∧ v ≤ 7) (hf : 1 ≤ f ∧ f ≤ 100000) :
  Ev (fun k => impl_MostRaised.f k t v f) ((gT (20 - v) 20 t).num * f / ((gT (20 - v) 20 t).den : Int), 0) := by
 have ei := rough_ev [t] (by simp) v f
 rw [codeR_one, codeF h hs (by omega) hf] at ei
 have e2 := implRaise_ev t v h hs (by omega)
 obtain ⟨m1, m2⟩ := most_both t v f h (by omega) hf hs
 simp only [impl_MostRaised.f]; exact Ev.bind ei (ev_pos (by trivial) (Ev.bind e2 (ev_now m2 (Ev.now _))))
theorem parts_ev (p : S27) (hp : okP p) (v L : Int) (hv : 0 ≤ v ∧ v ≤ 7) (hL : 1 ≤ L ∧ L ≤ 100000) : Ev (fun k => impl_PartTensions.f k p.f0 p.f1 p.f2 v L) (ptL v L (nP p + 1), 0) := by
 have ei := rough_ev [[p]] (by simp) v L
 obtain ⟨k1, k2⟩ := okT_one hp
 rw [codeR_one, codeF k1 k2 (by omega) hL] at ei
 have e0 : ptT v L 0 = ((L : Int) : Rat) / ((1 : Int) : Rat) := by simp [ptT]
 have e2 := ipt_l0 v L (by omega) hL p hp (nP p + 1) 0 (by omega)
 simp only [impl_PartTensions.f]
 have f1 := fraction_ev L 1 (by omega) (by omega) (by omega) (by omega) (by omega)
 rw [← e0] at f1
 exact Ev.bind ei (ev_pos (by trivial) (Ev.bind f1 e2))
theorem ptT_zero (v L : Int) : (ptT v L 0).num = L ∧ ((ptT v L 0).den : Int) = 1 := by
 have e0 : ptT v L 0 = ((L : Int) : Rat) / ((1 : Int) : Rat) := by simp [ptT]
 have := fr_of_coprime (n := L) (d := 1) (by omega) (by simp)
 rw [← e0] at this
 exact ⟨congrArg Prod.fst this, congrArg Prod.snd this⟩
theorem ptT_part {v L : Int} (hv : 0 ≤ v ∧ v ≤ 7) (hL : 1 ≤ L ∧ L ≤ 100000) (i : Nat) (hi : i ≤ 9) :
  1 ≤ ((ptT v L i).den : Int) ∧ 1 ≤ (ptT v L i).num ∧ (ptT v L i).num ≤ L * ((ptT v L i).den : Int) ∧ L * ((ptT v L i).den : Int) ≤ 51200000000000000 := by
 have b1 := pow_bd (U := 20 - v) (by omega) i
 have b2 := pow_bd (U := 20) (by omega) i
 have pd := den_pos (ptT v L i)
 have bd := (ptT_bd (loss := v) (force := L) (by omega) hL hi).2
 obtain ⟨m, m1, e1, e2⟩ := num_scale (n := L * (20 - v) ^ i) (d := 20 ^ i) (by omega) (r := ptT v L i) rfl
 have h0 : 1 ≤ L * (20 - v) ^ i := by have := Int.mul_le_mul hL.1 b1.1 (by omega) (by omega); omega
 have h1 : L * (20 - v) ^ i ≤ L * 20 ^ i := Int.mul_le_mul_of_nonneg_left b1.2 (by omega)
 refine ⟨by omega, ?_, ?_, ?_⟩
 ·rcases Int.lt_or_le 0 (ptT v L i).num with g | g
  ·omega
  ·have := Int.mul_nonpos_of_nonneg_of_nonpos (a := m) (b := (ptT v L i).num) (by omega) g
   rw [Int.mul_comm] at this; omega
 ·rw [e1, e2, ← Int.mul_assoc] at h1
  exact Int.le_of_mul_le_mul_right h1 (by omega)
 ·exact Int.mul_le_mul hL.2 bd (by omega) (by omega)
theorem ptL_get (v L : Int) (n i : Nat) (hi : i < (ptL v L n).length) : (ptL v L n)[i] = ⟨(ptT v L i).num, ((ptT v L i).den : Int)⟩ := by simp [ptL]
theorem resP_sorted (loss load force : Int) : ∀ l : List S27, l.Pairwise (fun a b => a.f0 + a.f1 ≤ b.f0 + b.f1) →
  resP loss load force l = (0, 0, false, 3) ∨ ∃ p ∈ l, resP loss load force l = (p.f0, p.f1, p.f2, 0) ∧ enough loss load force p = true ∧ ∀ q ∈ l, q.f0 + q.f1 < p.f0 + p.f1 → ¬ enough loss load force q = true
 | [], _ => .inl rfl
 | a :: l, h => by
  rw [List.pairwise_cons] at h
  simp only [resP]
  by_cases ha : enough loss load force a = true
  ·rw [if_pos ha]
   refine .inr ⟨a, by simp, rfl, ha, fun q hq hlt => ?_⟩
   rcases List.mem_cons.1 hq with rfl | g
   ·omega
   ·have := h.1 q g; omega
  ·rw [if_neg ha]
   rcases resP_sorted loss load force l h.2 with g | ⟨p, hp, e1, e2, e3⟩
   ·exact .inl g
   ·refine .inr ⟨p, by simp [hp], e1, e2, fun q hq hlt => ?_⟩
    rcases List.mem_cons.1 hq with rfl | g
    ·exact ha
    ·exact e3 q g hlt
theorem allP_pw : allP.Pairwise (fun a b => a.f0 + a.f1 ≤ b.f0 + b.f1) := by decide
theorem allP_two (n : Nat) (h1 : 1 ≤ n) (h8 : n ≤ 8) : (⟨((n : Int) + 1) / 2, (n : Int) / 2, false⟩ : S27) ∈ allP ∧ (⟨(n : Int) / 2, ((n : Int) + 1) / 2, true⟩ : S27) ∈ allP := by
 have e : allP.drop (2 * (n - 1)) = (⟨((n : Int) + 1) / 2, (n : Int) / 2, false⟩ : S27) :: (⟨(n : Int) / 2, ((n : Int) + 1) / 2, true⟩ : S27) :: allP.drop (2 * (n + 1 - 1)) := by
  obtain h | h | h | h | h | h | h | h : n = 1 ∨ n = 2 ∨ n = 3 ∨ n = 4 ∨ n = 5 ∨ n = 6 ∨ n = 7 ∨ n = 8 := by omega
  all_goals subst h; rfl
 exact ⟨List.mem_of_mem_drop (i := 2 * (n - 1)) (by rw [e]; simp), List.mem_of_mem_drop (i := 2 * (n - 1)) (by rw [e]; simp)⟩
theorem pff_ev (loss load force : Int) (hl : 0 ≤ loss ∧ loss ≤ 10) (hd : 1 ≤ load ∧ load ≤ 100000) (hf : 1 ≤ force ∧ force ≤ 100000) : Ev (fun k => impl_PurchaseForForce.f k loss load force) (resP loss load force allP) := by
 have h : Ev (fun k => impl_PurchaseForForce.j0 k loss load force false) (resP loss load force allP) := by
  refine ev_succ ?_
  simp only [impl_PurchaseForForce.j0]
  exact ev_neg (by simp) (Ev.bind allP_ev (imp_l0 loss load force hl hd hf 16 0 (by omega)))
 simp only [impl_PurchaseForForce.f, within_eq, Option.bind_some]
 simpa [hl, hd, hf] using h
/-- What one purchase asks for, by the reference. -/
theorem own_ev (p : S27) (hp : okP p) (v L force : Int) (hv : 0 ≤ v ∧ v ≤ 7) (hL : 1 ≤ L ∧ L ≤ 100000) :
  ∃ F : Int, Ev (fun k => spec_RaiseForce.f k [p] v L) (F, 0) ∧ (F ≤ force ↔ enough v L force p = true) := by
 obtain ⟨k1, k2⟩ := okT_one hp
 have es := l06Code_ev [p] (by simp) v L
 rw [codeF k1 k2 (by omega) hL] at es
 have e1 := specRaise_ev [p] v k1 k2 (by omega)
 obtain ⟨o1, o2, o3⟩ := okT_few k1 k2
 have b := gT_bd (U := (20 - v)) (D := 20) (by omega) (by omega) [p] o1 o2
 have pd := den_pos (gT (20 - v) 20 [p])
 unfold enough
 generalize gT (20 - v) 20 [p] = q at *
 obtain ⟨F, f1, f2, f3, f4⟩ := forceFor_ev q.num (q.den : Int) L (by omega) (by omega) pd (by omega) hL
 have f5 := l06Force_ev q.num (q.den : Int) L F (by omega) (by omega) pd (by omega) hL f2 f3
 refine ⟨F, ?_, ?_⟩
 ·simp only [spec_RaiseForce.f]; exact Ev.bind es (ev_pos (by trivial) (Ev.bind e1 (Ev.bind f5 (Ev.now _))))
 ·rw [decide_eq_true_eq, Int.le_ediv_iff_mul_le pd, Int.mul_comm q.num force]
  constructor
  ·intro h
   have := Int.mul_le_mul_of_nonneg_right h (show 0 ≤ q.num by omega); omega
  ·intro h
   rcases Int.lt_or_le force F with g | g
   ·have := Int.mul_le_mul_of_nonneg_right (show force ≤ F - 1 by omega) (show 0 ≤ q.num by omega); omega
   ·exact g
theorem at_ev (c : List Int) (h : ∀ x ∈ c, (Lit.int .u8 x).wf = true) (i n : Int) (hi : 0 ≤ i) (hn : 1 ≤ n ∧ n ≤ 1000) : ∃ v : Int, laws_a2At.f c i n = some v ∧ 0 ≤ v ∧ v < n := by
 unfold laws_a2At.f
 by_cases g : i ≥ (c.length : Int)
 ·rw [if_pos g]; exact ⟨0, rfl, by omega, by omega⟩
 ·rw [if_neg g, if_neg (by omega), if_pos hi, if_pos (by omega), if_neg (by omega)]
  have := (Sr.start h).1 _ (rd_mem (xs := c) (i := i) hi (by omega))
  rw [w64 (by omega) (by omega)]
  exact ⟨_, rfl, Int.tmod_nonneg _ (by omega), Int.tmod_lt_of_pos _ (by omega)⟩
theorem rdF {xs : List S35} {i : Nat} (h : i < xs.length) : rd_T35 xs (i : Int) = xs[i] := by
 unfold rd_T35; simp [List.getD_eq_getElem?_getD, h]
theorem ff_l1 (v L force : Int) (hv : 0 ≤ v ∧ v ≤ 7) (hL : 1 ≤ L ∧ L ≤ 100000) (hf : mx 1 (wrap64 (Int.tdiv L 3)) = force) (p : S27) (hp : okP p)
  (hno : ∀ q ∈ allP, q.f0 + q.f1 < p.f0 + p.f1 → ¬ enough v L force q = true) : ∀ (d n : Nat), n + d = nP p → 1 ≤ n → Ev (fun k => laws_FnForces.l1 k v L (n : Int) p.f0 p.f1 p.f2) true
 | 0, n, hd, h1 => by
  obtain ⟨hn, g1, g8⟩ := nP_eq hp
  have hp0 := hp.1
  have hp1 := hp.2.1
  refine ev_succ ?_
  simp only [laws_FnForces.l1]
  rw [w64 (x := p.f0 + p.f1) (by omega) (by omega)]
  exact ev_neg (by omega) (Ev.now _)
 | d + 1, n, hd, h1 => by
  obtain ⟨hn, g1, g8⟩ := nP_eq hp
  have hp0 := hp.1
  have hp1 := hp.2.1
  obtain ⟨m1, m2⟩ := allP_two n h1 (by omega)
  have n1 := hno _ m1 (by show ((n : Int) + 1) / 2 + (n : Int) / 2 < _; omega)
  have n2 := hno _ m2 (by show (n : Int) / 2 + ((n : Int) + 1) / 2 < _; omega)
  obtain ⟨A, ea, ia⟩ := own_ev _ (allP_ok _ m1) v L force hv hL
  obtain ⟨B, eb, ib⟩ := own_ev _ (allP_ok _ m2) v L force hv hL
  have ha : force < A := by
   rcases Int.lt_or_le force A with g | g
   ·exact g
   ·exact absurd (ia.1 g) n1
  have hb : force < B := by
   rcases Int.lt_or_le force B with g | g
   ·exact g
   ·exact absurd (ib.1 g) n2
  have ih := ff_l1 v L force hv hL hf p hp hno d (n + 1) (by omega) (by omega)
  have en : (((n + 1 : Nat) : Int)) = (n : Int) + 1 := by omega
  rw [en] at ih
  refine ev_succ ?_
  simp only [laws_FnForces.l1]
  rw [w64 (x := p.f0 + p.f1) (by omega) (by omega), w64s (by omega), en, Int.tdiv_eq_ediv_of_nonneg (show 0 ≤ (n : Int) + 1 by omega), Int.tdiv_eq_ediv_of_nonneg (show 0 ≤ (n : Int) by omega), w64 (x := ((n : Int) + 1) / 2) (by omega) (by omega), w64 (x := (n : Int) / 2) (by omega) (by omega), hf]
  refine ev_pos (by omega) (Ev.bind ea (Ev.bind eb (ev_pos (by trivial) (ev_pos (by trivial) (ev_neg ?_ ih)))))
  unfold mn; split <;> omega
theorem ff_l0 (v L : Int) (hv : 0 ≤ v ∧ v ≤ 7) (hL : 1 ≤ L ∧ L ≤ 100000) (N : Nat) (hN : N ≤ 10) : ∀ d i : Nat, i + d = N → 1 ≤ i → Ev (fun k => laws_FnForces.l0 k v L (ptL v L N) (i : Int)) true
 | 0, i, hd, h1 => by
  have hlen := ptL_len v L N
  refine ev_succ ?_
  simp only [laws_FnForces.l0]
  refine ev_neg (by omega) ?_
  obtain ⟨force, hf, f1, f2⟩ : ∃ force, mx 1 (wrap64 (Int.tdiv L 3)) = force ∧ 1 ≤ force ∧ force ≤ 100000 := by
   refine ⟨_, rfl, ?_⟩
   rw [Int.tdiv_eq_ediv_of_nonneg (by omega), w64 (by omega) (by omega)]
   unfold mx; split <;> omega
  rw [hf]
  have ep := pff_ev v L force (by omega) hL ⟨f1, f2⟩
  rcases resP_sorted v L force allP allP_pw with g | ⟨p, hp, e1, e2, e3⟩
  ·rw [g] at ep
   exact Ev.bind ep (ev_neg (by dsimp only; omega) (Ev.now _))
  ·rw [e1] at ep
   have okp := allP_ok p hp
   have ev : Ev (fun k => spec_ValidPurchase.f k p.f0 p.f1 p.f2) true := by
    have := l05One_ev p
    rw [ofd1 okp] at this
    simp only [spec_ValidPurchase.f]; exact Ev.bind this (Ev.now _)
   obtain ⟨A, ea, ia⟩ := own_ev p okp v L force hv hL
   have ha := ia.2 e2
   obtain ⟨hn, g1, g8⟩ := nP_eq okp
   refine Ev.bind ep (ev_pos (by trivial) (Ev.bind ev (ev_pos (by trivial) (Ev.bind ea (ev_pos (by trivial) ?_)))))
   have hd : decide (A > force) = false := ofd (by omega)
   rw [hd]
   refine ev_succ ?_
   simp only [laws_FnForces.j6]
   refine ev_neg (by simp) ?_
   exact ff_l1 v L force hv hL hf p okp e3 (nP p - 1) 1 (by omega) (by omega)
 | d + 1, i, hd, h1 => by
  have hlen := ptL_len v L N
  have hi : i < (ptL v L N).length := by omega
  have pt := ptT_part hv hL i (by omega)
  have ih := ff_l0 v L hv hL N hN d (i + 1) (by omega) (by omega)
  refine ev_succ ?_
  simp only [laws_FnForces.l0]
  rw [rdF hi, ptL_get, w64s (by omega)]
  dsimp only
  rw [w64 (x := L * ((ptT v L i).den : Int)) (by have := Int.mul_nonneg (show 0 ≤ L by omega) (show (0 : Int) ≤ ((ptT v L i).den : Int) by omega); omega) (by omega)]
  exact ev_pos (by omega) (ev_pos (by omega) (ev_neg (by omega) (ev_neg (by omega) (ev_neg (by omega) ih))))
theorem ff_j3 (v L : Int) (hv : 0 ≤ v ∧ v ≤ 7) (hL : 1 ≤ L ∧ L ≤ 100000) (t : List S27) (h : okT t) : Ev (fun k => laws_FnForces.j3 k t v L) true := by
 have hl : 0 < t.length := h.2.1
 have e0 : rd_T27 t 0 = t[0] := rdP (i := 0) hl
 have hp := h.1 _ (List.getElem_mem hl)
 obtain ⟨hn, g1, g8⟩ := nP_eq hp
 have hp0 := hp.1
 have hp1 := hp.2.1
 have ep := parts_ev _ hp v L hv hL
 refine ev_succ ?_
 simp only [laws_FnForces.j3]
 rw [e0]
 generalize t[0] = p at *
 have hlen := ptL_len v L (nP p + 1)
 have hz : 0 < (ptL v L (nP p + 1)).length := by omega
 have er : rd_T35 (ptL v L (nP p + 1)) 0 = ⟨L, 1⟩ := by
  have := rdF (i := 0) hz
  rw [ptL_get, (ptT_zero v L).1, (ptT_zero v L).2] at this
  exact this
 rw [w64 (x := p.f0 + p.f1) (by omega) (by omega), w64 (x := p.f0 + p.f1 + 1) (by omega) (by omega)]
 refine ev_pos (by omega) (Ev.bind ep (ev_pos (by trivial) (ev_pos (by dsimp only; omega) (ev_pos (by dsimp only; omega) ?_))))
 dsimp only
 rw [er]
 refine ev_pos rfl (ev_succ ?_)
 simp only [laws_FnForces.j4]
 refine ev_neg (by simp) ?_
 exact ff_l0 v L hv hL (nP p + 1) (by omega) (nP p) 1 (by omega) (by omega)
theorem FnForces : laws_FnForces.Pure := by
 intro l0 l1 _ _ h0 _ _ h1
 refine Ev.rounds ?_
 simp only [laws_FnForces.f]
 have hlong : ∃ b, laws_a2Long.f l0 l1 = some b := by unfold laws_a2Long.f; split <;> exact ⟨_, rfl⟩
 obtain ⟨b, hb⟩ := hlong
 refine ev_now hb (ev_if (fun _ => Ev.now _) (fun _ => ?_))
 obtain ⟨t, et, ht, hs⟩ := A2Rough_ev l0 h0
 obtain ⟨v, ev, v0, v7⟩ := at_ev l1 h1 0 8 (by omega) (by omega)
 obtain ⟨w, ew, w0, w9⟩ := at_ev l1 h1 1 200 (by omega) (by omega)
 have eL : wrap64 (1 + wrap64 (w * 100)) = 1 + w * 100 := by rw [w64 (x := w * 100) (by omega) (by omega), w64 (by omega) (by omega)]
 have hL : 1 ≤ 1 + w * 100 ∧ 1 + w * 100 ≤ 100000 := by omega
 refine Ev.bind et (ev_now ev (ev_now ew ?_))
 rw [eL]
 generalize 1 + w * 100 = L at *
 have hv : 0 ≤ v ∧ v ≤ 7 := by omega
 obtain ⟨F, H, e1, e2, F1, F2, H1, H2, f2, f3⟩ := forces_ev t ht hs v L hv hL
 have pd := den_pos (gT (20 - v) 20 t)
 have j3 := ff_j3 v L hv hL t ht
 have j2f : Ev (fun k => laws_FnForces.j2 k t v L F false) true := by
  refine ev_succ ?_
  simp only [laws_FnForces.j2]
  exact ev_neg (by simp) j3
 have j1 : Ev (fun k => laws_FnForces.j1 k t v L F) true := by
  refine ev_succ ?_
  simp only [laws_FnForces.j1]
  refine ev_if (fun g => ?_) (fun _ => j2f)
  by_cases g2 : F ≤ 100001
  ·rw [ofd1 g2]
   refine ev_succ ?_
   simp only [laws_FnForces.j2]
   rw [w64 (x := F - 1) (by omega) (by omega)]
   have em := most_ev t ht hs v (F - 1) hv (by omega)
   have hlt : (gT (20 - v) 20 t).num * (F - 1) / ((gT (20 - v) 20 t).den : Int) < L := by
    rw [Int.ediv_lt_iff_lt_mul pd, Int.mul_comm]; exact f3
   exact ev_pos (by trivial) (Ev.bind em (ev_pos (by trivial) (ev_neg (by dsimp only; omega) j3)))
  ·rw [ofd g2]; exact j2f
 refine Ev.bind e1 (Ev.bind e2 (ev_pos (by trivial) (ev_neg (by dsimp only; omega) (ev_neg (by dsimp only; omega) (ev_pos (by trivial) (ev_neg (by dsimp only; omega) ?_))))))
 dsimp only
 rw [ofd (p := H > F) (by omega)]
 refine ev_succ ?_
 simp only [laws_FnForces.j0]
 refine ev_neg (by simp) (ev_if (fun g => ?_) (fun _ => j1))
 have em := most_ev t ht hs v F hv (by omega)
 have hge : L ≤ (gT (20 - v) 20 t).num * F / ((gT (20 - v) 20 t).den : Int) := by
  rw [Int.le_ediv_iff_mul_le pd, Int.mul_comm _ F]; exact f2
 exact Ev.bind em (ev_pos (by trivial) (ev_neg (by dsimp only; omega) j1))
end Go.Proofs.Ytdhdokhfgadikaa.PureFnForces
namespace Go.Proofs.Ytdhdokhfgadikaa.Pure
open Go.Proofs.Ytdhdokhfgadikaa.HFnForces
theorem FnForces : laws_FnForces.Pure := PureFnForces.FnForces
end Go.Proofs.Ytdhdokhfgadikaa.Pure
