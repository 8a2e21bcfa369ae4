/- The program's function answers as the statement says. Conditions: none beyond the given statement's own. -/
import Derived.Test.YtifdihbndlmgpaaHCrox10
import Derived.Test.YtifdihbndlmgpaaLib
import Derived.Test.YtifdihbndlmgpaaLibDraw
set_option linter.unusedVariables false
set_option linter.unusedSimpArgs false
namespace Go.Proofs.Ytifdihbndlmgpaa.PureFnCrossings
open Go.RowKit Go.Proofs.Ytifdihbndlmgpaa.HCro Go.Proofs.YtifdihbndlmgpaaW.PrintWords Go.Proofs.YtifdihbndlmgpaaW.PrintLast Go.Proofs.YtifdihbndlmgpaaW.PrintMore Go.Proofs.Ytifdihbndlmgpaa.Lib
theorem l00In_eq (a b c : Int) : spec_l00In.f a b c = some (decide (b ≤ a ∧ a ≤ c)) := by
  unfold spec_l00In.f; by_cases h : a ≥ b <;> simp [h]

theorem within_eq (a b c : Int) : impl_within.f a b c = some (decide (b ≤ a ∧ a ≤ c)) := by
  unfold impl_within.f; by_cases h : a ≥ b <;> simp [h]

structure Pu where
  f0 : Int
  f1 : Int
  f2 : Bool
def okP (p : Pu) : Prop := (0 ≤ p.f0 ∧ p.f0 ≤ 4) ∧ (0 ≤ p.f1 ∧ p.f1 ≤ 4) ∧ 1 ≤ p.f0 + p.f1 ∧ (if p.f2 = true then 0 ≤ p.f1 - p.f0 ∧ p.f1 - p.f0 ≤ 1 else 0 ≤ p.f0 - p.f1 ∧ p.f0 - p.f1 ≤ 1)
instance (p : Pu) : Decidable (okP p) := inferInstanceAs (Decidable ((0 ≤ p.f0 ∧ p.f0 ≤ 4) ∧ (0 ≤ p.f1 ∧ p.f1 ≤ 4) ∧ 1 ≤ p.f0 + p.f1 ∧ (if p.f2 = true then 0 ≤ p.f1 - p.f0 ∧ p.f1 - p.f0 ≤ 1 else 0 ≤ p.f0 - p.f1 ∧ p.f0 - p.f1 ≤ 1)))
theorem l05One_ev (p : Pu) : Ev (fun k => spec_l05One.f k p.f0 p.f1 p.f2) (decide (okP p), p.f0, p.f1, p.f2) := by
  have jt : Ev (fun k => spec_l05One.j0 k true p.f0 p.f1 p.f2) (false, p.f0, p.f1, p.f2) := by
    refine ev_succ ?_; simp only [spec_l05One.j0]; exact ev_pos (by trivial) (Ev.now _)
  simp only [spec_l05One.f]
  refine ev_now (l00In_eq _ _ _) (ev_if (fun h0 => ev_now (l00In_eq _ _ _) (ev_if (fun h1 => ?_) (fun h1 => ?_))) (fun h0 => ?_))
  · have h0 := of_decide_eq_true h0
    have h1 := of_decide_eq_true h1
    rw [w64 (x := p.f0 + p.f1) (by omega) (by omega)]
    by_cases h2 : p.f0 + p.f1 < 1
    · rw [ofd1 h2, ofd (p := okP p) (fun g => by have := g.2.2.1; omega)]; exact jt
    · rw [ofd h2]
      refine ev_succ ?_; simp only [spec_l05One.j0]
      refine ev_neg (by simp) (ev_if (fun h3 => ?_) (fun h3 => ?_))
      · rw [w64 (x := p.f1 - p.f0) (by omega) (by omega)]
        refine ev_now (l00In_eq _ _ _) (ev_some ?_)
        congr 1
        apply decide_eq_decide.2; unfold okP; rw [if_pos h3]
        exact ⟨fun g => ⟨h0, h1, by omega, g⟩, fun g => g.2.2.2⟩
      · rw [w64 (x := p.f0 - p.f1) (by omega) (by omega)]
        refine ev_now (l00In_eq _ _ _) (ev_some ?_)
        congr 1
        apply decide_eq_decide.2; unfold okP; rw [if_neg h3]
        exact ⟨fun g => ⟨h0, h1, by omega, g⟩, fun g => g.2.2.2⟩
  · rw [ofd (p := okP p) (fun g => h1 (ofd1 g.2.1))]; exact jt
  · rw [ofd (p := okP p) (fun g => h0 (ofd1 g.1))]; exact jt
theorem validPurchase_ev (p : Pu) : Ev (fun k => impl_ValidPurchase.f k p.f0 p.f1 p.f2) (decide (okP p)) := by
  have jt : Ev (fun k => impl_ValidPurchase.j0 k true p.f0 p.f1 p.f2) false := by
    refine ev_succ ?_; simp only [impl_ValidPurchase.j0]; exact ev_pos (by trivial) (Ev.now _)
  simp only [impl_ValidPurchase.f]
  refine ev_now (within_eq _ _ _) (ev_if (fun h0 => ev_now (within_eq _ _ _) (ev_if (fun h1 => ?_) (fun h1 => ?_))) (fun h0 => ?_))
  · have h0 := of_decide_eq_true h0
    have h1 := of_decide_eq_true h1
    rw [w64 (x := p.f0 + p.f1) (by omega) (by omega)]
    by_cases h2 : p.f0 + p.f1 = 0
    · rw [beq_iff_eq.2 h2, ofd (p := okP p) (fun g => by have := g.2.2.1; omega)]; exact jt
    · rw [beq_eq_false_iff_ne.2 h2]
      refine ev_succ ?_; simp only [impl_ValidPurchase.j0]
      refine ev_neg (by simp) (ev_if (fun h3 => ?_) (fun h3 => ?_))
      · rw [w64 (x := p.f1 - p.f0) (by omega) (by omega)]
        refine ev_now (within_eq _ _ _) (ev_some ?_)
        apply decide_eq_decide.2; unfold okP; rw [if_pos h3]
        exact ⟨fun g => ⟨h0, h1, by omega, g⟩, fun g => g.2.2.2⟩
      · rw [w64 (x := p.f0 - p.f1) (by omega) (by omega)]
        refine ev_now (within_eq _ _ _) (ev_some ?_)
        apply decide_eq_decide.2; unfold okP; rw [if_neg h3]
        exact ⟨fun g => ⟨h0, h1, by omega, g⟩, fun g => g.2.2.2⟩
  · rw [ofd (p := okP p) (fun g => h1 (ofd1 g.2.1))]; exact jt
  · rw [ofd (p := okP p) (fun g => h0 (ofd1 g.1))]; exact jt

theorem tm0 (x : Int) : x.tmod 2 = 0 ↔ x % 2 = 0 :=
  ⟨fun h => Int.emod_eq_zero_of_dvd (Int.dvd_of_tmod_eq_zero h), fun h => Int.tmod_eq_zero_of_dvd (Int.dvd_of_emod_eq_zero h)⟩
def lastB (p : Pu) : Int := if p.f2 = true then 1 else 0
def blockB (p : Pu) (i : Int) : Int := if (p.f0 + p.f1 - 1 - i) % 2 = 0 then lastB p else 1 - lastB p
theorem blockB_01 (p : Pu) (i : Int) : blockB p i = 0 ∨ blockB p i = 1 := by
  unfold blockB lastB; repeat' split
  all_goals simp
theorem blockB_next (p : Pu) (i : Int) : 1 - blockB p i = blockB p (i + 1) := by
  unfold blockB
  by_cases h : (p.f0 + p.f1 - 1 - i) % 2 = 0
  · rw [if_pos h, if_neg (by omega)]
  · rw [if_neg h, if_pos (by omega)]; omega
def manyB (p : Pu) (b : Int) : Int := if b = 0 then p.f0 else p.f1
theorem first_ev (p : Pu) (hp : okP p) : spec_l07First.f p.f0 p.f1 p.f2 = some (blockB p 0, p.f0, p.f1, p.f2) := by
  obtain ⟨h0, h1, h2, _⟩ := hp
  unfold spec_l07First.f blockB lastB
  rw [w64 (by omega) (by omega), Int.tmod_eq_emod_of_nonneg (by omega)]
  by_cases h : p.f2 = true
  · rw [if_pos h, if_pos h]
    by_cases g : (p.f0 + p.f1) % 2 = 1
    · rw [if_pos g, if_pos (by omega)]
    · rw [if_neg g, if_neg (by omega)]
  · rw [if_neg h, if_neg h]
    by_cases g : (p.f0 + p.f1) % 2 = 1
    · rw [if_pos g, if_pos (by omega)]
    · rw [if_neg g, if_neg (by omega)]
theorem blockAt_eq (p : Pu) (hp : okP p) (i : Int) (h0 : 0 ≤ i) (h1 : i ≤ 4611686018427387904) : impl_blockAt.f p.f0 p.f1 p.f2 i = some (blockB p i) := by
  obtain ⟨g0, g1, g2, _⟩ := hp
  unfold impl_blockAt.f blockB lastB
  rw [w64 (x := p.f0 + p.f1) (by omega) (by omega), w64 (x := p.f0 + p.f1 - 1) (by omega) (by omega), w64 (x := p.f0 + p.f1 - 1 - i) (by omega) (by omega)]
  simp only [tm0]
  repeat' split
  all_goals rfl

theorem rdIStop {xs : List S53} {i : Nat} (h : i < xs.length) : rd_T53 xs (i : Int) = xs[i] := by
  unfold rd_T53; simp [List.getD_eq_getElem?_getD, h]

def wF (w : List S53) (x : S53) : Bool := w.any fun y => y.f0 == x.f0 && y.f1 == x.f1
theorem wF_drop {w : List S53} {i : Nat} (h : i < w.length) (x : S53) : wF (w.drop i) x = ((w[i].f0 == x.f0 && w[i].f1 == x.f1) || wF (w.drop (i + 1)) x) := by
  rw [List.drop_eq_getElem_cons h]; rfl
theorem idx_ev (w : List S53) (x : S53) (hn : w.length ≤ 1048576) : ∀ (d i : Nat), i + d = w.length → ∃ r : Int, Ev (fun k => impl_Stop_65.l0 k w (w.length : Int) (i : Int) x.f0 x.f1) r ∧ decide (r ≥ 0) = wF (w.drop i) x
  | 0, i, hd => by
    refine ⟨-1, ?_, ?_⟩
    · refine ev_succ ?_; simp only [impl_Stop_65.l0]; exact ev_neg (by omega) (Ev.now _)
    · rw [show w.drop i = [] by simp; omega]; rfl
  | d + 1, i, hd => by
    have hi : i < w.length := by omega
    obtain ⟨r, e1, e2⟩ := idx_ev w x hn d (i + 1) (by omega)
    by_cases h : (x.f0 == w[i].f0 && x.f1 == w[i].f1) = true
    · refine ⟨(i : Int), ?_, ?_⟩
      · refine ev_succ ?_; simp only [impl_Stop_65.l0]; rw [rdIStop hi]
        exact ev_pos (by omega) (ev_pos (by omega) (ev_pos (by omega) (ev_pos h (Ev.now _))))
      · rw [wF_drop hi, show (w[i].f0 == x.f0 && w[i].f1 == x.f1) = true by simp at h ⊢; omega]; simp
    · refine ⟨r, ?_, ?_⟩
      · refine ev_succ ?_; simp only [impl_Stop_65.l0]; rw [rdIStop hi, w64s (by omega)]
        exact ev_pos (by omega) (ev_pos (by omega) (ev_pos (by omega) (ev_neg h e1)))
      · rw [e2, wF_drop hi, show (w[i].f0 == x.f0 && w[i].f1 == x.f1) = false by simp at h ⊢; omega]; rfl
theorem contains_ev (w : List S53) (x : S53) (hn : w.length ≤ 1048576) : Ev (fun k => impl_Stop_57.f k w x.f0 x.f1) (wF w x) := by
  obtain ⟨r, e1, e2⟩ := idx_ev w x hn w.length 0 (by omega)
  simp only [impl_Stop_57.f, impl_Stop_65.f]
  exact Ev.bind e1 (ev_some e2)

def prW (w : List S53) (j : Nat) : List Int := if (rd_T53 w ((j + 1 : Nat) : Int)).f0 = 0 then [(rd_T53 w ((j + 1 : Nat) : Int)).f1, (rd_T53 w (j : Int)).f1] else [(rd_T53 w (j : Int)).f1, (rd_T53 w ((j + 1 : Nat) : Int)).f1]
def prL (w : List S53) (i : Nat) : List (List Int) := (List.range i).map (prW w)
theorem prL_succ (w : List S53) (i : Nat) : prL w i ++ [prW w i] = prL w (i + 1) := by simp [prL, List.range_succ]
theorem prL_len (w : List S53) (i : Nat) : (prL w i).length = i := by simp [prL]
theorem prL_two (w : List S53) (i : Nat) : ∀ x ∈ prL w i, x.length = 2 := by
  intro x hx
  simp only [prL, List.mem_map] at hx
  obtain ⟨j, _, rfl⟩ := hx
  unfold prW; split <;> rfl
theorem w_minus {i : Nat} (h : i < 1048577) : wrap64 (((i + 1 : Nat) : Int) - 1) = (i : Int) := by rw [w64 (by omega) (by omega)]; omega
theorem sParts_l0 (w : List S53) (hn : w.length ≤ 1048576) : ∀ (d i : Nat), i + 1 + d = max w.length (i + 1) →
    Ev (fun k => spec_l07Parts.l0 k w (prL w i) ((i + 1 : Nat) : Int)) (prL w (i + d))
  | 0, i, hd => by
    refine ev_succ ?_
    simp only [spec_l07Parts.l0]
    exact ev_neg (by omega) (Ev.now _)
  | d + 1, i, hd => by
    have ih := sParts_l0 w hn d (i + 1) (by omega)
    have hl := prL_len w i
    rw [← prL_succ, show i + 1 + d = i + (d + 1) by omega] at ih
    unfold prW at ih
    refine ev_succ ?_
    simp only [spec_l07Parts.l0]
    rw [w_minus (by omega), w64s (by omega)]
    refine ev_pos (by omega) (ev_pos (by omega) (ev_pos (by omega) (ev_pos (by omega) (ev_if (fun g => ev_pos (by omega) ?_) (fun g => ev_pos (by omega) ?_)))))
    · rw [if_pos g] at ih; exact ih
    · rw [if_neg g] at ih; exact ih
theorem iParts_l0 (w : List S53) (hn : w.length ≤ 1048576) (p : Pu) (hb : ∀ j (h : j < w.length), w[j].f0 = blockB p (j : Int)) : ∀ (d i : Nat), i + 1 + d = max w.length (i + 1) →
    Ev (fun k => impl_partsOfWay.l0 k w (prL w i) ((i + 1 : Nat) : Int)) (prL w (i + d))
  | 0, i, hd => by
    refine ev_succ ?_
    simp only [impl_partsOfWay.l0]
    exact ev_neg (by omega) (Ev.now _)
  | d + 1, i, hd => by
    have ih := iParts_l0 w hn p hb d (i + 1) (by omega)
    have hl := prL_len w i
    rw [← prL_succ, show i + 1 + d = i + (d + 1) by omega] at ih
    have h1 := hb i (by omega)
    have h2 := hb (i + 1) (by omega)
    have e1 : rd_T53 w (i : Int) = w[i] := rdIStop (by omega)
    have e2 : rd_T53 w ((i + 1 : Nat) : Int) = w[i + 1] := rdIStop (by omega)
    have bn := blockB_next p (i : Int)
    rw [show ((i : Int) + 1) = ((i + 1 : Nat) : Int) by omega] at bn
    unfold prW at ih
    rw [e1, e2] at ih
    have b01 := blockB_01 p (i : Int)
    refine ev_succ ?_
    simp only [impl_partsOfWay.l0]
    rw [w_minus (by omega), w64s (by omega), e1, e2, h1, h2, ← bn]
    rw [h2, ← bn] at ih
    refine ev_pos (by omega) (ev_pos (by omega) (ev_now rfl ?_))
    rcases b01 with q | q
    · rw [q] at ih ⊢
      rw [if_neg (by omega)] at ih
      exact ev_pos (by omega) (ev_pos (by omega) (ev_pos (by omega) (ev_pos (by simp) (ev_pos (by omega) (ev_pos (by omega) (ev_pos (by simp) (ev_pos (by omega) ih)))))))
    · rw [q] at ih ⊢
      rw [if_pos (by omega)] at ih
      exact ev_pos (by omega) (ev_pos (by omega) (ev_pos (by omega) (ev_pos (by simp) (ev_pos (by omega) (ev_pos (by omega) (ev_pos (by simp) (ev_pos (by omega) ih)))))))
theorem parts_both (w : List S53) (hn : w.length ≤ 1048576) (p : Pu) (hb : ∀ j (h : j < w.length), w[j].f0 = blockB p (j : Int)) :
    Ev (fun k => spec_l07Parts.f k w) (prL w (w.length - 1)) ∧ Ev (fun k => impl_partsOfWay.f k w) (prL w (w.length - 1)) := by
  have s := sParts_l0 w hn (w.length - 1) 0 (by omega)
  have i := iParts_l0 w hn p hb (w.length - 1) 0 (by omega)
  rw [Nat.zero_add (w.length - 1)] at s i
  simp only [spec_l07Parts.f, impl_partsOfWay.f]
  exact ⟨s, i⟩
def crP (t : Bool) (a b : List Int) : Prop := if t = true then wrap64 (wrap64 (rd a 0 - rd b 0) * wrap64 (rd a 1 - rd b 1)) > 0 else wrap64 (wrap64 (rd a 0 - rd b 0) * wrap64 (rd a 1 - rd b 1)) < 0
instance (t : Bool) (a b : List Int) : Decidable (crP t a b) := by unfold crP; infer_instance
theorem cross_eq (a b : List Int) (t : Bool) (ha : a.length = 2) (hb : b.length = 2) : spec_l07Cross.f a b t = some (decide (crP t a b)) := by
  unfold spec_l07Cross.f crP
  cases t
  · simp [ha, hb]
  · simp [ha, hb]
theorem rdL {ps : List (List Int)} {i : Nat} (h : i < ps.length) : rd_L2 ps (i : Int) = ps[i] := by
  unfold rd_L2; simp [List.getD_eq_getElem?_getD, h]

theorem both_l1 (t : Bool) (ps : List (List Int)) (hp : ∀ x ∈ ps, x.length = 2) (hn : ps.length ≤ 1048576) (i : Nat) (hi : i < ps.length) (D : Nat)
    (next : ∀ (c : Int) (l : List S74), (l.length : Int) = c → l.length + D * ps.length ≤ 2199023255552 → ∃ (n : Int) (L : List S74), Ev (fun k => spec_l07Count.l0 k t ps c (((i + 1 : Nat) : Int))) n ∧ Ev (fun k => impl_crossings.l0 k t l ps ps (ps.length : Int) (((i + 1 : Nat) : Int))) L ∧ (L.length : Int) = n) :
    ∀ (d j : Nat) (c : Int) (l : List S74), j + d = ps.length → (l.length : Int) = c → l.length + d + D * ps.length ≤ 2199023255552 →
    ∃ (n : Int) (L : List S74), Ev (fun k => spec_l07Count.l1 k t ps c (i : Int) (j : Int)) n ∧ Ev (fun k => impl_crossings.l1 k t l ps (i : Int) ps[i] (j : Int) ps (ps.length : Int) (i : Int)) L ∧ (L.length : Int) = n
  | 0, j, c, l, hd, hc, hb => by
    obtain ⟨n, L, e1, e2, e3⟩ := next c l hc (by omega)
    refine ⟨n, L, ev_succ ?_, ev_succ ?_, e3⟩
    · simp only [spec_l07Count.l1]
      rw [w64s (i := i) (by omega)]
      exact ev_neg (by omega) e1
    · simp only [impl_crossings.l1]
      rw [w64s (i := i) (by omega)]
      exact ev_neg (by omega) e2
  | d + 1, j, c, l, hd, hc, hb => by
    have hj : j < ps.length := by omega
    have li := hp _ (List.getElem_mem hi)
    have lj := hp _ (List.getElem_mem hj)
    have ec := cross_eq ps[i] ps[j] t li lj
    by_cases h : crP t ps[i] ps[j]
    · obtain ⟨n, L, e1, e2, e3⟩ := both_l1 t ps hp hn i hi D next d (j + 1) (c + 1) (l ++ [⟨(i : Int), (j : Int)⟩]) (by omega) (by simp; omega) (by simp; omega)
      refine ⟨n, L, ev_succ ?_, ev_succ ?_, e3⟩
      · simp only [spec_l07Count.l1]
        rw [w64s (i := j) (by omega), rdL hi, rdL hj, w64 (x := c + 1) (by omega) (by omega)]
        exact ev_pos (by omega) (ev_pos (by omega) (ev_pos (by omega) (ev_pos (by omega) (ev_now ec (ev_pos (decide_eq_true h) e1)))))
      · simp only [impl_crossings.l1]
        rw [w64s (i := j) (by omega), rdL hj]
        refine ev_pos (by omega) (ev_pos (by omega) (ev_pos (by omega) (ev_pos (by omega) (ev_pos (by omega) (ev_pos (by omega) ?_)))))
        unfold crP at h
        cases t with
        | true =>
          simp only [if_true] at h
          exact ev_neg (by omega) (ev_pos h (ev_pos (by trivial) (ev_pos (by omega) e2)))
        | false =>
          simp only [Bool.false_eq_true, if_false] at h
          exact ev_pos h (ev_neg (by simp) (ev_pos (by omega) e2))
    · obtain ⟨n, L, e1, e2, e3⟩ := both_l1 t ps hp hn i hi D next d (j + 1) c l (by omega) hc (by omega)
      refine ⟨n, L, ev_succ ?_, ev_succ ?_, e3⟩
      · simp only [spec_l07Count.l1]
        rw [w64s (i := j) (by omega), rdL hi, rdL hj]
        exact ev_pos (by omega) (ev_pos (by omega) (ev_pos (by omega) (ev_pos (by omega) (ev_now ec (ev_neg (by rw [decide_eq_true_eq]; exact h) e1)))))
      · simp only [impl_crossings.l1]
        rw [w64s (i := j) (by omega), rdL hj]
        refine ev_pos (by omega) (ev_pos (by omega) (ev_pos (by omega) (ev_pos (by omega) (ev_pos (by omega) (ev_pos (by omega) ?_)))))
        unfold crP at h
        cases t with
        | true =>
          simp only [if_true] at h
          exact ev_if (fun _ => ev_pos (by trivial) (ev_neg h e2)) (fun _ => ev_neg h e2)
        | false =>
          simp only [Bool.false_eq_true, if_false] at h
          exact ev_neg h (ev_if (fun _ => ev_neg (by simp) e2) (fun _ => e2))
theorem both_l0 (t : Bool) (ps : List (List Int)) (hp : ∀ x ∈ ps, x.length = 2) (hn : ps.length ≤ 1048576) : ∀ (D i : Nat) (c : Int) (l : List S74), i + D = ps.length → (l.length : Int) = c → l.length + D * ps.length ≤ 2199023255552 →
    ∃ (n : Int) (L : List S74), Ev (fun k => spec_l07Count.l0 k t ps c (i : Int)) n ∧ Ev (fun k => impl_crossings.l0 k t l ps ps (ps.length : Int) (i : Int)) L ∧ (L.length : Int) = n
  | 0, i, c, l, hd, hc, hb => by
    refine ⟨c, l, ev_succ ?_, ev_succ ?_, hc⟩
    · simp only [spec_l07Count.l0]; exact ev_neg (by omega) (Ev.now _)
    · simp only [impl_crossings.l0]; exact ev_neg (by omega) (Ev.now _)
  | D + 1, i, c, l, hd, hc, hb => by
    have hi : i < ps.length := by omega
    rw [Nat.add_mul, Nat.one_mul] at hb
    obtain ⟨n, L, e1, e2, e3⟩ := both_l1 t ps hp hn i hi D (fun c' l' h1 h2 => both_l0 t ps hp hn D (i + 1) c' l' (by omega) h1 h2) (ps.length - (i + 1)) (i + 1) c l (by omega) hc (by omega)
    refine ⟨n, L, ev_succ ?_, ev_succ ?_, e3⟩
    · simp only [spec_l07Count.l0]
      rw [w64s (i := i) (by omega)]
      exact ev_pos (by omega) e1
    · simp only [impl_crossings.l0]
      rw [w64s (i := i) (by omega), rdL hi]
      exact ev_pos (by omega) (ev_pos (by omega) (ev_pos (by omega) e2))

theorem cnt_both (p : Pu) (w : List S53) (hn : w.length ≤ 1048576) (hb : ∀ j (h : j < w.length), w[j].f0 = blockB p (j : Int)) : ∃ c : Int, Ev (fun k => cntI k w) c ∧ Ev (fun k => cntS k w) c := by
  obtain ⟨s, i⟩ := parts_both w hn p hb
  have hl := prL_len w (w.length - 1)
  have b : (prL w (w.length - 1)).length * (prL w (w.length - 1)).length ≤ 1048576 * 1048576 := Nat.mul_le_mul (by omega) (by omega)
  obtain ⟨n, L, f1, f2, f3⟩ := both_l0 false (prL w (w.length - 1)) (prL_two w _) (by omega) (prL w (w.length - 1)).length 0 0 [] (by omega) (by simp) (by simp; omega)
  refine ⟨n, ?_, ?_⟩
  · simp only [cntI, impl_crossings.f, Option.map_eq_bind]
    exact Ev.bind (Ev.bind i f2) (ev_some f3)
  · simp only [cntS, spec_l07Count.f]
    exact Ev.bind s f1
theorem leaf_both (p : Pu) (N : Nat) (last : Int) (w : List S53) (s : List S53 × Int) (hn : w.length ≤ 8) (hs : s.1.length ≤ 8) (hb : ∀ j (h : j < w.length), w[j].f0 = blockB p (j : Int)) :
    ∃ r : List S53 × Int, r.1.length ≤ 8 ∧ Ev (fun k => leafO (cntI k) N last w s) r ∧ Ev (fun k => leafS (cntS k) N last w s) r := by
  obtain ⟨c, e1, e2⟩ := cnt_both p w (by omega) hb
  by_cases h1 : (rd_T53 w ((N : Int) - 1)).f1 = last
  · by_cases h2 : s.2 < 0 ∨ c < s.2
    · refine ⟨(w, c), hn, ?_, ?_⟩
      · simp only [leafO]
        exact Ev.bind e1 (ev_some (by rw [if_pos ⟨h1, h2⟩]))
      · simp only [leafS]
        exact ev_pos h1 (Ev.bind e2 (ev_some (by rw [if_pos h2])))
    · refine ⟨s, hs, ?_, ?_⟩
      · simp only [leafO]
        exact Ev.bind e1 (ev_some (by rw [if_neg (fun g => h2 g.2)]))
      · simp only [leafS]
        exact ev_pos h1 (Ev.bind e2 (ev_some (by rw [if_neg h2])))
  · refine ⟨s, hs, ?_, ?_⟩
    · simp only [leafO]
      exact Ev.bind e1 (ev_some (by rw [if_neg (fun g => h1 g.1)]))
    · simp only [leafS]
      exact ev_neg h1 (Ev.now _)
theorem anyS_eq (w : List S53) (b k : Int) : ∀ (m j : Nat) (u : Bool), j + m = w.length → anyS w b k m (j : Int) u = (u || wF (w.drop j) ⟨b, k⟩)
  | 0, j, u, h => by
    rw [show w.drop j = [] by simp; omega]
    simp [anyS, wF]
  | m + 1, j, u, h => by
    have hj : j < w.length := by omega
    rw [anyS, show (j : Int) + 1 = ((j + 1 : Nat) : Int) by omega, anyS_eq w b k m (j + 1) _ (by omega), wF_drop hj, rdIStop hj, Bool.or_assoc]
theorem usedS_eq (w : List S53) (b k : Int) : usedS w b k = wF w ⟨b, k⟩ := by
  have h := anyS_eq w b k w.length 0 false (by omega)
  simpa [usedS] using h
theorem rds_both {σ : Type} (P : σ → Prop) (f g : Nat → Int → σ → Option σ) (h : ∀ i s, P s → ∃ r, P r ∧ Ev (fun k => f k i s) r ∧ Ev (fun k => g k i s) r) : ∀ (q : Nat) (i : Int) (s : σ), P s → ∃ r, P r ∧ Ev (fun k => rdsO (f k) q i s) r ∧ Ev (fun k => rdsO (g k) q i s) r
  | 0, i, s, hs => ⟨s, hs, ev_some rfl, ev_some rfl⟩
  | q + 1, i, s, hs => by
    obtain ⟨r, hr, e1, e2⟩ := h i s hs
    obtain ⟨r2, hr2, e3, e4⟩ := rds_both P f g h q (i + 1) r hr
    exact ⟨r2, hr2, Ev.bind e1 e3, Ev.bind e2 e4⟩
theorem bkI_eq (p : Pu) (j : Nat) : bkI p.f0 p.f1 p.f2 j = blockB p (j : Int) := by
  unfold bkI blockB lastB
  simp only [tm0]
  cases p.f2 <;> simp
theorem bkS_eq (p : Pu) (hp : okP p) (hw : okWay p.f0 p.f1) : ∀ n : Nat, bkS (firstS p.f0 p.f1 p.f2) n = blockB p (n : Int)
  | 0 => by
    have h1 := first_ev p hp
    rw [first_eq p.f2 hw] at h1
    simp only [Option.some.injEq, Prod.mk.injEq] at h1
    exact h1.1
  | n + 1 => by
    show 1 - bkS _ n = _
    rw [bkS_eq p hp hw n, blockB_next]
    rw [show (n : Int) + 1 = ((n + 1 : Nat) : Int) by omega]
theorem wy_both (p : Pu) (hp : okP p) (hw : okWay p.f0 p.f1) (N : Nat) (hN : N ≤ 8) (last : Int) : ∀ (m : Nat) (way : List S53) (s : List S53 × Int), way.length + m = N → (∀ j (h : j < way.length), way[j].f0 = blockB p (j : Int)) → s.1.length ≤ 8 →
    ∃ r : List S53 × Int, r.1.length ≤ 8 ∧ Ev (fun k => wyO (leafO (cntI k) N last) (hasI k) (bkI p.f0 p.f1 p.f2) (manyI p.f0 p.f1) m way s) r ∧ Ev (fun k => wyO (leafS (cntS k) N last) hasS (bkS (firstS p.f0 p.f1 p.f2)) (manyI p.f0 p.f1) m way s) r
  | 0, way, s, hl, hg, hs => leaf_both p N last way s (by omega) hs hg
  | m + 1, way, s, hl, hg, hs => by
    simp only [wyO]
    rw [bkI_eq, bkS_eq p hp hw]
    refine rds_both (fun s : List S53 × Int => s.1.length ≤ 8) _ _ (fun i s hs => ?_) _ 0 s hs
    have hu := usedS_eq way (blockB p (way.length : Int)) i
    have hc := contains_ev way ⟨blockB p (way.length : Int), i⟩ (by omega)
    cases hb : wF way ⟨blockB p (way.length : Int), i⟩ with
    | true =>
      rw [hb] at hc hu
      refine ⟨s, hs, ?_, ?_⟩
      · simp only [hasI]; exact Ev.bind hc (ev_pos rfl (Ev.now _))
      · simp only [hasS, hu]; exact ev_now rfl (ev_pos rfl (Ev.now _))
    | false =>
      rw [hb] at hc hu
      obtain ⟨r, hr, e1, e2⟩ := wy_both p hp hw N hN last m (way ++ [⟨blockB p (way.length : Int), i⟩]) s (by simp; omega) (fun j hj => by
        simp only [List.length_append, List.length_cons, List.length_nil, Nat.zero_add] at hj
        by_cases g : j < way.length
        · rw [List.getElem_append_left g]; exact hg j g
        · have e : j = way.length := by omega
          subst e
          simp) hs
      refine ⟨r, hr, ?_, ?_⟩
      · simp only [hasI]; exact Ev.bind hc (ev_neg (by simp) e1)
      · simp only [hasS, hu]; exact ev_now rfl (ev_neg (by simp) e2)
theorem best_both (p : Pu) (last : Int) : ∃ (l : List S53) (n c : Int), l.length ≤ 8 ∧ Ev (fun k => impl_bestWay.f k p.f0 p.f1 p.f2 last) (l, (if c = 0 then n else 0), c) ∧ Ev (fun k => spec_l07Best.f k p.f0 p.f1 p.f2 last) (l, n, c) ∧ (c ≠ 0 → l = []) := by
  have v := validPurchase_ev p
  have o : Ev (fun k => spec_l05One_at.f k p.f0 p.f1 p.f2) (decide (okP p)) := by
    simp only [spec_l05One_at.f]
    exact Ev.bind (l05One_ev p) (ev_some rfl)
  by_cases hp : okP p
  · rw [decide_eq_true hp] at v o
    have hw : okWay p.f0 p.f1 := by unfold okWay; unfold okP at hp; omega
    have he : endWay p.f0 p.f1 p.f2 = manyI p.f0 p.f1 (endS p.f2) := by
      unfold endWay
      rw [bkI_eq]
      unfold blockB lastB endS
      rw [if_pos (by unfold okWay at hw; omega)]
    by_cases hr : 0 ≤ last ∧ last ≤ manyI p.f0 p.f1 (endS p.f2) - 1
    · obtain ⟨r, hr8, e1, e2⟩ := wy_both p hp hw (p.f0 + p.f1).toNat (by unfold okP at hp; omega) last (p.f0 + p.f1).toNat [] ([], -1) (by simp) (fun j h => by simp at h) (by simp)
      refine ⟨r.1, r.2, 0, hr8, ?_, ?_, fun h => absurd rfl h⟩
      · simp only [impl_bestWay.f]
        refine Ev.bind v (ev_pos rfl (ev_pos hw ?_))
        rw [he]
        exact ev_pos hr (Ev.bind e1 (ev_some (by simp)))
      · simp only [spec_l07Best.f]
        exact Ev.bind o (ev_pos rfl (ev_pos hw (ev_pos hr (Ev.bind e2 (Ev.now _)))))
    · refine ⟨[], -1, 2, by simp, ?_, ?_, fun _ => rfl⟩
      · simp only [impl_bestWay.f]
        refine Ev.bind v (ev_pos rfl (ev_pos hw ?_))
        rw [he]
        exact ev_neg hr (ev_some (by simp))
      · simp only [spec_l07Best.f]
        exact Ev.bind o (ev_pos rfl (ev_pos hw (ev_neg hr (Ev.now _))))
  · rw [decide_eq_false hp] at v o
    refine ⟨[], -1, 1, by simp, ?_, ?_, fun _ => rfl⟩
    · simp only [impl_bestWay.f]
      exact Ev.bind v (ev_neg (by simp) (ev_some (by simp)))
    · simp only [spec_l07Best.f]
      exact Ev.bind o (ev_neg (by simp) (Ev.now _))

/-- A stop in its turn: its block, a sheave that there is, and none that was there before. -/
def okS (p : Pu) (w : List S53) (j : Nat) (h : j < w.length) : Prop := w[j].f0 = blockB p (j : Int) ∧ (0 ≤ w[j].f1 ∧ w[j].f1 ≤ manyB p (blockB p (j : Int)) - 1) ∧ wF (w.take j) w[j] = false
theorem sFault_l1 (w : List S53) (hn : w.length ≤ 1048576) (b : Int) (hb : b = 0 ∨ b = 1) (p : Pu) (i : Nat) (hi : i < w.length) (r : ByteArray × Int × Int × Int × Bool)
    (h1 : wF (w.take i) w[i] = true → r = ((⟨#[116, 119, 105, 99, 101]⟩ : ByteArray), (i : Int), p.f0, p.f1, p.f2))
    (h2 : wF (w.take i) w[i] = false → Ev (fun k => spec_l07Fault.l0 k w (1 - b) ((i + 1 : Nat) : Int) p.f0 p.f1 p.f2) r) : ∀ (d j : Nat), j + d = i → wF (w.take i) w[i] = wF ((w.take i).drop j) w[i] →
    Ev (fun k => spec_l07Fault.l1 k w b (i : Int) (j : Int) p.f0 p.f1 p.f2 w[i].f0 w[i].f1) r
  | 0, j, hd, hs => by
    refine ev_succ ?_; simp only [spec_l07Fault.l1]
    rw [w64s (i := i) (by omega), w64 (x := 1 - b) (by omega) (by omega)]
    refine ev_neg (by omega) (h2 ?_)
    rw [hs, show (w.take i).drop j = [] by simp; omega]; rfl
  | d + 1, j, hd, hs => by
    have hj : j < (w.take i).length := by simp; omega
    refine ev_succ ?_; simp only [spec_l07Fault.l1]
    rw [rdIStop (show j < w.length by omega), w64s (by omega)]
    rw [wF_drop hj, List.getElem_take] at hs
    refine ev_pos (by omega) (ev_pos (by omega) (ev_pos (by omega) (ev_if (fun h => ev_some ?_) (fun h => ?_))))
    · symm; apply h1; rw [hs, h]; rfl
    · refine sFault_l1 w hn b hb p i hi r h1 h2 d (j + 1) (by omega) ?_
      rw [hs, Bool.eq_false_iff.2 h]; rfl
theorem fault5_l0 (w : List S53) (hn : w.length ≤ 1048576) (p : Pu) (hp : okP p) : ∀ (d i : Nat), i + d = w.length →
    ∃ r : ByteArray × Int, Ev (fun k => spec_l07Fault.l0 k w (blockB p i) (i : Int) p.f0 p.f1 p.f2) (r.1, r.2, p.f0, p.f1, p.f2) ∧ Ev (fun k => impl_wayFault.l0 k w w (w.length : Int) (i : Int) p.f0 p.f1 p.f2) r ∧ (r.1.toList = ([110, 111, 110, 101] : List UInt8) ↔ (∀ j (h : j < w.length), i ≤ j → okS p w j h) ∧ p.f0 + p.f1 ≤ (w.length : Int))
  | 0, i, hd => by
    obtain ⟨g0, g1, g2, _⟩ := hp
    by_cases h : (w.length : Int) < p.f0 + p.f1
    · refine ⟨((⟨#[115, 104, 111, 114, 116]⟩ : ByteArray), (w.length : Int)), ?_, ?_, ⟨fun q => absurd q (show ¬ (⟨#[115, 104, 111, 114, 116]⟩ : ByteArray).toList = ([110, 111, 110, 101] : List UInt8) from by decide +kernel), fun q => by have := q.2; omega⟩⟩
      · refine ev_succ ?_; simp only [spec_l07Fault.l0]; rw [w64 (x := p.f0 + p.f1) (by omega) (by omega)]
        exact ev_neg (by omega) (ev_pos h (Ev.now _))
      · refine ev_succ ?_; simp only [impl_wayFault.l0]; rw [w64 (x := p.f0 + p.f1) (by omega) (by omega)]
        exact ev_neg (by omega) (ev_pos h (Ev.now _))
    · refine ⟨((⟨#[110, 111, 110, 101]⟩ : ByteArray), -1), ?_, ?_, ⟨fun _ => ⟨fun j hj hij => by omega, by omega⟩, fun _ => (show (⟨#[110, 111, 110, 101]⟩ : ByteArray).toList = ([110, 111, 110, 101] : List UInt8) from by decide +kernel)⟩⟩
      · refine ev_succ ?_; simp only [spec_l07Fault.l0]; rw [w64 (x := p.f0 + p.f1) (by omega) (by omega)]
        exact ev_neg (by omega) (ev_neg h (Ev.now _))
      · refine ev_succ ?_; simp only [impl_wayFault.l0]; rw [w64 (x := p.f0 + p.f1) (by omega) (by omega)]
        exact ev_neg (by omega) (ev_neg h (Ev.now _))
  | d + 1, i, hd => by
    have hi : i < w.length := by omega
    obtain ⟨r0, e1, e2, e3⟩ := fault5_l0 w hn p hp d (i + 1) (by omega)
    have b01 := blockB_01 p i
    have ba := blockAt_eq p hp i (by omega) (by omega)
    have bn := blockB_next p i
    rw [show ((i : Int) + 1) = ((i + 1 : Nat) : Int) by omega] at bn
    obtain ⟨g0, g1, g2, _⟩ := hp
    by_cases h : w[i].f0 = blockB p i
    · have es : impl_sheavesAt.f p.f0 p.f1 p.f2 (w[i].f0) = some (manyB p (blockB p i)) := by
        rw [h]; unfold impl_sheavesAt.f manyB
        rcases b01 with q | q <;> rw [q] <;> simp
      have em : spec_l07Many.f p.f0 p.f1 p.f2 (blockB p i) = some (manyB p (blockB p i), p.f0, p.f1, p.f2) := by
        unfold spec_l07Many.f manyB; split <;> rfl
      have mb : 0 ≤ manyB p (blockB p i) ∧ manyB p (blockB p i) ≤ 4 := by unfold manyB; split <;> omega
      by_cases g : 0 ≤ w[i].f1 ∧ w[i].f1 ≤ manyB p (blockB p i) - 1
      · have ec := contains_ev (w.take i) w[i] (by simp; omega)
        by_cases t : wF (w.take i) w[i] = true
        · refine ⟨((⟨#[116, 119, 105, 99, 101]⟩ : ByteArray), (i : Int)), ?_, ?_, ⟨fun q => absurd q (show ¬ (⟨#[116, 119, 105, 99, 101]⟩ : ByteArray).toList = ([110, 111, 110, 101] : List UInt8) from by decide +kernel), fun q => by have z := (q.1 i hi (Nat.le_refl _)).2.2; rw [t] at z; cases z⟩⟩
          · refine ev_succ ?_; simp only [spec_l07Fault.l0]; rw [rdIStop hi]
            refine ev_pos (by omega) (ev_pos (by omega) (ev_pos h (ev_now em ?_)))
            rw [w64 (by omega) (by omega)]
            refine ev_now (l00In_eq _ _ _) (ev_pos (ofd1 g) ?_)
            exact sFault_l1 w hn _ b01 p i hi _ (fun _ => rfl) (fun q => by rw [t] at q; cases q) i 0 (by omega) (by simp)
          · refine ev_succ ?_; simp only [impl_wayFault.l0]; rw [rdIStop hi]
            refine ev_pos (by omega) (ev_pos (by omega) (ev_pos (by omega) (ev_now ba (ev_pos h (ev_now es ?_)))))
            rw [w64 (x := manyB p (blockB p i) - 1) (by omega) (by omega)]
            refine ev_now (within_eq _ _ _) (ev_pos (ofd1 g) (ev_pos (by omega) ?_))
            rw [Int.toNat_natCast]
            exact Ev.bind ec (ev_pos t (Ev.now _))
        · refine ⟨r0, ?_, ?_, e3.trans ⟨fun q => ⟨fun j hj hij => by
            rcases Nat.eq_or_lt_of_le hij with z | z
            · subst z; exact ⟨h, g, Bool.eq_false_iff.mpr t⟩
            · exact q.1 j hj z, q.2⟩, fun q => ⟨fun j hj hij => q.1 j hj (by omega), q.2⟩⟩⟩
          · refine ev_succ ?_; simp only [spec_l07Fault.l0]; rw [rdIStop hi]
            refine ev_pos (by omega) (ev_pos (by omega) (ev_pos h (ev_now em ?_)))
            rw [w64 (by omega) (by omega)]
            refine ev_now (l00In_eq _ _ _) (ev_pos (ofd1 g) ?_)
            exact sFault_l1 w hn _ b01 p i hi _ (fun q => absurd q t) (fun _ => by rw [bn]; exact e1) i 0 (by omega) (by simp)
          · refine ev_succ ?_; simp only [impl_wayFault.l0]; rw [rdIStop hi]
            refine ev_pos (by omega) (ev_pos (by omega) (ev_pos (by omega) (ev_now ba (ev_pos h (ev_now es ?_)))))
            rw [w64 (x := manyB p (blockB p i) - 1) (by omega) (by omega)]
            refine ev_now (within_eq _ _ _) (ev_pos (ofd1 g) (ev_pos (by omega) ?_))
            rw [Int.toNat_natCast, w64s (by omega)]
            exact Ev.bind ec (ev_neg t e2)
      · refine ⟨((⟨#[115, 104, 101, 97, 118, 101]⟩ : ByteArray), (i : Int)), ?_, ?_, ⟨fun q => absurd q (show ¬ (⟨#[115, 104, 101, 97, 118, 101]⟩ : ByteArray).toList = ([110, 111, 110, 101] : List UInt8) from by decide +kernel), fun q => absurd (q.1 i hi (Nat.le_refl _)).2.1 g⟩⟩
        · refine ev_succ ?_; simp only [spec_l07Fault.l0]; rw [rdIStop hi]
          refine ev_pos (by omega) (ev_pos (by omega) (ev_pos h (ev_now em ?_)))
          rw [w64 (by omega) (by omega)]
          exact ev_now (l00In_eq _ _ _) (ev_neg (by rw [decide_eq_true_eq]; exact g) (Ev.now _))
        · refine ev_succ ?_; simp only [impl_wayFault.l0]; rw [rdIStop hi]
          refine ev_pos (by omega) (ev_pos (by omega) (ev_pos (by omega) (ev_now ba (ev_pos h (ev_now es ?_)))))
          rw [w64 (x := manyB p (blockB p i) - 1) (by omega) (by omega)]
          exact ev_now (within_eq _ _ _) (ev_neg (by rw [decide_eq_true_eq]; exact g) (Ev.now _))
    · refine ⟨((⟨#[98, 108, 111, 99, 107]⟩ : ByteArray), (i : Int)), ?_, ?_, ⟨fun q => absurd q (show ¬ (⟨#[98, 108, 111, 99, 107]⟩ : ByteArray).toList = ([110, 111, 110, 101] : List UInt8) from by decide +kernel), fun q => absurd (q.1 i hi (Nat.le_refl _)).1 h⟩⟩
      · refine ev_succ ?_; simp only [spec_l07Fault.l0]; rw [rdIStop hi]
        exact ev_pos (by omega) (ev_pos (by omega) (ev_neg h (Ev.now _)))
      · refine ev_succ ?_; simp only [impl_wayFault.l0]; rw [rdIStop hi]
        exact ev_pos (by omega) (ev_pos (by omega) (ev_pos (by omega) (ev_now ba (ev_neg h (Ev.now _)))))
/-- A whole way: every stop in its turn, and none twice. -/
def okW (p : Pu) (w : List S53) : Prop := (∀ j (h : j < w.length), okS p w j h) ∧ p.f0 + p.f1 ≤ (w.length : Int)
theorem fault5_ev (w : List S53) (hn : w.length ≤ 1048576) (p : Pu) (hp : okP p) :
    ∃ r : ByteArray × Int, Ev (fun k => spec_l07Fault.f k p.f0 p.f1 p.f2 w) (r.1, r.2, p.f0, p.f1, p.f2) ∧ Ev (fun k => impl_wayFault.f k p.f0 p.f1 p.f2 w) r ∧ (r.1.toList = ([110, 111, 110, 101] : List UInt8) ↔ okW p w) := by
  obtain ⟨r, e1, e2, e3⟩ := fault5_l0 w hn p hp w.length 0 (by omega)
  refine ⟨r, ?_, ?_, e3.trans ⟨fun q => ⟨fun j hj => q.1 j hj (by omega), q.2⟩, fun q => ⟨fun j hj _ => q.1 j hj, q.2⟩⟩⟩
  · simp only [spec_l07Fault.f]; exact ev_now (first_ev p hp) e1
  · simp only [impl_wayFault.f]; exact e2
theorem code_ok (p : Pu) (w : List S53) (hn : w.length ≤ 1048576) : ∃ c : Int, Ev (fun k => spec_l07Code.f k p.f0 p.f1 p.f2 w) (c, p.f0, p.f1, p.f2) ∧ Ev (fun k => impl_wayCode.f k p.f0 p.f1 p.f2 w) c ∧ (c = 0 ↔ okP p ∧ okW p w) := by
  have e1 := l05One_ev p
  have e2 := validPurchase_ev p
  by_cases hp : okP p
  · rw [ofd1 hp] at e1 e2
    obtain ⟨r, e3, e4, e5⟩ := fault5_ev w hn p hp
    by_cases q : r.1.toList = ([110, 111, 110, 101] : List UInt8)
    · refine ⟨0, ?_, ?_, ⟨fun _ => ⟨hp, e5.mp q⟩, fun _ => rfl⟩⟩
      · simp only [spec_l07Code.f]; exact Ev.bind e1 (ev_pos (by trivial) (Ev.bind e3 (ev_pos q (Ev.now _))))
      · simp only [impl_wayCode.f]; exact Ev.bind e2 (ev_pos (by trivial) (Ev.bind e4 (ev_pos q (Ev.now _))))
    · refine ⟨8, ?_, ?_, ⟨fun h => absurd h (by decide), fun h => absurd (e5.mpr h.2) q⟩⟩
      · simp only [spec_l07Code.f]; exact Ev.bind e1 (ev_pos (by trivial) (Ev.bind e3 (ev_neg q (Ev.now _))))
      · simp only [impl_wayCode.f]; exact Ev.bind e2 (ev_pos (by trivial) (Ev.bind e4 (ev_neg q (Ev.now _))))
  · rw [ofd hp] at e1 e2
    refine ⟨1, ?_, ?_, ⟨fun h => absurd h (by decide), fun h => absurd h.1 hp⟩⟩
    · simp only [spec_l07Code.f]; exact Ev.bind e1 (ev_neg (by simp) (Ev.now _))
    · simp only [impl_wayCode.f]; exact Ev.bind e2 (ev_neg (by simp) (Ev.now _))

/-- All ways, plainly. -/
def rdsP {σ : Type} (f : Int → σ → σ) : Nat → Int → σ → σ
  | 0, _, s => s
  | m + 1, i, s => rdsP f m (i + 1) (f i s)
def wyP {σ : Type} (leaf : List S53 → σ → σ) (p : Pu) : Nat → List S53 → σ → σ
  | 0, way, s => leaf way s
  | m + 1, way, s => rdsP (fun k s => if wF way ⟨blockB p (way.length : Int), k⟩ = true then s else wyP leaf p m (way ++ [⟨blockB p (way.length : Int), k⟩]) s) (manyI p.f0 p.f1 (blockB p (way.length : Int))).toNat 0 s
theorem rdsP_keep {σ : Type} {P : σ → Prop} {f : Int → σ → σ} : ∀ (m : Nat) (i : Int) (s : σ), (∀ j s, i ≤ j → j < i + m → P s → P (f j s)) → P s → P (rdsP f m i s)
  | 0, _, _, _, h => h
  | m + 1, i, s, h, hs => by
    rw [rdsP]
    exact rdsP_keep m (i + 1) _ (fun j s h1 h2 => h j s (by omega) (by omega)) (h i s (by omega) (by omega) hs)
theorem rdsP_hit {σ : Type} {P : σ → Prop} {f : Int → σ → σ} (h : ∀ j s, P s → P (f j s)) (g : Int) (hg : ∀ s, P (f g s)) : ∀ (m : Nat) (i : Int) (s : σ), i ≤ g → g < i + m → P (rdsP f m i s)
  | 0, i, _, h1, h2 => by omega
  | m + 1, i, s, h1, h2 => by
    rw [rdsP]
    by_cases e : i = g
    · subst e
      exact rdsP_keep m (i + 1) _ (fun j s _ _ => h j s) (hg s)
    · exact rdsP_hit h g hg m (i + 1) _ (by omega) (by omega)
theorem manyIB (p : Pu) (b : Int) (h : b = 0 ∨ b = 1) : manyI p.f0 p.f1 b = manyB p b := by
  rcases h with rfl | rfl <;> simp [manyI, manyB]
theorem okS_app {p : Pu} {way : List S53} {k : Int} (h : ∀ j (hj : j < way.length), okS p way j hj) (h0 : 0 ≤ k) (h1 : k < manyB p (blockB p (way.length : Int))) (hw : wF way ⟨blockB p (way.length : Int), k⟩ = false) :
    ∀ j (hj : j < (way ++ [(⟨blockB p (way.length : Int), k⟩ : S53)]).length), okS p (way ++ [(⟨blockB p (way.length : Int), k⟩ : S53)]) j hj := by
  intro j hj
  have hj' : j < way.length + 1 := by simpa using hj
  by_cases g : j < way.length
  · have hh := h j g
    unfold okS at hh ⊢
    rw [List.getElem_append_left g, List.take_append_of_le_length (by omega)]
    exact hh
  · have e : j = way.length := by omega
    subst e
    unfold okS
    rw [List.getElem_append_right (by omega), List.take_left' rfl]
    simp only [Nat.sub_self, List.getElem_cons_zero]
    exact ⟨by trivial, ⟨h0, by omega⟩, hw⟩
section
variable {σ : Type} {leaf : List S53 → σ → σ} {p : Pu}
theorem wyP_keep {P : σ → Prop} (hl : ∀ way s, P s → P (leaf way s)) : ∀ (m : Nat) (way : List S53) (s : σ), P s → P (wyP leaf p m way s)
  | 0, way, s, h => hl way s h
  | m + 1, way, s, h => by
    rw [wyP]
    refine rdsP_keep _ _ _ (fun j s _ _ hs => ?_) h
    split
    · exact hs
    · exact wyP_keep hl m _ _ hs
theorem wyP_hit {P : σ → Prop} (hl : ∀ way s, P s → P (leaf way s)) (w : List S53) (hw : ∀ j (hj : j < w.length), okS p w j hj) (hh : ∀ s, P (leaf w s)) : ∀ (m i : Nat) (s : σ), i + m = w.length → P (wyP leaf p m (w.take i) s)
  | 0, i, s, hm => by
    rw [wyP, List.take_of_length_le (by omega)]
    exact hh s
  | m + 1, i, s, hm => by
    have hi : i < w.length := by omega
    obtain ⟨h1, h2, h3⟩ := hw i hi
    have hlen : (w.take i).length = i := by simp; omega
    have hx : (⟨blockB p (i : Int), w[i].f1⟩ : S53) = w[i] := by rw [← h1]
    rw [wyP, hlen]
    refine rdsP_hit (fun j s hs => ?_) (w[i].f1) (fun s => ?_) _ _ _ h2.1 ?_
    · split
      · exact hs
      · exact wyP_keep hl m _ _ hs
    · rw [hx, if_neg (by rw [h3]; simp)]
      have e : w.take i ++ [w[i]] = w.take (i + 1) := by rw [List.take_add_one, List.getElem?_eq_getElem hi]; rfl
      rw [e]
      exact wyP_hit hl w hw hh m (i + 1) s (by omega)
    · rw [manyIB p _ (blockB_01 p i)]; omega
theorem wyP_all {Q : σ → Prop} (N : Nat) (hq : ∀ w s, w.length = N → (∀ j (hj : j < w.length), okS p w j hj) → Q s → Q (leaf w s)) : ∀ (m : Nat) (way : List S53) (s : σ), way.length + m = N → (∀ j (hj : j < way.length), okS p way j hj) → Q s → Q (wyP leaf p m way s)
  | 0, way, s, hl, hw, hs => hq way s (by omega) hw hs
  | m + 1, way, s, hl, hw, hs => by
    rw [wyP]
    refine rdsP_keep _ _ _ (fun j s h0 h1 hs => ?_) hs
    split
    · exact hs
    · rename_i c
      rw [manyIB p _ (blockB_01 p _)] at h1
      exact wyP_all N hq m _ s (by simp; omega) (okS_app hw h0 (by omega) (Bool.eq_false_iff.mpr c)) hs
end
def leafP (C : List S53 → Int) (N : Nat) (last : Int) (w : List S53) (s : List S53 × Int) : List S53 × Int :=
  if (rd_T53 w ((N : Int) - 1)).f1 = last ∧ (s.2 < 0 ∨ C w < s.2) then (w, C w) else s
theorem rds_ev {σ : Type} (f : Nat → Int → σ → Option σ) (g : Int → σ → σ) (h : ∀ i s, Ev (fun k => f k i s) (g i s)) : ∀ (q : Nat) (i : Int) (s : σ), Ev (fun k => rdsO (f k) q i s) (rdsP g q i s)
  | 0, i, s => ev_some rfl
  | q + 1, i, s => Ev.bind (h i s) (rds_ev f g h q (i + 1) _)
theorem wyP_ev (p : Pu) (N : Nat) (hN : N ≤ 8) (last : Int) (C : List S53 → Int) (hC : ∀ w : List S53, w.length ≤ 8 → (∀ j (h : j < w.length), w[j].f0 = blockB p (j : Int)) → Ev (fun k => cntI k w) (C w)) : ∀ (m : Nat) (way : List S53) (s : List S53 × Int), way.length + m = N → (∀ j (h : j < way.length), way[j].f0 = blockB p (j : Int)) →
    Ev (fun k => wyO (leafO (cntI k) N last) (hasI k) (bkI p.f0 p.f1 p.f2) (manyI p.f0 p.f1) m way s) (wyP (leafP C N last) p m way s)
  | 0, way, s, hl, hg => by
    simp only [wyO, leafO]
    exact Ev.bind (hC way (by omega) hg) (ev_some rfl)
  | m + 1, way, s, hl, hg => by
    simp only [wyO, wyP]
    rw [bkI_eq]
    refine rds_ev _ _ (fun i s => ?_) _ 0 s
    have hc := contains_ev way ⟨blockB p (way.length : Int), i⟩ (by omega)
    cases hb : wF way ⟨blockB p (way.length : Int), i⟩ with
    | true =>
      rw [hb] at hc
      simp only [hasI]; exact Ev.bind hc (ev_pos rfl (Ev.now _))
    | false =>
      rw [hb] at hc
      simp only [hasI]; refine Ev.bind hc (ev_neg (by simp) ?_)
      rw [if_neg (by simp)]
      exact wyP_ev p N hN last C hC m _ s (by simp; omega) (fun j hj => by
        simp only [List.length_append, List.length_cons, List.length_nil, Nat.zero_add] at hj
        by_cases g : j < way.length
        · rw [List.getElem_append_left g]; exact hg j g
        · have e : j = way.length := by omega
          subst e
          simp)
theorem nodup_le {α : Type} [DecidableEq α] : ∀ (l S : List α), l.Nodup → (∀ x ∈ l, x ∈ S) → l.length ≤ S.length
  | [], _, _, _ => Nat.zero_le _
  | x :: l, S, h, hs => by
    rw [List.nodup_cons] at h
    have hx := hs x (by simp)
    have := nodup_le l (S.erase x) h.2 (fun y hy => (List.mem_erase_of_ne (fun e => h.1 (by rw [← e]; exact hy))).mpr (hs y (by simp [hy])))
    rw [List.length_erase_of_mem hx] at this
    have := List.length_pos_of_mem hx
    simp only [List.length_cons]; omega
/-- A whole way is as long as there are sheaves. -/
theorem okW_len {p : Pu} (hp : okP p) {w : List S53} (h : okW p w) : w.length = (p.f0 + p.f1).toNat := by
  obtain ⟨g0, g1, g2, _⟩ := hp
  have hle : (w.map fun s => (s.f0, s.f1)).length ≤ (((List.range p.f0.toNat).map fun (i : Nat) => ((0 : Int), (i : Int))) ++ ((List.range p.f1.toNat).map fun (i : Nat) => ((1 : Int), (i : Int)))).length := by
    refine nodup_le _ _ ?_ ?_
    · rw [List.Nodup, List.pairwise_iff_getElem]
      intro i j hi hj hij e
      simp only [List.length_map] at hi hj
      simp only [List.getElem_map, Prod.mk.injEq] at e
      have h3 := (h.1 j hj).2.2
      have : wF (w.take j) w[j] = true := by
        unfold wF
        rw [List.any_eq_true]
        refine ⟨w[i], ?_, by simp [e.1, e.2]⟩
        rw [List.mem_iff_getElem]
        exact ⟨i, by simp; omega, by simp⟩
      rw [h3] at this
      cases this
    · intro x hx
      rw [List.mem_map] at hx
      obtain ⟨s, hs, rfl⟩ := hx
      obtain ⟨j, hj, rfl⟩ := List.mem_iff_getElem.mp hs
      obtain ⟨a, b, _⟩ := h.1 j hj
      rw [List.mem_append, List.mem_map, List.mem_map]
      rcases blockB_01 p (j : Int) with q | q
      · rw [q] at a b
        simp only [manyB, if_true] at b
        exact .inl ⟨w[j].f1.toNat, by rw [List.mem_range]; omega, by rw [a]; congr 1; omega⟩
      · rw [q] at a b
        simp only [manyB, show ¬ ((1 : Int) = 0) from by decide, if_false] at b
        exact .inr ⟨w[j].f1.toNat, by rw [List.mem_range]; omega, by rw [a]; congr 1; omega⟩
  have := h.2
  simp only [List.length_map, List.length_append, List.length_range] at hle
  omega
/-- A way that ends at a sheave. -/
def cand (p : Pu) (last : Int) : List S53 :=
  (List.range (p.f0 + p.f1).toNat).map fun (j : Nat) => ⟨blockB p (j : Int), if (((p.f0 + p.f1).toNat - 1 - j) % 2 = 0) then (if j / 2 = ((p.f0 + p.f1).toNat - 1) / 2 then last else if ((j / 2 : Nat) : Int) = last then ((((p.f0 + p.f1).toNat - 1) / 2 : Nat) : Int) else ((j / 2 : Nat) : Int)) else ((j / 2 : Nat) : Int)⟩
instance (p : Pu) (w : List S53) (j : Nat) (h : j < w.length) : Decidable (okS p w j h) := inferInstanceAs (Decidable (_ ∧ _ ∧ _))
instance (p : Pu) (w : List S53) : Decidable (okW p w) := inferInstanceAs (Decidable ((∀ j (h : j < w.length), okS p w j h) ∧ p.f0 + p.f1 ≤ (w.length : Int)))
theorem cand_all : ∀ (F M : Fin 5) (A : Bool) (l : Fin 4), okP ⟨(F.val : Int), (M.val : Int), A⟩ → ((l.val : Int) < manyB ⟨(F.val : Int), (M.val : Int), A⟩ (lastB ⟨(F.val : Int), (M.val : Int), A⟩)) →
    okW ⟨(F.val : Int), (M.val : Int), A⟩ (cand ⟨(F.val : Int), (M.val : Int), A⟩ (l.val : Int)) ∧ (rd_T53 (cand ⟨(F.val : Int), (M.val : Int), A⟩ (l.val : Int)) ((((F.val : Int) + (M.val : Int)).toNat : Int) - 1)).f1 = (l.val : Int) := by decide +kernel
theorem cand_ok {p : Pu} (hp : okP p) {last : Int} (h0 : 0 ≤ last) (h1 : last < manyB p (lastB p)) : okW p (cand p last) ∧ (rd_T53 (cand p last) (((p.f0 + p.f1).toNat : Int) - 1)).f1 = last := by
  obtain ⟨F, M, A⟩ := p
  have g := hp
  obtain ⟨g0, g1, g2, _⟩ := g
  have hm : manyB ⟨F, M, A⟩ (lastB ⟨F, M, A⟩) ≤ 4 := by unfold manyB; split <;> omega
  obtain ⟨a, ha⟩ : ∃ a : Nat, F = (a : Int) := ⟨F.toNat, by have g0 : 0 ≤ F ∧ F ≤ 4 := g0; omega⟩
  obtain ⟨b, hb⟩ : ∃ b : Nat, M = (b : Int) := ⟨M.toNat, by have g1 : 0 ≤ M ∧ M ≤ 4 := g1; omega⟩
  obtain ⟨c, hc⟩ : ∃ c : Nat, last = (c : Int) := ⟨last.toNat, by omega⟩
  subst ha hb hc
  have g0 : 0 ≤ (a : Int) ∧ (a : Int) ≤ 4 := g0
  have g1 : 0 ≤ (b : Int) ∧ (b : Int) ≤ 4 := g1
  exact cand_all ⟨a, by omega⟩ ⟨b, by omega⟩ A ⟨c, by omega⟩ hp h1
/-- The best way: a whole way that ends where it should, and no way that does has fewer crossings. -/
theorem way_best (p : Pu) (hp : okP p) (last : Int) (hr : 0 ≤ last ∧ last < manyB p (lastB p)) (C : List S53 → Int) (hC : ∀ w : List S53, w.length ≤ 8 → (∀ j (h : j < w.length), w[j].f0 = blockB p (j : Int)) → Ev (fun k => cntI k w) (C w)) (hC0 : ∀ w, 0 ≤ C w) :
    ∃ l : List S53, Ev (fun k => impl_bestWay.f k p.f0 p.f1 p.f2 last) (l, C l, 0) ∧ okW p l ∧ (rd_T53 l (((p.f0 + p.f1).toNat : Int) - 1)).f1 = last ∧ ∀ w, okW p w → (rd_T53 w (((p.f0 + p.f1).toNat : Int) - 1)).f1 = last → C l ≤ C w := by
  obtain ⟨N, hN⟩ : ∃ N, N = (p.f0 + p.f1).toNat := ⟨_, rfl⟩
  have hN8 : N ≤ 8 := by have := hp.1; have := hp.2.1; omega
  have hw : okWay p.f0 p.f1 := by unfold okWay; unfold okP at hp; omega
  have e1 := wyP_ev p N hN8 last C hC N [] ([], -1) (by simp) (fun j h => by simp at h)
  have hleaf : ∀ (P : List S53 × Int → Prop), True := fun _ => trivial
  have hit : ∀ w, okW p w → (rd_T53 w ((N : Int) - 1)).f1 = last → 0 ≤ (wyP (leafP C N last) p N [] ([], -1)).2 ∧ (wyP (leafP C N last) p N [] ([], -1)).2 ≤ C w := by
    intro w h hl
    have hlen := okW_len hp h
    have := wyP_hit (leaf := leafP C N last) (p := p) (P := fun s : List S53 × Int => 0 ≤ s.2 ∧ s.2 ≤ C w) (fun way s hs => by
      unfold leafP
      split
      · rename_i c
        have := hC0 way
        show 0 ≤ C way ∧ C way ≤ C w
        omega
      · exact hs) w h.1 (fun s => by
      have := hC0 w
      unfold leafP
      split
      · show 0 ≤ C w ∧ C w ≤ C w
        omega
      · rename_i c
        have : ¬ (s.2 < 0 ∨ C w < s.2) := fun h => c ⟨hl, h⟩
        omega) N 0 ([], -1) (by omega)
    rw [List.take_zero] at this
    exact this
  have hall := wyP_all (leaf := leafP C N last) (p := p) (Q := fun s : List S53 × Int => s.2 < 0 ∨ (okW p s.1 ∧ (rd_T53 s.1 ((N : Int) - 1)).f1 = last ∧ s.2 = C s.1)) N (fun w s hl hok hs => by
    unfold leafP
    split
    · rename_i c
      exact .inr ⟨⟨hok, by show p.f0 + p.f1 ≤ (w.length : Int); have := hp.2.2.1; omega⟩, c.1, rfl⟩
    · exact hs) N [] ([], -1) (by simp) (fun j h => by simp at h) (.inl (by decide))
  obtain ⟨c1, c2⟩ := cand_ok hp hr.1 hr.2
  rw [← hN] at c2 ⊢
  have hpos := (hit _ c1 c2).1
  generalize wyP (leafP C N last) p N [] ([], -1) = R at *
  rcases hall with h | ⟨h1, h2, h3⟩
  · omega
  · refine ⟨R.1, ?_, h1, h2, fun w hw hl => by rw [← h3]; exact (hit w hw hl).2⟩
    have he : endWay p.f0 p.f1 p.f2 = manyB p (lastB p) := by
      unfold endWay
      rw [bkI_eq]
      have e : blockB p (((p.f0 + p.f1 - 1).toNat : Nat) : Int) = lastB p := by
        unfold blockB
        rw [if_pos (by have := hp.2.2.1; omega)]
      rw [e]
      exact manyIB p _ (by unfold lastB; split <;> simp)
    simp only [impl_bestWay.f]
    have v := validPurchase_ev p
    rw [decide_eq_true hp] at v
    refine Ev.bind v (ev_pos rfl (ev_pos hw ?_))
    rw [he, ← hN]
    exact ev_pos (by omega) (Ev.bind e1 (ev_some (by rw [← h3])))

theorem more_l1 (t : Bool) (ps : List (List Int)) (hp : ∀ x ∈ ps, x.length = 2) (hn : ps.length ≤ 1048576) (i : Nat) (hi : i < ps.length) (D : Nat)
    (next : ∀ (l : List S74), l.length + D * ps.length ≤ 2199023255552 → ∃ M : List S74, Ev (fun k => impl_crossings.l0 k t l ps ps (ps.length : Int) (((i + 1 : Nat) : Int))) (l ++ M)) :
    ∀ (d j : Nat) (l : List S74), j + d = ps.length → l.length + d + D * ps.length ≤ 2199023255552 →
    ∃ M : List S74, Ev (fun k => impl_crossings.l1 k t l ps (i : Int) ps[i] (j : Int) ps (ps.length : Int) (i : Int)) (l ++ M)
  | 0, j, l, hd, hb => by
    obtain ⟨M, e2⟩ := next l (by omega)
    refine ⟨M, ev_succ ?_⟩
    simp only [impl_crossings.l1]
    rw [w64s (i := i) (by omega)]
    exact ev_neg (by omega) e2
  | d + 1, j, l, hd, hb => by
    have hj : j < ps.length := by omega
    have li := hp _ (List.getElem_mem hi)
    have lj := hp _ (List.getElem_mem hj)
    by_cases h : crP t ps[i] ps[j]
    · obtain ⟨M, e2⟩ := more_l1 t ps hp hn i hi D next d (j + 1) (l ++ [⟨(i : Int), (j : Int)⟩]) (by omega) (by simp; omega)
      rw [List.append_assoc] at e2
      refine ⟨[⟨(i : Int), (j : Int)⟩] ++ M, ev_succ ?_⟩
      simp only [impl_crossings.l1]
      rw [w64s (i := j) (by omega), rdL hj]
      refine ev_pos (by omega) (ev_pos (by omega) (ev_pos (by omega) (ev_pos (by omega) (ev_pos (by omega) (ev_pos (by omega) ?_)))))
      unfold crP at h
      cases t with
      | true =>
        simp only [if_true] at h
        exact ev_neg (by omega) (ev_pos h (ev_pos (by trivial) (ev_pos (by omega) e2)))
      | false =>
        simp only [Bool.false_eq_true, if_false] at h
        exact ev_pos h (ev_neg (by simp) (ev_pos (by omega) e2))
    · obtain ⟨M, e2⟩ := more_l1 t ps hp hn i hi D next d (j + 1) l (by omega) (by omega)
      refine ⟨M, ev_succ ?_⟩
      simp only [impl_crossings.l1]
      rw [w64s (i := j) (by omega), rdL hj]
      refine ev_pos (by omega) (ev_pos (by omega) (ev_pos (by omega) (ev_pos (by omega) (ev_pos (by omega) (ev_pos (by omega) ?_)))))
      unfold crP at h
      cases t with
      | true =>
        simp only [if_true] at h
        exact ev_if (fun _ => ev_pos (by trivial) (ev_neg h e2)) (fun _ => ev_neg h e2)
      | false =>
        simp only [Bool.false_eq_true, if_false] at h
        exact ev_neg h (ev_if (fun _ => ev_neg (by simp) e2) (fun _ => e2))
theorem more_l0 (t : Bool) (ps : List (List Int)) (hp : ∀ x ∈ ps, x.length = 2) (hn : ps.length ≤ 1048576) : ∀ (D i : Nat) (l : List S74), i + D = ps.length → l.length + D * ps.length ≤ 2199023255552 →
    ∃ M : List S74, Ev (fun k => impl_crossings.l0 k t l ps ps (ps.length : Int) (i : Int)) (l ++ M)
  | 0, i, l, hd, hb => by
    refine ⟨[], ev_succ ?_⟩
    simp only [impl_crossings.l0]
    rw [List.append_nil]
    exact ev_neg (by omega) (Ev.now _)
  | D + 1, i, l, hd, hb => by
    have hi : i < ps.length := by omega
    rw [Nat.add_mul, Nat.one_mul] at hb
    obtain ⟨M, e2⟩ := more_l1 t ps hp hn i hi D (fun l' h2 => more_l0 t ps hp hn D (i + 1) l' (by omega) h2) (ps.length - (i + 1)) (i + 1) l (by omega) (by omega)
    refine ⟨M, ev_succ ?_⟩
    simp only [impl_crossings.l0]
    rw [w64s (i := i) (by omega), rdL hi]
    exact ev_pos (by omega) (ev_pos (by omega) (ev_pos (by omega) e2))
def resF : List S74 → Int × Int × Int
  | [] => (0, 0, 3)
  | x :: _ => (x.f0, x.f1, 0)
theorem first_l1 (t : Bool) (ps : List (List Int)) (hp : ∀ x ∈ ps, x.length = 2) (hn : ps.length ≤ 1048576) (i : Nat) (hi : i < ps.length) (D : Nat) (hD : i + 1 + D = ps.length)
    (hb : 2 * ps.length + D * ps.length ≤ 2199023255552)
    (next : ∃ L : List S74, Ev (fun k => spec_FirstCrossing.l0 k t ps (((i + 1 : Nat) : Int))) (resF L) ∧ Ev (fun k => impl_crossings.l0 k t [] ps ps (ps.length : Int) (((i + 1 : Nat) : Int))) L) :
    ∀ (d j : Nat), j + d = ps.length →
    ∃ L : List S74, Ev (fun k => spec_FirstCrossing.l1 k t ps (i : Int) (j : Int)) (resF L) ∧ Ev (fun k => impl_crossings.l1 k t [] ps (i : Int) ps[i] (j : Int) ps (ps.length : Int) (i : Int)) L
  | 0, j, hd => by
    obtain ⟨L, e1, e2⟩ := next
    refine ⟨L, ev_succ ?_, ev_succ ?_⟩
    · simp only [spec_FirstCrossing.l1]
      rw [w64s (i := i) (by omega)]
      exact ev_neg (by omega) e1
    · simp only [impl_crossings.l1]
      rw [w64s (i := i) (by omega)]
      exact ev_neg (by omega) e2
  | d + 1, j, hd => by
    have hj : j < ps.length := by omega
    have li := hp _ (List.getElem_mem hi)
    have lj := hp _ (List.getElem_mem hj)
    have ec := cross_eq ps[i] ps[j] t li lj
    by_cases h : crP t ps[i] ps[j]
    · obtain ⟨M, e2⟩ := more_l1 t ps hp hn i hi D (fun l' h2 => more_l0 t ps hp hn D (i + 1) l' (by omega) h2) d (j + 1) [⟨(i : Int), (j : Int)⟩] (by omega) (by simp; omega)
      refine ⟨[⟨(i : Int), (j : Int)⟩] ++ M, ev_succ ?_, ev_succ ?_⟩
      · simp only [spec_FirstCrossing.l1]
        rw [rdL hi, rdL hj]
        exact ev_pos (by omega) (ev_pos (by omega) (ev_pos (by omega) (ev_pos (by omega) (ev_now ec (ev_pos (decide_eq_true h) (ev_some rfl))))))
      · simp only [impl_crossings.l1]
        rw [w64s (i := j) (by omega), rdL hj]
        refine ev_pos (by omega) (ev_pos (by omega) (ev_pos (by omega) (ev_pos (by omega) (ev_pos (by omega) (ev_pos (by omega) ?_)))))
        unfold crP at h
        cases t with
        | true =>
          simp only [if_true] at h
          exact ev_neg (by omega) (ev_pos h (ev_pos (by trivial) (ev_pos (by simp) e2)))
        | false =>
          simp only [Bool.false_eq_true, if_false] at h
          exact ev_pos h (ev_neg (by simp) (ev_pos (by simp) e2))
    · obtain ⟨L, e1, e2⟩ := first_l1 t ps hp hn i hi D hD hb next d (j + 1) (by omega)
      refine ⟨L, ev_succ ?_, ev_succ ?_⟩
      · simp only [spec_FirstCrossing.l1]
        rw [w64s (i := j) (by omega), rdL hi, rdL hj]
        exact ev_pos (by omega) (ev_pos (by omega) (ev_pos (by omega) (ev_pos (by omega) (ev_now ec (ev_neg (by rw [decide_eq_true_eq]; exact h) e1)))))
      · simp only [impl_crossings.l1]
        rw [w64s (i := j) (by omega), rdL hj]
        refine ev_pos (by omega) (ev_pos (by omega) (ev_pos (by omega) (ev_pos (by omega) (ev_pos (by omega) (ev_pos (by omega) ?_)))))
        unfold crP at h
        cases t with
        | true =>
          simp only [if_true] at h
          exact ev_if (fun _ => ev_pos (by trivial) (ev_neg h e2)) (fun _ => ev_neg h e2)
        | false =>
          simp only [Bool.false_eq_true, if_false] at h
          exact ev_neg h (ev_if (fun _ => ev_neg (by simp) e2) (fun _ => e2))
theorem first_l0 (t : Bool) (ps : List (List Int)) (hp : ∀ x ∈ ps, x.length = 2) (hn : ps.length ≤ 1048576) : ∀ (D i : Nat), i + D = ps.length → 2 * ps.length + D * ps.length ≤ 2199023255552 →
    ∃ L : List S74, Ev (fun k => spec_FirstCrossing.l0 k t ps (i : Int)) (resF L) ∧ Ev (fun k => impl_crossings.l0 k t [] ps ps (ps.length : Int) (i : Int)) L
  | 0, i, hd, hb => by
    refine ⟨[], ev_succ ?_, ev_succ ?_⟩
    · simp only [spec_FirstCrossing.l0]; exact ev_neg (by omega) (ev_some rfl)
    · simp only [impl_crossings.l0]; exact ev_neg (by omega) (Ev.now _)
  | D + 1, i, hd, hb => by
    have hi : i < ps.length := by omega
    rw [Nat.add_mul, Nat.one_mul] at hb
    obtain ⟨L, e1, e2⟩ := first_l1 t ps hp hn i hi D (by omega) (by omega) (first_l0 t ps hp hn D (i + 1) (by omega) (by omega)) (ps.length - (i + 1)) (i + 1) (by omega)
    refine ⟨L, ev_succ ?_, ev_succ ?_⟩
    · simp only [spec_FirstCrossing.l0]
      rw [w64s (i := i) (by omega)]
      exact ev_pos (by omega) e1
    · simp only [impl_crossings.l0]
      rw [w64s (i := i) (by omega), rdL hi]
      exact ev_pos (by omega) (ev_pos (by omega) (ev_pos (by omega) e2))

theorem next_ev (c : List Int) (at_ sd : Int) (m : Nat) (h : Sr c at_ (m + 1)) :
    ∃ r a' s', spec_l00Src_next.f c at_ sd = some (r, a', s') ∧ 0 ≤ r ∧ r ≤ 255 ∧ Sr c a' m := by
  obtain ⟨h1, h2, h3⟩ := h
  have e : wrap64 (at_ + 1) = at_ + 1 := w64 (by omega) (by omega)
  have hs : Sr c (at_ + 1) m := ⟨h1, by omega, by omega⟩
  unfold spec_l00Src_next.f
  rw [e]
  by_cases hl : at_ < (c.length : Int)
  · rw [if_pos hl, if_pos h2, if_pos (by omega)]
    have := h1 _ (rd_mem h2 hl)
    rw [w64 (by omega) (by omega)]
    exact ⟨_, _, _, rfl, this.1, this.2, hs⟩
  · rw [if_neg hl, if_neg (by omega)]
    have := and255 (IntKind.u64.wrap (IntKind.u64.wrap (sd * 6364136223846793005)) + 1442695040888963407)
    refine ⟨_, _, _, rfl, ?_, ?_, hs⟩
    · rw [w64 (by omega) (by omega)]; exact this.1
    · rw [w64 (by omega) (by omega)]; exact this.2
theorem pick_ev (c : List Int) (at_ sd n : Int) (m : Nat) (h : Sr c at_ (m + 2)) :
    ∃ r a' s', spec_l00Src_pick.f c at_ sd n = some (r, a', s') ∧ 0 ≤ r ∧ (n ≤ 1 ∧ r = 0 ∨ 1 < n ∧ r < n) ∧ Sr c a' m := by
  unfold spec_l00Src_pick.f
  by_cases h1 : n ≤ 1
  · rw [if_pos h1]; exact ⟨_, _, _, rfl, by omega, .inl ⟨h1, rfl⟩, h.less (by omega)⟩
  · rw [if_neg h1]
    obtain ⟨r, a', s', e, r0, r1, hs⟩ := next_ev c at_ sd (m + 1) h
    rw [e]; simp only [Option.bind_some]
    by_cases h2 : n > 200
    · rw [if_pos h2]
      obtain ⟨q, b', t', e', q0, q1, hs'⟩ := next_ev c a' s' m hs
      rw [e']; simp only [Option.bind_some]
      rw [if_neg (by omega), w64 (x := r * 256) (by omega) (by omega), w64 (x := r * 256 + q) (by omega) (by omega)]
      exact ⟨_, _, _, rfl, Int.tmod_nonneg _ (by omega), .inr ⟨by omega, Int.tmod_lt_of_pos _ (by omega)⟩, hs'⟩
    · rw [if_neg h2, if_neg (by omega)]
      exact ⟨_, _, _, rfl, Int.tmod_nonneg _ (by omega), .inr ⟨by omega, Int.tmod_lt_of_pos _ (by omega)⟩, hs.less (by omega)⟩

theorem among_ev (c : List Int) (at_ sd : Int) (m : Nat) (h : Sr c at_ (m + 2)) (l : List Int) (hl : 1 ≤ l.length) :
    ∃ r a' s', spec_l00Src_among.f c at_ sd l = some (r, a', s') ∧ r ∈ l ∧ Sr c a' m := by
  obtain ⟨r, a', s', e, r0, r1, hs⟩ := pick_ev c at_ sd (l.length : Int) m h
  have hr : r < (l.length : Int) := by omega
  unfold spec_l00Src_among.f
  rw [e, Option.bind_some, if_pos r0, if_pos hr]
  exact ⟨_, _, _, rfl, rd_mem r0 hr, hs⟩
theorem new_ev (c : List Int) (at_ sd : Int) (m : Nat) (h : Sr c at_ (m + 4)) :
    ∃ x y z a' s', spec_l05New.f c at_ sd = some (x, y, z, a', s') ∧ Sr c a' m := by
  obtain ⟨r, a', s', e, r0, r1, hs⟩ := pick_ev c at_ sd 8 (m + 2) h
  obtain ⟨q, b', t', e', q0, q1, hs'⟩ := pick_ev c a' s' 2 m hs
  unfold spec_l05New.f spec_l00Src_one.f
  rw [e, Option.bind_some, e', Option.bind_some, Option.bind_some]
  by_cases hq : (q == 0) = true
  · rw [if_pos hq]; exact ⟨_, _, _, _, _, rfl, hs'⟩
  · rw [if_neg hq]; exact ⟨_, _, _, _, _, rfl, hs'⟩
theorem drawT_l0 (c : List Int) (m : Nat) : ∀ (d : Nat) (out : List S26) (at_ sd : Int), out.length + d ≤ 100 → Sr c at_ (m + 4 * d) →
    ∃ (t : List S26) (a' s' : Int), Ev (fun k => spec_l05Draw.l0 k out (d : Int) c at_ sd) (t, a', s') ∧ t.length = out.length + d ∧ Sr c a' m
  | 0, out, at_, sd, _, hs => by
    refine ⟨out, at_, sd, ev_succ ?_, by omega, hs⟩
    simp only [spec_l05Draw.l0]
    exact ev_neg (by omega) (Ev.now _)
  | d + 1, out, at_, sd, h1, hs => by
    obtain ⟨x, y, z, a', s', e, hs'⟩ := new_ev c at_ sd (m + 4 * d) (hs.less (by omega))
    obtain ⟨t, a2, s2, e2, e3, e4⟩ := drawT_l0 c m d (out ++ [⟨x, y, z⟩]) a' s' (by simp; omega) hs'
    refine ⟨t, a2, s2, ev_succ ?_, by simp at e3; omega, e4⟩
    simp only [spec_l05Draw.l0]
    rw [w64 (x := ((d + 1 : Nat) : Int) - 1) (by omega) (by omega), show ((d + 1 : Nat) : Int) - 1 = (d : Int) by omega]
    exact ev_pos (by omega) (ev_now e (ev_pos (by omega) e2))
theorem drawT_ev (c : List Int) (m : Nat) (at_ sd : Int) (h : Sr c at_ (m + 14)) :
    ∃ (t : List S26) (a' s' : Int), Ev (fun k => spec_l05Draw.f k c at_ sd) (t, a', s') ∧ (1 ≤ t.length ∧ t.length ≤ 3) ∧ Sr c a' m := by
  obtain ⟨r, a', s', e, r0, r1, hs⟩ := pick_ev c at_ sd 3 (m + 12) h
  obtain ⟨d, hd⟩ : ∃ d : Nat, 1 + r = (d : Int) := ⟨(1 + r).toNat, by omega⟩
  obtain ⟨t, a2, s2, e2, e3, e4⟩ := drawT_l0 c m d [] a' s' (by simp; omega) (hs.less (by omega))
  refine ⟨t, a2, s2, ?_, by simp at e3; omega, e4⟩
  simp only [spec_l05Draw.f]
  refine ev_now e ?_
  rw [w64 (x := 1 + r) (by omega) (by omega), hd]
  exact e2
theorem bentT_l0 (c : List Int) (m : Nat) : ∀ (d : Nat) (out : List S26) (at_ sd : Int), out.length + d ≤ 100 → Sr c at_ (m + 4 * d) →
    ∃ (t : List S26) (a' s' : Int), Ev (fun k => spec_l05Bent.l0 k out (d : Int) c at_ sd) (t, a', s') ∧ t.length = out.length + d ∧ Sr c a' m
  | 0, out, at_, sd, _, hs => by
    refine ⟨out, at_, sd, ev_succ ?_, by omega, hs⟩
    simp only [spec_l05Bent.l0]
    exact ev_neg (by omega) (Ev.now _)
  | d + 1, out, at_, sd, h1, hs => by
    obtain ⟨x, y, z, a', s', e, hs'⟩ := new_ev c at_ sd (m + 4 * d) (hs.less (by omega))
    obtain ⟨t, a2, s2, e2, e3, e4⟩ := bentT_l0 c m d (out ++ [⟨x, y, z⟩]) a' s' (by simp; omega) hs'
    refine ⟨t, a2, s2, ev_succ ?_, by simp at e3; omega, e4⟩
    simp only [spec_l05Bent.l0]
    rw [w64 (x := ((d + 1 : Nat) : Int) - 1) (by omega) (by omega), show ((d + 1 : Nat) : Int) - 1 = (d : Int) by omega]
    exact ev_pos (by omega) (ev_now e (ev_pos (by omega) e2))
theorem bentT_ev (c : List Int) (m : Nat) (at_ sd : Int) (h : Sr c at_ (m + 60)) :
    ∃ (t : List S26) (a' s' : Int), Ev (fun k => spec_l05Bent.f k c at_ sd) (t, a', s') ∧ t.length ≤ 7 ∧ Sr c a' m := by
  obtain ⟨t, a1, s1, e1, l1, h1⟩ := drawT_ev c (m + 46) at_ sd h
  obtain ⟨i, a2, s2, e2, i0, i1, h2⟩ := pick_ev c a1 s1 (t.length : Int) (m + 44) h1
  obtain ⟨q, a3, s3, e3, q0, q1, h3⟩ := pick_ev c a2 s2 16 (m + 42) h2
  have hi : i < (t.length : Int) := by omega
  simp only [spec_l05Bent.f]
  by_cases c0 : q = 0
  · obtain ⟨z, a4, s4, e4, _, h4⟩ := among_ev c a3 s3 (m + 40) h3 [(-1), 0, 4, 5, (-9223372036854775808)] (by simp)
    exact ⟨_, _, _, Ev.bind e1 (ev_now e2 (ev_pos i0 (ev_pos hi (ev_now e3 (ev_pos c0 (ev_now e4 (Ev.now _))))))), by simp; omega, h4.less (by omega)⟩
  by_cases c1 : q = 1
  · obtain ⟨z, a4, s4, e4, _, h4⟩ := among_ev c a3 s3 (m + 40) h3 [(-1), 0, 4, 5] (by simp)
    exact ⟨_, _, _, Ev.bind e1 (ev_now e2 (ev_pos i0 (ev_pos hi (ev_now e3 (ev_neg c0 (ev_pos c1 (ev_now e4 (Ev.now _)))))))), by simp; omega, h4.less (by omega)⟩
  by_cases c2 : q = 2
  · exact ⟨_, _, _, Ev.bind e1 (ev_now e2 (ev_pos i0 (ev_pos hi (ev_now e3 (ev_neg c0 (ev_neg c1 (ev_pos c2 (Ev.now _)))))))), by simp; omega, h3.less (by omega)⟩
  by_cases c3 : q = 3
  · obtain ⟨z, a4, s4, e4, hz, h4⟩ := among_ev c a3 s3 (m + 40) h3 [0, 6, 7] (by simp)
    obtain ⟨d, hd, hd7⟩ : ∃ d : Nat, z = (d : Int) ∧ d ≤ 7 := by
      simp at hz
      rcases hz with rfl | rfl | rfl
      · exact ⟨0, rfl, by omega⟩
      · exact ⟨6, rfl, by omega⟩
      · exact ⟨7, rfl, by omega⟩
    obtain ⟨u, a5, s5, e5, l5, h5⟩ := bentT_l0 c m d [] a4 s4 (by simp; omega) (h4.less (by omega))
    rw [← hd] at e5
    exact ⟨_, _, _, Ev.bind e1 (ev_now e2 (ev_pos i0 (ev_pos hi (ev_now e3 (ev_neg c0 (ev_neg c1 (ev_neg c2 (ev_pos c3 (ev_now e4 e5))))))))), by simp at l5; omega, h5⟩
  exact ⟨_, _, _, Ev.bind e1 (ev_now e2 (ev_pos i0 (ev_pos hi (ev_now e3 (ev_neg c0 (ev_neg c1 (ev_neg c2 (ev_neg c3 (Ev.now _))))))))), by show t.length ≤ 7; omega, h3.less (by omega)⟩
theorem plainS_l0 (p : Pu) (hp : okP p) : ∀ (d i : Nat) (out : List S53) (n0 n1 : Int), ((i + d : Nat) : Int) = p.f0 + p.f1 → out.length = i → (0 ≤ n0 ∧ n0 ≤ i) → (0 ≤ n1 ∧ n1 ≤ i) →
    ∃ r : List S53, (r.length : Int) = p.f0 + p.f1 ∧ Ev (fun k => spec_PlainWay.l0 k out [n0, n1] (blockB p (i : Int)) p.f0 p.f1 p.f2) (r, 0)
  | 0, i, out, n0, n1, hd, ho, h0, h1 => by
    obtain ⟨g0, g1, g2, _⟩ := hp
    refine ⟨out, by omega, ev_succ ?_⟩
    simp only [spec_PlainWay.l0]
    rw [w64 (x := p.f0 + p.f1) (by omega) (by omega)]
    exact ev_neg (by omega) (Ev.now _)
  | d + 1, i, out, n0, n1, hd, ho, h0, h1 => by
    have b01 := blockB_01 p (i : Int)
    have bn := blockB_next p (i : Int)
    rw [show ((i : Int) + 1) = ((i + 1 : Nat) : Int) by omega] at bn
    have hp' := hp
    obtain ⟨g0, g1, g2, _⟩ := hp
    rcases b01 with q | q
    · obtain ⟨r, hr, e1⟩ := plainS_l0 p hp' d (i + 1) (out ++ [⟨0, n0⟩]) (n0 + 1) n1 (by omega) (by simp; omega) (by omega) (by omega)
      rw [← bn] at e1
      rw [q] at e1 ⊢
      refine ⟨r, hr, ev_succ ?_⟩
      simp only [spec_PlainWay.l0]
      rw [w64 (x := p.f0 + p.f1) (by omega) (by omega), show rd [n0, n1] 0 = n0 from rfl, w64 (x := n0 + 1) (by omega) (by omega), w64 (x := 1 - 0) (by omega) (by omega)]
      exact ev_pos (by omega) (ev_pos (by omega) (ev_pos (by simp) (ev_pos (by omega) e1)))
    · obtain ⟨r, hr, e1⟩ := plainS_l0 p hp' d (i + 1) (out ++ [⟨1, n1⟩]) n0 (n1 + 1) (by omega) (by simp; omega) (by omega) (by omega)
      rw [← bn] at e1
      rw [q] at e1 ⊢
      refine ⟨r, hr, ev_succ ?_⟩
      simp only [spec_PlainWay.l0]
      rw [w64 (x := p.f0 + p.f1) (by omega) (by omega), show rd [n0, n1] 1 = n1 from rfl, w64 (x := n1 + 1) (by omega) (by omega), w64 (x := 1 - 1) (by omega) (by omega)]
      exact ev_pos (by omega) (ev_pos (by omega) (ev_pos (by simp) (ev_pos (by omega) e1)))
theorem plainS_ev (p : Pu) : (∃ r : List S53, (1 ≤ r.length ∧ r.length ≤ 8) ∧ Ev (fun k => spec_PlainWay.f k p.f0 p.f1 p.f2) (r, 0)) ∨ Ev (fun k => spec_PlainWay.f k p.f0 p.f1 p.f2) ([], 1) := by
  have e1 := l05One_ev p
  by_cases hp : okP p
  · rw [decide_eq_true hp] at e1
    have g := hp
    obtain ⟨g0, g1, g2, _⟩ := g
    obtain ⟨r, hr, e2⟩ := plainS_l0 p hp (p.f0 + p.f1).toNat 0 [] 0 0 (by omega) rfl (by omega) (by omega)
    refine .inl ⟨r, by omega, ?_⟩
    simp only [spec_PlainWay.f]
    exact Ev.bind e1 (ev_pos rfl (ev_now (first_ev p hp) e2))
  · rw [decide_eq_false hp] at e1
    refine .inr ?_
    simp only [spec_PlainWay.f]
    exact Ev.bind e1 (ev_neg (by simp) (Ev.now _))
theorem drawW_l0 (c : List Int) (m : Nat) : ∀ (d : Nat) (way : List S53) (at_ sd : Int), d ≤ 10 → (1 ≤ way.length ∧ way.length ≤ 8) → Sr c at_ (m + 4 + 4 * d) →
    ∃ (t : List S53) (a' s' : Int), Ev (fun k => spec_l07Draw.l0 k way (d : Int) c at_ sd) (t, a', s') ∧ t.length ≤ 9 ∧ Sr c a' m
  | 0, way, at_, sd, _, hl, hs => by
    obtain ⟨q, a1, s1, e1, q0, q1, h1⟩ := pick_ev c at_ sd 16 (m + 2) (hs.less (by omega))
    have hlast : wrap64 ((way.length : Int) - 1) = (way.length : Int) - 1 := w64 (by omega) (by omega)
    by_cases c0 : q = 0
    · obtain ⟨z, a2, s2, e2, z0, z1, h2⟩ := pick_ev c a1 s1 (way.length : Int) m h1
      refine ⟨way.take z.toNat, a2, s2, ev_succ ?_, ?_, h2⟩
      · simp only [spec_l07Draw.l0]
        exact ev_neg (by omega) (ev_now e1 (ev_pos c0 (ev_now e2 (ev_pos z0 (ev_pos (by omega) (Ev.now _))))))
      · rw [List.length_take]; omega
    by_cases c1 : q = 1
    · refine ⟨way ++ [⟨wrap64 (1 - (rd_T53 way (wrap64 ((way.length : Int) - 1))).f0), 0⟩], a1, s1, ev_succ ?_, ?_, h1.less (by omega)⟩
      · simp only [spec_l07Draw.l0]
        exact ev_neg (by omega) (ev_now e1 (ev_neg c0 (ev_pos c1 (ev_pos (by omega) (ev_pos (by omega) (ev_pos (by omega) (Ev.now _)))))))
      · simp; omega
    by_cases c2 : q = 2
    · obtain ⟨z, a2, s2, e2, _, h2⟩ := among_ev c a1 s1 m h1 [(-1), 0, 1, 2] (by simp)
      refine ⟨way.set (0 : Int).toNat ⟨z, (rd_T53 way 0).f1⟩, a2, s2, ev_succ ?_, ?_, h2⟩
      · simp only [spec_l07Draw.l0]
        exact ev_neg (by omega) (ev_now e1 (ev_neg c0 (ev_neg c1 (ev_pos c2 (ev_now e2 (ev_pos (by omega) (Ev.now _)))))))
      · simp; omega
    by_cases c3 : q = 3
    · obtain ⟨z, a2, s2, e2, _, h2⟩ := among_ev c a1 s1 m h1 [(-1), 0, 3, 4, (-9223372036854775808)] (by simp)
      refine ⟨way.set (0 : Int).toNat ⟨(rd_T53 way 0).f0, z⟩, a2, s2, ev_succ ?_, ?_, h2⟩
      · simp only [spec_l07Draw.l0]
        exact ev_neg (by omega) (ev_now e1 (ev_neg c0 (ev_neg c1 (ev_neg c2 (ev_pos c3 (ev_now e2 (ev_pos (by omega) (Ev.now _))))))))
      · simp; omega
    · refine ⟨way, a1, s1, ev_succ ?_, ?_, h1.less (by omega)⟩
      · simp only [spec_l07Draw.l0]
        exact ev_neg (by omega) (ev_now e1 (ev_neg c0 (ev_neg c1 (ev_neg c2 (ev_neg c3 (Ev.now _))))))
      · omega
  | d + 1, way, at_, sd, hd, hl, hs => by
    obtain ⟨i, a1, s1, e1, i0, i1, h1⟩ := pick_ev c at_ sd (way.length : Int) (m + 4 + 4 * d + 2) (hs.less (by omega))
    obtain ⟨j, a2, s2, e2, j0, j1, h2⟩ := pick_ev c a1 s1 (way.length : Int) (m + 4 + 4 * d) h1
    have hi : i < (way.length : Int) := by omega
    have hj : j < (way.length : Int) := by omega
    by_cases hb : (rd_T53 way i).f0 = (rd_T53 way j).f0
    · obtain ⟨t, a3, s3, e3, l3, h3⟩ := drawW_l0 c m d ((way.set i.toNat ⟨(rd_T53 way j).f0, (rd_T53 way j).f1⟩).set j.toNat ⟨(rd_T53 way i).f0, (rd_T53 way i).f1⟩) a2 s2 (by omega) (by simp; omega) h2
      refine ⟨t, a3, s3, ev_succ ?_, l3, h3⟩
      simp only [spec_l07Draw.l0]
      rw [w64 (x := ((d + 1 : Nat) : Int) - 1) (by omega) (by omega), show ((d + 1 : Nat) : Int) - 1 = (d : Int) by omega]
      exact ev_pos (by omega) (ev_now e1 (ev_now e2 (ev_pos i0 (ev_pos hi (ev_pos j0 (ev_pos hj (ev_pos hb e3)))))))
    · obtain ⟨t, a3, s3, e3, l3, h3⟩ := drawW_l0 c m d way a2 s2 (by omega) hl h2
      refine ⟨t, a3, s3, ev_succ ?_, l3, h3⟩
      simp only [spec_l07Draw.l0]
      rw [w64 (x := ((d + 1 : Nat) : Int) - 1) (by omega) (by omega), show ((d + 1 : Nat) : Int) - 1 = (d : Int) by omega]
      exact ev_pos (by omega) (ev_now e1 (ev_now e2 (ev_pos i0 (ev_pos hi (ev_pos j0 (ev_pos hj (ev_neg hb e3)))))))
theorem drawW_ev (c : List Int) (m : Nat) (at_ sd : Int) (p : Pu) (h : Sr c at_ (m + 30)) :
    ∃ (t : List S53) (a' s' : Int), Ev (fun k => spec_l07Draw.f k c at_ sd p.f0 p.f1 p.f2) (t, a', s') ∧ t.length ≤ 9 ∧ Sr c a' m := by
  rcases plainS_ev p with ⟨r, hr, e0⟩ | e0
  · obtain ⟨q, a1, s1, e1, q0, q1, h1⟩ := pick_ev c at_ sd 4 (m + 28) h
    obtain ⟨d, hd⟩ : ∃ d : Nat, q = (d : Int) := ⟨q.toNat, by omega⟩
    subst hd
    obtain ⟨t, a2, s2, e2, l2, h2⟩ := drawW_l0 c m d r a1 s1 (by omega) hr (h1.less (by omega))
    refine ⟨t, a2, s2, ?_, l2, h2⟩
    simp only [spec_l07Draw.f]
    exact Ev.bind e0 (ev_pos rfl (ev_now e1 e2))
  · refine ⟨[], at_, sd, ?_, by simp, h.less (by omega)⟩
    simp only [spec_l07Draw.f]
    exact Ev.bind e0 (ev_neg (by decide) (Ev.now _))
theorem any_ev (c : List Int) (m : Nat) (at_ sd : Int) (h : Sr c at_ (m + 60)) :
    ∃ (p : Pu) (a' s' : Int), Ev (fun k => spec_l05Any.f k c at_ sd) (p.f0, p.f1, p.f2, a', s') ∧ Sr c a' m := by
  obtain ⟨t, a1, s1, e1, l1, h1⟩ := bentT_ev c m at_ sd h
  by_cases h0 : (t.length : Int) = 0
  · refine ⟨⟨0, 0, false⟩, a1, s1, ?_, h1⟩
    simp only [spec_l05Any.f]
    exact Ev.bind e1 (ev_pos h0 (Ev.now _))
  · refine ⟨⟨(rd_T26 t 0).f0, (rd_T26 t 0).f1, (rd_T26 t 0).f2⟩, a1, s1, ?_, h1⟩
    simp only [spec_l05Any.f]
    exact Ev.bind e1 (ev_neg h0 (ev_pos (by show (0 : Int) < (t.length : Int); omega) (Ev.now _)))
theorem turned_ev (c : List Int) (h : ∀ x ∈ c, (Lit.int .u8 x).wf = true) : ∃ (p : Pu) (t : List S53) (b : Bool), t.length ≤ 9 ∧ Ev (fun k => spec_l07Turned.f k c) (p.f0, p.f1, p.f2, t, b) := by
  obtain ⟨p, a1, s1, e1, h1⟩ := any_ev c 100 0 0 ((Sr.start h).less (by omega))
  obtain ⟨t, a2, s2, e2, l2, h2⟩ := drawW_ev c 70 a1 s1 p h1
  obtain ⟨q, a3, s3, e3, _, _, h3⟩ := pick_ev c a2 s2 3 68 h2
  have e0 : spec_l00From.f c = some (c, 0, 0) := rfl
  refine ⟨p, t, (q == 0), l2, ?_⟩
  simp only [spec_l07Turned.f, spec_l00Src_one.f]
  exact ev_now e0 (Ev.bind e1 (Ev.bind e2 (ev_now (by rw [e3]; rfl) (Ev.now _))))
theorem ends_ev (c : List Int) (h : ∀ x ∈ c, (Lit.int .u8 x).wf = true) : ∃ (p : Pu) (l : Int), Ev (fun k => spec_l07Ends.f k c) (p.f0, p.f1, p.f2, l) := by
  obtain ⟨p, a1, s1, e1, h1⟩ := any_ev c 100 0 0 ((Sr.start h).less (by omega))
  obtain ⟨q, a2, s2, e2, _, _, h2⟩ := pick_ev c a1 s1 5 98 h1
  obtain ⟨z, a3, s3, e3, _, _, h3⟩ := pick_ev c a2 s2 16 96 h2
  have e0 : spec_l00From.f c = some (c, 0, 0) := rfl
  refine ⟨p, wrap64 (q - (wrap64 (Int.tdiv z 15))), ?_⟩
  simp only [spec_l07Ends.f]
  exact ev_now e0 (Ev.bind e1 (ev_now e2 (ev_now e3 (Ev.now _))))

theorem ev_rounds {α : Type} {g : Nat → Option α} {r : α} (h : Ev g r) : ∃ k, g k = some r := by
  obtain ⟨K, h⟩ := h
  exact ⟨K, h K (Nat.le_refl _)⟩
theorem sameW_l0 (x0 : List S53) (hn : x0.length ≤ 1048576) : ∀ (d i : Nat), i + d = x0.length → Ev (fun k => spec_SameWay.l0 k x0 x0 (i : Int)) true
  | 0, i, hd => by
    refine ev_succ ?_
    simp only [spec_SameWay.l0]
    exact ev_neg (by omega) (Ev.now _)
  | d + 1, i, hd => by
    refine ev_succ ?_
    simp only [spec_SameWay.l0]
    rw [w64s (by omega)]
    exact ev_pos (by omega) (ev_pos (by omega) (ev_pos (by omega) (ev_neg (by simp) (sameW_l0 x0 hn d (i + 1) (by omega)))))
theorem sameW_ev (l : List S53) (hn : l.length ≤ 1048576) : Ev (fun k => spec_SameWay.f k l l) true := by
  simp only [spec_SameWay.f]
  exact ev_pos (by trivial) (sameW_l0 l hn l.length 0 (by omega))
theorem cnt_fun : ∃ C : List S53 → Int, (∀ w, 0 ≤ C w) ∧ ∀ w c, Ev (fun k => cntI k w) c → C w = c := by
  have h : ∀ w : List S53, ∃ c : Int, 0 ≤ c ∧ ∀ c', Ev (fun k => cntI k w) c' → c = c' := by
    intro w
    by_cases h : ∃ c, Ev (fun k => cntI k w) c
    · obtain ⟨c, hc⟩ := h
      refine ⟨c, ?_, fun c' h' => ev_det hc h'⟩
      obtain ⟨k, hk⟩ := ev_rounds hc
      unfold cntI at hk
      obtain ⟨l, _, rfl⟩ := Option.map_eq_some_iff.mp hk
      omega
    · exact ⟨0, by omega, fun c' h' => absurd ⟨c', h'⟩ h⟩
  obtain ⟨C, hC⟩ := Classical.axiomOfChoice h
  exact ⟨C, fun w => (hC w).1, fun w => (hC w).2⟩
theorem cross_all (p : Pu) (w : List S53) (t : Bool) (hn : w.length ≤ 1048576) : ∃ (n c : Int) (r : Int × Int × Int), Ev (fun k => spec_CrossingsOf.f k p.f0 p.f1 p.f2 w t) (n, c) ∧ Ev (fun k => impl_CrossingsOf.f k p.f0 p.f1 p.f2 w t) (n, c) ∧
    Ev (fun k => spec_FirstCrossing.f k p.f0 p.f1 p.f2 w t) r ∧ Ev (fun k => impl_FirstCrossing.f k p.f0 p.f1 p.f2 w t) r ∧ (c = 0 ↔ okP p ∧ okW p w) ∧ (c = 0 → (t = false → Ev (fun k => cntI k w) n) ∧ (0 < n ↔ r.2.2 = 0)) := by
  obtain ⟨c, e1, e2, e3⟩ := code_ok p w hn
  by_cases hc : c = 0
  · have hok := e3.mp hc
    obtain ⟨s, i⟩ := parts_both w hn p (fun j hj => (hok.2.1 j hj).1)
    have hl := prL_len w (w.length - 1)
    have b : (prL w (w.length - 1)).length * (prL w (w.length - 1)).length ≤ 1048576 * 1048576 := Nat.mul_le_mul (by omega) (by omega)
    obtain ⟨n, L, f1, f2, f3⟩ := both_l0 t (prL w (w.length - 1)) (prL_two w _) (by omega) (prL w (w.length - 1)).length 0 0 [] (by omega) (by simp) (by simp; omega)
    obtain ⟨L', g1, g2⟩ := first_l0 t (prL w (w.length - 1)) (prL_two w _) (by omega) (prL w (w.length - 1)).length 0 (by omega) (by omega)
    have eL : L' = L := ev_det g2 f2
    subst eL
    refine ⟨n, 0, resF L', ?_, ?_, ?_, ?_, ⟨fun _ => hok, fun _ => rfl⟩, fun _ => ⟨fun ht => ?_, ?_⟩⟩
    · simp only [spec_CrossingsOf.f, spec_l07Count.f]
      exact Ev.bind e1 (ev_pos hc (Ev.bind (Ev.bind s f1) (Ev.now _)))
    · simp only [impl_CrossingsOf.f, impl_crossings.f]
      refine Ev.bind e2 (ev_pos hc (Ev.bind (Ev.bind i f2) (ev_some ?_)))
      rw [f3]
    · simp only [spec_FirstCrossing.f]
      exact Ev.bind e1 (ev_pos hc (Ev.bind s g1))
    · simp only [impl_FirstCrossing.f, impl_crossings.f]
      refine Ev.bind e2 (ev_pos hc (Ev.bind (Ev.bind i g2) ?_))
      cases L' with
      | nil => exact ev_pos (by simp) (ev_some rfl)
      | cons x L => exact ev_neg (by first | (simp; done) | (simp; omega)) (ev_pos (by first | (simp; done) | (simp; omega)) (ev_some rfl))
    · subst ht
      simp only [cntI, impl_crossings.f, Option.map_eq_bind]
      exact Ev.bind (Ev.bind i f2) (ev_some f3)
    · cases L' with
      | nil =>
        have f3 : (0 : Int) = n := f3
        subst f3
        simp [resF]
      | cons x L =>
        have f3 : ((L.length + 1 : Nat) : Int) = n := f3
        exact ⟨fun _ => rfl, fun _ => by omega⟩
  · refine ⟨0, c, (0, 0, c), ?_, ?_, ?_, ?_, e3, fun h => absurd h hc⟩
    · simp only [spec_CrossingsOf.f]; exact Ev.bind e1 (ev_neg hc (Ev.now _))
    · simp only [impl_CrossingsOf.f]; exact Ev.bind e2 (ev_neg hc (Ev.now _))
    · simp only [spec_FirstCrossing.f]; exact Ev.bind e1 (ev_neg hc (Ev.now _))
    · simp only [impl_FirstCrossing.f]; exact Ev.bind e2 (ev_neg hc (Ev.now _))
/-- BestWay and FewestCrossings of both sides. -/
theorem bw_all (C : List S53 → Int) (hC0 : ∀ w, 0 ≤ C w) (hC : ∀ w c, Ev (fun k => cntI k w) c → C w = c) (p : Pu) (last : Int) : ∃ (l : List S53) (n c : Int), l.length ≤ 8 ∧
    Ev (fun k => impl_BestWay.f k p.f0 p.f1 p.f2 last) (l, c) ∧ Ev (fun k => spec_BestWay.f k p.f0 p.f1 p.f2 last) (l, c) ∧ Ev (fun k => impl_FewestCrossings.f k p.f0 p.f1 p.f2 last) (n, c) ∧ Ev (fun k => spec_FewestCrossings.f k p.f0 p.f1 p.f2 last) (n, c) ∧
    (c = 0 → okP p ∧ okW p l ∧ (rd_T53 l (((p.f0 + p.f1).toNat : Int) - 1)).f1 = last ∧ n = C l) ∧
    (okP p → ∀ w, okW p w → (rd_T53 w (((p.f0 + p.f1).toNat : Int) - 1)).f1 = last → c = 0 ∧ n ≤ C w) := by
  obtain ⟨l, n, c, h8, i1, s1, hz⟩ := best_both p last
  have hCe : ∀ w : List S53, w.length ≤ 8 → (∀ j (h : j < w.length), w[j].f0 = blockB p (j : Int)) → Ev (fun k => cntI k w) (C w) := by
    intro w hw hb
    obtain ⟨c, h1, _⟩ := cnt_both p w (by omega) hb
    rw [hC w c h1]; exact h1
  have b1 : Ev (fun k => impl_BestWay.f k p.f0 p.f1 p.f2 last) (l, c) := by
    simp only [impl_BestWay.f]; exact Ev.bind i1 (Ev.now _)
  have b2 : Ev (fun k => spec_BestWay.f k p.f0 p.f1 p.f2 last) (l, c) := by
    simp only [spec_BestWay.f]
    refine Ev.bind s1 (ev_if (fun h => ev_some ?_) (fun h => ev_some ?_))
    · have h : c = 0 := h
      rw [h]
    · have h : ¬ c = 0 := h
      rw [hz h]
  have b3 : Ev (fun k => impl_FewestCrossings.f k p.f0 p.f1 p.f2 last) ((if c = 0 then n else 0), c) := by
    simp only [impl_FewestCrossings.f]; exact Ev.bind i1 (Ev.now _)
  have b4 : Ev (fun k => spec_FewestCrossings.f k p.f0 p.f1 p.f2 last) ((if c = 0 then n else 0), c) := by
    simp only [spec_FewestCrossings.f]
    refine Ev.bind s1 (ev_if (fun h => ev_some ?_) (fun h => ev_some ?_))
    · have h : c = 0 := h
      rw [if_pos h, h]
    · have h : ¬ c = 0 := h
      rw [if_neg h]
  refine ⟨l, _, c, h8, b1, b2, b3, b4, ?_⟩
  by_cases hp : okP p
  · by_cases hr : 0 ≤ last ∧ last < manyB p (lastB p)
    · obtain ⟨l', e, ok, hl, opt⟩ := way_best p hp last hr C hCe hC0
      have he := ev_det i1 e
      simp only [Prod.mk.injEq] at he
      obtain ⟨rfl, hn, rfl⟩ := he
      rw [if_pos rfl] at hn ⊢
      exact ⟨fun _ => ⟨hp, ok, hl, hn⟩, fun _ w hw hlw => ⟨rfl, by rw [hn]; exact opt w hw hlw⟩⟩
    · have hne : c ≠ 0 := by
        intro h0
        have v := validPurchase_ev p
        rw [decide_eq_true hp] at v
        have hw : okWay p.f0 p.f1 := by unfold okWay; unfold okP at hp; omega
        have hen : endWay p.f0 p.f1 p.f2 = manyB p (lastB p) := by
          unfold endWay
          rw [bkI_eq]
          have e : blockB p (((p.f0 + p.f1 - 1).toNat : Nat) : Int) = lastB p := by
            unfold blockB
            rw [if_pos (by have := hp.2.2.1; omega)]
          rw [e]
          exact manyIB p _ (by unfold lastB; split <;> simp)
        have e2 : Ev (fun k => impl_bestWay.f k p.f0 p.f1 p.f2 last) ([], 0, 2) := by
          simp only [impl_bestWay.f]
          refine Ev.bind v (ev_pos rfl (ev_pos hw ?_))
          rw [hen]
          exact ev_neg (by omega) (Ev.now _)
        have he := ev_det i1 e2
        simp only [Prod.mk.injEq] at he
        omega
      refine ⟨fun h => absurd h hne, fun _ w hw hlw => ?_⟩
      exfalso
      apply hr
      have hlen := okW_len hp hw
      have hpos := hp.2.2.1
      obtain ⟨q1, q2, _⟩ := hw.1 ((p.f0 + p.f1).toNat - 1) (by omega)
      have e : blockB p ((((p.f0 + p.f1).toNat - 1 : Nat)) : Int) = lastB p := by
        unfold blockB
        rw [if_pos (by omega)]
      rw [e] at q2
      have hrd : rd_T53 w (((p.f0 + p.f1).toNat : Int) - 1) = w[(p.f0 + p.f1).toNat - 1]'(by omega) := by
        have := rdIStop (xs := w) (i := (p.f0 + p.f1).toNat - 1) (by omega)
        rw [← this]
        congr 1
        omega
      rw [hrd] at hlw
      rw [← hlw]
      omega
  · have hne : c ≠ 0 := by
      intro h0
      have v := validPurchase_ev p
      rw [decide_eq_false hp] at v
      have e2 : Ev (fun k => impl_bestWay.f k p.f0 p.f1 p.f2 last) ([], 0, 1) := by
        simp only [impl_bestWay.f]
        exact Ev.bind v (ev_neg (by simp) (Ev.now _))
      have he := ev_det i1 e2
      simp only [Prod.mk.injEq] at he
      omega
    exact ⟨fun h => absurd h hne, fun h => absurd h hp⟩
theorem FnCrossings : laws_FnCrossings.Pure := by
  intro c _ _ hc
  refine ev_rounds ?_
  simp only [laws_FnCrossings.f]
  refine ev_now (show laws_f6big.f c = some (decide ((c.length : Int) > 4096)) from rfl) (ev_if (fun _ => Ev.now _) (fun _ => ?_))
  obtain ⟨C, hC0, hC⟩ := cnt_fun
  obtain ⟨p, last, de⟩ := ends_ev c hc
  obtain ⟨a, w, t, hw9, dt⟩ := turned_ev c hc
  obtain ⟨l, n, e, h8, b1, b2, b3, b4, hok, _⟩ := bw_all C hC0 hC p last
  obtain ⟨m, e3, r, x1, x2, x3, x4, x5, x6⟩ := cross_all a w t (by omega)
  have d1 : Ev (fun k => spec_DrawBestWay.f k c) (p.f0, p.f1, p.f2, last) := by simp only [spec_DrawBestWay.f]; exact Ev.bind de (Ev.now _)
  have d2 : Ev (fun k => spec_DrawCrossingsOf.f k c) (a.f0, a.f1, a.f2, w, t) := by simp only [spec_DrawCrossingsOf.f]; exact Ev.bind dt (Ev.now _)
  have d3 : Ev (fun k => spec_DrawFirstCrossing.f k c) (a.f0, a.f1, a.f2, w, t) := by simp only [spec_DrawFirstCrossing.f]; exact Ev.bind dt (Ev.now _)
  have sw := sameW_ev l (by omega)
  have j4 : Ev (fun k => if e = 0 then ((impl_CrossingsOf.f k p.f0 p.f1 p.f2 l false).bind fun bt => (if bt.2 = 0 then (if bt.1 = n then (if (l.length : Int) > 0 then (if 0 ≤ (wrap64 ((l.length : Int) - 1)) then (if (wrap64 ((l.length : Int) - 1)) < (l.length : Int) then (some (((rd_T53 l (wrap64 ((l.length : Int) - 1))).f1) == last)) else (none)) else (none)) else (some false)) else (some false)) else (some false))) else (some true)) true := by
    refine ev_if (fun h0 => ?_) (fun _ => Ev.now _)
    obtain ⟨hp, hwk, hl, hn⟩ := hok h0
    obtain ⟨n2, c2, r2, y1, y2, _, _, y5, y6⟩ := cross_all p l false (by omega)
    have hc2 := y5.mpr ⟨hp, hwk⟩
    have hn2 : n2 = n := by rw [hn]; exact (hC l n2 ((y6 hc2).1 rfl)).symm
    subst hc2 hn2
    have hlen := okW_len hp hwk
    have hpos := hp.2.2.1
    have hw1 : wrap64 ((l.length : Int) - 1) = ((p.f0 + p.f1).toNat : Int) - 1 := by rw [w64 (by omega) (by omega)]; omega
    rw [hw1]
    refine Ev.bind y2 (ev_pos rfl (ev_pos rfl (ev_pos (by omega) (ev_pos (by omega) (ev_pos (by omega) (ev_some ?_))))))
    rw [hl]; simp
  have j3 : Ev (fun k => laws_FnCrossings.j3 k last l e l n false p.f0 p.f1 p.f2) true := by
    refine ev_succ ?_; simp only [laws_FnCrossings.j3]
    exact ev_neg (by simp) j4
  have j2f : Ev (fun k => laws_FnCrossings.j2 k last l e l n w false p.f0 p.f1 p.f2 a.f0 a.f1 a.f2) true := by
    refine ev_succ ?_; simp only [laws_FnCrossings.j2]
    exact ev_neg (by simp) j4
  have j1 : Ev (fun k => laws_FnCrossings.j1 k last l e l n w e3 false p.f0 p.f1 p.f2 a.f0 a.f1 a.f2) true := by
    refine ev_succ ?_; simp only [laws_FnCrossings.j1]
    refine ev_neg (by simp) (ev_if (fun h0 => ?_) (fun _ => j2f))
    obtain ⟨ha, hwk⟩ := x5.mp h0
    have hlen := okW_len ha hwk
    have hpos := ha.2.2.1
    rw [decide_eq_true (show (w.length : Int) > 0 by omega)]
    refine ev_succ ?_; simp only [laws_FnCrossings.j2]
    have hw1 : wrap64 ((w.length : Int) - 1) = ((a.f0 + a.f1).toNat : Int) - 1 := by rw [w64 (by omega) (by omega)]; omega
    rw [hw1]
    obtain ⟨l2, n2, e2, _, _, _, z3, _, _, zbest⟩ := bw_all C hC0 hC a (rd_T53 w (((a.f0 + a.f1).toNat : Int) - 1)).f1
    obtain ⟨z0, zle⟩ := zbest ha w hwk rfl
    obtain ⟨n4, c4, r4, y1, _, _, _, y5, y6⟩ := cross_all a w false (by omega)
    have hc4 := y5.mpr ⟨ha, hwk⟩
    have hn4 : C w = n4 := hC w n4 ((y6 hc4).1 rfl)
    subst z0 hc4
    refine ev_pos (by trivial) (ev_pos (by omega) (ev_pos (by omega) (Ev.bind z3 (Ev.bind y1 (ev_pos rfl (ev_pos rfl ?_))))))
    rw [decide_eq_false (by omega)]
    exact j3
  have j0 : Ev (fun k => laws_FnCrossings.j0 k last l e l n w e3 w t r.2.2 false p.f0 p.f1 p.f2 a.f0 a.f1 a.f2 a.f0 a.f1 a.f2) true := by
    refine ev_succ ?_; simp only [laws_FnCrossings.j0]
    refine ev_neg (by simp) (Ev.bind x1 (ev_if (fun h0 => ?_) (fun _ => j1)))
    have hx := (x6 h0).2
    have : (decide (m > 0) != (r.2.2 == 0)) = false := by
      by_cases hm : 0 < m
      · rw [decide_eq_true (show m > 0 from hm), hx.mp hm]; rfl
      · rw [decide_eq_false (show ¬ m > 0 from hm), beq_eq_false_iff_ne.mpr (fun h => hm (hx.mpr h))]; rfl
    rw [this]
    exact j1
  have be : (e != e) = false := by simp
  refine Ev.bind d1 (Ev.bind b1 (Ev.bind b2 (Ev.bind b3 (Ev.bind b4 (Ev.bind d2 (Ev.bind x2 (Ev.bind x1 (Ev.bind d3 (Ev.bind x4 (Ev.bind x3 ?_))))))))))
  refine ev_pos rfl (Ev.bind sw (ev_pos rfl (ev_pos rfl (ev_pos rfl (ev_pos rfl (ev_pos rfl (ev_pos rfl (ev_pos rfl (ev_pos rfl ?_)))))))))
  rw [be]
  exact j0

end Go.Proofs.Ytifdihbndlmgpaa.PureFnCrossings
namespace Go.Proofs.Ytifdihbndlmgpaa.Pure
open Go.Proofs.Ytifdihbndlmgpaa.HCro
theorem FnCrossings : laws_FnCrossings.Pure := PureFnCrossings.FnCrossings
end Go.Proofs.Ytifdihbndlmgpaa.Pure
