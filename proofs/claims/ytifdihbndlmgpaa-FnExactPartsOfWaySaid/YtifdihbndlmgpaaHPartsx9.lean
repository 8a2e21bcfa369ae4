-- Written by a program for this claim (the functions that the statement reaches, and that the program's code comes to them).
import Derived.Test.YtifdihbndlmgpaaHPartsx0
import Derived.Test.YtifdihbndlmgpaaHPartsx2
import Derived.Test.YtifdihbndlmgpaaHPartsx5
import Derived.Test.YtifdihbndlmgpaaHPartsx8
namespace Go.Proofs.Ytifdihbndlmgpaa.HParts
open Go.RowKit Go.Proofs.YtifdihbndlmgpaaW.PrintWords Go.Proofs.YtifdihbndlmgpaaW.PrintLast Go.Proofs.YtifdihbndlmgpaaW.PrintMore
attribute [local go_sem] max2_int min2_int max_two min_two max_three min_three max_four min_four   -- for this text's walks alone
set_option linter.unusedVariables false
set_option linter.unusedSimpArgs false

/-! ### laws_eqInt64SS: function 19 -/
def laws_eqInt64SS.l0 : Nat → List (List Int) → List (List Int) → Int → Option (Bool)
  | 0, _, _, _ => none
  | k + 1, x0, x1, x5 => if x5 < (x0.length : Int) then (if 0 ≤ x5 then (if x5 < (x1.length : Int) then ((laws_eqInt64S.f k (rd_L3 x0 x5) (rd_L3 x1 x5)).bind fun t222 => (if t222 = true then (laws_eqInt64SS.l0 k x0 x1 (wrap64 (x5 + 1))) else (some false))) else (none)) else (none)) else (some true)
def laws_eqInt64SS.f (k : Nat) (l0 : List (List Int)) (l1 : List (List Int)) : Option (Bool) := if (l0.length : Int) = (l1.length : Int) then (laws_eqInt64SS.l0 k l0 l1 0) else (some false)
theorem laws_eqInt64SS.mono_l : ∀ k, (∀ y0 y1 y2, LeO (laws_eqInt64SS.l0 k y0 y1 y2) (laws_eqInt64SS.l0 (k + 1) y0 y1 y2))
  | 0 => fun _ _ _ r h => by simp [laws_eqInt64SS.l0] at h
  | k + 1 => by
    have ih0 := laws_eqInt64SS.mono_l k
    · intro y0 y1 y2
      unfold laws_eqInt64SS.l0
      repeat' first
      | (with_reducible exact ih0 _ _ _)
      | (with_reducible exact laws_eqInt64S.mono _ _ _)
      | (with_reducible exact LeO.refl _)
      | (with_reducible exact LeO.none _)
      | (with_reducible refine LeO.ite ?_ ?_)
      | (with_reducible refine LeO.bind ?_ (fun _ => ?_))
      | exact ih0 _ _ _
      | exact laws_eqInt64S.mono _ _ _
      | exact LeO.none _
      | refine LeO.ite ?_ ?_
      | refine LeO.bind ?_ (fun _ => ?_)
theorem laws_eqInt64SS.mono : ∀ a0 a1 k, LeO (laws_eqInt64SS.f k a0 a1) (laws_eqInt64SS.f (k + 1) a0 a1) := by
  intro a0 a1 k
  have ih0 := laws_eqInt64SS.mono_l k
  unfold laws_eqInt64SS.f
  repeat' first
      | (with_reducible exact ih0 _ _ _)
      | (with_reducible exact laws_eqInt64S.mono _ _ _)
      | (with_reducible exact LeO.refl _)
      | (with_reducible exact LeO.none _)
      | (with_reducible refine LeO.ite ?_ ?_)
      | (with_reducible refine LeO.bind ?_ (fun _ => ?_))
      | exact ih0 _ _ _
      | exact laws_eqInt64S.mono _ _ _
      | exact LeO.none _
      | refine LeO.ite ?_ ?_
      | refine LeO.bind ?_ (fun _ => ?_)
set_option maxHeartbeats 8000000 in
set_option maxRecDepth 100000 in
theorem laws_eqInt64SS.calls (k : Nat) (A0 : Option Addr) (c0 : Nat) (l0 : List (List Int)) (A1 : Option Addr) (c1 : Nat) (l1 : List (List Int)) (r : Bool) (w : World) (hr0 : Kd.C (Kd.slice 2 (Kd.int .i64)) w A0 l0.length l0) (hc0 : l0.length ≤ c0) (hr1 : Kd.C (Kd.slice 2 (Kd.int .i64)) w A1 l1.length l1) (hc1 : l1.length ≤ c1) (h : laws_eqInt64SS.f k l0 l1 = some r) :
    Calls Try.prog 19 #[.slice A0 l0.length c0, .slice A1 l1.length c1] w fun e w' => e = .returned (.bool r) ∧ Drawn0 w w' := by
  have HR0 := Aside0.mk hr0
  have HC0 := Aside0.mk hc0
  clear hr0 hc0
  have HR1 := Aside0.mk hr1
  have HC1 := Aside0.mk hc1
  clear hr1 hc1
  have H : (if (l0.length : Int) = (l1.length : Int) then (laws_eqInt64SS.l0 k l0 l1 0) else (some false)) = some r := h
  clear h
  by_cases c3 : (l0.length : Int) = (l1.length : Int)
  · rw [if_pos c3] at H
    have c3b0 : ((l0.length : Int) == (l1.length : Int)) = true := beq_iff_eq.mpr c3
    have c3b1 : ((l0.length : Int) != (l1.length : Int)) = false := bne_eq_false_iff_eq.mpr c3
    have c3b2 : (l0.length == l1.length) = true := by first | simpa using c3 | (simp at c3 ⊢; omega)
    clear c3
    have H' := Aside0.mk H
    clear H
    go_enter Try.func19, Try.ntmps19
    go_wp2
    repeat (go_quiet (fail); try go_wp2)
    go_loopg [5] k (fun kq v5 w' => ∃ (x5_1 : Int), v5 = .int .i64 x5_1 ∧ Aside0 (laws_eqInt64SS.l0 kq l0 l1 x5_1 = some r) ∧ Aside0 (kq ≤ k) ∧ Drawn0 w w')
    case atStart => exact ⟨(0), (by first | rfl | (simp; done) | (simp [*]; done)), H', ⟨Nat.le_refl _⟩, by repeat (first | exact Drawn0.refl _ | apply Drawn0.step)⟩
    case round =>
      clear H'
      try clear c1
      try clear p2
      try clear c3
      try clear c3b0
      try clear c3b1
      try clear c3b2
      obtain ⟨x5_1, rfl, HA, HK1, ⟨m1, rfl⟩⟩ := hrel
      cases gk with
      | zero => exact absurd HA.out (by simp [laws_eqInt64SS.l0])
      | succ k1 =>
        have H := HA.out
        clear HA
        simp only [laws_eqInt64SS.l0] at H
        by_cases c4 : x5_1 < (l0.length : Int)
        · rw [if_pos c4] at H
          have c4b0 : decide (x5_1 < (l0.length : Int)) = true := decide_eq_true c4
          clear c4
          by_cases c5 : 0 ≤ x5_1
          · rw [if_pos c5] at H
            have c5b0 : decide (0 ≤ x5_1) = true := decide_eq_true c5
            clear c5
            by_cases c6 : x5_1 < (l1.length : Int)
            · rw [if_pos c6] at H
              have c6b0 : decide (x5_1 < (l1.length : Int)) = true := decide_eq_true c6
              clear c6
              replace H := Option.bind_eq_some_iff.mp H
              obtain ⟨t222, A70, H⟩ := H
              replace H : (if t222 = true then (laws_eqInt64SS.l0 k1 l0 l1 (wrap64 (x5_1 + 1))) else (some false)) = some r := H
              have A7 := Aside0.mk A70
              clear A70
              by_cases c8 : t222 = true
              · subst c8
                have H1 : (laws_eqInt64SS.l0 k1 l0 l1 (wrap64 (x5_1 + 1))) = some r := by rw [if_pos rfl] at H; exact H
                clear H
                have H := H1
                clear H1
                have H' := Aside0.mk H
                clear H
                have p220 : 0 ≤ (x5_1 : Int) := of_decide_eq_true (by first | (with_reducible assumption) | assumption)
                have q220 : x5_1 < (l0.length : Int) := of_decide_eq_true (by first | (with_reducible assumption) | assumption)
                obtain ⟨ad220, A220_0, c220_0, e220, hx220_0, hl220_0, hi220_0⟩ := at_L3 HR0.out x5_1 p220 q220
                cases e220
                have HR220_0 := Aside0.mk hi220_0
                have HC220_0 := Aside0.mk hl220_0
                clear hi220_0 hl220_0
                replace p220 := eq_true p220
                replace q220 := eq_true q220
                have p221 : 0 ≤ (x5_1 : Int) := of_decide_eq_true (by first | (with_reducible assumption) | assumption)
                have q221 : x5_1 < (l1.length : Int) := of_decide_eq_true (by first | (with_reducible assumption) | assumption)
                obtain ⟨ad221, A221_0, c221_0, e221, hx221_0, hl221_0, hi221_0⟩ := at_L3 HR1.out x5_1 p221 q221
                cases e221
                have HR221_0 := Aside0.mk hi221_0
                have HC221_0 := Aside0.mk hl221_0
                clear hi221_0 hl221_0
                replace p221 := eq_true p221
                replace q221 := eq_true q221
                go_wp2_with (first | (go_at_call 39; (with_reducible refine (laws_eqInt64S.calls k1 _ _ (rd_L3 l0 x5_1) _ _ (rd_L3 l1 x5_1) true _ ?side1 ?side2 ?side3 ?side4 A7.out).mono ?_); (case side1 => repeat (first | exact HR220_0.out | (with_reducible refine Kd.C_alloc ?_ _) | (with_reducible refine Kd.C_drewN ?_ _) | (with_reducible refine Kd.C_drew ?_))); (case side2 => exact HC220_0.out); (case side3 => repeat (first | exact HR221_0.out | (with_reducible refine Kd.C_alloc ?_ _) | (with_reducible refine Kd.C_drewN ?_ _) | (with_reducible refine Kd.C_drew ?_))); (case side4 => exact HC221_0.out); rintro e w' ⟨rfl, ⟨nd, rfl⟩⟩; (try first | exact ⟨rfl, _, World.drewN_drewN _ _ _⟩ | exact ⟨rfl, _, Eq.trans (World.drewN_drewN _ _ _) (congrArg (World.drewN _) (Nat.add_assoc _ _ _))⟩)))
                repeat (go_quiet (first | (go_at_call 39; (with_reducible refine (laws_eqInt64S.calls k1 _ _ (rd_L3 l0 x5_1) _ _ (rd_L3 l1 x5_1) true _ ?side1 ?side2 ?side3 ?side4 A7.out).mono ?_); (case side1 => repeat (first | exact HR220_0.out | (with_reducible refine Kd.C_alloc ?_ _) | (with_reducible refine Kd.C_drewN ?_ _) | (with_reducible refine Kd.C_drew ?_))); (case side2 => exact HC220_0.out); (case side3 => repeat (first | exact HR221_0.out | (with_reducible refine Kd.C_alloc ?_ _) | (with_reducible refine Kd.C_drewN ?_ _) | (with_reducible refine Kd.C_drew ?_))); (case side4 => exact HC221_0.out); rintro e w' ⟨rfl, ⟨nd, rfl⟩⟩; (try first | exact ⟨rfl, _, World.drewN_drewN _ _ _⟩ | exact ⟨rfl, _, Eq.trans (World.drewN_drewN _ _ _) (congrArg (World.drewN _) (Nat.add_assoc _ _ _))⟩))); try go_wp2_with (first | (go_at_call 39; (with_reducible refine (laws_eqInt64S.calls k1 _ _ (rd_L3 l0 x5_1) _ _ (rd_L3 l1 x5_1) true _ ?side1 ?side2 ?side3 ?side4 A7.out).mono ?_); (case side1 => repeat (first | exact HR220_0.out | (with_reducible refine Kd.C_alloc ?_ _) | (with_reducible refine Kd.C_drewN ?_ _) | (with_reducible refine Kd.C_drew ?_))); (case side2 => exact HC220_0.out); (case side3 => repeat (first | exact HR221_0.out | (with_reducible refine Kd.C_alloc ?_ _) | (with_reducible refine Kd.C_drewN ?_ _) | (with_reducible refine Kd.C_drew ?_))); (case side4 => exact HC221_0.out); rintro e w' ⟨rfl, ⟨nd, rfl⟩⟩; (try first | exact ⟨rfl, _, World.drewN_drewN _ _ _⟩ | exact ⟨rfl, _, Eq.trans (World.drewN_drewN _ _ _) (congrArg (World.drewN _) (Nat.add_assoc _ _ _))⟩))))
                go_roundg k1
                case measure => have := HK1.out; omega
                case rel => exact ⟨(wrap64 (x5_1 + 1)), (by first | rfl | (simp; done) | (simp [*]; done)), H', ⟨by have := HK1.out; omega⟩, by repeat (first | exact Drawn0.refl _ | apply Drawn0.step)⟩
              · replace c8 := Bool.eq_false_iff.mpr c8
                subst c8
                have H1 : (some false) = some r := by rw [if_neg (show ¬ (false = true) by decide)] at H; exact H
                clear H
                have H := H1
                clear H1
                obtain rfl := Option.some.inj H
                have p220 : 0 ≤ (x5_1 : Int) := of_decide_eq_true (by first | (with_reducible assumption) | assumption)
                have q220 : x5_1 < (l0.length : Int) := of_decide_eq_true (by first | (with_reducible assumption) | assumption)
                obtain ⟨ad220, A220_0, c220_0, e220, hx220_0, hl220_0, hi220_0⟩ := at_L3 HR0.out x5_1 p220 q220
                cases e220
                have HR220_0 := Aside0.mk hi220_0
                have HC220_0 := Aside0.mk hl220_0
                clear hi220_0 hl220_0
                replace p220 := eq_true p220
                replace q220 := eq_true q220
                have p221 : 0 ≤ (x5_1 : Int) := of_decide_eq_true (by first | (with_reducible assumption) | assumption)
                have q221 : x5_1 < (l1.length : Int) := of_decide_eq_true (by first | (with_reducible assumption) | assumption)
                obtain ⟨ad221, A221_0, c221_0, e221, hx221_0, hl221_0, hi221_0⟩ := at_L3 HR1.out x5_1 p221 q221
                cases e221
                have HR221_0 := Aside0.mk hi221_0
                have HC221_0 := Aside0.mk hl221_0
                clear hi221_0 hl221_0
                replace p221 := eq_true p221
                replace q221 := eq_true q221
                go_wp2_with (first | (go_at_call 39; (with_reducible refine (laws_eqInt64S.calls k1 _ _ (rd_L3 l0 x5_1) _ _ (rd_L3 l1 x5_1) false _ ?side1 ?side2 ?side3 ?side4 A7.out).mono ?_); (case side1 => repeat (first | exact HR220_0.out | (with_reducible refine Kd.C_alloc ?_ _) | (with_reducible refine Kd.C_drewN ?_ _) | (with_reducible refine Kd.C_drew ?_))); (case side2 => exact HC220_0.out); (case side3 => repeat (first | exact HR221_0.out | (with_reducible refine Kd.C_alloc ?_ _) | (with_reducible refine Kd.C_drewN ?_ _) | (with_reducible refine Kd.C_drew ?_))); (case side4 => exact HC221_0.out); rintro e w' ⟨rfl, ⟨nd, rfl⟩⟩; (try first | exact ⟨rfl, _, World.drewN_drewN _ _ _⟩ | exact ⟨rfl, _, Eq.trans (World.drewN_drewN _ _ _) (congrArg (World.drewN _) (Nat.add_assoc _ _ _))⟩)))
                repeat (go_quiet (first | (go_at_call 39; (with_reducible refine (laws_eqInt64S.calls k1 _ _ (rd_L3 l0 x5_1) _ _ (rd_L3 l1 x5_1) false _ ?side1 ?side2 ?side3 ?side4 A7.out).mono ?_); (case side1 => repeat (first | exact HR220_0.out | (with_reducible refine Kd.C_alloc ?_ _) | (with_reducible refine Kd.C_drewN ?_ _) | (with_reducible refine Kd.C_drew ?_))); (case side2 => exact HC220_0.out); (case side3 => repeat (first | exact HR221_0.out | (with_reducible refine Kd.C_alloc ?_ _) | (with_reducible refine Kd.C_drewN ?_ _) | (with_reducible refine Kd.C_drew ?_))); (case side4 => exact HC221_0.out); rintro e w' ⟨rfl, ⟨nd, rfl⟩⟩; (try first | exact ⟨rfl, _, World.drewN_drewN _ _ _⟩ | exact ⟨rfl, _, Eq.trans (World.drewN_drewN _ _ _) (congrArg (World.drewN _) (Nat.add_assoc _ _ _))⟩))); try go_wp2_with (first | (go_at_call 39; (with_reducible refine (laws_eqInt64S.calls k1 _ _ (rd_L3 l0 x5_1) _ _ (rd_L3 l1 x5_1) false _ ?side1 ?side2 ?side3 ?side4 A7.out).mono ?_); (case side1 => repeat (first | exact HR220_0.out | (with_reducible refine Kd.C_alloc ?_ _) | (with_reducible refine Kd.C_drewN ?_ _) | (with_reducible refine Kd.C_drew ?_))); (case side2 => exact HC220_0.out); (case side3 => repeat (first | exact HR221_0.out | (with_reducible refine Kd.C_alloc ?_ _) | (with_reducible refine Kd.C_drewN ?_ _) | (with_reducible refine Kd.C_drew ?_))); (case side4 => exact HC221_0.out); rintro e w' ⟨rfl, ⟨nd, rfl⟩⟩; (try first | exact ⟨rfl, _, World.drewN_drewN _ _ _⟩ | exact ⟨rfl, _, Eq.trans (World.drewN_drewN _ _ _) (congrArg (World.drewN _) (Nat.add_assoc _ _ _))⟩))))
                go_ret
                exact ⟨by first | rfl | (simp; done) | (simp [*]; done), by repeat (first | exact Drawn0.refl _ | apply Drawn0.step)⟩
            · rw [if_neg c6] at H
              exact absurd H (by simp)
          · rw [if_neg c5] at H
            exact absurd H (by simp)
        · rw [if_neg c4] at H
          have c4b0 : decide (x5_1 < (l0.length : Int)) = false := decide_eq_false c4
          clear c4
          obtain rfl := Option.some.inj H
          go_wp2
          repeat (go_quiet (fail); try go_wp2)
          go_ret
          exact ⟨by first | rfl | (simp; done) | (simp [*]; done), by repeat (first | exact Drawn0.refl _ | apply Drawn0.step)⟩
  · rw [if_neg c3] at H
    have c3b0 : ((l0.length : Int) == (l1.length : Int)) = false := beq_eq_false_iff_ne.mpr c3
    have c3b1 : ((l0.length : Int) != (l1.length : Int)) = true := bne_iff_ne.mpr c3
    have c3b2 : (l0.length == l1.length) = false := by first | simpa using c3 | (simp at c3 ⊢; omega)
    obtain rfl := Option.some.inj H
    go_enter Try.func19, Try.ntmps19
    go_wp2
    repeat (go_quiet (fail); try go_wp2)
    go_ret
    exact ⟨by first | rfl | (simp; done) | (simp [*]; done), by repeat (first | exact Drawn0.refl _ | apply Drawn0.step)⟩

/-! ### laws_markInt64S: function 40 -/
def laws_markInt64S.l0 : Nat → List Int → Int → Int → Option (Int × List Int)
  | 0, _, _, _ => none
  | k + 1, x0, x1, x5 => if x5 < (x0.length : Int) then (if 0 ≤ x5 then (laws_markInt64S.l0 k (x0.set (x5 : Int).toNat x1) (wrap64 (x1 + 1)) (wrap64 (x5 + 1))) else (none)) else (some (x1, x0))
def laws_markInt64S.f (k : Nat) (l0 : List Int) (a1 : Int) : Option (Int × List Int) := laws_markInt64S.l0 k l0 a1 0
theorem laws_markInt64S.mono_l : ∀ k, (∀ y0 y1 y2, LeO (laws_markInt64S.l0 k y0 y1 y2) (laws_markInt64S.l0 (k + 1) y0 y1 y2))
  | 0 => fun _ _ _ r h => by simp [laws_markInt64S.l0] at h
  | k + 1 => by
    have ih0 := laws_markInt64S.mono_l k
    · intro y0 y1 y2
      unfold laws_markInt64S.l0
      repeat' first
      | (with_reducible exact ih0 _ _ _)
      | (with_reducible exact LeO.refl _)
      | (with_reducible exact LeO.none _)
      | (with_reducible refine LeO.ite ?_ ?_)
      | (with_reducible refine LeO.bind ?_ (fun _ => ?_))
      | exact ih0 _ _ _
      | exact LeO.none _
      | refine LeO.ite ?_ ?_
      | refine LeO.bind ?_ (fun _ => ?_)
theorem laws_markInt64S.mono : ∀ a0 a1 k, LeO (laws_markInt64S.f k a0 a1) (laws_markInt64S.f (k + 1) a0 a1) := by
  intro a0 a1 k
  have ih0 := laws_markInt64S.mono_l k
  unfold laws_markInt64S.f
  repeat' first
      | (with_reducible exact ih0 _ _ _)
      | (with_reducible exact LeO.refl _)
      | (with_reducible exact LeO.none _)
      | (with_reducible refine LeO.ite ?_ ?_)
      | (with_reducible refine LeO.bind ?_ (fun _ => ?_))
      | exact ih0 _ _ _
      | exact LeO.none _
      | refine LeO.ite ?_ ?_
      | refine LeO.bind ?_ (fun _ => ?_)
set_option maxHeartbeats 8000000 in
set_option maxRecDepth 100000 in
theorem laws_markInt64S.calls (k : Nat) (P0_ : Nat → Prop) (u9000_ : Value) (l0 : List Int) (a1 : Int) (r1 : Int) (r2 : List Int) (w0 w : World) (hB : Below w0.heap.size w0 w) (ho0 : Kd.R (Kd.int .i64) 2 w w0.heap.size P0_ u9000_ l0) (h : laws_markInt64S.f k l0 a1 = some (r1, r2)) :
    Calls Try.prog 40 #[u9000_, .int .i64 a1] w fun e w' => e = .returned (.int .i64 r1) ∧ Kd.R (Kd.int .i64) 2 w' w0.heap.size (fun k_ => (P0_ k_ ∨ w.heap.size ≤ k_)) u9000_ r2 ∧ Below w0.heap.size w0 w' ∧ Kept w w' (fun k_ => P0_ k_) := by
  have HO0 := Aside0.mk (show Kd.R (Kd.int .i64) 2 w w0.heap.size (fun k_ => (P0_ k_ ∨ w.heap.size ≤ k_)) u9000_ l0 from Kd.R_mono ho0 (fun k_ hk => (.inl hk)))
  have HK := Aside0.mk (Kept.refl w (fun k_ => P0_ k_))
  have HW0 := Aside0.mk hB.size
  have HB := Aside0.mk hB
  clear hB
  have H : (laws_markInt64S.l0 k l0 a1 0) = some (r1, r2) := h
  clear h
  have H' := Aside0.mk H
  clear H
  go_enter Try.func40, Try.ntmps40
  go_wp2
  go_loopg [1, 5] k (fun kq v1 v5 w' => ∃ (x0_1 : List Int) (x1_1 : Int) (x5_1 : Int), v1 = .int .i64 x1_1 ∧ v5 = .int .i64 x5_1 ∧ Aside0 (laws_markInt64S.l0 kq x0_1 x1_1 x5_1 = some (r1, r2)) ∧ Aside0 (kq ≤ k) ∧ Aside0 (Kd.R (Kd.int .i64) 2 w' w0.heap.size (fun k_ => (P0_ k_ ∨ w.heap.size ≤ k_)) u9000_ x0_1) ∧ Aside0 (Kept w w' (fun k_ => P0_ k_)) ∧ Aside0 (Below w0.heap.size w0 w'))
  case atStart => exact ⟨(l0), (a1), (0), (by first | rfl | (simp; done) | (simp [*]; done)), (by first | rfl | (simp; done) | (simp [*]; done)), H', ⟨Nat.le_refl _⟩, ⟨by (with_reducible repeat (first | apply Kd.R_alloc | apply Kd.R_drewN | apply Kd.R_drew)); exact HO0.out⟩, ⟨by repeat (first | (with_reducible first | exact HK.out | apply Kept.alloc | apply Kept.drewN | apply Kept.drew) | exact HK.out)⟩, ⟨by repeat (first | (with_reducible first | exact HB.out | apply below_alloc | apply pw_below_drewN | apply below_drew1) | exact HB.out)⟩⟩
  case round =>
    clear H'
    try clear p2
    obtain ⟨x0_1, x1_1, x5_1, rfl, rfl, HA, HK1, HO_0, HK, HB⟩ := hrel
    cases gk with
    | zero => exact absurd HA.out (by simp [laws_markInt64S.l0])
    | succ k1 =>
      have H := HA.out
      clear HA
      simp only [laws_markInt64S.l0] at H
      by_cases c3 : x5_1 < (x0_1.length : Int)
      · rw [if_pos c3] at H
        have c3b0 : decide (x5_1 < (x0_1.length : Int)) = true := decide_eq_true c3
        clear c3
        by_cases c4 : 0 ≤ x5_1
        · rw [if_pos c4] at H
          have c4b0 : decide (0 ≤ x5_1) = true := decide_eq_true c4
          clear c4
          obtain ⟨y223, hy223⟩ : ∃ y_ : List Int, y_ = (x0_1.set (x5_1 : Int).toNat x1_1) := ⟨_, rfl⟩
          replace H : (laws_markInt64S.l0 k1 y223 (wrap64 (x1_1 + 1)) (wrap64 (x5_1 + 1))) = some (r1, r2) := by first | (rw [hy223]; with_reducible exact H) | (have H2_ := (Option.bind_some _ _).symm.trans H; rw [hy223]; with_reducible exact H2_) | (have H2_ := (Option.bind_some _ _).symm.trans H; with_reducible exact H2_) | with_reducible exact H | (rw [hy223]; exact H) | exact H
          have Ny223 := Aside0.mk hy223
          clear hy223
          have H' := Aside0.mk H
          clear H
          obtain ⟨Ao6, co6, eo6⟩ := Kd.R_slice HO_0.out
          subst eo6
          have p5 : 0 ≤ (x5_1 : Int) := of_decide_eq_true (by first | (with_reducible assumption) | assumption)
          have q5 : (x5_1 : Int) < ((x0_1.length : Int) : Int) := of_decide_eq_true (by first | (with_reducible assumption) | assumption)
          obtain ⟨go5, co5, eo5, gb5, gl5, cl5, HG5⟩ := Kd.R_form HO_0.out (by omega)
          (first | cases eo5 | (injection eo5 with ea_ en_ ec_; (first | subst ea_ | (injection ea_ with ea_; subst ea_)); subst ec_; clear en_))
          have GB5 := Aside0.mk gb5
          have GG5 := Aside0.mk HG5
          clear gb5 gl5 HG5
          have HMgo5 := Aside0.mk (show (P0_ go5 ∨ w.heap.size ≤ go5) from (HO_0.out.1 _ rfl))
          obtain ⟨hx5_0, hf5_0⟩ := Kd.R_celln 0 HO_0.out (x5_1 : Int) p5 q5
          replace p5 := eq_true p5
          replace q5 := eq_true q5
          have HP7 := Kd.R_putg HO_0.out (x5_1 : Int) x1_1
          go_wp2_with (first | ((with_reducible refine gate_store (t := 2) (p := 15) rfl ?_); refine store_event (t := 2) (p := 15) (v := ?vo_w8) (w1 := (wr.setCell ⟨go5, (x5_1 : Int).toNat, none⟩ (.int .i64 x1_1))) ?hg ?ho ?hn ?hr ?_; (case ho => rfl); (case hg => rfl); (case hn => rfl); (case hr => first | (go_simp; done) | (go_simp; rfl)); intro w8 hw; have hg : wr.grownBy w8 (some go5) := (by rw [hw]; exact HP7.2); have hp_ : Kd.R (Kd.int .i64) 2 w8 w0.heap.size (fun k_ => (P0_ k_ ∨ w.heap.size ≤ k_)) (.slice (some ⟨go5, 0, none⟩) x0_1.length co6) y223 := (by rw [hw, Ny223.out]; exact HP7.1); clear HP7; have n0_ := Aside0.mk (hp_); have n1_ := Aside0.mk ((by rw [hw]; exact below_set (HB.out) GB5.out : Below w0.heap.size w0 w8)); have n2_ := Aside0.mk (Kept.of_grown (S := (fun k_ => P0_ k_)) hg (by repeat (first | (with_reducible first | exact HK.out | apply Kept.alloc | apply Kept.drewN | apply Kept.drew) | exact HK.out)) (fun k_ e_ => (HO_0.out.1 k_ e_))); clear HO_0; clear HB; clear HK; have HO_0 := n0_; have HB := n1_; have HK := n2_; clear n0_ n1_ n2_; clear hg hw hp_))
          go_roundg k1
          case measure => have := HK1.out; omega
          case rel => exact ⟨(y223), (wrap64 (x1_1 + 1)), (wrap64 (x5_1 + 1)), (by first | rfl | (simp; done) | (simp [*]; done)), (by first | rfl | (simp; done) | (simp [*]; done)), H', ⟨by have := HK1.out; omega⟩, ⟨by (with_reducible repeat (first | apply Kd.R_alloc | apply Kd.R_drewN | apply Kd.R_drew)); exact HO_0.out⟩, ⟨by repeat (first | (with_reducible first | exact HK.out | apply Kept.alloc | apply Kept.drewN | apply Kept.drew) | exact HK.out)⟩, ⟨by repeat (first | (with_reducible first | exact HB.out | apply below_alloc | apply pw_below_drewN | apply below_drew1) | exact HB.out)⟩⟩
        · rw [if_neg c4] at H
          exact absurd H (by simp)
      · rw [if_neg c3] at H
        have c3b0 : decide (x5_1 < (x0_1.length : Int)) = false := decide_eq_false c3
        clear c3
        simp only [Option.some.injEq, Prod.mk.injEq] at H
        obtain ⟨rfl, rfl⟩ := H
        obtain ⟨Ao9, co9, eo9⟩ := Kd.R_slice HO_0.out
        subst eo9
        go_wp2
        go_ret
        exact ⟨by first | rfl | (simp [errW_none, errW_some] <;> rfl) | (simp [*, errW_none, errW_some] <;> rfl), by (with_reducible repeat (first | apply Kd.R_alloc | apply Kd.R_drewN | apply Kd.R_drew)); exact HO_0.out, by repeat (first | (with_reducible first | exact HB.out | apply below_alloc | apply pw_below_drewN | apply below_drew1) | exact HB.out), by repeat (first | (with_reducible first | exact HK.out | apply Kept.alloc | apply Kept.drewN | apply Kept.drew) | exact HK.out)⟩

/-! ### laws_markInt64SS: function 20 (by hand) -/
/-- Where a row of the call's own lies. -/
theorem row_at {α : Type} {d : Kd α} {e base : Nat} {ok : Nat → Prop} {W : World} {A : Option Addr} {n c : Nat} {xs : List α} (h : d.R e W base ok (.slice A n c) xs) : (A = none ∧ n = 0 ∧ c = 0) ∨ ∃ g, A = some ⟨g, 0, none⟩ ∧ ok g ∧ base ≤ g := by
  obtain ⟨inner, ho⟩ := Kd.R_own h
  rcases ho.2 with ⟨he, _⟩ | ⟨g, cap, cur, he, hb, _⟩
  · injection he with h1 h2 h3; exact .inl ⟨h1, h2, h3⟩
  · injection he with h1 h2 h3; subst h1; exact .inr ⟨g, rfl, h.1 g rfl, hb⟩
theorem wrap64_small (i : Int) (h0 : 0 ≤ i) (h1 : i < 1000000000) : wrap64 (i + 1) = i + 1 := by unfold wrap64; omega
theorem Kept.comp {w W W2 : World} {P S : Nat → Prop} (h : Kept w W P) (k : Kept W W2 S) (hs : ∀ k, S k → P k ∨ w.heap.size ≤ k) : Kept w W2 P :=
  ⟨Nat.le_trans h.1 k.1, fun i hi hn => (k.2 i (Nat.lt_of_lt_of_le hi h.1) (fun z => (hs i z).elim hn (fun q => by omega))).trans (h.2 i hi hn)⟩
/-- Marks, row by row. -/
def marksSS (k : Nat) : List (List Int) → Int → Option (Int × List (List Int))
  | [], a => some (a, [])
  | l :: ls, a => (laws_markInt64S.f k l a).bind fun r => (marksSS k ls r.1).bind fun q => some (q.1, r.2 :: q.2)
theorem marksSS_mono : ∀ (a0 : List (List Int)) (a1 : Int) k, LeO (marksSS k a0 a1) (marksSS (k + 1) a0 a1) := by
  intro a0
  induction a0 with
  | nil => intro a1 k; exact LeO.refl _
  | cons l ls ih => intro a1 k; exact LeO.bind (laws_markInt64S.mono l a1 k) (fun r => LeO.bind (ih r.1 k) (fun _ => LeO.refl _))
def laws_markInt64SS.f (k : Nat) (ls : List (List Int)) (a : Int) : Option (Int × List (List Int)) := if ls.length ≤ 2000000 then marksSS k ls a else none
theorem laws_markInt64SS.mono : ∀ (a0 : List (List Int)) (a1 : Int) k, LeO (laws_markInt64SS.f k a0 a1) (laws_markInt64SS.f (k + 1) a0 a1) := fun a0 a1 k => LeO.ite (marksSS_mono a0 a1 k) (LeO.refl _)
set_option maxHeartbeats 8000000 in
set_option maxRecDepth 100000 in
theorem laws_markInt64SS.calls (k : Nat) (P_ : Nat → Prop) (v : Value) (ls : List (List Int)) (a : Int) (r : Int) (ls' : List (List Int)) (w0 w : World) (hB : Below w0.heap.size w0 w) (ho : Kd.S (Kd.slice 2 (Kd.int .i64)) 69 w w0.heap.size P_ v ls) (h : laws_markInt64SS.f k ls a = some (r, ls')) :
    Calls Try.prog 20 #[v, .int .i64 a] w fun e w' => e = .returned (.int .i64 r) ∧ Kd.S (Kd.slice 2 (Kd.int .i64)) 69 w' w0.heap.size (fun k_ => P_ k_ ∨ w.heap.size ≤ k_) v ls' ∧ Below w0.heap.size w0 w' ∧ Kept w w' (fun k_ => P_ k_) := by
  obtain ⟨A, c, rfl⟩ := Kd.S_slice ho
  obtain ⟨hl, h⟩ : ls.length ≤ 2000000 ∧ marksSS k ls a = some (r, ls') := by
    unfold laws_markInt64SS.f at h
    by_cases hl : ls.length ≤ 2000000
    · rw [if_pos hl] at h; exact ⟨hl, h⟩
    · rw [if_neg hl] at h; cases h
  have H0 := Aside0.mk (And.intro hB (And.intro ho (And.intro hl h)))
  obtain ⟨n, hn⟩ : ∃ n, n = ls.length := ⟨_, rfl⟩
  rw [← hn]
  have HN := Aside0.mk hn
  clear hB ho hl h hn
  go_enter Try.func20, Try.ntmps20
  go_wp2
  go_loopg [5, 1] (n + 1) (fun kq v5 v1 w' => ∃ (i a1 : Int) (dn rest ls1 : List (List Int)), v5 = .int .i64 i ∧ v1 = .int .i64 a1 ∧ Aside0 (0 ≤ i ∧ i + kq = n + 1 ∧ 1 ≤ kq ∧ i = dn.length ∧ dn.length + rest.length = n) ∧ Aside0 (marksSS k rest a1 = some (r, ls1) ∧ dn ++ ls1 = ls') ∧ Aside0 (Kd.S (Kd.slice 2 (Kd.int .i64)) 69 w' w0.heap.size (fun k_ => P_ k_ ∨ w.heap.size ≤ k_) (.slice A n c) (dn ++ rest)) ∧ Aside0 (Below w0.heap.size w0 w' ∧ Kept w w' (fun k_ => P_ k_)))
  case atStart => exact ⟨0, a, [], ls, ls', rfl, rfl, ⟨by omega, by omega, by omega, rfl, by have := HN.out; simp; omega⟩, ⟨H0.out.2.2.2, rfl⟩, ⟨by rw [HN.out]; exact Kd.S_mono H0.out.2.1 (fun _ hk => .inl hk)⟩, ⟨H0.out.1, Kept.refl _ _⟩⟩
  case round =>
    obtain ⟨i, a1, dn, rest, ls1, rfl, rfl, HA, HF, HS, HB⟩ := hrel
    obtain ⟨k0, kk, k1, k2, k3⟩ := HA.out
    obtain ⟨gq, rfl⟩ : ∃ m, gk = m + 1 := ⟨gk - 1, by omega⟩
    have HK := Aside0.mk (And.intro k0 (And.intro kk (And.intro k2 k3)))
    clear HA k0 kk k1 k2 k3
    by_cases c2 : i < (n : Int)
    · have c2b := decide_eq_true c2
      cases rest with
      | nil => exact absurd c2 (by have := HK.out; simp at this; omega)
      | cons l rest =>
        obtain ⟨b, rfl⟩ : ∃ b, A = some ⟨b, 0, none⟩ := by
          rcases row_at (Kd.S_R HS.out) with ⟨_, z, _⟩ | ⟨g, z, _⟩
          · have := HK.out.1; omega
          · exact ⟨g, z⟩
        obtain ⟨oki, cs, hcl, hM, hcc, hoki, hH⟩ := Kd.S_lend HS.out ([] : List Int) i HK.out.1 c2
        have el : (dn ++ l :: rest).getD i.toNat [] = l := by
          have : i.toNat = dn.length := by have := HK.out; omega
          rw [this]; simp
        rw [el] at hM
        obtain ⟨u, rfl, hR⟩ := hM
        have g0 : wr.cell? ⟨b, i.toNat, none⟩ = some u := by have := hcc 0 u rfl; simpa [Kd.slice] using this
        obtain ⟨Au, cu, rfl⟩ := Kd.R_slice hR
        obtain ⟨⟨r1, l1⟩, hm1, hf1⟩ := Option.bind_eq_some_iff.mp (show (laws_markInt64S.f k l a1).bind (fun r => (marksSS k rest r.1).bind fun q => some (q.1, r.2 :: q.2)) = some (r, ls1) from HF.out.1)
        obtain ⟨⟨q1, q2⟩, hf2, hf3⟩ := Option.bind_eq_some_iff.mp hf1
        have hf3 := Option.some.inj hf3
        simp only [Prod.mk.injEq] at hf3
        have HX := Aside0.mk (And.intro hR (And.intro hoki (And.intro hH (And.intro hm1 (And.intro hf2 hf3)))))
        have HS := Aside0.mk (And.intro HF.out.2 HB.out)
        have p2 := eq_true HK.out.1
        have p3 := eq_true c2
        have C2 := Aside0.mk c2
        clear c2 hR hoki hH hm1 hf1 hf2 hf3 hcc hcl el
        go_wp2_with (fail)
        refine (laws_markInt64S.calls k oki _ l a1 r1 l1 w0 wr HS.out.2.1 HX.out.1 HX.out.2.2.2.1).mono ?_
        rintro e w2 ⟨rfl, hr2, hb2, hk2⟩
        have HY := Aside0.mk (And.intro hr2 (And.intro hb2 hk2))
        clear hr2 hb2 hk2 g0
        go_wp2
        go_roundg gq
        case measure => omega
        case rel =>
          have hw := wrap64_small i (by have := HK.out; omega) (by have := C2.out; have := H0.out.2.2.1; have := HN.out; omega)
          refine ⟨i + 1, r1, dn ++ [l1], rest, q2, by rw [hw], rfl, ⟨by have := HK.out; omega, by have := HK.out; omega, by have := HK.out; have := C2.out; omega, by have := HK.out; simp; omega, by have := HK.out; simp at this ⊢; omega⟩, ⟨by rw [HX.out.2.2.2.2.1, HX.out.2.2.2.2.2.1], by rw [← HS.out.1, ← HX.out.2.2.2.2.2.2]; simp⟩, ⟨?_⟩, ⟨HY.out.2.1, ?_⟩⟩
          · have hsz := HS.out.2.2.1
            have h1 := Kd.H_widen HX.out.2.2.1
            have h2 : Kd.H (Kd.slice 2 (Kd.int .i64)) 69 w2 w0.heap.size (fun k_ => P_ k_ ∨ w.heap.size ≤ k_) (.slice (some ⟨b, 0, none⟩) n c) (dn ++ l :: rest) i (fun k => oki k ∨ ((P_ k ∨ w.heap.size ≤ k) ∧ wr.heap.size ≤ k)) [.slice Au l.length cu] := Kd.H_step h1 (fun k hk hn hlt => HY.out.2.2.2 k hlt (fun z => hn (.inl z)))
            have hM2 : (Kd.slice 2 (Kd.int .i64)).M w2 w0.heap.size (fun k => oki k ∨ wr.heap.size ≤ k) l1 [.slice Au l.length cu] := ⟨_, rfl, HY.out.1⟩
            have h3 := Kd.H_back h2 hM2 (fun k hk => hk.elim .inl (fun z => .inr ⟨.inr (Nat.le_trans hsz z), z⟩))
            have e : (dn ++ l :: rest).set i.toNat l1 = dn ++ [l1] ++ rest := by
              have : i.toNat = dn.length := by have := HK.out; omega
              rw [this]; simp
            rw [e] at h3
            exact h3
          · exact Kept.comp HS.out.2.2 HY.out.2.2 (fun k hk => (HX.out.2.1 k hk).1)
    · have c2b := decide_eq_false c2
      have C2 := Aside0.mk c2
      clear c2
      go_wp2
      go_ret
      obtain rfl : rest = [] := by
        have := HK.out; have := C2.out
        exact List.length_eq_zero_iff.1 (by omega)
      have hf : some (a1, ([] : List (List Int))) = some (r, ls1) := HF.out.1
      have hf := Option.some.inj hf
      simp only [Prod.mk.injEq] at hf
      obtain ⟨rfl, rfl⟩ := hf
      have h1 := HF.out.2
      have h2 := HS.out
      rw [List.append_nil] at h1 h2
      subst h1
      exact ⟨rfl, h2, HB.out.1, HB.out.2⟩

/-! ### laws_heldInt64S: function 41 -/
def laws_heldInt64S.l0 : Nat → List Int → Int → Int → Option (Int)
  | 0, _, _, _ => none
  | k + 1, x0, x1, x5 => if x5 < (x0.length : Int) then (if 0 ≤ x5 then (if (rd x0 x5) = x1 then (laws_heldInt64S.l0 k x0 (wrap64 (x1 + 1)) (wrap64 (x5 + 1))) else (some (-1))) else (none)) else (some x1)
def laws_heldInt64S.f (k : Nat) (l0 : List Int) (a1 : Int) : Option (Int) := laws_heldInt64S.l0 k l0 a1 0
theorem laws_heldInt64S.mono_l : ∀ k, (∀ y0 y1 y2, LeO (laws_heldInt64S.l0 k y0 y1 y2) (laws_heldInt64S.l0 (k + 1) y0 y1 y2))
  | 0 => fun _ _ _ r h => by simp [laws_heldInt64S.l0] at h
  | k + 1 => by
    have ih0 := laws_heldInt64S.mono_l k
    · intro y0 y1 y2
      unfold laws_heldInt64S.l0
      repeat' first
      | (with_reducible exact ih0 _ _ _)
      | (with_reducible exact LeO.refl _)
      | (with_reducible exact LeO.none _)
      | (with_reducible refine LeO.ite ?_ ?_)
      | (with_reducible refine LeO.bind ?_ (fun _ => ?_))
      | exact ih0 _ _ _
      | exact LeO.none _
      | refine LeO.ite ?_ ?_
      | refine LeO.bind ?_ (fun _ => ?_)
theorem laws_heldInt64S.mono : ∀ a0 a1 k, LeO (laws_heldInt64S.f k a0 a1) (laws_heldInt64S.f (k + 1) a0 a1) := by
  intro a0 a1 k
  have ih0 := laws_heldInt64S.mono_l k
  unfold laws_heldInt64S.f
  repeat' first
      | (with_reducible exact ih0 _ _ _)
      | (with_reducible exact LeO.refl _)
      | (with_reducible exact LeO.none _)
      | (with_reducible refine LeO.ite ?_ ?_)
      | (with_reducible refine LeO.bind ?_ (fun _ => ?_))
      | exact ih0 _ _ _
      | exact LeO.none _
      | refine LeO.ite ?_ ?_
      | refine LeO.bind ?_ (fun _ => ?_)
set_option maxHeartbeats 8000000 in
set_option maxRecDepth 100000 in
theorem laws_heldInt64S.calls (k : Nat) (A0 : Option Addr) (c0 : Nat) (l0 : List Int) (a1 : Int) (r : Int) (w : World) (hr0 : Kd.C (Kd.int .i64) w A0 l0.length l0) (hc0 : l0.length ≤ c0) (h : laws_heldInt64S.f k l0 a1 = some r) :
    Calls Try.prog 41 #[.slice A0 l0.length c0, .int .i64 a1] w fun e w' => e = .returned (.int .i64 r) ∧ Drawn0 w w' := by
  have HR0 := Aside0.mk hr0
  have HC0 := Aside0.mk hc0
  clear hr0 hc0
  have H : (laws_heldInt64S.l0 k l0 a1 0) = some r := h
  clear h
  have H' := Aside0.mk H
  clear H
  go_enter Try.func41, Try.ntmps41
  go_wp2
  go_loopg [1, 5] k (fun kq v1 v5 w' => ∃ (x1_1 : Int) (x5_1 : Int), v1 = .int .i64 x1_1 ∧ v5 = .int .i64 x5_1 ∧ Aside0 (laws_heldInt64S.l0 kq l0 x1_1 x5_1 = some r) ∧ Aside0 (kq ≤ k) ∧ Drawn0 w w')
  case atStart => exact ⟨(a1), (0), (by first | rfl | (simp; done) | (simp [*]; done)), (by first | rfl | (simp; done) | (simp [*]; done)), H', ⟨Nat.le_refl _⟩, by repeat (first | exact Drawn0.refl _ | apply Drawn0.step)⟩
  case round =>
    clear H'
    try clear p2
    obtain ⟨x1_1, x5_1, rfl, rfl, HA, HK1, ⟨m1, rfl⟩⟩ := hrel
    cases gk with
    | zero => exact absurd HA.out (by simp [laws_heldInt64S.l0])
    | succ k1 =>
      have H := HA.out
      clear HA
      simp only [laws_heldInt64S.l0] at H
      by_cases c3 : x5_1 < (l0.length : Int)
      · rw [if_pos c3] at H
        have c3b0 : decide (x5_1 < (l0.length : Int)) = true := decide_eq_true c3
        clear c3
        by_cases c4 : 0 ≤ x5_1
        · rw [if_pos c4] at H
          have c4b0 : decide (0 ≤ x5_1) = true := decide_eq_true c4
          clear c4
          by_cases c5 : (rd l0 x5_1) = x1_1
          · rw [if_pos c5] at H
            have c5b0 : ((rd l0 x5_1) == x1_1) = true := beq_iff_eq.mpr c5
            have c5b1 : ((rd l0 x5_1) != x1_1) = false := bne_eq_false_iff_eq.mpr c5
            clear c5
            have H' := Aside0.mk H
            clear H
            have p224 : 0 ≤ (x5_1 : Int) := of_decide_eq_true (by first | (with_reducible assumption) | assumption)
            have q224 : x5_1 < (l0.length : Int) := of_decide_eq_true (by first | (with_reducible assumption) | assumption)
            obtain ⟨ad224, e224, hx224_0⟩ := Kd.at_int HR0.out x5_1 p224 q224
            cases e224
            replace p224 := eq_true p224
            replace q224 := eq_true q224
            go_wp2
            go_roundg k1
            case measure => have := HK1.out; omega
            case rel => exact ⟨(wrap64 (x1_1 + 1)), (wrap64 (x5_1 + 1)), (by first | rfl | (simp; done) | (simp [*]; done)), (by first | rfl | (simp; done) | (simp [*]; done)), H', ⟨by have := HK1.out; omega⟩, by repeat (first | exact Drawn0.refl _ | apply Drawn0.step)⟩
          · rw [if_neg c5] at H
            have c5b0 : ((rd l0 x5_1) == x1_1) = false := beq_eq_false_iff_ne.mpr c5
            have c5b1 : ((rd l0 x5_1) != x1_1) = true := bne_iff_ne.mpr c5
            obtain rfl := Option.some.inj H
            have p224 : 0 ≤ (x5_1 : Int) := of_decide_eq_true (by first | (with_reducible assumption) | assumption)
            have q224 : x5_1 < (l0.length : Int) := of_decide_eq_true (by first | (with_reducible assumption) | assumption)
            obtain ⟨ad224, e224, hx224_0⟩ := Kd.at_int HR0.out x5_1 p224 q224
            cases e224
            replace p224 := eq_true p224
            replace q224 := eq_true q224
            go_wp2
            go_ret
            exact ⟨by first | rfl | (simp; done) | (simp [*]; done), by repeat (first | exact Drawn0.refl _ | apply Drawn0.step)⟩
        · rw [if_neg c4] at H
          exact absurd H (by simp)
      · rw [if_neg c3] at H
        have c3b0 : decide (x5_1 < (l0.length : Int)) = false := decide_eq_false c3
        clear c3
        obtain rfl := Option.some.inj H
        go_wp2
        go_ret
        exact ⟨by first | rfl | (simp; done) | (simp [*]; done), by repeat (first | exact Drawn0.refl _ | apply Drawn0.step)⟩

/-! ### laws_heldInt64SS: function 21 -/
def laws_heldInt64SS.l0 : Nat → List (List Int) → Int → Int → Option (Int)
  | 0, _, _, _ => none
  | k + 1, x0, x1, x5 => if x5 < (x0.length : Int) then (if 0 ≤ x5 then ((laws_heldInt64S.f k (rd_L3 x0 x5) x1).bind fun t226 => (if t226 < 0 then (some (-1)) else (laws_heldInt64SS.l0 k x0 t226 (wrap64 (x5 + 1))))) else (none)) else (some x1)
def laws_heldInt64SS.f (k : Nat) (l0 : List (List Int)) (a1 : Int) : Option (Int) := laws_heldInt64SS.l0 k l0 a1 0
theorem laws_heldInt64SS.mono_l : ∀ k, (∀ y0 y1 y2, LeO (laws_heldInt64SS.l0 k y0 y1 y2) (laws_heldInt64SS.l0 (k + 1) y0 y1 y2))
  | 0 => fun _ _ _ r h => by simp [laws_heldInt64SS.l0] at h
  | k + 1 => by
    have ih0 := laws_heldInt64SS.mono_l k
    · intro y0 y1 y2
      unfold laws_heldInt64SS.l0
      repeat' first
      | (with_reducible exact ih0 _ _ _)
      | (with_reducible exact laws_heldInt64S.mono _ _ _)
      | (with_reducible exact LeO.refl _)
      | (with_reducible exact LeO.none _)
      | (with_reducible refine LeO.ite ?_ ?_)
      | (with_reducible refine LeO.bind ?_ (fun _ => ?_))
      | exact ih0 _ _ _
      | exact laws_heldInt64S.mono _ _ _
      | exact LeO.none _
      | refine LeO.ite ?_ ?_
      | refine LeO.bind ?_ (fun _ => ?_)
theorem laws_heldInt64SS.mono : ∀ a0 a1 k, LeO (laws_heldInt64SS.f k a0 a1) (laws_heldInt64SS.f (k + 1) a0 a1) := by
  intro a0 a1 k
  have ih0 := laws_heldInt64SS.mono_l k
  unfold laws_heldInt64SS.f
  repeat' first
      | (with_reducible exact ih0 _ _ _)
      | (with_reducible exact laws_heldInt64S.mono _ _ _)
      | (with_reducible exact LeO.refl _)
      | (with_reducible exact LeO.none _)
      | (with_reducible refine LeO.ite ?_ ?_)
      | (with_reducible refine LeO.bind ?_ (fun _ => ?_))
      | exact ih0 _ _ _
      | exact laws_heldInt64S.mono _ _ _
      | exact LeO.none _
      | refine LeO.ite ?_ ?_
      | refine LeO.bind ?_ (fun _ => ?_)
set_option maxHeartbeats 8000000 in
set_option maxRecDepth 100000 in
theorem laws_heldInt64SS.calls (k : Nat) (A0 : Option Addr) (c0 : Nat) (l0 : List (List Int)) (a1 : Int) (r : Int) (w : World) (hr0 : Kd.C (Kd.slice 2 (Kd.int .i64)) w A0 l0.length l0) (hc0 : l0.length ≤ c0) (h : laws_heldInt64SS.f k l0 a1 = some r) :
    Calls Try.prog 21 #[.slice A0 l0.length c0, .int .i64 a1] w fun e w' => e = .returned (.int .i64 r) ∧ Drawn0 w w' := by
  have HR0 := Aside0.mk hr0
  have HC0 := Aside0.mk hc0
  clear hr0 hc0
  have H : (laws_heldInt64SS.l0 k l0 a1 0) = some r := h
  clear h
  have H' := Aside0.mk H
  clear H
  go_enter Try.func21, Try.ntmps21
  go_wp2
  go_loopg [1, 5] k (fun kq v1 v5 w' => ∃ (x1_1 : Int) (x5_1 : Int), v1 = .int .i64 x1_1 ∧ v5 = .int .i64 x5_1 ∧ Aside0 (laws_heldInt64SS.l0 kq l0 x1_1 x5_1 = some r) ∧ Aside0 (kq ≤ k) ∧ Drawn0 w w')
  case atStart => exact ⟨(a1), (0), (by first | rfl | (simp; done) | (simp [*]; done)), (by first | rfl | (simp; done) | (simp [*]; done)), H', ⟨Nat.le_refl _⟩, by repeat (first | exact Drawn0.refl _ | apply Drawn0.step)⟩
  case round =>
    clear H'
    try clear c2
    try clear p2
    obtain ⟨x1_1, x5_1, rfl, rfl, HA, HK1, ⟨m1, rfl⟩⟩ := hrel
    cases gk with
    | zero => exact absurd HA.out (by simp [laws_heldInt64SS.l0])
    | succ k1 =>
      have H := HA.out
      clear HA
      simp only [laws_heldInt64SS.l0] at H
      by_cases c3 : x5_1 < (l0.length : Int)
      · rw [if_pos c3] at H
        have c3b0 : decide (x5_1 < (l0.length : Int)) = true := decide_eq_true c3
        clear c3
        by_cases c4 : 0 ≤ x5_1
        · rw [if_pos c4] at H
          have c4b0 : decide (0 ≤ x5_1) = true := decide_eq_true c4
          clear c4
          replace H := Option.bind_eq_some_iff.mp H
          obtain ⟨t226, A50, H⟩ := H
          replace H : (if t226 < 0 then (some (-1)) else (laws_heldInt64SS.l0 k1 l0 t226 (wrap64 (x5_1 + 1)))) = some r := H
          have A5 := Aside0.mk A50
          clear A50
          by_cases c6 : t226 < 0
          · rw [if_pos c6] at H
            have c6b0 : decide (t226 < 0) = true := decide_eq_true c6
            clear c6
            obtain rfl := Option.some.inj H
            have p225 : 0 ≤ (x5_1 : Int) := of_decide_eq_true (by first | (with_reducible assumption) | assumption)
            have q225 : x5_1 < (l0.length : Int) := of_decide_eq_true (by first | (with_reducible assumption) | assumption)
            obtain ⟨ad225, A225_0, c225_0, e225, hx225_0, hl225_0, hi225_0⟩ := at_L3 HR0.out x5_1 p225 q225
            cases e225
            have HR225_0 := Aside0.mk hi225_0
            have HC225_0 := Aside0.mk hl225_0
            clear hi225_0 hl225_0
            replace p225 := eq_true p225
            replace q225 := eq_true q225
            go_wp2_with (first | ((with_reducible refine gate_callee (f := 41) rfl ?_); refine goesL_ (some 17) rfl rfl Try.func41 (by kernel_rfl) rfl #[.slice A225_0 (rd_L3 l0 x5_1).length c225_0, .int .i64 x1_1] rfl (by (try simp only [List.map_toArray, List.map_cons, List.map_nil]); first | done | rfl | (simp only [List.length_drop, List.length_take]; rfl)) ?_; (with_reducible refine (laws_heldInt64S.calls k1 _ _ (rd_L3 l0 x5_1) x1_1 t226 _ ?side1 ?side2 A5.out).mono ?_); (case side1 => repeat (first | exact HR225_0.out | (with_reducible refine Kd.C_alloc ?_ _) | (with_reducible refine Kd.C_drewN ?_ _) | (with_reducible refine Kd.C_drew ?_))); (case side2 => exact HC225_0.out); rintro e w' ⟨rfl, ⟨nd, rfl⟩⟩; refine ⟨_, rfl, ?_⟩))
            go_ret
            exact ⟨by first | rfl | (simp; done) | (simp [*]; done), by repeat (first | exact Drawn0.refl _ | apply Drawn0.step)⟩
          · rw [if_neg c6] at H
            have c6b0 : decide (t226 < 0) = false := decide_eq_false c6
            clear c6
            have H' := Aside0.mk H
            clear H
            have p225 : 0 ≤ (x5_1 : Int) := of_decide_eq_true (by first | (with_reducible assumption) | assumption)
            have q225 : x5_1 < (l0.length : Int) := of_decide_eq_true (by first | (with_reducible assumption) | assumption)
            obtain ⟨ad225, A225_0, c225_0, e225, hx225_0, hl225_0, hi225_0⟩ := at_L3 HR0.out x5_1 p225 q225
            cases e225
            have HR225_0 := Aside0.mk hi225_0
            have HC225_0 := Aside0.mk hl225_0
            clear hi225_0 hl225_0
            replace p225 := eq_true p225
            replace q225 := eq_true q225
            go_wp2_with (first | ((with_reducible refine gate_callee (f := 41) rfl ?_); refine goesL_ (some 17) rfl rfl Try.func41 (by kernel_rfl) rfl #[.slice A225_0 (rd_L3 l0 x5_1).length c225_0, .int .i64 x1_1] rfl (by (try simp only [List.map_toArray, List.map_cons, List.map_nil]); first | done | rfl | (simp only [List.length_drop, List.length_take]; rfl)) ?_; (with_reducible refine (laws_heldInt64S.calls k1 _ _ (rd_L3 l0 x5_1) x1_1 t226 _ ?side1 ?side2 A5.out).mono ?_); (case side1 => repeat (first | exact HR225_0.out | (with_reducible refine Kd.C_alloc ?_ _) | (with_reducible refine Kd.C_drewN ?_ _) | (with_reducible refine Kd.C_drew ?_))); (case side2 => exact HC225_0.out); rintro e w' ⟨rfl, ⟨nd, rfl⟩⟩; refine ⟨_, rfl, ?_⟩))
            go_roundg k1
            case measure => have := HK1.out; omega
            case rel => exact ⟨(t226), (wrap64 (x5_1 + 1)), (by first | rfl | (simp; done) | (simp [*]; done)), (by first | rfl | (simp; done) | (simp [*]; done)), H', ⟨by have := HK1.out; omega⟩, by repeat (first | exact Drawn0.refl _ | apply Drawn0.step)⟩
        · rw [if_neg c4] at H
          exact absurd H (by simp)
      · rw [if_neg c3] at H
        have c3b0 : decide (x5_1 < (l0.length : Int)) = false := decide_eq_false c3
        clear c3
        obtain rfl := Option.some.inj H
        go_wp2
        go_ret
        exact ⟨by first | rfl | (simp; done) | (simp [*]; done), by repeat (first | exact Drawn0.refl _ | apply Drawn0.step)⟩

/-! ### laws_FnExactPartsOfWay: function 5 (by hand) -/
def laws_FnExactPartsOfWay.f (k : Nat) (a0_0 : Int) (a0_1 : Int) (a0_2 : Bool) (l1 : List S66) : Option Bool :=
  (laws_szStopS.f l1 1048576).bind fun t => if t < 0 then some true else
  (laws_toStopS.f k l1).bind fun ws => (spec_PartsOfWay.f k a0_0 a0_1 a0_2 ws).bind fun sp => (impl_PartsOfWay.f k a0_0 a0_1 a0_2 ws).bind fun ip =>
  if ip.2 = sp.2 then (laws_eqInt64SS.f k ip.1 sp.1).bind fun e1 => if e1 = true then (laws_eqStopS.f k ws ws).bind fun e2 => if e2 = true then
  (laws_markStopS.f k ws 1).bind fun ms => if 0 ≤ ms.1 then (laws_markInt64SS.f k ip.1 1).bind fun mk => (laws_heldInt64SS.f k mk.2 1).bind fun q => if 0 ≤ q ∧ q = mk.1 then some true else none
  else none else none else none else none
theorem laws_FnExactPartsOfWay.mono : ∀ a0 a1 a2 a3 k, LeO (laws_FnExactPartsOfWay.f k a0 a1 a2 a3) (laws_FnExactPartsOfWay.f (k + 1) a0 a1 a2 a3) := by
  intro a0 a1 a2 a3 k
  refine LeO.bind (LeO.refl _) (fun _ => LeO.ite (LeO.refl _) (LeO.bind (laws_toStopS.mono _ _) (fun _ => LeO.bind (spec_PartsOfWay.mono _ _ _ _ _) (fun _ => LeO.bind (impl_PartsOfWay.mono _ _ _ _ _) (fun _ => LeO.ite (LeO.bind (laws_eqInt64SS.mono _ _ _) (fun _ => LeO.ite (LeO.bind (laws_eqStopS.mono _ _ _) (fun _ => LeO.ite (LeO.bind (laws_markStopS.mono _ _ _) (fun _ => LeO.ite (LeO.bind (laws_markInt64SS.mono _ _ _) (fun _ => LeO.bind (laws_heldInt64SS.mono _ _ _) (fun _ => LeO.refl _))) (LeO.refl _))) (LeO.refl _))) (LeO.refl _))) (LeO.refl _))))))
set_option maxHeartbeats 16000000 in
set_option maxRecDepth 100000 in
theorem laws_FnExactPartsOfWay.calls (k : Nat) (a0_0 : Int) (a0_1 : Int) (a0_2 : Bool) (A1 : Option Addr) (c1 : Nat) (l1 : List (S66)) (r : Bool) (w : World) (hr1 : Kd.C k66 w A1 l1.length l1) (hc1 : l1.length ≤ c1) (h : laws_FnExactPartsOfWay.f k a0_0 a0_1 a0_2 l1 = some r) :
    Calls Try.prog 5 #[.agg #[.int .i64 a0_0, .int .i64 a0_1, .bool a0_2], .slice A1 l1.length c1] w fun e w' => e = .returned (.bool r) ∧ Below w.heap.size w w' := by
  obtain ⟨t, hsz, h⟩ := Option.bind_eq_some_iff.mp h
  have HR := Aside0.mk (And.intro hr1 (And.intro hc1 hsz))
  clear hr1 hc1 hsz
  by_cases c0 : t < 0
  · have hr : true = r := Option.some.inj (by have h' : (if t < 0 then some true else _) = some r := h; rw [if_pos c0] at h'; exact h')
    subst hr
    have c0b := decide_eq_true c0
    clear h c0
    go_enter Try.func5, Try.ntmps5
    go_wp2_with (go_at_call 15; refine (laws_szStopS.calls _ _ l1 1048576 t _ (Kd.C_below HR.out.1 (below_alloc (Below.refl _ _) _)) HR.out.2.1 HR.out.2.2).mono ?_; rintro e w1 ⟨rfl, hd⟩; have HB := Aside0.mk (below_step (below_alloc (Below.refl w.heap.size w) _) (Drawn0.below hd)); clear hd)
    go_ret
    exact ⟨rfl, HB.out⟩
  · have h' := h
    rw [if_neg c0] at h'
    clear h
    obtain ⟨ws, hws, h⟩ := Option.bind_eq_some_iff.mp h'
    obtain ⟨⟨sp1, sp2⟩, hsp, h⟩ := Option.bind_eq_some_iff.mp h
    obtain ⟨⟨ip1, ip2⟩, hip, h⟩ := Option.bind_eq_some_iff.mp h
    have h := h
    by_cases c1 : ip2 = sp2
    case neg => exact absurd h (by simp only [if_neg c1]; simp)
    rw [if_pos c1] at h
    obtain ⟨e1, he1, h⟩ := Option.bind_eq_some_iff.mp h
    cases e1 with
    | false => exact absurd h (by simp)
    | true =>
      rw [if_pos rfl] at h
      obtain ⟨e2, he2, h⟩ := Option.bind_eq_some_iff.mp h
      cases e2 with
      | false => exact absurd h (by simp)
      | true =>
        rw [if_pos rfl] at h
        obtain ⟨⟨ms1, ms2⟩, hms, h⟩ := Option.bind_eq_some_iff.mp h
        by_cases c2 : 0 ≤ ms1
        case neg => exact absurd h (by simp only [if_neg c2]; simp)
        rw [if_pos c2] at h
        obtain ⟨⟨mk1, mk2⟩, hmk, h⟩ := Option.bind_eq_some_iff.mp h
        obtain ⟨q, hq, h⟩ := Option.bind_eq_some_iff.mp h
        by_cases c3 : 0 ≤ q ∧ q = mk1
        case neg => exact absurd h (by simp only [if_neg c3]; simp)
        rw [if_pos c3] at h
        have hr : true = r := Option.some.inj h
        subst hr
        clear h h'
        have c0b := decide_eq_false c0
        have c1b : (ip2 != sp2) = false := by simp [c1]
        have c2b : decide (ms1 < 0) = false := decide_eq_false (by omega)
        have c3b : decide (q < 0) = false := decide_eq_false (by omega)
        have c4b : (q != mk1) = false := by simp [c3.2]
        have H1 := Aside0.mk (And.intro hws (And.intro hsp (And.intro hip (And.intro he1 (And.intro he2 (And.intro hms (And.intro hmk hq)))))))
        clear hws hsp hip he1 he2 hms hmk hq c0 c1 c2 c3
        go_enter Try.func5, Try.ntmps5
        obtain ⟨gp, HGP⟩ : ∃ g, Aside0 (g = w.heap.size) := ⟨_, ⟨rfl⟩⟩
        go_upto_region 5 with (go_at_call 15; refine (laws_szStopS.calls _ _ l1 1048576 t _ (Kd.C_below HR.out.1 (below_alloc (Below.refl _ _) _)) HR.out.2.1 HR.out.2.2).mono ?_; rintro e w1 ⟨rfl, hd⟩; have HB1 := Aside0.mk (Drawn0.below hd); clear hd)
        rw [← HGP.out]
        have HP1 := Aside0.mk (show w1.heap[gp]? = some (.cells #[.int .i64 a0_0, .int .i64 a0_1, .bool a0_2] 23 (0, 0)) ∧ Below w.heap.size w w1 from by
          have h : (w.alloc (.cells #[.int .i64 a0_0, .int .i64 a0_1, .bool a0_2] 23)).heap[w.heap.size]? = some (.cells #[.int .i64 a0_0, .int .i64 a0_1, .bool a0_2] 23 (0, 0)) := by show (w.heap.push _)[w.heap.size]? = _; rw [Array.getElem?_push, if_pos rfl]
          rw [← HGP.out] at h
          exact ⟨(HB1.out.block _ (blk_lt h)).trans h, below_step (below_alloc (Below.refl w.heap.size w) _) HB1.out⟩)
        clear HB1
        have f0 := blk_cell HP1.out.1 0
        have f1 := blk_cell HP1.out.1 1
        have f2 := blk_cell HP1.out.1 2
        simp only [List.getElem?_toArray, List.getElem?_cons_zero, List.getElem?_cons_succ] at f0 f1 f2
        go_upto_region 6 with (first | (go_at_call 8; refine (laws_toPurchase.calls a0_0 a0_1 a0_2 a0_0 a0_1 a0_2 _ rfl).mono ?_; rintro e w2 ⟨rfl, hb⟩; have HB2 := Aside0.mk hb; clear hb f0 f1 f2) | (go_at_call 17; refine (laws_toStopS.calls k _ _ l1 ws _ (Kd.C_below HR.out.1 (below_step HP1.out.2 HB2.out)) HR.out.2.1 H1.out.1).mono ?_; rintro e w3 ⟨v25, rfl, ho, hb⟩; obtain ⟨A25, c25, rfl⟩ := Kd.R_slice ho; have HB3 := Aside0.mk (And.intro ho hb); clear ho hb) | (go_at_call 16; refine (spec_PartsOfWay.calls k a0_0 a0_1 a0_2 _ _ ws sp1 sp2 _ (Kd.R_reads' HB3.out.1).2.2 (Kd.R_reads' HB3.out.1).2.1 H1.out.2.1).mono ?_; rintro e w4 ⟨v26, rfl, ho, hb⟩; obtain ⟨A26, c26, rfl⟩ := Kd.S_slice ho; have HB4 := Aside0.mk (And.intro ho hb); clear ho hb))
        have HP4 := Aside0.mk (show w4.heap[gp]? = some (.cells #[.int .i64 a0_0, .int .i64 a0_1, .bool a0_2] 23 (0, 0)) ∧ Below w.heap.size w w4 ∧ Kd.S (Kd.slice 2 (Kd.int .i64)) 69 w4 w3.heap.size (fun _ => True) (.slice A26 sp1.length c26) sp1 from by
          have b := below_step (below_step HB2.out HB3.out.2) HB4.out.2
          exact ⟨(b.block _ (blk_lt HP1.out.1)).trans HP1.out.1, below_step HP1.out.2 b, HB4.out.1⟩)
        clear HP1 HB2 HB3 HB4
        go_upto_region 7 with (go_at_call 17; refine (laws_toStopS.calls k _ _ l1 ws _ (Kd.C_below HR.out.1 HP4.out.2.1) HR.out.2.1 H1.out.1).mono ?_; rintro e w5 ⟨v30, rfl, ho, hb⟩; obtain ⟨A30, c30, rfl⟩ := Kd.R_slice ho; have HB5 := Aside0.mk (And.intro ho hb); clear ho hb)
        have hp5 := (HB5.out.2.block _ (blk_lt HP4.out.1)).trans HP4.out.1
        have f0 := blk_cell hp5 0
        have f1 := blk_cell hp5 1
        have f2 := blk_cell hp5 2
        simp only [List.getElem?_toArray, List.getElem?_cons_zero, List.getElem?_cons_succ] at f0 f1 f2
        go_upto_region 8 with (first | (go_at_call 8; refine (laws_toPurchase.calls a0_0 a0_1 a0_2 a0_0 a0_1 a0_2 _ rfl).mono ?_; rintro e w6 ⟨rfl, hb⟩; have HB6 := Aside0.mk hb; clear hb f0 f1 f2) | (go_at_call 18; refine (impl_PartsOfWay.calls k a0_0 a0_1 a0_2 _ _ ws ip1 ip2 _ (Kd.C_below (Kd.R_reads' HB5.out.1).2.2 HB6.out) (Kd.R_reads' HB5.out.1).2.1 H1.out.2.2.1).mono ?_; rintro e w7 ⟨v35, rfl, ho, hb⟩; obtain ⟨A35, c35, rfl⟩ := Kd.S_slice ho; have HB7 := Aside0.mk (And.intro ho hb); clear ho hb))
        clear hp5
        have HF := Aside0.mk (show Below w4.heap.size w4 w7 ∧ Kd.R k53 53 w7 w4.heap.size (fun k => w4.heap.size ≤ k ∧ k < w5.heap.size) (.slice A30 ws.length c30) ws ∧ Kd.S (Kd.slice 2 (Kd.int .i64)) 69 w7 w4.heap.size (fun k => w5.heap.size ≤ k) (.slice A35 ip1.length c35) ip1 from by
          have b57 := below_step HB6.out HB7.out.2
          have s5 := HB5.out.2.size
          have s6 := HB6.out.size
          exact ⟨below_step HB5.out.2 b57, Kd.R_below (Kd.R_mono (Kd.R_bound HB5.out.1) (fun k hk => ⟨hk.2.1, hk.2.2.1⟩)) b57, Kd.S_mono (Kd.S_lower (Kd.S_bound HB7.out.1) (by omega)) (fun k hk => by have := hk.2.1; omega)⟩)
        clear HB6 HB7
        go_upto_region 10 with (go_at_call 19; refine (laws_eqInt64SS.calls k _ _ ip1 _ _ sp1 true _ (Kd.S_reads' HF.out.2.2).2.2 (Kd.S_reads' HF.out.2.2).2.1 (Kd.S_reads' (Kd.S_below HP4.out.2.2 HF.out.1)).2.2 (Kd.S_reads' HP4.out.2.2).2.1 H1.out.2.2.2.1).mono ?_; rintro e w8 ⟨rfl, hd⟩; have HB8 := Aside0.mk (Drawn0.below hd); clear hd)
        go_upto_region 12 with (first | (go_at_call 17; refine (laws_toStopS.calls k _ _ l1 ws _ (Kd.C_below HR.out.1 (below_step (below_step HP4.out.2.1 HF.out.1) HB8.out)) HR.out.2.1 H1.out.1).mono ?_; rintro e w9 ⟨v49, rfl, ho, hb⟩; obtain ⟨A49, c49, rfl⟩ := Kd.R_slice ho; have HB9 := Aside0.mk (And.intro ho (below_step HB8.out hb)); clear ho hb) | (go_at_call 12; refine (laws_eqStopS.calls k _ _ ws _ _ ws true _ (Kd.C_below (Kd.R_reads' HF.out.2.1).2.2 HB9.out.2) (Kd.R_reads' HF.out.2.1).2.1 (Kd.R_reads' HB9.out.1).2.2 (Kd.R_reads' HB9.out.1).2.1 H1.out.2.2.2.2.1).mono ?_; rintro e w10 ⟨rfl, hb⟩; have HB10 := Aside0.mk (below_step HB9.out.2 hb); clear hb))
        have HG := Aside0.mk (show Below w4.heap.size w4 w10 ∧ Kd.R k53 53 w10 w4.heap.size (fun k => w4.heap.size ≤ k ∧ k < w5.heap.size) (.slice A30 ws.length c30) ws ∧ Kd.S (Kd.slice 2 (Kd.int .i64)) 69 w10 w4.heap.size (fun k => w5.heap.size ≤ k) (.slice A35 ip1.length c35) ip1 from
          ⟨below_step HF.out.1 HB10.out, Kd.R_below HF.out.2.1 HB10.out, Kd.S_below HF.out.2.2 HB10.out⟩)
        clear HF HB8 HB9 HB10
        go_upto_region 14 with (go_at_call 13; refine (laws_markStopS.calls k (fun k => w4.heap.size ≤ k ∧ k < w5.heap.size) _ ws 1 ms1 ms2 w4 _ HG.out.1 HG.out.2.1 H1.out.2.2.2.2.2.1).mono ?_; rintro e w11 ⟨rfl, hr, hb, hk⟩; have HG11 := Aside0.mk (show Below w4.heap.size w4 w11 ∧ Kd.S (Kd.slice 2 (Kd.int .i64)) 69 w11 w4.heap.size (fun k => w5.heap.size ≤ k) (.slice A35 ip1.length c35) ip1 from ⟨hb, Kd.S_kept HG.out.2.2 hk (fun k h1 h2 => by omega)⟩); clear hr hb hk)
        clear HG
        go_upto_region 16 with (go_at_call 19; refine (laws_eqInt64SS.calls k _ _ ip1 _ _ sp1 true _ (Kd.S_reads' HG11.out.2).2.2 (Kd.S_reads' HG11.out.2).2.1 (Kd.S_reads' (Kd.S_below HP4.out.2.2 HG11.out.1)).2.2 (Kd.S_reads' HP4.out.2.2).2.1 H1.out.2.2.2.1).mono ?_; rintro e w12 ⟨rfl, hd⟩; have HB12 := Aside0.mk (show Below w4.heap.size w4 w12 ∧ Kd.S (Kd.slice 2 (Kd.int .i64)) 69 w12 w4.heap.size (fun k => w5.heap.size ≤ k) (.slice A35 ip1.length c35) ip1 from ⟨below_step HG11.out.1 (Drawn0.below hd), Kd.S_below HG11.out.2 (Drawn0.below hd)⟩); clear hd)
        clear HG11
        go_upto_region 18 with (go_at_call 20; refine (laws_markInt64SS.calls k (fun k => w5.heap.size ≤ k) _ ip1 1 mk1 mk2 w4 _ HB12.out.1 HB12.out.2 H1.out.2.2.2.2.2.2.1).mono ?_; rintro e w13 ⟨rfl, hr, hb, hk⟩; have HG13 := Aside0.mk (And.intro hb hr); clear hr hb hk)
        clear HB12
        have hln : ip1.length = mk2.length := (Kd.S_reads' HG13.out.2).1
        rw [hln]
        rw [hln] at HG13
        clear hln
        have HQ := Aside0.mk H1.out.2.2.2.2.2.2.2
        go_upto_region 24 with (go_at_call 21; refine (laws_heldInt64SS.calls k _ _ mk2 1 q _ (Kd.S_reads' HG13.out.2).2.2 (Kd.S_reads' HG13.out.2).2.1 HQ.out).mono ?_; rintro e w14 ⟨rfl, hd⟩; have HB14 := Aside0.mk (And.intro (below_step HG13.out.1 (Drawn0.below hd)) (Kd.S_below HG13.out.2 (Drawn0.below hd))); clear hd)
        clear HG13
        have hp14 := (HB14.out.1.block _ (blk_lt HP4.out.1)).trans HP4.out.1
        have f0 := blk_cell hp14 0
        have f1 := blk_cell hp14 1
        have f2 := blk_cell hp14 2
        simp only [List.getElem?_toArray, List.getElem?_cons_zero, List.getElem?_cons_succ] at f0 f1 f2
        go_upto_region 25 with (first | (go_at_call 8; refine (laws_toPurchase.calls a0_0 a0_1 a0_2 a0_0 a0_1 a0_2 _ rfl).mono ?_; rintro e w15 ⟨rfl, hb⟩; have HB15 := Aside0.mk hb; clear hb f0 f1 f2) | (go_at_call 17; refine (laws_toStopS.calls k _ _ l1 ws _ (Kd.C_below HR.out.1 (below_step (below_step HP4.out.2.1 HB14.out.1) HB15.out)) HR.out.2.1 H1.out.1).mono ?_; rintro e w16 ⟨v83, rfl, ho, hb⟩; obtain ⟨A83, c83, rfl⟩ := Kd.R_slice ho; have HB16 := Aside0.mk (And.intro ho (below_step HB15.out hb)); clear ho hb) | (go_at_call 18; refine (impl_PartsOfWay.calls k a0_0 a0_1 a0_2 _ _ ws ip1 ip2 _ (Kd.R_reads' HB16.out.1).2.2 (Kd.R_reads' HB16.out.1).2.1 H1.out.2.2.1).mono ?_; rintro e w17 ⟨v84, rfl, ho, hb⟩; obtain ⟨A84, c84, rfl⟩ := Kd.S_slice ho; have HB17 := Aside0.mk (And.intro ho (below_step HB16.out.2 hb)); clear ho hb))
        clear hp14
        go_upto_region 28 with ((go_at_call 19; refine (laws_eqInt64SS.calls k _ _ ip1 _ _ sp1 true _ (Kd.S_reads' HB17.out.1).2.2 (Kd.S_reads' HB17.out.1).2.1 (Kd.S_reads' (Kd.S_below HP4.out.2.2 (below_step HB14.out.1 HB17.out.2))).2.2 (Kd.S_reads' HP4.out.2.2).2.1 H1.out.2.2.2.1).mono ?_; rintro e w18 ⟨rfl, hd⟩; have HB18 := Aside0.mk (below_step HB17.out.2 (Drawn0.below hd)); clear hd))
        go_upto_region 29 with ((go_at_call 21; refine (laws_heldInt64SS.calls k _ _ mk2 1 q _ (Kd.S_reads' (Kd.S_below HB14.out.2 HB18.out)).2.2 (Kd.S_reads' HB14.out.2).2.1 HQ.out).mono ?_; rintro e w19 ⟨rfl, hd⟩; have HB19 := Aside0.mk (below_step HB18.out (Drawn0.below hd)); clear hd))
        go_wp2
        go_ret
        exact ⟨rfl, below_step (below_step HP4.out.2.1 HB14.out.1) HB19.out⟩

/-- THE ONE PURE STATEMENT of laws_FnExactPartsOfWay. -/
def laws_FnExactPartsOfWay.Pure : Prop := ∀ (a0_0 : Int) (a0_1 : Int) (a0_2 : Bool) (l1 : List (S66)), (Lit.int .i64 a0_0).wf = true → (Lit.int .i64 a0_1).wf = true → l1.length ≤ maxLen → (∀ x ∈ l1, ((Lit.int .i64 x.f0).wf = true) ∧ ((Lit.int .i64 x.f1).wf = true)) → ∃ k, laws_FnExactPartsOfWay.f k a0_0 a0_1 a0_2 l1 = some true

end Go.Proofs.Ytifdihbndlmgpaa.HParts
