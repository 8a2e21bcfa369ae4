-- Written by a program for this claim (the functions that the statement reaches, and that the program's code comes to them).
import Derived.Test.YtacijlpnpkhjaaaHFrx0
import Derived.Test.YtacijlpnpkhjaaaHFrx5
import Derived.Test.YtacijlpnpkhjaaaHFrx6
import Derived.Test.YtacijlpnpkhjaaaHFrx12
namespace Go.Proofs.Ytacijlpnpkhjaaa.HFr
open Go.RowKit Go.Proofs.YtacijlpnpkhjaaaW.PrintWords Go.Proofs.YtacijlpnpkhjaaaW.PrintLast Go.Proofs.YtacijlpnpkhjaaaW.PrintMore
attribute [local go_sem] max2_int min2_int max_two min_two max_three min_three max_four min_four   -- for this text's walks alone
set_option linter.unusedVariables false
set_option linter.unusedSimpArgs false

/-! ### spec_l09Bar: function 69 -/
def spec_l09Bar.f (k : Nat) (l0_0 : List (S82)) (l0_1 : List (S84)) (a1 : Int) : Option (Int) := (spec_l09Ok.f k l0_0 l0_1).bind fun t275 => (if t275 = true then ((spec_l00In.f a1 0 (wrap64 ((l0_1.length : Int) - 1))).bind fun t276 => (if t276 = true then (some 0) else (some 2))) else (some 1))
theorem spec_l09Bar.mono : ∀ a0 a1 a2 k, LeO (spec_l09Bar.f k a0 a1 a2) (spec_l09Bar.f (k + 1) a0 a1 a2) := by
 intro a0 a1 a2 k
 unfold spec_l09Bar.f
 repeat' first
   | (with_reducible exact spec_l09Ok.mono _ _ _)
   | (with_reducible exact LeO.refl _)
   | (with_reducible exact LeO.none _)
   | (with_reducible refine LeO.ite ?_ ?_)
   | (with_reducible refine LeO.bind ?_ (fun _ => ?_))
   | exact spec_l09Ok.mono _ _ _
   | exact LeO.none _
   | refine LeO.ite ?_ ?_
   | refine LeO.bind ?_ (fun _ => ?_)
set_option maxHeartbeats 8000000 in
set_option maxRecDepth 100000 in
theorem spec_l09Bar.calls (k : Nat) (gp0 : Nat) (A0_0 : Option Addr) (c0_0 : Nat) (l0_0 : List (S82)) (A0_1 : Option Addr) (c0_1 : Nat) (l0_1 : List (S84)) (a1 : Int) (r : Int) (w : World) (hb0 : w.heap[gp0]? = some (.cells #[.slice A0_0 l0_0.length c0_0, .slice A0_1 l0_1.length c0_1] 39 (0, 0))) (hr0_0 : Kd.C k82 w A0_0 l0_0.length l0_0) (hc0_0 : l0_0.length ≤ c0_0) (hr0_1 : Kd.C k84 w A0_1 l0_1.length l0_1) (hc0_1 : l0_1.length ≤ c0_1) (h : spec_l09Bar.f k l0_0 l0_1 a1 = some r) :
  Calls Try.prog 69 #[.pointer (some ⟨gp0, 0, none⟩), .int .i64 a1] w fun e w' => e = .returned (.int .i64 r) ∧ Below w.heap.size w w' := by
 have HR0_0 := Aside0.mk hr0_0
 have HC0_0 := Aside0.mk hc0_0
 clear hr0_0 hc0_0
 have HR0_1 := Aside0.mk hr0_1
 have HC0_1 := Aside0.mk hc0_1
 clear hr0_1 hc0_1
 have BK0 := Aside0.mk hb0
 clear hb0
 have HB := Aside0.mk (Below.refl w.heap.size w)
 have H : ((spec_l09Ok.f k l0_0 l0_1).bind fun t275 => (if t275 = true then ((spec_l00In.f a1 0 (wrap64 ((l0_1.length : Int) - 1))).bind fun t276 => (if t276 = true then (some 0) else (some 2))) else (some 1))) = some r := h
 clear h
 replace H := Option.bind_eq_some_iff.mp H
 obtain ⟨t275, A30, H⟩ := H
 replace H : (if t275 = true then ((spec_l00In.f a1 0 (wrap64 ((l0_1.length : Int) - 1))).bind fun t276 => (if t276 = true then (some 0) else (some 2))) else (some 1)) = some r := H
 have A3 := Aside0.mk A30
 clear A30
 by_cases c4 : t275 = true
 ·subst c4
  have H1 : ((spec_l00In.f a1 0 (wrap64 ((l0_1.length : Int) - 1))).bind fun t276 => (if t276 = true then (some 0) else (some 2))) = some r := by rw [if_pos rfl] at H; exact H
  clear H
  have H := H1
  clear H1
  replace H := Option.bind_eq_some_iff.mp H
  obtain ⟨t276, A50, H⟩ := H
  replace H : (if t276 = true then (some 0) else (some 2)) = some r := H
  have A5 := Aside0.mk A50
  clear A50
  by_cases c6 : t276 = true
  ·subst c6
   have H1 : (some 0) = some r := by rw [if_pos rfl] at H; exact H
   clear H
   have H := H1
   clear H1
   obtain rfl := Option.some.inj H
   go_enter Try.func69, Try.ntmps69
   go_wp2_with (first | ((with_reducible refine gate_callee (f := 66) rfl ?_); refine goesL_ (some 6) rfl rfl Try.func66 (by kernel_rfl) rfl #[.pointer (some ⟨gp0, 0, none⟩)] rfl (by (try simp only [List.map_toArray, List.map_cons, List.map_nil]); first | done | rfl | (simp only [List.length_drop, List.length_take]; rfl)) ?_; (with_reducible refine (spec_l09Ok.calls k gp0 A0_0 c0_0 l0_0 A0_1 c0_1 l0_1 true _ ?side5 ?side1 ?side2 ?side3 ?side4 A3.out).mono ?_); (case side1 => repeat (first | exact HR0_0.out | (with_reducible refine Kd.C_alloc ?_ _) | (with_reducible refine Kd.C_drewN ?_ _) | (with_reducible refine Kd.C_drew ?_))); (case side2 => exact HC0_0.out); (case side3 => repeat (first | exact HR0_1.out | (with_reducible refine Kd.C_alloc ?_ _) | (with_reducible refine Kd.C_drewN ?_ _) | (with_reducible refine Kd.C_drew ?_))); (case side4 => exact HC0_1.out); (case side5 => (with_reducible repeat (first | refine blk_drewN ?_ _ | refine blk_drew ?_ | refine blk_alloc ?_ _)); exact BK0.out); rintro e w7 ⟨rfl, hb⟩; refine ⟨_, rfl, ?_⟩; have n0_ := Aside0.mk (blk_below (g := gp0) (o := .cells #[.slice A0_0 l0_0.length c0_0, .slice A0_1 l0_1.length c0_1] 39 (0, 0)) (by (with_reducible repeat (first | refine blk_drewN ?_ _ | refine blk_drew ?_ | refine blk_alloc ?_ _)); exact BK0.out) hb); have n1_ := Aside0.mk (below_step (by repeat (first | (with_reducible first | exact HB.out | apply below_alloc | apply pw_below_drewN | apply below_drew1 | refine below_set ?_ GE0.out) | exact HB.out)) hb); clear BK0; clear HB; have BK0 := n0_; have HB := n1_; clear n0_ n1_; (try clear hb); (try clear hb2); (try clear hk); (try clear hi); have hcz8_0 : w7.cell? ⟨gp0, 0, none⟩ = some (.slice A0_0 l0_0.length c0_0) := (blk_cell BK0.out 0).trans rfl; have hcz8_1 : w7.cell? ⟨gp0, 1, none⟩ = some (.slice A0_1 l0_1.length c0_1) := (blk_cell BK0.out 1).trans rfl; have hfz8_0 := blk_frozen BK0.out 0; have hfz8_1 := blk_frozen BK0.out 1) | ((with_reducible refine gate_callee (f := 82) rfl ?_); refine goesL_ (some 15) rfl rfl Try.func82 (by kernel_rfl) rfl #[.int .i64 a1, .int .i64 0, .int .i64 (wrap64 ((l0_1.length : Int) - 1))] rfl (by (try simp only [List.map_toArray, List.map_cons, List.map_nil]); first | done | rfl | (simp only [List.length_drop, List.length_take]; rfl)) ?_; (with_reducible refine (spec_l00In.calls a1 0 (wrap64 ((l0_1.length : Int) - 1)) true _ A5.out).mono ?_); rintro e w' ⟨rfl, ⟨nd, rfl⟩⟩; refine ⟨_, rfl, ?_⟩))
   go_ret
   exact ⟨by first | rfl | (simp [errW_none, errW_some] <;> rfl) | (simp [*, errW_none, errW_some] <;> rfl), by repeat (first | (with_reducible first | exact HB.out | apply below_alloc | apply pw_below_drewN | apply below_drew1 | refine below_set ?_ GE0.out) | exact HB.out)⟩
  ·replace c6 := Bool.eq_false_iff.mpr c6
   subst c6
   have H1 : (some 2) = some r := by rw [if_neg (show ¬ (false = true) by decide)] at H; exact H
   clear H
   have H := H1
   clear H1
   obtain rfl := Option.some.inj H
   go_enter Try.func69, Try.ntmps69
   go_wp2_with (first | ((with_reducible refine gate_callee (f := 66) rfl ?_); refine goesL_ (some 6) rfl rfl Try.func66 (by kernel_rfl) rfl #[.pointer (some ⟨gp0, 0, none⟩)] rfl (by (try simp only [List.map_toArray, List.map_cons, List.map_nil]); first | done | rfl | (simp only [List.length_drop, List.length_take]; rfl)) ?_; (with_reducible refine (spec_l09Ok.calls k gp0 A0_0 c0_0 l0_0 A0_1 c0_1 l0_1 true _ ?side5 ?side1 ?side2 ?side3 ?side4 A3.out).mono ?_); (case side1 => repeat (first | exact HR0_0.out | (with_reducible refine Kd.C_alloc ?_ _) | (with_reducible refine Kd.C_drewN ?_ _) | (with_reducible refine Kd.C_drew ?_))); (case side2 => exact HC0_0.out); (case side3 => repeat (first | exact HR0_1.out | (with_reducible refine Kd.C_alloc ?_ _) | (with_reducible refine Kd.C_drewN ?_ _) | (with_reducible refine Kd.C_drew ?_))); (case side4 => exact HC0_1.out); (case side5 => (with_reducible repeat (first | refine blk_drewN ?_ _ | refine blk_drew ?_ | refine blk_alloc ?_ _)); exact BK0.out); rintro e w9 ⟨rfl, hb⟩; refine ⟨_, rfl, ?_⟩; have n0_ := Aside0.mk (blk_below (g := gp0) (o := .cells #[.slice A0_0 l0_0.length c0_0, .slice A0_1 l0_1.length c0_1] 39 (0, 0)) (by (with_reducible repeat (first | refine blk_drewN ?_ _ | refine blk_drew ?_ | refine blk_alloc ?_ _)); exact BK0.out) hb); have n1_ := Aside0.mk (below_step (by repeat (first | (with_reducible first | exact HB.out | apply below_alloc | apply pw_below_drewN | apply below_drew1 | refine below_set ?_ GE0.out) | exact HB.out)) hb); clear BK0; clear HB; have BK0 := n0_; have HB := n1_; clear n0_ n1_; (try clear hb); (try clear hb2); (try clear hk); (try clear hi); have hcz10_0 : w9.cell? ⟨gp0, 0, none⟩ = some (.slice A0_0 l0_0.length c0_0) := (blk_cell BK0.out 0).trans rfl; have hcz10_1 : w9.cell? ⟨gp0, 1, none⟩ = some (.slice A0_1 l0_1.length c0_1) := (blk_cell BK0.out 1).trans rfl; have hfz10_0 := blk_frozen BK0.out 0; have hfz10_1 := blk_frozen BK0.out 1) | ((with_reducible refine gate_callee (f := 82) rfl ?_); refine goesL_ (some 15) rfl rfl Try.func82 (by kernel_rfl) rfl #[.int .i64 a1, .int .i64 0, .int .i64 (wrap64 ((l0_1.length : Int) - 1))] rfl (by (try simp only [List.map_toArray, List.map_cons, List.map_nil]); first | done | rfl | (simp only [List.length_drop, List.length_take]; rfl)) ?_; (with_reducible refine (spec_l00In.calls a1 0 (wrap64 ((l0_1.length : Int) - 1)) false _ A5.out).mono ?_); rintro e w' ⟨rfl, ⟨nd, rfl⟩⟩; refine ⟨_, rfl, ?_⟩))
   go_ret
   exact ⟨by first | rfl | (simp [errW_none, errW_some] <;> rfl) | (simp [*, errW_none, errW_some] <;> rfl), by repeat (first | (with_reducible first | exact HB.out | apply below_alloc | apply pw_below_drewN | apply below_drew1 | refine below_set ?_ GE0.out) | exact HB.out)⟩
 ·replace c4 := Bool.eq_false_iff.mpr c4
  subst c4
  have H1 : (some 1) = some r := by rw [if_neg (show ¬ (false = true) by decide)] at H; exact H
  clear H
  have H := H1
  clear H1
  obtain rfl := Option.some.inj H
  go_enter Try.func69, Try.ntmps69
  go_wp2_with (first | ((with_reducible refine gate_callee (f := 66) rfl ?_); refine goesL_ (some 6) rfl rfl Try.func66 (by kernel_rfl) rfl #[.pointer (some ⟨gp0, 0, none⟩)] rfl (by (try simp only [List.map_toArray, List.map_cons, List.map_nil]); first | done | rfl | (simp only [List.length_drop, List.length_take]; rfl)) ?_; (with_reducible refine (spec_l09Ok.calls k gp0 A0_0 c0_0 l0_0 A0_1 c0_1 l0_1 false _ ?side5 ?side1 ?side2 ?side3 ?side4 A3.out).mono ?_); (case side1 => repeat (first | exact HR0_0.out | (with_reducible refine Kd.C_alloc ?_ _) | (with_reducible refine Kd.C_drewN ?_ _) | (with_reducible refine Kd.C_drew ?_))); (case side2 => exact HC0_0.out); (case side3 => repeat (first | exact HR0_1.out | (with_reducible refine Kd.C_alloc ?_ _) | (with_reducible refine Kd.C_drewN ?_ _) | (with_reducible refine Kd.C_drew ?_))); (case side4 => exact HC0_1.out); (case side5 => (with_reducible repeat (first | refine blk_drewN ?_ _ | refine blk_drew ?_ | refine blk_alloc ?_ _)); exact BK0.out); rintro e w11 ⟨rfl, hb⟩; refine ⟨_, rfl, ?_⟩; have n0_ := Aside0.mk (blk_below (g := gp0) (o := .cells #[.slice A0_0 l0_0.length c0_0, .slice A0_1 l0_1.length c0_1] 39 (0, 0)) (by (with_reducible repeat (first | refine blk_drewN ?_ _ | refine blk_drew ?_ | refine blk_alloc ?_ _)); exact BK0.out) hb); have n1_ := Aside0.mk (below_step (by repeat (first | (with_reducible first | exact HB.out | apply below_alloc | apply pw_below_drewN | apply below_drew1 | refine below_set ?_ GE0.out) | exact HB.out)) hb); clear BK0; clear HB; have BK0 := n0_; have HB := n1_; clear n0_ n1_; (try clear hb); (try clear hb2); (try clear hk); (try clear hi)))
  go_ret
  exact ⟨by first | rfl | (simp [errW_none, errW_some] <;> rfl) | (simp [*, errW_none, errW_some] <;> rfl), by repeat (first | (with_reducible first | exact HB.out | apply below_alloc | apply pw_below_drewN | apply below_drew1 | refine below_set ?_ GE0.out) | exact HB.out)⟩

/-! ### spec_l09Square: function 70 -/
def spec_l09Square.f (l0_0 : List (S82)) (l0_1 : List (S84)) (a1 : Int) : Option (Int) := if 0 ≤ a1 then (if a1 < (l0_1.length : Int) then (if 0 ≤ ((rd_T84 l0_1 a1).f0) then (if ((rd_T84 l0_1 a1).f0) < (l0_0.length : Int) then (if 0 ≤ ((rd_T84 l0_1 a1).f1) then (if ((rd_T84 l0_1 a1).f1) < (l0_0.length : Int) then (some (wrap64 ((wrap64 ((wrap64 (((rd_T82 l0_0 ((rd_T84 l0_1 a1).f1)).f0) - ((rd_T82 l0_0 ((rd_T84 l0_1 a1).f0)).f0))) * (wrap64 (((rd_T82 l0_0 ((rd_T84 l0_1 a1).f1)).f0) - ((rd_T82 l0_0 ((rd_T84 l0_1 a1).f0)).f0))))) + (wrap64 ((wrap64 (((rd_T82 l0_0 ((rd_T84 l0_1 a1).f1)).f1) - ((rd_T82 l0_0 ((rd_T84 l0_1 a1).f0)).f1))) * (wrap64 (((rd_T82 l0_0 ((rd_T84 l0_1 a1).f1)).f1) - ((rd_T82 l0_0 ((rd_T84 l0_1 a1).f0)).f1)))))))) else (none)) else (none)) else (none)) else (none)) else (none)) else (none)
def spec_l09Square.T1 : Bool × List (List Nat × List Nat) := (true, [([], []), ([0], [0]), ([1], [1]), ([2], [2]), ([], []), ([4], [4]), ([5], [5]), ([6], [6]), ([], []), ([7, 8], [7, 8]), ([9], [9]), ([10], [10]), ([3, 11], [3, 11]), ([12], [12]), ([], []), ([14, 13, 0, 1, 2, 3, 4, 5, 6, 7, 8, 9, 10, 11, 12, 13, 14], [13, 14])])
def spec_l09Square.B1 : List Nat := [0, 1, 3, 7, 0, 16, 48, 112, 0, 496, 1008, 2032, 4095, 8191, 0, 32767]
theorem spec_l09Square.tab1 : rtab .any (opsOf Try.f70 1) = spec_l09Square.T1 := by kernel_rfl
theorem spec_l09Square.bits1 : waitsOk spec_l09Square.T1.2 spec_l09Square.B1 = true := by kernel_rfl
def spec_l09Square.T2 : Bool × List (List Nat × List Nat) := (true, [([], []), ([0], [0]), ([1], [1]), ([2], [2]), ([], []), ([4], [4]), ([5], [5]), ([6], [6]), ([], []), ([7, 8], [7, 8]), ([9], [9]), ([10], [10]), ([3, 11], [3, 11]), ([12], [12]), ([], []), ([14, 13, 0, 1, 2, 3, 4, 5, 6, 7, 8, 9, 10, 11, 12, 13, 14], [13, 14])])
def spec_l09Square.B2 : List Nat := [0, 1, 3, 7, 0, 16, 48, 112, 0, 496, 1008, 2032, 4095, 8191, 0, 32767]
theorem spec_l09Square.tab2 : rtab .any (opsOf Try.f70 2) = spec_l09Square.T2 := by kernel_rfl
theorem spec_l09Square.bits2 : waitsOk spec_l09Square.T2.2 spec_l09Square.B2 = true := by kernel_rfl
@[reducible] def spec_l09Square.y' : Bool := true
@[reducible] def spec_l09Square.n' : Bool := false
theorem spec_l09Square.z1' {α : Type} (l : List α) (i : Nat) (a : α) : l.toArray.setIfInBounds i a = (l.set i a).toArray := List.setIfInBounds_toArray ..
theorem spec_l09Square.z2' {α : Type} (a b : α) (l : List α) : (a :: l).set 0 b = b :: l := rfl
theorem spec_l09Square.z3' {α : Type} (a b : α) (l : List α) (n : Nat) : (a :: l).set (n + 1) b = a :: l.set n b := rfl
theorem spec_l09Square.G : type_of% @Aside0.mk := @Aside0.mk
theorem spec_l09Square.J : type_of% @below_set := @below_set
theorem spec_l09Square.L : type_of% @pw_below_drewN := @pw_below_drewN
theorem spec_l09Square.M : type_of% @blk_drewN := @blk_drewN
theorem spec_l09Square.O : type_of% @blk_alloc := @blk_alloc
theorem spec_l09Square.T : type_of% @blk_drew := @blk_drew
theorem spec_l09Square.U : type_of% @below_drew1 := @below_drew1
theorem spec_l09Square.V : type_of% @blk_cell := @blk_cell
theorem spec_l09Square.X : type_of% @blk_frozen := @blk_frozen
set_option maxHeartbeats 8000000 in
set_option maxRecDepth 100000 in
theorem spec_l09Square.calls (gp0 : Nat) (A0_0 : Option Addr) (c0_0 : Nat) (l0_0 : List (S82)) (A0_1 : Option Addr) (c0_1 : Nat) (l0_1 : List (S84)) (a1 : Int) (r : Int) (w : World) (hb0 : w.heap[gp0]? = some (.cells #[.slice A0_0 l0_0.length c0_0, .slice A0_1 l0_1.length c0_1] 39 (0, 0))) (hr0_0 : Kd.C k82 w A0_0 l0_0.length l0_0) (hc0_0 : l0_0.length ≤ c0_0) (hr0_1 : Kd.C k84 w A0_1 l0_1.length l0_1) (hc0_1 : l0_1.length ≤ c0_1) (h : spec_l09Square.f l0_0 l0_1 a1 = some r) :
  Calls Try.prog 70 #[.pointer (some ⟨gp0, 0, none⟩), .int .i64 a1] w fun e w' => e = .returned (.int .i64 r) ∧ Below w.heap.size w w' := by
 have hu82 := Try.underlying82
 have HR0_0 := G hr0_0
 have HC0_0 := G hc0_0
 clear hr0_0 hc0_0
 have HR0_1 := G hr0_1
 have HC0_1 := G hc0_1
 clear hr0_1 hc0_1
 have BK0 := G hb0
 clear hb0
 have HB := G (Below.refl w.heap.size w)
 have H : (if 0 ≤ a1 then (if a1 < (l0_1.length : Int) then (if 0 ≤ ((rd_T84 l0_1 a1).f0) then (if ((rd_T84 l0_1 a1).f0) < (l0_0.length : Int) then (if 0 ≤ ((rd_T84 l0_1 a1).f1) then (if ((rd_T84 l0_1 a1).f1) < (l0_0.length : Int) then (some (wrap64 ((wrap64 ((wrap64 (((rd_T82 l0_0 ((rd_T84 l0_1 a1).f1)).f0) - ((rd_T82 l0_0 ((rd_T84 l0_1 a1).f0)).f0))) * (wrap64 (((rd_T82 l0_0 ((rd_T84 l0_1 a1).f1)).f0) - ((rd_T82 l0_0 ((rd_T84 l0_1 a1).f0)).f0))))) + (wrap64 ((wrap64 (((rd_T82 l0_0 ((rd_T84 l0_1 a1).f1)).f1) - ((rd_T82 l0_0 ((rd_T84 l0_1 a1).f0)).f1))) * (wrap64 (((rd_T82 l0_0 ((rd_T84 l0_1 a1).f1)).f1) - ((rd_T82 l0_0 ((rd_T84 l0_1 a1).f0)).f1)))))))) else (none)) else (none)) else (none)) else (none)) else (none)) else (none)) = some r := h
 clear h
 by_cases c3 : 0 ≤ a1
 ·rw [if_pos c3] at H
  have c3b0 : decide (0 ≤ a1) = true := decide_eq_true c3
  clear c3
  by_cases c4 : a1 < (l0_1.length : Int)
  ·rw [if_pos c4] at H
   have c4b0 : decide (a1 < (l0_1.length : Int)) = true := decide_eq_true c4
   clear c4
   by_cases c5 : 0 ≤ ((rd_T84 l0_1 a1).f0)
   ·rw [if_pos c5] at H
    have c5b0 : decide (0 ≤ ((rd_T84 l0_1 a1).f0)) = true := decide_eq_true c5
    clear c5
    by_cases c6 : ((rd_T84 l0_1 a1).f0) < (l0_0.length : Int)
    ·rw [if_pos c6] at H
     have c6b0 : decide (((rd_T84 l0_1 a1).f0) < (l0_0.length : Int)) = true := decide_eq_true c6
     clear c6
     by_cases c7 : 0 ≤ ((rd_T84 l0_1 a1).f1)
     ·rw [if_pos c7] at H
      have c7b0 : decide (0 ≤ ((rd_T84 l0_1 a1).f1)) = true := decide_eq_true c7
      clear c7
      by_cases c8 : ((rd_T84 l0_1 a1).f1) < (l0_0.length : Int)
      ·rw [if_pos c8] at H
       have c8b0 : decide (((rd_T84 l0_1 a1).f1) < (l0_0.length : Int)) = true := decide_eq_true c8
       clear c8
       obtain rfl := Option.some.inj H
       go_enter Try.func70, Try.ntmps70
       try go_wp2
       have n0_ := G (T BK0.out)
       have n1_ := G (U HB.out)
       clear BK0
       clear HB
       have BK0 := n0_
       have HB := n1_
       clear n0_ n1_
       have p277 : 0 ≤ (a1 : Int) := of_decide_eq_true (by first | (with_reducible assumption) | assumption)
       have q277 : a1 < (l0_1.length : Int) := of_decide_eq_true (by first | (with_reducible assumption) | assumption)
       obtain ⟨ad277, e277, hx277_0, hx277_1, hx277_2⟩ := at_T84 HR0_1.out a1 p277 q277
       have hw277_2 := hx277_2
       have hw277_1 := hx277_1
       have hw277_0 := hx277_0
       cases e277
       (first | (replace hx277_0 := (HB.out.cell (World.block_lt_of_cell? w _ hx277_0)).trans hx277_0) | skip)
       (first | (replace hx277_1 := (HB.out.cell (World.block_lt_of_cell? w _ hx277_1)).trans hx277_1) | skip)
       (first | (replace hx277_2 := (HB.out.cell (World.block_lt_of_cell? w _ hx277_2)).trans hx277_2) | skip)
       replace p277 := eq_true p277
       replace q277 := eq_true q277
       have p278 : 0 ≤ (((rd_T84 l0_1 a1).f0) : Int) := of_decide_eq_true (by first | (with_reducible assumption) | assumption)
       have q278 : ((rd_T84 l0_1 a1).f0) < (l0_0.length : Int) := of_decide_eq_true (by first | (with_reducible assumption) | assumption)
       obtain ⟨ad278, e278, hx278_0, hx278_1, hx278_2⟩ := at_T82 HR0_0.out ((rd_T84 l0_1 a1).f0) p278 q278
       have hw278_2 := hx278_2
       have hw278_1 := hx278_1
       have hw278_0 := hx278_0
       cases e278
       (first | (replace hx278_0 := (HB.out.cell (World.block_lt_of_cell? w _ hx278_0)).trans hx278_0) | skip)
       (first | (replace hx278_1 := (HB.out.cell (World.block_lt_of_cell? w _ hx278_1)).trans hx278_1) | skip)
       (first | (replace hx278_2 := (HB.out.cell (World.block_lt_of_cell? w _ hx278_2)).trans hx278_2) | skip)
       replace p278 := eq_true p278
       replace q278 := eq_true q278
       refine start_ (n := 16) (S := fun w' => w'.cell? ⟨gp0, 0, none⟩ = some (.slice (some ad278) l0_0.length c0_0) ∧ w'.cell? ⟨gp0, 1, none⟩ = some (.slice (some ad277) l0_1.length c0_1) ∧ w'.cell? (ad277.add ((a1).toNat * 3)) = some (.int .i64 ((rd_T84 l0_1 a1).f0)) ∧ w'.cell? ⟨(ad277.add ((a1).toNat * 3)).block, (ad277.add ((a1).toNat * 3)).off + 1, none⟩ = some (.int .i64 ((rd_T84 l0_1 a1).f1)) ∧ w'.cell? ⟨(ad277.add ((a1).toNat * 3)).block, (ad277.add ((a1).toNat * 3)).off + 2, none⟩ = some (.bool ((rd_T84 l0_1 a1).f2)) ∧ w'.cell? (ad278.add ((((rd_T84 l0_1 a1).f0)).toNat * 3)) = some (.int .i64 ((rd_T82 l0_0 ((rd_T84 l0_1 a1).f0)).f0)) ∧ w'.cell? ⟨(ad278.add ((((rd_T84 l0_1 a1).f0)).toNat * 3)).block, (ad278.add ((((rd_T84 l0_1 a1).f0)).toNat * 3)).off + 1, none⟩ = some (.int .i64 ((rd_T82 l0_0 ((rd_T84 l0_1 a1).f0)).f1)) ∧ w'.cell? ⟨(ad278.add ((((rd_T84 l0_1 a1).f0)).toNat * 3)).block, (ad278.add ((((rd_T84 l0_1 a1).f0)).toNat * 3)).off + 2, none⟩ = some (.bool ((rd_T82 l0_0 ((rd_T84 l0_1 a1).f0)).f2))) (ds := []) #[n', n', n', n', n', n', n', n', n', n', n', n', n', n', n', n'] (by kernel_rfl) rfl rfl ⟨(V BK0.out 0).trans rfl, (V BK0.out 1).trans rfl, ((HB.out.cell (World.block_lt_of_cell? w _ hw277_0)).trans hw277_0), ((HB.out.cell (World.block_lt_of_cell? w _ hw277_1)).trans hw277_1), ((HB.out.cell (World.block_lt_of_cell? w _ hw277_2)).trans hw277_2), ((HB.out.cell (World.block_lt_of_cell? w _ hw278_0)).trans hw278_0), ((HB.out.cell (World.block_lt_of_cell? w _ hw278_1)).trans hw278_1), ((HB.out.cell (World.block_lt_of_cell? w _ hw278_2)).trans hw278_2)⟩ (fun hHeld => ?_); refine with_tabW spec_l09Square.tab1 spec_l09Square.bits1 (fun HT_ HW_ => ?_)
       generalize w.drew = w9 at BK0 HB hx277_0 hx277_1 hx277_2 hx278_0 hx278_1 hx278_2 hHeld ⊢
       refine pure_ (i := 0) (N := some 7) (v := ?_) (a' := ?_) #[y', n', n', n', n', n', n', n', n', n', n', n', n', n', n', n'] rfl rfl (any_of HT_.out (by kernel_rfl)) (fun _ _ _ h => h) (Or.inl ⟨by rfl, ?_⟩) ?_ ?_
       rotate_left
       ·intro w'
        go_simp
        with_reducible rfl
       rotate_left
       ·simp only [Act.put, z1', z2', z3', i64_w, i32_w]
        rfl
       refine pure_ (i := 1) (N := some 8) (v := ?_) (a' := ?_) #[y', y', n', n', n', n', n', n', n', n', n', n', n', n', n', n'] rfl rfl (any_of HT_.out (by kernel_rfl)) (fun _ _ _ h => h) (Or.inl ⟨by rfl, ?_⟩) ?_ ?_
       rotate_left
       ·intro w'
        go_simp
        with_reducible rfl
       rotate_left
       ·simp only [Act.put, z1', z2', z3', i64_w, i32_w]
        rfl
       refine pure_ (i := 2) (N := some 9) (v := ?_) (a' := ?_) #[y', y', y', n', n', n', n', n', n', n', n', n', n', n', n', n'] rfl rfl (any_of HT_.out (by kernel_rfl)) (fun _ _ _ h => h) (Or.inl ⟨by rfl, ?_⟩) ?_ ?_
       rotate_left
       ·intro w'
        go_simp
        with_reducible rfl
       rotate_left
       ·simp only [Act.put, z1', z2', z3', i64_w, i32_w]
        rfl
       refine pure_ (i := 4) (N := some 11) (v := ?_) (a' := ?_) #[y', y', y', n', y', n', n', n', n', n', n', n', n', n', n', n'] rfl rfl (any_of HT_.out (by kernel_rfl)) (fun _ _ _ h => h) (Or.inl ⟨by rfl, ?_⟩) ?_ ?_
       rotate_left
       ·intro w'
        go_simp
        with_reducible rfl
       rotate_left
       ·simp only [Act.put, z1', z2', z3', i64_w, i32_w]
        rfl
       refine pure_ (i := 5) (N := some 12) (v := ?_) (a' := ?_) #[y', y', y', n', y', y', n', n', n', n', n', n', n', n', n', n'] rfl rfl (any_of HT_.out (by kernel_rfl)) (fun _ _ _ h => h) (Or.inl ⟨by rfl, ?_⟩) ?_ ?_
       rotate_left
       ·intro w'
        go_simp
        with_reducible rfl
       rotate_left
       ·simp only [Act.put, z1', z2', z3', i64_w, i32_w]
        rfl
       refine pure_ (i := 6) (N := some 13) (v := ?_) (a' := ?_) #[y', y', y', n', y', y', y', n', n', n', n', n', n', n', n', n'] rfl rfl (any_of HT_.out (by kernel_rfl)) (fun _ _ _ h => h) (Or.inl ⟨by rfl, ?_⟩) ?_ ?_
       rotate_left
       ·intro w'
        go_simp
        with_reducible rfl
       rotate_left
       ·simp only [Act.put, z1', z2', z3', i64_w, i32_w]
        rfl
       refine pure_ (i := 8) (N := some 15) (v := ?_) (a' := ?_) #[y', y', y', n', y', y', y', n', y', n', n', n', n', n', n', n'] rfl rfl (any_of HT_.out (by kernel_rfl)) (fun _ _ _ h => h) (Or.inl ⟨by rfl, ?_⟩) ?_ ?_
       rotate_left
       ·intro w'
        go_simp
        with_reducible rfl
       rotate_left
       ·simp only [Act.put, z1', z2', z3', i64_w, i32_w]
        rfl
       refine take_ (i := 3) (N := some 10) (v := ?_) (a' := ?_) #[y', y', y', y', y', y', y', n', y', n', n', n', n', n', n', n'] rfl rfl (take_ofW HT_.out HW_.out (by kernel_rfl)) (fun _ _ _ h => h) (Or.inl ⟨by rfl, ?_⟩) hHeld ?_ ?_
       rotate_left
       ·rintro w' ⟨s0, s1, s2, s3, s4, s5, s6, s7⟩
        go_simp
        with_reducible rfl
       rotate_left
       ·simp only [Act.put, z1', z2', z3', i64_w, i32_w]
        rfl
       refine take_ (i := 7) (N := some 14) (v := ?_) (a' := ?_) #[y', y', y', y', y', y', y', y', y', n', n', n', n', n', n', n'] rfl rfl (take_ofW HT_.out HW_.out (by kernel_rfl)) (fun _ _ _ h => h) (Or.inl ⟨by rfl, ?_⟩) hHeld ?_ ?_
       rotate_left
       ·rintro w' ⟨s0, s1, s2, s3, s4, s5, s6, s7⟩
        go_simp
        with_reducible rfl
       rotate_left
       ·simp only [Act.put, z1', z2', z3', i64_w, i32_w]
        rfl
       refine pure_ (i := 9) (N := some 16) (v := ?_) (a' := ?_) #[y', y', y', y', y', y', y', y', y', y', n', n', n', n', n', n'] rfl rfl (any_of HT_.out (by kernel_rfl)) (fun _ _ _ h => h) (Or.inl ⟨by rfl, ?_⟩) ?_ ?_
       rotate_left
       ·intro w'
        go_simp
        with_reducible rfl
       rotate_left
       ·simp only [Act.put, z1', z2', z3', i64_w, i32_w]
        rfl
       refine pure_ (i := 10) (N := some 17) (v := ?_) (a' := ?_) #[y', y', y', y', y', y', y', y', y', y', y', n', n', n', n', n'] rfl rfl (any_of HT_.out (by kernel_rfl)) (fun _ _ _ h => h) (Or.inl ⟨by rfl, ?_⟩) ?_ ?_
       rotate_left
       ·intro w'
        go_simp
        with_reducible rfl
       rotate_left
       ·simp only [Act.put, z1', z2', z3', i64_w, i32_w]
        rfl
       refine take_ (i := 11) (N := some 18) (v := ?_) (a' := ?_) #[y', y', y', y', y', y', y', y', y', y', y', y', n', n', n', n'] rfl rfl (take_ofW HT_.out HW_.out (by kernel_rfl)) (fun _ _ _ h => h) (Or.inl ⟨by rfl, ?_⟩) hHeld ?_ ?_
       rotate_left
       ·rintro w' ⟨s0, s1, s2, s3, s4, s5, s6, s7⟩
        go_simp
        with_reducible rfl
       rotate_left
       ·simp only [Act.put, z1', z2', z3', i64_w, i32_w]
        rfl
       refine pure_ (i := 12) (N := some 19) (v := ?_) (a' := ?_) #[y', y', y', y', y', y', y', y', y', y', y', y', y', n', n', n'] rfl rfl (any_of HT_.out (by kernel_rfl)) (fun _ _ _ h => h) (Or.inl ⟨by rfl, ?_⟩) ?_ ?_
       rotate_left
       ·intro w'
        go_simp
        with_reducible rfl
       rotate_left
       ·simp only [Act.put, z1', z2', z3', i64_w, i32_w]
        rfl
       refine take_ (i := 13) (N := some 20) (v := ?_) (a' := ?_) #[y', y', y', y', y', y', y', y', y', y', y', y', y', y', n', n'] rfl rfl (take_ofW HT_.out HW_.out (by kernel_rfl)) (fun _ _ _ h => h) (Or.inl ⟨by rfl, ?_⟩) hHeld ?_ ?_
       rotate_left
       ·rintro w' ⟨s0, s1, s2, s3, s4, s5, s6, s7⟩
        go_simp
        with_reducible rfl
       rotate_left
       ·simp only [Act.put, z1', z2', z3', i64_w, i32_w]
        rfl
       refine one_ (i := 14) (N := some 5) #[y', y', y', y', y', y', y', y', y', y', y', y', y', y', y', n'] rfl rfl (one_of HT_.out (by kernel_rfl)) (by decide) (fun K hK => ?_)
       refine box_step ?hg (N := 5) ?hd (cs := #[.int .i64 0, .int .i64 0, .bool false]) (t := 82) ?hr ?_; (case hd => rfl); (case hg => rfl); (case hr => first | (go_simp; done) | (go_simp; rfl))
       intro gb279 hg w10 hbox hb
       have n0_ := G (blk_below (g := gp0) (o := .cells #[.slice (some ad278) l0_0.length c0_0, .slice (some ad277) l0_1.length c0_1] 39 (0, 0)) (by (with_reducible repeat (first | refine M ?_ _ | refine T ?_ | refine O ?_ _)); exact BK0.out) hb)
       have n1_ := G (below_step (by repeat (first | (with_reducible first | exact HB.out | apply below_alloc | apply L | apply U | refine J ?_ GE0.out) | exact HB.out)) hb)
       have n2_ := G (hbox)
       have n3_ := G ((by rw [hg]; exact (below_size (by repeat (first | (with_reducible first | exact HB.out | apply below_alloc | apply L | apply U | refine J ?_ GE0.out) | exact HB.out))) : w.heap.size ≤ gb279))
       have n4_ := G ((by rw [hg]; exact (below_size (by repeat (first | (with_reducible first | exact HB.out | apply below_alloc | apply L | apply U | refine J ?_ GE0.out) | exact HB.out))) : w.heap.size ≤ gb279))
       have n5_ := G ((by rw [hg]; exact Nat.ne_of_lt (blk_lt (g := gp0) (o := .cells #[.slice (some ad278) l0_0.length c0_0, .slice (some ad277) l0_1.length c0_1] 39 (0, 0)) (by (with_reducible repeat (first | refine M ?_ _ | refine T ?_ | refine O ?_ _)); exact BK0.out)) : gp0 ≠ gb279))
       have n6_ := G ((by rw [hg]; exact Nat.ne_of_gt (blk_lt (g := gp0) (o := .cells #[.slice (some ad278) l0_0.length c0_0, .slice (some ad277) l0_1.length c0_1] 39 (0, 0)) (by (with_reducible repeat (first | refine M ?_ _ | refine T ?_ | refine O ?_ _)); exact BK0.out)) : gb279 ≠ gp0))
       clear BK0
       clear HB
       have BK0 := n0_
       have HB := n1_
       have BK279 := n2_
       have GW279 := n3_
       have GE279 := n4_
       have NB0_279 := n5_
       have NB279_0 := n6_
       clear n0_ n1_ n2_ n3_ n4_ n5_ n6_
       clear hb hbox hg
       refine hK.out _ _ ⟨(V BK0.out 0).trans rfl, (V BK0.out 1).trans rfl, ((HB.out.cell (World.block_lt_of_cell? w _ hw277_0)).trans hw277_0), ((HB.out.cell (World.block_lt_of_cell? w _ hw277_1)).trans hw277_1), ((HB.out.cell (World.block_lt_of_cell? w _ hw277_2)).trans hw277_2), ((HB.out.cell (World.block_lt_of_cell? w _ hw278_0)).trans hw278_0), ((HB.out.cell (World.block_lt_of_cell? w _ hw278_1)).trans hw278_1), ((HB.out.cell (World.block_lt_of_cell? w _ hw278_2)).trans hw278_2)⟩ (fun hHeld => ?_)
       clear hK K
       refine norm_ (a' := ?_) ?_ ?_
       rotate_left
       ·show Act.put _ (some 5) _ = _
        simp only [Act.put, z1', z2', z3', i64_w, i32_w]
        rfl
       refine one_ (i := 15) (N := none) #[y', y', y', y', y', y', y', y', y', y', y', y', y', y', y', y'] rfl rfl (one_of HT_.out (by kernel_rfl)) (by decide) (fun K hK => ?_)
       have hs11 : w10.cell? ⟨gb279, 0, none⟩ = some (.int .i64 0) := (V BK279.out 0).trans rfl
       have hfs11 := X BK279.out 0
       have hns11_0 := NB0_279.out
       have hms11_0 := NB279_0.out
       have hs12 : w10.cell? ⟨gb279, 1, none⟩ = some (.int .i64 0) := (V BK279.out 1).trans rfl
       have hfs12 := X BK279.out 1
       have hns12_0 := NB0_279.out
       have hms12_0 := NB279_0.out
       have hs13 : w10.cell? ⟨gb279, 2, none⟩ = some (.bool false) := (V BK279.out 2).trans rfl
       have hfs13 := X BK279.out 2
       have hns13_0 := NB0_279.out
       have hms13_0 := NB279_0.out
       refine skip_ (w1 := ?_) (by rfl) rfl ?_ ?_
       rotate_left
       ·go_simp
        rfl
       refine hK.out _ _ ⟨((cell_far (p := ⟨gb279, _, none⟩) NB0_279.out _).trans (((cell_far (p := ⟨gb279, _, none⟩) NB0_279.out _).trans (((cell_far (p := ⟨gb279, _, none⟩) NB0_279.out _).trans (hHeld.1)))))), ((cell_far (p := ⟨gb279, _, none⟩) NB0_279.out _).trans (((cell_far (p := ⟨gb279, _, none⟩) NB0_279.out _).trans (((cell_far (p := ⟨gb279, _, none⟩) NB0_279.out _).trans (hHeld.2.1)))))), ((cell_far (p := ⟨gb279, _, none⟩) (by first | exact Nat.ne_of_lt (Nat.lt_of_lt_of_le (by have := World.block_lt_of_cell? _ _ hw277_0; first | rwa [add_block] at this | exact this) GW279.out) | (rw [add_block]; exact Nat.ne_of_lt (Nat.lt_of_lt_of_le (by have := World.block_lt_of_cell? _ _ hw277_0; first | rwa [add_block] at this | exact this) GW279.out)) | (show (Addr.add _ _).block ≠ _; rw [add_block]; exact Nat.ne_of_lt (Nat.lt_of_lt_of_le (by have := World.block_lt_of_cell? _ _ hw277_0; first | rwa [add_block] at this | exact this) GW279.out)) | (dsimp only; exact Nat.ne_of_lt (Nat.lt_of_lt_of_le (by have := World.block_lt_of_cell? _ _ hw277_0; first | rwa [add_block] at this | exact this) GW279.out))) _).trans (((cell_far (p := ⟨gb279, _, none⟩) (by first | exact Nat.ne_of_lt (Nat.lt_of_lt_of_le (by have := World.block_lt_of_cell? _ _ hw277_0; first | rwa [add_block] at this | exact this) GW279.out) | (rw [add_block]; exact Nat.ne_of_lt (Nat.lt_of_lt_of_le (by have := World.block_lt_of_cell? _ _ hw277_0; first | rwa [add_block] at this | exact this) GW279.out)) | (show (Addr.add _ _).block ≠ _; rw [add_block]; exact Nat.ne_of_lt (Nat.lt_of_lt_of_le (by have := World.block_lt_of_cell? _ _ hw277_0; first | rwa [add_block] at this | exact this) GW279.out)) | (dsimp only; exact Nat.ne_of_lt (Nat.lt_of_lt_of_le (by have := World.block_lt_of_cell? _ _ hw277_0; first | rwa [add_block] at this | exact this) GW279.out))) _).trans (((cell_far (p := ⟨gb279, _, none⟩) (by first | exact Nat.ne_of_lt (Nat.lt_of_lt_of_le (by have := World.block_lt_of_cell? _ _ hw277_0; first | rwa [add_block] at this | exact this) GW279.out) | (rw [add_block]; exact Nat.ne_of_lt (Nat.lt_of_lt_of_le (by have := World.block_lt_of_cell? _ _ hw277_0; first | rwa [add_block] at this | exact this) GW279.out)) | (show (Addr.add _ _).block ≠ _; rw [add_block]; exact Nat.ne_of_lt (Nat.lt_of_lt_of_le (by have := World.block_lt_of_cell? _ _ hw277_0; first | rwa [add_block] at this | exact this) GW279.out)) | (dsimp only; exact Nat.ne_of_lt (Nat.lt_of_lt_of_le (by have := World.block_lt_of_cell? _ _ hw277_0; first | rwa [add_block] at this | exact this) GW279.out))) _).trans (hHeld.2.2.1)))))), ((cell_far (p := ⟨gb279, _, none⟩) (by first | exact Nat.ne_of_lt (Nat.lt_of_lt_of_le (by have := World.block_lt_of_cell? _ _ hw277_1; first | rwa [add_block] at this | exact this) GW279.out) | (rw [add_block]; exact Nat.ne_of_lt (Nat.lt_of_lt_of_le (by have := World.block_lt_of_cell? _ _ hw277_1; first | rwa [add_block] at this | exact this) GW279.out)) | (show (Addr.add _ _).block ≠ _; rw [add_block]; exact Nat.ne_of_lt (Nat.lt_of_lt_of_le (by have := World.block_lt_of_cell? _ _ hw277_1; first | rwa [add_block] at this | exact this) GW279.out)) | (dsimp only; exact Nat.ne_of_lt (Nat.lt_of_lt_of_le (by have := World.block_lt_of_cell? _ _ hw277_1; first | rwa [add_block] at this | exact this) GW279.out))) _).trans (((cell_far (p := ⟨gb279, _, none⟩) (by first | exact Nat.ne_of_lt (Nat.lt_of_lt_of_le (by have := World.block_lt_of_cell? _ _ hw277_1; first | rwa [add_block] at this | exact this) GW279.out) | (rw [add_block]; exact Nat.ne_of_lt (Nat.lt_of_lt_of_le (by have := World.block_lt_of_cell? _ _ hw277_1; first | rwa [add_block] at this | exact this) GW279.out)) | (show (Addr.add _ _).block ≠ _; rw [add_block]; exact Nat.ne_of_lt (Nat.lt_of_lt_of_le (by have := World.block_lt_of_cell? _ _ hw277_1; first | rwa [add_block] at this | exact this) GW279.out)) | (dsimp only; exact Nat.ne_of_lt (Nat.lt_of_lt_of_le (by have := World.block_lt_of_cell? _ _ hw277_1; first | rwa [add_block] at this | exact this) GW279.out))) _).trans (((cell_far (p := ⟨gb279, _, none⟩) (by first | exact Nat.ne_of_lt (Nat.lt_of_lt_of_le (by have := World.block_lt_of_cell? _ _ hw277_1; first | rwa [add_block] at this | exact this) GW279.out) | (rw [add_block]; exact Nat.ne_of_lt (Nat.lt_of_lt_of_le (by have := World.block_lt_of_cell? _ _ hw277_1; first | rwa [add_block] at this | exact this) GW279.out)) | (show (Addr.add _ _).block ≠ _; rw [add_block]; exact Nat.ne_of_lt (Nat.lt_of_lt_of_le (by have := World.block_lt_of_cell? _ _ hw277_1; first | rwa [add_block] at this | exact this) GW279.out)) | (dsimp only; exact Nat.ne_of_lt (Nat.lt_of_lt_of_le (by have := World.block_lt_of_cell? _ _ hw277_1; first | rwa [add_block] at this | exact this) GW279.out))) _).trans (hHeld.2.2.2.1)))))), ((cell_far (p := ⟨gb279, _, none⟩) (by first | exact Nat.ne_of_lt (Nat.lt_of_lt_of_le (by have := World.block_lt_of_cell? _ _ hw277_2; first | rwa [add_block] at this | exact this) GW279.out) | (rw [add_block]; exact Nat.ne_of_lt (Nat.lt_of_lt_of_le (by have := World.block_lt_of_cell? _ _ hw277_2; first | rwa [add_block] at this | exact this) GW279.out)) | (show (Addr.add _ _).block ≠ _; rw [add_block]; exact Nat.ne_of_lt (Nat.lt_of_lt_of_le (by have := World.block_lt_of_cell? _ _ hw277_2; first | rwa [add_block] at this | exact this) GW279.out)) | (dsimp only; exact Nat.ne_of_lt (Nat.lt_of_lt_of_le (by have := World.block_lt_of_cell? _ _ hw277_2; first | rwa [add_block] at this | exact this) GW279.out))) _).trans (((cell_far (p := ⟨gb279, _, none⟩) (by first | exact Nat.ne_of_lt (Nat.lt_of_lt_of_le (by have := World.block_lt_of_cell? _ _ hw277_2; first | rwa [add_block] at this | exact this) GW279.out) | (rw [add_block]; exact Nat.ne_of_lt (Nat.lt_of_lt_of_le (by have := World.block_lt_of_cell? _ _ hw277_2; first | rwa [add_block] at this | exact this) GW279.out)) | (show (Addr.add _ _).block ≠ _; rw [add_block]; exact Nat.ne_of_lt (Nat.lt_of_lt_of_le (by have := World.block_lt_of_cell? _ _ hw277_2; first | rwa [add_block] at this | exact this) GW279.out)) | (dsimp only; exact Nat.ne_of_lt (Nat.lt_of_lt_of_le (by have := World.block_lt_of_cell? _ _ hw277_2; first | rwa [add_block] at this | exact this) GW279.out))) _).trans (((cell_far (p := ⟨gb279, _, none⟩) (by first | exact Nat.ne_of_lt (Nat.lt_of_lt_of_le (by have := World.block_lt_of_cell? _ _ hw277_2; first | rwa [add_block] at this | exact this) GW279.out) | (rw [add_block]; exact Nat.ne_of_lt (Nat.lt_of_lt_of_le (by have := World.block_lt_of_cell? _ _ hw277_2; first | rwa [add_block] at this | exact this) GW279.out)) | (show (Addr.add _ _).block ≠ _; rw [add_block]; exact Nat.ne_of_lt (Nat.lt_of_lt_of_le (by have := World.block_lt_of_cell? _ _ hw277_2; first | rwa [add_block] at this | exact this) GW279.out)) | (dsimp only; exact Nat.ne_of_lt (Nat.lt_of_lt_of_le (by have := World.block_lt_of_cell? _ _ hw277_2; first | rwa [add_block] at this | exact this) GW279.out))) _).trans (hHeld.2.2.2.2.1)))))), ((cell_far (p := ⟨gb279, _, none⟩) (by first | exact Nat.ne_of_lt (Nat.lt_of_lt_of_le (by have := World.block_lt_of_cell? _ _ hw278_0; first | rwa [add_block] at this | exact this) GW279.out) | (rw [add_block]; exact Nat.ne_of_lt (Nat.lt_of_lt_of_le (by have := World.block_lt_of_cell? _ _ hw278_0; first | rwa [add_block] at this | exact this) GW279.out)) | (show (Addr.add _ _).block ≠ _; rw [add_block]; exact Nat.ne_of_lt (Nat.lt_of_lt_of_le (by have := World.block_lt_of_cell? _ _ hw278_0; first | rwa [add_block] at this | exact this) GW279.out)) | (dsimp only; exact Nat.ne_of_lt (Nat.lt_of_lt_of_le (by have := World.block_lt_of_cell? _ _ hw278_0; first | rwa [add_block] at this | exact this) GW279.out))) _).trans (((cell_far (p := ⟨gb279, _, none⟩) (by first | exact Nat.ne_of_lt (Nat.lt_of_lt_of_le (by have := World.block_lt_of_cell? _ _ hw278_0; first | rwa [add_block] at this | exact this) GW279.out) | (rw [add_block]; exact Nat.ne_of_lt (Nat.lt_of_lt_of_le (by have := World.block_lt_of_cell? _ _ hw278_0; first | rwa [add_block] at this | exact this) GW279.out)) | (show (Addr.add _ _).block ≠ _; rw [add_block]; exact Nat.ne_of_lt (Nat.lt_of_lt_of_le (by have := World.block_lt_of_cell? _ _ hw278_0; first | rwa [add_block] at this | exact this) GW279.out)) | (dsimp only; exact Nat.ne_of_lt (Nat.lt_of_lt_of_le (by have := World.block_lt_of_cell? _ _ hw278_0; first | rwa [add_block] at this | exact this) GW279.out))) _).trans (((cell_far (p := ⟨gb279, _, none⟩) (by first | exact Nat.ne_of_lt (Nat.lt_of_lt_of_le (by have := World.block_lt_of_cell? _ _ hw278_0; first | rwa [add_block] at this | exact this) GW279.out) | (rw [add_block]; exact Nat.ne_of_lt (Nat.lt_of_lt_of_le (by have := World.block_lt_of_cell? _ _ hw278_0; first | rwa [add_block] at this | exact this) GW279.out)) | (show (Addr.add _ _).block ≠ _; rw [add_block]; exact Nat.ne_of_lt (Nat.lt_of_lt_of_le (by have := World.block_lt_of_cell? _ _ hw278_0; first | rwa [add_block] at this | exact this) GW279.out)) | (dsimp only; exact Nat.ne_of_lt (Nat.lt_of_lt_of_le (by have := World.block_lt_of_cell? _ _ hw278_0; first | rwa [add_block] at this | exact this) GW279.out))) _).trans (hHeld.2.2.2.2.2.1)))))), ((cell_far (p := ⟨gb279, _, none⟩) (by first | exact Nat.ne_of_lt (Nat.lt_of_lt_of_le (by have := World.block_lt_of_cell? _ _ hw278_1; first | rwa [add_block] at this | exact this) GW279.out) | (rw [add_block]; exact Nat.ne_of_lt (Nat.lt_of_lt_of_le (by have := World.block_lt_of_cell? _ _ hw278_1; first | rwa [add_block] at this | exact this) GW279.out)) | (show (Addr.add _ _).block ≠ _; rw [add_block]; exact Nat.ne_of_lt (Nat.lt_of_lt_of_le (by have := World.block_lt_of_cell? _ _ hw278_1; first | rwa [add_block] at this | exact this) GW279.out)) | (dsimp only; exact Nat.ne_of_lt (Nat.lt_of_lt_of_le (by have := World.block_lt_of_cell? _ _ hw278_1; first | rwa [add_block] at this | exact this) GW279.out))) _).trans (((cell_far (p := ⟨gb279, _, none⟩) (by first | exact Nat.ne_of_lt (Nat.lt_of_lt_of_le (by have := World.block_lt_of_cell? _ _ hw278_1; first | rwa [add_block] at this | exact this) GW279.out) | (rw [add_block]; exact Nat.ne_of_lt (Nat.lt_of_lt_of_le (by have := World.block_lt_of_cell? _ _ hw278_1; first | rwa [add_block] at this | exact this) GW279.out)) | (show (Addr.add _ _).block ≠ _; rw [add_block]; exact Nat.ne_of_lt (Nat.lt_of_lt_of_le (by have := World.block_lt_of_cell? _ _ hw278_1; first | rwa [add_block] at this | exact this) GW279.out)) | (dsimp only; exact Nat.ne_of_lt (Nat.lt_of_lt_of_le (by have := World.block_lt_of_cell? _ _ hw278_1; first | rwa [add_block] at this | exact this) GW279.out))) _).trans (((cell_far (p := ⟨gb279, _, none⟩) (by first | exact Nat.ne_of_lt (Nat.lt_of_lt_of_le (by have := World.block_lt_of_cell? _ _ hw278_1; first | rwa [add_block] at this | exact this) GW279.out) | (rw [add_block]; exact Nat.ne_of_lt (Nat.lt_of_lt_of_le (by have := World.block_lt_of_cell? _ _ hw278_1; first | rwa [add_block] at this | exact this) GW279.out)) | (show (Addr.add _ _).block ≠ _; rw [add_block]; exact Nat.ne_of_lt (Nat.lt_of_lt_of_le (by have := World.block_lt_of_cell? _ _ hw278_1; first | rwa [add_block] at this | exact this) GW279.out)) | (dsimp only; exact Nat.ne_of_lt (Nat.lt_of_lt_of_le (by have := World.block_lt_of_cell? _ _ hw278_1; first | rwa [add_block] at this | exact this) GW279.out))) _).trans (hHeld.2.2.2.2.2.2.1)))))), ((cell_far (p := ⟨gb279, _, none⟩) (by first | exact Nat.ne_of_lt (Nat.lt_of_lt_of_le (by have := World.block_lt_of_cell? _ _ hw278_2; first | rwa [add_block] at this | exact this) GW279.out) | (rw [add_block]; exact Nat.ne_of_lt (Nat.lt_of_lt_of_le (by have := World.block_lt_of_cell? _ _ hw278_2; first | rwa [add_block] at this | exact this) GW279.out)) | (show (Addr.add _ _).block ≠ _; rw [add_block]; exact Nat.ne_of_lt (Nat.lt_of_lt_of_le (by have := World.block_lt_of_cell? _ _ hw278_2; first | rwa [add_block] at this | exact this) GW279.out)) | (dsimp only; exact Nat.ne_of_lt (Nat.lt_of_lt_of_le (by have := World.block_lt_of_cell? _ _ hw278_2; first | rwa [add_block] at this | exact this) GW279.out))) _).trans (((cell_far (p := ⟨gb279, _, none⟩) (by first | exact Nat.ne_of_lt (Nat.lt_of_lt_of_le (by have := World.block_lt_of_cell? _ _ hw278_2; first | rwa [add_block] at this | exact this) GW279.out) | (rw [add_block]; exact Nat.ne_of_lt (Nat.lt_of_lt_of_le (by have := World.block_lt_of_cell? _ _ hw278_2; first | rwa [add_block] at this | exact this) GW279.out)) | (show (Addr.add _ _).block ≠ _; rw [add_block]; exact Nat.ne_of_lt (Nat.lt_of_lt_of_le (by have := World.block_lt_of_cell? _ _ hw278_2; first | rwa [add_block] at this | exact this) GW279.out)) | (dsimp only; exact Nat.ne_of_lt (Nat.lt_of_lt_of_le (by have := World.block_lt_of_cell? _ _ hw278_2; first | rwa [add_block] at this | exact this) GW279.out))) _).trans (((cell_far (p := ⟨gb279, _, none⟩) (by first | exact Nat.ne_of_lt (Nat.lt_of_lt_of_le (by have := World.block_lt_of_cell? _ _ hw278_2; first | rwa [add_block] at this | exact this) GW279.out) | (rw [add_block]; exact Nat.ne_of_lt (Nat.lt_of_lt_of_le (by have := World.block_lt_of_cell? _ _ hw278_2; first | rwa [add_block] at this | exact this) GW279.out)) | (show (Addr.add _ _).block ≠ _; rw [add_block]; exact Nat.ne_of_lt (Nat.lt_of_lt_of_le (by have := World.block_lt_of_cell? _ _ hw278_2; first | rwa [add_block] at this | exact this) GW279.out)) | (dsimp only; exact Nat.ne_of_lt (Nat.lt_of_lt_of_le (by have := World.block_lt_of_cell? _ _ hw278_2; first | rwa [add_block] at this | exact this) GW279.out))) _).trans (hHeld.2.2.2.2.2.2.2))))))⟩ (fun hHeld => ?_)
       clear hK K
       refine done_ (done_of HT_.out (by kernel_rfl)) ?_
       try go_wp2
       have n0_ : Aside0 ((((w10.setCell ⟨gb279, 0, none⟩ (.int .i64 ((rd_T82 l0_0 ((rd_T84 l0_1 a1).f0)).f0))).setCell ⟨gb279, 1, none⟩ (.int .i64 ((rd_T82 l0_0 ((rd_T84 l0_1 a1).f0)).f1))).setCell ⟨gb279, 2, none⟩ (.bool ((rd_T82 l0_0 ((rd_T84 l0_1 a1).f0)).f2))).heap[gp0]? = some (.cells #[.slice (some ad278) l0_0.length c0_0, .slice (some ad277) l0_1.length c0_1] 39 (0, 0))) := ⟨by (with_reducible repeat (first | refine M ?_ _ | refine T ?_ | refine O ?_ _)); refine blk_far ?_ NB0_279.out _; (with_reducible repeat (first | refine M ?_ _ | refine T ?_ | refine O ?_ _)); refine blk_far ?_ NB0_279.out _; (with_reducible repeat (first | refine M ?_ _ | refine T ?_ | refine O ?_ _)); refine blk_far ?_ NB0_279.out _; (with_reducible repeat (first | refine M ?_ _ | refine T ?_ | refine O ?_ _)); exact BK0.out⟩
       have n1_ : Aside0 ((((w10.setCell ⟨gb279, 0, none⟩ (.int .i64 ((rd_T82 l0_0 ((rd_T84 l0_1 a1).f0)).f0))).setCell ⟨gb279, 1, none⟩ (.int .i64 ((rd_T82 l0_0 ((rd_T84 l0_1 a1).f0)).f1))).setCell ⟨gb279, 2, none⟩ (.bool ((rd_T82 l0_0 ((rd_T84 l0_1 a1).f0)).f2))).heap[gb279]? = some (.cells #[.int .i64 ((rd_T82 l0_0 ((rd_T84 l0_1 a1).f0)).f0), .int .i64 ((rd_T82 l0_0 ((rd_T84 l0_1 a1).f0)).f1), .bool ((rd_T82 l0_0 ((rd_T84 l0_1 a1).f0)).f2)] 82 (0, 0))) := ⟨by (with_reducible repeat (first | refine M ?_ _ | refine T ?_ | refine O ?_ _)); refine blk_put (cs := #[.int .i64 ((rd_T82 l0_0 ((rd_T84 l0_1 a1).f0)).f0), .int .i64 ((rd_T82 l0_0 ((rd_T84 l0_1 a1).f0)).f1), .bool false]) ?_ 2 _ rfl; (with_reducible repeat (first | refine M ?_ _ | refine T ?_ | refine O ?_ _)); refine blk_put (cs := #[.int .i64 ((rd_T82 l0_0 ((rd_T84 l0_1 a1).f0)).f0), .int .i64 0, .bool false]) ?_ 1 _ rfl; (with_reducible repeat (first | refine M ?_ _ | refine T ?_ | refine O ?_ _)); refine blk_put (cs := #[.int .i64 0, .int .i64 0, .bool false]) ?_ 0 _ rfl; (with_reducible repeat (first | refine M ?_ _ | refine T ?_ | refine O ?_ _)); exact BK279.out⟩
       have n2_ : Aside0 (Below w.heap.size w (((w10.setCell ⟨gb279, 0, none⟩ (.int .i64 ((rd_T82 l0_0 ((rd_T84 l0_1 a1).f0)).f0))).setCell ⟨gb279, 1, none⟩ (.int .i64 ((rd_T82 l0_0 ((rd_T84 l0_1 a1).f0)).f1))).setCell ⟨gb279, 2, none⟩ (.bool ((rd_T82 l0_0 ((rd_T84 l0_1 a1).f0)).f2)))) := ⟨by repeat (first | (with_reducible first | exact HB.out | apply below_alloc | apply L | apply U | refine J ?_ GE0.out | refine J ?_ GE279.out) | exact HB.out)⟩
       (try clear BK0)
       (try clear BK279)
       (try clear HB)
       generalize (((w10.setCell ⟨gb279, 0, none⟩ (.int .i64 ((rd_T82 l0_0 ((rd_T84 l0_1 a1).f0)).f0))).setCell ⟨gb279, 1, none⟩ (.int .i64 ((rd_T82 l0_0 ((rd_T84 l0_1 a1).f0)).f1))).setCell ⟨gb279, 2, none⟩ (.bool ((rd_T82 l0_0 ((rd_T84 l0_1 a1).f0)).f2))) = w14 at n0_ n1_ n2_ ⊢
       have BK0 := n0_
       have BK279 := n1_
       have HB := n2_
       clear n0_ n1_ n2_
       have n0_ := G (T BK0.out)
       have n1_ := G (T BK279.out)
       have n2_ := G (U HB.out)
       clear BK0
       clear BK279
       clear HB
       have BK0 := n0_
       have BK279 := n1_
       have HB := n2_
       clear n0_ n1_ n2_
       have p280 : 0 ≤ (a1 : Int) := of_decide_eq_true (by first | (with_reducible assumption) | assumption)
       have q280 : a1 < (l0_1.length : Int) := of_decide_eq_true (by first | (with_reducible assumption) | assumption)
       obtain ⟨ad280, e280, hx280_0, hx280_1, hx280_2⟩ := at_T84 HR0_1.out a1 p280 q280
       have hw280_2 := hx280_2
       have hw280_1 := hx280_1
       have hw280_0 := hx280_0
       obtain rfl : ad277 = ad280 := (by injection e280)
       (first | (replace hx280_0 := (HB.out.cell (World.block_lt_of_cell? w _ hx280_0)).trans hx280_0) | skip)
       (first | (replace hx280_1 := (HB.out.cell (World.block_lt_of_cell? w _ hx280_1)).trans hx280_1) | skip)
       (first | (replace hx280_2 := (HB.out.cell (World.block_lt_of_cell? w _ hx280_2)).trans hx280_2) | skip)
       replace p280 := eq_true p280
       replace q280 := eq_true q280
       have p281 : 0 ≤ (((rd_T84 l0_1 a1).f1) : Int) := of_decide_eq_true (by first | (with_reducible assumption) | assumption)
       have q281 : ((rd_T84 l0_1 a1).f1) < (l0_0.length : Int) := of_decide_eq_true (by first | (with_reducible assumption) | assumption)
       obtain ⟨ad281, e281, hx281_0, hx281_1, hx281_2⟩ := at_T82 HR0_0.out ((rd_T84 l0_1 a1).f1) p281 q281
       have hw281_2 := hx281_2
       have hw281_1 := hx281_1
       have hw281_0 := hx281_0
       obtain rfl : ad278 = ad281 := (by injection e281)
       (first | (replace hx281_0 := (HB.out.cell (World.block_lt_of_cell? w _ hx281_0)).trans hx281_0) | skip)
       (first | (replace hx281_1 := (HB.out.cell (World.block_lt_of_cell? w _ hx281_1)).trans hx281_1) | skip)
       (first | (replace hx281_2 := (HB.out.cell (World.block_lt_of_cell? w _ hx281_2)).trans hx281_2) | skip)
       replace p281 := eq_true p281
       replace q281 := eq_true q281
       refine start_ (n := 16) (S := fun w' => w'.cell? ⟨gp0, 0, none⟩ = some (.slice (some ad278) l0_0.length c0_0) ∧ w'.cell? ⟨gp0, 1, none⟩ = some (.slice (some ad277) l0_1.length c0_1) ∧ w'.cell? (ad277.add ((a1).toNat * 3)) = some (.int .i64 ((rd_T84 l0_1 a1).f0)) ∧ w'.cell? ⟨(ad277.add ((a1).toNat * 3)).block, (ad277.add ((a1).toNat * 3)).off + 1, none⟩ = some (.int .i64 ((rd_T84 l0_1 a1).f1)) ∧ w'.cell? ⟨(ad277.add ((a1).toNat * 3)).block, (ad277.add ((a1).toNat * 3)).off + 2, none⟩ = some (.bool ((rd_T84 l0_1 a1).f2)) ∧ w'.cell? (ad278.add ((((rd_T84 l0_1 a1).f1)).toNat * 3)) = some (.int .i64 ((rd_T82 l0_0 ((rd_T84 l0_1 a1).f1)).f0)) ∧ w'.cell? ⟨(ad278.add ((((rd_T84 l0_1 a1).f1)).toNat * 3)).block, (ad278.add ((((rd_T84 l0_1 a1).f1)).toNat * 3)).off + 1, none⟩ = some (.int .i64 ((rd_T82 l0_0 ((rd_T84 l0_1 a1).f1)).f1)) ∧ w'.cell? ⟨(ad278.add ((((rd_T84 l0_1 a1).f1)).toNat * 3)).block, (ad278.add ((((rd_T84 l0_1 a1).f1)).toNat * 3)).off + 2, none⟩ = some (.bool ((rd_T82 l0_0 ((rd_T84 l0_1 a1).f1)).f2))) (ds := []) #[n', n', n', n', n', n', n', n', n', n', n', n', n', n', n', n'] (by kernel_rfl) rfl rfl ⟨(V BK0.out 0).trans rfl, (V BK0.out 1).trans rfl, ((HB.out.cell (World.block_lt_of_cell? w _ hw280_0)).trans hw280_0), ((HB.out.cell (World.block_lt_of_cell? w _ hw280_1)).trans hw280_1), ((HB.out.cell (World.block_lt_of_cell? w _ hw280_2)).trans hw280_2), ((HB.out.cell (World.block_lt_of_cell? w _ hw281_0)).trans hw281_0), ((HB.out.cell (World.block_lt_of_cell? w _ hw281_1)).trans hw281_1), ((HB.out.cell (World.block_lt_of_cell? w _ hw281_2)).trans hw281_2)⟩ (fun hHeld => ?_); refine with_tabW spec_l09Square.tab2 spec_l09Square.bits2 (fun HT_ HW_ => ?_)
       generalize w14.drew = w15 at BK0 BK279 HB hx280_0 hx280_1 hx280_2 hx281_0 hx281_1 hx281_2 hHeld ⊢
       refine pure_ (i := 0) (N := some 21) (v := ?_) (a' := ?_) #[y', n', n', n', n', n', n', n', n', n', n', n', n', n', n', n'] rfl rfl (any_of HT_.out (by kernel_rfl)) (fun _ _ _ h => h) (Or.inl ⟨by rfl, ?_⟩) ?_ ?_
       rotate_left
       ·intro w'
        go_simp
        with_reducible rfl
       rotate_left
       ·simp only [Act.put, z1', z2', z3', i64_w, i32_w]
        rfl
       refine pure_ (i := 1) (N := some 22) (v := ?_) (a' := ?_) #[y', y', n', n', n', n', n', n', n', n', n', n', n', n', n', n'] rfl rfl (any_of HT_.out (by kernel_rfl)) (fun _ _ _ h => h) (Or.inl ⟨by rfl, ?_⟩) ?_ ?_
       rotate_left
       ·intro w'
        go_simp
        with_reducible rfl
       rotate_left
       ·simp only [Act.put, z1', z2', z3', i64_w, i32_w]
        rfl
       refine pure_ (i := 2) (N := some 23) (v := ?_) (a' := ?_) #[y', y', y', n', n', n', n', n', n', n', n', n', n', n', n', n'] rfl rfl (any_of HT_.out (by kernel_rfl)) (fun _ _ _ h => h) (Or.inl ⟨by rfl, ?_⟩) ?_ ?_
       rotate_left
       ·intro w'
        go_simp
        with_reducible rfl
       rotate_left
       ·simp only [Act.put, z1', z2', z3', i64_w, i32_w]
        rfl
       refine pure_ (i := 4) (N := some 25) (v := ?_) (a' := ?_) #[y', y', y', n', y', n', n', n', n', n', n', n', n', n', n', n'] rfl rfl (any_of HT_.out (by kernel_rfl)) (fun _ _ _ h => h) (Or.inl ⟨by rfl, ?_⟩) ?_ ?_
       rotate_left
       ·intro w'
        go_simp
        with_reducible rfl
       rotate_left
       ·simp only [Act.put, z1', z2', z3', i64_w, i32_w]
        rfl
       refine pure_ (i := 5) (N := some 26) (v := ?_) (a' := ?_) #[y', y', y', n', y', y', n', n', n', n', n', n', n', n', n', n'] rfl rfl (any_of HT_.out (by kernel_rfl)) (fun _ _ _ h => h) (Or.inl ⟨by rfl, ?_⟩) ?_ ?_
       rotate_left
       ·intro w'
        go_simp
        with_reducible rfl
       rotate_left
       ·simp only [Act.put, z1', z2', z3', i64_w, i32_w]
        rfl
       refine pure_ (i := 6) (N := some 27) (v := ?_) (a' := ?_) #[y', y', y', n', y', y', y', n', n', n', n', n', n', n', n', n'] rfl rfl (any_of HT_.out (by kernel_rfl)) (fun _ _ _ h => h) (Or.inl ⟨by rfl, ?_⟩) ?_ ?_
       rotate_left
       ·intro w'
        go_simp
        with_reducible rfl
       rotate_left
       ·simp only [Act.put, z1', z2', z3', i64_w, i32_w]
        rfl
       refine pure_ (i := 8) (N := some 29) (v := ?_) (a' := ?_) #[y', y', y', n', y', y', y', n', y', n', n', n', n', n', n', n'] rfl rfl (any_of HT_.out (by kernel_rfl)) (fun _ _ _ h => h) (Or.inl ⟨by rfl, ?_⟩) ?_ ?_
       rotate_left
       ·intro w'
        go_simp
        with_reducible rfl
       rotate_left
       ·simp only [Act.put, z1', z2', z3', i64_w, i32_w]
        rfl
       refine take_ (i := 3) (N := some 24) (v := ?_) (a' := ?_) #[y', y', y', y', y', y', y', n', y', n', n', n', n', n', n', n'] rfl rfl (take_ofW HT_.out HW_.out (by kernel_rfl)) (fun _ _ _ h => h) (Or.inl ⟨by rfl, ?_⟩) hHeld ?_ ?_
       rotate_left
       ·rintro w' ⟨s0, s1, s2, s3, s4, s5, s6, s7⟩
        go_simp
        with_reducible rfl
       rotate_left
       ·simp only [Act.put, z1', z2', z3', i64_w, i32_w]
        rfl
       refine take_ (i := 7) (N := some 28) (v := ?_) (a' := ?_) #[y', y', y', y', y', y', y', y', y', n', n', n', n', n', n', n'] rfl rfl (take_ofW HT_.out HW_.out (by kernel_rfl)) (fun _ _ _ h => h) (Or.inl ⟨by rfl, ?_⟩) hHeld ?_ ?_
       rotate_left
       ·rintro w' ⟨s0, s1, s2, s3, s4, s5, s6, s7⟩
        go_simp
        with_reducible rfl
       rotate_left
       ·simp only [Act.put, z1', z2', z3', i64_w, i32_w]
        rfl
       refine pure_ (i := 9) (N := some 30) (v := ?_) (a' := ?_) #[y', y', y', y', y', y', y', y', y', y', n', n', n', n', n', n'] rfl rfl (any_of HT_.out (by kernel_rfl)) (fun _ _ _ h => h) (Or.inl ⟨by rfl, ?_⟩) ?_ ?_
       rotate_left
       ·intro w'
        go_simp
        with_reducible rfl
       rotate_left
       ·simp only [Act.put, z1', z2', z3', i64_w, i32_w]
        rfl
       refine pure_ (i := 10) (N := some 31) (v := ?_) (a' := ?_) #[y', y', y', y', y', y', y', y', y', y', y', n', n', n', n', n'] rfl rfl (any_of HT_.out (by kernel_rfl)) (fun _ _ _ h => h) (Or.inl ⟨by rfl, ?_⟩) ?_ ?_
       rotate_left
       ·intro w'
        go_simp
        with_reducible rfl
       rotate_left
       ·simp only [Act.put, z1', z2', z3', i64_w, i32_w]
        rfl
       refine take_ (i := 11) (N := some 32) (v := ?_) (a' := ?_) #[y', y', y', y', y', y', y', y', y', y', y', y', n', n', n', n'] rfl rfl (take_ofW HT_.out HW_.out (by kernel_rfl)) (fun _ _ _ h => h) (Or.inl ⟨by rfl, ?_⟩) hHeld ?_ ?_
       rotate_left
       ·rintro w' ⟨s0, s1, s2, s3, s4, s5, s6, s7⟩
        go_simp
        with_reducible rfl
       rotate_left
       ·simp only [Act.put, z1', z2', z3', i64_w, i32_w]
        rfl
       refine pure_ (i := 12) (N := some 33) (v := ?_) (a' := ?_) #[y', y', y', y', y', y', y', y', y', y', y', y', y', n', n', n'] rfl rfl (any_of HT_.out (by kernel_rfl)) (fun _ _ _ h => h) (Or.inl ⟨by rfl, ?_⟩) ?_ ?_
       rotate_left
       ·intro w'
        go_simp
        with_reducible rfl
       rotate_left
       ·simp only [Act.put, z1', z2', z3', i64_w, i32_w]
        rfl
       refine take_ (i := 13) (N := some 34) (v := ?_) (a' := ?_) #[y', y', y', y', y', y', y', y', y', y', y', y', y', y', n', n'] rfl rfl (take_ofW HT_.out HW_.out (by kernel_rfl)) (fun _ _ _ h => h) (Or.inl ⟨by rfl, ?_⟩) hHeld ?_ ?_
       rotate_left
       ·rintro w' ⟨s0, s1, s2, s3, s4, s5, s6, s7⟩
        go_simp
        with_reducible rfl
       rotate_left
       ·simp only [Act.put, z1', z2', z3', i64_w, i32_w]
        rfl
       refine one_ (i := 14) (N := some 6) #[y', y', y', y', y', y', y', y', y', y', y', y', y', y', y', n'] rfl rfl (one_of HT_.out (by kernel_rfl)) (by decide) (fun K hK => ?_)
       refine box_step ?hg (N := 6) ?hd (cs := #[.int .i64 0, .int .i64 0, .bool false]) (t := 82) ?hr ?_; (case hd => rfl); (case hg => rfl); (case hr => first | (go_simp; done) | (go_simp; rfl))
       intro gb282 hg w16 hbox hb
       have n0_ := G (blk_below (g := gp0) (o := .cells #[.slice (some ad278) l0_0.length c0_0, .slice (some ad277) l0_1.length c0_1] 39 (0, 0)) (by (with_reducible repeat (first | refine M ?_ _ | refine T ?_ | refine O ?_ _)); exact BK0.out) hb)
       have n1_ := G (blk_below (g := gb279) (o := .cells #[.int .i64 ((rd_T82 l0_0 ((rd_T84 l0_1 a1).f0)).f0), .int .i64 ((rd_T82 l0_0 ((rd_T84 l0_1 a1).f0)).f1), .bool ((rd_T82 l0_0 ((rd_T84 l0_1 a1).f0)).f2)] 82 (0, 0)) (by (with_reducible repeat (first | refine M ?_ _ | refine T ?_ | refine O ?_ _)); exact BK279.out) hb)
       have n2_ := G (below_step (by repeat (first | (with_reducible first | exact HB.out | apply below_alloc | apply L | apply U | refine J ?_ GE0.out | refine J ?_ GE279.out) | exact HB.out)) hb)
       have n3_ := G (hbox)
       have n4_ := G ((by rw [hg]; exact (below_size (by repeat (first | (with_reducible first | exact HB.out | apply below_alloc | apply L | apply U | refine J ?_ GE0.out | refine J ?_ GE279.out) | exact HB.out))) : w.heap.size ≤ gb282))
       have n5_ := G ((by rw [hg]; exact (below_size (by repeat (first | (with_reducible first | exact HB.out | apply below_alloc | apply L | apply U | refine J ?_ GE0.out | refine J ?_ GE279.out) | exact HB.out))) : w.heap.size ≤ gb282))
       have n6_ := G ((by rw [hg]; exact Nat.ne_of_lt (blk_lt (g := gp0) (o := .cells #[.slice (some ad278) l0_0.length c0_0, .slice (some ad277) l0_1.length c0_1] 39 (0, 0)) (by (with_reducible repeat (first | refine M ?_ _ | refine T ?_ | refine O ?_ _)); exact BK0.out)) : gp0 ≠ gb282))
       have n7_ := G ((by rw [hg]; exact Nat.ne_of_gt (blk_lt (g := gp0) (o := .cells #[.slice (some ad278) l0_0.length c0_0, .slice (some ad277) l0_1.length c0_1] 39 (0, 0)) (by (with_reducible repeat (first | refine M ?_ _ | refine T ?_ | refine O ?_ _)); exact BK0.out)) : gb282 ≠ gp0))
       have n8_ := G ((by rw [hg]; exact Nat.ne_of_lt (blk_lt (g := gb279) (o := .cells #[.int .i64 ((rd_T82 l0_0 ((rd_T84 l0_1 a1).f0)).f0), .int .i64 ((rd_T82 l0_0 ((rd_T84 l0_1 a1).f0)).f1), .bool ((rd_T82 l0_0 ((rd_T84 l0_1 a1).f0)).f2)] 82 (0, 0)) (by (with_reducible repeat (first | refine M ?_ _ | refine T ?_ | refine O ?_ _)); exact BK279.out)) : gb279 ≠ gb282))
       have n9_ := G ((by rw [hg]; exact Nat.ne_of_gt (blk_lt (g := gb279) (o := .cells #[.int .i64 ((rd_T82 l0_0 ((rd_T84 l0_1 a1).f0)).f0), .int .i64 ((rd_T82 l0_0 ((rd_T84 l0_1 a1).f0)).f1), .bool ((rd_T82 l0_0 ((rd_T84 l0_1 a1).f0)).f2)] 82 (0, 0)) (by (with_reducible repeat (first | refine M ?_ _ | refine T ?_ | refine O ?_ _)); exact BK279.out)) : gb282 ≠ gb279))
       clear BK0
       clear BK279
       clear HB
       have BK0 := n0_
       have BK279 := n1_
       have HB := n2_
       have BK282 := n3_
       have GW282 := n4_
       have GE282 := n5_
       have NB0_282 := n6_
       have NB282_0 := n7_
       have NB279_282 := n8_
       have NB282_279 := n9_
       clear n0_ n1_ n2_ n3_ n4_ n5_ n6_ n7_ n8_ n9_
       clear hb hbox hg
       refine hK.out _ _ ⟨(V BK0.out 0).trans rfl, (V BK0.out 1).trans rfl, ((HB.out.cell (World.block_lt_of_cell? w _ hw280_0)).trans hw280_0), ((HB.out.cell (World.block_lt_of_cell? w _ hw280_1)).trans hw280_1), ((HB.out.cell (World.block_lt_of_cell? w _ hw280_2)).trans hw280_2), ((HB.out.cell (World.block_lt_of_cell? w _ hw281_0)).trans hw281_0), ((HB.out.cell (World.block_lt_of_cell? w _ hw281_1)).trans hw281_1), ((HB.out.cell (World.block_lt_of_cell? w _ hw281_2)).trans hw281_2)⟩ (fun hHeld => ?_)
       clear hK K
       refine norm_ (a' := ?_) ?_ ?_
       rotate_left
       ·show Act.put _ (some 6) _ = _
        simp only [Act.put, z1', z2', z3', i64_w, i32_w]
        rfl
       refine one_ (i := 15) (N := none) #[y', y', y', y', y', y', y', y', y', y', y', y', y', y', y', y'] rfl rfl (one_of HT_.out (by kernel_rfl)) (by decide) (fun K hK => ?_)
       have hs17 : w16.cell? ⟨gb282, 0, none⟩ = some (.int .i64 0) := (V BK282.out 0).trans rfl
       have hfs17 := X BK282.out 0
       have hns17_0 := NB0_282.out
       have hns17_1 := NB279_282.out
       have hms17_0 := NB282_0.out
       have hms17_1 := NB282_279.out
       have hs18 : w16.cell? ⟨gb282, 1, none⟩ = some (.int .i64 0) := (V BK282.out 1).trans rfl
       have hfs18 := X BK282.out 1
       have hns18_0 := NB0_282.out
       have hns18_1 := NB279_282.out
       have hms18_0 := NB282_0.out
       have hms18_1 := NB282_279.out
       have hs19 : w16.cell? ⟨gb282, 2, none⟩ = some (.bool false) := (V BK282.out 2).trans rfl
       have hfs19 := X BK282.out 2
       have hns19_0 := NB0_282.out
       have hns19_1 := NB279_282.out
       have hms19_0 := NB282_0.out
       have hms19_1 := NB282_279.out
       refine skip_ (w1 := ?_) (by rfl) rfl ?_ ?_
       rotate_left
       ·go_simp
        rfl
       refine hK.out _ _ ⟨((cell_far (p := ⟨gb282, _, none⟩) NB0_282.out _).trans (((cell_far (p := ⟨gb282, _, none⟩) NB0_282.out _).trans (((cell_far (p := ⟨gb282, _, none⟩) NB0_282.out _).trans (hHeld.1)))))), ((cell_far (p := ⟨gb282, _, none⟩) NB0_282.out _).trans (((cell_far (p := ⟨gb282, _, none⟩) NB0_282.out _).trans (((cell_far (p := ⟨gb282, _, none⟩) NB0_282.out _).trans (hHeld.2.1)))))), ((cell_far (p := ⟨gb282, _, none⟩) (by first | exact Nat.ne_of_lt (Nat.lt_of_lt_of_le (by have := World.block_lt_of_cell? _ _ hw280_0; first | rwa [add_block] at this | exact this) GW282.out) | (rw [add_block]; exact Nat.ne_of_lt (Nat.lt_of_lt_of_le (by have := World.block_lt_of_cell? _ _ hw280_0; first | rwa [add_block] at this | exact this) GW282.out)) | (show (Addr.add _ _).block ≠ _; rw [add_block]; exact Nat.ne_of_lt (Nat.lt_of_lt_of_le (by have := World.block_lt_of_cell? _ _ hw280_0; first | rwa [add_block] at this | exact this) GW282.out)) | (dsimp only; exact Nat.ne_of_lt (Nat.lt_of_lt_of_le (by have := World.block_lt_of_cell? _ _ hw280_0; first | rwa [add_block] at this | exact this) GW282.out))) _).trans (((cell_far (p := ⟨gb282, _, none⟩) (by first | exact Nat.ne_of_lt (Nat.lt_of_lt_of_le (by have := World.block_lt_of_cell? _ _ hw280_0; first | rwa [add_block] at this | exact this) GW282.out) | (rw [add_block]; exact Nat.ne_of_lt (Nat.lt_of_lt_of_le (by have := World.block_lt_of_cell? _ _ hw280_0; first | rwa [add_block] at this | exact this) GW282.out)) | (show (Addr.add _ _).block ≠ _; rw [add_block]; exact Nat.ne_of_lt (Nat.lt_of_lt_of_le (by have := World.block_lt_of_cell? _ _ hw280_0; first | rwa [add_block] at this | exact this) GW282.out)) | (dsimp only; exact Nat.ne_of_lt (Nat.lt_of_lt_of_le (by have := World.block_lt_of_cell? _ _ hw280_0; first | rwa [add_block] at this | exact this) GW282.out))) _).trans (((cell_far (p := ⟨gb282, _, none⟩) (by first | exact Nat.ne_of_lt (Nat.lt_of_lt_of_le (by have := World.block_lt_of_cell? _ _ hw280_0; first | rwa [add_block] at this | exact this) GW282.out) | (rw [add_block]; exact Nat.ne_of_lt (Nat.lt_of_lt_of_le (by have := World.block_lt_of_cell? _ _ hw280_0; first | rwa [add_block] at this | exact this) GW282.out)) | (show (Addr.add _ _).block ≠ _; rw [add_block]; exact Nat.ne_of_lt (Nat.lt_of_lt_of_le (by have := World.block_lt_of_cell? _ _ hw280_0; first | rwa [add_block] at this | exact this) GW282.out)) | (dsimp only; exact Nat.ne_of_lt (Nat.lt_of_lt_of_le (by have := World.block_lt_of_cell? _ _ hw280_0; first | rwa [add_block] at this | exact this) GW282.out))) _).trans (hHeld.2.2.1)))))), ((cell_far (p := ⟨gb282, _, none⟩) (by first | exact Nat.ne_of_lt (Nat.lt_of_lt_of_le (by have := World.block_lt_of_cell? _ _ hw280_1; first | rwa [add_block] at this | exact this) GW282.out) | (rw [add_block]; exact Nat.ne_of_lt (Nat.lt_of_lt_of_le (by have := World.block_lt_of_cell? _ _ hw280_1; first | rwa [add_block] at this | exact this) GW282.out)) | (show (Addr.add _ _).block ≠ _; rw [add_block]; exact Nat.ne_of_lt (Nat.lt_of_lt_of_le (by have := World.block_lt_of_cell? _ _ hw280_1; first | rwa [add_block] at this | exact this) GW282.out)) | (dsimp only; exact Nat.ne_of_lt (Nat.lt_of_lt_of_le (by have := World.block_lt_of_cell? _ _ hw280_1; first | rwa [add_block] at this | exact this) GW282.out))) _).trans (((cell_far (p := ⟨gb282, _, none⟩) (by first | exact Nat.ne_of_lt (Nat.lt_of_lt_of_le (by have := World.block_lt_of_cell? _ _ hw280_1; first | rwa [add_block] at this | exact this) GW282.out) | (rw [add_block]; exact Nat.ne_of_lt (Nat.lt_of_lt_of_le (by have := World.block_lt_of_cell? _ _ hw280_1; first | rwa [add_block] at this | exact this) GW282.out)) | (show (Addr.add _ _).block ≠ _; rw [add_block]; exact Nat.ne_of_lt (Nat.lt_of_lt_of_le (by have := World.block_lt_of_cell? _ _ hw280_1; first | rwa [add_block] at this | exact this) GW282.out)) | (dsimp only; exact Nat.ne_of_lt (Nat.lt_of_lt_of_le (by have := World.block_lt_of_cell? _ _ hw280_1; first | rwa [add_block] at this | exact this) GW282.out))) _).trans (((cell_far (p := ⟨gb282, _, none⟩) (by first | exact Nat.ne_of_lt (Nat.lt_of_lt_of_le (by have := World.block_lt_of_cell? _ _ hw280_1; first | rwa [add_block] at this | exact this) GW282.out) | (rw [add_block]; exact Nat.ne_of_lt (Nat.lt_of_lt_of_le (by have := World.block_lt_of_cell? _ _ hw280_1; first | rwa [add_block] at this | exact this) GW282.out)) | (show (Addr.add _ _).block ≠ _; rw [add_block]; exact Nat.ne_of_lt (Nat.lt_of_lt_of_le (by have := World.block_lt_of_cell? _ _ hw280_1; first | rwa [add_block] at this | exact this) GW282.out)) | (dsimp only; exact Nat.ne_of_lt (Nat.lt_of_lt_of_le (by have := World.block_lt_of_cell? _ _ hw280_1; first | rwa [add_block] at this | exact this) GW282.out))) _).trans (hHeld.2.2.2.1)))))), ((cell_far (p := ⟨gb282, _, none⟩) (by first | exact Nat.ne_of_lt (Nat.lt_of_lt_of_le (by have := World.block_lt_of_cell? _ _ hw280_2; first | rwa [add_block] at this | exact this) GW282.out) | (rw [add_block]; exact Nat.ne_of_lt (Nat.lt_of_lt_of_le (by have := World.block_lt_of_cell? _ _ hw280_2; first | rwa [add_block] at this | exact this) GW282.out)) | (show (Addr.add _ _).block ≠ _; rw [add_block]; exact Nat.ne_of_lt (Nat.lt_of_lt_of_le (by have := World.block_lt_of_cell? _ _ hw280_2; first | rwa [add_block] at this | exact this) GW282.out)) | (dsimp only; exact Nat.ne_of_lt (Nat.lt_of_lt_of_le (by have := World.block_lt_of_cell? _ _ hw280_2; first | rwa [add_block] at this | exact this) GW282.out))) _).trans (((cell_far (p := ⟨gb282, _, none⟩) (by first | exact Nat.ne_of_lt (Nat.lt_of_lt_of_le (by have := World.block_lt_of_cell? _ _ hw280_2; first | rwa [add_block] at this | exact this) GW282.out) | (rw [add_block]; exact Nat.ne_of_lt (Nat.lt_of_lt_of_le (by have := World.block_lt_of_cell? _ _ hw280_2; first | rwa [add_block] at this | exact this) GW282.out)) | (show (Addr.add _ _).block ≠ _; rw [add_block]; exact Nat.ne_of_lt (Nat.lt_of_lt_of_le (by have := World.block_lt_of_cell? _ _ hw280_2; first | rwa [add_block] at this | exact this) GW282.out)) | (dsimp only; exact Nat.ne_of_lt (Nat.lt_of_lt_of_le (by have := World.block_lt_of_cell? _ _ hw280_2; first | rwa [add_block] at this | exact this) GW282.out))) _).trans (((cell_far (p := ⟨gb282, _, none⟩) (by first | exact Nat.ne_of_lt (Nat.lt_of_lt_of_le (by have := World.block_lt_of_cell? _ _ hw280_2; first | rwa [add_block] at this | exact this) GW282.out) | (rw [add_block]; exact Nat.ne_of_lt (Nat.lt_of_lt_of_le (by have := World.block_lt_of_cell? _ _ hw280_2; first | rwa [add_block] at this | exact this) GW282.out)) | (show (Addr.add _ _).block ≠ _; rw [add_block]; exact Nat.ne_of_lt (Nat.lt_of_lt_of_le (by have := World.block_lt_of_cell? _ _ hw280_2; first | rwa [add_block] at this | exact this) GW282.out)) | (dsimp only; exact Nat.ne_of_lt (Nat.lt_of_lt_of_le (by have := World.block_lt_of_cell? _ _ hw280_2; first | rwa [add_block] at this | exact this) GW282.out))) _).trans (hHeld.2.2.2.2.1)))))), ((cell_far (p := ⟨gb282, _, none⟩) (by first | exact Nat.ne_of_lt (Nat.lt_of_lt_of_le (by have := World.block_lt_of_cell? _ _ hw281_0; first | rwa [add_block] at this | exact this) GW282.out) | (rw [add_block]; exact Nat.ne_of_lt (Nat.lt_of_lt_of_le (by have := World.block_lt_of_cell? _ _ hw281_0; first | rwa [add_block] at this | exact this) GW282.out)) | (show (Addr.add _ _).block ≠ _; rw [add_block]; exact Nat.ne_of_lt (Nat.lt_of_lt_of_le (by have := World.block_lt_of_cell? _ _ hw281_0; first | rwa [add_block] at this | exact this) GW282.out)) | (dsimp only; exact Nat.ne_of_lt (Nat.lt_of_lt_of_le (by have := World.block_lt_of_cell? _ _ hw281_0; first | rwa [add_block] at this | exact this) GW282.out))) _).trans (((cell_far (p := ⟨gb282, _, none⟩) (by first | exact Nat.ne_of_lt (Nat.lt_of_lt_of_le (by have := World.block_lt_of_cell? _ _ hw281_0; first | rwa [add_block] at this | exact this) GW282.out) | (rw [add_block]; exact Nat.ne_of_lt (Nat.lt_of_lt_of_le (by have := World.block_lt_of_cell? _ _ hw281_0; first | rwa [add_block] at this | exact this) GW282.out)) | (show (Addr.add _ _).block ≠ _; rw [add_block]; exact Nat.ne_of_lt (Nat.lt_of_lt_of_le (by have := World.block_lt_of_cell? _ _ hw281_0; first | rwa [add_block] at this | exact this) GW282.out)) | (dsimp only; exact Nat.ne_of_lt (Nat.lt_of_lt_of_le (by have := World.block_lt_of_cell? _ _ hw281_0; first | rwa [add_block] at this | exact this) GW282.out))) _).trans (((cell_far (p := ⟨gb282, _, none⟩) (by first | exact Nat.ne_of_lt (Nat.lt_of_lt_of_le (by have := World.block_lt_of_cell? _ _ hw281_0; first | rwa [add_block] at this | exact this) GW282.out) | (rw [add_block]; exact Nat.ne_of_lt (Nat.lt_of_lt_of_le (by have := World.block_lt_of_cell? _ _ hw281_0; first | rwa [add_block] at this | exact this) GW282.out)) | (show (Addr.add _ _).block ≠ _; rw [add_block]; exact Nat.ne_of_lt (Nat.lt_of_lt_of_le (by have := World.block_lt_of_cell? _ _ hw281_0; first | rwa [add_block] at this | exact this) GW282.out)) | (dsimp only; exact Nat.ne_of_lt (Nat.lt_of_lt_of_le (by have := World.block_lt_of_cell? _ _ hw281_0; first | rwa [add_block] at this | exact this) GW282.out))) _).trans (hHeld.2.2.2.2.2.1)))))), ((cell_far (p := ⟨gb282, _, none⟩) (by first | exact Nat.ne_of_lt (Nat.lt_of_lt_of_le (by have := World.block_lt_of_cell? _ _ hw281_1; first | rwa [add_block] at this | exact this) GW282.out) | (rw [add_block]; exact Nat.ne_of_lt (Nat.lt_of_lt_of_le (by have := World.block_lt_of_cell? _ _ hw281_1; first | rwa [add_block] at this | exact this) GW282.out)) | (show (Addr.add _ _).block ≠ _; rw [add_block]; exact Nat.ne_of_lt (Nat.lt_of_lt_of_le (by have := World.block_lt_of_cell? _ _ hw281_1; first | rwa [add_block] at this | exact this) GW282.out)) | (dsimp only; exact Nat.ne_of_lt (Nat.lt_of_lt_of_le (by have := World.block_lt_of_cell? _ _ hw281_1; first | rwa [add_block] at this | exact this) GW282.out))) _).trans (((cell_far (p := ⟨gb282, _, none⟩) (by first | exact Nat.ne_of_lt (Nat.lt_of_lt_of_le (by have := World.block_lt_of_cell? _ _ hw281_1; first | rwa [add_block] at this | exact this) GW282.out) | (rw [add_block]; exact Nat.ne_of_lt (Nat.lt_of_lt_of_le (by have := World.block_lt_of_cell? _ _ hw281_1; first | rwa [add_block] at this | exact this) GW282.out)) | (show (Addr.add _ _).block ≠ _; rw [add_block]; exact Nat.ne_of_lt (Nat.lt_of_lt_of_le (by have := World.block_lt_of_cell? _ _ hw281_1; first | rwa [add_block] at this | exact this) GW282.out)) | (dsimp only; exact Nat.ne_of_lt (Nat.lt_of_lt_of_le (by have := World.block_lt_of_cell? _ _ hw281_1; first | rwa [add_block] at this | exact this) GW282.out))) _).trans (((cell_far (p := ⟨gb282, _, none⟩) (by first | exact Nat.ne_of_lt (Nat.lt_of_lt_of_le (by have := World.block_lt_of_cell? _ _ hw281_1; first | rwa [add_block] at this | exact this) GW282.out) | (rw [add_block]; exact Nat.ne_of_lt (Nat.lt_of_lt_of_le (by have := World.block_lt_of_cell? _ _ hw281_1; first | rwa [add_block] at this | exact this) GW282.out)) | (show (Addr.add _ _).block ≠ _; rw [add_block]; exact Nat.ne_of_lt (Nat.lt_of_lt_of_le (by have := World.block_lt_of_cell? _ _ hw281_1; first | rwa [add_block] at this | exact this) GW282.out)) | (dsimp only; exact Nat.ne_of_lt (Nat.lt_of_lt_of_le (by have := World.block_lt_of_cell? _ _ hw281_1; first | rwa [add_block] at this | exact this) GW282.out))) _).trans (hHeld.2.2.2.2.2.2.1)))))), ((cell_far (p := ⟨gb282, _, none⟩) (by first | exact Nat.ne_of_lt (Nat.lt_of_lt_of_le (by have := World.block_lt_of_cell? _ _ hw281_2; first | rwa [add_block] at this | exact this) GW282.out) | (rw [add_block]; exact Nat.ne_of_lt (Nat.lt_of_lt_of_le (by have := World.block_lt_of_cell? _ _ hw281_2; first | rwa [add_block] at this | exact this) GW282.out)) | (show (Addr.add _ _).block ≠ _; rw [add_block]; exact Nat.ne_of_lt (Nat.lt_of_lt_of_le (by have := World.block_lt_of_cell? _ _ hw281_2; first | rwa [add_block] at this | exact this) GW282.out)) | (dsimp only; exact Nat.ne_of_lt (Nat.lt_of_lt_of_le (by have := World.block_lt_of_cell? _ _ hw281_2; first | rwa [add_block] at this | exact this) GW282.out))) _).trans (((cell_far (p := ⟨gb282, _, none⟩) (by first | exact Nat.ne_of_lt (Nat.lt_of_lt_of_le (by have := World.block_lt_of_cell? _ _ hw281_2; first | rwa [add_block] at this | exact this) GW282.out) | (rw [add_block]; exact Nat.ne_of_lt (Nat.lt_of_lt_of_le (by have := World.block_lt_of_cell? _ _ hw281_2; first | rwa [add_block] at this | exact this) GW282.out)) | (show (Addr.add _ _).block ≠ _; rw [add_block]; exact Nat.ne_of_lt (Nat.lt_of_lt_of_le (by have := World.block_lt_of_cell? _ _ hw281_2; first | rwa [add_block] at this | exact this) GW282.out)) | (dsimp only; exact Nat.ne_of_lt (Nat.lt_of_lt_of_le (by have := World.block_lt_of_cell? _ _ hw281_2; first | rwa [add_block] at this | exact this) GW282.out))) _).trans (((cell_far (p := ⟨gb282, _, none⟩) (by first | exact Nat.ne_of_lt (Nat.lt_of_lt_of_le (by have := World.block_lt_of_cell? _ _ hw281_2; first | rwa [add_block] at this | exact this) GW282.out) | (rw [add_block]; exact Nat.ne_of_lt (Nat.lt_of_lt_of_le (by have := World.block_lt_of_cell? _ _ hw281_2; first | rwa [add_block] at this | exact this) GW282.out)) | (show (Addr.add _ _).block ≠ _; rw [add_block]; exact Nat.ne_of_lt (Nat.lt_of_lt_of_le (by have := World.block_lt_of_cell? _ _ hw281_2; first | rwa [add_block] at this | exact this) GW282.out)) | (dsimp only; exact Nat.ne_of_lt (Nat.lt_of_lt_of_le (by have := World.block_lt_of_cell? _ _ hw281_2; first | rwa [add_block] at this | exact this) GW282.out))) _).trans (hHeld.2.2.2.2.2.2.2))))))⟩ (fun hHeld => ?_)
       clear hK K
       refine done_ (done_of HT_.out (by kernel_rfl)) ?_
       have hnb20 := NB282_0.out
       have hnc20 := NB0_282.out
       have hnb21 := NB282_279.out
       have hnc21 := NB279_282.out
       have hcz22_0 : w16.cell? ⟨gb282, 0, none⟩ = some (.int .i64 0) := (V BK282.out 0).trans rfl
       have hcz22_1 : w16.cell? ⟨gb282, 1, none⟩ = some (.int .i64 0) := (V BK282.out 1).trans rfl
       have hcz22_2 : w16.cell? ⟨gb282, 2, none⟩ = some (.bool false) := (V BK282.out 2).trans rfl
       have hfz22_0 := X BK282.out 0
       have hfz22_1 := X BK282.out 1
       have hfz22_2 := X BK282.out 2
       have hnb23 := NB279_0.out
       have hnc23 := NB0_279.out
       have hcz24_0 : w16.cell? ⟨gb279, 0, none⟩ = some (.int .i64 ((rd_T82 l0_0 ((rd_T84 l0_1 a1).f0)).f0)) := (V BK279.out 0).trans rfl
       have hcz24_1 : w16.cell? ⟨gb279, 1, none⟩ = some (.int .i64 ((rd_T82 l0_0 ((rd_T84 l0_1 a1).f0)).f1)) := (V BK279.out 1).trans rfl
       have hcz24_2 : w16.cell? ⟨gb279, 2, none⟩ = some (.bool ((rd_T82 l0_0 ((rd_T84 l0_1 a1).f0)).f2)) := (V BK279.out 2).trans rfl
       have hfz24_0 := X BK279.out 0
       have hfz24_1 := X BK279.out 1
       have hfz24_2 := X BK279.out 2
       try go_wp2
       go_ret
       exact ⟨by first | rfl | (simp [errW_none, errW_some] <;> rfl) | (simp [*, errW_none, errW_some] <;> rfl), by repeat (first | (with_reducible first | exact HB.out | apply below_alloc | apply L | apply U | refine J ?_ GE0.out | refine J ?_ GE279.out | refine J ?_ GE282.out) | exact HB.out)⟩
      ·rw [if_neg c8] at H
       exact absurd H (by simp)
     ·rw [if_neg c7] at H
      exact absurd H (by simp)
    ·rw [if_neg c6] at H
     exact absurd H (by simp)
   ·rw [if_neg c5] at H
    exact absurd H (by simp)
  ·rw [if_neg c4] at H
   exact absurd H (by simp)
 ·rw [if_neg c3] at H
  exact absurd H (by simp)

/-! ### impl_squareOfBar: function 71 -/
def impl_squareOfBar.f (l0_0 : List (S82)) (l0_1 : List (S84)) (a1 : Int) : Option (Int) := if 0 ≤ a1 then (if a1 < (l0_1.length : Int) then ((impl_pullOf.f l0_0 l0_1 ((rd_T84 l0_1 a1).f0) ((rd_T84 l0_1 a1).f1) ((rd_T84 l0_1 a1).f2) ((rd_T84 l0_1 a1).f0)).bind fun bt295 => (some (wrap64 ((wrap64 (bt295.1 * bt295.1)) + (wrap64 (bt295.2 * bt295.2)))))) else (none)) else (none)
def impl_squareOfBar.T1 : Bool × List (List Nat × List Nat) := (true, [([], []), ([], []), ([1], [1]), ([], []), ([2, 3], [2, 3]), ([4], [4]), ([], []), ([6], [6]), ([], []), ([7, 8], [7, 8]), ([9], [9]), ([10], [10]), ([0, 5, 11], [0, 5, 11]), ([12], [12]), ([13], [13]), ([13], [13]), ([14, 12, 0, 1, 2, 3, 4, 5, 6, 7, 8, 9, 10, 11, 12, 13, 14], [14]), ([15, 16, 0, 1, 2, 3, 4, 5, 6, 7, 8, 9, 10, 11, 12, 13, 14, 15, 16], [15])])
def impl_squareOfBar.B1 : List Nat := [0, 0, 2, 0, 14, 30, 0, 64, 0, 448, 960, 1984, 4095, 8191, 16383, 16383, 32767, 131071]
theorem impl_squareOfBar.tab1 : rtab .any (opsOf Try.f71 1) = impl_squareOfBar.T1 := by kernel_rfl
theorem impl_squareOfBar.bits1 : waitsOk impl_squareOfBar.T1.2 impl_squareOfBar.B1 = true := by kernel_rfl
@[reducible] def impl_squareOfBar.y' : Bool := true
@[reducible] def impl_squareOfBar.n' : Bool := false
theorem impl_squareOfBar.z1' {α : Type} (l : List α) (i : Nat) (a : α) : l.toArray.setIfInBounds i a = (l.set i a).toArray := List.setIfInBounds_toArray ..
theorem impl_squareOfBar.z2' {α : Type} (a b : α) (l : List α) : (a :: l).set 0 b = b :: l := rfl
theorem impl_squareOfBar.z3' {α : Type} (a b : α) (l : List α) (n : Nat) : (a :: l).set (n + 1) b = a :: l.set n b := rfl
set_option maxHeartbeats 8000000 in
set_option maxRecDepth 100000 in
theorem impl_squareOfBar.calls (A0_0 : Option Addr) (c0_0 : Nat) (l0_0 : List (S82)) (A0_1 : Option Addr) (c0_1 : Nat) (l0_1 : List (S84)) (a1 : Int) (r : Int) (w : World) (hr0_0 : Kd.C k82 w A0_0 l0_0.length l0_0) (hc0_0 : l0_0.length ≤ c0_0) (hr0_1 : Kd.C k84 w A0_1 l0_1.length l0_1) (hc0_1 : l0_1.length ≤ c0_1) (h : impl_squareOfBar.f l0_0 l0_1 a1 = some r) :
  Calls Try.prog 71 #[.agg #[.slice A0_0 l0_0.length c0_0, .slice A0_1 l0_1.length c0_1], .int .i64 a1] w fun e w' => e = .returned (.int .i64 r) ∧ Below w.heap.size w w' := by
 have hu39 := Try.underlying39
 have hu84 := Try.underlying84
 have HR0_0 := Aside0.mk hr0_0
 have HC0_0 := Aside0.mk hc0_0
 clear hr0_0 hc0_0
 have HR0_1 := Aside0.mk hr0_1
 have HC0_1 := Aside0.mk hc0_1
 clear hr0_1 hc0_1
 have HB := Aside0.mk (Below.refl w.heap.size w)
 have H : (if 0 ≤ a1 then (if a1 < (l0_1.length : Int) then ((impl_pullOf.f l0_0 l0_1 ((rd_T84 l0_1 a1).f0) ((rd_T84 l0_1 a1).f1) ((rd_T84 l0_1 a1).f2) ((rd_T84 l0_1 a1).f0)).bind fun bt295 => (some (wrap64 ((wrap64 (bt295.1 * bt295.1)) + (wrap64 (bt295.2 * bt295.2)))))) else (none)) else (none)) = some r := h
 clear h
 by_cases c3 : 0 ≤ a1
 ·rw [if_pos c3] at H
  have c3b0 : decide (0 ≤ a1) = true := decide_eq_true c3
  clear c3
  by_cases c4 : a1 < (l0_1.length : Int)
  ·rw [if_pos c4] at H
   have c4b0 : decide (a1 < (l0_1.length : Int)) = true := decide_eq_true c4
   clear c4
   replace H := Option.bind_eq_some_iff.mp H
   obtain ⟨⟨t295, t296⟩, A50, H⟩ := H
   replace H : (some (wrap64 ((wrap64 (t295 * t295)) + (wrap64 (t296 * t296))))) = some r := H
   have A5 := Aside0.mk A50
   clear A50
   obtain rfl := Option.some.inj H
   go_enter Try.func71, Try.ntmps71
   try go_wp2_with (first | ((with_reducible refine gate_dst (N := 2) rfl ?_); refine box_event ?hg (N := 2) ?hd (cs := #[.slice A0_0 l0_0.length c0_0, .slice A0_1 l0_1.length c0_1]) (t := 39) ?hr ?_; (case hd => rfl); (case hg => rfl); (case hr => first | (go_simp; done) | (go_simp; rfl)); intro gb292 hg w6 hbox hb; have n0_ := Aside0.mk (below_step (by repeat (first | (with_reducible first | exact HB.out | apply below_alloc | apply pw_below_drewN | apply below_drew1) | exact HB.out)) hb); have n1_ := Aside0.mk (hbox); have n2_ := Aside0.mk ((by rw [hg]; exact (below_size (by repeat (first | (with_reducible first | exact HB.out | apply below_alloc | apply pw_below_drewN | apply below_drew1) | exact HB.out))) : w.heap.size ≤ gb292)); have n3_ := Aside0.mk ((by rw [hg]; exact (below_size (by repeat (first | (with_reducible first | exact HB.out | apply below_alloc | apply pw_below_drewN | apply below_drew1) | exact HB.out))) : w.heap.size ≤ gb292)); clear HB; have HB := n0_; have BK292 := n1_; have GW292 := n2_; have GE292 := n3_; clear n0_ n1_ n2_ n3_; clear hb hbox hg))
   have n0_ := Aside0.mk (blk_drew BK292.out)
   have n1_ := Aside0.mk (below_drew1 HB.out)
   clear BK292
   clear HB
   have BK292 := n0_
   have HB := n1_
   clear n0_ n1_
   have p293 : 0 ≤ (a1 : Int) := of_decide_eq_true (by first | (with_reducible assumption) | assumption)
   have q293 : a1 < (l0_1.length : Int) := of_decide_eq_true (by first | (with_reducible assumption) | assumption)
   obtain ⟨ad293, e293, hx293_0, hx293_1, hx293_2⟩ := at_T84 HR0_1.out a1 p293 q293
   have hw293_2 := hx293_2
   have hw293_1 := hx293_1
   have hw293_0 := hx293_0
   cases e293
   (first | (replace hx293_0 := (HB.out.cell (World.block_lt_of_cell? w _ hx293_0)).trans hx293_0) | skip)
   (first | (replace hx293_1 := (HB.out.cell (World.block_lt_of_cell? w _ hx293_1)).trans hx293_1) | skip)
   (first | (replace hx293_2 := (HB.out.cell (World.block_lt_of_cell? w _ hx293_2)).trans hx293_2) | skip)
   replace p293 := eq_true p293
   replace q293 := eq_true q293
   have p294 : 0 ≤ (a1 : Int) := of_decide_eq_true (by first | (with_reducible assumption) | assumption)
   have q294 : a1 < (l0_1.length : Int) := of_decide_eq_true (by first | (with_reducible assumption) | assumption)
   obtain ⟨ad294, e294, hx294_0, hx294_1, hx294_2⟩ := at_T84 HR0_1.out a1 p294 q294
   have hw294_2 := hx294_2
   have hw294_1 := hx294_1
   have hw294_0 := hx294_0
   obtain rfl : ad293 = ad294 := (by injection e294)
   (first | (replace hx294_0 := (HB.out.cell (World.block_lt_of_cell? w _ hx294_0)).trans hx294_0) | skip)
   (first | (replace hx294_1 := (HB.out.cell (World.block_lt_of_cell? w _ hx294_1)).trans hx294_1) | skip)
   (first | (replace hx294_2 := (HB.out.cell (World.block_lt_of_cell? w _ hx294_2)).trans hx294_2) | skip)
   replace p294 := eq_true p294
   replace q294 := eq_true q294
   refine start_ (n := 18) (S := fun w' => w'.cell? ⟨gb292, 0, none⟩ = some (.slice A0_0 l0_0.length c0_0) ∧ w'.cell? ⟨gb292, 1, none⟩ = some (.slice (some ad293) l0_1.length c0_1) ∧ w'.cell? (ad293.add ((a1).toNat * 3)) = some (.int .i64 ((rd_T84 l0_1 a1).f0)) ∧ w'.cell? ⟨(ad293.add ((a1).toNat * 3)).block, (ad293.add ((a1).toNat * 3)).off + 1, none⟩ = some (.int .i64 ((rd_T84 l0_1 a1).f1)) ∧ w'.cell? ⟨(ad293.add ((a1).toNat * 3)).block, (ad293.add ((a1).toNat * 3)).off + 2, none⟩ = some (.bool ((rd_T84 l0_1 a1).f2)) ∧ w'.cell? (ad293.add ((a1).toNat * 3)) = some (.int .i64 ((rd_T84 l0_1 a1).f0)) ∧ w'.cell? ⟨(ad293.add ((a1).toNat * 3)).block, (ad293.add ((a1).toNat * 3)).off + 1, none⟩ = some (.int .i64 ((rd_T84 l0_1 a1).f1)) ∧ w'.cell? ⟨(ad293.add ((a1).toNat * 3)).block, (ad293.add ((a1).toNat * 3)).off + 2, none⟩ = some (.bool ((rd_T84 l0_1 a1).f2))) (ds := []) #[n', n', n', n', n', n', n', n', n', n', n', n', n', n', n', n', n', n'] (by kernel_rfl) rfl rfl ⟨(blk_cell BK292.out 0).trans rfl, (blk_cell BK292.out 1).trans rfl, ((HB.out.cell (World.block_lt_of_cell? w _ hw293_0)).trans hw293_0), ((HB.out.cell (World.block_lt_of_cell? w _ hw293_1)).trans hw293_1), ((HB.out.cell (World.block_lt_of_cell? w _ hw293_2)).trans hw293_2), ((HB.out.cell (World.block_lt_of_cell? w _ hw294_0)).trans hw294_0), ((HB.out.cell (World.block_lt_of_cell? w _ hw294_1)).trans hw294_1), ((HB.out.cell (World.block_lt_of_cell? w _ hw294_2)).trans hw294_2)⟩ (fun hHeld => ?_); refine with_tabW impl_squareOfBar.tab1 impl_squareOfBar.bits1 (fun HT_ HW_ => ?_)
   generalize w6.drew = w7 at BK292 HB hx293_0 hx293_1 hx293_2 hx294_0 hx294_1 hx294_2 hHeld ⊢
   refine pure_ (i := 1) (N := some 9) (v := ?_) (a' := ?_) #[n', y', n', n', n', n', n', n', n', n', n', n', n', n', n', n', n', n'] rfl rfl (any_of HT_.out (by kernel_rfl)) (fun _ _ _ h => h) (Or.inl ⟨by rfl, ?_⟩) ?_ ?_
   rotate_left
   ·intro w'
    go_simp
    with_reducible rfl
   rotate_left
   ·simp only [Act.put, z1', z2', z3', i64_w, i32_w]
    rfl
   refine pure_ (i := 3) (N := some 11) (v := ?_) (a' := ?_) #[n', y', n', y', n', n', n', n', n', n', n', n', n', n', n', n', n', n'] rfl rfl (any_of HT_.out (by kernel_rfl)) (fun _ _ _ h => h) (Or.inl ⟨by rfl, ?_⟩) ?_ ?_
   rotate_left
   ·intro w'
    go_simp
    with_reducible rfl
   rotate_left
   ·simp only [Act.put, z1', z2', z3', i64_w, i32_w]
    rfl
   refine pure_ (i := 6) (N := some 14) (v := ?_) (a' := ?_) #[n', y', n', y', n', n', y', n', n', n', n', n', n', n', n', n', n', n'] rfl rfl (any_of HT_.out (by kernel_rfl)) (fun _ _ _ h => h) (Or.inl ⟨by rfl, ?_⟩) ?_ ?_
   rotate_left
   ·intro w'
    go_simp
    with_reducible rfl
   rotate_left
   ·simp only [Act.put, z1', z2', z3', i64_w, i32_w]
    rfl
   refine pure_ (i := 8) (N := some 16) (v := ?_) (a' := ?_) #[n', y', n', y', n', n', y', n', y', n', n', n', n', n', n', n', n', n'] rfl rfl (any_of HT_.out (by kernel_rfl)) (fun _ _ _ h => h) (Or.inl ⟨by rfl, ?_⟩) ?_ ?_
   rotate_left
   ·intro w'
    go_simp
    with_reducible rfl
   rotate_left
   ·simp only [Act.put, z1', z2', z3', i64_w, i32_w]
    rfl
   refine take_ (i := 0) (N := some 8) (v := ?_) (a' := ?_) #[y', y', n', y', n', n', y', n', y', n', n', n', n', n', n', n', n', n'] rfl rfl (take_ofW HT_.out HW_.out (by kernel_rfl)) (fun _ _ _ h => h) (Or.inl ⟨by rfl, ?_⟩) hHeld ?_ ?_
   rotate_left
   ·rintro w' ⟨s0, s1, s2, s3, s4, s5, s6, s7⟩
    go_simp
    with_reducible rfl
   rotate_left
   ·simp only [Act.put, z1', z2', z3', i64_w, i32_w]
    rfl
   refine take_ (i := 2) (N := some 10) (v := ?_) (a' := ?_) #[y', y', y', y', n', n', y', n', y', n', n', n', n', n', n', n', n', n'] rfl rfl (take_ofW HT_.out HW_.out (by kernel_rfl)) (fun _ _ _ h => h) (Or.inl ⟨by rfl, ?_⟩) hHeld ?_ ?_
   rotate_left
   ·rintro w' ⟨s0, s1, s2, s3, s4, s5, s6, s7⟩
    go_simp
    with_reducible rfl
   rotate_left
   ·simp only [Act.put, z1', z2', z3', i64_w, i32_w]
    rfl
   refine pure_ (i := 4) (N := some 12) (v := ?_) (a' := ?_) #[y', y', y', y', y', n', y', n', y', n', n', n', n', n', n', n', n', n'] rfl rfl (any_of HT_.out (by kernel_rfl)) (fun _ _ _ h => h) (Or.inl ⟨by rfl, ?_⟩) ?_ ?_
   rotate_left
   ·intro w'
    go_simp
    with_reducible rfl
   rotate_left
   ·simp only [Act.put, z1', z2', z3', i64_w, i32_w]
    rfl
   refine take_ (i := 5) (N := some 13) (v := ?_) (a' := ?_) #[y', y', y', y', y', y', y', n', y', n', n', n', n', n', n', n', n', n'] rfl rfl (take_ofW HT_.out HW_.out (by kernel_rfl)) (fun _ _ _ h => h) (Or.inl ⟨by rfl, ?_⟩) hHeld ?_ ?_
   rotate_left
   ·rintro w' ⟨s0, s1, s2, s3, s4, s5, s6, s7⟩
    go_simp
    with_reducible rfl
   rotate_left
   ·simp only [Act.put, z1', z2', z3', i64_w, i32_w]
    rfl
   refine take_ (i := 7) (N := some 15) (v := ?_) (a' := ?_) #[y', y', y', y', y', y', y', y', y', n', n', n', n', n', n', n', n', n'] rfl rfl (take_ofW HT_.out HW_.out (by kernel_rfl)) (fun _ _ _ h => h) (Or.inl ⟨by rfl, ?_⟩) hHeld ?_ ?_
   rotate_left
   ·rintro w' ⟨s0, s1, s2, s3, s4, s5, s6, s7⟩
    go_simp
    with_reducible rfl
   rotate_left
   ·simp only [Act.put, z1', z2', z3', i64_w, i32_w]
    rfl
   refine pure_ (i := 9) (N := some 17) (v := ?_) (a' := ?_) #[y', y', y', y', y', y', y', y', y', y', n', n', n', n', n', n', n', n'] rfl rfl (any_of HT_.out (by kernel_rfl)) (fun _ _ _ h => h) (Or.inl ⟨by rfl, ?_⟩) ?_ ?_
   rotate_left
   ·intro w'
    go_simp
    with_reducible rfl
   rotate_left
   ·simp only [Act.put, z1', z2', z3', i64_w, i32_w]
    rfl
   refine pure_ (i := 10) (N := some 18) (v := ?_) (a' := ?_) #[y', y', y', y', y', y', y', y', y', y', y', n', n', n', n', n', n', n'] rfl rfl (any_of HT_.out (by kernel_rfl)) (fun _ _ _ h => h) (Or.inl ⟨by rfl, ?_⟩) ?_ ?_
   rotate_left
   ·intro w'
    go_simp
    with_reducible rfl
   rotate_left
   ·simp only [Act.put, z1', z2', z3', i64_w, i32_w]
    rfl
   refine take_ (i := 11) (N := some 19) (v := ?_) (a' := ?_) #[y', y', y', y', y', y', y', y', y', y', y', y', n', n', n', n', n', n'] rfl rfl (take_ofW HT_.out HW_.out (by kernel_rfl)) (fun _ _ _ h => h) (Or.inl ⟨by rfl, ?_⟩) hHeld ?_ ?_
   rotate_left
   ·rintro w' ⟨s0, s1, s2, s3, s4, s5, s6, s7⟩
    go_simp
    with_reducible rfl
   rotate_left
   ·simp only [Act.put, z1', z2', z3', i64_w, i32_w]
    rfl
   refine one_ (i := 12) (N := some 20) #[y', y', y', y', y', y', y', y', y', y', y', y', y', n', n', n', n', n'] rfl rfl (one_of HT_.out (by kernel_rfl)) (by decide) (fun K hK => ?_)
   refine goes_ Try.func86 (by kernel_rfl) rfl #[.agg #[.slice A0_0 l0_0.length c0_0, .slice (some ad293) l0_1.length c0_1], .agg #[.int .i64 ((rd_T84 l0_1 a1).f0), .int .i64 ((rd_T84 l0_1 a1).f1), .bool ((rd_T84 l0_1 a1).f2)], .int .i64 ((rd_T84 l0_1 a1).f0)] (by rfl) rfl rfl (by (try simp only [List.map_toArray, List.map_cons, List.map_nil]); first | done | rfl | (simp only [List.length_drop, List.length_take]; rfl)) ?_
   with_reducible refine (impl_pullOf.calls _ _ l0_0 _ _ l0_1 ((rd_T84 l0_1 a1).f0) ((rd_T84 l0_1 a1).f1) ((rd_T84 l0_1 a1).f2) ((rd_T84 l0_1 a1).f0) t295 t296 _ ?side1 ?side2 ?side3 ?side4 A5.out).mono ?_
   (case side1 => repeat (first | exact (Kd.C_below HR0_0.out HB.out) | (with_reducible refine Kd.C_alloc ?_ _) | (with_reducible refine Kd.C_drewN ?_ _) | (with_reducible refine Kd.C_drew ?_)))
   (case side2 => exact HC0_0.out)
   (case side3 => repeat (first | exact (Kd.C_below HR0_1.out HB.out) | (with_reducible refine Kd.C_alloc ?_ _) | (with_reducible refine Kd.C_drewN ?_ _) | (with_reducible refine Kd.C_drew ?_)))
   (case side4 => exact HC0_1.out)
   rintro e w8 ⟨rfl, hb⟩
   refine ⟨_, rfl, ?_⟩
   have n0_ := Aside0.mk (blk_below (g := gb292) (o := .cells #[.slice A0_0 l0_0.length c0_0, .slice (some ad293) l0_1.length c0_1] 39 (0, 0)) (by (with_reducible repeat (first | refine blk_drewN ?_ _ | refine blk_drew ?_ | refine blk_alloc ?_ _)); exact BK292.out) hb)
   have n1_ := Aside0.mk (below_step (by repeat (first | (with_reducible first | exact HB.out | apply below_alloc | apply pw_below_drewN | apply below_drew1 | refine below_set ?_ GE292.out) | exact HB.out)) hb)
   clear BK292
   clear HB
   have BK292 := n0_
   have HB := n1_
   clear n0_ n1_
   (try clear hb)
   (try clear hb2)
   (try clear hk)
   (try clear hi)
   refine hK.out _ _ ⟨(blk_cell BK292.out 0).trans rfl, (blk_cell BK292.out 1).trans rfl, ((HB.out.cell (World.block_lt_of_cell? w _ hw293_0)).trans hw293_0), ((HB.out.cell (World.block_lt_of_cell? w _ hw293_1)).trans hw293_1), ((HB.out.cell (World.block_lt_of_cell? w _ hw293_2)).trans hw293_2), ((HB.out.cell (World.block_lt_of_cell? w _ hw294_0)).trans hw294_0), ((HB.out.cell (World.block_lt_of_cell? w _ hw294_1)).trans hw294_1), ((HB.out.cell (World.block_lt_of_cell? w _ hw294_2)).trans hw294_2)⟩ (fun hHeld => ?_)
   clear hK K
   refine norm_ (a' := ?_) ?_ ?_
   rotate_left
   ·show Act.put _ (some 20) _ = _
    simp only [Act.put, z1', z2', z3', i64_w, i32_w]
    rfl
   refine pure_ (i := 13) (N := some 7) (v := ?_) (a' := ?_) #[y', y', y', y', y', y', y', y', y', y', y', y', y', y', n', n', n', n'] rfl rfl (any_of HT_.out (by kernel_rfl)) (fun _ _ _ h => h) (Or.inl ⟨by rfl, ?_⟩) ?_ ?_
   rotate_left
   ·intro w'
    go_simp
    with_reducible rfl
   rotate_left
   ·simp only [Act.put, z1', z2', z3', i64_w, i32_w]
    rfl
   refine pure_ (i := 14) (N := some 21) (v := ?_) (a' := ?_) #[y', y', y', y', y', y', y', y', y', y', y', y', y', y', y', n', n', n'] rfl rfl (any_of HT_.out (by kernel_rfl)) (fun _ _ _ h => h) (Or.inl ⟨by rfl, ?_⟩) ?_ ?_
   rotate_left
   ·intro w'
    go_simp
    with_reducible rfl
   rotate_left
   ·simp only [Act.put, z1', z2', z3', i64_w, i32_w]
    rfl
   refine pure_ (i := 15) (N := some 22) (v := ?_) (a' := ?_) #[y', y', y', y', y', y', y', y', y', y', y', y', y', y', y', y', n', n'] rfl rfl (any_of HT_.out (by kernel_rfl)) (fun _ _ _ h => h) (Or.inl ⟨by rfl, ?_⟩) ?_ ?_
   rotate_left
   ·intro w'
    go_simp
    with_reducible rfl
   rotate_left
   ·simp only [Act.put, z1', z2', z3', i64_w, i32_w]
    rfl
   refine pure_ (i := 16) (N := some 5) (v := ?_) (a' := ?_) #[y', y', y', y', y', y', y', y', y', y', y', y', y', y', y', y', y', n'] rfl rfl (any_of HT_.out (by kernel_rfl)) (fun _ _ _ h => h) (Or.inl ⟨by rfl, ?_⟩) ?_ ?_
   rotate_left
   ·intro w'
    go_simp
    with_reducible rfl
   rotate_left
   ·simp only [Act.put, z1', z2', z3', i64_w, i32_w]
    rfl
   refine pure_ (i := 17) (N := some 6) (v := ?_) (a' := ?_) #[y', y', y', y', y', y', y', y', y', y', y', y', y', y', y', y', y', y'] rfl rfl (any_of HT_.out (by kernel_rfl)) (fun _ _ _ h => h) (Or.inl ⟨by rfl, ?_⟩) ?_ ?_
   rotate_left
   ·intro w'
    go_simp
    with_reducible rfl
   rotate_left
   ·simp only [Act.put, z1', z2', z3', i64_w, i32_w]
    rfl
   refine done_ (done_of HT_.out (by kernel_rfl)) ?_
   try go_wp2
   go_ret
   exact ⟨by first | rfl | (simp [errW_none, errW_some] <;> rfl) | (simp [*, errW_none, errW_some] <;> rfl), by repeat (first | (with_reducible first | exact HB.out | apply below_alloc | apply pw_below_drewN | apply below_drew1 | refine below_set ?_ GE292.out) | exact HB.out)⟩
  ·rw [if_neg c4] at H
   exact absurd H (by simp)
 ·rw [if_neg c3] at H
  exact absurd H (by simp)

end Go.Proofs.Ytacijlpnpkhjaaa.HFr
