-- Written by a program for this claim (the functions that the statement reaches, and that the program's code comes to them).
import Derived.Test.YtacijlpnpkhjaaaHFrx0
import Derived.Test.YtacijlpnpkhjaaaHFrx3
import Derived.Test.YtacijlpnpkhjaaaHFrx4
import Derived.Test.YtacijlpnpkhjaaaHFrx7
import Derived.Test.YtacijlpnpkhjaaaHFrx8
import Derived.Test.YtacijlpnpkhjaaaHFrx16
namespace Go.Proofs.Ytacijlpnpkhjaaa.HFr
open Go.RowKit Go.Proofs.YtacijlpnpkhjaaaW.PrintWords Go.Proofs.YtacijlpnpkhjaaaW.PrintLast Go.Proofs.YtacijlpnpkhjaaaW.PrintMore
attribute [local go_sem] max2_int min2_int max_two min_two max_three min_three max_four min_four   -- for this text's walks alone
set_option linter.unusedVariables false
set_option linter.unusedSimpArgs false

/-! ### spec_SquareOfBar: function 26 -/
def spec_SquareOfBar.f (k : Nat) (l0_0 : List (S82)) (l0_1 : List (S84)) (a1 : Int) : Option (Int × Int) := (spec_l09Bar.f k l0_0 l0_1 a1).bind fun t284 => (if t284 = 0 then ((spec_l09Square.f l0_0 l0_1 a1).bind fun t285 => (some (t285, 0))) else (some (0, t284)))
theorem spec_SquareOfBar.mono : ∀ a0 a1 a2 k, LeO (spec_SquareOfBar.f k a0 a1 a2) (spec_SquareOfBar.f (k + 1) a0 a1 a2) := by
 intro a0 a1 a2 k
 unfold spec_SquareOfBar.f
 repeat' first
   | (with_reducible exact spec_l09Bar.mono _ _ _ _)
   | (with_reducible exact LeO.refl _)
   | (with_reducible exact LeO.none _)
   | (with_reducible refine LeO.ite ?_ ?_)
   | (with_reducible refine LeO.bind ?_ (fun _ => ?_))
   | exact spec_l09Bar.mono _ _ _ _
   | exact LeO.none _
   | refine LeO.ite ?_ ?_
   | refine LeO.bind ?_ (fun _ => ?_)
set_option maxHeartbeats 8000000 in
set_option maxRecDepth 100000 in
theorem spec_SquareOfBar.calls (k : Nat) (A0_0 : Option Addr) (c0_0 : Nat) (l0_0 : List (S82)) (A0_1 : Option Addr) (c0_1 : Nat) (l0_1 : List (S84)) (a1 : Int) (r1 : Int) (r2 : Int) (w : World) (hr0_0 : Kd.C k82 w A0_0 l0_0.length l0_0) (hc0_0 : l0_0.length ≤ c0_0) (hr0_1 : Kd.C k84 w A0_1 l0_1.length l0_1) (hc0_1 : l0_1.length ≤ c0_1) (h : spec_SquareOfBar.f k l0_0 l0_1 a1 = some (r1, r2)) :
  Calls Try.prog 26 #[.agg #[.slice A0_0 l0_0.length c0_0, .slice A0_1 l0_1.length c0_1], .int .i64 a1] w fun e w' => e = .returned (.tuple #[.int .i64 r1, .int .i64 r2]) ∧ Below w.heap.size w w' := by
 have hu39 := Try.underlying39
 have HR0_0 := Aside0.mk hr0_0
 have HC0_0 := Aside0.mk hc0_0
 clear hr0_0 hc0_0
 have HR0_1 := Aside0.mk hr0_1
 have HC0_1 := Aside0.mk hc0_1
 clear hr0_1 hc0_1
 have HB := Aside0.mk (Below.refl w.heap.size w)
 have H : ((spec_l09Bar.f k l0_0 l0_1 a1).bind fun t284 => (if t284 = 0 then ((spec_l09Square.f l0_0 l0_1 a1).bind fun t285 => (some (t285, 0))) else (some (0, t284)))) = some (r1, r2) := h
 clear h
 replace H := Option.bind_eq_some_iff.mp H
 obtain ⟨t284, A30, H⟩ := H
 replace H : (if t284 = 0 then ((spec_l09Square.f l0_0 l0_1 a1).bind fun t285 => (some (t285, 0))) else (some (0, t284))) = some (r1, r2) := H
 have A3 := Aside0.mk A30
 clear A30
 by_cases c4 : t284 = 0
 ·rw [if_pos c4] at H
  have c4b0 : (t284 == 0) = true := beq_iff_eq.mpr c4
  have c4b1 : (t284 != 0) = false := bne_eq_false_iff_eq.mpr c4
  clear c4
  replace H := Option.bind_eq_some_iff.mp H
  obtain ⟨t285, A50, H⟩ := H
  replace H : (some (t285, 0)) = some (r1, r2) := H
  have A5 := Aside0.mk A50
  clear A50
  simp only [Option.some.injEq, Prod.mk.injEq] at H
  obtain ⟨rfl, rfl⟩ := H
  go_enter Try.func26, Try.ntmps26
  go_wp2_with (first | ((with_reducible refine gate_dst (N := 2) rfl ?_); refine box_event ?hg (N := 2) ?hd (cs := #[.slice A0_0 l0_0.length c0_0, .slice A0_1 l0_1.length c0_1]) (t := 39) ?hr ?_; (case hd => rfl); (case hg => rfl); (case hr => first | (go_simp; done) | (go_simp; rfl)); intro gb283 hg w6 hbox hb; have n0_ := Aside0.mk (below_step (by repeat (first | (with_reducible first | exact HB.out | apply below_alloc | apply pw_below_drewN | apply below_drew1) | exact HB.out)) hb); have n1_ := Aside0.mk (hbox); have n2_ := Aside0.mk ((by rw [hg]; exact (below_size (by repeat (first | (with_reducible first | exact HB.out | apply below_alloc | apply pw_below_drewN | apply below_drew1) | exact HB.out))) : w.heap.size ≤ gb283)); have n3_ := Aside0.mk ((by rw [hg]; exact (below_size (by repeat (first | (with_reducible first | exact HB.out | apply below_alloc | apply pw_below_drewN | apply below_drew1) | exact HB.out))) : w.heap.size ≤ gb283)); clear HB; have HB := n0_; have BK283 := n1_; have GW283 := n2_; have GE283 := n3_; clear n0_ n1_ n2_ n3_; clear hb hbox hg) | ((with_reducible refine gate_callee (f := 69) rfl ?_); refine goesL_ (some 8) rfl rfl Try.func69 (by kernel_rfl) rfl #[.pointer (some ⟨gb283, 0, none⟩), .int .i64 a1] rfl (by (try simp only [List.map_toArray, List.map_cons, List.map_nil]); first | done | rfl | (simp only [List.length_drop, List.length_take]; rfl)) ?_; (with_reducible refine (spec_l09Bar.calls k gb283 A0_0 c0_0 l0_0 A0_1 c0_1 l0_1 a1 t284 _ ?side5 ?side1 ?side2 ?side3 ?side4 A3.out).mono ?_); (case side1 => repeat (first | exact (Kd.C_below HR0_0.out HB.out) | (with_reducible refine Kd.C_alloc ?_ _) | (with_reducible refine Kd.C_drewN ?_ _) | (with_reducible refine Kd.C_drew ?_))); (case side2 => exact HC0_0.out); (case side3 => repeat (first | exact (Kd.C_below HR0_1.out HB.out) | (with_reducible refine Kd.C_alloc ?_ _) | (with_reducible refine Kd.C_drewN ?_ _) | (with_reducible refine Kd.C_drew ?_))); (case side4 => exact HC0_1.out); (case side5 => (with_reducible repeat (first | refine blk_drewN ?_ _ | refine blk_drew ?_ | refine blk_alloc ?_ _)); exact BK283.out); rintro e w7 ⟨rfl, hb⟩; refine ⟨_, rfl, ?_⟩; have n0_ := Aside0.mk (blk_below (g := gb283) (o := .cells #[.slice A0_0 l0_0.length c0_0, .slice A0_1 l0_1.length c0_1] 39 (0, 0)) (by (with_reducible repeat (first | refine blk_drewN ?_ _ | refine blk_drew ?_ | refine blk_alloc ?_ _)); exact BK283.out) hb); have n1_ := Aside0.mk (below_step (by repeat (first | (with_reducible first | exact HB.out | apply below_alloc | apply pw_below_drewN | apply below_drew1 | refine below_set ?_ GE283.out) | exact HB.out)) hb); clear BK283; clear HB; have BK283 := n0_; have HB := n1_; clear n0_ n1_; (try clear hb); (try clear hb2); (try clear hk); (try clear hi)) | ((with_reducible refine gate_callee (f := 70) rfl ?_); refine goesL_ (some 13) rfl rfl Try.func70 (by kernel_rfl) rfl #[.pointer (some ⟨gb283, 0, none⟩), .int .i64 a1] rfl (by (try simp only [List.map_toArray, List.map_cons, List.map_nil]); first | done | rfl | (simp only [List.length_drop, List.length_take]; rfl)) ?_; (with_reducible refine (spec_l09Square.calls gb283 A0_0 c0_0 l0_0 A0_1 c0_1 l0_1 a1 t285 _ ?side5 ?side1 ?side2 ?side3 ?side4 A5.out).mono ?_); (case side1 => repeat (first | exact (Kd.C_below HR0_0.out HB.out) | (with_reducible refine Kd.C_alloc ?_ _) | (with_reducible refine Kd.C_drewN ?_ _) | (with_reducible refine Kd.C_drew ?_))); (case side2 => exact HC0_0.out); (case side3 => repeat (first | exact (Kd.C_below HR0_1.out HB.out) | (with_reducible refine Kd.C_alloc ?_ _) | (with_reducible refine Kd.C_drewN ?_ _) | (with_reducible refine Kd.C_drew ?_))); (case side4 => exact HC0_1.out); (case side5 => (with_reducible repeat (first | refine blk_drewN ?_ _ | refine blk_drew ?_ | refine blk_alloc ?_ _)); exact BK283.out); rintro e w8 ⟨rfl, hb⟩; refine ⟨_, rfl, ?_⟩; have n0_ := Aside0.mk (blk_below (g := gb283) (o := .cells #[.slice A0_0 l0_0.length c0_0, .slice A0_1 l0_1.length c0_1] 39 (0, 0)) (by (with_reducible repeat (first | refine blk_drewN ?_ _ | refine blk_drew ?_ | refine blk_alloc ?_ _)); exact BK283.out) hb); have n1_ := Aside0.mk (below_step (by repeat (first | (with_reducible first | exact HB.out | apply below_alloc | apply pw_below_drewN | apply below_drew1 | refine below_set ?_ GE283.out) | exact HB.out)) hb); clear BK283; clear HB; have BK283 := n0_; have HB := n1_; clear n0_ n1_; (try clear hb); (try clear hb2); (try clear hk); (try clear hi)))
  go_ret2
  exact ⟨by first | rfl | (simp [errW_none, errW_some] <;> rfl) | (simp [*, errW_none, errW_some] <;> rfl), by repeat (first | (with_reducible first | exact HB.out | apply below_alloc | apply pw_below_drewN | apply below_drew1 | refine below_set ?_ GE283.out) | exact HB.out)⟩
 ·rw [if_neg c4] at H
  have c4b0 : (t284 == 0) = false := beq_eq_false_iff_ne.mpr c4
  have c4b1 : (t284 != 0) = true := bne_iff_ne.mpr c4
  simp only [Option.some.injEq, Prod.mk.injEq] at H
  obtain ⟨rfl, rfl⟩ := H
  go_enter Try.func26, Try.ntmps26
  go_wp2_with (first | ((with_reducible refine gate_dst (N := 2) rfl ?_); refine box_event ?hg (N := 2) ?hd (cs := #[.slice A0_0 l0_0.length c0_0, .slice A0_1 l0_1.length c0_1]) (t := 39) ?hr ?_; (case hd => rfl); (case hg => rfl); (case hr => first | (go_simp; done) | (go_simp; rfl)); intro gb283 hg w9 hbox hb; have n0_ := Aside0.mk (below_step (by repeat (first | (with_reducible first | exact HB.out | apply below_alloc | apply pw_below_drewN | apply below_drew1) | exact HB.out)) hb); have n1_ := Aside0.mk (hbox); have n2_ := Aside0.mk ((by rw [hg]; exact (below_size (by repeat (first | (with_reducible first | exact HB.out | apply below_alloc | apply pw_below_drewN | apply below_drew1) | exact HB.out))) : w.heap.size ≤ gb283)); have n3_ := Aside0.mk ((by rw [hg]; exact (below_size (by repeat (first | (with_reducible first | exact HB.out | apply below_alloc | apply pw_below_drewN | apply below_drew1) | exact HB.out))) : w.heap.size ≤ gb283)); clear HB; have HB := n0_; have BK283 := n1_; have GW283 := n2_; have GE283 := n3_; clear n0_ n1_ n2_ n3_; clear hb hbox hg) | ((with_reducible refine gate_callee (f := 69) rfl ?_); refine goesL_ (some 8) rfl rfl Try.func69 (by kernel_rfl) rfl #[.pointer (some ⟨gb283, 0, none⟩), .int .i64 a1] rfl (by (try simp only [List.map_toArray, List.map_cons, List.map_nil]); first | done | rfl | (simp only [List.length_drop, List.length_take]; rfl)) ?_; (with_reducible refine (spec_l09Bar.calls k gb283 A0_0 c0_0 l0_0 A0_1 c0_1 l0_1 a1 t284 _ ?side5 ?side1 ?side2 ?side3 ?side4 A3.out).mono ?_); (case side1 => repeat (first | exact (Kd.C_below HR0_0.out HB.out) | (with_reducible refine Kd.C_alloc ?_ _) | (with_reducible refine Kd.C_drewN ?_ _) | (with_reducible refine Kd.C_drew ?_))); (case side2 => exact HC0_0.out); (case side3 => repeat (first | exact (Kd.C_below HR0_1.out HB.out) | (with_reducible refine Kd.C_alloc ?_ _) | (with_reducible refine Kd.C_drewN ?_ _) | (with_reducible refine Kd.C_drew ?_))); (case side4 => exact HC0_1.out); (case side5 => (with_reducible repeat (first | refine blk_drewN ?_ _ | refine blk_drew ?_ | refine blk_alloc ?_ _)); exact BK283.out); rintro e w10 ⟨rfl, hb⟩; refine ⟨_, rfl, ?_⟩; have n0_ := Aside0.mk (blk_below (g := gb283) (o := .cells #[.slice A0_0 l0_0.length c0_0, .slice A0_1 l0_1.length c0_1] 39 (0, 0)) (by (with_reducible repeat (first | refine blk_drewN ?_ _ | refine blk_drew ?_ | refine blk_alloc ?_ _)); exact BK283.out) hb); have n1_ := Aside0.mk (below_step (by repeat (first | (with_reducible first | exact HB.out | apply below_alloc | apply pw_below_drewN | apply below_drew1 | refine below_set ?_ GE283.out) | exact HB.out)) hb); clear BK283; clear HB; have BK283 := n0_; have HB := n1_; clear n0_ n1_; (try clear hb); (try clear hb2); (try clear hk); (try clear hi)))
  go_ret2
  exact ⟨by first | rfl | (simp [errW_none, errW_some] <;> rfl) | (simp [*, errW_none, errW_some] <;> rfl), by repeat (first | (with_reducible first | exact HB.out | apply below_alloc | apply pw_below_drewN | apply below_drew1 | refine below_set ?_ GE283.out) | exact HB.out)⟩

/-! ### impl_SquareOfBar: function 27 -/
def impl_SquareOfBar.f (k : Nat) (l0_0 : List (S82)) (l0_1 : List (S84)) (a1 : Int) : Option (Int × Int) := (impl_ValidFrame.f k l0_0 l0_1).bind fun t298 => (if t298 = true then ((impl_within.f a1 0 (wrap64 ((l0_1.length : Int) - 1))).bind fun t299 => (if t299 = true then ((impl_squareOfBar.f l0_0 l0_1 a1).bind fun t300 => (some (t300, 0))) else (some (0, 2)))) else (some (0, 1)))
theorem impl_SquareOfBar.mono : ∀ a0 a1 a2 k, LeO (impl_SquareOfBar.f k a0 a1 a2) (impl_SquareOfBar.f (k + 1) a0 a1 a2) := by
 intro a0 a1 a2 k
 unfold impl_SquareOfBar.f
 repeat' first
   | (with_reducible exact impl_ValidFrame.mono _ _ _)
   | (with_reducible exact LeO.refl _)
   | (with_reducible exact LeO.none _)
   | (with_reducible refine LeO.ite ?_ ?_)
   | (with_reducible refine LeO.bind ?_ (fun _ => ?_))
   | exact impl_ValidFrame.mono _ _ _
   | exact LeO.none _
   | refine LeO.ite ?_ ?_
   | refine LeO.bind ?_ (fun _ => ?_)
@[reducible] def impl_SquareOfBar.y' : Bool := true
@[reducible] def impl_SquareOfBar.n' : Bool := false
theorem impl_SquareOfBar.z1' {α : Type} (l : List α) (i : Nat) (a : α) : l.toArray.setIfInBounds i a = (l.set i a).toArray := List.setIfInBounds_toArray ..
theorem impl_SquareOfBar.z2' {α : Type} (a b : α) (l : List α) : (a :: l).set 0 b = b :: l := rfl
theorem impl_SquareOfBar.z3' {α : Type} (a b : α) (l : List α) (n : Nat) : (a :: l).set (n + 1) b = a :: l.set n b := rfl
set_option maxHeartbeats 8000000 in
set_option maxRecDepth 100000 in
theorem impl_SquareOfBar.calls (k : Nat) (A0_0 : Option Addr) (c0_0 : Nat) (l0_0 : List (S82)) (A0_1 : Option Addr) (c0_1 : Nat) (l0_1 : List (S84)) (a1 : Int) (r1 : Int) (r2 : Int) (w : World) (hr0_0 : Kd.C k82 w A0_0 l0_0.length l0_0) (hc0_0 : l0_0.length ≤ c0_0) (hr0_1 : Kd.C k84 w A0_1 l0_1.length l0_1) (hc0_1 : l0_1.length ≤ c0_1) (h : impl_SquareOfBar.f k l0_0 l0_1 a1 = some (r1, r2)) :
  Calls Try.prog 27 #[.agg #[.slice A0_0 l0_0.length c0_0, .slice A0_1 l0_1.length c0_1], .int .i64 a1] w fun e w' => e = .returned (.tuple #[.int .i64 r1, .int .i64 r2]) ∧ Below w.heap.size w w' := by
 have hu39 := Try.underlying39
 have HR0_0 := Aside0.mk hr0_0
 have HC0_0 := Aside0.mk hc0_0
 clear hr0_0 hc0_0
 have HR0_1 := Aside0.mk hr0_1
 have HC0_1 := Aside0.mk hc0_1
 clear hr0_1 hc0_1
 have HB := Aside0.mk (Below.refl w.heap.size w)
 have H : ((impl_ValidFrame.f k l0_0 l0_1).bind fun t298 => (if t298 = true then ((impl_within.f a1 0 (wrap64 ((l0_1.length : Int) - 1))).bind fun t299 => (if t299 = true then ((impl_squareOfBar.f l0_0 l0_1 a1).bind fun t300 => (some (t300, 0))) else (some (0, 2)))) else (some (0, 1)))) = some (r1, r2) := h
 clear h
 replace H := Option.bind_eq_some_iff.mp H
 obtain ⟨t298, A30, H⟩ := H
 replace H : (if t298 = true then ((impl_within.f a1 0 (wrap64 ((l0_1.length : Int) - 1))).bind fun t299 => (if t299 = true then ((impl_squareOfBar.f l0_0 l0_1 a1).bind fun t300 => (some (t300, 0))) else (some (0, 2)))) else (some (0, 1))) = some (r1, r2) := H
 have A3 := Aside0.mk A30
 clear A30
 by_cases c4 : t298 = true
 ·subst c4
  have H1 : ((impl_within.f a1 0 (wrap64 ((l0_1.length : Int) - 1))).bind fun t299 => (if t299 = true then ((impl_squareOfBar.f l0_0 l0_1 a1).bind fun t300 => (some (t300, 0))) else (some (0, 2)))) = some (r1, r2) := by rw [if_pos rfl] at H; exact H
  clear H
  have H := H1
  clear H1
  replace H := Option.bind_eq_some_iff.mp H
  obtain ⟨t299, A50, H⟩ := H
  replace H : (if t299 = true then ((impl_squareOfBar.f l0_0 l0_1 a1).bind fun t300 => (some (t300, 0))) else (some (0, 2))) = some (r1, r2) := H
  have A5 := Aside0.mk A50
  clear A50
  by_cases c6 : t299 = true
  ·subst c6
   have H1 : ((impl_squareOfBar.f l0_0 l0_1 a1).bind fun t300 => (some (t300, 0))) = some (r1, r2) := by rw [if_pos rfl] at H; exact H
   clear H
   have H := H1
   clear H1
   replace H := Option.bind_eq_some_iff.mp H
   obtain ⟨t300, A70, H⟩ := H
   replace H : (some (t300, 0)) = some (r1, r2) := H
   have A7 := Aside0.mk A70
   clear A70
   simp only [Option.some.injEq, Prod.mk.injEq] at H
   obtain ⟨rfl, rfl⟩ := H
   go_enter Try.func27, Try.ntmps27
   go_wp2_with (first | ((with_reducible refine gate_dst (N := 2) rfl ?_); refine box_event ?hg (N := 2) ?hd (cs := #[.slice A0_0 l0_0.length c0_0, .slice A0_1 l0_1.length c0_1]) (t := 39) ?hr ?_; (case hd => rfl); (case hg => rfl); (case hr => first | (go_simp; done) | (go_simp; rfl)); intro gb297 hg w8 hbox hb; have n0_ := Aside0.mk (below_step (by repeat (first | (with_reducible first | exact HB.out | apply below_alloc | apply pw_below_drewN | apply below_drew1) | exact HB.out)) hb); have n1_ := Aside0.mk (hbox); have n2_ := Aside0.mk ((by rw [hg]; exact (below_size (by repeat (first | (with_reducible first | exact HB.out | apply below_alloc | apply pw_below_drewN | apply below_drew1) | exact HB.out))) : w.heap.size ≤ gb297)); have n3_ := Aside0.mk ((by rw [hg]; exact (below_size (by repeat (first | (with_reducible first | exact HB.out | apply below_alloc | apply pw_below_drewN | apply below_drew1) | exact HB.out))) : w.heap.size ≤ gb297)); clear HB; have HB := n0_; have BK297 := n1_; have GW297 := n2_; have GE297 := n3_; clear n0_ n1_ n2_ n3_; clear hb hbox hg; have hcz9_0 : w8.cell? ⟨gb297, 0, none⟩ = some (.slice A0_0 l0_0.length c0_0) := (blk_cell BK297.out 0).trans rfl; have hcz9_1 : w8.cell? ⟨gb297, 1, none⟩ = some (.slice A0_1 l0_1.length c0_1) := (blk_cell BK297.out 1).trans rfl; have hfz9_0 := blk_frozen BK297.out 0; have hfz9_1 := blk_frozen BK297.out 1) | ((with_reducible refine gate_callee (f := 25) rfl ?_); refine goesL_ (some 7) rfl rfl Try.func25 (by kernel_rfl) rfl #[.agg #[.slice A0_0 l0_0.length c0_0, .slice A0_1 l0_1.length c0_1]] rfl (by (try simp only [List.map_toArray, List.map_cons, List.map_nil]); first | done | rfl | (simp only [List.length_drop, List.length_take]; rfl)) ?_; (with_reducible refine (impl_ValidFrame.calls k _ _ l0_0 _ _ l0_1 true _ ?side1 ?side2 ?side3 ?side4 A3.out).mono ?_); (case side1 => repeat (first | exact (Kd.C_below HR0_0.out HB.out) | (with_reducible refine Kd.C_alloc ?_ _) | (with_reducible refine Kd.C_drewN ?_ _) | (with_reducible refine Kd.C_drew ?_))); (case side2 => exact HC0_0.out); (case side3 => repeat (first | exact (Kd.C_below HR0_1.out HB.out) | (with_reducible refine Kd.C_alloc ?_ _) | (with_reducible refine Kd.C_drewN ?_ _) | (with_reducible refine Kd.C_drew ?_))); (case side4 => exact HC0_1.out); rintro e w10 ⟨rfl, hb⟩; refine ⟨_, rfl, ?_⟩; have n0_ := Aside0.mk (blk_below (g := gb297) (o := .cells #[.slice A0_0 l0_0.length c0_0, .slice A0_1 l0_1.length c0_1] 39 (0, 0)) (by (with_reducible repeat (first | refine blk_drewN ?_ _ | refine blk_drew ?_ | refine blk_alloc ?_ _)); exact BK297.out) hb); have n1_ := Aside0.mk (below_step (by repeat (first | (with_reducible first | exact HB.out | apply below_alloc | apply pw_below_drewN | apply below_drew1 | refine below_set ?_ GE297.out) | exact HB.out)) hb); clear BK297; clear HB; have BK297 := n0_; have HB := n1_; clear n0_ n1_; (try clear hb); (try clear hb2); (try clear hk); (try clear hi); have hcz11_0 : w10.cell? ⟨gb297, 0, none⟩ = some (.slice A0_0 l0_0.length c0_0) := (blk_cell BK297.out 0).trans rfl; have hcz11_1 : w10.cell? ⟨gb297, 1, none⟩ = some (.slice A0_1 l0_1.length c0_1) := (blk_cell BK297.out 1).trans rfl; have hfz11_0 := blk_frozen BK297.out 0; have hfz11_1 := blk_frozen BK297.out 1) | ((with_reducible refine gate_callee (f := 68) rfl ?_); refine goesL_ (some 14) rfl rfl Try.func68 (by kernel_rfl) rfl #[.int .i64 a1, .int .i64 0, .int .i64 (wrap64 ((l0_1.length : Int) - 1))] rfl (by (try simp only [List.map_toArray, List.map_cons, List.map_nil]); first | done | rfl | (simp only [List.length_drop, List.length_take]; rfl)) ?_; (with_reducible refine (impl_within.calls a1 0 (wrap64 ((l0_1.length : Int) - 1)) true _ A5.out).mono ?_); rintro e w' ⟨rfl, ⟨nd, rfl⟩⟩; refine ⟨_, rfl, ?_⟩) | ((with_reducible refine gate_callee (f := 71) rfl ?_); refine goesL_ (some 18) rfl rfl Try.func71 (by kernel_rfl) rfl #[.agg #[.slice A0_0 l0_0.length c0_0, .slice A0_1 l0_1.length c0_1], .int .i64 a1] rfl (by (try simp only [List.map_toArray, List.map_cons, List.map_nil]); first | done | rfl | (simp only [List.length_drop, List.length_take]; rfl)) ?_; (with_reducible refine (impl_squareOfBar.calls _ _ l0_0 _ _ l0_1 a1 t300 _ ?side1 ?side2 ?side3 ?side4 A7.out).mono ?_); (case side1 => repeat (first | exact (Kd.C_below HR0_0.out (by repeat (first | (with_reducible first | exact HB.out | apply below_alloc | apply pw_below_drewN | apply below_drew1 | refine below_set ?_ GE297.out) | exact HB.out))) | (with_reducible refine Kd.C_alloc ?_ _) | (with_reducible refine Kd.C_drewN ?_ _) | (with_reducible refine Kd.C_drew ?_))); (case side2 => exact HC0_0.out); (case side3 => repeat (first | exact (Kd.C_below HR0_1.out (by repeat (first | (with_reducible first | exact HB.out | apply below_alloc | apply pw_below_drewN | apply below_drew1 | refine below_set ?_ GE297.out) | exact HB.out))) | (with_reducible refine Kd.C_alloc ?_ _) | (with_reducible refine Kd.C_drewN ?_ _) | (with_reducible refine Kd.C_drew ?_))); (case side4 => exact HC0_1.out); rintro e w12 ⟨rfl, hb⟩; refine ⟨_, rfl, ?_⟩; have n0_ := Aside0.mk (blk_below (g := gb297) (o := .cells #[.slice A0_0 l0_0.length c0_0, .slice A0_1 l0_1.length c0_1] 39 (0, 0)) (by (with_reducible repeat (first | refine blk_drewN ?_ _ | refine blk_drew ?_ | refine blk_alloc ?_ _)); exact BK297.out) hb); have n1_ := Aside0.mk (below_step (by repeat (first | (with_reducible first | exact HB.out | apply below_alloc | apply pw_below_drewN | apply below_drew1 | refine below_set ?_ GE297.out) | exact HB.out)) hb); clear BK297; clear HB; have BK297 := n0_; have HB := n1_; clear n0_ n1_; (try clear hb); (try clear hb2); (try clear hk); (try clear hi)))
   go_ret2
   exact ⟨by first | rfl | (simp [errW_none, errW_some] <;> rfl) | (simp [*, errW_none, errW_some] <;> rfl), by repeat (first | (with_reducible first | exact HB.out | apply below_alloc | apply pw_below_drewN | apply below_drew1 | refine below_set ?_ GE297.out) | exact HB.out)⟩
  ·replace c6 := Bool.eq_false_iff.mpr c6
   subst c6
   have H1 : (some (0, 2)) = some (r1, r2) := by rw [if_neg (show ¬ (false = true) by decide)] at H; exact H
   clear H
   have H := H1
   clear H1
   simp only [Option.some.injEq, Prod.mk.injEq] at H
   obtain ⟨rfl, rfl⟩ := H
   go_enter Try.func27, Try.ntmps27
   go_wp2_with (first | ((with_reducible refine gate_dst (N := 2) rfl ?_); refine box_event ?hg (N := 2) ?hd (cs := #[.slice A0_0 l0_0.length c0_0, .slice A0_1 l0_1.length c0_1]) (t := 39) ?hr ?_; (case hd => rfl); (case hg => rfl); (case hr => first | (go_simp; done) | (go_simp; rfl)); intro gb297 hg w13 hbox hb; have n0_ := Aside0.mk (below_step (by repeat (first | (with_reducible first | exact HB.out | apply below_alloc | apply pw_below_drewN | apply below_drew1) | exact HB.out)) hb); have n1_ := Aside0.mk (hbox); have n2_ := Aside0.mk ((by rw [hg]; exact (below_size (by repeat (first | (with_reducible first | exact HB.out | apply below_alloc | apply pw_below_drewN | apply below_drew1) | exact HB.out))) : w.heap.size ≤ gb297)); have n3_ := Aside0.mk ((by rw [hg]; exact (below_size (by repeat (first | (with_reducible first | exact HB.out | apply below_alloc | apply pw_below_drewN | apply below_drew1) | exact HB.out))) : w.heap.size ≤ gb297)); clear HB; have HB := n0_; have BK297 := n1_; have GW297 := n2_; have GE297 := n3_; clear n0_ n1_ n2_ n3_; clear hb hbox hg; have hcz14_0 : w13.cell? ⟨gb297, 0, none⟩ = some (.slice A0_0 l0_0.length c0_0) := (blk_cell BK297.out 0).trans rfl; have hcz14_1 : w13.cell? ⟨gb297, 1, none⟩ = some (.slice A0_1 l0_1.length c0_1) := (blk_cell BK297.out 1).trans rfl; have hfz14_0 := blk_frozen BK297.out 0; have hfz14_1 := blk_frozen BK297.out 1) | ((with_reducible refine gate_callee (f := 25) rfl ?_); refine goesL_ (some 7) rfl rfl Try.func25 (by kernel_rfl) rfl #[.agg #[.slice A0_0 l0_0.length c0_0, .slice A0_1 l0_1.length c0_1]] rfl (by (try simp only [List.map_toArray, List.map_cons, List.map_nil]); first | done | rfl | (simp only [List.length_drop, List.length_take]; rfl)) ?_; (with_reducible refine (impl_ValidFrame.calls k _ _ l0_0 _ _ l0_1 true _ ?side1 ?side2 ?side3 ?side4 A3.out).mono ?_); (case side1 => repeat (first | exact (Kd.C_below HR0_0.out HB.out) | (with_reducible refine Kd.C_alloc ?_ _) | (with_reducible refine Kd.C_drewN ?_ _) | (with_reducible refine Kd.C_drew ?_))); (case side2 => exact HC0_0.out); (case side3 => repeat (first | exact (Kd.C_below HR0_1.out HB.out) | (with_reducible refine Kd.C_alloc ?_ _) | (with_reducible refine Kd.C_drewN ?_ _) | (with_reducible refine Kd.C_drew ?_))); (case side4 => exact HC0_1.out); rintro e w15 ⟨rfl, hb⟩; refine ⟨_, rfl, ?_⟩; have n0_ := Aside0.mk (blk_below (g := gb297) (o := .cells #[.slice A0_0 l0_0.length c0_0, .slice A0_1 l0_1.length c0_1] 39 (0, 0)) (by (with_reducible repeat (first | refine blk_drewN ?_ _ | refine blk_drew ?_ | refine blk_alloc ?_ _)); exact BK297.out) hb); have n1_ := Aside0.mk (below_step (by repeat (first | (with_reducible first | exact HB.out | apply below_alloc | apply pw_below_drewN | apply below_drew1 | refine below_set ?_ GE297.out) | exact HB.out)) hb); clear BK297; clear HB; have BK297 := n0_; have HB := n1_; clear n0_ n1_; (try clear hb); (try clear hb2); (try clear hk); (try clear hi); have hcz16_0 : w15.cell? ⟨gb297, 0, none⟩ = some (.slice A0_0 l0_0.length c0_0) := (blk_cell BK297.out 0).trans rfl; have hcz16_1 : w15.cell? ⟨gb297, 1, none⟩ = some (.slice A0_1 l0_1.length c0_1) := (blk_cell BK297.out 1).trans rfl; have hfz16_0 := blk_frozen BK297.out 0; have hfz16_1 := blk_frozen BK297.out 1) | ((with_reducible refine gate_callee (f := 68) rfl ?_); refine goesL_ (some 14) rfl rfl Try.func68 (by kernel_rfl) rfl #[.int .i64 a1, .int .i64 0, .int .i64 (wrap64 ((l0_1.length : Int) - 1))] rfl (by (try simp only [List.map_toArray, List.map_cons, List.map_nil]); first | done | rfl | (simp only [List.length_drop, List.length_take]; rfl)) ?_; (with_reducible refine (impl_within.calls a1 0 (wrap64 ((l0_1.length : Int) - 1)) false _ A5.out).mono ?_); rintro e w' ⟨rfl, ⟨nd, rfl⟩⟩; refine ⟨_, rfl, ?_⟩))
   go_ret2
   exact ⟨by first | rfl | (simp [errW_none, errW_some] <;> rfl) | (simp [*, errW_none, errW_some] <;> rfl), by repeat (first | (with_reducible first | exact HB.out | apply below_alloc | apply pw_below_drewN | apply below_drew1 | refine below_set ?_ GE297.out) | exact HB.out)⟩
 ·replace c4 := Bool.eq_false_iff.mpr c4
  subst c4
  have H1 : (some (0, 1)) = some (r1, r2) := by rw [if_neg (show ¬ (false = true) by decide)] at H; exact H
  clear H
  have H := H1
  clear H1
  simp only [Option.some.injEq, Prod.mk.injEq] at H
  obtain ⟨rfl, rfl⟩ := H
  go_enter Try.func27, Try.ntmps27
  go_wp2_with (first | ((with_reducible refine gate_dst (N := 2) rfl ?_); refine box_event ?hg (N := 2) ?hd (cs := #[.slice A0_0 l0_0.length c0_0, .slice A0_1 l0_1.length c0_1]) (t := 39) ?hr ?_; (case hd => rfl); (case hg => rfl); (case hr => first | (go_simp; done) | (go_simp; rfl)); intro gb297 hg w17 hbox hb; have n0_ := Aside0.mk (below_step (by repeat (first | (with_reducible first | exact HB.out | apply below_alloc | apply pw_below_drewN | apply below_drew1) | exact HB.out)) hb); have n1_ := Aside0.mk (hbox); have n2_ := Aside0.mk ((by rw [hg]; exact (below_size (by repeat (first | (with_reducible first | exact HB.out | apply below_alloc | apply pw_below_drewN | apply below_drew1) | exact HB.out))) : w.heap.size ≤ gb297)); have n3_ := Aside0.mk ((by rw [hg]; exact (below_size (by repeat (first | (with_reducible first | exact HB.out | apply below_alloc | apply pw_below_drewN | apply below_drew1) | exact HB.out))) : w.heap.size ≤ gb297)); clear HB; have HB := n0_; have BK297 := n1_; have GW297 := n2_; have GE297 := n3_; clear n0_ n1_ n2_ n3_; clear hb hbox hg; have hcz18_0 : w17.cell? ⟨gb297, 0, none⟩ = some (.slice A0_0 l0_0.length c0_0) := (blk_cell BK297.out 0).trans rfl; have hcz18_1 : w17.cell? ⟨gb297, 1, none⟩ = some (.slice A0_1 l0_1.length c0_1) := (blk_cell BK297.out 1).trans rfl; have hfz18_0 := blk_frozen BK297.out 0; have hfz18_1 := blk_frozen BK297.out 1) | ((with_reducible refine gate_callee (f := 25) rfl ?_); refine goesL_ (some 7) rfl rfl Try.func25 (by kernel_rfl) rfl #[.agg #[.slice A0_0 l0_0.length c0_0, .slice A0_1 l0_1.length c0_1]] rfl (by (try simp only [List.map_toArray, List.map_cons, List.map_nil]); first | done | rfl | (simp only [List.length_drop, List.length_take]; rfl)) ?_; (with_reducible refine (impl_ValidFrame.calls k _ _ l0_0 _ _ l0_1 false _ ?side1 ?side2 ?side3 ?side4 A3.out).mono ?_); (case side1 => repeat (first | exact (Kd.C_below HR0_0.out HB.out) | (with_reducible refine Kd.C_alloc ?_ _) | (with_reducible refine Kd.C_drewN ?_ _) | (with_reducible refine Kd.C_drew ?_))); (case side2 => exact HC0_0.out); (case side3 => repeat (first | exact (Kd.C_below HR0_1.out HB.out) | (with_reducible refine Kd.C_alloc ?_ _) | (with_reducible refine Kd.C_drewN ?_ _) | (with_reducible refine Kd.C_drew ?_))); (case side4 => exact HC0_1.out); rintro e w19 ⟨rfl, hb⟩; refine ⟨_, rfl, ?_⟩; have n0_ := Aside0.mk (blk_below (g := gb297) (o := .cells #[.slice A0_0 l0_0.length c0_0, .slice A0_1 l0_1.length c0_1] 39 (0, 0)) (by (with_reducible repeat (first | refine blk_drewN ?_ _ | refine blk_drew ?_ | refine blk_alloc ?_ _)); exact BK297.out) hb); have n1_ := Aside0.mk (below_step (by repeat (first | (with_reducible first | exact HB.out | apply below_alloc | apply pw_below_drewN | apply below_drew1 | refine below_set ?_ GE297.out) | exact HB.out)) hb); clear BK297; clear HB; have BK297 := n0_; have HB := n1_; clear n0_ n1_; (try clear hb); (try clear hb2); (try clear hk); (try clear hi)))
  go_ret2
  exact ⟨by first | rfl | (simp [errW_none, errW_some] <;> rfl) | (simp [*, errW_none, errW_some] <;> rfl), by repeat (first | (with_reducible first | exact HB.out | apply below_alloc | apply pw_below_drewN | apply below_drew1 | refine below_set ?_ GE297.out) | exact HB.out)⟩

/-! ### laws_FnExactSquareOfBar: function 6 -/
def laws_FnExactSquareOfBar.j0 : Nat → Bool → List (S113) → List (S115) → List (S82) → List (S84) → Option (Bool)
 | 0, _, _, _, _, _ => none
 | k + 1, x38, x302000, x302001, x318000, x318001 => if x38 = true then (some false) else ((laws_toFrame.f k x302000 x302001).bind fun bt320 => ((laws_eqFrame.f k x318000 x318001 bt320.1 bt320.2).bind fun t326 => (if t326 = true then (some true) else (some false))))
def laws_FnExactSquareOfBar.f (k : Nat) (l0_0 : List (S113)) (l0_1 : List (S115)) (a1 : Int) : Option (Bool) := (laws_szFrame.f l0_0 l0_1 1048576).bind fun t302 => (if t302 < 0 then (some true) else ((laws_toFrame.f k l0_0 l0_1).bind fun bt303 => ((spec_SquareOfBar.f k bt303.1 bt303.2 a1).bind fun bt309 => ((laws_toFrame.f k l0_0 l0_1).bind fun bt311 => ((impl_SquareOfBar.f k bt311.1 bt311.2 a1).bind fun bt318 => (if bt318.1 = bt309.1 then (laws_FnExactSquareOfBar.j0 k (bt318.2 != bt309.2) l0_0 l0_1 bt311.1 bt311.2) else (laws_FnExactSquareOfBar.j0 k true l0_0 l0_1 bt311.1 bt311.2)))))))
theorem laws_FnExactSquareOfBar.mono_l : ∀ k, (∀ y0 y1 y2 y3 y4, LeO (laws_FnExactSquareOfBar.j0 k y0 y1 y2 y3 y4) (laws_FnExactSquareOfBar.j0 (k + 1) y0 y1 y2 y3 y4))
 | 0 => fun _ _ _ _ _ r h => by simp [laws_FnExactSquareOfBar.j0] at h
 | k + 1 => by
  have ih0 := laws_FnExactSquareOfBar.mono_l k
  ·intro y0 y1 y2 y3 y4
   unfold laws_FnExactSquareOfBar.j0
   repeat' first
   | (with_reducible exact ih0 _ _ _ _ _)
   | (with_reducible exact impl_SquareOfBar.mono _ _ _ _)
   | (with_reducible exact laws_eqFrame.mono _ _ _ _ _)
   | (with_reducible exact laws_toFrame.mono _ _ _)
   | (with_reducible exact spec_SquareOfBar.mono _ _ _ _)
   | (with_reducible exact LeO.refl _)
   | (with_reducible exact LeO.none _)
   | (with_reducible refine LeO.ite ?_ ?_)
   | (with_reducible refine LeO.bind ?_ (fun _ => ?_))
   | exact ih0 _ _ _ _ _
   | exact impl_SquareOfBar.mono _ _ _ _
   | exact laws_eqFrame.mono _ _ _ _ _
   | exact laws_toFrame.mono _ _ _
   | exact spec_SquareOfBar.mono _ _ _ _
   | exact LeO.none _
   | refine LeO.ite ?_ ?_
   | refine LeO.bind ?_ (fun _ => ?_)
theorem laws_FnExactSquareOfBar.mono : ∀ a0 a1 a2 k, LeO (laws_FnExactSquareOfBar.f k a0 a1 a2) (laws_FnExactSquareOfBar.f (k + 1) a0 a1 a2) := by
 intro a0 a1 a2 k
 have ih0 := laws_FnExactSquareOfBar.mono_l k
 unfold laws_FnExactSquareOfBar.f
 repeat' first
   | (with_reducible exact ih0 _ _ _ _ _)
   | (with_reducible exact impl_SquareOfBar.mono _ _ _ _)
   | (with_reducible exact laws_eqFrame.mono _ _ _ _ _)
   | (with_reducible exact laws_toFrame.mono _ _ _)
   | (with_reducible exact spec_SquareOfBar.mono _ _ _ _)
   | (with_reducible exact LeO.refl _)
   | (with_reducible exact LeO.none _)
   | (with_reducible refine LeO.ite ?_ ?_)
   | (with_reducible refine LeO.bind ?_ (fun _ => ?_))
   | exact ih0 _ _ _ _ _
   | exact impl_SquareOfBar.mono _ _ _ _
   | exact laws_eqFrame.mono _ _ _ _ _
   | exact laws_toFrame.mono _ _ _
   | exact spec_SquareOfBar.mono _ _ _ _
   | exact LeO.none _
   | refine LeO.ite ?_ ?_
   | refine LeO.bind ?_ (fun _ => ?_)
@[reducible] def laws_FnExactSquareOfBar.y' : Bool := true
@[reducible] def laws_FnExactSquareOfBar.n' : Bool := false
theorem laws_FnExactSquareOfBar.z1' {α : Type} (l : List α) (i : Nat) (a : α) : l.toArray.setIfInBounds i a = (l.set i a).toArray := List.setIfInBounds_toArray ..
theorem laws_FnExactSquareOfBar.z2' {α : Type} (a b : α) (l : List α) : (a :: l).set 0 b = b :: l := rfl
theorem laws_FnExactSquareOfBar.z3' {α : Type} (a b : α) (l : List α) (n : Nat) : (a :: l).set (n + 1) b = a :: l.set n b := rfl
theorem laws_FnExactSquareOfBar.G : type_of% @Aside0.mk := @Aside0.mk
theorem laws_FnExactSquareOfBar.J : type_of% @Kd.R_alloc := @Kd.R_alloc
theorem laws_FnExactSquareOfBar.L : type_of% @Kd.R_drewN := @Kd.R_drewN
theorem laws_FnExactSquareOfBar.M : type_of% @Kd.R_drew := @Kd.R_drew
theorem laws_FnExactSquareOfBar.O : type_of% @below_set := @below_set
theorem laws_FnExactSquareOfBar.T : type_of% @pw_below_drewN := @pw_below_drewN
theorem laws_FnExactSquareOfBar.U : type_of% @blk_drewN := @blk_drewN
theorem laws_FnExactSquareOfBar.V : type_of% @blk_alloc := @blk_alloc
theorem laws_FnExactSquareOfBar.X : type_of% @blk_drew := @blk_drew
theorem laws_FnExactSquareOfBar.Y : type_of% @below_drew1 := @below_drew1
theorem laws_FnExactSquareOfBar.Z : type_of% @below_alloc := @below_alloc
theorem laws_FnExactSquareOfBar.B : type_of% @Kd.R_below := @Kd.R_below
theorem laws_FnExactSquareOfBar.D : type_of% @blk_cell := @blk_cell
theorem laws_FnExactSquareOfBar.E : type_of% @blk_below := @blk_below
theorem laws_FnExactSquareOfBar.F : type_of% @Kd.C_alloc := @Kd.C_alloc
theorem laws_FnExactSquareOfBar.I : type_of% @Kd.C_drewN := @Kd.C_drewN
theorem laws_FnExactSquareOfBar.P : type_of% @Kd.C_drew := @Kd.C_drew
theorem laws_FnExactSquareOfBar.GG : type_of% @below_size := @below_size
theorem laws_FnExactSquareOfBar.GJ : type_of% @below_step := @below_step
theorem laws_FnExactSquareOfBar.GL : type_of% @Kd.C_below := @Kd.C_below
set_option maxHeartbeats 8000000 in
set_option maxRecDepth 100000 in
theorem laws_FnExactSquareOfBar.calls (k : Nat) (A0_0 : Option Addr) (c0_0 : Nat) (l0_0 : List (S113)) (A0_1 : Option Addr) (c0_1 : Nat) (l0_1 : List (S115)) (a1 : Int) (r : Bool) (w : World) (hr0_0 : Kd.C k113 w A0_0 l0_0.length l0_0) (hc0_0 : l0_0.length ≤ c0_0) (hr0_1 : Kd.C k115 w A0_1 l0_1.length l0_1) (hc0_1 : l0_1.length ≤ c0_1) (h : laws_FnExactSquareOfBar.f k l0_0 l0_1 a1 = some r) :
  Calls Try.prog 6 #[.agg #[.slice A0_0 l0_0.length c0_0, .slice A0_1 l0_1.length c0_1], .int .i64 a1] w fun e w' => e = .returned (.bool r) ∧ Below w.heap.size w w' := by
 have hu33 := Try.underlying33
 have hu39 := Try.underlying39
 have HR0_0 := G hr0_0
 have HC0_0 := G hc0_0
 clear hr0_0 hc0_0
 have HR0_1 := G hr0_1
 have HC0_1 := G hc0_1
 clear hr0_1 hc0_1
 have HB := G (Below.refl w.heap.size w)
 have H : ((laws_szFrame.f l0_0 l0_1 1048576).bind fun t302 => (if t302 < 0 then (some true) else ((laws_toFrame.f k l0_0 l0_1).bind fun bt303 => ((spec_SquareOfBar.f k bt303.1 bt303.2 a1).bind fun bt309 => ((laws_toFrame.f k l0_0 l0_1).bind fun bt311 => ((impl_SquareOfBar.f k bt311.1 bt311.2 a1).bind fun bt318 => (if bt318.1 = bt309.1 then (laws_FnExactSquareOfBar.j0 k (bt318.2 != bt309.2) l0_0 l0_1 bt311.1 bt311.2) else (laws_FnExactSquareOfBar.j0 k true l0_0 l0_1 bt311.1 bt311.2)))))))) = some r := h
 clear h
 replace H := Option.bind_eq_some_iff.mp H
 obtain ⟨t302, A30, H⟩ := H
 replace H : (if t302 < 0 then (some true) else ((laws_toFrame.f k l0_0 l0_1).bind fun bt303 => ((spec_SquareOfBar.f k bt303.1 bt303.2 a1).bind fun bt309 => ((laws_toFrame.f k l0_0 l0_1).bind fun bt311 => ((impl_SquareOfBar.f k bt311.1 bt311.2 a1).bind fun bt318 => (if bt318.1 = bt309.1 then (laws_FnExactSquareOfBar.j0 k (bt318.2 != bt309.2) l0_0 l0_1 bt311.1 bt311.2) else (laws_FnExactSquareOfBar.j0 k true l0_0 l0_1 bt311.1 bt311.2))))))) = some r := H
 have A3 := G A30
 clear A30
 by_cases c4 : t302 < 0
 ·rw [if_pos c4] at H
  have c4b0 : decide (t302 < 0) = true := decide_eq_true c4
  clear c4
  obtain rfl := Option.some.inj H
  go_enter Try.func6, Try.ntmps6
  go_wp2_with (first | ((with_reducible refine gate_dst (N := 2) rfl ?_); refine box_event ?hg (N := 2) ?hd (cs := #[.slice A0_0 l0_0.length c0_0, .slice A0_1 l0_1.length c0_1]) (t := 33) ?hr ?_; (case hd => rfl); (case hg => rfl); (case hr => first | (go_simp; done) | (go_simp; rfl)); intro gb301 hg w5 hbox hb; have n0_ := G (GJ (by repeat (first | (with_reducible first | exact HB.out | apply Z | apply T | apply Y) | exact HB.out)) hb); have n1_ := G (hbox); have n2_ := G ((by rw [hg]; exact (GG (by repeat (first | (with_reducible first | exact HB.out | apply Z | apply T | apply Y) | exact HB.out))) : w.heap.size ≤ gb301)); have n3_ := G ((by rw [hg]; exact (GG (by repeat (first | (with_reducible first | exact HB.out | apply Z | apply T | apply Y) | exact HB.out))) : w.heap.size ≤ gb301)); clear HB; have HB := n0_; have BK301 := n1_; have GW301 := n2_; have GE301 := n3_; clear n0_ n1_ n2_ n3_; clear hb hbox hg; have hcz6_0 : w5.cell? ⟨gb301, 0, none⟩ = some (.slice A0_0 l0_0.length c0_0) := (D BK301.out 0).trans rfl; have hcz6_1 : w5.cell? ⟨gb301, 1, none⟩ = some (.slice A0_1 l0_1.length c0_1) := (D BK301.out 1).trans rfl; have hfz6_0 := blk_frozen BK301.out 0; have hfz6_1 := blk_frozen BK301.out 1) | ((with_reducible refine gate_callee (f := 19) rfl ?_); refine goesL_ (some 13) rfl rfl Try.func19 (by kernel_rfl) rfl #[.agg #[.slice A0_0 l0_0.length c0_0, .slice A0_1 l0_1.length c0_1], .int .i64 1048576] rfl (by (try simp only [List.map_toArray, List.map_cons, List.map_nil]); first | done | rfl | (simp only [List.length_drop, List.length_take]; rfl)) ?_; (with_reducible refine (laws_szFrame.calls _ _ l0_0 _ _ l0_1 1048576 t302 _ ?side1 ?side2 ?side3 ?side4 A3.out).mono ?_); (case side1 => repeat (first | exact (GL HR0_0.out HB.out) | (with_reducible refine F ?_ _) | (with_reducible refine I ?_ _) | (with_reducible refine P ?_))); (case side2 => exact HC0_0.out); (case side3 => repeat (first | exact (GL HR0_1.out HB.out) | (with_reducible refine F ?_ _) | (with_reducible refine I ?_ _) | (with_reducible refine P ?_))); (case side4 => exact HC0_1.out); rintro e w7 ⟨rfl, hb⟩; refine ⟨_, rfl, ?_⟩; have n0_ := G (E (g := gb301) (o := .cells #[.slice A0_0 l0_0.length c0_0, .slice A0_1 l0_1.length c0_1] 33 (0, 0)) (by (with_reducible repeat (first | refine U ?_ _ | refine X ?_ | refine V ?_ _)); exact BK301.out) hb); have n1_ := G (GJ (by repeat (first | (with_reducible first | exact HB.out | apply Z | apply T | apply Y | refine O ?_ GE301.out) | exact HB.out)) hb); clear BK301; clear HB; have BK301 := n0_; have HB := n1_; clear n0_ n1_; (try clear hb); (try clear hb2); (try clear hk); (try clear hi)))
  go_ret
  exact ⟨by first | rfl | (simp [errW_none, errW_some] <;> rfl) | (simp [*, errW_none, errW_some] <;> rfl), by repeat (first | (with_reducible first | exact HB.out | apply Z | apply T | apply Y | refine O ?_ GE301.out) | exact HB.out)⟩
 ·rw [if_neg c4] at H
  have c4b0 : decide (t302 < 0) = false := decide_eq_false c4
  clear c4
  replace H := Option.bind_eq_some_iff.mp H
  obtain ⟨⟨t303, t306⟩, A80, H⟩ := H
  replace H : ((spec_SquareOfBar.f k t303 t306 a1).bind fun bt309 => ((laws_toFrame.f k l0_0 l0_1).bind fun bt311 => ((impl_SquareOfBar.f k bt311.1 bt311.2 a1).bind fun bt318 => (if bt318.1 = bt309.1 then (laws_FnExactSquareOfBar.j0 k (bt318.2 != bt309.2) l0_0 l0_1 bt311.1 bt311.2) else (laws_FnExactSquareOfBar.j0 k true l0_0 l0_1 bt311.1 bt311.2))))) = some r := H
  have A8 := G A80
  clear A80
  replace H := Option.bind_eq_some_iff.mp H
  obtain ⟨⟨t309, t310⟩, A90, H⟩ := H
  replace H : ((laws_toFrame.f k l0_0 l0_1).bind fun bt311 => ((impl_SquareOfBar.f k bt311.1 bt311.2 a1).bind fun bt318 => (if bt318.1 = t309 then (laws_FnExactSquareOfBar.j0 k (bt318.2 != t310) l0_0 l0_1 bt311.1 bt311.2) else (laws_FnExactSquareOfBar.j0 k true l0_0 l0_1 bt311.1 bt311.2)))) = some r := H
  have A9 := G A90
  clear A90
  replace H := Option.bind_eq_some_iff.mp H
  obtain ⟨⟨t311, t314⟩, A100, H⟩ := H
  replace H : ((impl_SquareOfBar.f k t311 t314 a1).bind fun bt318 => (if bt318.1 = t309 then (laws_FnExactSquareOfBar.j0 k (bt318.2 != t310) l0_0 l0_1 t311 t314) else (laws_FnExactSquareOfBar.j0 k true l0_0 l0_1 t311 t314))) = some r := H
  have A10 := G A100
  clear A100
  replace H := Option.bind_eq_some_iff.mp H
  obtain ⟨⟨t318, t319⟩, A110, H⟩ := H
  replace H : (if t318 = t309 then (laws_FnExactSquareOfBar.j0 k (t319 != t310) l0_0 l0_1 t311 t314) else (laws_FnExactSquareOfBar.j0 k true l0_0 l0_1 t311 t314)) = some r := H
  have A11 := G A110
  clear A110
  have HC12 := G H
  clear H
  go_enter Try.func6, Try.ntmps6
  go_upto_region 8 with (first | ((with_reducible refine gate_dst (N := 2) rfl ?_); refine box_event ?hg (N := 2) ?hd (cs := #[.slice A0_0 l0_0.length c0_0, .slice A0_1 l0_1.length c0_1]) (t := 33) ?hr ?_; (case hd => rfl); (case hg => rfl); (case hr => first | (go_simp; done) | (go_simp; rfl)); intro gb301 hg w13 hbox hb; have n0_ := G (GJ (by repeat (first | (with_reducible first | exact HB.out | apply Z | apply T | apply Y) | exact HB.out)) hb); have n1_ := G (hbox); have n2_ := G ((by rw [hg]; exact (GG (by repeat (first | (with_reducible first | exact HB.out | apply Z | apply T | apply Y) | exact HB.out))) : w.heap.size ≤ gb301)); have n3_ := G ((by rw [hg]; exact (GG (by repeat (first | (with_reducible first | exact HB.out | apply Z | apply T | apply Y) | exact HB.out))) : w.heap.size ≤ gb301)); clear HB; have HB := n0_; have BK301 := n1_; have GW301 := n2_; have GE301 := n3_; clear n0_ n1_ n2_ n3_; clear hb hbox hg; have hcz14_0 : w13.cell? ⟨gb301, 0, none⟩ = some (.slice A0_0 l0_0.length c0_0) := (D BK301.out 0).trans rfl; have hcz14_1 : w13.cell? ⟨gb301, 1, none⟩ = some (.slice A0_1 l0_1.length c0_1) := (D BK301.out 1).trans rfl; have hfz14_0 := blk_frozen BK301.out 0; have hfz14_1 := blk_frozen BK301.out 1) | ((with_reducible refine gate_callee (f := 19) rfl ?_); refine goesL_ (some 13) rfl rfl Try.func19 (by kernel_rfl) rfl #[.agg #[.slice A0_0 l0_0.length c0_0, .slice A0_1 l0_1.length c0_1], .int .i64 1048576] rfl (by (try simp only [List.map_toArray, List.map_cons, List.map_nil]); first | done | rfl | (simp only [List.length_drop, List.length_take]; rfl)) ?_; (with_reducible refine (laws_szFrame.calls _ _ l0_0 _ _ l0_1 1048576 t302 _ ?side1 ?side2 ?side3 ?side4 A3.out).mono ?_); (case side1 => repeat (first | exact (GL HR0_0.out HB.out) | (with_reducible refine F ?_ _) | (with_reducible refine I ?_ _) | (with_reducible refine P ?_))); (case side2 => exact HC0_0.out); (case side3 => repeat (first | exact (GL HR0_1.out HB.out) | (with_reducible refine F ?_ _) | (with_reducible refine I ?_ _) | (with_reducible refine P ?_))); (case side4 => exact HC0_1.out); rintro e w15 ⟨rfl, hb⟩; refine ⟨_, rfl, ?_⟩; have n0_ := G (E (g := gb301) (o := .cells #[.slice A0_0 l0_0.length c0_0, .slice A0_1 l0_1.length c0_1] 33 (0, 0)) (by (with_reducible repeat (first | refine U ?_ _ | refine X ?_ | refine V ?_ _)); exact BK301.out) hb); have n1_ := G (GJ (by repeat (first | (with_reducible first | exact HB.out | apply Z | apply T | apply Y | refine O ?_ GE301.out) | exact HB.out)) hb); clear BK301; clear HB; have BK301 := n0_; have HB := n1_; clear n0_ n1_; (try clear hb); (try clear hb2); (try clear hk); (try clear hi); have hcz16_0 : w15.cell? ⟨gb301, 0, none⟩ = some (.slice A0_0 l0_0.length c0_0) := (D BK301.out 0).trans rfl; have hcz16_1 : w15.cell? ⟨gb301, 1, none⟩ = some (.slice A0_1 l0_1.length c0_1) := (D BK301.out 1).trans rfl; have hfz16_0 := blk_frozen BK301.out 0; have hfz16_1 := blk_frozen BK301.out 1) | ((with_reducible refine gate_callee (f := 21) rfl ?_); refine goesL_ (some 18) rfl rfl Try.func21 (by kernel_rfl) rfl #[.agg #[.slice A0_0 l0_0.length c0_0, .slice A0_1 l0_1.length c0_1]] rfl (by (try simp only [List.map_toArray, List.map_cons, List.map_nil]); first | done | rfl | (simp only [List.length_drop, List.length_take]; rfl)) ?_; (with_reducible refine (laws_toFrame.calls k _ _ l0_0 _ _ l0_1 t303 t306 _ ?side1 ?side2 ?side3 ?side4 A8.out).mono ?_); (case side1 => repeat (first | exact (GL HR0_0.out HB.out) | (with_reducible refine F ?_ _) | (with_reducible refine I ?_ _) | (with_reducible refine P ?_))); (case side2 => exact HC0_0.out); (case side3 => repeat (first | exact (GL HR0_1.out HB.out) | (with_reducible refine F ?_ _) | (with_reducible refine I ?_ _) | (with_reducible refine P ?_))); (case side4 => exact HC0_1.out); rintro e w17 ⟨v304, v307, rfl, ho0, ho1, hb⟩; refine ⟨_, rfl, ?_⟩; have n0_ := G (Kd.R_lower ho0 (GG (by repeat (first | (with_reducible first | exact HB.out | apply Z | apply T | apply Y | refine O ?_ GE301.out) | exact HB.out)))); have n1_ := G (Kd.R_lower ho1 (GG (by repeat (first | (with_reducible first | exact HB.out | apply Z | apply T | apply Y | refine O ?_ GE301.out) | exact HB.out)))); have n2_ := G (E (g := gb301) (o := .cells #[.slice A0_0 l0_0.length c0_0, .slice A0_1 l0_1.length c0_1] 33 (0, 0)) (by (with_reducible repeat (first | refine U ?_ _ | refine X ?_ | refine V ?_ _)); exact BK301.out) hb); have n3_ := G (GJ (by repeat (first | (with_reducible first | exact HB.out | apply Z | apply T | apply Y | refine O ?_ GE301.out) | exact HB.out)) hb); clear BK301; clear HB; have HO305 := n0_; have HO308 := n1_; have BK301 := n2_; have HB := n3_; clear n0_ n1_ n2_ n3_; (try clear hb); (try clear hb2); (try clear hk); (try clear hi); (try clear ho0); (try clear ho1); obtain ⟨Ao18, co18, eo18⟩ := Kd.R_slice HO305.out; subst eo18; obtain ⟨Ao19, co19, eo19⟩ := Kd.R_slice HO308.out; subst eo19) | ((with_reducible refine gate_callee (f := 26) rfl ?_); refine goesL_ (some 20) rfl rfl Try.func26 (by kernel_rfl) rfl #[.agg #[.slice Ao18 t303.length co18, .slice Ao19 t306.length co19], .int .i64 a1] rfl (by (try simp only [List.map_toArray, List.map_cons, List.map_nil]); first | done | rfl | (simp only [List.length_drop, List.length_take]; rfl)) ?_; (with_reducible refine (spec_SquareOfBar.calls k _ _ t303 _ _ t306 a1 t309 t310 _ ?side1 ?side2 ?side3 ?side4 A9.out).mono ?_); (case side1 => repeat (first | exact (Kd.R_reads' HO305.out).2.2 | (with_reducible refine F ?_ _) | (with_reducible refine I ?_ _) | (with_reducible refine P ?_))); (case side2 => exact (Kd.R_reads' HO305.out).2.1); (case side3 => repeat (first | exact (Kd.R_reads' HO308.out).2.2 | (with_reducible refine F ?_ _) | (with_reducible refine I ?_ _) | (with_reducible refine P ?_))); (case side4 => exact (Kd.R_reads' HO308.out).2.1); rintro e w20 ⟨rfl, hb⟩; refine ⟨_, rfl, ?_⟩; have n0_ := G (B (by (with_reducible repeat (first | apply J | apply L | apply M)); exact HO305.out) hb); have n1_ := G (B (by (with_reducible repeat (first | apply J | apply L | apply M)); exact HO308.out) hb); have n2_ := G (E (g := gb301) (o := .cells #[.slice A0_0 l0_0.length c0_0, .slice A0_1 l0_1.length c0_1] 33 (0, 0)) (by (with_reducible repeat (first | refine U ?_ _ | refine X ?_ | refine V ?_ _)); exact BK301.out) hb); have n3_ := G (GJ (by repeat (first | (with_reducible first | exact HB.out | apply Z | apply T | apply Y | refine O ?_ GE301.out) | exact HB.out)) hb); clear HO305; clear HO308; clear BK301; clear HB; have HO305 := n0_; have HO308 := n1_; have BK301 := n2_; have HB := n3_; clear n0_ n1_ n2_ n3_; (try clear hb); (try clear hb2); (try clear hk); (try clear hi); have hcz21_0 : w20.cell? ⟨gb301, 0, none⟩ = some (.slice A0_0 l0_0.length c0_0) := (D BK301.out 0).trans rfl; have hcz21_1 : w20.cell? ⟨gb301, 1, none⟩ = some (.slice A0_1 l0_1.length c0_1) := (D BK301.out 1).trans rfl; have hfz21_0 := blk_frozen BK301.out 0; have hfz21_1 := blk_frozen BK301.out 1) | ((with_reducible refine gate_callee (f := 21) rfl ?_); refine goesL_ (some 24) rfl rfl Try.func21 (by kernel_rfl) rfl #[.agg #[.slice A0_0 l0_0.length c0_0, .slice A0_1 l0_1.length c0_1]] rfl (by (try simp only [List.map_toArray, List.map_cons, List.map_nil]); first | done | rfl | (simp only [List.length_drop, List.length_take]; rfl)) ?_; (with_reducible refine (laws_toFrame.calls k _ _ l0_0 _ _ l0_1 t311 t314 _ ?side1 ?side2 ?side3 ?side4 A10.out).mono ?_); (case side1 => repeat (first | exact (GL HR0_0.out HB.out) | (with_reducible refine F ?_ _) | (with_reducible refine I ?_ _) | (with_reducible refine P ?_))); (case side2 => exact HC0_0.out); (case side3 => repeat (first | exact (GL HR0_1.out HB.out) | (with_reducible refine F ?_ _) | (with_reducible refine I ?_ _) | (with_reducible refine P ?_))); (case side4 => exact HC0_1.out); rintro e w22 ⟨v312, v315, rfl, ho0, ho1, hb⟩; refine ⟨_, rfl, ?_⟩; have n0_ := G (Kd.R_elder' (by (with_reducible repeat (first | apply J | apply L | apply M)); exact HO305.out) (Kd.R_base ho0) hb); have n1_ := G (Kd.R_elder' (by (with_reducible repeat (first | apply J | apply L | apply M)); exact HO308.out) (Kd.R_base ho1) hb); have n2_ := G (Kd.R_lower (Kd.R_new' ho0 (Kd.R_lt (by (with_reducible repeat (first | apply J | apply L | apply M)); exact HO305.out))) (GG (by repeat (first | (with_reducible first | exact HB.out | apply Z | apply T | apply Y | refine O ?_ GE301.out) | exact HB.out)))); have n3_ := G (Kd.R_lower (Kd.R_new' ho1 (Kd.R_lt (by (with_reducible repeat (first | apply J | apply L | apply M)); exact HO308.out))) (GG (by repeat (first | (with_reducible first | exact HB.out | apply Z | apply T | apply Y | refine O ?_ GE301.out) | exact HB.out)))); have n4_ := G (E (g := gb301) (o := .cells #[.slice A0_0 l0_0.length c0_0, .slice A0_1 l0_1.length c0_1] 33 (0, 0)) (by (with_reducible repeat (first | refine U ?_ _ | refine X ?_ | refine V ?_ _)); exact BK301.out) hb); have n5_ := G (GJ (by repeat (first | (with_reducible first | exact HB.out | apply Z | apply T | apply Y | refine O ?_ GE301.out) | exact HB.out)) hb); clear HO305; clear HO308; clear BK301; clear HB; have HO305 := n0_; have HO308 := n1_; have HO313 := n2_; have HO316 := n3_; have BK301 := n4_; have HB := n5_; clear n0_ n1_ n2_ n3_ n4_ n5_; (try clear hb); (try clear hb2); (try clear hk); (try clear hi); (try clear ho0); (try clear ho1)) | ((with_reducible refine gate_dst (N := 8) rfl ?_); refine box_event ?hg (N := 8) ?hd (cs := #[.slice none 0 0, .slice none 0 0]) (t := 39) ?hr ?_; (case hd => rfl); (case hg => rfl); (case hr => first | (go_simp; done) | (go_simp; rfl)); intro gb317 hg w23 hbox hb; have n0_ := G (B (by (with_reducible repeat (first | apply J | apply L | apply M)); exact HO305.out) hb); have n1_ := G (B (by (with_reducible repeat (first | apply J | apply L | apply M)); exact HO308.out) hb); have n2_ := G (B (by (with_reducible repeat (first | apply J | apply L | apply M)); exact HO313.out) hb); have n3_ := G (B (by (with_reducible repeat (first | apply J | apply L | apply M)); exact HO316.out) hb); have n4_ := G (E (g := gb301) (o := .cells #[.slice A0_0 l0_0.length c0_0, .slice A0_1 l0_1.length c0_1] 33 (0, 0)) (by (with_reducible repeat (first | refine U ?_ _ | refine X ?_ | refine V ?_ _)); exact BK301.out) hb); have n5_ := G (GJ (by repeat (first | (with_reducible first | exact HB.out | apply Z | apply T | apply Y | refine O ?_ GE301.out) | exact HB.out)) hb); have n6_ := G (hbox); have n7_ := G ((by rw [hg]; exact (GG (by repeat (first | (with_reducible first | exact HB.out | apply Z | apply T | apply Y | refine O ?_ GE301.out) | exact HB.out))) : w.heap.size ≤ gb317)); have n8_ := G ((by rw [hg]; exact (GG (by repeat (first | (with_reducible first | exact HB.out | apply Z | apply T | apply Y | refine O ?_ GE301.out) | exact HB.out))) : w.heap.size ≤ gb317)); have n9_ := G ((by rw [hg]; exact Nat.ne_of_lt (blk_lt (g := gb301) (o := .cells #[.slice A0_0 l0_0.length c0_0, .slice A0_1 l0_1.length c0_1] 33 (0, 0)) (by (with_reducible repeat (first | refine U ?_ _ | refine X ?_ | refine V ?_ _)); exact BK301.out)) : gb301 ≠ gb317)); have n10_ := G ((by rw [hg]; exact Nat.ne_of_gt (blk_lt (g := gb301) (o := .cells #[.slice A0_0 l0_0.length c0_0, .slice A0_1 l0_1.length c0_1] 33 (0, 0)) (by (with_reducible repeat (first | refine U ?_ _ | refine X ?_ | refine V ?_ _)); exact BK301.out)) : gb317 ≠ gb301)); clear HO305; clear HO308; clear HO313; clear HO316; clear BK301; clear HB; have HO305 := n0_; have HO308 := n1_; have HO313 := n2_; have HO316 := n3_; have BK301 := n4_; have HB := n5_; have BK317 := n6_; have GW317 := n7_; have GE317 := n8_; have NB301_317 := n9_; have NB317_301 := n10_; clear n0_ n1_ n2_ n3_ n4_ n5_ n6_ n7_ n8_ n9_ n10_; clear hb hbox hg; obtain ⟨Ao24, co24, eo24⟩ := Kd.R_slice HO313.out; subst eo24; have hnb25 := NB317_301.out; have hnc25 := NB301_317.out; have hcz26_0 : w23.cell? ⟨gb317, 0, none⟩ = some (.slice none 0 0) := (D BK317.out 0).trans rfl; have hcz26_1 : w23.cell? ⟨gb317, 1, none⟩ = some (.slice none 0 0) := (D BK317.out 1).trans rfl; have hfz26_0 := blk_frozen BK317.out 0; have hfz26_1 := blk_frozen BK317.out 1; obtain ⟨Ao27, co27, eo27⟩ := Kd.R_slice HO316.out; subst eo27) | ((with_reducible refine gate_callee (f := 27) rfl ?_); refine goesL_ (some 28) rfl rfl Try.func27 (by kernel_rfl) rfl #[.agg #[.slice Ao24 t311.length co24, .slice Ao27 t314.length co27], .int .i64 a1] rfl (by (try simp only [List.map_toArray, List.map_cons, List.map_nil]); first | done | rfl | (simp only [List.length_drop, List.length_take]; rfl)) ?_; (with_reducible refine (impl_SquareOfBar.calls k _ _ t311 _ _ t314 a1 t318 t319 _ ?side1 ?side2 ?side3 ?side4 A11.out).mono ?_); (case side1 => refine (Kd.R_reads' (e := 82) (base := w.heap.size) (ok := fun k_ => (True ∧ some k_ ≠ (.slice Ao18 t303.length co18 : Value).ownBlock)) (n := t311.length) (c := co24) ?_).2.2; exact (by (with_reducible repeat (first | apply J | apply L | apply M)); exact (Kd.R_mono (Kd.R_far (p := ⟨gb317, 1, none⟩) (Kd.R_far (p := ⟨gb317, 0, none⟩) (Kd.R_types HO313.out BK317.out (by decide)) (fun _ hk => hk.2) (.slice Ao24 t311.length co24)) (fun _ hk => hk.2) (.slice Ao27 t314.length co27)) (fun _ h_ => h_.1)))); (case side2 => exact (Kd.R_reads' HO313.out).2.1); (case side3 => refine (Kd.R_reads' (e := 84) (base := w.heap.size) (ok := fun k_ => (True ∧ some k_ ≠ (.slice Ao19 t306.length co19 : Value).ownBlock)) (n := t314.length) (c := co27) ?_).2.2; exact (by (with_reducible repeat (first | apply J | apply L | apply M)); exact (Kd.R_mono (Kd.R_far (p := ⟨gb317, 1, none⟩) (Kd.R_far (p := ⟨gb317, 0, none⟩) (Kd.R_types HO316.out BK317.out (by decide)) (fun _ hk => hk.2) (.slice Ao24 t311.length co24)) (fun _ hk => hk.2) (.slice Ao27 t314.length co27)) (fun _ h_ => h_.1)))); (case side4 => exact (Kd.R_reads' HO316.out).2.1); rintro e w28 ⟨rfl, hb⟩; refine ⟨_, rfl, ?_⟩; have n0_ := G (B (by (with_reducible repeat (first | apply J | apply L | apply M)); exact (Kd.R_mono (Kd.R_far (p := ⟨gb317, 1, none⟩) (Kd.R_far (p := ⟨gb317, 0, none⟩) (Kd.R_types HO305.out BK317.out (by decide)) (fun _ hk => hk.2) (.slice Ao24 t311.length co24)) (fun _ hk => hk.2) (.slice Ao27 t314.length co27)) (fun _ h_ => h_.1))) hb); have n1_ := G (B (by (with_reducible repeat (first | apply J | apply L | apply M)); exact (Kd.R_mono (Kd.R_far (p := ⟨gb317, 1, none⟩) (Kd.R_far (p := ⟨gb317, 0, none⟩) (Kd.R_types HO308.out BK317.out (by decide)) (fun _ hk => hk.2) (.slice Ao24 t311.length co24)) (fun _ hk => hk.2) (.slice Ao27 t314.length co27)) (fun _ h_ => h_.1))) hb); have n2_ := G (B (by (with_reducible repeat (first | apply J | apply L | apply M)); exact (Kd.R_mono (Kd.R_far (p := ⟨gb317, 1, none⟩) (Kd.R_far (p := ⟨gb317, 0, none⟩) (Kd.R_types HO313.out BK317.out (by decide)) (fun _ hk => hk.2) (.slice Ao24 t311.length co24)) (fun _ hk => hk.2) (.slice Ao27 t314.length co27)) (fun _ h_ => h_.1))) hb); have n3_ := G (B (by (with_reducible repeat (first | apply J | apply L | apply M)); exact (Kd.R_mono (Kd.R_far (p := ⟨gb317, 1, none⟩) (Kd.R_far (p := ⟨gb317, 0, none⟩) (Kd.R_types HO316.out BK317.out (by decide)) (fun _ hk => hk.2) (.slice Ao24 t311.length co24)) (fun _ hk => hk.2) (.slice Ao27 t314.length co27)) (fun _ h_ => h_.1))) hb); have n4_ := G (E (g := gb301) (o := .cells #[.slice A0_0 l0_0.length c0_0, .slice A0_1 l0_1.length c0_1] 33 (0, 0)) (by (with_reducible repeat (first | refine U ?_ _ | refine X ?_ | refine V ?_ _)); refine blk_far ?_ NB301_317.out _; (with_reducible repeat (first | refine U ?_ _ | refine X ?_ | refine V ?_ _)); refine blk_far ?_ NB301_317.out _; (with_reducible repeat (first | refine U ?_ _ | refine X ?_ | refine V ?_ _)); exact BK301.out) hb); have n5_ := G (E (g := gb317) (o := .cells #[.slice Ao24 t311.length co24, .slice Ao27 t314.length co27] 39 (0, 0)) (by (with_reducible repeat (first | refine U ?_ _ | refine X ?_ | refine V ?_ _)); refine blk_put (cs := #[.slice Ao24 t311.length co24, .slice none 0 0]) ?_ 1 _ rfl; (with_reducible repeat (first | refine U ?_ _ | refine X ?_ | refine V ?_ _)); refine blk_put (cs := #[.slice none 0 0, .slice none 0 0]) ?_ 0 _ rfl; (with_reducible repeat (first | refine U ?_ _ | refine X ?_ | refine V ?_ _)); exact BK317.out) hb); have n6_ := G (GJ (by repeat (first | (with_reducible first | exact HB.out | apply Z | apply T | apply Y | refine O ?_ GE301.out | refine O ?_ GE317.out) | exact HB.out)) hb); clear HO305; clear HO308; clear HO313; clear HO316; clear BK301; clear BK317; clear HB; have HO305 := n0_; have HO308 := n1_; have HO313 := n2_; have HO316 := n3_; have BK301 := n4_; have BK317 := n5_; have HB := n6_; clear n0_ n1_ n2_ n3_ n4_ n5_ n6_; (try clear hb); (try clear hb2); (try clear hk); (try clear hi)))
  (try simp only [Act.put, List.setIfInBounds_toArray, List.set_cons_zero, List.set_cons_succ])
  go_cut [38] (fun v38 wc => ∃ (kq : Nat) (x38_11 : Bool), v38 = .bool x38_11 ∧ Aside0 (laws_FnExactSquareOfBar.j0 kq x38_11 l0_0 l0_1 t311 t314 = some r) ∧ Aside0 (kq ≤ k) ∧ Aside0 (Kd.R k82 82 wc w.heap.size (fun _ => True) (.slice Ao24 t311.length co24) t311) ∧ Aside0 (Kd.R k84 84 wc w.heap.size (fun _ => True) (.slice Ao27 t314.length co27) t314) ∧ Aside0 (wc.heap[gb301]? = some (.cells #[(.slice A0_0 l0_0.length c0_0), (.slice A0_1 l0_1.length c0_1)] 33 (0, 0))) ∧ Aside0 (wc.heap[gb317]? = some (.cells #[(.slice Ao24 t311.length co24), (.slice Ao27 t314.length co27)] 39 (0, 0))) ∧ Aside0 (Below w.heap.size w wc))
  case first =>
   have H := HC12.out
   clear HC12
   by_cases c29 : t318 = t309
   ·rw [if_pos c29] at H
    have c29b0 : (t318 == t309) = true := beq_iff_eq.mpr c29
    have c29b1 : (t318 != t309) = false := bne_eq_false_iff_eq.mpr c29
    clear c29
    (first | rw [c29b0] | (simp only [i64_w, i32_w]; rw [c29b0]) | skip)
    have H' := G H
    clear H
    go_wp2
    go_meet
    case rel => exact ⟨_, ((t319 != t310)), (by first | rfl | (simp; done) | (simp [*]; done)), H', ⟨by first | omega | exact Nat.le_refl _⟩, ⟨by (with_reducible repeat (first | apply J | apply L | apply M)); exact Kd.R_mono HO313.out (fun _ hk => trivial)⟩, ⟨by (with_reducible repeat (first | apply J | apply L | apply M)); exact Kd.R_mono HO316.out (fun _ hk => trivial)⟩, ⟨by (with_reducible repeat (first | refine U ?_ _ | refine X ?_ | refine V ?_ _)); exact BK301.out⟩, ⟨by (with_reducible repeat (first | refine U ?_ _ | refine X ?_ | refine V ?_ _)); exact BK317.out⟩, ⟨by repeat (first | (with_reducible first | exact HB.out | apply Z | apply T | apply Y | refine O ?_ GE301.out | refine O ?_ GE317.out) | exact HB.out)⟩⟩
   ·rw [if_neg c29] at H
    have c29b0 : (t318 == t309) = false := beq_eq_false_iff_ne.mpr c29
    have c29b1 : (t318 != t309) = true := bne_iff_ne.mpr c29
    (first | rw [c29b0] | (simp only [i64_w, i32_w]; rw [c29b0]) | skip)
    have H' := G H
    clear H
    go_wp2
    go_meet
    case rel => exact ⟨_, (true), (by first | rfl | (simp; done) | (simp [*]; done)), H', ⟨by first | omega | exact Nat.le_refl _⟩, ⟨by (with_reducible repeat (first | apply J | apply L | apply M)); exact Kd.R_mono HO313.out (fun _ hk => trivial)⟩, ⟨by (with_reducible repeat (first | apply J | apply L | apply M)); exact Kd.R_mono HO316.out (fun _ hk => trivial)⟩, ⟨by (with_reducible repeat (first | refine U ?_ _ | refine X ?_ | refine V ?_ _)); exact BK301.out⟩, ⟨by (with_reducible repeat (first | refine U ?_ _ | refine X ?_ | refine V ?_ _)); exact BK317.out⟩, ⟨by repeat (first | (with_reducible first | exact HB.out | apply Z | apply T | apply Y | refine O ?_ GE301.out | refine O ?_ GE317.out) | exact HB.out)⟩⟩
  case rest =>
   clear HC12
   try clear c1
   try clear c2
   try clear p2
   try clear c4
   try clear c4b0
   try clear c6
   try clear c19
   try clear c21
   try clear c25
   try clear c26
   try clear c27
   try clear c29
   try clear c29b0
   try clear c29b1
   try clear hcz14_0
   try clear hcz14_1
   try clear hcz16_0
   try clear hcz16_1
   try clear hcz21_0
   try clear hcz21_1
   try clear hcz26_0
   try clear hcz26_1
   try clear hcz6_0
   try clear hcz6_1
   try clear hfz14_0
   try clear hfz14_1
   try clear hfz16_0
   try clear hfz16_1
   try clear hfz21_0
   try clear hfz21_1
   try clear hfz26_0
   try clear hfz26_1
   try clear hfz6_0
   try clear hfz6_1
   obtain ⟨kq, x38_11, rfl, HA, HJ11, HO_318000, HO_318001, BK301, BK317, HB⟩ := hcut
   cases kq with
   | zero => exact absurd HA.out (by simp [laws_FnExactSquareOfBar.j0])
   | succ kj11 =>
    have H := HA.out
    clear HA
    simp only [laws_FnExactSquareOfBar.j0] at H
    by_cases c30 : x38_11 = true
    ·subst c30
     have H1 : (some false) = some r := by rw [if_pos rfl] at H; exact H
     clear H
     have H := H1
     clear H1
     obtain rfl := Option.some.inj H
     go_wp2
     go_ret
     exact ⟨by first | rfl | (simp [errW_none, errW_some] <;> rfl) | (simp [*, errW_none, errW_some] <;> rfl), by repeat (first | (with_reducible first | exact HB.out | apply Z | apply T | apply Y | refine O ?_ GE301.out | refine O ?_ GE317.out) | exact HB.out)⟩
    ·replace c30 := Bool.eq_false_iff.mpr c30
     subst c30
     have H1 : ((laws_toFrame.f kj11 l0_0 l0_1).bind fun bt320 => ((laws_eqFrame.f kj11 t311 t314 bt320.1 bt320.2).bind fun t326 => (if t326 = true then (some true) else (some false)))) = some r := by rw [if_neg (show ¬ (false = true) by decide)] at H; exact H
     clear H
     have H := H1
     clear H1
     replace H := Option.bind_eq_some_iff.mp H
     obtain ⟨⟨t320, t323⟩, A310, H⟩ := H
     replace H : ((laws_eqFrame.f kj11 t311 t314 t320 t323).bind fun t326 => (if t326 = true then (some true) else (some false))) = some r := H
     have A31 := G A310
     clear A310
     replace H := Option.bind_eq_some_iff.mp H
     obtain ⟨t326, A320, H⟩ := H
     replace H : (if t326 = true then (some true) else (some false)) = some r := H
     have A32 := G A320
     clear A320
     by_cases c33 : t326 = true
     ·subst c33
      have H1 : (some true) = some r := by rw [if_pos rfl] at H; exact H
      clear H
      have H := H1
      clear H1
      obtain rfl := Option.some.inj H
      try go_wp2
      have n0_ := G (M HO_318000.out)
      have n1_ := G (M HO_318001.out)
      have n2_ := G (X BK301.out)
      have n3_ := G (X BK317.out)
      have n4_ := G (Y HB.out)
      clear HO_318000
      clear HO_318001
      clear BK301
      clear BK317
      clear HB
      have HO_318000 := n0_
      have HO_318001 := n1_
      have BK301 := n2_
      have BK317 := n3_
      have HB := n4_
      clear n0_ n1_ n2_ n3_ n4_
      refine start_ (n := 5) (S := fun w' => w'.cell? ⟨gb317, 0, none⟩ = some (.slice Ao24 t311.length co24) ∧ w'.cell? ⟨gb317, 1, none⟩ = some (.slice Ao27 t314.length co27) ∧ w'.cell? ⟨gb301, 0, none⟩ = some (.slice A0_0 l0_0.length c0_0) ∧ w'.cell? ⟨gb301, 1, none⟩ = some (.slice A0_1 l0_1.length c0_1)) (ds := []) #[n', n', n', n', n'] (by kernel_rfl) rfl rfl ⟨(D BK317.out 0).trans rfl, (D BK317.out 1).trans rfl, (D BK301.out 0).trans rfl, (D BK301.out 1).trans rfl⟩ (fun hHeld => ?_)
      generalize wc.drew = w34 at HO_318000 HO_318001 BK301 BK317 HB hHeld ⊢
      refine take_ (i := 0) (N := some 39) (v := ?_) (a' := ?_) #[y', n', n', n', n'] rfl rfl (by kernel_rfl) (fun _ _ _ h => h) (Or.inl ⟨by rfl, ?_⟩) hHeld ?_ ?_
      rotate_left
      ·rintro w' ⟨s0, s1, s2, s3⟩
       go_simp
       with_reducible rfl
      rotate_left
      ·simp only [Act.put, z1', z2', z3', i64_w, i32_w]
       rfl
      refine take_ (i := 1) (N := some 40) (v := ?_) (a' := ?_) #[y', y', n', n', n'] rfl rfl (by kernel_rfl) (fun _ _ _ h => h) (Or.inl ⟨by rfl, ?_⟩) hHeld ?_ ?_
      rotate_left
      ·rintro w' ⟨s0, s1, s2, s3⟩
       go_simp
       with_reducible rfl
      rotate_left
      ·simp only [Act.put, z1', z2', z3', i64_w, i32_w]
       rfl
      refine one_ (i := 2) (N := some 41) #[y', y', y', n', n'] rfl rfl (by kernel_rfl) (by decide) (fun K hK => ?_)
      refine goes_ Try.func21 (by kernel_rfl) rfl #[.agg #[.slice A0_0 l0_0.length c0_0, .slice A0_1 l0_1.length c0_1]] (by rfl) rfl rfl (by (try simp only [List.map_toArray, List.map_cons, List.map_nil]); first | done | rfl | (simp only [List.length_drop, List.length_take]; rfl)) ?_
      with_reducible refine (laws_toFrame.calls kj11 _ _ l0_0 _ _ l0_1 t320 t323 _ ?side1 ?side2 ?side3 ?side4 A31.out).mono ?_
      (case side1 => repeat (first | exact (GL HR0_0.out HB.out) | (with_reducible refine F ?_ _) | (with_reducible refine I ?_ _) | (with_reducible refine P ?_)))
      (case side2 => exact HC0_0.out)
      (case side3 => repeat (first | exact (GL HR0_1.out HB.out) | (with_reducible refine F ?_ _) | (with_reducible refine I ?_ _) | (with_reducible refine P ?_)))
      (case side4 => exact HC0_1.out)
      rintro e w35 ⟨v321, v324, rfl, ho0, ho1, hb⟩
      refine ⟨_, rfl, ?_⟩
      have n0_ := G (Kd.R_elder' (by (with_reducible repeat (first | apply J | apply L | apply M)); exact HO_318000.out) (Kd.R_base ho0) hb)
      have n1_ := G (Kd.R_elder' (by (with_reducible repeat (first | apply J | apply L | apply M)); exact HO_318001.out) (Kd.R_base ho1) hb)
      have n2_ := G (Kd.R_lower (Kd.R_new' ho0 (Kd.R_lt (by (with_reducible repeat (first | apply J | apply L | apply M)); exact HO_318000.out))) (GG (by repeat (first | (with_reducible first | exact HB.out | apply Z | apply T | apply Y | refine O ?_ GE301.out | refine O ?_ GE317.out) | exact HB.out))))
      have n3_ := G (Kd.R_lower (Kd.R_new' ho1 (Kd.R_lt (by (with_reducible repeat (first | apply J | apply L | apply M)); exact HO_318001.out))) (GG (by repeat (first | (with_reducible first | exact HB.out | apply Z | apply T | apply Y | refine O ?_ GE301.out | refine O ?_ GE317.out) | exact HB.out))))
      have n4_ := G (E (g := gb301) (o := .cells #[.slice A0_0 l0_0.length c0_0, .slice A0_1 l0_1.length c0_1] 33 (0, 0)) (by (with_reducible repeat (first | refine U ?_ _ | refine X ?_ | refine V ?_ _)); exact BK301.out) hb)
      have n5_ := G (E (g := gb317) (o := .cells #[.slice Ao24 t311.length co24, .slice Ao27 t314.length co27] 39 (0, 0)) (by (with_reducible repeat (first | refine U ?_ _ | refine X ?_ | refine V ?_ _)); exact BK317.out) hb)
      have n6_ := G (GJ (by repeat (first | (with_reducible first | exact HB.out | apply Z | apply T | apply Y | refine O ?_ GE301.out | refine O ?_ GE317.out) | exact HB.out)) hb)
      clear HO_318000
      clear HO_318001
      clear BK301
      clear BK317
      clear HB
      have HO_318000 := n0_
      have HO_318001 := n1_
      have HO322 := n2_
      have HO325 := n3_
      have BK301 := n4_
      have BK317 := n5_
      have HB := n6_
      clear n0_ n1_ n2_ n3_ n4_ n5_ n6_
      (try clear hb)
      (try clear hb2)
      (try clear hk)
      (try clear hi)
      (try clear ho0)
      (try clear ho1)
      obtain ⟨Ao36, co36, eo36⟩ := Kd.R_slice HO322.out
      (first | subst eo36 | (injection eo36 with f1_ f2_ f3_; have f4_ := f1_.symm; have f5_ := f3_.symm; clear f1_ f2_ f3_; subst f4_; subst f5_))
      obtain ⟨Ao37, co37, eo37⟩ := Kd.R_slice HO325.out
      (first | subst eo37 | (injection eo37 with f1_ f2_ f3_; have f4_ := f1_.symm; have f5_ := f3_.symm; clear f1_ f2_ f3_; subst f4_; subst f5_))
      refine hK.out _ _ ⟨(D BK317.out 0).trans rfl, (D BK317.out 1).trans rfl, (D BK301.out 0).trans rfl, (D BK301.out 1).trans rfl⟩ (fun hHeld => ?_)
      clear hK K
      refine norm_ (a' := ?_) ?_ ?_
      rotate_left
      ·show Act.put _ (some 41) _ = _
       simp only [Act.put, z1', z2', z3', i64_w, i32_w]
       rfl
      refine one_ (i := 3) (N := some 42) #[y', y', y', y', n'] rfl rfl (by kernel_rfl) (by decide) (fun K hK => ?_)
      refine goes_ Try.func23 (by kernel_rfl) rfl #[.agg #[.slice Ao24 t311.length co24, .slice Ao27 t314.length co27], .agg #[.slice Ao36 t320.length co36, .slice Ao37 t323.length co37]] (by rfl) rfl rfl (by (try simp only [List.map_toArray, List.map_cons, List.map_nil]); first | done | rfl | (simp only [List.length_drop, List.length_take]; rfl)) ?_
      with_reducible refine (laws_eqFrame.calls kj11 _ _ t311 _ _ t314 _ _ t320 _ _ t323 true _ ?side1 ?side2 ?side3 ?side4 ?side5 ?side6 ?side7 ?side8 A32.out).mono ?_
      (case side1 => repeat (first | exact (Kd.R_reads' HO_318000.out).2.2 | (with_reducible refine F ?_ _) | (with_reducible refine I ?_ _) | (with_reducible refine P ?_)))
      (case side2 => exact (Kd.R_reads' HO_318000.out).2.1)
      (case side3 => repeat (first | exact (Kd.R_reads' HO_318001.out).2.2 | (with_reducible refine F ?_ _) | (with_reducible refine I ?_ _) | (with_reducible refine P ?_)))
      (case side4 => exact (Kd.R_reads' HO_318001.out).2.1)
      (case side5 => repeat (first | exact (Kd.R_reads' HO322.out).2.2 | (with_reducible refine F ?_ _) | (with_reducible refine I ?_ _) | (with_reducible refine P ?_)))
      (case side6 => exact (Kd.R_reads' HO322.out).2.1)
      (case side7 => repeat (first | exact (Kd.R_reads' HO325.out).2.2 | (with_reducible refine F ?_ _) | (with_reducible refine I ?_ _) | (with_reducible refine P ?_)))
      (case side8 => exact (Kd.R_reads' HO325.out).2.1)
      rintro e w38 ⟨rfl, hb⟩
      refine ⟨_, rfl, ?_⟩
      have n0_ := G (B (by (with_reducible repeat (first | apply J | apply L | apply M)); exact HO_318000.out) hb)
      have n1_ := G (B (by (with_reducible repeat (first | apply J | apply L | apply M)); exact HO_318001.out) hb)
      have n2_ := G (B (by (with_reducible repeat (first | apply J | apply L | apply M)); exact HO322.out) hb)
      have n3_ := G (B (by (with_reducible repeat (first | apply J | apply L | apply M)); exact HO325.out) hb)
      have n4_ := G (E (g := gb301) (o := .cells #[.slice A0_0 l0_0.length c0_0, .slice A0_1 l0_1.length c0_1] 33 (0, 0)) (by (with_reducible repeat (first | refine U ?_ _ | refine X ?_ | refine V ?_ _)); exact BK301.out) hb)
      have n5_ := G (E (g := gb317) (o := .cells #[.slice Ao24 t311.length co24, .slice Ao27 t314.length co27] 39 (0, 0)) (by (with_reducible repeat (first | refine U ?_ _ | refine X ?_ | refine V ?_ _)); exact BK317.out) hb)
      have n6_ := G (GJ (by repeat (first | (with_reducible first | exact HB.out | apply Z | apply T | apply Y | refine O ?_ GE301.out | refine O ?_ GE317.out) | exact HB.out)) hb)
      clear HO_318000
      clear HO_318001
      clear HO322
      clear HO325
      clear BK301
      clear BK317
      clear HB
      have HO_318000 := n0_
      have HO_318001 := n1_
      have HO322 := n2_
      have HO325 := n3_
      have BK301 := n4_
      have BK317 := n5_
      have HB := n6_
      clear n0_ n1_ n2_ n3_ n4_ n5_ n6_
      (try clear hb)
      (try clear hb2)
      (try clear hk)
      (try clear hi)
      refine hK.out _ _ ⟨(D BK317.out 0).trans rfl, (D BK317.out 1).trans rfl, (D BK301.out 0).trans rfl, (D BK301.out 1).trans rfl⟩ (fun hHeld => ?_)
      clear hK K
      refine norm_ (a' := ?_) ?_ ?_
      rotate_left
      ·show Act.put _ (some 42) _ = _
       simp only [Act.put, z1', z2', z3', i64_w, i32_w]
       rfl
      refine pure_ (i := 4) (N := some 43) (v := ?_) (a' := ?_) #[y', y', y', y', y'] rfl rfl (by kernel_rfl) (fun _ _ _ h => h) (Or.inl ⟨by rfl, ?_⟩) ?_ ?_
      rotate_left
      ·intro w'
       go_simp
       with_reducible rfl
      rotate_left
      ·simp only [Act.put, z1', z2', z3', i64_w, i32_w]
       rfl
      refine done_ (by kernel_rfl) ?_
      try go_wp2
      go_ret
      exact ⟨by first | rfl | (simp [errW_none, errW_some] <;> rfl) | (simp [*, errW_none, errW_some] <;> rfl), by repeat (first | (with_reducible first | exact HB.out | apply Z | apply T | apply Y | refine O ?_ GE301.out | refine O ?_ GE317.out) | exact HB.out)⟩
     ·replace c33 := Bool.eq_false_iff.mpr c33
      subst c33
      have H1 : (some false) = some r := by rw [if_neg (show ¬ (false = true) by decide)] at H; exact H
      clear H
      have H := H1
      clear H1
      obtain rfl := Option.some.inj H
      try go_wp2
      have n0_ := G (M HO_318000.out)
      have n1_ := G (M HO_318001.out)
      have n2_ := G (X BK301.out)
      have n3_ := G (X BK317.out)
      have n4_ := G (Y HB.out)
      clear HO_318000
      clear HO_318001
      clear BK301
      clear BK317
      clear HB
      have HO_318000 := n0_
      have HO_318001 := n1_
      have BK301 := n2_
      have BK317 := n3_
      have HB := n4_
      clear n0_ n1_ n2_ n3_ n4_
      refine start_ (n := 5) (S := fun w' => w'.cell? ⟨gb317, 0, none⟩ = some (.slice Ao24 t311.length co24) ∧ w'.cell? ⟨gb317, 1, none⟩ = some (.slice Ao27 t314.length co27) ∧ w'.cell? ⟨gb301, 0, none⟩ = some (.slice A0_0 l0_0.length c0_0) ∧ w'.cell? ⟨gb301, 1, none⟩ = some (.slice A0_1 l0_1.length c0_1)) (ds := []) #[n', n', n', n', n'] (by kernel_rfl) rfl rfl ⟨(D BK317.out 0).trans rfl, (D BK317.out 1).trans rfl, (D BK301.out 0).trans rfl, (D BK301.out 1).trans rfl⟩ (fun hHeld => ?_)
      generalize wc.drew = w39 at HO_318000 HO_318001 BK301 BK317 HB hHeld ⊢
      refine take_ (i := 0) (N := some 39) (v := ?_) (a' := ?_) #[y', n', n', n', n'] rfl rfl (by kernel_rfl) (fun _ _ _ h => h) (Or.inl ⟨by rfl, ?_⟩) hHeld ?_ ?_
      rotate_left
      ·rintro w' ⟨s0, s1, s2, s3⟩
       go_simp
       with_reducible rfl
      rotate_left
      ·simp only [Act.put, z1', z2', z3', i64_w, i32_w]
       rfl
      refine take_ (i := 1) (N := some 40) (v := ?_) (a' := ?_) #[y', y', n', n', n'] rfl rfl (by kernel_rfl) (fun _ _ _ h => h) (Or.inl ⟨by rfl, ?_⟩) hHeld ?_ ?_
      rotate_left
      ·rintro w' ⟨s0, s1, s2, s3⟩
       go_simp
       with_reducible rfl
      rotate_left
      ·simp only [Act.put, z1', z2', z3', i64_w, i32_w]
       rfl
      refine one_ (i := 2) (N := some 41) #[y', y', y', n', n'] rfl rfl (by kernel_rfl) (by decide) (fun K hK => ?_)
      refine goes_ Try.func21 (by kernel_rfl) rfl #[.agg #[.slice A0_0 l0_0.length c0_0, .slice A0_1 l0_1.length c0_1]] (by rfl) rfl rfl (by (try simp only [List.map_toArray, List.map_cons, List.map_nil]); first | done | rfl | (simp only [List.length_drop, List.length_take]; rfl)) ?_
      with_reducible refine (laws_toFrame.calls kj11 _ _ l0_0 _ _ l0_1 t320 t323 _ ?side1 ?side2 ?side3 ?side4 A31.out).mono ?_
      (case side1 => repeat (first | exact (GL HR0_0.out HB.out) | (with_reducible refine F ?_ _) | (with_reducible refine I ?_ _) | (with_reducible refine P ?_)))
      (case side2 => exact HC0_0.out)
      (case side3 => repeat (first | exact (GL HR0_1.out HB.out) | (with_reducible refine F ?_ _) | (with_reducible refine I ?_ _) | (with_reducible refine P ?_)))
      (case side4 => exact HC0_1.out)
      rintro e w40 ⟨v321, v324, rfl, ho0, ho1, hb⟩
      refine ⟨_, rfl, ?_⟩
      have n0_ := G (Kd.R_elder' (by (with_reducible repeat (first | apply J | apply L | apply M)); exact HO_318000.out) (Kd.R_base ho0) hb)
      have n1_ := G (Kd.R_elder' (by (with_reducible repeat (first | apply J | apply L | apply M)); exact HO_318001.out) (Kd.R_base ho1) hb)
      have n2_ := G (Kd.R_lower (Kd.R_new' ho0 (Kd.R_lt (by (with_reducible repeat (first | apply J | apply L | apply M)); exact HO_318000.out))) (GG (by repeat (first | (with_reducible first | exact HB.out | apply Z | apply T | apply Y | refine O ?_ GE301.out | refine O ?_ GE317.out) | exact HB.out))))
      have n3_ := G (Kd.R_lower (Kd.R_new' ho1 (Kd.R_lt (by (with_reducible repeat (first | apply J | apply L | apply M)); exact HO_318001.out))) (GG (by repeat (first | (with_reducible first | exact HB.out | apply Z | apply T | apply Y | refine O ?_ GE301.out | refine O ?_ GE317.out) | exact HB.out))))
      have n4_ := G (E (g := gb301) (o := .cells #[.slice A0_0 l0_0.length c0_0, .slice A0_1 l0_1.length c0_1] 33 (0, 0)) (by (with_reducible repeat (first | refine U ?_ _ | refine X ?_ | refine V ?_ _)); exact BK301.out) hb)
      have n5_ := G (E (g := gb317) (o := .cells #[.slice Ao24 t311.length co24, .slice Ao27 t314.length co27] 39 (0, 0)) (by (with_reducible repeat (first | refine U ?_ _ | refine X ?_ | refine V ?_ _)); exact BK317.out) hb)
      have n6_ := G (GJ (by repeat (first | (with_reducible first | exact HB.out | apply Z | apply T | apply Y | refine O ?_ GE301.out | refine O ?_ GE317.out) | exact HB.out)) hb)
      clear HO_318000
      clear HO_318001
      clear BK301
      clear BK317
      clear HB
      have HO_318000 := n0_
      have HO_318001 := n1_
      have HO322 := n2_
      have HO325 := n3_
      have BK301 := n4_
      have BK317 := n5_
      have HB := n6_
      clear n0_ n1_ n2_ n3_ n4_ n5_ n6_
      (try clear hb)
      (try clear hb2)
      (try clear hk)
      (try clear hi)
      (try clear ho0)
      (try clear ho1)
      obtain ⟨Ao41, co41, eo41⟩ := Kd.R_slice HO322.out
      (first | subst eo41 | (injection eo41 with f1_ f2_ f3_; have f4_ := f1_.symm; have f5_ := f3_.symm; clear f1_ f2_ f3_; subst f4_; subst f5_))
      obtain ⟨Ao42, co42, eo42⟩ := Kd.R_slice HO325.out
      (first | subst eo42 | (injection eo42 with f1_ f2_ f3_; have f4_ := f1_.symm; have f5_ := f3_.symm; clear f1_ f2_ f3_; subst f4_; subst f5_))
      refine hK.out _ _ ⟨(D BK317.out 0).trans rfl, (D BK317.out 1).trans rfl, (D BK301.out 0).trans rfl, (D BK301.out 1).trans rfl⟩ (fun hHeld => ?_)
      clear hK K
      refine norm_ (a' := ?_) ?_ ?_
      rotate_left
      ·show Act.put _ (some 41) _ = _
       simp only [Act.put, z1', z2', z3', i64_w, i32_w]
       rfl
      refine one_ (i := 3) (N := some 42) #[y', y', y', y', n'] rfl rfl (by kernel_rfl) (by decide) (fun K hK => ?_)
      refine goes_ Try.func23 (by kernel_rfl) rfl #[.agg #[.slice Ao24 t311.length co24, .slice Ao27 t314.length co27], .agg #[.slice Ao41 t320.length co41, .slice Ao42 t323.length co42]] (by rfl) rfl rfl (by (try simp only [List.map_toArray, List.map_cons, List.map_nil]); first | done | rfl | (simp only [List.length_drop, List.length_take]; rfl)) ?_
      with_reducible refine (laws_eqFrame.calls kj11 _ _ t311 _ _ t314 _ _ t320 _ _ t323 false _ ?side1 ?side2 ?side3 ?side4 ?side5 ?side6 ?side7 ?side8 A32.out).mono ?_
      (case side1 => repeat (first | exact (Kd.R_reads' HO_318000.out).2.2 | (with_reducible refine F ?_ _) | (with_reducible refine I ?_ _) | (with_reducible refine P ?_)))
      (case side2 => exact (Kd.R_reads' HO_318000.out).2.1)
      (case side3 => repeat (first | exact (Kd.R_reads' HO_318001.out).2.2 | (with_reducible refine F ?_ _) | (with_reducible refine I ?_ _) | (with_reducible refine P ?_)))
      (case side4 => exact (Kd.R_reads' HO_318001.out).2.1)
      (case side5 => repeat (first | exact (Kd.R_reads' HO322.out).2.2 | (with_reducible refine F ?_ _) | (with_reducible refine I ?_ _) | (with_reducible refine P ?_)))
      (case side6 => exact (Kd.R_reads' HO322.out).2.1)
      (case side7 => repeat (first | exact (Kd.R_reads' HO325.out).2.2 | (with_reducible refine F ?_ _) | (with_reducible refine I ?_ _) | (with_reducible refine P ?_)))
      (case side8 => exact (Kd.R_reads' HO325.out).2.1)
      rintro e w43 ⟨rfl, hb⟩
      refine ⟨_, rfl, ?_⟩
      have n0_ := G (B (by (with_reducible repeat (first | apply J | apply L | apply M)); exact HO_318000.out) hb)
      have n1_ := G (B (by (with_reducible repeat (first | apply J | apply L | apply M)); exact HO_318001.out) hb)
      have n2_ := G (B (by (with_reducible repeat (first | apply J | apply L | apply M)); exact HO322.out) hb)
      have n3_ := G (B (by (with_reducible repeat (first | apply J | apply L | apply M)); exact HO325.out) hb)
      have n4_ := G (E (g := gb301) (o := .cells #[.slice A0_0 l0_0.length c0_0, .slice A0_1 l0_1.length c0_1] 33 (0, 0)) (by (with_reducible repeat (first | refine U ?_ _ | refine X ?_ | refine V ?_ _)); exact BK301.out) hb)
      have n5_ := G (E (g := gb317) (o := .cells #[.slice Ao24 t311.length co24, .slice Ao27 t314.length co27] 39 (0, 0)) (by (with_reducible repeat (first | refine U ?_ _ | refine X ?_ | refine V ?_ _)); exact BK317.out) hb)
      have n6_ := G (GJ (by repeat (first | (with_reducible first | exact HB.out | apply Z | apply T | apply Y | refine O ?_ GE301.out | refine O ?_ GE317.out) | exact HB.out)) hb)
      clear HO_318000
      clear HO_318001
      clear HO322
      clear HO325
      clear BK301
      clear BK317
      clear HB
      have HO_318000 := n0_
      have HO_318001 := n1_
      have HO322 := n2_
      have HO325 := n3_
      have BK301 := n4_
      have BK317 := n5_
      have HB := n6_
      clear n0_ n1_ n2_ n3_ n4_ n5_ n6_
      (try clear hb)
      (try clear hb2)
      (try clear hk)
      (try clear hi)
      refine hK.out _ _ ⟨(D BK317.out 0).trans rfl, (D BK317.out 1).trans rfl, (D BK301.out 0).trans rfl, (D BK301.out 1).trans rfl⟩ (fun hHeld => ?_)
      clear hK K
      refine norm_ (a' := ?_) ?_ ?_
      rotate_left
      ·show Act.put _ (some 42) _ = _
       simp only [Act.put, z1', z2', z3', i64_w, i32_w]
       rfl
      refine pure_ (i := 4) (N := some 43) (v := ?_) (a' := ?_) #[y', y', y', y', y'] rfl rfl (by kernel_rfl) (fun _ _ _ h => h) (Or.inl ⟨by rfl, ?_⟩) ?_ ?_
      rotate_left
      ·intro w'
       go_simp
       with_reducible rfl
      rotate_left
      ·simp only [Act.put, z1', z2', z3', i64_w, i32_w]
       rfl
      refine done_ (by kernel_rfl) ?_
      try go_wp2
      go_ret
      exact ⟨by first | rfl | (simp [errW_none, errW_some] <;> rfl) | (simp [*, errW_none, errW_some] <;> rfl), by repeat (first | (with_reducible first | exact HB.out | apply Z | apply T | apply Y | refine O ?_ GE301.out | refine O ?_ GE317.out) | exact HB.out)⟩

/-- THE ONE PURE STATEMENT of laws_FnExactSquareOfBar. -/
def laws_FnExactSquareOfBar.Pure : Prop := ∀ (l0_0 : List (S113)) (l0_1 : List (S115)) (a1 : Int), l0_0.length ≤ maxLen → (∀ x ∈ l0_0, ((Lit.int .i64 x.f0).wf = true) ∧ ((Lit.int .i64 x.f1).wf = true) ∧ (True)) → l0_1.length ≤ maxLen → (∀ x ∈ l0_1, ((Lit.int .i64 x.f0).wf = true) ∧ ((Lit.int .i64 x.f1).wf = true) ∧ (True)) → (Lit.int .i64 a1).wf = true → ∃ k, laws_FnExactSquareOfBar.f k l0_0 l0_1 a1 = some true

end Go.Proofs.Ytacijlpnpkhjaaa.HFr
