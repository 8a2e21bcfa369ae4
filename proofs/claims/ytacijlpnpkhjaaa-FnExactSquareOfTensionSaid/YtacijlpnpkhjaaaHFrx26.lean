-- Written by a program for this claim (the functions that the statement reaches, and that the program's code comes to them).
import Derived.Test.YtacijlpnpkhjaaaHFrx0
import Derived.Test.YtacijlpnpkhjaaaHFrx3
import Derived.Test.YtacijlpnpkhjaaaHFrx4
import Derived.Test.YtacijlpnpkhjaaaHFrx24
import Derived.Test.YtacijlpnpkhjaaaHFrx25
namespace Go.Proofs.Ytacijlpnpkhjaaa.HFr
open Go.RowKit Go.Proofs.YtacijlpnpkhjaaaW.PrintWords Go.Proofs.YtacijlpnpkhjaaaW.PrintLast Go.Proofs.YtacijlpnpkhjaaaW.PrintMore
attribute [local go_sem] max2_int min2_int max_two min_two max_three min_three max_four min_four   -- for this text's walks alone
set_option linter.unusedVariables false
set_option linter.unusedSimpArgs false

/-! ### laws_FnExactSquareOfTension: function 10 -/
def laws_FnExactSquareOfTension.j0 : Nat → Bool → List (S113) → List (S115) → List (S82) → List (S84) → Option (Bool)
 | 0, _, _, _, _, _ => none
 | k + 1, x45, x521000, x521001, x542000, x542001 => if x45 = true then (some false) else ((laws_toFrame.f k x521000 x521001).bind fun bt549 => ((laws_eqFrame.f k x542000 x542001 bt549.1 bt549.2).bind fun t555 => (if t555 = true then (some true) else (some false))))
def laws_FnExactSquareOfTension.f (k : Nat) (l0_0 : List (S113)) (l0_1 : List (S115)) (a1 : Int) (a2_0 : Int) (a2_1 : Int) : Option (Bool) := (laws_szFrame.f l0_0 l0_1 1048576).bind fun t522 => (if t522 < 0 then (some true) else ((laws_toFrame.f k l0_0 l0_1).bind fun bt523 => ((laws_toFraction.f a2_0 a2_1).bind fun bt529 => ((spec_SquareOfTension.f k bt523.1 bt523.2 a1 bt529.1 bt529.2).bind fun bt531 => ((laws_toFrame.f k l0_0 l0_1).bind fun bt535 => ((laws_toFraction.f a2_0 a2_1).bind fun bt542 => ((impl_SquareOfTension.f k bt535.1 bt535.2 a1 bt542.1 bt542.2).bind fun bt544 => ((laws_eqFraction.f bt544.1 bt544.2.1 bt531.1 bt531.2.1).bind fun t548 => (if t548 = true then (laws_FnExactSquareOfTension.j0 k (bt544.2.2 != bt531.2.2) l0_0 l0_1 bt535.1 bt535.2) else (laws_FnExactSquareOfTension.j0 k true l0_0 l0_1 bt535.1 bt535.2))))))))))
theorem laws_FnExactSquareOfTension.mono_l : ∀ k, (∀ y0 y1 y2 y3 y4, LeO (laws_FnExactSquareOfTension.j0 k y0 y1 y2 y3 y4) (laws_FnExactSquareOfTension.j0 (k + 1) y0 y1 y2 y3 y4))
 | 0 => fun _ _ _ _ _ r h => by simp [laws_FnExactSquareOfTension.j0] at h
 | k + 1 => by
  have ih0 := laws_FnExactSquareOfTension.mono_l k
  ·intro y0 y1 y2 y3 y4
   unfold laws_FnExactSquareOfTension.j0
   repeat' first
   | (with_reducible exact ih0 _ _ _ _ _)
   | (with_reducible exact impl_SquareOfTension.mono _ _ _ _ _ _)
   | (with_reducible exact laws_eqFrame.mono _ _ _ _ _)
   | (with_reducible exact laws_toFrame.mono _ _ _)
   | (with_reducible exact spec_SquareOfTension.mono _ _ _ _ _ _)
   | (with_reducible exact LeO.refl _)
   | (with_reducible exact LeO.none _)
   | (with_reducible refine LeO.ite ?_ ?_)
   | (with_reducible refine LeO.bind ?_ (fun _ => ?_))
   | exact ih0 _ _ _ _ _
   | exact impl_SquareOfTension.mono _ _ _ _ _ _
   | exact laws_eqFrame.mono _ _ _ _ _
   | exact laws_toFrame.mono _ _ _
   | exact spec_SquareOfTension.mono _ _ _ _ _ _
   | exact LeO.none _
   | refine LeO.ite ?_ ?_
   | refine LeO.bind ?_ (fun _ => ?_)
theorem laws_FnExactSquareOfTension.mono : ∀ a0 a1 a2 a3 a4 k, LeO (laws_FnExactSquareOfTension.f k a0 a1 a2 a3 a4) (laws_FnExactSquareOfTension.f (k + 1) a0 a1 a2 a3 a4) := by
 intro a0 a1 a2 a3 a4 k
 have ih0 := laws_FnExactSquareOfTension.mono_l k
 unfold laws_FnExactSquareOfTension.f
 repeat' first
   | (with_reducible exact ih0 _ _ _ _ _)
   | (with_reducible exact impl_SquareOfTension.mono _ _ _ _ _ _)
   | (with_reducible exact laws_eqFrame.mono _ _ _ _ _)
   | (with_reducible exact laws_toFrame.mono _ _ _)
   | (with_reducible exact spec_SquareOfTension.mono _ _ _ _ _ _)
   | (with_reducible exact LeO.refl _)
   | (with_reducible exact LeO.none _)
   | (with_reducible refine LeO.ite ?_ ?_)
   | (with_reducible refine LeO.bind ?_ (fun _ => ?_))
   | exact ih0 _ _ _ _ _
   | exact impl_SquareOfTension.mono _ _ _ _ _ _
   | exact laws_eqFrame.mono _ _ _ _ _
   | exact laws_toFrame.mono _ _ _
   | exact spec_SquareOfTension.mono _ _ _ _ _ _
   | exact LeO.none _
   | refine LeO.ite ?_ ?_
   | refine LeO.bind ?_ (fun _ => ?_)
def laws_FnExactSquareOfTension.T5 : Bool × List (List Nat × List Nat) := (true, [([], []), ([0], [0]), ([], []), ([], []), ([3, 1], [3]), ([1, 2, 4, 4], [1, 2, 4]), ([5], [5]), ([6], [6]), ([6], [6]), ([], []), ([9, 7, 5, 0, 1, 2, 3, 4, 5, 6, 7, 9], [7, 9]), ([8, 10, 0, 1, 2, 3, 4, 5, 6, 7, 8, 9, 10], [8])])
def laws_FnExactSquareOfTension.B5 : List Nat := [0, 1, 0, 0, 11, 31, 63, 127, 127, 0, 767, 2047]
theorem laws_FnExactSquareOfTension.tab5 : rtab .any (opsOf Try.f10 5) = laws_FnExactSquareOfTension.T5 := by kernel_rfl
theorem laws_FnExactSquareOfTension.bits5 : waitsOk laws_FnExactSquareOfTension.T5.2 laws_FnExactSquareOfTension.B5 = true := by kernel_rfl
def laws_FnExactSquareOfTension.T7 : Bool × List (List Nat × List Nat) := (true, [([], []), ([], []), ([], []), ([2], [2]), ([0, 1, 3, 3], [0, 1, 3]), ([4], [4]), ([5], [5]), ([5], [5]), ([], []), ([8, 6, 4, 0, 1, 2, 3, 4, 5, 6, 8], [6, 8]), ([7, 9, 0, 1, 2, 3, 4, 5, 6, 7, 8, 9], [7])])
def laws_FnExactSquareOfTension.B7 : List Nat := [0, 0, 0, 4, 15, 31, 63, 63, 0, 383, 1023]
theorem laws_FnExactSquareOfTension.tab7 : rtab .any (opsOf Try.f10 7) = laws_FnExactSquareOfTension.T7 := by kernel_rfl
theorem laws_FnExactSquareOfTension.bits7 : waitsOk laws_FnExactSquareOfTension.T7.2 laws_FnExactSquareOfTension.B7 = true := by kernel_rfl
@[reducible] def laws_FnExactSquareOfTension.y' : Bool := true
@[reducible] def laws_FnExactSquareOfTension.n' : Bool := false
theorem laws_FnExactSquareOfTension.z1' {α : Type} (l : List α) (i : Nat) (a : α) : l.toArray.setIfInBounds i a = (l.set i a).toArray := List.setIfInBounds_toArray ..
theorem laws_FnExactSquareOfTension.z2' {α : Type} (a b : α) (l : List α) : (a :: l).set 0 b = b :: l := rfl
theorem laws_FnExactSquareOfTension.z3' {α : Type} (a b : α) (l : List α) (n : Nat) : (a :: l).set (n + 1) b = a :: l.set n b := rfl
theorem laws_FnExactSquareOfTension.G : type_of% @Aside0.mk := @Aside0.mk
theorem laws_FnExactSquareOfTension.J : type_of% @Kd.R_alloc := @Kd.R_alloc
theorem laws_FnExactSquareOfTension.L : type_of% @Kd.R_drewN := @Kd.R_drewN
theorem laws_FnExactSquareOfTension.M : type_of% @Kd.R_drew := @Kd.R_drew
theorem laws_FnExactSquareOfTension.O : type_of% @below_set := @below_set
theorem laws_FnExactSquareOfTension.T : type_of% @pw_below_drewN := @pw_below_drewN
theorem laws_FnExactSquareOfTension.U : type_of% @blk_drewN := @blk_drewN
theorem laws_FnExactSquareOfTension.V : type_of% @blk_alloc := @blk_alloc
theorem laws_FnExactSquareOfTension.X : type_of% @blk_drew := @blk_drew
theorem laws_FnExactSquareOfTension.Y : type_of% @below_drew1 := @below_drew1
theorem laws_FnExactSquareOfTension.Z : type_of% @below_alloc := @below_alloc
theorem laws_FnExactSquareOfTension.B : type_of% @Kd.R_below := @Kd.R_below
theorem laws_FnExactSquareOfTension.D : type_of% @Kd.R_far := @Kd.R_far
theorem laws_FnExactSquareOfTension.E : type_of% @blk_cell := @blk_cell
theorem laws_FnExactSquareOfTension.F : type_of% @blk_below := @blk_below
theorem laws_FnExactSquareOfTension.I : type_of% @Kd.R_types := @Kd.R_types
theorem laws_FnExactSquareOfTension.P : type_of% @Kd.R_mono := @Kd.R_mono
theorem laws_FnExactSquareOfTension.GG : type_of% @Kd.C_alloc := @Kd.C_alloc
theorem laws_FnExactSquareOfTension.GJ : type_of% @Kd.C_drewN := @Kd.C_drewN
theorem laws_FnExactSquareOfTension.GL : type_of% @Kd.C_drew := @Kd.C_drew
theorem laws_FnExactSquareOfTension.GM : type_of% @below_size := @below_size
theorem laws_FnExactSquareOfTension.GN : type_of% @below_step := @below_step
theorem laws_FnExactSquareOfTension.GO : type_of% @Kd.C_below := @Kd.C_below
theorem laws_FnExactSquareOfTension.GT : type_of% @blk_frozen := @blk_frozen
set_option maxHeartbeats 8000000 in
set_option maxRecDepth 100000 in
theorem laws_FnExactSquareOfTension.calls (k : Nat) (A0_0 : Option Addr) (c0_0 : Nat) (l0_0 : List (S113)) (A0_1 : Option Addr) (c0_1 : Nat) (l0_1 : List (S115)) (a1 : Int) (a2_0 : Int) (a2_1 : Int) (r : Bool) (w : World) (hr0_0 : Kd.C k113 w A0_0 l0_0.length l0_0) (hc0_0 : l0_0.length ≤ c0_0) (hr0_1 : Kd.C k115 w A0_1 l0_1.length l0_1) (hc0_1 : l0_1.length ≤ c0_1) (h : laws_FnExactSquareOfTension.f k l0_0 l0_1 a1 a2_0 a2_1 = some r) :
  Calls Try.prog 10 #[.agg #[.slice A0_0 l0_0.length c0_0, .slice A0_1 l0_1.length c0_1], .int .i64 a1, .agg #[.int .i64 a2_0, .int .i64 a2_1]] w fun e w' => e = .returned (.bool r) ∧ Below w.heap.size w w' := by
 have hu33 := Try.underlying33
 have hu62 := Try.underlying62
 have hu63 := Try.underlying63
 have hu39 := Try.underlying39
 have HR0_0 := G hr0_0
 have HC0_0 := G hc0_0
 clear hr0_0 hc0_0
 have HR0_1 := G hr0_1
 have HC0_1 := G hc0_1
 clear hr0_1 hc0_1
 have HB := G (Below.refl w.heap.size w)
 have H : ((laws_szFrame.f l0_0 l0_1 1048576).bind fun t522 => (if t522 < 0 then (some true) else ((laws_toFrame.f k l0_0 l0_1).bind fun bt523 => ((laws_toFraction.f a2_0 a2_1).bind fun bt529 => ((spec_SquareOfTension.f k bt523.1 bt523.2 a1 bt529.1 bt529.2).bind fun bt531 => ((laws_toFrame.f k l0_0 l0_1).bind fun bt535 => ((laws_toFraction.f a2_0 a2_1).bind fun bt542 => ((impl_SquareOfTension.f k bt535.1 bt535.2 a1 bt542.1 bt542.2).bind fun bt544 => ((laws_eqFraction.f bt544.1 bt544.2.1 bt531.1 bt531.2.1).bind fun t548 => (if t548 = true then (laws_FnExactSquareOfTension.j0 k (bt544.2.2 != bt531.2.2) l0_0 l0_1 bt535.1 bt535.2) else (laws_FnExactSquareOfTension.j0 k true l0_0 l0_1 bt535.1 bt535.2))))))))))) = some r := h
 clear h
 replace H := Option.bind_eq_some_iff.mp H
 obtain ⟨t522, A40, H⟩ := H
 replace H : (if t522 < 0 then (some true) else ((laws_toFrame.f k l0_0 l0_1).bind fun bt523 => ((laws_toFraction.f a2_0 a2_1).bind fun bt529 => ((spec_SquareOfTension.f k bt523.1 bt523.2 a1 bt529.1 bt529.2).bind fun bt531 => ((laws_toFrame.f k l0_0 l0_1).bind fun bt535 => ((laws_toFraction.f a2_0 a2_1).bind fun bt542 => ((impl_SquareOfTension.f k bt535.1 bt535.2 a1 bt542.1 bt542.2).bind fun bt544 => ((laws_eqFraction.f bt544.1 bt544.2.1 bt531.1 bt531.2.1).bind fun t548 => (if t548 = true then (laws_FnExactSquareOfTension.j0 k (bt544.2.2 != bt531.2.2) l0_0 l0_1 bt535.1 bt535.2) else (laws_FnExactSquareOfTension.j0 k true l0_0 l0_1 bt535.1 bt535.2)))))))))) = some r := H
 have A4 := G A40
 clear A40
 by_cases c5 : t522 < 0
 ·rw [if_pos c5] at H
  have c5b0 : decide (t522 < 0) = true := decide_eq_true c5
  clear c5
  obtain rfl := Option.some.inj H
  go_enter Try.func10, Try.ntmps10
  go_wp2_with (first | ((with_reducible refine gate_dst (N := 3) rfl ?_); refine box_event ?hg (N := 3) ?hd (cs := #[.slice A0_0 l0_0.length c0_0, .slice A0_1 l0_1.length c0_1]) (t := 33) ?hr ?_; (case hd => rfl); (case hg => rfl); (case hr => first | (go_simp; done) | (go_simp; rfl)); intro gb520 hg w6 hbox hb; have n0_ := G (GN (by repeat (first | (with_reducible first | exact HB.out | apply Z | apply T | apply Y) | exact HB.out)) hb); have n1_ := G (hbox); have n2_ := G ((by rw [hg]; exact (GM (by repeat (first | (with_reducible first | exact HB.out | apply Z | apply T | apply Y) | exact HB.out))) : w.heap.size ≤ gb520)); have n3_ := G ((by rw [hg]; exact (GM (by repeat (first | (with_reducible first | exact HB.out | apply Z | apply T | apply Y) | exact HB.out))) : w.heap.size ≤ gb520)); clear HB; have HB := n0_; have BK520 := n1_; have GW520 := n2_; have GE520 := n3_; clear n0_ n1_ n2_ n3_; clear hb hbox hg) | ((with_reducible refine gate_dst (N := 5) rfl ?_); refine box_event ?hg (N := 5) ?hd (cs := #[.int .i64 a2_0, .int .i64 a2_1]) (t := 62) ?hr ?_; (case hd => rfl); (case hg => rfl); (case hr => first | (go_simp; done) | (go_simp; rfl)); intro gb521 hg w7 hbox hb; have n0_ := G (F (g := gb520) (o := .cells #[.slice A0_0 l0_0.length c0_0, .slice A0_1 l0_1.length c0_1] 33 (0, 0)) (by (with_reducible repeat (first | refine U ?_ _ | refine X ?_ | refine V ?_ _)); exact BK520.out) hb); have n1_ := G (GN (by repeat (first | (with_reducible first | exact HB.out | apply Z | apply T | apply Y | refine O ?_ GE520.out) | exact HB.out)) hb); have n2_ := G (hbox); have n3_ := G ((by rw [hg]; exact (GM (by repeat (first | (with_reducible first | exact HB.out | apply Z | apply T | apply Y | refine O ?_ GE520.out) | exact HB.out))) : w.heap.size ≤ gb521)); have n4_ := G ((by rw [hg]; exact (GM (by repeat (first | (with_reducible first | exact HB.out | apply Z | apply T | apply Y | refine O ?_ GE520.out) | exact HB.out))) : w.heap.size ≤ gb521)); have n5_ := G ((by rw [hg]; exact Nat.ne_of_lt (blk_lt (g := gb520) (o := .cells #[.slice A0_0 l0_0.length c0_0, .slice A0_1 l0_1.length c0_1] 33 (0, 0)) (by (with_reducible repeat (first | refine U ?_ _ | refine X ?_ | refine V ?_ _)); exact BK520.out)) : gb520 ≠ gb521)); have n6_ := G ((by rw [hg]; exact Nat.ne_of_gt (blk_lt (g := gb520) (o := .cells #[.slice A0_0 l0_0.length c0_0, .slice A0_1 l0_1.length c0_1] 33 (0, 0)) (by (with_reducible repeat (first | refine U ?_ _ | refine X ?_ | refine V ?_ _)); exact BK520.out)) : gb521 ≠ gb520)); clear BK520; clear HB; have BK520 := n0_; have HB := n1_; have BK521 := n2_; have GW521 := n3_; have GE521 := n4_; have NB520_521 := n5_; have NB521_520 := n6_; clear n0_ n1_ n2_ n3_ n4_ n5_ n6_; clear hb hbox hg; have hnb8 := NB520_521.out; have hnc8 := NB521_520.out; have hcz9_0 : w7.cell? ⟨gb520, 0, none⟩ = some (.slice A0_0 l0_0.length c0_0) := (E BK520.out 0).trans rfl; have hcz9_1 : w7.cell? ⟨gb520, 1, none⟩ = some (.slice A0_1 l0_1.length c0_1) := (E BK520.out 1).trans rfl; have hfz9_0 := GT BK520.out 0; have hfz9_1 := GT BK520.out 1) | ((with_reducible refine gate_callee (f := 19) rfl ?_); refine goesL_ (some 15) rfl rfl Try.func19 (by kernel_rfl) rfl #[.agg #[.slice A0_0 l0_0.length c0_0, .slice A0_1 l0_1.length c0_1], .int .i64 1048576] rfl (by (try simp only [List.map_toArray, List.map_cons, List.map_nil]); first | done | rfl | (simp only [List.length_drop, List.length_take]; rfl)) ?_; (with_reducible refine (laws_szFrame.calls _ _ l0_0 _ _ l0_1 1048576 t522 _ ?side1 ?side2 ?side3 ?side4 A4.out).mono ?_); (case side1 => repeat (first | exact (GO HR0_0.out HB.out) | (with_reducible refine GG ?_ _) | (with_reducible refine GJ ?_ _) | (with_reducible refine GL ?_))); (case side2 => exact HC0_0.out); (case side3 => repeat (first | exact (GO HR0_1.out HB.out) | (with_reducible refine GG ?_ _) | (with_reducible refine GJ ?_ _) | (with_reducible refine GL ?_))); (case side4 => exact HC0_1.out); rintro e w10 ⟨rfl, hb⟩; refine ⟨_, rfl, ?_⟩; have n0_ := G (F (g := gb520) (o := .cells #[.slice A0_0 l0_0.length c0_0, .slice A0_1 l0_1.length c0_1] 33 (0, 0)) (by (with_reducible repeat (first | refine U ?_ _ | refine X ?_ | refine V ?_ _)); exact BK520.out) hb); have n1_ := G (F (g := gb521) (o := .cells #[.int .i64 a2_0, .int .i64 a2_1] 62 (0, 0)) (by (with_reducible repeat (first | refine U ?_ _ | refine X ?_ | refine V ?_ _)); exact BK521.out) hb); have n2_ := G (GN (by repeat (first | (with_reducible first | exact HB.out | apply Z | apply T | apply Y | refine O ?_ GE520.out | refine O ?_ GE521.out) | exact HB.out)) hb); clear BK520; clear BK521; clear HB; have BK520 := n0_; have BK521 := n1_; have HB := n2_; clear n0_ n1_ n2_; (try clear hb); (try clear hb2); (try clear hk); (try clear hi)))
  go_ret
  exact ⟨by first | rfl | (simp [errW_none, errW_some] <;> rfl) | (simp [*, errW_none, errW_some] <;> rfl), by repeat (first | (with_reducible first | exact HB.out | apply Z | apply T | apply Y | refine O ?_ GE520.out | refine O ?_ GE521.out) | exact HB.out)⟩
 ·rw [if_neg c5] at H
  have c5b0 : decide (t522 < 0) = false := decide_eq_false c5
  clear c5
  replace H := Option.bind_eq_some_iff.mp H
  obtain ⟨⟨t523, t526⟩, A110, H⟩ := H
  replace H : ((laws_toFraction.f a2_0 a2_1).bind fun bt529 => ((spec_SquareOfTension.f k t523 t526 a1 bt529.1 bt529.2).bind fun bt531 => ((laws_toFrame.f k l0_0 l0_1).bind fun bt535 => ((laws_toFraction.f a2_0 a2_1).bind fun bt542 => ((impl_SquareOfTension.f k bt535.1 bt535.2 a1 bt542.1 bt542.2).bind fun bt544 => ((laws_eqFraction.f bt544.1 bt544.2.1 bt531.1 bt531.2.1).bind fun t548 => (if t548 = true then (laws_FnExactSquareOfTension.j0 k (bt544.2.2 != bt531.2.2) l0_0 l0_1 bt535.1 bt535.2) else (laws_FnExactSquareOfTension.j0 k true l0_0 l0_1 bt535.1 bt535.2)))))))) = some r := H
  have A11 := G A110
  clear A110
  replace H := Option.bind_eq_some_iff.mp H
  obtain ⟨⟨t529, t530⟩, A120, H⟩ := H
  replace H : ((spec_SquareOfTension.f k t523 t526 a1 t529 t530).bind fun bt531 => ((laws_toFrame.f k l0_0 l0_1).bind fun bt535 => ((laws_toFraction.f a2_0 a2_1).bind fun bt542 => ((impl_SquareOfTension.f k bt535.1 bt535.2 a1 bt542.1 bt542.2).bind fun bt544 => ((laws_eqFraction.f bt544.1 bt544.2.1 bt531.1 bt531.2.1).bind fun t548 => (if t548 = true then (laws_FnExactSquareOfTension.j0 k (bt544.2.2 != bt531.2.2) l0_0 l0_1 bt535.1 bt535.2) else (laws_FnExactSquareOfTension.j0 k true l0_0 l0_1 bt535.1 bt535.2))))))) = some r := H
  have A12 := G A120
  clear A120
  replace H := Option.bind_eq_some_iff.mp H
  obtain ⟨⟨t531, t532, t533⟩, A130, H⟩ := H
  replace H : ((laws_toFrame.f k l0_0 l0_1).bind fun bt535 => ((laws_toFraction.f a2_0 a2_1).bind fun bt542 => ((impl_SquareOfTension.f k bt535.1 bt535.2 a1 bt542.1 bt542.2).bind fun bt544 => ((laws_eqFraction.f bt544.1 bt544.2.1 t531 t532).bind fun t548 => (if t548 = true then (laws_FnExactSquareOfTension.j0 k (bt544.2.2 != t533) l0_0 l0_1 bt535.1 bt535.2) else (laws_FnExactSquareOfTension.j0 k true l0_0 l0_1 bt535.1 bt535.2)))))) = some r := H
  have A13 := G A130
  clear A130
  replace H := Option.bind_eq_some_iff.mp H
  obtain ⟨⟨t535, t538⟩, A140, H⟩ := H
  replace H : ((laws_toFraction.f a2_0 a2_1).bind fun bt542 => ((impl_SquareOfTension.f k t535 t538 a1 bt542.1 bt542.2).bind fun bt544 => ((laws_eqFraction.f bt544.1 bt544.2.1 t531 t532).bind fun t548 => (if t548 = true then (laws_FnExactSquareOfTension.j0 k (bt544.2.2 != t533) l0_0 l0_1 t535 t538) else (laws_FnExactSquareOfTension.j0 k true l0_0 l0_1 t535 t538))))) = some r := H
  have A14 := G A140
  clear A140
  replace H := Option.bind_eq_some_iff.mp H
  obtain ⟨⟨t542, t543⟩, A150, H⟩ := H
  replace H : ((impl_SquareOfTension.f k t535 t538 a1 t542 t543).bind fun bt544 => ((laws_eqFraction.f bt544.1 bt544.2.1 t531 t532).bind fun t548 => (if t548 = true then (laws_FnExactSquareOfTension.j0 k (bt544.2.2 != t533) l0_0 l0_1 t535 t538) else (laws_FnExactSquareOfTension.j0 k true l0_0 l0_1 t535 t538)))) = some r := H
  have A15 := G A150
  clear A150
  replace H := Option.bind_eq_some_iff.mp H
  obtain ⟨⟨t544, t545, t546⟩, A160, H⟩ := H
  replace H : ((laws_eqFraction.f t544 t545 t531 t532).bind fun t548 => (if t548 = true then (laws_FnExactSquareOfTension.j0 k (t546 != t533) l0_0 l0_1 t535 t538) else (laws_FnExactSquareOfTension.j0 k true l0_0 l0_1 t535 t538))) = some r := H
  have A16 := G A160
  clear A160
  have HC17 := G H
  clear H
  go_enter Try.func10, Try.ntmps10
  try go_wp2_with (first | ((with_reducible refine gate_dst (N := 3) rfl ?_); refine box_event ?hg (N := 3) ?hd (cs := #[.slice A0_0 l0_0.length c0_0, .slice A0_1 l0_1.length c0_1]) (t := 33) ?hr ?_; (case hd => rfl); (case hg => rfl); (case hr => first | (go_simp; done) | (go_simp; rfl)); intro gb520 hg w18 hbox hb; have n0_ := G (GN (by repeat (first | (with_reducible first | exact HB.out | apply Z | apply T | apply Y) | exact HB.out)) hb); have n1_ := G (hbox); have n2_ := G ((by rw [hg]; exact (GM (by repeat (first | (with_reducible first | exact HB.out | apply Z | apply T | apply Y) | exact HB.out))) : w.heap.size ≤ gb520)); have n3_ := G ((by rw [hg]; exact (GM (by repeat (first | (with_reducible first | exact HB.out | apply Z | apply T | apply Y) | exact HB.out))) : w.heap.size ≤ gb520)); clear HB; have HB := n0_; have BK520 := n1_; have GW520 := n2_; have GE520 := n3_; clear n0_ n1_ n2_ n3_; clear hb hbox hg) | ((with_reducible refine gate_dst (N := 5) rfl ?_); refine box_event ?hg (N := 5) ?hd (cs := #[.int .i64 a2_0, .int .i64 a2_1]) (t := 62) ?hr ?_; (case hd => rfl); (case hg => rfl); (case hr => first | (go_simp; done) | (go_simp; rfl)); intro gb521 hg w19 hbox hb; have n0_ := G (F (g := gb520) (o := .cells #[.slice A0_0 l0_0.length c0_0, .slice A0_1 l0_1.length c0_1] 33 (0, 0)) (by (with_reducible repeat (first | refine U ?_ _ | refine X ?_ | refine V ?_ _)); exact BK520.out) hb); have n1_ := G (GN (by repeat (first | (with_reducible first | exact HB.out | apply Z | apply T | apply Y | refine O ?_ GE520.out) | exact HB.out)) hb); have n2_ := G (hbox); have n3_ := G ((by rw [hg]; exact (GM (by repeat (first | (with_reducible first | exact HB.out | apply Z | apply T | apply Y | refine O ?_ GE520.out) | exact HB.out))) : w.heap.size ≤ gb521)); have n4_ := G ((by rw [hg]; exact (GM (by repeat (first | (with_reducible first | exact HB.out | apply Z | apply T | apply Y | refine O ?_ GE520.out) | exact HB.out))) : w.heap.size ≤ gb521)); have n5_ := G ((by rw [hg]; exact Nat.ne_of_lt (blk_lt (g := gb520) (o := .cells #[.slice A0_0 l0_0.length c0_0, .slice A0_1 l0_1.length c0_1] 33 (0, 0)) (by (with_reducible repeat (first | refine U ?_ _ | refine X ?_ | refine V ?_ _)); exact BK520.out)) : gb520 ≠ gb521)); have n6_ := G ((by rw [hg]; exact Nat.ne_of_gt (blk_lt (g := gb520) (o := .cells #[.slice A0_0 l0_0.length c0_0, .slice A0_1 l0_1.length c0_1] 33 (0, 0)) (by (with_reducible repeat (first | refine U ?_ _ | refine X ?_ | refine V ?_ _)); exact BK520.out)) : gb521 ≠ gb520)); clear BK520; clear HB; have BK520 := n0_; have HB := n1_; have BK521 := n2_; have GW521 := n3_; have GE521 := n4_; have NB520_521 := n5_; have NB521_520 := n6_; clear n0_ n1_ n2_ n3_ n4_ n5_ n6_; clear hb hbox hg; have hnb20 := NB520_521.out; have hnc20 := NB521_520.out; have hcz21_0 : w19.cell? ⟨gb520, 0, none⟩ = some (.slice A0_0 l0_0.length c0_0) := (E BK520.out 0).trans rfl; have hcz21_1 : w19.cell? ⟨gb520, 1, none⟩ = some (.slice A0_1 l0_1.length c0_1) := (E BK520.out 1).trans rfl; have hfz21_0 := GT BK520.out 0; have hfz21_1 := GT BK520.out 1) | ((with_reducible refine gate_callee (f := 19) rfl ?_); refine goesL_ (some 15) rfl rfl Try.func19 (by kernel_rfl) rfl #[.agg #[.slice A0_0 l0_0.length c0_0, .slice A0_1 l0_1.length c0_1], .int .i64 1048576] rfl (by (try simp only [List.map_toArray, List.map_cons, List.map_nil]); first | done | rfl | (simp only [List.length_drop, List.length_take]; rfl)) ?_; (with_reducible refine (laws_szFrame.calls _ _ l0_0 _ _ l0_1 1048576 t522 _ ?side1 ?side2 ?side3 ?side4 A4.out).mono ?_); (case side1 => repeat (first | exact (GO HR0_0.out HB.out) | (with_reducible refine GG ?_ _) | (with_reducible refine GJ ?_ _) | (with_reducible refine GL ?_))); (case side2 => exact HC0_0.out); (case side3 => repeat (first | exact (GO HR0_1.out HB.out) | (with_reducible refine GG ?_ _) | (with_reducible refine GJ ?_ _) | (with_reducible refine GL ?_))); (case side4 => exact HC0_1.out); rintro e w22 ⟨rfl, hb⟩; refine ⟨_, rfl, ?_⟩; have n0_ := G (F (g := gb520) (o := .cells #[.slice A0_0 l0_0.length c0_0, .slice A0_1 l0_1.length c0_1] 33 (0, 0)) (by (with_reducible repeat (first | refine U ?_ _ | refine X ?_ | refine V ?_ _)); exact BK520.out) hb); have n1_ := G (F (g := gb521) (o := .cells #[.int .i64 a2_0, .int .i64 a2_1] 62 (0, 0)) (by (with_reducible repeat (first | refine U ?_ _ | refine X ?_ | refine V ?_ _)); exact BK521.out) hb); have n2_ := G (GN (by repeat (first | (with_reducible first | exact HB.out | apply Z | apply T | apply Y | refine O ?_ GE520.out | refine O ?_ GE521.out) | exact HB.out)) hb); clear BK520; clear BK521; clear HB; have BK520 := n0_; have BK521 := n1_; have HB := n2_; clear n0_ n1_ n2_; (try clear hb); (try clear hb2); (try clear hk); (try clear hi)))
  have n0_ := G (X BK520.out)
  have n1_ := G (X BK521.out)
  have n2_ := G (Y HB.out)
  clear BK520
  clear BK521
  clear HB
  have BK520 := n0_
  have BK521 := n1_
  have HB := n2_
  clear n0_ n1_ n2_
  refine start_ (n := 12) (S := fun w' => w'.cell? ⟨gb520, 0, none⟩ = some (.slice A0_0 l0_0.length c0_0) ∧ w'.cell? ⟨gb520, 1, none⟩ = some (.slice A0_1 l0_1.length c0_1) ∧ w'.cell? ⟨gb521, 0, none⟩ = some (.int .i64 a2_0) ∧ w'.cell? ⟨gb521, 1, none⟩ = some (.int .i64 a2_1)) (ds := []) #[n', n', n', n', n', n', n', n', n', n', n', n'] (by kernel_rfl) rfl rfl ⟨(E BK520.out 0).trans rfl, (E BK520.out 1).trans rfl, (E BK521.out 0).trans rfl, (E BK521.out 1).trans rfl⟩ (fun hHeld => ?_); refine with_tabW laws_FnExactSquareOfTension.tab5 laws_FnExactSquareOfTension.bits5 (fun HT_ HW_ => ?_)
  generalize w22.drew = w23 at BK520 BK521 HB hHeld ⊢
  refine pure_ (i := 2) (N := some 21) (v := ?_) (a' := ?_) #[n', n', y', n', n', n', n', n', n', n', n', n'] rfl rfl (any_of HT_.out (by kernel_rfl)) (fun _ _ _ h => h) (Or.inl ⟨by rfl, ?_⟩) ?_ ?_
  rotate_left
  ·intro w'
   go_simp
   with_reducible rfl
  rotate_left
  ·simp only [Act.put, z1', z2', z3', i64_w, i32_w]
   rfl
  refine take_ (i := 0) (N := some 19) (v := ?_) (a' := ?_) #[y', n', y', n', n', n', n', n', n', n', n', n'] rfl rfl (take_ofW HT_.out HW_.out (by kernel_rfl)) (fun _ _ _ h => h) (Or.inl ⟨by rfl, ?_⟩) hHeld ?_ ?_
  rotate_left
  ·rintro w' ⟨s0, s1, s2, s3⟩
   go_simp
   with_reducible rfl
  rotate_left
  ·simp only [Act.put, z1', z2', z3', i64_w, i32_w]
   rfl
  refine take_ (i := 3) (N := some 22) (v := ?_) (a' := ?_) #[y', n', y', y', n', n', n', n', n', n', n', n'] rfl rfl (take_ofW HT_.out HW_.out (by kernel_rfl)) (fun _ _ _ h => h) (Or.inl ⟨by rfl, ?_⟩) hHeld ?_ ?_
  rotate_left
  ·rintro w' ⟨s0, s1, s2, s3⟩
   go_simp
   with_reducible rfl
  rotate_left
  ·simp only [Act.put, z1', z2', z3', i64_w, i32_w]
   rfl
  refine join_ (σ := Value × Value × Nat) 2 #[y', y', y', y', y', y', y', y', y', y', n', n'] (fun s_ => [(20, .agg #[s_.1, s_.2.1]), (23, .agg #[.int .i64 t529, .int .i64 t530]), (24, .tuple #[.agg #[.int .i64 t531, .int .i64 t532], .int .i64 t533]), (8, .pointer (some ⟨s_.2.2, 0, none⟩)), (18, .tuple #[.agg #[.int .i64 t531, .int .i64 t532], .int .i64 t533]), (25, .agg #[.int .i64 t531, .int .i64 t532]), (26, .int .i64 t533)]) (fun s_ w' => (w'.cell? ⟨gb520, 0, none⟩ = some (.slice A0_0 l0_0.length c0_0) ∧ w'.cell? ⟨gb520, 1, none⟩ = some (.slice A0_1 l0_1.length c0_1) ∧ w'.cell? ⟨gb521, 0, none⟩ = some (.int .i64 a2_0) ∧ w'.cell? ⟨gb521, 1, none⟩ = some (.int .i64 a2_1)) ∧ (Kd.R k82 82 w' w.heap.size (fun _ => True) s_.1 t523) ∧ (Kd.R k84 84 w' w.heap.size (fun _ => True) s_.2.1 t526) ∧ (w'.heap[gb520]? = some (.cells #[.slice A0_0 l0_0.length c0_0, .slice A0_1 l0_1.length c0_1] 33 (0, 0))) ∧ (w'.heap[gb521]? = some (.cells #[.int .i64 a2_0, .int .i64 a2_1] 62 (0, 0))) ∧ (w'.heap[s_.2.2]? = some (.cells #[.int .i64 0, .int .i64 0] 63 (0, 0))) ∧ (w.heap.size ≤ s_.2.2) ∧ (w.heap.size ≤ s_.2.2) ∧ (gb520 ≠ s_.2.2) ∧ (s_.2.2 ≠ gb520) ∧ (gb521 ≠ s_.2.2) ∧ (s_.2.2 ≠ gb521) ∧ (Below w.heap.size w w')) ?_ ?_
  rotate_left
  ·intro hCont
   refine two_ (i := 1) (j := 9) (Ni := some 20) (Nj := some 8) #[y', y', y', y', n', n', n', n', n', n', n', n'] #[y', n', y', y', n', n', n', n', n', y', n', n'] rfl rfl rfl rfl (two_of HT_.out (by kernel_rfl)) (by decide) (by decide) (fun K hK => ?_) (fun K hK => ?_)
   ·skip
    refine goes_ Try.func21 (by kernel_rfl) rfl #[.agg #[.slice A0_0 l0_0.length c0_0, .slice A0_1 l0_1.length c0_1]] (by rfl) rfl rfl (by (try simp only [List.map_toArray, List.map_cons, List.map_nil]); first | done | rfl | (simp only [List.length_drop, List.length_take]; rfl)) ?_
    with_reducible refine (laws_toFrame.calls k _ _ l0_0 _ _ l0_1 t523 t526 _ ?side1 ?side2 ?side3 ?side4 A11.out).mono ?_
    (case side1 => repeat (first | exact (GO HR0_0.out HB.out) | (with_reducible refine GG ?_ _) | (with_reducible refine GJ ?_ _) | (with_reducible refine GL ?_)))
    (case side2 => exact HC0_0.out)
    (case side3 => repeat (first | exact (GO HR0_1.out HB.out) | (with_reducible refine GG ?_ _) | (with_reducible refine GJ ?_ _) | (with_reducible refine GL ?_)))
    (case side4 => exact HC0_1.out)
    rintro e w24 ⟨v524, v527, rfl, ho0, ho1, hb⟩
    refine ⟨_, rfl, ?_⟩
    have n0_ := G (Kd.R_lower ho0 (GM (by repeat (first | (with_reducible first | exact HB.out | apply Z | apply T | apply Y | refine O ?_ GE520.out | refine O ?_ GE521.out) | exact HB.out))))
    have n1_ := G (Kd.R_lower ho1 (GM (by repeat (first | (with_reducible first | exact HB.out | apply Z | apply T | apply Y | refine O ?_ GE520.out | refine O ?_ GE521.out) | exact HB.out))))
    have n2_ := G (F (g := gb520) (o := .cells #[.slice A0_0 l0_0.length c0_0, .slice A0_1 l0_1.length c0_1] 33 (0, 0)) (by (with_reducible repeat (first | refine U ?_ _ | refine X ?_ | refine V ?_ _)); exact BK520.out) hb)
    have n3_ := G (F (g := gb521) (o := .cells #[.int .i64 a2_0, .int .i64 a2_1] 62 (0, 0)) (by (with_reducible repeat (first | refine U ?_ _ | refine X ?_ | refine V ?_ _)); exact BK521.out) hb)
    have n4_ := G (GN (by repeat (first | (with_reducible first | exact HB.out | apply Z | apply T | apply Y | refine O ?_ GE520.out | refine O ?_ GE521.out) | exact HB.out)) hb)
    clear BK520
    clear BK521
    clear HB
    have HO525 := n0_
    have HO528 := n1_
    have BK520 := n2_
    have BK521 := n3_
    have HB := n4_
    clear n0_ n1_ n2_ n3_ n4_
    (try clear hb)
    (try clear hb2)
    (try clear hk)
    (try clear hi)
    (try clear ho0)
    (try clear ho1)
    refine hK.out _ _ ⟨(E BK520.out 0).trans rfl, (E BK520.out 1).trans rfl, (E BK521.out 0).trans rfl, (E BK521.out 1).trans rfl⟩ (fun hHeld => ?_)
    clear hK K
    refine norm_ (a' := ?_) ?_ ?_
    rotate_left
    ·show Act.put _ (some 20) _ = _
     simp only [Act.put, z1', z2', z3', i64_w, i32_w]
     rfl
    refine two_ (i := 4) (j := 9) (Ni := some 23) (Nj := some 8) #[y', y', y', y', y', n', n', n', n', n', n', n'] #[y', y', y', y', n', n', n', n', n', y', n', n'] rfl rfl rfl rfl (two_of HT_.out (by kernel_rfl)) (by decide) (by decide) (fun K hK => ?_) (fun K hK => ?_)
    ·skip
     refine goes_ Try.func42 (by kernel_rfl) rfl #[.agg #[.int .i64 a2_0, .int .i64 a2_1]] (by rfl) rfl rfl (by (try simp only [List.map_toArray, List.map_cons, List.map_nil]); first | done | rfl | (simp only [List.length_drop, List.length_take]; rfl)) ?_
     with_reducible refine (laws_toFraction.calls a2_0 a2_1 t529 t530 _ A12.out).mono ?_
     rintro e w25 ⟨rfl, hb⟩
     refine ⟨_, rfl, ?_⟩
     have n0_ := G (B (by (with_reducible repeat (first | apply J | apply L | apply M)); exact HO525.out) hb)
     have n1_ := G (B (by (with_reducible repeat (first | apply J | apply L | apply M)); exact HO528.out) hb)
     have n2_ := G (F (g := gb520) (o := .cells #[.slice A0_0 l0_0.length c0_0, .slice A0_1 l0_1.length c0_1] 33 (0, 0)) (by (with_reducible repeat (first | refine U ?_ _ | refine X ?_ | refine V ?_ _)); exact BK520.out) hb)
     have n3_ := G (F (g := gb521) (o := .cells #[.int .i64 a2_0, .int .i64 a2_1] 62 (0, 0)) (by (with_reducible repeat (first | refine U ?_ _ | refine X ?_ | refine V ?_ _)); exact BK521.out) hb)
     have n4_ := G (GN (by repeat (first | (with_reducible first | exact HB.out | apply Z | apply T | apply Y | refine O ?_ GE520.out | refine O ?_ GE521.out) | exact HB.out)) hb)
     clear HO525
     clear HO528
     clear BK520
     clear BK521
     clear HB
     have HO525 := n0_
     have HO528 := n1_
     have BK520 := n2_
     have BK521 := n3_
     have HB := n4_
     clear n0_ n1_ n2_ n3_ n4_
     (try clear hb)
     (try clear hb2)
     (try clear hk)
     (try clear hi)
     obtain ⟨Ao26, co26, eo26⟩ := Kd.R_slice HO525.out
     (first | subst eo26 | (injection eo26 with f1_ f2_ f3_; have f4_ := f1_.symm; have f5_ := f3_.symm; clear f1_ f2_ f3_; subst f4_; subst f5_))
     obtain ⟨Ao27, co27, eo27⟩ := Kd.R_slice HO528.out
     (first | subst eo27 | (injection eo27 with f1_ f2_ f3_; have f4_ := f1_.symm; have f5_ := f3_.symm; clear f1_ f2_ f3_; subst f4_; subst f5_))
     refine hK.out _ _ ⟨(E BK520.out 0).trans rfl, (E BK520.out 1).trans rfl, (E BK521.out 0).trans rfl, (E BK521.out 1).trans rfl⟩ (fun hHeld => ?_)
     clear hK K
     refine norm_ (a' := ?_) ?_ ?_
     rotate_left
     ·show Act.put _ (some 23) _ = _
      simp only [Act.put, z1', z2', z3', i64_w, i32_w]
      rfl
     refine two_ (i := 5) (j := 9) (Ni := some 24) (Nj := some 8) #[y', y', y', y', y', y', n', n', n', n', n', n'] #[y', y', y', y', y', n', n', n', n', y', n', n'] rfl rfl rfl rfl (two_of HT_.out (by kernel_rfl)) (by decide) (by decide) (fun K hK => ?_) (fun K hK => ?_)
     ·skip
      refine goes_ Try.func41 (by kernel_rfl) rfl #[.agg #[.slice Ao26 t523.length co26, .slice Ao27 t526.length co27], .int .i64 a1, .agg #[.int .i64 t529, .int .i64 t530]] (by rfl) rfl rfl (by (try simp only [List.map_toArray, List.map_cons, List.map_nil]); first | done | rfl | (simp only [List.length_drop, List.length_take]; rfl)) ?_
      with_reducible refine (spec_SquareOfTension.calls k _ _ t523 _ _ t526 a1 t529 t530 t531 t532 t533 _ ?side1 ?side2 ?side3 ?side4 A13.out).mono ?_
      (case side1 => repeat (first | exact (Kd.R_reads' HO525.out).2.2 | (with_reducible refine GG ?_ _) | (with_reducible refine GJ ?_ _) | (with_reducible refine GL ?_)))
      (case side2 => exact (Kd.R_reads' HO525.out).2.1)
      (case side3 => repeat (first | exact (Kd.R_reads' HO528.out).2.2 | (with_reducible refine GG ?_ _) | (with_reducible refine GJ ?_ _) | (with_reducible refine GL ?_)))
      (case side4 => exact (Kd.R_reads' HO528.out).2.1)
      rintro e w28 ⟨rfl, hb⟩
      refine ⟨_, rfl, ?_⟩
      have n0_ := G (B (by (with_reducible repeat (first | apply J | apply L | apply M)); exact HO525.out) hb)
      have n1_ := G (B (by (with_reducible repeat (first | apply J | apply L | apply M)); exact HO528.out) hb)
      have n2_ := G (F (g := gb520) (o := .cells #[.slice A0_0 l0_0.length c0_0, .slice A0_1 l0_1.length c0_1] 33 (0, 0)) (by (with_reducible repeat (first | refine U ?_ _ | refine X ?_ | refine V ?_ _)); exact BK520.out) hb)
      have n3_ := G (F (g := gb521) (o := .cells #[.int .i64 a2_0, .int .i64 a2_1] 62 (0, 0)) (by (with_reducible repeat (first | refine U ?_ _ | refine X ?_ | refine V ?_ _)); exact BK521.out) hb)
      have n4_ := G (GN (by repeat (first | (with_reducible first | exact HB.out | apply Z | apply T | apply Y | refine O ?_ GE520.out | refine O ?_ GE521.out) | exact HB.out)) hb)
      clear HO525
      clear HO528
      clear BK520
      clear BK521
      clear HB
      have HO525 := n0_
      have HO528 := n1_
      have BK520 := n2_
      have BK521 := n3_
      have HB := n4_
      clear n0_ n1_ n2_ n3_ n4_
      (try clear hb)
      (try clear hb2)
      (try clear hk)
      (try clear hi)
      refine hK.out _ _ ⟨(E BK520.out 0).trans rfl, (E BK520.out 1).trans rfl, (E BK521.out 0).trans rfl, (E BK521.out 1).trans rfl⟩ (fun hHeld => ?_)
      clear hK K
      refine norm_ (a' := ?_) ?_ ?_
      rotate_left
      ·show Act.put _ (some 24) _ = _
       simp only [Act.put, z1', z2', z3', i64_w, i32_w]
       rfl
      refine pure_ (i := 6) (N := some 18) (v := ?_) (a' := ?_) #[y', y', y', y', y', y', y', n', n', n', n', n'] rfl rfl (any_of HT_.out (by kernel_rfl)) (fun _ _ _ h => h) (Or.inl ⟨by rfl, ?_⟩) ?_ ?_
      rotate_left
      ·intro w'
       go_simp
       with_reducible rfl
      rotate_left
      ·simp only [Act.put, z1', z2', z3', i64_w, i32_w]
       rfl
      refine pure_ (i := 7) (N := some 25) (v := ?_) (a' := ?_) #[y', y', y', y', y', y', y', y', n', n', n', n'] rfl rfl (any_of HT_.out (by kernel_rfl)) (fun _ _ _ h => h) (Or.inl ⟨by rfl, ?_⟩) ?_ ?_
      rotate_left
      ·intro w'
       go_simp
       with_reducible rfl
      rotate_left
      ·simp only [Act.put, z1', z2', z3', i64_w, i32_w]
       rfl
      refine pure_ (i := 8) (N := some 26) (v := ?_) (a' := ?_) #[y', y', y', y', y', y', y', y', y', n', n', n'] rfl rfl (any_of HT_.out (by kernel_rfl)) (fun _ _ _ h => h) (Or.inl ⟨by rfl, ?_⟩) ?_ ?_
      rotate_left
      ·intro w'
       go_simp
       with_reducible rfl
      rotate_left
      ·simp only [Act.put, z1', z2', z3', i64_w, i32_w]
       rfl
      refine one_ (i := 9) (N := some 8) #[y', y', y', y', y', y', y', y', y', y', n', n'] rfl rfl (one_of HT_.out (by kernel_rfl)) (by decide) (fun K hK => ?_)
      refine box_step ?hg (N := 8) ?hd (cs := #[.int .i64 0, .int .i64 0]) (t := 63) ?hr ?_; (case hd => rfl); (case hg => rfl); (case hr => first | (go_simp; done) | (go_simp; rfl))
      intro gb534 hg w29 hbox hb
      have n0_ := G (B (by (with_reducible repeat (first | apply J | apply L | apply M)); exact HO525.out) hb)
      have n1_ := G (B (by (with_reducible repeat (first | apply J | apply L | apply M)); exact HO528.out) hb)
      have n2_ := G (F (g := gb520) (o := .cells #[.slice A0_0 l0_0.length c0_0, .slice A0_1 l0_1.length c0_1] 33 (0, 0)) (by (with_reducible repeat (first | refine U ?_ _ | refine X ?_ | refine V ?_ _)); exact BK520.out) hb)
      have n3_ := G (F (g := gb521) (o := .cells #[.int .i64 a2_0, .int .i64 a2_1] 62 (0, 0)) (by (with_reducible repeat (first | refine U ?_ _ | refine X ?_ | refine V ?_ _)); exact BK521.out) hb)
      have n4_ := G (GN (by repeat (first | (with_reducible first | exact HB.out | apply Z | apply T | apply Y | refine O ?_ GE520.out | refine O ?_ GE521.out) | exact HB.out)) hb)
      have n5_ := G (hbox)
      have n6_ := G ((by rw [hg]; exact (GM (by repeat (first | (with_reducible first | exact HB.out | apply Z | apply T | apply Y | refine O ?_ GE520.out | refine O ?_ GE521.out) | exact HB.out))) : w.heap.size ≤ gb534))
      have n7_ := G ((by rw [hg]; exact (GM (by repeat (first | (with_reducible first | exact HB.out | apply Z | apply T | apply Y | refine O ?_ GE520.out | refine O ?_ GE521.out) | exact HB.out))) : w.heap.size ≤ gb534))
      have n8_ := G ((by rw [hg]; exact Nat.ne_of_lt (blk_lt (g := gb520) (o := .cells #[.slice A0_0 l0_0.length c0_0, .slice A0_1 l0_1.length c0_1] 33 (0, 0)) (by (with_reducible repeat (first | refine U ?_ _ | refine X ?_ | refine V ?_ _)); exact BK520.out)) : gb520 ≠ gb534))
      have n9_ := G ((by rw [hg]; exact Nat.ne_of_gt (blk_lt (g := gb520) (o := .cells #[.slice A0_0 l0_0.length c0_0, .slice A0_1 l0_1.length c0_1] 33 (0, 0)) (by (with_reducible repeat (first | refine U ?_ _ | refine X ?_ | refine V ?_ _)); exact BK520.out)) : gb534 ≠ gb520))
      have n10_ := G ((by rw [hg]; exact Nat.ne_of_lt (blk_lt (g := gb521) (o := .cells #[.int .i64 a2_0, .int .i64 a2_1] 62 (0, 0)) (by (with_reducible repeat (first | refine U ?_ _ | refine X ?_ | refine V ?_ _)); exact BK521.out)) : gb521 ≠ gb534))
      have n11_ := G ((by rw [hg]; exact Nat.ne_of_gt (blk_lt (g := gb521) (o := .cells #[.int .i64 a2_0, .int .i64 a2_1] 62 (0, 0)) (by (with_reducible repeat (first | refine U ?_ _ | refine X ?_ | refine V ?_ _)); exact BK521.out)) : gb534 ≠ gb521))
      clear HO525
      clear HO528
      clear BK520
      clear BK521
      clear HB
      have HO525 := n0_
      have HO528 := n1_
      have BK520 := n2_
      have BK521 := n3_
      have HB := n4_
      have BK534 := n5_
      have GW534 := n6_
      have GE534 := n7_
      have NB520_534 := n8_
      have NB534_520 := n9_
      have NB521_534 := n10_
      have NB534_521 := n11_
      clear n0_ n1_ n2_ n3_ n4_ n5_ n6_ n7_ n8_ n9_ n10_ n11_
      clear hb hbox hg
      refine hK.out _ _ ⟨(E BK520.out 0).trans rfl, (E BK520.out 1).trans rfl, (E BK521.out 0).trans rfl, (E BK521.out 1).trans rfl⟩ (fun hHeld => ?_)
      clear hK K
      refine norm_ (a' := ?_) ?_ ?_
      rotate_left
      ·show Act.put _ (some 8) _ = _
       simp only [Act.put, z1', z2', z3', i64_w, i32_w]
       rfl
      exact norm_ (by simp only [putAll, Act.put, List.setIfInBounds_toArray, List.set_cons_zero, List.set_cons_succ]) (hCont (.slice Ao26 t523.length co26, .slice Ao27 t526.length co27, gb534) _ ⟨hHeld, (by (with_reducible repeat (first | apply J | apply L | apply M)); exact HO525.out), (by (with_reducible repeat (first | apply J | apply L | apply M)); exact HO528.out), (by (with_reducible repeat (first | refine U ?_ _ | refine X ?_ | refine V ?_ _)); exact BK520.out), (by (with_reducible repeat (first | refine U ?_ _ | refine X ?_ | refine V ?_ _)); exact BK521.out), (by (with_reducible repeat (first | refine U ?_ _ | refine X ?_ | refine V ?_ _)); exact BK534.out), GW534.out, GE534.out, NB520_534.out, NB534_520.out, NB521_534.out, NB534_521.out, (by repeat (first | (with_reducible first | exact HB.out | apply Z | apply T | apply Y | refine O ?_ GE520.out | refine O ?_ GE521.out | refine O ?_ GE534.out) | exact HB.out))⟩)
     ·skip
      refine box_step ?hg (N := 8) ?hd (cs := #[.int .i64 0, .int .i64 0]) (t := 63) ?hr ?_; (case hd => rfl); (case hg => rfl); (case hr => first | (go_simp; done) | (go_simp; rfl))
      intro gb534 hg w26 hbox hb
      have n0_ := G (B (by (with_reducible repeat (first | apply J | apply L | apply M)); exact HO525.out) hb)
      have n1_ := G (B (by (with_reducible repeat (first | apply J | apply L | apply M)); exact HO528.out) hb)
      have n2_ := G (F (g := gb520) (o := .cells #[.slice A0_0 l0_0.length c0_0, .slice A0_1 l0_1.length c0_1] 33 (0, 0)) (by (with_reducible repeat (first | refine U ?_ _ | refine X ?_ | refine V ?_ _)); exact BK520.out) hb)
      have n3_ := G (F (g := gb521) (o := .cells #[.int .i64 a2_0, .int .i64 a2_1] 62 (0, 0)) (by (with_reducible repeat (first | refine U ?_ _ | refine X ?_ | refine V ?_ _)); exact BK521.out) hb)
      have n4_ := G (GN (by repeat (first | (with_reducible first | exact HB.out | apply Z | apply T | apply Y | refine O ?_ GE520.out | refine O ?_ GE521.out) | exact HB.out)) hb)
      have n5_ := G (hbox)
      have n6_ := G ((by rw [hg]; exact (GM (by repeat (first | (with_reducible first | exact HB.out | apply Z | apply T | apply Y | refine O ?_ GE520.out | refine O ?_ GE521.out) | exact HB.out))) : w.heap.size ≤ gb534))
      have n7_ := G ((by rw [hg]; exact (GM (by repeat (first | (with_reducible first | exact HB.out | apply Z | apply T | apply Y | refine O ?_ GE520.out | refine O ?_ GE521.out) | exact HB.out))) : w.heap.size ≤ gb534))
      have n8_ := G ((by rw [hg]; exact Nat.ne_of_lt (blk_lt (g := gb520) (o := .cells #[.slice A0_0 l0_0.length c0_0, .slice A0_1 l0_1.length c0_1] 33 (0, 0)) (by (with_reducible repeat (first | refine U ?_ _ | refine X ?_ | refine V ?_ _)); exact BK520.out)) : gb520 ≠ gb534))
      have n9_ := G ((by rw [hg]; exact Nat.ne_of_gt (blk_lt (g := gb520) (o := .cells #[.slice A0_0 l0_0.length c0_0, .slice A0_1 l0_1.length c0_1] 33 (0, 0)) (by (with_reducible repeat (first | refine U ?_ _ | refine X ?_ | refine V ?_ _)); exact BK520.out)) : gb534 ≠ gb520))
      have n10_ := G ((by rw [hg]; exact Nat.ne_of_lt (blk_lt (g := gb521) (o := .cells #[.int .i64 a2_0, .int .i64 a2_1] 62 (0, 0)) (by (with_reducible repeat (first | refine U ?_ _ | refine X ?_ | refine V ?_ _)); exact BK521.out)) : gb521 ≠ gb534))
      have n11_ := G ((by rw [hg]; exact Nat.ne_of_gt (blk_lt (g := gb521) (o := .cells #[.int .i64 a2_0, .int .i64 a2_1] 62 (0, 0)) (by (with_reducible repeat (first | refine U ?_ _ | refine X ?_ | refine V ?_ _)); exact BK521.out)) : gb534 ≠ gb521))
      clear HO525
      clear HO528
      clear BK520
      clear BK521
      clear HB
      have HO525 := n0_
      have HO528 := n1_
      have BK520 := n2_
      have BK521 := n3_
      have HB := n4_
      have BK534 := n5_
      have GW534 := n6_
      have GE534 := n7_
      have NB520_534 := n8_
      have NB534_520 := n9_
      have NB521_534 := n10_
      have NB534_521 := n11_
      clear n0_ n1_ n2_ n3_ n4_ n5_ n6_ n7_ n8_ n9_ n10_ n11_
      clear hb hbox hg
      obtain ⟨Ao27, co27, eo27⟩ := Kd.R_slice HO525.out
      (first | subst eo27 | (injection eo27 with f1_ f2_ f3_; have f4_ := f1_.symm; have f5_ := f3_.symm; clear f1_ f2_ f3_; subst f4_; subst f5_))
      obtain ⟨Ao28, co28, eo28⟩ := Kd.R_slice HO528.out
      (first | subst eo28 | (injection eo28 with f1_ f2_ f3_; have f4_ := f1_.symm; have f5_ := f3_.symm; clear f1_ f2_ f3_; subst f4_; subst f5_))
      refine hK.out _ _ ⟨(E BK520.out 0).trans rfl, (E BK520.out 1).trans rfl, (E BK521.out 0).trans rfl, (E BK521.out 1).trans rfl⟩ (fun hHeld => ?_)
      clear hK K
      refine norm_ (a' := ?_) ?_ ?_
      rotate_left
      ·show Act.put _ (some 8) _ = _
       simp only [Act.put, z1', z2', z3', i64_w, i32_w]
       rfl
      refine one_ (i := 5) (N := some 24) #[y', y', y', y', y', y', n', n', n', y', n', n'] rfl rfl (one_of HT_.out (by kernel_rfl)) (by decide) (fun K hK => ?_)
      refine goes_ Try.func41 (by kernel_rfl) rfl #[.agg #[.slice Ao27 t523.length co27, .slice Ao28 t526.length co28], .int .i64 a1, .agg #[.int .i64 t529, .int .i64 t530]] (by rfl) rfl rfl (by (try simp only [List.map_toArray, List.map_cons, List.map_nil]); first | done | rfl | (simp only [List.length_drop, List.length_take]; rfl)) ?_
      with_reducible refine (spec_SquareOfTension.calls k _ _ t523 _ _ t526 a1 t529 t530 t531 t532 t533 _ ?side1 ?side2 ?side3 ?side4 A13.out).mono ?_
      (case side1 => repeat (first | exact (Kd.R_reads' HO525.out).2.2 | (with_reducible refine GG ?_ _) | (with_reducible refine GJ ?_ _) | (with_reducible refine GL ?_)))
      (case side2 => exact (Kd.R_reads' HO525.out).2.1)
      (case side3 => repeat (first | exact (Kd.R_reads' HO528.out).2.2 | (with_reducible refine GG ?_ _) | (with_reducible refine GJ ?_ _) | (with_reducible refine GL ?_)))
      (case side4 => exact (Kd.R_reads' HO528.out).2.1)
      rintro e w29 ⟨rfl, hb⟩
      refine ⟨_, rfl, ?_⟩
      have n0_ := G (B (by (with_reducible repeat (first | apply J | apply L | apply M)); exact HO525.out) hb)
      have n1_ := G (B (by (with_reducible repeat (first | apply J | apply L | apply M)); exact HO528.out) hb)
      have n2_ := G (F (g := gb520) (o := .cells #[.slice A0_0 l0_0.length c0_0, .slice A0_1 l0_1.length c0_1] 33 (0, 0)) (by (with_reducible repeat (first | refine U ?_ _ | refine X ?_ | refine V ?_ _)); exact BK520.out) hb)
      have n3_ := G (F (g := gb521) (o := .cells #[.int .i64 a2_0, .int .i64 a2_1] 62 (0, 0)) (by (with_reducible repeat (first | refine U ?_ _ | refine X ?_ | refine V ?_ _)); exact BK521.out) hb)
      have n4_ := G (F (g := gb534) (o := .cells #[.int .i64 0, .int .i64 0] 63 (0, 0)) (by (with_reducible repeat (first | refine U ?_ _ | refine X ?_ | refine V ?_ _)); exact BK534.out) hb)
      have n5_ := G (GN (by repeat (first | (with_reducible first | exact HB.out | apply Z | apply T | apply Y | refine O ?_ GE520.out | refine O ?_ GE521.out | refine O ?_ GE534.out) | exact HB.out)) hb)
      clear HO525
      clear HO528
      clear BK520
      clear BK521
      clear BK534
      clear HB
      have HO525 := n0_
      have HO528 := n1_
      have BK520 := n2_
      have BK521 := n3_
      have BK534 := n4_
      have HB := n5_
      clear n0_ n1_ n2_ n3_ n4_ n5_
      (try clear hb)
      (try clear hb2)
      (try clear hk)
      (try clear hi)
      refine hK.out _ _ ⟨(E BK520.out 0).trans rfl, (E BK520.out 1).trans rfl, (E BK521.out 0).trans rfl, (E BK521.out 1).trans rfl⟩ (fun hHeld => ?_)
      clear hK K
      refine norm_ (a' := ?_) ?_ ?_
      rotate_left
      ·show Act.put _ (some 24) _ = _
       simp only [Act.put, z1', z2', z3', i64_w, i32_w]
       rfl
      refine pure_ (i := 6) (N := some 18) (v := ?_) (a' := ?_) #[y', y', y', y', y', y', y', n', n', y', n', n'] rfl rfl (any_of HT_.out (by kernel_rfl)) (fun _ _ _ h => h) (Or.inl ⟨by rfl, ?_⟩) ?_ ?_
      rotate_left
      ·intro w'
       go_simp
       with_reducible rfl
      rotate_left
      ·simp only [Act.put, z1', z2', z3', i64_w, i32_w]
       rfl
      refine pure_ (i := 7) (N := some 25) (v := ?_) (a' := ?_) #[y', y', y', y', y', y', y', y', n', y', n', n'] rfl rfl (any_of HT_.out (by kernel_rfl)) (fun _ _ _ h => h) (Or.inl ⟨by rfl, ?_⟩) ?_ ?_
      rotate_left
      ·intro w'
       go_simp
       with_reducible rfl
      rotate_left
      ·simp only [Act.put, z1', z2', z3', i64_w, i32_w]
       rfl
      refine pure_ (i := 8) (N := some 26) (v := ?_) (a' := ?_) #[y', y', y', y', y', y', y', y', y', y', n', n'] rfl rfl (any_of HT_.out (by kernel_rfl)) (fun _ _ _ h => h) (Or.inl ⟨by rfl, ?_⟩) ?_ ?_
      rotate_left
      ·intro w'
       go_simp
       with_reducible rfl
      rotate_left
      ·simp only [Act.put, z1', z2', z3', i64_w, i32_w]
       rfl
      exact norm_ (by simp only [putAll, Act.put, List.setIfInBounds_toArray, List.set_cons_zero, List.set_cons_succ]) (hCont (.slice Ao27 t523.length co27, .slice Ao28 t526.length co28, gb534) _ ⟨hHeld, (by (with_reducible repeat (first | apply J | apply L | apply M)); exact HO525.out), (by (with_reducible repeat (first | apply J | apply L | apply M)); exact HO528.out), (by (with_reducible repeat (first | refine U ?_ _ | refine X ?_ | refine V ?_ _)); exact BK520.out), (by (with_reducible repeat (first | refine U ?_ _ | refine X ?_ | refine V ?_ _)); exact BK521.out), (by (with_reducible repeat (first | refine U ?_ _ | refine X ?_ | refine V ?_ _)); exact BK534.out), GW534.out, GE534.out, NB520_534.out, NB534_520.out, NB521_534.out, NB534_521.out, (by repeat (first | (with_reducible first | exact HB.out | apply Z | apply T | apply Y | refine O ?_ GE520.out | refine O ?_ GE521.out | refine O ?_ GE534.out) | exact HB.out))⟩)
    ·skip
     refine box_step ?hg (N := 8) ?hd (cs := #[.int .i64 0, .int .i64 0]) (t := 63) ?hr ?_; (case hd => rfl); (case hg => rfl); (case hr => first | (go_simp; done) | (go_simp; rfl))
     intro gb534 hg w25 hbox hb
     have n0_ := G (B (by (with_reducible repeat (first | apply J | apply L | apply M)); exact HO525.out) hb)
     have n1_ := G (B (by (with_reducible repeat (first | apply J | apply L | apply M)); exact HO528.out) hb)
     have n2_ := G (F (g := gb520) (o := .cells #[.slice A0_0 l0_0.length c0_0, .slice A0_1 l0_1.length c0_1] 33 (0, 0)) (by (with_reducible repeat (first | refine U ?_ _ | refine X ?_ | refine V ?_ _)); exact BK520.out) hb)
     have n3_ := G (F (g := gb521) (o := .cells #[.int .i64 a2_0, .int .i64 a2_1] 62 (0, 0)) (by (with_reducible repeat (first | refine U ?_ _ | refine X ?_ | refine V ?_ _)); exact BK521.out) hb)
     have n4_ := G (GN (by repeat (first | (with_reducible first | exact HB.out | apply Z | apply T | apply Y | refine O ?_ GE520.out | refine O ?_ GE521.out) | exact HB.out)) hb)
     have n5_ := G (hbox)
     have n6_ := G ((by rw [hg]; exact (GM (by repeat (first | (with_reducible first | exact HB.out | apply Z | apply T | apply Y | refine O ?_ GE520.out | refine O ?_ GE521.out) | exact HB.out))) : w.heap.size ≤ gb534))
     have n7_ := G ((by rw [hg]; exact (GM (by repeat (first | (with_reducible first | exact HB.out | apply Z | apply T | apply Y | refine O ?_ GE520.out | refine O ?_ GE521.out) | exact HB.out))) : w.heap.size ≤ gb534))
     have n8_ := G ((by rw [hg]; exact Nat.ne_of_lt (blk_lt (g := gb520) (o := .cells #[.slice A0_0 l0_0.length c0_0, .slice A0_1 l0_1.length c0_1] 33 (0, 0)) (by (with_reducible repeat (first | refine U ?_ _ | refine X ?_ | refine V ?_ _)); exact BK520.out)) : gb520 ≠ gb534))
     have n9_ := G ((by rw [hg]; exact Nat.ne_of_gt (blk_lt (g := gb520) (o := .cells #[.slice A0_0 l0_0.length c0_0, .slice A0_1 l0_1.length c0_1] 33 (0, 0)) (by (with_reducible repeat (first | refine U ?_ _ | refine X ?_ | refine V ?_ _)); exact BK520.out)) : gb534 ≠ gb520))
     have n10_ := G ((by rw [hg]; exact Nat.ne_of_lt (blk_lt (g := gb521) (o := .cells #[.int .i64 a2_0, .int .i64 a2_1] 62 (0, 0)) (by (with_reducible repeat (first | refine U ?_ _ | refine X ?_ | refine V ?_ _)); exact BK521.out)) : gb521 ≠ gb534))
     have n11_ := G ((by rw [hg]; exact Nat.ne_of_gt (blk_lt (g := gb521) (o := .cells #[.int .i64 a2_0, .int .i64 a2_1] 62 (0, 0)) (by (with_reducible repeat (first | refine U ?_ _ | refine X ?_ | refine V ?_ _)); exact BK521.out)) : gb534 ≠ gb521))
     clear HO525
     clear HO528
     clear BK520
     clear BK521
     clear HB
     have HO525 := n0_
     have HO528 := n1_
     have BK520 := n2_
     have BK521 := n3_
     have HB := n4_
     have BK534 := n5_
     have GW534 := n6_
     have GE534 := n7_
     have NB520_534 := n8_
     have NB534_520 := n9_
     have NB521_534 := n10_
     have NB534_521 := n11_
     clear n0_ n1_ n2_ n3_ n4_ n5_ n6_ n7_ n8_ n9_ n10_ n11_
     clear hb hbox hg
     refine hK.out _ _ ⟨(E BK520.out 0).trans rfl, (E BK520.out 1).trans rfl, (E BK521.out 0).trans rfl, (E BK521.out 1).trans rfl⟩ (fun hHeld => ?_)
     clear hK K
     refine norm_ (a' := ?_) ?_ ?_
     rotate_left
     ·show Act.put _ (some 8) _ = _
      simp only [Act.put, z1', z2', z3', i64_w, i32_w]
      rfl
     refine one_ (i := 4) (N := some 23) #[y', y', y', y', y', n', n', n', n', y', n', n'] rfl rfl (one_of HT_.out (by kernel_rfl)) (by decide) (fun K hK => ?_)
     refine goes_ Try.func42 (by kernel_rfl) rfl #[.agg #[.int .i64 a2_0, .int .i64 a2_1]] (by rfl) rfl rfl (by (try simp only [List.map_toArray, List.map_cons, List.map_nil]); first | done | rfl | (simp only [List.length_drop, List.length_take]; rfl)) ?_
     with_reducible refine (laws_toFraction.calls a2_0 a2_1 t529 t530 _ A12.out).mono ?_
     rintro e w26 ⟨rfl, hb⟩
     refine ⟨_, rfl, ?_⟩
     have n0_ := G (B (by (with_reducible repeat (first | apply J | apply L | apply M)); exact HO525.out) hb)
     have n1_ := G (B (by (with_reducible repeat (first | apply J | apply L | apply M)); exact HO528.out) hb)
     have n2_ := G (F (g := gb520) (o := .cells #[.slice A0_0 l0_0.length c0_0, .slice A0_1 l0_1.length c0_1] 33 (0, 0)) (by (with_reducible repeat (first | refine U ?_ _ | refine X ?_ | refine V ?_ _)); exact BK520.out) hb)
     have n3_ := G (F (g := gb521) (o := .cells #[.int .i64 a2_0, .int .i64 a2_1] 62 (0, 0)) (by (with_reducible repeat (first | refine U ?_ _ | refine X ?_ | refine V ?_ _)); exact BK521.out) hb)
     have n4_ := G (F (g := gb534) (o := .cells #[.int .i64 0, .int .i64 0] 63 (0, 0)) (by (with_reducible repeat (first | refine U ?_ _ | refine X ?_ | refine V ?_ _)); exact BK534.out) hb)
     have n5_ := G (GN (by repeat (first | (with_reducible first | exact HB.out | apply Z | apply T | apply Y | refine O ?_ GE520.out | refine O ?_ GE521.out | refine O ?_ GE534.out) | exact HB.out)) hb)
     clear HO525
     clear HO528
     clear BK520
     clear BK521
     clear BK534
     clear HB
     have HO525 := n0_
     have HO528 := n1_
     have BK520 := n2_
     have BK521 := n3_
     have BK534 := n4_
     have HB := n5_
     clear n0_ n1_ n2_ n3_ n4_ n5_
     (try clear hb)
     (try clear hb2)
     (try clear hk)
     (try clear hi)
     obtain ⟨Ao27, co27, eo27⟩ := Kd.R_slice HO525.out
     (first | subst eo27 | (injection eo27 with f1_ f2_ f3_; have f4_ := f1_.symm; have f5_ := f3_.symm; clear f1_ f2_ f3_; subst f4_; subst f5_))
     obtain ⟨Ao28, co28, eo28⟩ := Kd.R_slice HO528.out
     (first | subst eo28 | (injection eo28 with f1_ f2_ f3_; have f4_ := f1_.symm; have f5_ := f3_.symm; clear f1_ f2_ f3_; subst f4_; subst f5_))
     refine hK.out _ _ ⟨(E BK520.out 0).trans rfl, (E BK520.out 1).trans rfl, (E BK521.out 0).trans rfl, (E BK521.out 1).trans rfl⟩ (fun hHeld => ?_)
     clear hK K
     refine norm_ (a' := ?_) ?_ ?_
     rotate_left
     ·show Act.put _ (some 23) _ = _
      simp only [Act.put, z1', z2', z3', i64_w, i32_w]
      rfl
     refine one_ (i := 5) (N := some 24) #[y', y', y', y', y', y', n', n', n', y', n', n'] rfl rfl (one_of HT_.out (by kernel_rfl)) (by decide) (fun K hK => ?_)
     refine goes_ Try.func41 (by kernel_rfl) rfl #[.agg #[.slice Ao27 t523.length co27, .slice Ao28 t526.length co28], .int .i64 a1, .agg #[.int .i64 t529, .int .i64 t530]] (by rfl) rfl rfl (by (try simp only [List.map_toArray, List.map_cons, List.map_nil]); first | done | rfl | (simp only [List.length_drop, List.length_take]; rfl)) ?_
     with_reducible refine (spec_SquareOfTension.calls k _ _ t523 _ _ t526 a1 t529 t530 t531 t532 t533 _ ?side1 ?side2 ?side3 ?side4 A13.out).mono ?_
     (case side1 => repeat (first | exact (Kd.R_reads' HO525.out).2.2 | (with_reducible refine GG ?_ _) | (with_reducible refine GJ ?_ _) | (with_reducible refine GL ?_)))
     (case side2 => exact (Kd.R_reads' HO525.out).2.1)
     (case side3 => repeat (first | exact (Kd.R_reads' HO528.out).2.2 | (with_reducible refine GG ?_ _) | (with_reducible refine GJ ?_ _) | (with_reducible refine GL ?_)))
     (case side4 => exact (Kd.R_reads' HO528.out).2.1)
     rintro e w29 ⟨rfl, hb⟩
     refine ⟨_, rfl, ?_⟩
     have n0_ := G (B (by (with_reducible repeat (first | apply J | apply L | apply M)); exact HO525.out) hb)
     have n1_ := G (B (by (with_reducible repeat (first | apply J | apply L | apply M)); exact HO528.out) hb)
     have n2_ := G (F (g := gb520) (o := .cells #[.slice A0_0 l0_0.length c0_0, .slice A0_1 l0_1.length c0_1] 33 (0, 0)) (by (with_reducible repeat (first | refine U ?_ _ | refine X ?_ | refine V ?_ _)); exact BK520.out) hb)
     have n3_ := G (F (g := gb521) (o := .cells #[.int .i64 a2_0, .int .i64 a2_1] 62 (0, 0)) (by (with_reducible repeat (first | refine U ?_ _ | refine X ?_ | refine V ?_ _)); exact BK521.out) hb)
     have n4_ := G (F (g := gb534) (o := .cells #[.int .i64 0, .int .i64 0] 63 (0, 0)) (by (with_reducible repeat (first | refine U ?_ _ | refine X ?_ | refine V ?_ _)); exact BK534.out) hb)
     have n5_ := G (GN (by repeat (first | (with_reducible first | exact HB.out | apply Z | apply T | apply Y | refine O ?_ GE520.out | refine O ?_ GE521.out | refine O ?_ GE534.out) | exact HB.out)) hb)
     clear HO525
     clear HO528
     clear BK520
     clear BK521
     clear BK534
     clear HB
     have HO525 := n0_
     have HO528 := n1_
     have BK520 := n2_
     have BK521 := n3_
     have BK534 := n4_
     have HB := n5_
     clear n0_ n1_ n2_ n3_ n4_ n5_
     (try clear hb)
     (try clear hb2)
     (try clear hk)
     (try clear hi)
     refine hK.out _ _ ⟨(E BK520.out 0).trans rfl, (E BK520.out 1).trans rfl, (E BK521.out 0).trans rfl, (E BK521.out 1).trans rfl⟩ (fun hHeld => ?_)
     clear hK K
     refine norm_ (a' := ?_) ?_ ?_
     rotate_left
     ·show Act.put _ (some 24) _ = _
      simp only [Act.put, z1', z2', z3', i64_w, i32_w]
      rfl
     refine pure_ (i := 6) (N := some 18) (v := ?_) (a' := ?_) #[y', y', y', y', y', y', y', n', n', y', n', n'] rfl rfl (any_of HT_.out (by kernel_rfl)) (fun _ _ _ h => h) (Or.inl ⟨by rfl, ?_⟩) ?_ ?_
     rotate_left
     ·intro w'
      go_simp
      with_reducible rfl
     rotate_left
     ·simp only [Act.put, z1', z2', z3', i64_w, i32_w]
      rfl
     refine pure_ (i := 7) (N := some 25) (v := ?_) (a' := ?_) #[y', y', y', y', y', y', y', y', n', y', n', n'] rfl rfl (any_of HT_.out (by kernel_rfl)) (fun _ _ _ h => h) (Or.inl ⟨by rfl, ?_⟩) ?_ ?_
     rotate_left
     ·intro w'
      go_simp
      with_reducible rfl
     rotate_left
     ·simp only [Act.put, z1', z2', z3', i64_w, i32_w]
      rfl
     refine pure_ (i := 8) (N := some 26) (v := ?_) (a' := ?_) #[y', y', y', y', y', y', y', y', y', y', n', n'] rfl rfl (any_of HT_.out (by kernel_rfl)) (fun _ _ _ h => h) (Or.inl ⟨by rfl, ?_⟩) ?_ ?_
     rotate_left
     ·intro w'
      go_simp
      with_reducible rfl
     rotate_left
     ·simp only [Act.put, z1', z2', z3', i64_w, i32_w]
      rfl
     exact norm_ (by simp only [putAll, Act.put, List.setIfInBounds_toArray, List.set_cons_zero, List.set_cons_succ]) (hCont (.slice Ao27 t523.length co27, .slice Ao28 t526.length co28, gb534) _ ⟨hHeld, (by (with_reducible repeat (first | apply J | apply L | apply M)); exact HO525.out), (by (with_reducible repeat (first | apply J | apply L | apply M)); exact HO528.out), (by (with_reducible repeat (first | refine U ?_ _ | refine X ?_ | refine V ?_ _)); exact BK520.out), (by (with_reducible repeat (first | refine U ?_ _ | refine X ?_ | refine V ?_ _)); exact BK521.out), (by (with_reducible repeat (first | refine U ?_ _ | refine X ?_ | refine V ?_ _)); exact BK534.out), GW534.out, GE534.out, NB520_534.out, NB534_520.out, NB521_534.out, NB534_521.out, (by repeat (first | (with_reducible first | exact HB.out | apply Z | apply T | apply Y | refine O ?_ GE520.out | refine O ?_ GE521.out | refine O ?_ GE534.out) | exact HB.out))⟩)
   ·skip
    refine box_step ?hg (N := 8) ?hd (cs := #[.int .i64 0, .int .i64 0]) (t := 63) ?hr ?_; (case hd => rfl); (case hg => rfl); (case hr => first | (go_simp; done) | (go_simp; rfl))
    intro gb534 hg w24 hbox hb
    have n0_ := G (F (g := gb520) (o := .cells #[.slice A0_0 l0_0.length c0_0, .slice A0_1 l0_1.length c0_1] 33 (0, 0)) (by (with_reducible repeat (first | refine U ?_ _ | refine X ?_ | refine V ?_ _)); exact BK520.out) hb)
    have n1_ := G (F (g := gb521) (o := .cells #[.int .i64 a2_0, .int .i64 a2_1] 62 (0, 0)) (by (with_reducible repeat (first | refine U ?_ _ | refine X ?_ | refine V ?_ _)); exact BK521.out) hb)
    have n2_ := G (GN (by repeat (first | (with_reducible first | exact HB.out | apply Z | apply T | apply Y | refine O ?_ GE520.out | refine O ?_ GE521.out) | exact HB.out)) hb)
    have n3_ := G (hbox)
    have n4_ := G ((by rw [hg]; exact (GM (by repeat (first | (with_reducible first | exact HB.out | apply Z | apply T | apply Y | refine O ?_ GE520.out | refine O ?_ GE521.out) | exact HB.out))) : w.heap.size ≤ gb534))
    have n5_ := G ((by rw [hg]; exact (GM (by repeat (first | (with_reducible first | exact HB.out | apply Z | apply T | apply Y | refine O ?_ GE520.out | refine O ?_ GE521.out) | exact HB.out))) : w.heap.size ≤ gb534))
    have n6_ := G ((by rw [hg]; exact Nat.ne_of_lt (blk_lt (g := gb520) (o := .cells #[.slice A0_0 l0_0.length c0_0, .slice A0_1 l0_1.length c0_1] 33 (0, 0)) (by (with_reducible repeat (first | refine U ?_ _ | refine X ?_ | refine V ?_ _)); exact BK520.out)) : gb520 ≠ gb534))
    have n7_ := G ((by rw [hg]; exact Nat.ne_of_gt (blk_lt (g := gb520) (o := .cells #[.slice A0_0 l0_0.length c0_0, .slice A0_1 l0_1.length c0_1] 33 (0, 0)) (by (with_reducible repeat (first | refine U ?_ _ | refine X ?_ | refine V ?_ _)); exact BK520.out)) : gb534 ≠ gb520))
    have n8_ := G ((by rw [hg]; exact Nat.ne_of_lt (blk_lt (g := gb521) (o := .cells #[.int .i64 a2_0, .int .i64 a2_1] 62 (0, 0)) (by (with_reducible repeat (first | refine U ?_ _ | refine X ?_ | refine V ?_ _)); exact BK521.out)) : gb521 ≠ gb534))
    have n9_ := G ((by rw [hg]; exact Nat.ne_of_gt (blk_lt (g := gb521) (o := .cells #[.int .i64 a2_0, .int .i64 a2_1] 62 (0, 0)) (by (with_reducible repeat (first | refine U ?_ _ | refine X ?_ | refine V ?_ _)); exact BK521.out)) : gb534 ≠ gb521))
    clear BK520
    clear BK521
    clear HB
    have BK520 := n0_
    have BK521 := n1_
    have HB := n2_
    have BK534 := n3_
    have GW534 := n4_
    have GE534 := n5_
    have NB520_534 := n6_
    have NB534_520 := n7_
    have NB521_534 := n8_
    have NB534_521 := n9_
    clear n0_ n1_ n2_ n3_ n4_ n5_ n6_ n7_ n8_ n9_
    clear hb hbox hg
    refine hK.out _ _ ⟨(E BK520.out 0).trans rfl, (E BK520.out 1).trans rfl, (E BK521.out 0).trans rfl, (E BK521.out 1).trans rfl⟩ (fun hHeld => ?_)
    clear hK K
    refine norm_ (a' := ?_) ?_ ?_
    rotate_left
    ·show Act.put _ (some 8) _ = _
     simp only [Act.put, z1', z2', z3', i64_w, i32_w]
     rfl
    refine one_ (i := 1) (N := some 20) #[y', y', y', y', n', n', n', n', n', y', n', n'] rfl rfl (one_of HT_.out (by kernel_rfl)) (by decide) (fun K hK => ?_)
    refine goes_ Try.func21 (by kernel_rfl) rfl #[.agg #[.slice A0_0 l0_0.length c0_0, .slice A0_1 l0_1.length c0_1]] (by rfl) rfl rfl (by (try simp only [List.map_toArray, List.map_cons, List.map_nil]); first | done | rfl | (simp only [List.length_drop, List.length_take]; rfl)) ?_
    with_reducible refine (laws_toFrame.calls k _ _ l0_0 _ _ l0_1 t523 t526 _ ?side1 ?side2 ?side3 ?side4 A11.out).mono ?_
    (case side1 => repeat (first | exact (GO HR0_0.out HB.out) | (with_reducible refine GG ?_ _) | (with_reducible refine GJ ?_ _) | (with_reducible refine GL ?_)))
    (case side2 => exact HC0_0.out)
    (case side3 => repeat (first | exact (GO HR0_1.out HB.out) | (with_reducible refine GG ?_ _) | (with_reducible refine GJ ?_ _) | (with_reducible refine GL ?_)))
    (case side4 => exact HC0_1.out)
    rintro e w25 ⟨v524, v527, rfl, ho0, ho1, hb⟩
    refine ⟨_, rfl, ?_⟩
    have n0_ := G (Kd.R_lower ho0 (GM (by repeat (first | (with_reducible first | exact HB.out | apply Z | apply T | apply Y | refine O ?_ GE520.out | refine O ?_ GE521.out | refine O ?_ GE534.out) | exact HB.out))))
    have n1_ := G (Kd.R_lower ho1 (GM (by repeat (first | (with_reducible first | exact HB.out | apply Z | apply T | apply Y | refine O ?_ GE520.out | refine O ?_ GE521.out | refine O ?_ GE534.out) | exact HB.out))))
    have n2_ := G (F (g := gb520) (o := .cells #[.slice A0_0 l0_0.length c0_0, .slice A0_1 l0_1.length c0_1] 33 (0, 0)) (by (with_reducible repeat (first | refine U ?_ _ | refine X ?_ | refine V ?_ _)); exact BK520.out) hb)
    have n3_ := G (F (g := gb521) (o := .cells #[.int .i64 a2_0, .int .i64 a2_1] 62 (0, 0)) (by (with_reducible repeat (first | refine U ?_ _ | refine X ?_ | refine V ?_ _)); exact BK521.out) hb)
    have n4_ := G (F (g := gb534) (o := .cells #[.int .i64 0, .int .i64 0] 63 (0, 0)) (by (with_reducible repeat (first | refine U ?_ _ | refine X ?_ | refine V ?_ _)); exact BK534.out) hb)
    have n5_ := G (GN (by repeat (first | (with_reducible first | exact HB.out | apply Z | apply T | apply Y | refine O ?_ GE520.out | refine O ?_ GE521.out | refine O ?_ GE534.out) | exact HB.out)) hb)
    clear BK520
    clear BK521
    clear BK534
    clear HB
    have HO525 := n0_
    have HO528 := n1_
    have BK520 := n2_
    have BK521 := n3_
    have BK534 := n4_
    have HB := n5_
    clear n0_ n1_ n2_ n3_ n4_ n5_
    (try clear hb)
    (try clear hb2)
    (try clear hk)
    (try clear hi)
    (try clear ho0)
    (try clear ho1)
    refine hK.out _ _ ⟨(E BK520.out 0).trans rfl, (E BK520.out 1).trans rfl, (E BK521.out 0).trans rfl, (E BK521.out 1).trans rfl⟩ (fun hHeld => ?_)
    clear hK K
    refine norm_ (a' := ?_) ?_ ?_
    rotate_left
    ·show Act.put _ (some 20) _ = _
     simp only [Act.put, z1', z2', z3', i64_w, i32_w]
     rfl
    refine one_ (i := 4) (N := some 23) #[y', y', y', y', y', n', n', n', n', y', n', n'] rfl rfl (one_of HT_.out (by kernel_rfl)) (by decide) (fun K hK => ?_)
    refine goes_ Try.func42 (by kernel_rfl) rfl #[.agg #[.int .i64 a2_0, .int .i64 a2_1]] (by rfl) rfl rfl (by (try simp only [List.map_toArray, List.map_cons, List.map_nil]); first | done | rfl | (simp only [List.length_drop, List.length_take]; rfl)) ?_
    with_reducible refine (laws_toFraction.calls a2_0 a2_1 t529 t530 _ A12.out).mono ?_
    rintro e w26 ⟨rfl, hb⟩
    refine ⟨_, rfl, ?_⟩
    have n0_ := G (B (by (with_reducible repeat (first | apply J | apply L | apply M)); exact HO525.out) hb)
    have n1_ := G (B (by (with_reducible repeat (first | apply J | apply L | apply M)); exact HO528.out) hb)
    have n2_ := G (F (g := gb520) (o := .cells #[.slice A0_0 l0_0.length c0_0, .slice A0_1 l0_1.length c0_1] 33 (0, 0)) (by (with_reducible repeat (first | refine U ?_ _ | refine X ?_ | refine V ?_ _)); exact BK520.out) hb)
    have n3_ := G (F (g := gb521) (o := .cells #[.int .i64 a2_0, .int .i64 a2_1] 62 (0, 0)) (by (with_reducible repeat (first | refine U ?_ _ | refine X ?_ | refine V ?_ _)); exact BK521.out) hb)
    have n4_ := G (F (g := gb534) (o := .cells #[.int .i64 0, .int .i64 0] 63 (0, 0)) (by (with_reducible repeat (first | refine U ?_ _ | refine X ?_ | refine V ?_ _)); exact BK534.out) hb)
    have n5_ := G (GN (by repeat (first | (with_reducible first | exact HB.out | apply Z | apply T | apply Y | refine O ?_ GE520.out | refine O ?_ GE521.out | refine O ?_ GE534.out) | exact HB.out)) hb)
    clear HO525
    clear HO528
    clear BK520
    clear BK521
    clear BK534
    clear HB
    have HO525 := n0_
    have HO528 := n1_
    have BK520 := n2_
    have BK521 := n3_
    have BK534 := n4_
    have HB := n5_
    clear n0_ n1_ n2_ n3_ n4_ n5_
    (try clear hb)
    (try clear hb2)
    (try clear hk)
    (try clear hi)
    obtain ⟨Ao27, co27, eo27⟩ := Kd.R_slice HO525.out
    (first | subst eo27 | (injection eo27 with f1_ f2_ f3_; have f4_ := f1_.symm; have f5_ := f3_.symm; clear f1_ f2_ f3_; subst f4_; subst f5_))
    obtain ⟨Ao28, co28, eo28⟩ := Kd.R_slice HO528.out
    (first | subst eo28 | (injection eo28 with f1_ f2_ f3_; have f4_ := f1_.symm; have f5_ := f3_.symm; clear f1_ f2_ f3_; subst f4_; subst f5_))
    refine hK.out _ _ ⟨(E BK520.out 0).trans rfl, (E BK520.out 1).trans rfl, (E BK521.out 0).trans rfl, (E BK521.out 1).trans rfl⟩ (fun hHeld => ?_)
    clear hK K
    refine norm_ (a' := ?_) ?_ ?_
    rotate_left
    ·show Act.put _ (some 23) _ = _
     simp only [Act.put, z1', z2', z3', i64_w, i32_w]
     rfl
    refine one_ (i := 5) (N := some 24) #[y', y', y', y', y', y', n', n', n', y', n', n'] rfl rfl (one_of HT_.out (by kernel_rfl)) (by decide) (fun K hK => ?_)
    refine goes_ Try.func41 (by kernel_rfl) rfl #[.agg #[.slice Ao27 t523.length co27, .slice Ao28 t526.length co28], .int .i64 a1, .agg #[.int .i64 t529, .int .i64 t530]] (by rfl) rfl rfl (by (try simp only [List.map_toArray, List.map_cons, List.map_nil]); first | done | rfl | (simp only [List.length_drop, List.length_take]; rfl)) ?_
    with_reducible refine (spec_SquareOfTension.calls k _ _ t523 _ _ t526 a1 t529 t530 t531 t532 t533 _ ?side1 ?side2 ?side3 ?side4 A13.out).mono ?_
    (case side1 => repeat (first | exact (Kd.R_reads' HO525.out).2.2 | (with_reducible refine GG ?_ _) | (with_reducible refine GJ ?_ _) | (with_reducible refine GL ?_)))
    (case side2 => exact (Kd.R_reads' HO525.out).2.1)
    (case side3 => repeat (first | exact (Kd.R_reads' HO528.out).2.2 | (with_reducible refine GG ?_ _) | (with_reducible refine GJ ?_ _) | (with_reducible refine GL ?_)))
    (case side4 => exact (Kd.R_reads' HO528.out).2.1)
    rintro e w29 ⟨rfl, hb⟩
    refine ⟨_, rfl, ?_⟩
    have n0_ := G (B (by (with_reducible repeat (first | apply J | apply L | apply M)); exact HO525.out) hb)
    have n1_ := G (B (by (with_reducible repeat (first | apply J | apply L | apply M)); exact HO528.out) hb)
    have n2_ := G (F (g := gb520) (o := .cells #[.slice A0_0 l0_0.length c0_0, .slice A0_1 l0_1.length c0_1] 33 (0, 0)) (by (with_reducible repeat (first | refine U ?_ _ | refine X ?_ | refine V ?_ _)); exact BK520.out) hb)
    have n3_ := G (F (g := gb521) (o := .cells #[.int .i64 a2_0, .int .i64 a2_1] 62 (0, 0)) (by (with_reducible repeat (first | refine U ?_ _ | refine X ?_ | refine V ?_ _)); exact BK521.out) hb)
    have n4_ := G (F (g := gb534) (o := .cells #[.int .i64 0, .int .i64 0] 63 (0, 0)) (by (with_reducible repeat (first | refine U ?_ _ | refine X ?_ | refine V ?_ _)); exact BK534.out) hb)
    have n5_ := G (GN (by repeat (first | (with_reducible first | exact HB.out | apply Z | apply T | apply Y | refine O ?_ GE520.out | refine O ?_ GE521.out | refine O ?_ GE534.out) | exact HB.out)) hb)
    clear HO525
    clear HO528
    clear BK520
    clear BK521
    clear BK534
    clear HB
    have HO525 := n0_
    have HO528 := n1_
    have BK520 := n2_
    have BK521 := n3_
    have BK534 := n4_
    have HB := n5_
    clear n0_ n1_ n2_ n3_ n4_ n5_
    (try clear hb)
    (try clear hb2)
    (try clear hk)
    (try clear hi)
    refine hK.out _ _ ⟨(E BK520.out 0).trans rfl, (E BK520.out 1).trans rfl, (E BK521.out 0).trans rfl, (E BK521.out 1).trans rfl⟩ (fun hHeld => ?_)
    clear hK K
    refine norm_ (a' := ?_) ?_ ?_
    rotate_left
    ·show Act.put _ (some 24) _ = _
     simp only [Act.put, z1', z2', z3', i64_w, i32_w]
     rfl
    refine pure_ (i := 6) (N := some 18) (v := ?_) (a' := ?_) #[y', y', y', y', y', y', y', n', n', y', n', n'] rfl rfl (any_of HT_.out (by kernel_rfl)) (fun _ _ _ h => h) (Or.inl ⟨by rfl, ?_⟩) ?_ ?_
    rotate_left
    ·intro w'
     go_simp
     with_reducible rfl
    rotate_left
    ·simp only [Act.put, z1', z2', z3', i64_w, i32_w]
     rfl
    refine pure_ (i := 7) (N := some 25) (v := ?_) (a' := ?_) #[y', y', y', y', y', y', y', y', n', y', n', n'] rfl rfl (any_of HT_.out (by kernel_rfl)) (fun _ _ _ h => h) (Or.inl ⟨by rfl, ?_⟩) ?_ ?_
    rotate_left
    ·intro w'
     go_simp
     with_reducible rfl
    rotate_left
    ·simp only [Act.put, z1', z2', z3', i64_w, i32_w]
     rfl
    refine pure_ (i := 8) (N := some 26) (v := ?_) (a' := ?_) #[y', y', y', y', y', y', y', y', y', y', n', n'] rfl rfl (any_of HT_.out (by kernel_rfl)) (fun _ _ _ h => h) (Or.inl ⟨by rfl, ?_⟩) ?_ ?_
    rotate_left
    ·intro w'
     go_simp
     with_reducible rfl
    rotate_left
    ·simp only [Act.put, z1', z2', z3', i64_w, i32_w]
     rfl
    exact norm_ (by simp only [putAll, Act.put, List.setIfInBounds_toArray, List.set_cons_zero, List.set_cons_succ]) (hCont (.slice Ao27 t523.length co27, .slice Ao28 t526.length co28, gb534) _ ⟨hHeld, (by (with_reducible repeat (first | apply J | apply L | apply M)); exact HO525.out), (by (with_reducible repeat (first | apply J | apply L | apply M)); exact HO528.out), (by (with_reducible repeat (first | refine U ?_ _ | refine X ?_ | refine V ?_ _)); exact BK520.out), (by (with_reducible repeat (first | refine U ?_ _ | refine X ?_ | refine V ?_ _)); exact BK521.out), (by (with_reducible repeat (first | refine U ?_ _ | refine X ?_ | refine V ?_ _)); exact BK534.out), GW534.out, GE534.out, NB520_534.out, NB534_520.out, NB521_534.out, NB534_521.out, (by repeat (first | (with_reducible first | exact HB.out | apply Z | apply T | apply Y | refine O ?_ GE520.out | refine O ?_ GE521.out | refine O ?_ GE534.out) | exact HB.out))⟩)
  rintro ⟨v524, v527, gb534⟩ w30 ⟨hS_, h0_, h1_, h2_, h3_, h4_, h5_, h6_, h7_, h8_, h9_, h10_, h11_⟩
  have n0_ : Aside0 (Kd.R k82 82 w30 w.heap.size (fun _ => True) v524 t523) := ⟨h0_⟩
  have n1_ : Aside0 (Kd.R k84 84 w30 w.heap.size (fun _ => True) v527 t526) := ⟨h1_⟩
  have n2_ : Aside0 (w30.heap[gb520]? = some (.cells #[.slice A0_0 l0_0.length c0_0, .slice A0_1 l0_1.length c0_1] 33 (0, 0))) := ⟨h2_⟩
  have n3_ : Aside0 (w30.heap[gb521]? = some (.cells #[.int .i64 a2_0, .int .i64 a2_1] 62 (0, 0))) := ⟨h3_⟩
  have n4_ : Aside0 (w30.heap[gb534]? = some (.cells #[.int .i64 0, .int .i64 0] 63 (0, 0))) := ⟨h4_⟩
  have n5_ : Aside0 (w.heap.size ≤ gb534) := ⟨h5_⟩
  have n6_ : Aside0 (w.heap.size ≤ gb534) := ⟨h6_⟩
  have n7_ : Aside0 (gb520 ≠ gb534) := ⟨h7_⟩
  have n8_ : Aside0 (gb534 ≠ gb520) := ⟨h8_⟩
  have n9_ : Aside0 (gb521 ≠ gb534) := ⟨h9_⟩
  have n10_ : Aside0 (gb534 ≠ gb521) := ⟨h10_⟩
  have n11_ : Aside0 (Below w.heap.size w w30) := ⟨h11_⟩
  clear BK520
  clear BK521
  clear HB
  clear h0_ h1_ h2_ h3_ h4_ h5_ h6_ h7_ h8_ h9_ h10_ h11_
  have HO525 := n0_
  have HO528 := n1_
  have BK520 := n2_
  have BK521 := n3_
  have BK534 := n4_
  have GW534 := n5_
  have GE534 := n6_
  have NB520_534 := n7_
  have NB534_520 := n8_
  have NB521_534 := n9_
  have NB534_521 := n10_
  have HB := n11_
  clear n0_ n1_ n2_ n3_ n4_ n5_ n6_ n7_ n8_ n9_ n10_ n11_
  have hHeld : w30.cell? ⟨gb520, 0, none⟩ = some (.slice A0_0 l0_0.length c0_0) ∧ w30.cell? ⟨gb520, 1, none⟩ = some (.slice A0_1 l0_1.length c0_1) ∧ w30.cell? ⟨gb521, 0, none⟩ = some (.int .i64 a2_0) ∧ w30.cell? ⟨gb521, 1, none⟩ = some (.int .i64 a2_1) := hS_
  refine norm_ (a' := ?_) ?_ ?_
  rotate_left
  ·simp only [putAll, Act.put, List.setIfInBounds_toArray, List.set_cons_zero, List.set_cons_succ]
   rfl
  refine one_ (i := 10) (N := none) #[y', y', y', y', y', y', y', y', y', y', y', n'] rfl rfl (one_of HT_.out (by kernel_rfl)) (by decide) (fun K hK => ?_)
  have hs31 : w30.cell? ⟨gb534, 0, none⟩ = some (.int .i64 0) := (E BK534.out 0).trans rfl
  have hfs31 := GT BK534.out 0
  have hns31_0 := NB520_534.out
  have hns31_1 := NB521_534.out
  have hms31_0 := NB534_520.out
  have hms31_1 := NB534_521.out
  have hs32 : w30.cell? ⟨gb534, 1, none⟩ = some (.int .i64 0) := (E BK534.out 1).trans rfl
  have hfs32 := GT BK534.out 1
  have hns32_0 := NB520_534.out
  have hns32_1 := NB521_534.out
  have hms32_0 := NB534_520.out
  have hms32_1 := NB534_521.out
  refine skip_ (w1 := ?_) (by rfl) rfl ?_ ?_
  rotate_left
  ·go_simp
   rfl
  refine hK.out _ _ ⟨((cell_far (p := ⟨gb534, _, none⟩) NB520_534.out _).trans (((cell_far (p := ⟨gb534, _, none⟩) NB520_534.out _).trans (hHeld.1)))), ((cell_far (p := ⟨gb534, _, none⟩) NB520_534.out _).trans (((cell_far (p := ⟨gb534, _, none⟩) NB520_534.out _).trans (hHeld.2.1)))), ((cell_far (p := ⟨gb534, _, none⟩) NB521_534.out _).trans (((cell_far (p := ⟨gb534, _, none⟩) NB521_534.out _).trans (hHeld.2.2.1)))), ((cell_far (p := ⟨gb534, _, none⟩) NB521_534.out _).trans (((cell_far (p := ⟨gb534, _, none⟩) NB521_534.out _).trans (hHeld.2.2.2))))⟩ (fun hHeld => ?_)
  clear hK K
  refine pure_ (i := 11) (N := some 9) (v := ?_) (a' := ?_) #[y', y', y', y', y', y', y', y', y', y', y', y'] rfl rfl (any_of HT_.out (by kernel_rfl)) (fun _ _ _ h => h) (Or.inl ⟨by rfl, ?_⟩) ?_ ?_
  rotate_left
  ·intro w'
   go_simp
   with_reducible rfl
  rotate_left
  ·simp only [Act.put, z1', z2', z3', i64_w, i32_w]
   rfl
  refine done_ (done_of HT_.out (by kernel_rfl)) ?_
  have hnb33 := NB520_534.out
  have hnc33 := NB534_520.out
  have hcz34_0 : w30.cell? ⟨gb520, 0, none⟩ = some (.slice A0_0 l0_0.length c0_0) := (E BK520.out 0).trans rfl
  have hcz34_1 : w30.cell? ⟨gb520, 1, none⟩ = some (.slice A0_1 l0_1.length c0_1) := (E BK520.out 1).trans rfl
  have hfz34_0 := GT BK520.out 0
  have hfz34_1 := GT BK520.out 1
  try go_wp2_with (first | ((with_reducible refine gate_callee (f := 21) rfl ?_); refine goesL_ (some 28) rfl rfl Try.func21 (by kernel_rfl) rfl #[.agg #[.slice A0_0 l0_0.length c0_0, .slice A0_1 l0_1.length c0_1]] rfl (by (try simp only [List.map_toArray, List.map_cons, List.map_nil]); first | done | rfl | (simp only [List.length_drop, List.length_take]; rfl)) ?_; (with_reducible refine (laws_toFrame.calls k _ _ l0_0 _ _ l0_1 t535 t538 _ ?side1 ?side2 ?side3 ?side4 A14.out).mono ?_); (case side1 => exact GO HR0_0.out (by repeat (first | (with_reducible first | exact HB.out | apply Z | apply T | apply Y | refine O ?_ GE520.out | refine O ?_ GE521.out | refine O ?_ GE534.out) | exact HB.out))); (case side2 => exact HC0_0.out); (case side3 => exact GO HR0_1.out (by repeat (first | (with_reducible first | exact HB.out | apply Z | apply T | apply Y | refine O ?_ GE520.out | refine O ?_ GE521.out | refine O ?_ GE534.out) | exact HB.out))); (case side4 => exact HC0_1.out); rintro e w35 ⟨v536, v539, rfl, ho0, ho1, hb⟩; refine ⟨_, rfl, ?_⟩; have n0_ := G (Kd.R_elder' (by (with_reducible repeat (first | apply J | apply L | apply M)); exact (P (D (p := ⟨gb534, 1, none⟩) (D (p := ⟨gb534, 0, none⟩) (I HO525.out BK534.out (by decide)) (fun _ hk => hk.2) (.int .i64 t531)) (fun _ hk => hk.2) (.int .i64 t532)) (fun _ h_ => h_.1))) (Kd.R_base ho0) hb); have n1_ := G (Kd.R_elder' (by (with_reducible repeat (first | apply J | apply L | apply M)); exact (P (D (p := ⟨gb534, 1, none⟩) (D (p := ⟨gb534, 0, none⟩) (I HO528.out BK534.out (by decide)) (fun _ hk => hk.2) (.int .i64 t531)) (fun _ hk => hk.2) (.int .i64 t532)) (fun _ h_ => h_.1))) (Kd.R_base ho1) hb); have n2_ := G (Kd.R_lower (Kd.R_new' ho0 (Kd.R_lt (by (with_reducible repeat (first | apply J | apply L | apply M)); exact (P (D (p := ⟨gb534, 1, none⟩) (D (p := ⟨gb534, 0, none⟩) (I HO525.out BK534.out (by decide)) (fun _ hk => hk.2) (.int .i64 t531)) (fun _ hk => hk.2) (.int .i64 t532)) (fun _ h_ => h_.1))))) (GM (by repeat (first | (with_reducible first | exact HB.out | apply Z | apply T | apply Y | refine O ?_ GE520.out | refine O ?_ GE521.out | refine O ?_ GE534.out) | exact HB.out)))); have n3_ := G (Kd.R_lower (Kd.R_new' ho1 (Kd.R_lt (by (with_reducible repeat (first | apply J | apply L | apply M)); exact (P (D (p := ⟨gb534, 1, none⟩) (D (p := ⟨gb534, 0, none⟩) (I HO528.out BK534.out (by decide)) (fun _ hk => hk.2) (.int .i64 t531)) (fun _ hk => hk.2) (.int .i64 t532)) (fun _ h_ => h_.1))))) (GM (by repeat (first | (with_reducible first | exact HB.out | apply Z | apply T | apply Y | refine O ?_ GE520.out | refine O ?_ GE521.out | refine O ?_ GE534.out) | exact HB.out)))); have n4_ := G (F (g := gb520) (o := .cells #[.slice A0_0 l0_0.length c0_0, .slice A0_1 l0_1.length c0_1] 33 (0, 0)) (by (with_reducible repeat (first | refine U ?_ _ | refine X ?_ | refine V ?_ _)); refine blk_far ?_ NB520_534.out _; (with_reducible repeat (first | refine U ?_ _ | refine X ?_ | refine V ?_ _)); refine blk_far ?_ NB520_534.out _; (with_reducible repeat (first | refine U ?_ _ | refine X ?_ | refine V ?_ _)); exact BK520.out) hb); have n5_ := G (F (g := gb521) (o := .cells #[.int .i64 a2_0, .int .i64 a2_1] 62 (0, 0)) (by (with_reducible repeat (first | refine U ?_ _ | refine X ?_ | refine V ?_ _)); refine blk_far ?_ NB521_534.out _; (with_reducible repeat (first | refine U ?_ _ | refine X ?_ | refine V ?_ _)); refine blk_far ?_ NB521_534.out _; (with_reducible repeat (first | refine U ?_ _ | refine X ?_ | refine V ?_ _)); exact BK521.out) hb); have n6_ := G (F (g := gb534) (o := .cells #[.int .i64 t531, .int .i64 t532] 63 (0, 0)) (by (with_reducible repeat (first | refine U ?_ _ | refine X ?_ | refine V ?_ _)); refine blk_put (cs := #[.int .i64 t531, .int .i64 0]) ?_ 1 _ rfl; (with_reducible repeat (first | refine U ?_ _ | refine X ?_ | refine V ?_ _)); refine blk_put (cs := #[.int .i64 0, .int .i64 0]) ?_ 0 _ rfl; (with_reducible repeat (first | refine U ?_ _ | refine X ?_ | refine V ?_ _)); exact BK534.out) hb); have n7_ := G (GN (by repeat (first | (with_reducible first | exact HB.out | apply Z | apply T | apply Y | refine O ?_ GE520.out | refine O ?_ GE521.out | refine O ?_ GE534.out) | exact HB.out)) hb); clear HO525; clear HO528; clear BK520; clear BK521; clear BK534; clear HB; have HO525 := n0_; have HO528 := n1_; have HO537 := n2_; have HO540 := n3_; have BK520 := n4_; have BK521 := n5_; have BK534 := n6_; have HB := n7_; clear n0_ n1_ n2_ n3_ n4_ n5_ n6_ n7_; (try clear hb); (try clear hb2); (try clear hk); (try clear hi); (try clear ho0); (try clear ho1)) | ((with_reducible refine gate_dst (N := 10) rfl ?_); refine box_event ?hg (N := 10) ?hd (cs := #[.slice none 0 0, .slice none 0 0]) (t := 39) ?hr ?_; (case hd => rfl); (case hg => rfl); (case hr => first | (go_simp; done) | (go_simp; rfl)); intro gb541 hg w36 hbox hb; have n0_ := G (B (by (with_reducible repeat (first | apply J | apply L | apply M)); exact HO525.out) hb); have n1_ := G (B (by (with_reducible repeat (first | apply J | apply L | apply M)); exact HO528.out) hb); have n2_ := G (B (by (with_reducible repeat (first | apply J | apply L | apply M)); exact HO537.out) hb); have n3_ := G (B (by (with_reducible repeat (first | apply J | apply L | apply M)); exact HO540.out) hb); have n4_ := G (F (g := gb520) (o := .cells #[.slice A0_0 l0_0.length c0_0, .slice A0_1 l0_1.length c0_1] 33 (0, 0)) (by (with_reducible repeat (first | refine U ?_ _ | refine X ?_ | refine V ?_ _)); exact BK520.out) hb); have n5_ := G (F (g := gb521) (o := .cells #[.int .i64 a2_0, .int .i64 a2_1] 62 (0, 0)) (by (with_reducible repeat (first | refine U ?_ _ | refine X ?_ | refine V ?_ _)); exact BK521.out) hb); have n6_ := G (F (g := gb534) (o := .cells #[.int .i64 t531, .int .i64 t532] 63 (0, 0)) (by (with_reducible repeat (first | refine U ?_ _ | refine X ?_ | refine V ?_ _)); exact BK534.out) hb); have n7_ := G (GN (by repeat (first | (with_reducible first | exact HB.out | apply Z | apply T | apply Y | refine O ?_ GE520.out | refine O ?_ GE521.out | refine O ?_ GE534.out) | exact HB.out)) hb); have n8_ := G (hbox); have n9_ := G ((by rw [hg]; exact (GM (by repeat (first | (with_reducible first | exact HB.out | apply Z | apply T | apply Y | refine O ?_ GE520.out | refine O ?_ GE521.out | refine O ?_ GE534.out) | exact HB.out))) : w.heap.size ≤ gb541)); have n10_ := G ((by rw [hg]; exact (GM (by repeat (first | (with_reducible first | exact HB.out | apply Z | apply T | apply Y | refine O ?_ GE520.out | refine O ?_ GE521.out | refine O ?_ GE534.out) | exact HB.out))) : w.heap.size ≤ gb541)); have n11_ := G ((by rw [hg]; exact Nat.ne_of_lt (blk_lt (g := gb520) (o := .cells #[.slice A0_0 l0_0.length c0_0, .slice A0_1 l0_1.length c0_1] 33 (0, 0)) (by (with_reducible repeat (first | refine U ?_ _ | refine X ?_ | refine V ?_ _)); exact BK520.out)) : gb520 ≠ gb541)); have n12_ := G ((by rw [hg]; exact Nat.ne_of_gt (blk_lt (g := gb520) (o := .cells #[.slice A0_0 l0_0.length c0_0, .slice A0_1 l0_1.length c0_1] 33 (0, 0)) (by (with_reducible repeat (first | refine U ?_ _ | refine X ?_ | refine V ?_ _)); exact BK520.out)) : gb541 ≠ gb520)); have n13_ := G ((by rw [hg]; exact Nat.ne_of_lt (blk_lt (g := gb521) (o := .cells #[.int .i64 a2_0, .int .i64 a2_1] 62 (0, 0)) (by (with_reducible repeat (first | refine U ?_ _ | refine X ?_ | refine V ?_ _)); exact BK521.out)) : gb521 ≠ gb541)); have n14_ := G ((by rw [hg]; exact Nat.ne_of_gt (blk_lt (g := gb521) (o := .cells #[.int .i64 a2_0, .int .i64 a2_1] 62 (0, 0)) (by (with_reducible repeat (first | refine U ?_ _ | refine X ?_ | refine V ?_ _)); exact BK521.out)) : gb541 ≠ gb521)); have n15_ := G ((by rw [hg]; exact Nat.ne_of_lt (blk_lt (g := gb534) (o := .cells #[.int .i64 t531, .int .i64 t532] 63 (0, 0)) (by (with_reducible repeat (first | refine U ?_ _ | refine X ?_ | refine V ?_ _)); exact BK534.out)) : gb534 ≠ gb541)); have n16_ := G ((by rw [hg]; exact Nat.ne_of_gt (blk_lt (g := gb534) (o := .cells #[.int .i64 t531, .int .i64 t532] 63 (0, 0)) (by (with_reducible repeat (first | refine U ?_ _ | refine X ?_ | refine V ?_ _)); exact BK534.out)) : gb541 ≠ gb534)); clear HO525; clear HO528; clear HO537; clear HO540; clear BK520; clear BK521; clear BK534; clear HB; have HO525 := n0_; have HO528 := n1_; have HO537 := n2_; have HO540 := n3_; have BK520 := n4_; have BK521 := n5_; have BK534 := n6_; have HB := n7_; have BK541 := n8_; have GW541 := n9_; have GE541 := n10_; have NB520_541 := n11_; have NB541_520 := n12_; have NB521_541 := n13_; have NB541_521 := n14_; have NB534_541 := n15_; have NB541_534 := n16_; clear n0_ n1_ n2_ n3_ n4_ n5_ n6_ n7_ n8_ n9_ n10_ n11_ n12_ n13_ n14_ n15_ n16_; clear hb hbox hg; obtain ⟨Ao37, co37, eo37⟩ := Kd.R_slice HO537.out; subst eo37; have hnb38 := NB541_520.out; have hnc38 := NB520_541.out; have hnb39 := NB541_521.out; have hnc39 := NB521_541.out; have hnb40 := NB541_534.out; have hnc40 := NB534_541.out; have hcz41_0 : w36.cell? ⟨gb541, 0, none⟩ = some (.slice none 0 0) := (E BK541.out 0).trans rfl; have hcz41_1 : w36.cell? ⟨gb541, 1, none⟩ = some (.slice none 0 0) := (E BK541.out 1).trans rfl; have hfz41_0 := GT BK541.out 0; have hfz41_1 := GT BK541.out 1; obtain ⟨Ao42, co42, eo42⟩ := Kd.R_slice HO540.out; subst eo42))
  have n0_ : Aside0 (Kd.R k82 82 ((w36.setCell ⟨gb541, 0, none⟩ (.slice Ao37 t535.length co37)).setCell ⟨gb541, 1, none⟩ (.slice Ao42 t538.length co42)) w.heap.size (fun k_ => some k_ ≠ (.slice Ao37 t535.length co37 : Value).ownBlock) v524 t523) := ⟨by (with_reducible repeat (first | apply J | apply L | apply M)); exact P (D (p := ⟨gb541, 1, none⟩) (D (p := ⟨gb541, 0, none⟩) (I HO525.out BK541.out (by decide)) (fun _ hk => hk.2) (.slice Ao37 t535.length co37)) (fun _ hk => hk.2) (.slice Ao42 t538.length co42)) (fun _ hk => hk.1.2)⟩
  have n1_ : Aside0 (Kd.R k84 84 ((w36.setCell ⟨gb541, 0, none⟩ (.slice Ao37 t535.length co37)).setCell ⟨gb541, 1, none⟩ (.slice Ao42 t538.length co42)) w.heap.size (fun k_ => some k_ ≠ (.slice Ao42 t538.length co42 : Value).ownBlock) v527 t526) := ⟨by (with_reducible repeat (first | apply J | apply L | apply M)); exact P (D (p := ⟨gb541, 1, none⟩) (D (p := ⟨gb541, 0, none⟩) (I HO528.out BK541.out (by decide)) (fun _ hk => hk.2) (.slice Ao37 t535.length co37)) (fun _ hk => hk.2) (.slice Ao42 t538.length co42)) (fun _ hk => hk.1.2)⟩
  have n2_ : Aside0 (Kd.R k82 82 ((w36.setCell ⟨gb541, 0, none⟩ (.slice Ao37 t535.length co37)).setCell ⟨gb541, 1, none⟩ (.slice Ao42 t538.length co42)) w.heap.size (fun k_ => some k_ ≠ (v524 : Value).ownBlock) (.slice Ao37 t535.length co37) t535) := ⟨by (with_reducible repeat (first | apply J | apply L | apply M)); exact P (D (p := ⟨gb541, 1, none⟩) (D (p := ⟨gb541, 0, none⟩) (I HO537.out BK541.out (by decide)) (fun _ hk => hk.2) (.slice Ao37 t535.length co37)) (fun _ hk => hk.2) (.slice Ao42 t538.length co42)) (fun _ hk => hk.1.2)⟩
  have n3_ : Aside0 (Kd.R k84 84 ((w36.setCell ⟨gb541, 0, none⟩ (.slice Ao37 t535.length co37)).setCell ⟨gb541, 1, none⟩ (.slice Ao42 t538.length co42)) w.heap.size (fun k_ => some k_ ≠ (v527 : Value).ownBlock) (.slice Ao42 t538.length co42) t538) := ⟨by (with_reducible repeat (first | apply J | apply L | apply M)); exact P (D (p := ⟨gb541, 1, none⟩) (D (p := ⟨gb541, 0, none⟩) (I HO540.out BK541.out (by decide)) (fun _ hk => hk.2) (.slice Ao37 t535.length co37)) (fun _ hk => hk.2) (.slice Ao42 t538.length co42)) (fun _ hk => hk.1.2)⟩
  have n4_ : Aside0 (((w36.setCell ⟨gb541, 0, none⟩ (.slice Ao37 t535.length co37)).setCell ⟨gb541, 1, none⟩ (.slice Ao42 t538.length co42)).heap[gb520]? = some (.cells #[.slice A0_0 l0_0.length c0_0, .slice A0_1 l0_1.length c0_1] 33 (0, 0))) := ⟨by (with_reducible repeat (first | refine U ?_ _ | refine X ?_ | refine V ?_ _)); refine blk_far ?_ NB520_541.out _; (with_reducible repeat (first | refine U ?_ _ | refine X ?_ | refine V ?_ _)); refine blk_far ?_ NB520_541.out _; (with_reducible repeat (first | refine U ?_ _ | refine X ?_ | refine V ?_ _)); exact BK520.out⟩
  have n5_ : Aside0 (((w36.setCell ⟨gb541, 0, none⟩ (.slice Ao37 t535.length co37)).setCell ⟨gb541, 1, none⟩ (.slice Ao42 t538.length co42)).heap[gb521]? = some (.cells #[.int .i64 a2_0, .int .i64 a2_1] 62 (0, 0))) := ⟨by (with_reducible repeat (first | refine U ?_ _ | refine X ?_ | refine V ?_ _)); refine blk_far ?_ NB521_541.out _; (with_reducible repeat (first | refine U ?_ _ | refine X ?_ | refine V ?_ _)); refine blk_far ?_ NB521_541.out _; (with_reducible repeat (first | refine U ?_ _ | refine X ?_ | refine V ?_ _)); exact BK521.out⟩
  have n6_ : Aside0 (((w36.setCell ⟨gb541, 0, none⟩ (.slice Ao37 t535.length co37)).setCell ⟨gb541, 1, none⟩ (.slice Ao42 t538.length co42)).heap[gb534]? = some (.cells #[.int .i64 t531, .int .i64 t532] 63 (0, 0))) := ⟨by (with_reducible repeat (first | refine U ?_ _ | refine X ?_ | refine V ?_ _)); refine blk_far ?_ NB534_541.out _; (with_reducible repeat (first | refine U ?_ _ | refine X ?_ | refine V ?_ _)); refine blk_far ?_ NB534_541.out _; (with_reducible repeat (first | refine U ?_ _ | refine X ?_ | refine V ?_ _)); exact BK534.out⟩
  have n7_ : Aside0 (((w36.setCell ⟨gb541, 0, none⟩ (.slice Ao37 t535.length co37)).setCell ⟨gb541, 1, none⟩ (.slice Ao42 t538.length co42)).heap[gb541]? = some (.cells #[.slice Ao37 t535.length co37, .slice Ao42 t538.length co42] 39 (0, 0))) := ⟨by (with_reducible repeat (first | refine U ?_ _ | refine X ?_ | refine V ?_ _)); refine blk_put (cs := #[.slice Ao37 t535.length co37, .slice none 0 0]) ?_ 1 _ rfl; (with_reducible repeat (first | refine U ?_ _ | refine X ?_ | refine V ?_ _)); refine blk_put (cs := #[.slice none 0 0, .slice none 0 0]) ?_ 0 _ rfl; (with_reducible repeat (first | refine U ?_ _ | refine X ?_ | refine V ?_ _)); exact BK541.out⟩
  have n8_ : Aside0 (Below w.heap.size w ((w36.setCell ⟨gb541, 0, none⟩ (.slice Ao37 t535.length co37)).setCell ⟨gb541, 1, none⟩ (.slice Ao42 t538.length co42))) := ⟨by repeat (first | (with_reducible first | exact HB.out | apply Z | apply T | apply Y | refine O ?_ GE520.out | refine O ?_ GE521.out | refine O ?_ GE534.out | refine O ?_ GE541.out) | exact HB.out)⟩
  (try clear HO525)
  (try clear HO528)
  (try clear HO537)
  (try clear HO540)
  (try clear BK520)
  (try clear BK521)
  (try clear BK534)
  (try clear BK541)
  (try clear HB)
  generalize ((w36.setCell ⟨gb541, 0, none⟩ (.slice Ao37 t535.length co37)).setCell ⟨gb541, 1, none⟩ (.slice Ao42 t538.length co42)) = w43 at n0_ n1_ n2_ n3_ n4_ n5_ n6_ n7_ n8_ ⊢
  have HO525 := n0_
  have HO528 := n1_
  have HO537 := n2_
  have HO540 := n3_
  have BK520 := n4_
  have BK521 := n5_
  have BK534 := n6_
  have BK541 := n7_
  have HB := n8_
  clear n0_ n1_ n2_ n3_ n4_ n5_ n6_ n7_ n8_
  have n0_ := G (M HO525.out)
  have n1_ := G (M HO528.out)
  have n2_ := G (M HO537.out)
  have n3_ := G (M HO540.out)
  have n4_ := G (X BK520.out)
  have n5_ := G (X BK521.out)
  have n6_ := G (X BK534.out)
  have n7_ := G (X BK541.out)
  have n8_ := G (Y HB.out)
  clear HO525
  clear HO528
  clear HO537
  clear HO540
  clear BK520
  clear BK521
  clear BK534
  clear BK541
  clear HB
  have HO525 := n0_
  have HO528 := n1_
  have HO537 := n2_
  have HO540 := n3_
  have BK520 := n4_
  have BK521 := n5_
  have BK534 := n6_
  have BK541 := n7_
  have HB := n8_
  clear n0_ n1_ n2_ n3_ n4_ n5_ n6_ n7_ n8_
  refine start_ (n := 11) (S := fun w' => w'.cell? ⟨gb541, 0, none⟩ = some (.slice Ao37 t535.length co37) ∧ w'.cell? ⟨gb541, 1, none⟩ = some (.slice Ao42 t538.length co42) ∧ w'.cell? ⟨gb521, 0, none⟩ = some (.int .i64 a2_0) ∧ w'.cell? ⟨gb521, 1, none⟩ = some (.int .i64 a2_1)) (ds := []) #[n', n', n', n', n', n', n', n', n', n', n'] (by kernel_rfl) rfl rfl ⟨(E BK541.out 0).trans rfl, (E BK541.out 1).trans rfl, (E BK521.out 0).trans rfl, (E BK521.out 1).trans rfl⟩ (fun hHeld => ?_); refine with_tabW laws_FnExactSquareOfTension.tab7 laws_FnExactSquareOfTension.bits7 (fun HT_ HW_ => ?_)
  generalize w43.drew = w44 at HO525 HO528 HO537 HO540 BK520 BK521 BK534 BK541 HB hHeld ⊢
  refine pure_ (i := 1) (N := some 31) (v := ?_) (a' := ?_) #[n', y', n', n', n', n', n', n', n', n', n'] rfl rfl (any_of HT_.out (by kernel_rfl)) (fun _ _ _ h => h) (Or.inl ⟨by rfl, ?_⟩) ?_ ?_
  rotate_left
  ·intro w'
   go_simp
   with_reducible rfl
  rotate_left
  ·simp only [Act.put, z1', z2', z3', i64_w, i32_w]
   rfl
  refine take_ (i := 0) (N := some 30) (v := ?_) (a' := ?_) #[y', y', n', n', n', n', n', n', n', n', n'] rfl rfl (take_ofW HT_.out HW_.out (by kernel_rfl)) (fun _ _ _ h => h) (Or.inl ⟨by rfl, ?_⟩) hHeld ?_ ?_
  rotate_left
  ·rintro w' ⟨s0, s1, s2, s3⟩
   go_simp
   with_reducible rfl
  rotate_left
  ·simp only [Act.put, z1', z2', z3', i64_w, i32_w]
   rfl
  refine take_ (i := 2) (N := some 32) (v := ?_) (a' := ?_) #[y', y', y', n', n', n', n', n', n', n', n'] rfl rfl (take_ofW HT_.out HW_.out (by kernel_rfl)) (fun _ _ _ h => h) (Or.inl ⟨by rfl, ?_⟩) hHeld ?_ ?_
  rotate_left
  ·rintro w' ⟨s0, s1, s2, s3⟩
   go_simp
   with_reducible rfl
  rotate_left
  ·simp only [Act.put, z1', z2', z3', i64_w, i32_w]
   rfl
  refine join_ (σ := Nat) 2 #[y', y', y', y', y', y', y', y', y', n', n'] (fun s_ => [(33, .agg #[.int .i64 t542, .int .i64 t543]), (34, .tuple #[.agg #[.int .i64 t544, .int .i64 t545], .int .i64 t546]), (11, .pointer (some ⟨s_, 0, none⟩)), (29, .tuple #[.agg #[.int .i64 t544, .int .i64 t545], .int .i64 t546]), (35, .agg #[.int .i64 t544, .int .i64 t545]), (36, .int .i64 t546)]) (fun s_ w' => (w'.cell? ⟨gb541, 0, none⟩ = some (.slice Ao37 t535.length co37) ∧ w'.cell? ⟨gb541, 1, none⟩ = some (.slice Ao42 t538.length co42) ∧ w'.cell? ⟨gb521, 0, none⟩ = some (.int .i64 a2_0) ∧ w'.cell? ⟨gb521, 1, none⟩ = some (.int .i64 a2_1)) ∧ (Kd.R k82 82 w' w.heap.size (fun k_ => some k_ ≠ (.slice Ao37 t535.length co37 : Value).ownBlock) v524 t523) ∧ (Kd.R k84 84 w' w.heap.size (fun k_ => some k_ ≠ (.slice Ao42 t538.length co42 : Value).ownBlock) v527 t526) ∧ (Kd.R k82 82 w' w.heap.size (fun k_ => some k_ ≠ (v524 : Value).ownBlock) (.slice Ao37 t535.length co37) t535) ∧ (Kd.R k84 84 w' w.heap.size (fun k_ => some k_ ≠ (v527 : Value).ownBlock) (.slice Ao42 t538.length co42) t538) ∧ (w'.heap[gb520]? = some (.cells #[.slice A0_0 l0_0.length c0_0, .slice A0_1 l0_1.length c0_1] 33 (0, 0))) ∧ (w'.heap[gb521]? = some (.cells #[.int .i64 a2_0, .int .i64 a2_1] 62 (0, 0))) ∧ (w'.heap[gb534]? = some (.cells #[.int .i64 t531, .int .i64 t532] 63 (0, 0))) ∧ (w'.heap[gb541]? = some (.cells #[.slice Ao37 t535.length co37, .slice Ao42 t538.length co42] 39 (0, 0))) ∧ (w'.heap[s_]? = some (.cells #[.int .i64 0, .int .i64 0] 63 (0, 0))) ∧ (w.heap.size ≤ s_) ∧ (w.heap.size ≤ s_) ∧ (gb520 ≠ s_) ∧ (s_ ≠ gb520) ∧ (gb521 ≠ s_) ∧ (s_ ≠ gb521) ∧ (gb534 ≠ s_) ∧ (s_ ≠ gb534) ∧ (gb541 ≠ s_) ∧ (s_ ≠ gb541) ∧ (Below w.heap.size w w')) ?_ ?_
  rotate_left
  ·intro hCont
   refine two_ (i := 3) (j := 8) (Ni := some 33) (Nj := some 11) #[y', y', y', y', n', n', n', n', n', n', n'] #[y', y', y', n', n', n', n', n', y', n', n'] rfl rfl rfl rfl (two_of HT_.out (by kernel_rfl)) (by decide) (by decide) (fun K hK => ?_) (fun K hK => ?_)
   ·skip
    refine goes_ Try.func42 (by kernel_rfl) rfl #[.agg #[.int .i64 a2_0, .int .i64 a2_1]] (by rfl) rfl rfl (by (try simp only [List.map_toArray, List.map_cons, List.map_nil]); first | done | rfl | (simp only [List.length_drop, List.length_take]; rfl)) ?_
    with_reducible refine (laws_toFraction.calls a2_0 a2_1 t542 t543 _ A15.out).mono ?_
    rintro e w45 ⟨rfl, hb⟩
    refine ⟨_, rfl, ?_⟩
    have n0_ := G (B (by (with_reducible repeat (first | apply J | apply L | apply M)); exact HO525.out) hb)
    have n1_ := G (B (by (with_reducible repeat (first | apply J | apply L | apply M)); exact HO528.out) hb)
    have n2_ := G (B (by (with_reducible repeat (first | apply J | apply L | apply M)); exact HO537.out) hb)
    have n3_ := G (B (by (with_reducible repeat (first | apply J | apply L | apply M)); exact HO540.out) hb)
    have n4_ := G (F (g := gb520) (o := .cells #[.slice A0_0 l0_0.length c0_0, .slice A0_1 l0_1.length c0_1] 33 (0, 0)) (by (with_reducible repeat (first | refine U ?_ _ | refine X ?_ | refine V ?_ _)); exact BK520.out) hb)
    have n5_ := G (F (g := gb521) (o := .cells #[.int .i64 a2_0, .int .i64 a2_1] 62 (0, 0)) (by (with_reducible repeat (first | refine U ?_ _ | refine X ?_ | refine V ?_ _)); exact BK521.out) hb)
    have n6_ := G (F (g := gb534) (o := .cells #[.int .i64 t531, .int .i64 t532] 63 (0, 0)) (by (with_reducible repeat (first | refine U ?_ _ | refine X ?_ | refine V ?_ _)); exact BK534.out) hb)
    have n7_ := G (F (g := gb541) (o := .cells #[.slice Ao37 t535.length co37, .slice Ao42 t538.length co42] 39 (0, 0)) (by (with_reducible repeat (first | refine U ?_ _ | refine X ?_ | refine V ?_ _)); exact BK541.out) hb)
    have n8_ := G (GN (by repeat (first | (with_reducible first | exact HB.out | apply Z | apply T | apply Y | refine O ?_ GE520.out | refine O ?_ GE521.out | refine O ?_ GE534.out | refine O ?_ GE541.out) | exact HB.out)) hb)
    clear HO525
    clear HO528
    clear HO537
    clear HO540
    clear BK520
    clear BK521
    clear BK534
    clear BK541
    clear HB
    have HO525 := n0_
    have HO528 := n1_
    have HO537 := n2_
    have HO540 := n3_
    have BK520 := n4_
    have BK521 := n5_
    have BK534 := n6_
    have BK541 := n7_
    have HB := n8_
    clear n0_ n1_ n2_ n3_ n4_ n5_ n6_ n7_ n8_
    (try clear hb)
    (try clear hb2)
    (try clear hk)
    (try clear hi)
    refine hK.out _ _ ⟨(E BK541.out 0).trans rfl, (E BK541.out 1).trans rfl, (E BK521.out 0).trans rfl, (E BK521.out 1).trans rfl⟩ (fun hHeld => ?_)
    clear hK K
    refine norm_ (a' := ?_) ?_ ?_
    rotate_left
    ·show Act.put _ (some 33) _ = _
     simp only [Act.put, z1', z2', z3', i64_w, i32_w]
     rfl
    refine two_ (i := 4) (j := 8) (Ni := some 34) (Nj := some 11) #[y', y', y', y', y', n', n', n', n', n', n'] #[y', y', y', y', n', n', n', n', y', n', n'] rfl rfl rfl rfl (two_of HT_.out (by kernel_rfl)) (by decide) (by decide) (fun K hK => ?_) (fun K hK => ?_)
    ·skip
     refine goes_ Try.func43 (by kernel_rfl) rfl #[.agg #[.slice Ao37 t535.length co37, .slice Ao42 t538.length co42], .int .i64 a1, .agg #[.int .i64 t542, .int .i64 t543]] (by rfl) rfl rfl (by (try simp only [List.map_toArray, List.map_cons, List.map_nil]); first | done | rfl | (simp only [List.length_drop, List.length_take]; rfl)) ?_
     with_reducible refine (impl_SquareOfTension.calls k _ _ t535 _ _ t538 a1 t542 t543 t544 t545 t546 _ ?side1 ?side2 ?side3 ?side4 A16.out).mono ?_
     (case side1 => repeat (first | exact (Kd.R_reads' HO537.out).2.2 | (with_reducible refine GG ?_ _) | (with_reducible refine GJ ?_ _) | (with_reducible refine GL ?_)))
     (case side2 => exact (Kd.R_reads' HO537.out).2.1)
     (case side3 => repeat (first | exact (Kd.R_reads' HO540.out).2.2 | (with_reducible refine GG ?_ _) | (with_reducible refine GJ ?_ _) | (with_reducible refine GL ?_)))
     (case side4 => exact (Kd.R_reads' HO540.out).2.1)
     rintro e w46 ⟨rfl, hb⟩
     refine ⟨_, rfl, ?_⟩
     have n0_ := G (B (by (with_reducible repeat (first | apply J | apply L | apply M)); exact HO525.out) hb)
     have n1_ := G (B (by (with_reducible repeat (first | apply J | apply L | apply M)); exact HO528.out) hb)
     have n2_ := G (B (by (with_reducible repeat (first | apply J | apply L | apply M)); exact HO537.out) hb)
     have n3_ := G (B (by (with_reducible repeat (first | apply J | apply L | apply M)); exact HO540.out) hb)
     have n4_ := G (F (g := gb520) (o := .cells #[.slice A0_0 l0_0.length c0_0, .slice A0_1 l0_1.length c0_1] 33 (0, 0)) (by (with_reducible repeat (first | refine U ?_ _ | refine X ?_ | refine V ?_ _)); exact BK520.out) hb)
     have n5_ := G (F (g := gb521) (o := .cells #[.int .i64 a2_0, .int .i64 a2_1] 62 (0, 0)) (by (with_reducible repeat (first | refine U ?_ _ | refine X ?_ | refine V ?_ _)); exact BK521.out) hb)
     have n6_ := G (F (g := gb534) (o := .cells #[.int .i64 t531, .int .i64 t532] 63 (0, 0)) (by (with_reducible repeat (first | refine U ?_ _ | refine X ?_ | refine V ?_ _)); exact BK534.out) hb)
     have n7_ := G (F (g := gb541) (o := .cells #[.slice Ao37 t535.length co37, .slice Ao42 t538.length co42] 39 (0, 0)) (by (with_reducible repeat (first | refine U ?_ _ | refine X ?_ | refine V ?_ _)); exact BK541.out) hb)
     have n8_ := G (GN (by repeat (first | (with_reducible first | exact HB.out | apply Z | apply T | apply Y | refine O ?_ GE520.out | refine O ?_ GE521.out | refine O ?_ GE534.out | refine O ?_ GE541.out) | exact HB.out)) hb)
     clear HO525
     clear HO528
     clear HO537
     clear HO540
     clear BK520
     clear BK521
     clear BK534
     clear BK541
     clear HB
     have HO525 := n0_
     have HO528 := n1_
     have HO537 := n2_
     have HO540 := n3_
     have BK520 := n4_
     have BK521 := n5_
     have BK534 := n6_
     have BK541 := n7_
     have HB := n8_
     clear n0_ n1_ n2_ n3_ n4_ n5_ n6_ n7_ n8_
     (try clear hb)
     (try clear hb2)
     (try clear hk)
     (try clear hi)
     refine hK.out _ _ ⟨(E BK541.out 0).trans rfl, (E BK541.out 1).trans rfl, (E BK521.out 0).trans rfl, (E BK521.out 1).trans rfl⟩ (fun hHeld => ?_)
     clear hK K
     refine norm_ (a' := ?_) ?_ ?_
     rotate_left
     ·show Act.put _ (some 34) _ = _
      simp only [Act.put, z1', z2', z3', i64_w, i32_w]
      rfl
     refine pure_ (i := 5) (N := some 29) (v := ?_) (a' := ?_) #[y', y', y', y', y', y', n', n', n', n', n'] rfl rfl (any_of HT_.out (by kernel_rfl)) (fun _ _ _ h => h) (Or.inl ⟨by rfl, ?_⟩) ?_ ?_
     rotate_left
     ·intro w'
      go_simp
      with_reducible rfl
     rotate_left
     ·simp only [Act.put, z1', z2', z3', i64_w, i32_w]
      rfl
     refine pure_ (i := 6) (N := some 35) (v := ?_) (a' := ?_) #[y', y', y', y', y', y', y', n', n', n', n'] rfl rfl (any_of HT_.out (by kernel_rfl)) (fun _ _ _ h => h) (Or.inl ⟨by rfl, ?_⟩) ?_ ?_
     rotate_left
     ·intro w'
      go_simp
      with_reducible rfl
     rotate_left
     ·simp only [Act.put, z1', z2', z3', i64_w, i32_w]
      rfl
     refine pure_ (i := 7) (N := some 36) (v := ?_) (a' := ?_) #[y', y', y', y', y', y', y', y', n', n', n'] rfl rfl (any_of HT_.out (by kernel_rfl)) (fun _ _ _ h => h) (Or.inl ⟨by rfl, ?_⟩) ?_ ?_
     rotate_left
     ·intro w'
      go_simp
      with_reducible rfl
     rotate_left
     ·simp only [Act.put, z1', z2', z3', i64_w, i32_w]
      rfl
     refine one_ (i := 8) (N := some 11) #[y', y', y', y', y', y', y', y', y', n', n'] rfl rfl (one_of HT_.out (by kernel_rfl)) (by decide) (fun K hK => ?_)
     refine box_step ?hg (N := 11) ?hd (cs := #[.int .i64 0, .int .i64 0]) (t := 63) ?hr ?_; (case hd => rfl); (case hg => rfl); (case hr => first | (go_simp; done) | (go_simp; rfl))
     intro gb547 hg w47 hbox hb
     have n0_ := G (B (by (with_reducible repeat (first | apply J | apply L | apply M)); exact HO525.out) hb)
     have n1_ := G (B (by (with_reducible repeat (first | apply J | apply L | apply M)); exact HO528.out) hb)
     have n2_ := G (B (by (with_reducible repeat (first | apply J | apply L | apply M)); exact HO537.out) hb)
     have n3_ := G (B (by (with_reducible repeat (first | apply J | apply L | apply M)); exact HO540.out) hb)
     have n4_ := G (F (g := gb520) (o := .cells #[.slice A0_0 l0_0.length c0_0, .slice A0_1 l0_1.length c0_1] 33 (0, 0)) (by (with_reducible repeat (first | refine U ?_ _ | refine X ?_ | refine V ?_ _)); exact BK520.out) hb)
     have n5_ := G (F (g := gb521) (o := .cells #[.int .i64 a2_0, .int .i64 a2_1] 62 (0, 0)) (by (with_reducible repeat (first | refine U ?_ _ | refine X ?_ | refine V ?_ _)); exact BK521.out) hb)
     have n6_ := G (F (g := gb534) (o := .cells #[.int .i64 t531, .int .i64 t532] 63 (0, 0)) (by (with_reducible repeat (first | refine U ?_ _ | refine X ?_ | refine V ?_ _)); exact BK534.out) hb)
     have n7_ := G (F (g := gb541) (o := .cells #[.slice Ao37 t535.length co37, .slice Ao42 t538.length co42] 39 (0, 0)) (by (with_reducible repeat (first | refine U ?_ _ | refine X ?_ | refine V ?_ _)); exact BK541.out) hb)
     have n8_ := G (GN (by repeat (first | (with_reducible first | exact HB.out | apply Z | apply T | apply Y | refine O ?_ GE520.out | refine O ?_ GE521.out | refine O ?_ GE534.out | refine O ?_ GE541.out) | exact HB.out)) hb)
     have n9_ := G (hbox)
     have n10_ := G ((by rw [hg]; exact (GM (by repeat (first | (with_reducible first | exact HB.out | apply Z | apply T | apply Y | refine O ?_ GE520.out | refine O ?_ GE521.out | refine O ?_ GE534.out | refine O ?_ GE541.out) | exact HB.out))) : w.heap.size ≤ gb547))
     have n11_ := G ((by rw [hg]; exact (GM (by repeat (first | (with_reducible first | exact HB.out | apply Z | apply T | apply Y | refine O ?_ GE520.out | refine O ?_ GE521.out | refine O ?_ GE534.out | refine O ?_ GE541.out) | exact HB.out))) : w.heap.size ≤ gb547))
     have n12_ := G ((by rw [hg]; exact Nat.ne_of_lt (blk_lt (g := gb520) (o := .cells #[.slice A0_0 l0_0.length c0_0, .slice A0_1 l0_1.length c0_1] 33 (0, 0)) (by (with_reducible repeat (first | refine U ?_ _ | refine X ?_ | refine V ?_ _)); exact BK520.out)) : gb520 ≠ gb547))
     have n13_ := G ((by rw [hg]; exact Nat.ne_of_gt (blk_lt (g := gb520) (o := .cells #[.slice A0_0 l0_0.length c0_0, .slice A0_1 l0_1.length c0_1] 33 (0, 0)) (by (with_reducible repeat (first | refine U ?_ _ | refine X ?_ | refine V ?_ _)); exact BK520.out)) : gb547 ≠ gb520))
     have n14_ := G ((by rw [hg]; exact Nat.ne_of_lt (blk_lt (g := gb521) (o := .cells #[.int .i64 a2_0, .int .i64 a2_1] 62 (0, 0)) (by (with_reducible repeat (first | refine U ?_ _ | refine X ?_ | refine V ?_ _)); exact BK521.out)) : gb521 ≠ gb547))
     have n15_ := G ((by rw [hg]; exact Nat.ne_of_gt (blk_lt (g := gb521) (o := .cells #[.int .i64 a2_0, .int .i64 a2_1] 62 (0, 0)) (by (with_reducible repeat (first | refine U ?_ _ | refine X ?_ | refine V ?_ _)); exact BK521.out)) : gb547 ≠ gb521))
     have n16_ := G ((by rw [hg]; exact Nat.ne_of_lt (blk_lt (g := gb534) (o := .cells #[.int .i64 t531, .int .i64 t532] 63 (0, 0)) (by (with_reducible repeat (first | refine U ?_ _ | refine X ?_ | refine V ?_ _)); exact BK534.out)) : gb534 ≠ gb547))
     have n17_ := G ((by rw [hg]; exact Nat.ne_of_gt (blk_lt (g := gb534) (o := .cells #[.int .i64 t531, .int .i64 t532] 63 (0, 0)) (by (with_reducible repeat (first | refine U ?_ _ | refine X ?_ | refine V ?_ _)); exact BK534.out)) : gb547 ≠ gb534))
     have n18_ := G ((by rw [hg]; exact Nat.ne_of_lt (blk_lt (g := gb541) (o := .cells #[.slice Ao37 t535.length co37, .slice Ao42 t538.length co42] 39 (0, 0)) (by (with_reducible repeat (first | refine U ?_ _ | refine X ?_ | refine V ?_ _)); exact BK541.out)) : gb541 ≠ gb547))
     have n19_ := G ((by rw [hg]; exact Nat.ne_of_gt (blk_lt (g := gb541) (o := .cells #[.slice Ao37 t535.length co37, .slice Ao42 t538.length co42] 39 (0, 0)) (by (with_reducible repeat (first | refine U ?_ _ | refine X ?_ | refine V ?_ _)); exact BK541.out)) : gb547 ≠ gb541))
     clear HO525
     clear HO528
     clear HO537
     clear HO540
     clear BK520
     clear BK521
     clear BK534
     clear BK541
     clear HB
     have HO525 := n0_
     have HO528 := n1_
     have HO537 := n2_
     have HO540 := n3_
     have BK520 := n4_
     have BK521 := n5_
     have BK534 := n6_
     have BK541 := n7_
     have HB := n8_
     have BK547 := n9_
     have GW547 := n10_
     have GE547 := n11_
     have NB520_547 := n12_
     have NB547_520 := n13_
     have NB521_547 := n14_
     have NB547_521 := n15_
     have NB534_547 := n16_
     have NB547_534 := n17_
     have NB541_547 := n18_
     have NB547_541 := n19_
     clear n0_ n1_ n2_ n3_ n4_ n5_ n6_ n7_ n8_ n9_ n10_ n11_ n12_ n13_ n14_ n15_ n16_ n17_ n18_ n19_
     clear hb hbox hg
     refine hK.out _ _ ⟨(E BK541.out 0).trans rfl, (E BK541.out 1).trans rfl, (E BK521.out 0).trans rfl, (E BK521.out 1).trans rfl⟩ (fun hHeld => ?_)
     clear hK K
     refine norm_ (a' := ?_) ?_ ?_
     rotate_left
     ·show Act.put _ (some 11) _ = _
      simp only [Act.put, z1', z2', z3', i64_w, i32_w]
      rfl
     exact norm_ (by simp only [putAll, Act.put, List.setIfInBounds_toArray, List.set_cons_zero, List.set_cons_succ]) (hCont (gb547) _ ⟨hHeld, (by (with_reducible repeat (first | apply J | apply L | apply M)); exact HO525.out), (by (with_reducible repeat (first | apply J | apply L | apply M)); exact HO528.out), (by (with_reducible repeat (first | apply J | apply L | apply M)); exact HO537.out), (by (with_reducible repeat (first | apply J | apply L | apply M)); exact HO540.out), (by (with_reducible repeat (first | refine U ?_ _ | refine X ?_ | refine V ?_ _)); exact BK520.out), (by (with_reducible repeat (first | refine U ?_ _ | refine X ?_ | refine V ?_ _)); exact BK521.out), (by (with_reducible repeat (first | refine U ?_ _ | refine X ?_ | refine V ?_ _)); exact BK534.out), (by (with_reducible repeat (first | refine U ?_ _ | refine X ?_ | refine V ?_ _)); exact BK541.out), (by (with_reducible repeat (first | refine U ?_ _ | refine X ?_ | refine V ?_ _)); exact BK547.out), GW547.out, GE547.out, NB520_547.out, NB547_520.out, NB521_547.out, NB547_521.out, NB534_547.out, NB547_534.out, NB541_547.out, NB547_541.out, (by repeat (first | (with_reducible first | exact HB.out | apply Z | apply T | apply Y | refine O ?_ GE520.out | refine O ?_ GE521.out | refine O ?_ GE534.out | refine O ?_ GE541.out | refine O ?_ GE547.out) | exact HB.out))⟩)
    ·skip
     refine box_step ?hg (N := 11) ?hd (cs := #[.int .i64 0, .int .i64 0]) (t := 63) ?hr ?_; (case hd => rfl); (case hg => rfl); (case hr => first | (go_simp; done) | (go_simp; rfl))
     intro gb547 hg w46 hbox hb
     have n0_ := G (B (by (with_reducible repeat (first | apply J | apply L | apply M)); exact HO525.out) hb)
     have n1_ := G (B (by (with_reducible repeat (first | apply J | apply L | apply M)); exact HO528.out) hb)
     have n2_ := G (B (by (with_reducible repeat (first | apply J | apply L | apply M)); exact HO537.out) hb)
     have n3_ := G (B (by (with_reducible repeat (first | apply J | apply L | apply M)); exact HO540.out) hb)
     have n4_ := G (F (g := gb520) (o := .cells #[.slice A0_0 l0_0.length c0_0, .slice A0_1 l0_1.length c0_1] 33 (0, 0)) (by (with_reducible repeat (first | refine U ?_ _ | refine X ?_ | refine V ?_ _)); exact BK520.out) hb)
     have n5_ := G (F (g := gb521) (o := .cells #[.int .i64 a2_0, .int .i64 a2_1] 62 (0, 0)) (by (with_reducible repeat (first | refine U ?_ _ | refine X ?_ | refine V ?_ _)); exact BK521.out) hb)
     have n6_ := G (F (g := gb534) (o := .cells #[.int .i64 t531, .int .i64 t532] 63 (0, 0)) (by (with_reducible repeat (first | refine U ?_ _ | refine X ?_ | refine V ?_ _)); exact BK534.out) hb)
     have n7_ := G (F (g := gb541) (o := .cells #[.slice Ao37 t535.length co37, .slice Ao42 t538.length co42] 39 (0, 0)) (by (with_reducible repeat (first | refine U ?_ _ | refine X ?_ | refine V ?_ _)); exact BK541.out) hb)
     have n8_ := G (GN (by repeat (first | (with_reducible first | exact HB.out | apply Z | apply T | apply Y | refine O ?_ GE520.out | refine O ?_ GE521.out | refine O ?_ GE534.out | refine O ?_ GE541.out) | exact HB.out)) hb)
     have n9_ := G (hbox)
     have n10_ := G ((by rw [hg]; exact (GM (by repeat (first | (with_reducible first | exact HB.out | apply Z | apply T | apply Y | refine O ?_ GE520.out | refine O ?_ GE521.out | refine O ?_ GE534.out | refine O ?_ GE541.out) | exact HB.out))) : w.heap.size ≤ gb547))
     have n11_ := G ((by rw [hg]; exact (GM (by repeat (first | (with_reducible first | exact HB.out | apply Z | apply T | apply Y | refine O ?_ GE520.out | refine O ?_ GE521.out | refine O ?_ GE534.out | refine O ?_ GE541.out) | exact HB.out))) : w.heap.size ≤ gb547))
     have n12_ := G ((by rw [hg]; exact Nat.ne_of_lt (blk_lt (g := gb520) (o := .cells #[.slice A0_0 l0_0.length c0_0, .slice A0_1 l0_1.length c0_1] 33 (0, 0)) (by (with_reducible repeat (first | refine U ?_ _ | refine X ?_ | refine V ?_ _)); exact BK520.out)) : gb520 ≠ gb547))
     have n13_ := G ((by rw [hg]; exact Nat.ne_of_gt (blk_lt (g := gb520) (o := .cells #[.slice A0_0 l0_0.length c0_0, .slice A0_1 l0_1.length c0_1] 33 (0, 0)) (by (with_reducible repeat (first | refine U ?_ _ | refine X ?_ | refine V ?_ _)); exact BK520.out)) : gb547 ≠ gb520))
     have n14_ := G ((by rw [hg]; exact Nat.ne_of_lt (blk_lt (g := gb521) (o := .cells #[.int .i64 a2_0, .int .i64 a2_1] 62 (0, 0)) (by (with_reducible repeat (first | refine U ?_ _ | refine X ?_ | refine V ?_ _)); exact BK521.out)) : gb521 ≠ gb547))
     have n15_ := G ((by rw [hg]; exact Nat.ne_of_gt (blk_lt (g := gb521) (o := .cells #[.int .i64 a2_0, .int .i64 a2_1] 62 (0, 0)) (by (with_reducible repeat (first | refine U ?_ _ | refine X ?_ | refine V ?_ _)); exact BK521.out)) : gb547 ≠ gb521))
     have n16_ := G ((by rw [hg]; exact Nat.ne_of_lt (blk_lt (g := gb534) (o := .cells #[.int .i64 t531, .int .i64 t532] 63 (0, 0)) (by (with_reducible repeat (first | refine U ?_ _ | refine X ?_ | refine V ?_ _)); exact BK534.out)) : gb534 ≠ gb547))
     have n17_ := G ((by rw [hg]; exact Nat.ne_of_gt (blk_lt (g := gb534) (o := .cells #[.int .i64 t531, .int .i64 t532] 63 (0, 0)) (by (with_reducible repeat (first | refine U ?_ _ | refine X ?_ | refine V ?_ _)); exact BK534.out)) : gb547 ≠ gb534))
     have n18_ := G ((by rw [hg]; exact Nat.ne_of_lt (blk_lt (g := gb541) (o := .cells #[.slice Ao37 t535.length co37, .slice Ao42 t538.length co42] 39 (0, 0)) (by (with_reducible repeat (first | refine U ?_ _ | refine X ?_ | refine V ?_ _)); exact BK541.out)) : gb541 ≠ gb547))
     have n19_ := G ((by rw [hg]; exact Nat.ne_of_gt (blk_lt (g := gb541) (o := .cells #[.slice Ao37 t535.length co37, .slice Ao42 t538.length co42] 39 (0, 0)) (by (with_reducible repeat (first | refine U ?_ _ | refine X ?_ | refine V ?_ _)); exact BK541.out)) : gb547 ≠ gb541))
     clear HO525
     clear HO528
     clear HO537
     clear HO540
     clear BK520
     clear BK521
     clear BK534
     clear BK541
     clear HB
     have HO525 := n0_
     have HO528 := n1_
     have HO537 := n2_
     have HO540 := n3_
     have BK520 := n4_
     have BK521 := n5_
     have BK534 := n6_
     have BK541 := n7_
     have HB := n8_
     have BK547 := n9_
     have GW547 := n10_
     have GE547 := n11_
     have NB520_547 := n12_
     have NB547_520 := n13_
     have NB521_547 := n14_
     have NB547_521 := n15_
     have NB534_547 := n16_
     have NB547_534 := n17_
     have NB541_547 := n18_
     have NB547_541 := n19_
     clear n0_ n1_ n2_ n3_ n4_ n5_ n6_ n7_ n8_ n9_ n10_ n11_ n12_ n13_ n14_ n15_ n16_ n17_ n18_ n19_
     clear hb hbox hg
     refine hK.out _ _ ⟨(E BK541.out 0).trans rfl, (E BK541.out 1).trans rfl, (E BK521.out 0).trans rfl, (E BK521.out 1).trans rfl⟩ (fun hHeld => ?_)
     clear hK K
     refine norm_ (a' := ?_) ?_ ?_
     rotate_left
     ·show Act.put _ (some 11) _ = _
      simp only [Act.put, z1', z2', z3', i64_w, i32_w]
      rfl
     refine one_ (i := 4) (N := some 34) #[y', y', y', y', y', n', n', n', y', n', n'] rfl rfl (one_of HT_.out (by kernel_rfl)) (by decide) (fun K hK => ?_)
     refine goes_ Try.func43 (by kernel_rfl) rfl #[.agg #[.slice Ao37 t535.length co37, .slice Ao42 t538.length co42], .int .i64 a1, .agg #[.int .i64 t542, .int .i64 t543]] (by rfl) rfl rfl (by (try simp only [List.map_toArray, List.map_cons, List.map_nil]); first | done | rfl | (simp only [List.length_drop, List.length_take]; rfl)) ?_
     with_reducible refine (impl_SquareOfTension.calls k _ _ t535 _ _ t538 a1 t542 t543 t544 t545 t546 _ ?side1 ?side2 ?side3 ?side4 A16.out).mono ?_
     (case side1 => repeat (first | exact (Kd.R_reads' HO537.out).2.2 | (with_reducible refine GG ?_ _) | (with_reducible refine GJ ?_ _) | (with_reducible refine GL ?_)))
     (case side2 => exact (Kd.R_reads' HO537.out).2.1)
     (case side3 => repeat (first | exact (Kd.R_reads' HO540.out).2.2 | (with_reducible refine GG ?_ _) | (with_reducible refine GJ ?_ _) | (with_reducible refine GL ?_)))
     (case side4 => exact (Kd.R_reads' HO540.out).2.1)
     rintro e w47 ⟨rfl, hb⟩
     refine ⟨_, rfl, ?_⟩
     have n0_ := G (B (by (with_reducible repeat (first | apply J | apply L | apply M)); exact HO525.out) hb)
     have n1_ := G (B (by (with_reducible repeat (first | apply J | apply L | apply M)); exact HO528.out) hb)
     have n2_ := G (B (by (with_reducible repeat (first | apply J | apply L | apply M)); exact HO537.out) hb)
     have n3_ := G (B (by (with_reducible repeat (first | apply J | apply L | apply M)); exact HO540.out) hb)
     have n4_ := G (F (g := gb520) (o := .cells #[.slice A0_0 l0_0.length c0_0, .slice A0_1 l0_1.length c0_1] 33 (0, 0)) (by (with_reducible repeat (first | refine U ?_ _ | refine X ?_ | refine V ?_ _)); exact BK520.out) hb)
     have n5_ := G (F (g := gb521) (o := .cells #[.int .i64 a2_0, .int .i64 a2_1] 62 (0, 0)) (by (with_reducible repeat (first | refine U ?_ _ | refine X ?_ | refine V ?_ _)); exact BK521.out) hb)
     have n6_ := G (F (g := gb534) (o := .cells #[.int .i64 t531, .int .i64 t532] 63 (0, 0)) (by (with_reducible repeat (first | refine U ?_ _ | refine X ?_ | refine V ?_ _)); exact BK534.out) hb)
     have n7_ := G (F (g := gb541) (o := .cells #[.slice Ao37 t535.length co37, .slice Ao42 t538.length co42] 39 (0, 0)) (by (with_reducible repeat (first | refine U ?_ _ | refine X ?_ | refine V ?_ _)); exact BK541.out) hb)
     have n8_ := G (F (g := gb547) (o := .cells #[.int .i64 0, .int .i64 0] 63 (0, 0)) (by (with_reducible repeat (first | refine U ?_ _ | refine X ?_ | refine V ?_ _)); exact BK547.out) hb)
     have n9_ := G (GN (by repeat (first | (with_reducible first | exact HB.out | apply Z | apply T | apply Y | refine O ?_ GE520.out | refine O ?_ GE521.out | refine O ?_ GE534.out | refine O ?_ GE541.out | refine O ?_ GE547.out) | exact HB.out)) hb)
     clear HO525
     clear HO528
     clear HO537
     clear HO540
     clear BK520
     clear BK521
     clear BK534
     clear BK541
     clear BK547
     clear HB
     have HO525 := n0_
     have HO528 := n1_
     have HO537 := n2_
     have HO540 := n3_
     have BK520 := n4_
     have BK521 := n5_
     have BK534 := n6_
     have BK541 := n7_
     have BK547 := n8_
     have HB := n9_
     clear n0_ n1_ n2_ n3_ n4_ n5_ n6_ n7_ n8_ n9_
     (try clear hb)
     (try clear hb2)
     (try clear hk)
     (try clear hi)
     refine hK.out _ _ ⟨(E BK541.out 0).trans rfl, (E BK541.out 1).trans rfl, (E BK521.out 0).trans rfl, (E BK521.out 1).trans rfl⟩ (fun hHeld => ?_)
     clear hK K
     refine norm_ (a' := ?_) ?_ ?_
     rotate_left
     ·show Act.put _ (some 34) _ = _
      simp only [Act.put, z1', z2', z3', i64_w, i32_w]
      rfl
     refine pure_ (i := 5) (N := some 29) (v := ?_) (a' := ?_) #[y', y', y', y', y', y', n', n', y', n', n'] rfl rfl (any_of HT_.out (by kernel_rfl)) (fun _ _ _ h => h) (Or.inl ⟨by rfl, ?_⟩) ?_ ?_
     rotate_left
     ·intro w'
      go_simp
      with_reducible rfl
     rotate_left
     ·simp only [Act.put, z1', z2', z3', i64_w, i32_w]
      rfl
     refine pure_ (i := 6) (N := some 35) (v := ?_) (a' := ?_) #[y', y', y', y', y', y', y', n', y', n', n'] rfl rfl (any_of HT_.out (by kernel_rfl)) (fun _ _ _ h => h) (Or.inl ⟨by rfl, ?_⟩) ?_ ?_
     rotate_left
     ·intro w'
      go_simp
      with_reducible rfl
     rotate_left
     ·simp only [Act.put, z1', z2', z3', i64_w, i32_w]
      rfl
     refine pure_ (i := 7) (N := some 36) (v := ?_) (a' := ?_) #[y', y', y', y', y', y', y', y', y', n', n'] rfl rfl (any_of HT_.out (by kernel_rfl)) (fun _ _ _ h => h) (Or.inl ⟨by rfl, ?_⟩) ?_ ?_
     rotate_left
     ·intro w'
      go_simp
      with_reducible rfl
     rotate_left
     ·simp only [Act.put, z1', z2', z3', i64_w, i32_w]
      rfl
     exact norm_ (by simp only [putAll, Act.put, List.setIfInBounds_toArray, List.set_cons_zero, List.set_cons_succ]) (hCont (gb547) _ ⟨hHeld, (by (with_reducible repeat (first | apply J | apply L | apply M)); exact HO525.out), (by (with_reducible repeat (first | apply J | apply L | apply M)); exact HO528.out), (by (with_reducible repeat (first | apply J | apply L | apply M)); exact HO537.out), (by (with_reducible repeat (first | apply J | apply L | apply M)); exact HO540.out), (by (with_reducible repeat (first | refine U ?_ _ | refine X ?_ | refine V ?_ _)); exact BK520.out), (by (with_reducible repeat (first | refine U ?_ _ | refine X ?_ | refine V ?_ _)); exact BK521.out), (by (with_reducible repeat (first | refine U ?_ _ | refine X ?_ | refine V ?_ _)); exact BK534.out), (by (with_reducible repeat (first | refine U ?_ _ | refine X ?_ | refine V ?_ _)); exact BK541.out), (by (with_reducible repeat (first | refine U ?_ _ | refine X ?_ | refine V ?_ _)); exact BK547.out), GW547.out, GE547.out, NB520_547.out, NB547_520.out, NB521_547.out, NB547_521.out, NB534_547.out, NB547_534.out, NB541_547.out, NB547_541.out, (by repeat (first | (with_reducible first | exact HB.out | apply Z | apply T | apply Y | refine O ?_ GE520.out | refine O ?_ GE521.out | refine O ?_ GE534.out | refine O ?_ GE541.out | refine O ?_ GE547.out) | exact HB.out))⟩)
   ·skip
    refine box_step ?hg (N := 11) ?hd (cs := #[.int .i64 0, .int .i64 0]) (t := 63) ?hr ?_; (case hd => rfl); (case hg => rfl); (case hr => first | (go_simp; done) | (go_simp; rfl))
    intro gb547 hg w45 hbox hb
    have n0_ := G (B (by (with_reducible repeat (first | apply J | apply L | apply M)); exact HO525.out) hb)
    have n1_ := G (B (by (with_reducible repeat (first | apply J | apply L | apply M)); exact HO528.out) hb)
    have n2_ := G (B (by (with_reducible repeat (first | apply J | apply L | apply M)); exact HO537.out) hb)
    have n3_ := G (B (by (with_reducible repeat (first | apply J | apply L | apply M)); exact HO540.out) hb)
    have n4_ := G (F (g := gb520) (o := .cells #[.slice A0_0 l0_0.length c0_0, .slice A0_1 l0_1.length c0_1] 33 (0, 0)) (by (with_reducible repeat (first | refine U ?_ _ | refine X ?_ | refine V ?_ _)); exact BK520.out) hb)
    have n5_ := G (F (g := gb521) (o := .cells #[.int .i64 a2_0, .int .i64 a2_1] 62 (0, 0)) (by (with_reducible repeat (first | refine U ?_ _ | refine X ?_ | refine V ?_ _)); exact BK521.out) hb)
    have n6_ := G (F (g := gb534) (o := .cells #[.int .i64 t531, .int .i64 t532] 63 (0, 0)) (by (with_reducible repeat (first | refine U ?_ _ | refine X ?_ | refine V ?_ _)); exact BK534.out) hb)
    have n7_ := G (F (g := gb541) (o := .cells #[.slice Ao37 t535.length co37, .slice Ao42 t538.length co42] 39 (0, 0)) (by (with_reducible repeat (first | refine U ?_ _ | refine X ?_ | refine V ?_ _)); exact BK541.out) hb)
    have n8_ := G (GN (by repeat (first | (with_reducible first | exact HB.out | apply Z | apply T | apply Y | refine O ?_ GE520.out | refine O ?_ GE521.out | refine O ?_ GE534.out | refine O ?_ GE541.out) | exact HB.out)) hb)
    have n9_ := G (hbox)
    have n10_ := G ((by rw [hg]; exact (GM (by repeat (first | (with_reducible first | exact HB.out | apply Z | apply T | apply Y | refine O ?_ GE520.out | refine O ?_ GE521.out | refine O ?_ GE534.out | refine O ?_ GE541.out) | exact HB.out))) : w.heap.size ≤ gb547))
    have n11_ := G ((by rw [hg]; exact (GM (by repeat (first | (with_reducible first | exact HB.out | apply Z | apply T | apply Y | refine O ?_ GE520.out | refine O ?_ GE521.out | refine O ?_ GE534.out | refine O ?_ GE541.out) | exact HB.out))) : w.heap.size ≤ gb547))
    have n12_ := G ((by rw [hg]; exact Nat.ne_of_lt (blk_lt (g := gb520) (o := .cells #[.slice A0_0 l0_0.length c0_0, .slice A0_1 l0_1.length c0_1] 33 (0, 0)) (by (with_reducible repeat (first | refine U ?_ _ | refine X ?_ | refine V ?_ _)); exact BK520.out)) : gb520 ≠ gb547))
    have n13_ := G ((by rw [hg]; exact Nat.ne_of_gt (blk_lt (g := gb520) (o := .cells #[.slice A0_0 l0_0.length c0_0, .slice A0_1 l0_1.length c0_1] 33 (0, 0)) (by (with_reducible repeat (first | refine U ?_ _ | refine X ?_ | refine V ?_ _)); exact BK520.out)) : gb547 ≠ gb520))
    have n14_ := G ((by rw [hg]; exact Nat.ne_of_lt (blk_lt (g := gb521) (o := .cells #[.int .i64 a2_0, .int .i64 a2_1] 62 (0, 0)) (by (with_reducible repeat (first | refine U ?_ _ | refine X ?_ | refine V ?_ _)); exact BK521.out)) : gb521 ≠ gb547))
    have n15_ := G ((by rw [hg]; exact Nat.ne_of_gt (blk_lt (g := gb521) (o := .cells #[.int .i64 a2_0, .int .i64 a2_1] 62 (0, 0)) (by (with_reducible repeat (first | refine U ?_ _ | refine X ?_ | refine V ?_ _)); exact BK521.out)) : gb547 ≠ gb521))
    have n16_ := G ((by rw [hg]; exact Nat.ne_of_lt (blk_lt (g := gb534) (o := .cells #[.int .i64 t531, .int .i64 t532] 63 (0, 0)) (by (with_reducible repeat (first | refine U ?_ _ | refine X ?_ | refine V ?_ _)); exact BK534.out)) : gb534 ≠ gb547))
    have n17_ := G ((by rw [hg]; exact Nat.ne_of_gt (blk_lt (g := gb534) (o := .cells #[.int .i64 t531, .int .i64 t532] 63 (0, 0)) (by (with_reducible repeat (first | refine U ?_ _ | refine X ?_ | refine V ?_ _)); exact BK534.out)) : gb547 ≠ gb534))
    have n18_ := G ((by rw [hg]; exact Nat.ne_of_lt (blk_lt (g := gb541) (o := .cells #[.slice Ao37 t535.length co37, .slice Ao42 t538.length co42] 39 (0, 0)) (by (with_reducible repeat (first | refine U ?_ _ | refine X ?_ | refine V ?_ _)); exact BK541.out)) : gb541 ≠ gb547))
    have n19_ := G ((by rw [hg]; exact Nat.ne_of_gt (blk_lt (g := gb541) (o := .cells #[.slice Ao37 t535.length co37, .slice Ao42 t538.length co42] 39 (0, 0)) (by (with_reducible repeat (first | refine U ?_ _ | refine X ?_ | refine V ?_ _)); exact BK541.out)) : gb547 ≠ gb541))
    clear HO525
    clear HO528
    clear HO537
    clear HO540
    clear BK520
    clear BK521
    clear BK534
    clear BK541
    clear HB
    have HO525 := n0_
    have HO528 := n1_
    have HO537 := n2_
    have HO540 := n3_
    have BK520 := n4_
    have BK521 := n5_
    have BK534 := n6_
    have BK541 := n7_
    have HB := n8_
    have BK547 := n9_
    have GW547 := n10_
    have GE547 := n11_
    have NB520_547 := n12_
    have NB547_520 := n13_
    have NB521_547 := n14_
    have NB547_521 := n15_
    have NB534_547 := n16_
    have NB547_534 := n17_
    have NB541_547 := n18_
    have NB547_541 := n19_
    clear n0_ n1_ n2_ n3_ n4_ n5_ n6_ n7_ n8_ n9_ n10_ n11_ n12_ n13_ n14_ n15_ n16_ n17_ n18_ n19_
    clear hb hbox hg
    refine hK.out _ _ ⟨(E BK541.out 0).trans rfl, (E BK541.out 1).trans rfl, (E BK521.out 0).trans rfl, (E BK521.out 1).trans rfl⟩ (fun hHeld => ?_)
    clear hK K
    refine norm_ (a' := ?_) ?_ ?_
    rotate_left
    ·show Act.put _ (some 11) _ = _
     simp only [Act.put, z1', z2', z3', i64_w, i32_w]
     rfl
    refine one_ (i := 3) (N := some 33) #[y', y', y', y', n', n', n', n', y', n', n'] rfl rfl (one_of HT_.out (by kernel_rfl)) (by decide) (fun K hK => ?_)
    refine goes_ Try.func42 (by kernel_rfl) rfl #[.agg #[.int .i64 a2_0, .int .i64 a2_1]] (by rfl) rfl rfl (by (try simp only [List.map_toArray, List.map_cons, List.map_nil]); first | done | rfl | (simp only [List.length_drop, List.length_take]; rfl)) ?_
    with_reducible refine (laws_toFraction.calls a2_0 a2_1 t542 t543 _ A15.out).mono ?_
    rintro e w46 ⟨rfl, hb⟩
    refine ⟨_, rfl, ?_⟩
    have n0_ := G (B (by (with_reducible repeat (first | apply J | apply L | apply M)); exact HO525.out) hb)
    have n1_ := G (B (by (with_reducible repeat (first | apply J | apply L | apply M)); exact HO528.out) hb)
    have n2_ := G (B (by (with_reducible repeat (first | apply J | apply L | apply M)); exact HO537.out) hb)
    have n3_ := G (B (by (with_reducible repeat (first | apply J | apply L | apply M)); exact HO540.out) hb)
    have n4_ := G (F (g := gb520) (o := .cells #[.slice A0_0 l0_0.length c0_0, .slice A0_1 l0_1.length c0_1] 33 (0, 0)) (by (with_reducible repeat (first | refine U ?_ _ | refine X ?_ | refine V ?_ _)); exact BK520.out) hb)
    have n5_ := G (F (g := gb521) (o := .cells #[.int .i64 a2_0, .int .i64 a2_1] 62 (0, 0)) (by (with_reducible repeat (first | refine U ?_ _ | refine X ?_ | refine V ?_ _)); exact BK521.out) hb)
    have n6_ := G (F (g := gb534) (o := .cells #[.int .i64 t531, .int .i64 t532] 63 (0, 0)) (by (with_reducible repeat (first | refine U ?_ _ | refine X ?_ | refine V ?_ _)); exact BK534.out) hb)
    have n7_ := G (F (g := gb541) (o := .cells #[.slice Ao37 t535.length co37, .slice Ao42 t538.length co42] 39 (0, 0)) (by (with_reducible repeat (first | refine U ?_ _ | refine X ?_ | refine V ?_ _)); exact BK541.out) hb)
    have n8_ := G (F (g := gb547) (o := .cells #[.int .i64 0, .int .i64 0] 63 (0, 0)) (by (with_reducible repeat (first | refine U ?_ _ | refine X ?_ | refine V ?_ _)); exact BK547.out) hb)
    have n9_ := G (GN (by repeat (first | (with_reducible first | exact HB.out | apply Z | apply T | apply Y | refine O ?_ GE520.out | refine O ?_ GE521.out | refine O ?_ GE534.out | refine O ?_ GE541.out | refine O ?_ GE547.out) | exact HB.out)) hb)
    clear HO525
    clear HO528
    clear HO537
    clear HO540
    clear BK520
    clear BK521
    clear BK534
    clear BK541
    clear BK547
    clear HB
    have HO525 := n0_
    have HO528 := n1_
    have HO537 := n2_
    have HO540 := n3_
    have BK520 := n4_
    have BK521 := n5_
    have BK534 := n6_
    have BK541 := n7_
    have BK547 := n8_
    have HB := n9_
    clear n0_ n1_ n2_ n3_ n4_ n5_ n6_ n7_ n8_ n9_
    (try clear hb)
    (try clear hb2)
    (try clear hk)
    (try clear hi)
    refine hK.out _ _ ⟨(E BK541.out 0).trans rfl, (E BK541.out 1).trans rfl, (E BK521.out 0).trans rfl, (E BK521.out 1).trans rfl⟩ (fun hHeld => ?_)
    clear hK K
    refine norm_ (a' := ?_) ?_ ?_
    rotate_left
    ·show Act.put _ (some 33) _ = _
     simp only [Act.put, z1', z2', z3', i64_w, i32_w]
     rfl
    refine one_ (i := 4) (N := some 34) #[y', y', y', y', y', n', n', n', y', n', n'] rfl rfl (one_of HT_.out (by kernel_rfl)) (by decide) (fun K hK => ?_)
    refine goes_ Try.func43 (by kernel_rfl) rfl #[.agg #[.slice Ao37 t535.length co37, .slice Ao42 t538.length co42], .int .i64 a1, .agg #[.int .i64 t542, .int .i64 t543]] (by rfl) rfl rfl (by (try simp only [List.map_toArray, List.map_cons, List.map_nil]); first | done | rfl | (simp only [List.length_drop, List.length_take]; rfl)) ?_
    with_reducible refine (impl_SquareOfTension.calls k _ _ t535 _ _ t538 a1 t542 t543 t544 t545 t546 _ ?side1 ?side2 ?side3 ?side4 A16.out).mono ?_
    (case side1 => repeat (first | exact (Kd.R_reads' HO537.out).2.2 | (with_reducible refine GG ?_ _) | (with_reducible refine GJ ?_ _) | (with_reducible refine GL ?_)))
    (case side2 => exact (Kd.R_reads' HO537.out).2.1)
    (case side3 => repeat (first | exact (Kd.R_reads' HO540.out).2.2 | (with_reducible refine GG ?_ _) | (with_reducible refine GJ ?_ _) | (with_reducible refine GL ?_)))
    (case side4 => exact (Kd.R_reads' HO540.out).2.1)
    rintro e w47 ⟨rfl, hb⟩
    refine ⟨_, rfl, ?_⟩
    have n0_ := G (B (by (with_reducible repeat (first | apply J | apply L | apply M)); exact HO525.out) hb)
    have n1_ := G (B (by (with_reducible repeat (first | apply J | apply L | apply M)); exact HO528.out) hb)
    have n2_ := G (B (by (with_reducible repeat (first | apply J | apply L | apply M)); exact HO537.out) hb)
    have n3_ := G (B (by (with_reducible repeat (first | apply J | apply L | apply M)); exact HO540.out) hb)
    have n4_ := G (F (g := gb520) (o := .cells #[.slice A0_0 l0_0.length c0_0, .slice A0_1 l0_1.length c0_1] 33 (0, 0)) (by (with_reducible repeat (first | refine U ?_ _ | refine X ?_ | refine V ?_ _)); exact BK520.out) hb)
    have n5_ := G (F (g := gb521) (o := .cells #[.int .i64 a2_0, .int .i64 a2_1] 62 (0, 0)) (by (with_reducible repeat (first | refine U ?_ _ | refine X ?_ | refine V ?_ _)); exact BK521.out) hb)
    have n6_ := G (F (g := gb534) (o := .cells #[.int .i64 t531, .int .i64 t532] 63 (0, 0)) (by (with_reducible repeat (first | refine U ?_ _ | refine X ?_ | refine V ?_ _)); exact BK534.out) hb)
    have n7_ := G (F (g := gb541) (o := .cells #[.slice Ao37 t535.length co37, .slice Ao42 t538.length co42] 39 (0, 0)) (by (with_reducible repeat (first | refine U ?_ _ | refine X ?_ | refine V ?_ _)); exact BK541.out) hb)
    have n8_ := G (F (g := gb547) (o := .cells #[.int .i64 0, .int .i64 0] 63 (0, 0)) (by (with_reducible repeat (first | refine U ?_ _ | refine X ?_ | refine V ?_ _)); exact BK547.out) hb)
    have n9_ := G (GN (by repeat (first | (with_reducible first | exact HB.out | apply Z | apply T | apply Y | refine O ?_ GE520.out | refine O ?_ GE521.out | refine O ?_ GE534.out | refine O ?_ GE541.out | refine O ?_ GE547.out) | exact HB.out)) hb)
    clear HO525
    clear HO528
    clear HO537
    clear HO540
    clear BK520
    clear BK521
    clear BK534
    clear BK541
    clear BK547
    clear HB
    have HO525 := n0_
    have HO528 := n1_
    have HO537 := n2_
    have HO540 := n3_
    have BK520 := n4_
    have BK521 := n5_
    have BK534 := n6_
    have BK541 := n7_
    have BK547 := n8_
    have HB := n9_
    clear n0_ n1_ n2_ n3_ n4_ n5_ n6_ n7_ n8_ n9_
    (try clear hb)
    (try clear hb2)
    (try clear hk)
    (try clear hi)
    refine hK.out _ _ ⟨(E BK541.out 0).trans rfl, (E BK541.out 1).trans rfl, (E BK521.out 0).trans rfl, (E BK521.out 1).trans rfl⟩ (fun hHeld => ?_)
    clear hK K
    refine norm_ (a' := ?_) ?_ ?_
    rotate_left
    ·show Act.put _ (some 34) _ = _
     simp only [Act.put, z1', z2', z3', i64_w, i32_w]
     rfl
    refine pure_ (i := 5) (N := some 29) (v := ?_) (a' := ?_) #[y', y', y', y', y', y', n', n', y', n', n'] rfl rfl (any_of HT_.out (by kernel_rfl)) (fun _ _ _ h => h) (Or.inl ⟨by rfl, ?_⟩) ?_ ?_
    rotate_left
    ·intro w'
     go_simp
     with_reducible rfl
    rotate_left
    ·simp only [Act.put, z1', z2', z3', i64_w, i32_w]
     rfl
    refine pure_ (i := 6) (N := some 35) (v := ?_) (a' := ?_) #[y', y', y', y', y', y', y', n', y', n', n'] rfl rfl (any_of HT_.out (by kernel_rfl)) (fun _ _ _ h => h) (Or.inl ⟨by rfl, ?_⟩) ?_ ?_
    rotate_left
    ·intro w'
     go_simp
     with_reducible rfl
    rotate_left
    ·simp only [Act.put, z1', z2', z3', i64_w, i32_w]
     rfl
    refine pure_ (i := 7) (N := some 36) (v := ?_) (a' := ?_) #[y', y', y', y', y', y', y', y', y', n', n'] rfl rfl (any_of HT_.out (by kernel_rfl)) (fun _ _ _ h => h) (Or.inl ⟨by rfl, ?_⟩) ?_ ?_
    rotate_left
    ·intro w'
     go_simp
     with_reducible rfl
    rotate_left
    ·simp only [Act.put, z1', z2', z3', i64_w, i32_w]
     rfl
    exact norm_ (by simp only [putAll, Act.put, List.setIfInBounds_toArray, List.set_cons_zero, List.set_cons_succ]) (hCont (gb547) _ ⟨hHeld, (by (with_reducible repeat (first | apply J | apply L | apply M)); exact HO525.out), (by (with_reducible repeat (first | apply J | apply L | apply M)); exact HO528.out), (by (with_reducible repeat (first | apply J | apply L | apply M)); exact HO537.out), (by (with_reducible repeat (first | apply J | apply L | apply M)); exact HO540.out), (by (with_reducible repeat (first | refine U ?_ _ | refine X ?_ | refine V ?_ _)); exact BK520.out), (by (with_reducible repeat (first | refine U ?_ _ | refine X ?_ | refine V ?_ _)); exact BK521.out), (by (with_reducible repeat (first | refine U ?_ _ | refine X ?_ | refine V ?_ _)); exact BK534.out), (by (with_reducible repeat (first | refine U ?_ _ | refine X ?_ | refine V ?_ _)); exact BK541.out), (by (with_reducible repeat (first | refine U ?_ _ | refine X ?_ | refine V ?_ _)); exact BK547.out), GW547.out, GE547.out, NB520_547.out, NB547_520.out, NB521_547.out, NB547_521.out, NB534_547.out, NB547_534.out, NB541_547.out, NB547_541.out, (by repeat (first | (with_reducible first | exact HB.out | apply Z | apply T | apply Y | refine O ?_ GE520.out | refine O ?_ GE521.out | refine O ?_ GE534.out | refine O ?_ GE541.out | refine O ?_ GE547.out) | exact HB.out))⟩)
  rintro gb547 w48 ⟨hS_, h0_, h1_, h2_, h3_, h4_, h5_, h6_, h7_, h8_, h9_, h10_, h11_, h12_, h13_, h14_, h15_, h16_, h17_, h18_, h19_⟩
  have n0_ : Aside0 (Kd.R k82 82 w48 w.heap.size (fun k_ => some k_ ≠ (.slice Ao37 t535.length co37 : Value).ownBlock) v524 t523) := ⟨h0_⟩
  have n1_ : Aside0 (Kd.R k84 84 w48 w.heap.size (fun k_ => some k_ ≠ (.slice Ao42 t538.length co42 : Value).ownBlock) v527 t526) := ⟨h1_⟩
  have n2_ : Aside0 (Kd.R k82 82 w48 w.heap.size (fun k_ => some k_ ≠ (v524 : Value).ownBlock) (.slice Ao37 t535.length co37) t535) := ⟨h2_⟩
  have n3_ : Aside0 (Kd.R k84 84 w48 w.heap.size (fun k_ => some k_ ≠ (v527 : Value).ownBlock) (.slice Ao42 t538.length co42) t538) := ⟨h3_⟩
  have n4_ : Aside0 (w48.heap[gb520]? = some (.cells #[.slice A0_0 l0_0.length c0_0, .slice A0_1 l0_1.length c0_1] 33 (0, 0))) := ⟨h4_⟩
  have n5_ : Aside0 (w48.heap[gb521]? = some (.cells #[.int .i64 a2_0, .int .i64 a2_1] 62 (0, 0))) := ⟨h5_⟩
  have n6_ : Aside0 (w48.heap[gb534]? = some (.cells #[.int .i64 t531, .int .i64 t532] 63 (0, 0))) := ⟨h6_⟩
  have n7_ : Aside0 (w48.heap[gb541]? = some (.cells #[.slice Ao37 t535.length co37, .slice Ao42 t538.length co42] 39 (0, 0))) := ⟨h7_⟩
  have n8_ : Aside0 (w48.heap[gb547]? = some (.cells #[.int .i64 0, .int .i64 0] 63 (0, 0))) := ⟨h8_⟩
  have n9_ : Aside0 (w.heap.size ≤ gb547) := ⟨h9_⟩
  have n10_ : Aside0 (w.heap.size ≤ gb547) := ⟨h10_⟩
  have n11_ : Aside0 (gb520 ≠ gb547) := ⟨h11_⟩
  have n12_ : Aside0 (gb547 ≠ gb520) := ⟨h12_⟩
  have n13_ : Aside0 (gb521 ≠ gb547) := ⟨h13_⟩
  have n14_ : Aside0 (gb547 ≠ gb521) := ⟨h14_⟩
  have n15_ : Aside0 (gb534 ≠ gb547) := ⟨h15_⟩
  have n16_ : Aside0 (gb547 ≠ gb534) := ⟨h16_⟩
  have n17_ : Aside0 (gb541 ≠ gb547) := ⟨h17_⟩
  have n18_ : Aside0 (gb547 ≠ gb541) := ⟨h18_⟩
  have n19_ : Aside0 (Below w.heap.size w w48) := ⟨h19_⟩
  clear HO525
  clear HO528
  clear HO537
  clear HO540
  clear BK520
  clear BK521
  clear BK534
  clear BK541
  clear HB
  clear h0_ h1_ h2_ h3_ h4_ h5_ h6_ h7_ h8_ h9_ h10_ h11_ h12_ h13_ h14_ h15_ h16_ h17_ h18_ h19_
  have HO525 := n0_
  have HO528 := n1_
  have HO537 := n2_
  have HO540 := n3_
  have BK520 := n4_
  have BK521 := n5_
  have BK534 := n6_
  have BK541 := n7_
  have BK547 := n8_
  have GW547 := n9_
  have GE547 := n10_
  have NB520_547 := n11_
  have NB547_520 := n12_
  have NB521_547 := n13_
  have NB547_521 := n14_
  have NB534_547 := n15_
  have NB547_534 := n16_
  have NB541_547 := n17_
  have NB547_541 := n18_
  have HB := n19_
  clear n0_ n1_ n2_ n3_ n4_ n5_ n6_ n7_ n8_ n9_ n10_ n11_ n12_ n13_ n14_ n15_ n16_ n17_ n18_ n19_
  have hHeld : w48.cell? ⟨gb541, 0, none⟩ = some (.slice Ao37 t535.length co37) ∧ w48.cell? ⟨gb541, 1, none⟩ = some (.slice Ao42 t538.length co42) ∧ w48.cell? ⟨gb521, 0, none⟩ = some (.int .i64 a2_0) ∧ w48.cell? ⟨gb521, 1, none⟩ = some (.int .i64 a2_1) := hS_
  refine norm_ (a' := ?_) ?_ ?_
  rotate_left
  ·simp only [putAll, Act.put, List.setIfInBounds_toArray, List.set_cons_zero, List.set_cons_succ]
   rfl
  refine one_ (i := 9) (N := none) #[y', y', y', y', y', y', y', y', y', y', n'] rfl rfl (one_of HT_.out (by kernel_rfl)) (by decide) (fun K hK => ?_)
  have hs49 : w48.cell? ⟨gb547, 0, none⟩ = some (.int .i64 0) := (E BK547.out 0).trans rfl
  have hfs49 := GT BK547.out 0
  have hns49_0 := NB520_547.out
  have hns49_1 := NB521_547.out
  have hns49_2 := NB534_547.out
  have hns49_3 := NB541_547.out
  have hms49_0 := NB547_520.out
  have hms49_1 := NB547_521.out
  have hms49_2 := NB547_534.out
  have hms49_3 := NB547_541.out
  have hs50 : w48.cell? ⟨gb547, 1, none⟩ = some (.int .i64 0) := (E BK547.out 1).trans rfl
  have hfs50 := GT BK547.out 1
  have hns50_0 := NB520_547.out
  have hns50_1 := NB521_547.out
  have hns50_2 := NB534_547.out
  have hns50_3 := NB541_547.out
  have hms50_0 := NB547_520.out
  have hms50_1 := NB547_521.out
  have hms50_2 := NB547_534.out
  have hms50_3 := NB547_541.out
  refine skip_ (w1 := ?_) (by rfl) rfl ?_ ?_
  rotate_left
  ·go_simp
   rfl
  refine hK.out _ _ ⟨((cell_far (p := ⟨gb547, _, none⟩) NB541_547.out _).trans (((cell_far (p := ⟨gb547, _, none⟩) NB541_547.out _).trans (hHeld.1)))), ((cell_far (p := ⟨gb547, _, none⟩) NB541_547.out _).trans (((cell_far (p := ⟨gb547, _, none⟩) NB541_547.out _).trans (hHeld.2.1)))), ((cell_far (p := ⟨gb547, _, none⟩) NB521_547.out _).trans (((cell_far (p := ⟨gb547, _, none⟩) NB521_547.out _).trans (hHeld.2.2.1)))), ((cell_far (p := ⟨gb547, _, none⟩) NB521_547.out _).trans (((cell_far (p := ⟨gb547, _, none⟩) NB521_547.out _).trans (hHeld.2.2.2))))⟩ (fun hHeld => ?_)
  clear hK K
  refine pure_ (i := 10) (N := some 12) (v := ?_) (a' := ?_) #[y', y', y', y', y', y', y', y', y', y', y'] rfl rfl (any_of HT_.out (by kernel_rfl)) (fun _ _ _ h => h) (Or.inl ⟨by rfl, ?_⟩) ?_ ?_
  rotate_left
  ·intro w'
   go_simp
   with_reducible rfl
  rotate_left
  ·simp only [Act.put, z1', z2', z3', i64_w, i32_w]
   rfl
  refine done_ (done_of HT_.out (by kernel_rfl)) ?_
  go_upto_region 8 with (fail)
  go_cut [45] (fun v45 wc => ∃ (kq : Nat) (x45_16 : Bool), v45 = .bool x45_16 ∧ Aside0 (laws_FnExactSquareOfTension.j0 kq x45_16 l0_0 l0_1 t535 t538 = some r) ∧ Aside0 (kq ≤ k) ∧ Aside0 (Kd.R k82 82 wc w.heap.size (fun _ => True) (.slice Ao37 t535.length co37) t535) ∧ Aside0 (Kd.R k84 84 wc w.heap.size (fun _ => True) (.slice Ao42 t538.length co42) t538) ∧ Aside0 (wc.heap[gb520]? = some (.cells #[(.slice A0_0 l0_0.length c0_0), (.slice A0_1 l0_1.length c0_1)] 33 (0, 0))) ∧ Aside0 (wc.heap[gb521]? = some (.cells #[.int .i64 a2_0, .int .i64 a2_1] 62 (0, 0))) ∧ Aside0 (wc.heap[gb534]? = some (.cells #[.int .i64 t531, .int .i64 t532] 63 (0, 0))) ∧ Aside0 (wc.heap[gb541]? = some (.cells #[(.slice Ao37 t535.length co37), (.slice Ao42 t538.length co42)] 39 (0, 0))) ∧ Aside0 (wc.heap[gb547]? = some (.cells #[.int .i64 t544, .int .i64 t545] 63 (0, 0))) ∧ Aside0 (Below w.heap.size w wc))
  case first =>
   have H := HC17.out
   clear HC17
   replace H := Option.bind_eq_some_iff.mp H
   obtain ⟨t548, A510, H⟩ := H
   replace H : (if t548 = true then (laws_FnExactSquareOfTension.j0 k (t546 != t533) l0_0 l0_1 t535 t538) else (laws_FnExactSquareOfTension.j0 k true l0_0 l0_1 t535 t538)) = some r := H
   have A51 := G A510
   clear A510
   by_cases c52 : t548 = true
   ·subst c52
    have H1 : (laws_FnExactSquareOfTension.j0 k (t546 != t533) l0_0 l0_1 t535 t538) = some r := by rw [if_pos rfl] at H; exact H
    clear H
    have H := H1
    clear H1
    have H' := G H
    clear H
    have hnb53 := NB547_520.out
    have hnc53 := NB520_547.out
    have hnb54 := NB547_521.out
    have hnc54 := NB521_547.out
    have hnb55 := NB547_534.out
    have hnc55 := NB534_547.out
    have hnb56 := NB547_541.out
    have hnc56 := NB541_547.out
    have hcz57_0 : w48.cell? ⟨gb547, 0, none⟩ = some (.int .i64 0) := (E BK547.out 0).trans rfl
    have hcz57_1 : w48.cell? ⟨gb547, 1, none⟩ = some (.int .i64 0) := (E BK547.out 1).trans rfl
    have hfz57_0 := GT BK547.out 0
    have hfz57_1 := GT BK547.out 1
    have hnb58 := NB534_520.out
    have hnc58 := NB520_534.out
    have hnb59 := NB534_521.out
    have hnc59 := NB521_534.out
    have hnb60 := NB534_541.out
    have hnc60 := NB541_534.out
    have hcz61_0 : w48.cell? ⟨gb534, 0, none⟩ = some (.int .i64 t531) := (E BK534.out 0).trans rfl
    have hcz61_1 : w48.cell? ⟨gb534, 1, none⟩ = some (.int .i64 t532) := (E BK534.out 1).trans rfl
    have hfz61_0 := GT BK534.out 0
    have hfz61_1 := GT BK534.out 1
    go_wp2_with (first | ((with_reducible refine gate_callee (f := 44) rfl ?_); refine goesL_ (some 39) rfl rfl Try.func44 (by kernel_rfl) rfl #[.agg #[.int .i64 t544, .int .i64 t545], .agg #[.int .i64 t531, .int .i64 t532]] rfl (by (try simp only [List.map_toArray, List.map_cons, List.map_nil]); first | done | rfl | (simp only [List.length_drop, List.length_take]; rfl)) ?_; (with_reducible refine (laws_eqFraction.calls t544 t545 t531 t532 true _ A51.out).mono ?_); rintro e w62 ⟨rfl, hb⟩; refine ⟨_, rfl, ?_⟩; have n0_ := G (B (by (with_reducible repeat (first | apply J | apply L | apply M)); exact (P (D (p := ⟨gb547, 1, none⟩) (D (p := ⟨gb547, 0, none⟩) (I HO525.out BK547.out (by decide)) (fun _ hk => hk.2) (.int .i64 t544)) (fun _ hk => hk.2) (.int .i64 t545)) (fun _ h_ => h_.1))) hb); have n1_ := G (B (by (with_reducible repeat (first | apply J | apply L | apply M)); exact (P (D (p := ⟨gb547, 1, none⟩) (D (p := ⟨gb547, 0, none⟩) (I HO528.out BK547.out (by decide)) (fun _ hk => hk.2) (.int .i64 t544)) (fun _ hk => hk.2) (.int .i64 t545)) (fun _ h_ => h_.1))) hb); have n2_ := G (B (by (with_reducible repeat (first | apply J | apply L | apply M)); exact (P (D (p := ⟨gb547, 1, none⟩) (D (p := ⟨gb547, 0, none⟩) (I HO537.out BK547.out (by decide)) (fun _ hk => hk.2) (.int .i64 t544)) (fun _ hk => hk.2) (.int .i64 t545)) (fun _ h_ => h_.1))) hb); have n3_ := G (B (by (with_reducible repeat (first | apply J | apply L | apply M)); exact (P (D (p := ⟨gb547, 1, none⟩) (D (p := ⟨gb547, 0, none⟩) (I HO540.out BK547.out (by decide)) (fun _ hk => hk.2) (.int .i64 t544)) (fun _ hk => hk.2) (.int .i64 t545)) (fun _ h_ => h_.1))) hb); have n4_ := G (F (g := gb520) (o := .cells #[.slice A0_0 l0_0.length c0_0, .slice A0_1 l0_1.length c0_1] 33 (0, 0)) (by (with_reducible repeat (first | refine U ?_ _ | refine X ?_ | refine V ?_ _)); refine blk_far ?_ NB520_547.out _; (with_reducible repeat (first | refine U ?_ _ | refine X ?_ | refine V ?_ _)); refine blk_far ?_ NB520_547.out _; (with_reducible repeat (first | refine U ?_ _ | refine X ?_ | refine V ?_ _)); exact BK520.out) hb); have n5_ := G (F (g := gb521) (o := .cells #[.int .i64 a2_0, .int .i64 a2_1] 62 (0, 0)) (by (with_reducible repeat (first | refine U ?_ _ | refine X ?_ | refine V ?_ _)); refine blk_far ?_ NB521_547.out _; (with_reducible repeat (first | refine U ?_ _ | refine X ?_ | refine V ?_ _)); refine blk_far ?_ NB521_547.out _; (with_reducible repeat (first | refine U ?_ _ | refine X ?_ | refine V ?_ _)); exact BK521.out) hb); have n6_ := G (F (g := gb534) (o := .cells #[.int .i64 t531, .int .i64 t532] 63 (0, 0)) (by (with_reducible repeat (first | refine U ?_ _ | refine X ?_ | refine V ?_ _)); refine blk_far ?_ NB534_547.out _; (with_reducible repeat (first | refine U ?_ _ | refine X ?_ | refine V ?_ _)); refine blk_far ?_ NB534_547.out _; (with_reducible repeat (first | refine U ?_ _ | refine X ?_ | refine V ?_ _)); exact BK534.out) hb); have n7_ := G (F (g := gb541) (o := .cells #[.slice Ao37 t535.length co37, .slice Ao42 t538.length co42] 39 (0, 0)) (by (with_reducible repeat (first | refine U ?_ _ | refine X ?_ | refine V ?_ _)); refine blk_far ?_ NB541_547.out _; (with_reducible repeat (first | refine U ?_ _ | refine X ?_ | refine V ?_ _)); refine blk_far ?_ NB541_547.out _; (with_reducible repeat (first | refine U ?_ _ | refine X ?_ | refine V ?_ _)); exact BK541.out) hb); have n8_ := G (F (g := gb547) (o := .cells #[.int .i64 t544, .int .i64 t545] 63 (0, 0)) (by (with_reducible repeat (first | refine U ?_ _ | refine X ?_ | refine V ?_ _)); refine blk_put (cs := #[.int .i64 t544, .int .i64 0]) ?_ 1 _ rfl; (with_reducible repeat (first | refine U ?_ _ | refine X ?_ | refine V ?_ _)); refine blk_put (cs := #[.int .i64 0, .int .i64 0]) ?_ 0 _ rfl; (with_reducible repeat (first | refine U ?_ _ | refine X ?_ | refine V ?_ _)); exact BK547.out) hb); have n9_ := G (GN (by repeat (first | (with_reducible first | exact HB.out | apply Z | apply T | apply Y | refine O ?_ GE520.out | refine O ?_ GE521.out | refine O ?_ GE534.out | refine O ?_ GE541.out | refine O ?_ GE547.out) | exact HB.out)) hb); clear HO525; clear HO528; clear HO537; clear HO540; clear BK520; clear BK521; clear BK534; clear BK541; clear BK547; clear HB; have HO525 := n0_; have HO528 := n1_; have HO537 := n2_; have HO540 := n3_; have BK520 := n4_; have BK521 := n5_; have BK534 := n6_; have BK541 := n7_; have BK547 := n8_; have HB := n9_; clear n0_ n1_ n2_ n3_ n4_ n5_ n6_ n7_ n8_ n9_; (try clear hb); (try clear hb2); (try clear hk); (try clear hi)))
    go_meet
    case rel => exact ⟨_, ((t546 != t533)), (by first | rfl | (simp; done) | (simp [*]; done)), H', ⟨by first | omega | exact Nat.le_refl _⟩, ⟨by (with_reducible repeat (first | apply J | apply L | apply M)); exact P HO537.out (fun _ hk => trivial)⟩, ⟨by (with_reducible repeat (first | apply J | apply L | apply M)); exact P HO540.out (fun _ hk => trivial)⟩, ⟨by (with_reducible repeat (first | refine U ?_ _ | refine X ?_ | refine V ?_ _)); exact BK520.out⟩, ⟨by (with_reducible repeat (first | refine U ?_ _ | refine X ?_ | refine V ?_ _)); exact BK521.out⟩, ⟨by (with_reducible repeat (first | refine U ?_ _ | refine X ?_ | refine V ?_ _)); exact BK534.out⟩, ⟨by (with_reducible repeat (first | refine U ?_ _ | refine X ?_ | refine V ?_ _)); exact BK541.out⟩, ⟨by (with_reducible repeat (first | refine U ?_ _ | refine X ?_ | refine V ?_ _)); exact BK547.out⟩, ⟨by repeat (first | (with_reducible first | exact HB.out | apply Z | apply T | apply Y | refine O ?_ GE520.out | refine O ?_ GE521.out | refine O ?_ GE534.out | refine O ?_ GE541.out | refine O ?_ GE547.out) | exact HB.out)⟩⟩
   ·replace c52 := Bool.eq_false_iff.mpr c52
    subst c52
    have H1 : (laws_FnExactSquareOfTension.j0 k true l0_0 l0_1 t535 t538) = some r := by rw [if_neg (show ¬ (false = true) by decide)] at H; exact H
    clear H
    have H := H1
    clear H1
    have H' := G H
    clear H
    have hnb63 := NB547_520.out
    have hnc63 := NB520_547.out
    have hnb64 := NB547_521.out
    have hnc64 := NB521_547.out
    have hnb65 := NB547_534.out
    have hnc65 := NB534_547.out
    have hnb66 := NB547_541.out
    have hnc66 := NB541_547.out
    have hcz67_0 : w48.cell? ⟨gb547, 0, none⟩ = some (.int .i64 0) := (E BK547.out 0).trans rfl
    have hcz67_1 : w48.cell? ⟨gb547, 1, none⟩ = some (.int .i64 0) := (E BK547.out 1).trans rfl
    have hfz67_0 := GT BK547.out 0
    have hfz67_1 := GT BK547.out 1
    have hnb68 := NB534_520.out
    have hnc68 := NB520_534.out
    have hnb69 := NB534_521.out
    have hnc69 := NB521_534.out
    have hnb70 := NB534_541.out
    have hnc70 := NB541_534.out
    have hcz71_0 : w48.cell? ⟨gb534, 0, none⟩ = some (.int .i64 t531) := (E BK534.out 0).trans rfl
    have hcz71_1 : w48.cell? ⟨gb534, 1, none⟩ = some (.int .i64 t532) := (E BK534.out 1).trans rfl
    have hfz71_0 := GT BK534.out 0
    have hfz71_1 := GT BK534.out 1
    go_wp2_with (first | ((with_reducible refine gate_callee (f := 44) rfl ?_); refine goesL_ (some 39) rfl rfl Try.func44 (by kernel_rfl) rfl #[.agg #[.int .i64 t544, .int .i64 t545], .agg #[.int .i64 t531, .int .i64 t532]] rfl (by (try simp only [List.map_toArray, List.map_cons, List.map_nil]); first | done | rfl | (simp only [List.length_drop, List.length_take]; rfl)) ?_; (with_reducible refine (laws_eqFraction.calls t544 t545 t531 t532 false _ A51.out).mono ?_); rintro e w72 ⟨rfl, hb⟩; refine ⟨_, rfl, ?_⟩; have n0_ := G (B (by (with_reducible repeat (first | apply J | apply L | apply M)); exact (P (D (p := ⟨gb547, 1, none⟩) (D (p := ⟨gb547, 0, none⟩) (I HO525.out BK547.out (by decide)) (fun _ hk => hk.2) (.int .i64 t544)) (fun _ hk => hk.2) (.int .i64 t545)) (fun _ h_ => h_.1))) hb); have n1_ := G (B (by (with_reducible repeat (first | apply J | apply L | apply M)); exact (P (D (p := ⟨gb547, 1, none⟩) (D (p := ⟨gb547, 0, none⟩) (I HO528.out BK547.out (by decide)) (fun _ hk => hk.2) (.int .i64 t544)) (fun _ hk => hk.2) (.int .i64 t545)) (fun _ h_ => h_.1))) hb); have n2_ := G (B (by (with_reducible repeat (first | apply J | apply L | apply M)); exact (P (D (p := ⟨gb547, 1, none⟩) (D (p := ⟨gb547, 0, none⟩) (I HO537.out BK547.out (by decide)) (fun _ hk => hk.2) (.int .i64 t544)) (fun _ hk => hk.2) (.int .i64 t545)) (fun _ h_ => h_.1))) hb); have n3_ := G (B (by (with_reducible repeat (first | apply J | apply L | apply M)); exact (P (D (p := ⟨gb547, 1, none⟩) (D (p := ⟨gb547, 0, none⟩) (I HO540.out BK547.out (by decide)) (fun _ hk => hk.2) (.int .i64 t544)) (fun _ hk => hk.2) (.int .i64 t545)) (fun _ h_ => h_.1))) hb); have n4_ := G (F (g := gb520) (o := .cells #[.slice A0_0 l0_0.length c0_0, .slice A0_1 l0_1.length c0_1] 33 (0, 0)) (by (with_reducible repeat (first | refine U ?_ _ | refine X ?_ | refine V ?_ _)); refine blk_far ?_ NB520_547.out _; (with_reducible repeat (first | refine U ?_ _ | refine X ?_ | refine V ?_ _)); refine blk_far ?_ NB520_547.out _; (with_reducible repeat (first | refine U ?_ _ | refine X ?_ | refine V ?_ _)); exact BK520.out) hb); have n5_ := G (F (g := gb521) (o := .cells #[.int .i64 a2_0, .int .i64 a2_1] 62 (0, 0)) (by (with_reducible repeat (first | refine U ?_ _ | refine X ?_ | refine V ?_ _)); refine blk_far ?_ NB521_547.out _; (with_reducible repeat (first | refine U ?_ _ | refine X ?_ | refine V ?_ _)); refine blk_far ?_ NB521_547.out _; (with_reducible repeat (first | refine U ?_ _ | refine X ?_ | refine V ?_ _)); exact BK521.out) hb); have n6_ := G (F (g := gb534) (o := .cells #[.int .i64 t531, .int .i64 t532] 63 (0, 0)) (by (with_reducible repeat (first | refine U ?_ _ | refine X ?_ | refine V ?_ _)); refine blk_far ?_ NB534_547.out _; (with_reducible repeat (first | refine U ?_ _ | refine X ?_ | refine V ?_ _)); refine blk_far ?_ NB534_547.out _; (with_reducible repeat (first | refine U ?_ _ | refine X ?_ | refine V ?_ _)); exact BK534.out) hb); have n7_ := G (F (g := gb541) (o := .cells #[.slice Ao37 t535.length co37, .slice Ao42 t538.length co42] 39 (0, 0)) (by (with_reducible repeat (first | refine U ?_ _ | refine X ?_ | refine V ?_ _)); refine blk_far ?_ NB541_547.out _; (with_reducible repeat (first | refine U ?_ _ | refine X ?_ | refine V ?_ _)); refine blk_far ?_ NB541_547.out _; (with_reducible repeat (first | refine U ?_ _ | refine X ?_ | refine V ?_ _)); exact BK541.out) hb); have n8_ := G (F (g := gb547) (o := .cells #[.int .i64 t544, .int .i64 t545] 63 (0, 0)) (by (with_reducible repeat (first | refine U ?_ _ | refine X ?_ | refine V ?_ _)); refine blk_put (cs := #[.int .i64 t544, .int .i64 0]) ?_ 1 _ rfl; (with_reducible repeat (first | refine U ?_ _ | refine X ?_ | refine V ?_ _)); refine blk_put (cs := #[.int .i64 0, .int .i64 0]) ?_ 0 _ rfl; (with_reducible repeat (first | refine U ?_ _ | refine X ?_ | refine V ?_ _)); exact BK547.out) hb); have n9_ := G (GN (by repeat (first | (with_reducible first | exact HB.out | apply Z | apply T | apply Y | refine O ?_ GE520.out | refine O ?_ GE521.out | refine O ?_ GE534.out | refine O ?_ GE541.out | refine O ?_ GE547.out) | exact HB.out)) hb); clear HO525; clear HO528; clear HO537; clear HO540; clear BK520; clear BK521; clear BK534; clear BK541; clear BK547; clear HB; have HO525 := n0_; have HO528 := n1_; have HO537 := n2_; have HO540 := n3_; have BK520 := n4_; have BK521 := n5_; have BK534 := n6_; have BK541 := n7_; have BK547 := n8_; have HB := n9_; clear n0_ n1_ n2_ n3_ n4_ n5_ n6_ n7_ n8_ n9_; (try clear hb); (try clear hb2); (try clear hk); (try clear hi)))
    go_meet
    case rel => exact ⟨_, (true), (by first | rfl | (simp; done) | (simp [*]; done)), H', ⟨by first | omega | exact Nat.le_refl _⟩, ⟨by (with_reducible repeat (first | apply J | apply L | apply M)); exact P HO537.out (fun _ hk => trivial)⟩, ⟨by (with_reducible repeat (first | apply J | apply L | apply M)); exact P HO540.out (fun _ hk => trivial)⟩, ⟨by (with_reducible repeat (first | refine U ?_ _ | refine X ?_ | refine V ?_ _)); exact BK520.out⟩, ⟨by (with_reducible repeat (first | refine U ?_ _ | refine X ?_ | refine V ?_ _)); exact BK521.out⟩, ⟨by (with_reducible repeat (first | refine U ?_ _ | refine X ?_ | refine V ?_ _)); exact BK534.out⟩, ⟨by (with_reducible repeat (first | refine U ?_ _ | refine X ?_ | refine V ?_ _)); exact BK541.out⟩, ⟨by (with_reducible repeat (first | refine U ?_ _ | refine X ?_ | refine V ?_ _)); exact BK547.out⟩, ⟨by repeat (first | (with_reducible first | exact HB.out | apply Z | apply T | apply Y | refine O ?_ GE520.out | refine O ?_ GE521.out | refine O ?_ GE534.out | refine O ?_ GE541.out | refine O ?_ GE547.out) | exact HB.out)⟩⟩
  case rest =>
   clear HC17
   try clear p2
   try clear c4
   try clear c5
   try clear c6
   try clear c7
   try clear c42
   try clear c43
   try clear c44
   try clear c52
   try clear c53
   try clear c54
   try clear c55
   try clear c56
   try clear c58
   try clear c59
   try clear c60
   try clear c63
   try clear c64
   try clear c65
   try clear c66
   try clear c68
   try clear c69
   try clear c70
   try clear hcz57_0
   try clear hcz57_1
   try clear hcz61_0
   try clear hcz61_1
   try clear hcz67_0
   try clear hcz67_1
   try clear hcz71_0
   try clear hcz71_1
   try clear hfz57_0
   try clear hfz57_1
   try clear hfz61_0
   try clear hfz61_1
   try clear hfz67_0
   try clear hfz67_1
   try clear hfz71_0
   try clear hfz71_1
   obtain ⟨kq, x45_16, rfl, HA, HJ16, HO_542000, HO_542001, BK520, BK521, BK534, BK541, BK547, HB⟩ := hcut
   cases kq with
   | zero => exact absurd HA.out (by simp [laws_FnExactSquareOfTension.j0])
   | succ kj16 =>
    have H := HA.out
    clear HA
    simp only [laws_FnExactSquareOfTension.j0] at H
    by_cases c73 : x45_16 = true
    ·subst c73
     have H1 : (some false) = some r := by rw [if_pos rfl] at H; exact H
     clear H
     have H := H1
     clear H1
     obtain rfl := Option.some.inj H
     go_wp2
     go_ret
     exact ⟨by first | rfl | (simp [errW_none, errW_some] <;> rfl) | (simp [*, errW_none, errW_some] <;> rfl), by repeat (first | (with_reducible first | exact HB.out | apply Z | apply T | apply Y | refine O ?_ GE520.out | refine O ?_ GE521.out | refine O ?_ GE534.out | refine O ?_ GE541.out | refine O ?_ GE547.out) | exact HB.out)⟩
    ·replace c73 := Bool.eq_false_iff.mpr c73
     subst c73
     have H1 : ((laws_toFrame.f kj16 l0_0 l0_1).bind fun bt549 => ((laws_eqFrame.f kj16 t535 t538 bt549.1 bt549.2).bind fun t555 => (if t555 = true then (some true) else (some false)))) = some r := by rw [if_neg (show ¬ (false = true) by decide)] at H; exact H
     clear H
     have H := H1
     clear H1
     replace H := Option.bind_eq_some_iff.mp H
     obtain ⟨⟨t549, t552⟩, A740, H⟩ := H
     replace H : ((laws_eqFrame.f kj16 t535 t538 t549 t552).bind fun t555 => (if t555 = true then (some true) else (some false))) = some r := H
     have A74 := G A740
     clear A740
     replace H := Option.bind_eq_some_iff.mp H
     obtain ⟨t555, A750, H⟩ := H
     replace H : (if t555 = true then (some true) else (some false)) = some r := H
     have A75 := G A750
     clear A750
     by_cases c76 : t555 = true
     ·subst c76
      have H1 : (some true) = some r := by rw [if_pos rfl] at H; exact H
      clear H
      have H := H1
      clear H1
      obtain rfl := Option.some.inj H
      try go_wp2
      have n0_ := G (M HO_542000.out)
      have n1_ := G (M HO_542001.out)
      have n2_ := G (X BK520.out)
      have n3_ := G (X BK521.out)
      have n4_ := G (X BK534.out)
      have n5_ := G (X BK541.out)
      have n6_ := G (X BK547.out)
      have n7_ := G (Y HB.out)
      clear HO_542000
      clear HO_542001
      clear BK520
      clear BK521
      clear BK534
      clear BK541
      clear BK547
      clear HB
      have HO_542000 := n0_
      have HO_542001 := n1_
      have BK520 := n2_
      have BK521 := n3_
      have BK534 := n4_
      have BK541 := n5_
      have BK547 := n6_
      have HB := n7_
      clear n0_ n1_ n2_ n3_ n4_ n5_ n6_ n7_
      refine start_ (n := 5) (S := fun w' => w'.cell? ⟨gb541, 0, none⟩ = some (.slice Ao37 t535.length co37) ∧ w'.cell? ⟨gb541, 1, none⟩ = some (.slice Ao42 t538.length co42) ∧ w'.cell? ⟨gb520, 0, none⟩ = some (.slice A0_0 l0_0.length c0_0) ∧ w'.cell? ⟨gb520, 1, none⟩ = some (.slice A0_1 l0_1.length c0_1)) (ds := []) #[n', n', n', n', n'] (by kernel_rfl) rfl rfl ⟨(E BK541.out 0).trans rfl, (E BK541.out 1).trans rfl, (E BK520.out 0).trans rfl, (E BK520.out 1).trans rfl⟩ (fun hHeld => ?_)
      generalize wc.drew = w77 at HO_542000 HO_542001 BK520 BK521 BK534 BK541 BK547 HB hHeld ⊢
      refine take_ (i := 0) (N := some 46) (v := ?_) (a' := ?_) #[y', n', n', n', n'] rfl rfl (by kernel_rfl) (fun _ _ _ h => h) (Or.inl ⟨by rfl, ?_⟩) hHeld ?_ ?_
      rotate_left
      ·rintro w' ⟨s0, s1, s2, s3⟩
       go_simp
       with_reducible rfl
      rotate_left
      ·simp only [Act.put, z1', z2', z3', i64_w, i32_w]
       rfl
      refine take_ (i := 1) (N := some 47) (v := ?_) (a' := ?_) #[y', y', n', n', n'] rfl rfl (by kernel_rfl) (fun _ _ _ h => h) (Or.inl ⟨by rfl, ?_⟩) hHeld ?_ ?_
      rotate_left
      ·rintro w' ⟨s0, s1, s2, s3⟩
       go_simp
       with_reducible rfl
      rotate_left
      ·simp only [Act.put, z1', z2', z3', i64_w, i32_w]
       rfl
      refine one_ (i := 2) (N := some 48) #[y', y', y', n', n'] rfl rfl (by kernel_rfl) (by decide) (fun K hK => ?_)
      refine goes_ Try.func21 (by kernel_rfl) rfl #[.agg #[.slice A0_0 l0_0.length c0_0, .slice A0_1 l0_1.length c0_1]] (by rfl) rfl rfl (by (try simp only [List.map_toArray, List.map_cons, List.map_nil]); first | done | rfl | (simp only [List.length_drop, List.length_take]; rfl)) ?_
      with_reducible refine (laws_toFrame.calls kj16 _ _ l0_0 _ _ l0_1 t549 t552 _ ?side1 ?side2 ?side3 ?side4 A74.out).mono ?_
      (case side1 => repeat (first | exact (GO HR0_0.out HB.out) | (with_reducible refine GG ?_ _) | (with_reducible refine GJ ?_ _) | (with_reducible refine GL ?_)))
      (case side2 => exact HC0_0.out)
      (case side3 => repeat (first | exact (GO HR0_1.out HB.out) | (with_reducible refine GG ?_ _) | (with_reducible refine GJ ?_ _) | (with_reducible refine GL ?_)))
      (case side4 => exact HC0_1.out)
      rintro e w78 ⟨v550, v553, rfl, ho0, ho1, hb⟩
      refine ⟨_, rfl, ?_⟩
      have n0_ := G (Kd.R_elder' (by (with_reducible repeat (first | apply J | apply L | apply M)); exact HO_542000.out) (Kd.R_base ho0) hb)
      have n1_ := G (Kd.R_elder' (by (with_reducible repeat (first | apply J | apply L | apply M)); exact HO_542001.out) (Kd.R_base ho1) hb)
      have n2_ := G (Kd.R_lower (Kd.R_new' ho0 (Kd.R_lt (by (with_reducible repeat (first | apply J | apply L | apply M)); exact HO_542000.out))) (GM (by repeat (first | (with_reducible first | exact HB.out | apply Z | apply T | apply Y | refine O ?_ GE520.out | refine O ?_ GE521.out | refine O ?_ GE534.out | refine O ?_ GE541.out | refine O ?_ GE547.out) | exact HB.out))))
      have n3_ := G (Kd.R_lower (Kd.R_new' ho1 (Kd.R_lt (by (with_reducible repeat (first | apply J | apply L | apply M)); exact HO_542001.out))) (GM (by repeat (first | (with_reducible first | exact HB.out | apply Z | apply T | apply Y | refine O ?_ GE520.out | refine O ?_ GE521.out | refine O ?_ GE534.out | refine O ?_ GE541.out | refine O ?_ GE547.out) | exact HB.out))))
      have n4_ := G (F (g := gb520) (o := .cells #[.slice A0_0 l0_0.length c0_0, .slice A0_1 l0_1.length c0_1] 33 (0, 0)) (by (with_reducible repeat (first | refine U ?_ _ | refine X ?_ | refine V ?_ _)); exact BK520.out) hb)
      have n5_ := G (F (g := gb521) (o := .cells #[.int .i64 a2_0, .int .i64 a2_1] 62 (0, 0)) (by (with_reducible repeat (first | refine U ?_ _ | refine X ?_ | refine V ?_ _)); exact BK521.out) hb)
      have n6_ := G (F (g := gb534) (o := .cells #[.int .i64 t531, .int .i64 t532] 63 (0, 0)) (by (with_reducible repeat (first | refine U ?_ _ | refine X ?_ | refine V ?_ _)); exact BK534.out) hb)
      have n7_ := G (F (g := gb541) (o := .cells #[.slice Ao37 t535.length co37, .slice Ao42 t538.length co42] 39 (0, 0)) (by (with_reducible repeat (first | refine U ?_ _ | refine X ?_ | refine V ?_ _)); exact BK541.out) hb)
      have n8_ := G (F (g := gb547) (o := .cells #[.int .i64 t544, .int .i64 t545] 63 (0, 0)) (by (with_reducible repeat (first | refine U ?_ _ | refine X ?_ | refine V ?_ _)); exact BK547.out) hb)
      have n9_ := G (GN (by repeat (first | (with_reducible first | exact HB.out | apply Z | apply T | apply Y | refine O ?_ GE520.out | refine O ?_ GE521.out | refine O ?_ GE534.out | refine O ?_ GE541.out | refine O ?_ GE547.out) | exact HB.out)) hb)
      clear HO_542000
      clear HO_542001
      clear BK520
      clear BK521
      clear BK534
      clear BK541
      clear BK547
      clear HB
      have HO_542000 := n0_
      have HO_542001 := n1_
      have HO551 := n2_
      have HO554 := n3_
      have BK520 := n4_
      have BK521 := n5_
      have BK534 := n6_
      have BK541 := n7_
      have BK547 := n8_
      have HB := n9_
      clear n0_ n1_ n2_ n3_ n4_ n5_ n6_ n7_ n8_ n9_
      (try clear hb)
      (try clear hb2)
      (try clear hk)
      (try clear hi)
      (try clear ho0)
      (try clear ho1)
      obtain ⟨Ao79, co79, eo79⟩ := Kd.R_slice HO551.out
      (first | subst eo79 | (injection eo79 with f1_ f2_ f3_; have f4_ := f1_.symm; have f5_ := f3_.symm; clear f1_ f2_ f3_; subst f4_; subst f5_))
      obtain ⟨Ao80, co80, eo80⟩ := Kd.R_slice HO554.out
      (first | subst eo80 | (injection eo80 with f1_ f2_ f3_; have f4_ := f1_.symm; have f5_ := f3_.symm; clear f1_ f2_ f3_; subst f4_; subst f5_))
      refine hK.out _ _ ⟨(E BK541.out 0).trans rfl, (E BK541.out 1).trans rfl, (E BK520.out 0).trans rfl, (E BK520.out 1).trans rfl⟩ (fun hHeld => ?_)
      clear hK K
      refine norm_ (a' := ?_) ?_ ?_
      rotate_left
      ·show Act.put _ (some 48) _ = _
       simp only [Act.put, z1', z2', z3', i64_w, i32_w]
       rfl
      refine one_ (i := 3) (N := some 49) #[y', y', y', y', n'] rfl rfl (by kernel_rfl) (by decide) (fun K hK => ?_)
      refine goes_ Try.func23 (by kernel_rfl) rfl #[.agg #[.slice Ao37 t535.length co37, .slice Ao42 t538.length co42], .agg #[.slice Ao79 t549.length co79, .slice Ao80 t552.length co80]] (by rfl) rfl rfl (by (try simp only [List.map_toArray, List.map_cons, List.map_nil]); first | done | rfl | (simp only [List.length_drop, List.length_take]; rfl)) ?_
      with_reducible refine (laws_eqFrame.calls kj16 _ _ t535 _ _ t538 _ _ t549 _ _ t552 true _ ?side1 ?side2 ?side3 ?side4 ?side5 ?side6 ?side7 ?side8 A75.out).mono ?_
      (case side1 => repeat (first | exact (Kd.R_reads' HO_542000.out).2.2 | (with_reducible refine GG ?_ _) | (with_reducible refine GJ ?_ _) | (with_reducible refine GL ?_)))
      (case side2 => exact (Kd.R_reads' HO_542000.out).2.1)
      (case side3 => repeat (first | exact (Kd.R_reads' HO_542001.out).2.2 | (with_reducible refine GG ?_ _) | (with_reducible refine GJ ?_ _) | (with_reducible refine GL ?_)))
      (case side4 => exact (Kd.R_reads' HO_542001.out).2.1)
      (case side5 => repeat (first | exact (Kd.R_reads' HO551.out).2.2 | (with_reducible refine GG ?_ _) | (with_reducible refine GJ ?_ _) | (with_reducible refine GL ?_)))
      (case side6 => exact (Kd.R_reads' HO551.out).2.1)
      (case side7 => repeat (first | exact (Kd.R_reads' HO554.out).2.2 | (with_reducible refine GG ?_ _) | (with_reducible refine GJ ?_ _) | (with_reducible refine GL ?_)))
      (case side8 => exact (Kd.R_reads' HO554.out).2.1)
      rintro e w81 ⟨rfl, hb⟩
      refine ⟨_, rfl, ?_⟩
      have n0_ := G (B (by (with_reducible repeat (first | apply J | apply L | apply M)); exact HO_542000.out) hb)
      have n1_ := G (B (by (with_reducible repeat (first | apply J | apply L | apply M)); exact HO_542001.out) hb)
      have n2_ := G (B (by (with_reducible repeat (first | apply J | apply L | apply M)); exact HO551.out) hb)
      have n3_ := G (B (by (with_reducible repeat (first | apply J | apply L | apply M)); exact HO554.out) hb)
      have n4_ := G (F (g := gb520) (o := .cells #[.slice A0_0 l0_0.length c0_0, .slice A0_1 l0_1.length c0_1] 33 (0, 0)) (by (with_reducible repeat (first | refine U ?_ _ | refine X ?_ | refine V ?_ _)); exact BK520.out) hb)
      have n5_ := G (F (g := gb521) (o := .cells #[.int .i64 a2_0, .int .i64 a2_1] 62 (0, 0)) (by (with_reducible repeat (first | refine U ?_ _ | refine X ?_ | refine V ?_ _)); exact BK521.out) hb)
      have n6_ := G (F (g := gb534) (o := .cells #[.int .i64 t531, .int .i64 t532] 63 (0, 0)) (by (with_reducible repeat (first | refine U ?_ _ | refine X ?_ | refine V ?_ _)); exact BK534.out) hb)
      have n7_ := G (F (g := gb541) (o := .cells #[.slice Ao37 t535.length co37, .slice Ao42 t538.length co42] 39 (0, 0)) (by (with_reducible repeat (first | refine U ?_ _ | refine X ?_ | refine V ?_ _)); exact BK541.out) hb)
      have n8_ := G (F (g := gb547) (o := .cells #[.int .i64 t544, .int .i64 t545] 63 (0, 0)) (by (with_reducible repeat (first | refine U ?_ _ | refine X ?_ | refine V ?_ _)); exact BK547.out) hb)
      have n9_ := G (GN (by repeat (first | (with_reducible first | exact HB.out | apply Z | apply T | apply Y | refine O ?_ GE520.out | refine O ?_ GE521.out | refine O ?_ GE534.out | refine O ?_ GE541.out | refine O ?_ GE547.out) | exact HB.out)) hb)
      clear HO_542000
      clear HO_542001
      clear HO551
      clear HO554
      clear BK520
      clear BK521
      clear BK534
      clear BK541
      clear BK547
      clear HB
      have HO_542000 := n0_
      have HO_542001 := n1_
      have HO551 := n2_
      have HO554 := n3_
      have BK520 := n4_
      have BK521 := n5_
      have BK534 := n6_
      have BK541 := n7_
      have BK547 := n8_
      have HB := n9_
      clear n0_ n1_ n2_ n3_ n4_ n5_ n6_ n7_ n8_ n9_
      (try clear hb)
      (try clear hb2)
      (try clear hk)
      (try clear hi)
      refine hK.out _ _ ⟨(E BK541.out 0).trans rfl, (E BK541.out 1).trans rfl, (E BK520.out 0).trans rfl, (E BK520.out 1).trans rfl⟩ (fun hHeld => ?_)
      clear hK K
      refine norm_ (a' := ?_) ?_ ?_
      rotate_left
      ·show Act.put _ (some 49) _ = _
       simp only [Act.put, z1', z2', z3', i64_w, i32_w]
       rfl
      refine pure_ (i := 4) (N := some 50) (v := ?_) (a' := ?_) #[y', y', y', y', y'] rfl rfl (by kernel_rfl) (fun _ _ _ h => h) (Or.inl ⟨by rfl, ?_⟩) ?_ ?_
      rotate_left
      ·intro w'
       go_simp
       with_reducible rfl
      rotate_left
      ·simp only [Act.put, z1', z2', z3', i64_w, i32_w]
       rfl
      refine done_ (by kernel_rfl) ?_
      try go_wp2
      go_ret
      exact ⟨by first | rfl | (simp [errW_none, errW_some] <;> rfl) | (simp [*, errW_none, errW_some] <;> rfl), by repeat (first | (with_reducible first | exact HB.out | apply Z | apply T | apply Y | refine O ?_ GE520.out | refine O ?_ GE521.out | refine O ?_ GE534.out | refine O ?_ GE541.out | refine O ?_ GE547.out) | exact HB.out)⟩
     ·replace c76 := Bool.eq_false_iff.mpr c76
      subst c76
      have H1 : (some false) = some r := by rw [if_neg (show ¬ (false = true) by decide)] at H; exact H
      clear H
      have H := H1
      clear H1
      obtain rfl := Option.some.inj H
      try go_wp2
      have n0_ := G (M HO_542000.out)
      have n1_ := G (M HO_542001.out)
      have n2_ := G (X BK520.out)
      have n3_ := G (X BK521.out)
      have n4_ := G (X BK534.out)
      have n5_ := G (X BK541.out)
      have n6_ := G (X BK547.out)
      have n7_ := G (Y HB.out)
      clear HO_542000
      clear HO_542001
      clear BK520
      clear BK521
      clear BK534
      clear BK541
      clear BK547
      clear HB
      have HO_542000 := n0_
      have HO_542001 := n1_
      have BK520 := n2_
      have BK521 := n3_
      have BK534 := n4_
      have BK541 := n5_
      have BK547 := n6_
      have HB := n7_
      clear n0_ n1_ n2_ n3_ n4_ n5_ n6_ n7_
      refine start_ (n := 5) (S := fun w' => w'.cell? ⟨gb541, 0, none⟩ = some (.slice Ao37 t535.length co37) ∧ w'.cell? ⟨gb541, 1, none⟩ = some (.slice Ao42 t538.length co42) ∧ w'.cell? ⟨gb520, 0, none⟩ = some (.slice A0_0 l0_0.length c0_0) ∧ w'.cell? ⟨gb520, 1, none⟩ = some (.slice A0_1 l0_1.length c0_1)) (ds := []) #[n', n', n', n', n'] (by kernel_rfl) rfl rfl ⟨(E BK541.out 0).trans rfl, (E BK541.out 1).trans rfl, (E BK520.out 0).trans rfl, (E BK520.out 1).trans rfl⟩ (fun hHeld => ?_)
      generalize wc.drew = w82 at HO_542000 HO_542001 BK520 BK521 BK534 BK541 BK547 HB hHeld ⊢
      refine take_ (i := 0) (N := some 46) (v := ?_) (a' := ?_) #[y', n', n', n', n'] rfl rfl (by kernel_rfl) (fun _ _ _ h => h) (Or.inl ⟨by rfl, ?_⟩) hHeld ?_ ?_
      rotate_left
      ·rintro w' ⟨s0, s1, s2, s3⟩
       go_simp
       with_reducible rfl
      rotate_left
      ·simp only [Act.put, z1', z2', z3', i64_w, i32_w]
       rfl
      refine take_ (i := 1) (N := some 47) (v := ?_) (a' := ?_) #[y', y', n', n', n'] rfl rfl (by kernel_rfl) (fun _ _ _ h => h) (Or.inl ⟨by rfl, ?_⟩) hHeld ?_ ?_
      rotate_left
      ·rintro w' ⟨s0, s1, s2, s3⟩
       go_simp
       with_reducible rfl
      rotate_left
      ·simp only [Act.put, z1', z2', z3', i64_w, i32_w]
       rfl
      refine one_ (i := 2) (N := some 48) #[y', y', y', n', n'] rfl rfl (by kernel_rfl) (by decide) (fun K hK => ?_)
      refine goes_ Try.func21 (by kernel_rfl) rfl #[.agg #[.slice A0_0 l0_0.length c0_0, .slice A0_1 l0_1.length c0_1]] (by rfl) rfl rfl (by (try simp only [List.map_toArray, List.map_cons, List.map_nil]); first | done | rfl | (simp only [List.length_drop, List.length_take]; rfl)) ?_
      with_reducible refine (laws_toFrame.calls kj16 _ _ l0_0 _ _ l0_1 t549 t552 _ ?side1 ?side2 ?side3 ?side4 A74.out).mono ?_
      (case side1 => repeat (first | exact (GO HR0_0.out HB.out) | (with_reducible refine GG ?_ _) | (with_reducible refine GJ ?_ _) | (with_reducible refine GL ?_)))
      (case side2 => exact HC0_0.out)
      (case side3 => repeat (first | exact (GO HR0_1.out HB.out) | (with_reducible refine GG ?_ _) | (with_reducible refine GJ ?_ _) | (with_reducible refine GL ?_)))
      (case side4 => exact HC0_1.out)
      rintro e w83 ⟨v550, v553, rfl, ho0, ho1, hb⟩
      refine ⟨_, rfl, ?_⟩
      have n0_ := G (Kd.R_elder' (by (with_reducible repeat (first | apply J | apply L | apply M)); exact HO_542000.out) (Kd.R_base ho0) hb)
      have n1_ := G (Kd.R_elder' (by (with_reducible repeat (first | apply J | apply L | apply M)); exact HO_542001.out) (Kd.R_base ho1) hb)
      have n2_ := G (Kd.R_lower (Kd.R_new' ho0 (Kd.R_lt (by (with_reducible repeat (first | apply J | apply L | apply M)); exact HO_542000.out))) (GM (by repeat (first | (with_reducible first | exact HB.out | apply Z | apply T | apply Y | refine O ?_ GE520.out | refine O ?_ GE521.out | refine O ?_ GE534.out | refine O ?_ GE541.out | refine O ?_ GE547.out) | exact HB.out))))
      have n3_ := G (Kd.R_lower (Kd.R_new' ho1 (Kd.R_lt (by (with_reducible repeat (first | apply J | apply L | apply M)); exact HO_542001.out))) (GM (by repeat (first | (with_reducible first | exact HB.out | apply Z | apply T | apply Y | refine O ?_ GE520.out | refine O ?_ GE521.out | refine O ?_ GE534.out | refine O ?_ GE541.out | refine O ?_ GE547.out) | exact HB.out))))
      have n4_ := G (F (g := gb520) (o := .cells #[.slice A0_0 l0_0.length c0_0, .slice A0_1 l0_1.length c0_1] 33 (0, 0)) (by (with_reducible repeat (first | refine U ?_ _ | refine X ?_ | refine V ?_ _)); exact BK520.out) hb)
      have n5_ := G (F (g := gb521) (o := .cells #[.int .i64 a2_0, .int .i64 a2_1] 62 (0, 0)) (by (with_reducible repeat (first | refine U ?_ _ | refine X ?_ | refine V ?_ _)); exact BK521.out) hb)
      have n6_ := G (F (g := gb534) (o := .cells #[.int .i64 t531, .int .i64 t532] 63 (0, 0)) (by (with_reducible repeat (first | refine U ?_ _ | refine X ?_ | refine V ?_ _)); exact BK534.out) hb)
      have n7_ := G (F (g := gb541) (o := .cells #[.slice Ao37 t535.length co37, .slice Ao42 t538.length co42] 39 (0, 0)) (by (with_reducible repeat (first | refine U ?_ _ | refine X ?_ | refine V ?_ _)); exact BK541.out) hb)
      have n8_ := G (F (g := gb547) (o := .cells #[.int .i64 t544, .int .i64 t545] 63 (0, 0)) (by (with_reducible repeat (first | refine U ?_ _ | refine X ?_ | refine V ?_ _)); exact BK547.out) hb)
      have n9_ := G (GN (by repeat (first | (with_reducible first | exact HB.out | apply Z | apply T | apply Y | refine O ?_ GE520.out | refine O ?_ GE521.out | refine O ?_ GE534.out | refine O ?_ GE541.out | refine O ?_ GE547.out) | exact HB.out)) hb)
      clear HO_542000
      clear HO_542001
      clear BK520
      clear BK521
      clear BK534
      clear BK541
      clear BK547
      clear HB
      have HO_542000 := n0_
      have HO_542001 := n1_
      have HO551 := n2_
      have HO554 := n3_
      have BK520 := n4_
      have BK521 := n5_
      have BK534 := n6_
      have BK541 := n7_
      have BK547 := n8_
      have HB := n9_
      clear n0_ n1_ n2_ n3_ n4_ n5_ n6_ n7_ n8_ n9_
      (try clear hb)
      (try clear hb2)
      (try clear hk)
      (try clear hi)
      (try clear ho0)
      (try clear ho1)
      obtain ⟨Ao84, co84, eo84⟩ := Kd.R_slice HO551.out
      (first | subst eo84 | (injection eo84 with f1_ f2_ f3_; have f4_ := f1_.symm; have f5_ := f3_.symm; clear f1_ f2_ f3_; subst f4_; subst f5_))
      obtain ⟨Ao85, co85, eo85⟩ := Kd.R_slice HO554.out
      (first | subst eo85 | (injection eo85 with f1_ f2_ f3_; have f4_ := f1_.symm; have f5_ := f3_.symm; clear f1_ f2_ f3_; subst f4_; subst f5_))
      refine hK.out _ _ ⟨(E BK541.out 0).trans rfl, (E BK541.out 1).trans rfl, (E BK520.out 0).trans rfl, (E BK520.out 1).trans rfl⟩ (fun hHeld => ?_)
      clear hK K
      refine norm_ (a' := ?_) ?_ ?_
      rotate_left
      ·show Act.put _ (some 48) _ = _
       simp only [Act.put, z1', z2', z3', i64_w, i32_w]
       rfl
      refine one_ (i := 3) (N := some 49) #[y', y', y', y', n'] rfl rfl (by kernel_rfl) (by decide) (fun K hK => ?_)
      refine goes_ Try.func23 (by kernel_rfl) rfl #[.agg #[.slice Ao37 t535.length co37, .slice Ao42 t538.length co42], .agg #[.slice Ao84 t549.length co84, .slice Ao85 t552.length co85]] (by rfl) rfl rfl (by (try simp only [List.map_toArray, List.map_cons, List.map_nil]); first | done | rfl | (simp only [List.length_drop, List.length_take]; rfl)) ?_
      with_reducible refine (laws_eqFrame.calls kj16 _ _ t535 _ _ t538 _ _ t549 _ _ t552 false _ ?side1 ?side2 ?side3 ?side4 ?side5 ?side6 ?side7 ?side8 A75.out).mono ?_
      (case side1 => repeat (first | exact (Kd.R_reads' HO_542000.out).2.2 | (with_reducible refine GG ?_ _) | (with_reducible refine GJ ?_ _) | (with_reducible refine GL ?_)))
      (case side2 => exact (Kd.R_reads' HO_542000.out).2.1)
      (case side3 => repeat (first | exact (Kd.R_reads' HO_542001.out).2.2 | (with_reducible refine GG ?_ _) | (with_reducible refine GJ ?_ _) | (with_reducible refine GL ?_)))
      (case side4 => exact (Kd.R_reads' HO_542001.out).2.1)
      (case side5 => repeat (first | exact (Kd.R_reads' HO551.out).2.2 | (with_reducible refine GG ?_ _) | (with_reducible refine GJ ?_ _) | (with_reducible refine GL ?_)))
      (case side6 => exact (Kd.R_reads' HO551.out).2.1)
      (case side7 => repeat (first | exact (Kd.R_reads' HO554.out).2.2 | (with_reducible refine GG ?_ _) | (with_reducible refine GJ ?_ _) | (with_reducible refine GL ?_)))
      (case side8 => exact (Kd.R_reads' HO554.out).2.1)
      rintro e w86 ⟨rfl, hb⟩
      refine ⟨_, rfl, ?_⟩
      have n0_ := G (B (by (with_reducible repeat (first | apply J | apply L | apply M)); exact HO_542000.out) hb)
      have n1_ := G (B (by (with_reducible repeat (first | apply J | apply L | apply M)); exact HO_542001.out) hb)
      have n2_ := G (B (by (with_reducible repeat (first | apply J | apply L | apply M)); exact HO551.out) hb)
      have n3_ := G (B (by (with_reducible repeat (first | apply J | apply L | apply M)); exact HO554.out) hb)
      have n4_ := G (F (g := gb520) (o := .cells #[.slice A0_0 l0_0.length c0_0, .slice A0_1 l0_1.length c0_1] 33 (0, 0)) (by (with_reducible repeat (first | refine U ?_ _ | refine X ?_ | refine V ?_ _)); exact BK520.out) hb)
      have n5_ := G (F (g := gb521) (o := .cells #[.int .i64 a2_0, .int .i64 a2_1] 62 (0, 0)) (by (with_reducible repeat (first | refine U ?_ _ | refine X ?_ | refine V ?_ _)); exact BK521.out) hb)
      have n6_ := G (F (g := gb534) (o := .cells #[.int .i64 t531, .int .i64 t532] 63 (0, 0)) (by (with_reducible repeat (first | refine U ?_ _ | refine X ?_ | refine V ?_ _)); exact BK534.out) hb)
      have n7_ := G (F (g := gb541) (o := .cells #[.slice Ao37 t535.length co37, .slice Ao42 t538.length co42] 39 (0, 0)) (by (with_reducible repeat (first | refine U ?_ _ | refine X ?_ | refine V ?_ _)); exact BK541.out) hb)
      have n8_ := G (F (g := gb547) (o := .cells #[.int .i64 t544, .int .i64 t545] 63 (0, 0)) (by (with_reducible repeat (first | refine U ?_ _ | refine X ?_ | refine V ?_ _)); exact BK547.out) hb)
      have n9_ := G (GN (by repeat (first | (with_reducible first | exact HB.out | apply Z | apply T | apply Y | refine O ?_ GE520.out | refine O ?_ GE521.out | refine O ?_ GE534.out | refine O ?_ GE541.out | refine O ?_ GE547.out) | exact HB.out)) hb)
      clear HO_542000
      clear HO_542001
      clear HO551
      clear HO554
      clear BK520
      clear BK521
      clear BK534
      clear BK541
      clear BK547
      clear HB
      have HO_542000 := n0_
      have HO_542001 := n1_
      have HO551 := n2_
      have HO554 := n3_
      have BK520 := n4_
      have BK521 := n5_
      have BK534 := n6_
      have BK541 := n7_
      have BK547 := n8_
      have HB := n9_
      clear n0_ n1_ n2_ n3_ n4_ n5_ n6_ n7_ n8_ n9_
      (try clear hb)
      (try clear hb2)
      (try clear hk)
      (try clear hi)
      refine hK.out _ _ ⟨(E BK541.out 0).trans rfl, (E BK541.out 1).trans rfl, (E BK520.out 0).trans rfl, (E BK520.out 1).trans rfl⟩ (fun hHeld => ?_)
      clear hK K
      refine norm_ (a' := ?_) ?_ ?_
      rotate_left
      ·show Act.put _ (some 49) _ = _
       simp only [Act.put, z1', z2', z3', i64_w, i32_w]
       rfl
      refine pure_ (i := 4) (N := some 50) (v := ?_) (a' := ?_) #[y', y', y', y', y'] rfl rfl (by kernel_rfl) (fun _ _ _ h => h) (Or.inl ⟨by rfl, ?_⟩) ?_ ?_
      rotate_left
      ·intro w'
       go_simp
       with_reducible rfl
      rotate_left
      ·simp only [Act.put, z1', z2', z3', i64_w, i32_w]
       rfl
      refine done_ (by kernel_rfl) ?_
      try go_wp2
      go_ret
      exact ⟨by first | rfl | (simp [errW_none, errW_some] <;> rfl) | (simp [*, errW_none, errW_some] <;> rfl), by repeat (first | (with_reducible first | exact HB.out | apply Z | apply T | apply Y | refine O ?_ GE520.out | refine O ?_ GE521.out | refine O ?_ GE534.out | refine O ?_ GE541.out | refine O ?_ GE547.out) | exact HB.out)⟩

end Go.Proofs.Ytacijlpnpkhjaaa.HFr
