-- Written by a program for this claim (the functions that the statement reaches, and that the program's code comes to them).
import Derived.Test.YtacijlpnpkhjaaaHFrx0
import Derived.Test.YtacijlpnpkhjaaaHFrx3
import Derived.Test.YtacijlpnpkhjaaaHFrx4
import Derived.Test.YtacijlpnpkhjaaaHFrx14
import Derived.Test.YtacijlpnpkhjaaaHFrx28
namespace Go.Proofs.Ytacijlpnpkhjaaa.HFr
open Go.RowKit Go.Proofs.YtacijlpnpkhjaaaW.PrintWords Go.Proofs.YtacijlpnpkhjaaaW.PrintLast Go.Proofs.YtacijlpnpkhjaaaW.PrintMore
attribute [local go_sem] max2_int min2_int max_two min_two max_three min_three max_four min_four   -- for this text's walks alone
set_option linter.unusedVariables false
set_option linter.unusedSimpArgs false

/-! ### laws_FnExactValidDensities: function 9 -/
def laws_FnExactValidDensities.f (k : Nat) (l0_0 : List (S113)) (l0_1 : List (S115)) (l1_0 : List Int) (a1_1 : Int) : Option (Bool) := (laws_szFrame.f l0_0 l0_1 1048576).bind fun t591 => (if t591 < 0 then (some true) else ((laws_szDensities.f l1_0 a1_1 t591).bind fun t592 => (if t592 < 0 then (some true) else ((laws_toFrame.f k l0_0 l0_1).bind fun bt593 => ((laws_toDensities.f k l1_0 a1_1).bind fun bt599 => ((spec_ValidDensities.f k bt593.1 bt593.2 bt599.1 bt599.2).bind fun t603 => ((laws_toFrame.f k l0_0 l0_1).bind fun bt604 => ((laws_toDensities.f k l1_0 a1_1).bind fun bt611 => ((impl_ValidDensities.f k bt604.1 bt604.2 bt611.1 bt611.2).bind fun t616 => (if (t616 != t603) = true then (some false) else ((laws_toFrame.f k l0_0 l0_1).bind fun bt617 => ((laws_eqFrame.f k bt604.1 bt604.2 bt617.1 bt617.2).bind fun t623 => (if t623 = true then ((laws_toDensities.f k l1_0 a1_1).bind fun bt624 => ((laws_eqDensities.f k bt611.1 bt611.2 bt624.1 bt624.2).bind fun t628 => (if t628 = true then (some true) else (some false)))) else (some false))))))))))))))
theorem laws_FnExactValidDensities.mono : ∀ a0 a1 a2 a3 k, LeO (laws_FnExactValidDensities.f k a0 a1 a2 a3) (laws_FnExactValidDensities.f (k + 1) a0 a1 a2 a3) := by
 intro a0 a1 a2 a3 k
 unfold laws_FnExactValidDensities.f
 repeat' first
   | (with_reducible exact impl_ValidDensities.mono _ _ _ _ _)
   | (with_reducible exact laws_eqDensities.mono _ _ _ _ _)
   | (with_reducible exact laws_eqFrame.mono _ _ _ _ _)
   | (with_reducible exact laws_toDensities.mono _ _ _)
   | (with_reducible exact laws_toFrame.mono _ _ _)
   | (with_reducible exact spec_ValidDensities.mono _ _ _ _ _)
   | (with_reducible exact LeO.refl _)
   | (with_reducible exact LeO.none _)
   | (with_reducible refine LeO.ite ?_ ?_)
   | (with_reducible refine LeO.bind ?_ (fun _ => ?_))
   | exact impl_ValidDensities.mono _ _ _ _ _
   | exact laws_eqDensities.mono _ _ _ _ _
   | exact laws_eqFrame.mono _ _ _ _ _
   | exact laws_toDensities.mono _ _ _
   | exact laws_toFrame.mono _ _ _
   | exact spec_ValidDensities.mono _ _ _ _ _
   | exact LeO.none _
   | refine LeO.ite ?_ ?_
   | refine LeO.bind ?_ (fun _ => ?_)
@[reducible] def laws_FnExactValidDensities.y' : Bool := true
@[reducible] def laws_FnExactValidDensities.n' : Bool := false
theorem laws_FnExactValidDensities.z1' {α : Type} (l : List α) (i : Nat) (a : α) : l.toArray.setIfInBounds i a = (l.set i a).toArray := List.setIfInBounds_toArray ..
theorem laws_FnExactValidDensities.z2' {α : Type} (a b : α) (l : List α) : (a :: l).set 0 b = b :: l := rfl
theorem laws_FnExactValidDensities.z3' {α : Type} (a b : α) (l : List α) (n : Nat) : (a :: l).set (n + 1) b = a :: l.set n b := rfl
theorem laws_FnExactValidDensities.G : type_of% @Aside0.mk := @Aside0.mk
theorem laws_FnExactValidDensities.J : type_of% @Kd.R_alloc := @Kd.R_alloc
theorem laws_FnExactValidDensities.L : type_of% @Kd.R_drewN := @Kd.R_drewN
theorem laws_FnExactValidDensities.M : type_of% @Kd.R_drew := @Kd.R_drew
theorem laws_FnExactValidDensities.O : type_of% @below_set := @below_set
theorem laws_FnExactValidDensities.T : type_of% @pw_below_drewN := @pw_below_drewN
theorem laws_FnExactValidDensities.U : type_of% @blk_drewN := @blk_drewN
theorem laws_FnExactValidDensities.V : type_of% @blk_alloc := @blk_alloc
theorem laws_FnExactValidDensities.X : type_of% @blk_drew := @blk_drew
theorem laws_FnExactValidDensities.Y : type_of% @below_drew1 := @below_drew1
theorem laws_FnExactValidDensities.Z : type_of% @below_alloc := @below_alloc
theorem laws_FnExactValidDensities.B : type_of% @Kd.R_below := @Kd.R_below
theorem laws_FnExactValidDensities.D : type_of% @Kd.R_far := @Kd.R_far
theorem laws_FnExactValidDensities.E : type_of% @blk_cell := @blk_cell
theorem laws_FnExactValidDensities.F : type_of% @blk_below := @blk_below
theorem laws_FnExactValidDensities.I : type_of% @Kd.R_types := @Kd.R_types
theorem laws_FnExactValidDensities.P : type_of% @Kd.R_mono := @Kd.R_mono
theorem laws_FnExactValidDensities.R : type_of% @Kd.C_alloc := @Kd.C_alloc
theorem laws_FnExactValidDensities.GG : type_of% @Kd.C_drewN := @Kd.C_drewN
theorem laws_FnExactValidDensities.GJ : type_of% @Kd.C_drew := @Kd.C_drew
theorem laws_FnExactValidDensities.GL : type_of% @Kd.R_new' := @Kd.R_new'
theorem laws_FnExactValidDensities.GM : type_of% @below_size := @below_size
theorem laws_FnExactValidDensities.GN : type_of% @below_step := @below_step
theorem laws_FnExactValidDensities.GO : type_of% @Kd.C_below := @Kd.C_below
theorem laws_FnExactValidDensities.GT : type_of% @blk_frozen := @blk_frozen
set_option maxHeartbeats 8000000 in
set_option maxRecDepth 100000 in
theorem laws_FnExactValidDensities.calls (k : Nat) (A0_0 : Option Addr) (c0_0 : Nat) (l0_0 : List (S113)) (A0_1 : Option Addr) (c0_1 : Nat) (l0_1 : List (S115)) (A1_0 : Option Addr) (c1_0 : Nat) (l1_0 : List Int) (a1_1 : Int) (r : Bool) (w : World) (hr0_0 : Kd.C k113 w A0_0 l0_0.length l0_0) (hc0_0 : l0_0.length ≤ c0_0) (hr0_1 : Kd.C k115 w A0_1 l0_1.length l0_1) (hc0_1 : l0_1.length ≤ c0_1) (hr1_0 : Kd.C (Kd.int .i64) w A1_0 l1_0.length l1_0) (hc1_0 : l1_0.length ≤ c1_0) (h : laws_FnExactValidDensities.f k l0_0 l0_1 l1_0 a1_1 = some r) :
  Calls Try.prog 9 #[.agg #[.slice A0_0 l0_0.length c0_0, .slice A0_1 l0_1.length c0_1], .agg #[.slice A1_0 l1_0.length c1_0, .int .i64 a1_1]] w fun e w' => e = .returned (.bool r) ∧ Below w.heap.size w w' := by
 have hu33 := Try.underlying33
 have hu24 := Try.underlying24
 have hu39 := Try.underlying39
 have hu27 := Try.underlying27
 have HR0_0 := G hr0_0
 have HC0_0 := G hc0_0
 clear hr0_0 hc0_0
 have HR0_1 := G hr0_1
 have HC0_1 := G hc0_1
 clear hr0_1 hc0_1
 have HR1_0 := G hr1_0
 have HC1_0 := G hc1_0
 clear hr1_0 hc1_0
 have HB := G (Below.refl w.heap.size w)
 have H : ((laws_szFrame.f l0_0 l0_1 1048576).bind fun t591 => (if t591 < 0 then (some true) else ((laws_szDensities.f l1_0 a1_1 t591).bind fun t592 => (if t592 < 0 then (some true) else ((laws_toFrame.f k l0_0 l0_1).bind fun bt593 => ((laws_toDensities.f k l1_0 a1_1).bind fun bt599 => ((spec_ValidDensities.f k bt593.1 bt593.2 bt599.1 bt599.2).bind fun t603 => ((laws_toFrame.f k l0_0 l0_1).bind fun bt604 => ((laws_toDensities.f k l1_0 a1_1).bind fun bt611 => ((impl_ValidDensities.f k bt604.1 bt604.2 bt611.1 bt611.2).bind fun t616 => (if (t616 != t603) = true then (some false) else ((laws_toFrame.f k l0_0 l0_1).bind fun bt617 => ((laws_eqFrame.f k bt604.1 bt604.2 bt617.1 bt617.2).bind fun t623 => (if t623 = true then ((laws_toDensities.f k l1_0 a1_1).bind fun bt624 => ((laws_eqDensities.f k bt611.1 bt611.2 bt624.1 bt624.2).bind fun t628 => (if t628 = true then (some true) else (some false)))) else (some false))))))))))))))) = some r := h
 clear h
 replace H := Option.bind_eq_some_iff.mp H
 obtain ⟨t591, A30, H⟩ := H
 replace H : (if t591 < 0 then (some true) else ((laws_szDensities.f l1_0 a1_1 t591).bind fun t592 => (if t592 < 0 then (some true) else ((laws_toFrame.f k l0_0 l0_1).bind fun bt593 => ((laws_toDensities.f k l1_0 a1_1).bind fun bt599 => ((spec_ValidDensities.f k bt593.1 bt593.2 bt599.1 bt599.2).bind fun t603 => ((laws_toFrame.f k l0_0 l0_1).bind fun bt604 => ((laws_toDensities.f k l1_0 a1_1).bind fun bt611 => ((impl_ValidDensities.f k bt604.1 bt604.2 bt611.1 bt611.2).bind fun t616 => (if (t616 != t603) = true then (some false) else ((laws_toFrame.f k l0_0 l0_1).bind fun bt617 => ((laws_eqFrame.f k bt604.1 bt604.2 bt617.1 bt617.2).bind fun t623 => (if t623 = true then ((laws_toDensities.f k l1_0 a1_1).bind fun bt624 => ((laws_eqDensities.f k bt611.1 bt611.2 bt624.1 bt624.2).bind fun t628 => (if t628 = true then (some true) else (some false)))) else (some false)))))))))))))) = some r := H
 have A3 := G A30
 clear A30
 by_cases c4 : t591 < 0
 ·rw [if_pos c4] at H
  have c4b0 : decide (t591 < 0) = true := decide_eq_true c4
  clear c4
  obtain rfl := Option.some.inj H
  go_enter Try.func9, Try.ntmps9
  go_wp2_with (first | ((with_reducible refine gate_dst (N := 2) rfl ?_); refine box_event ?hg (N := 2) ?hd (cs := #[.slice A0_0 l0_0.length c0_0, .slice A0_1 l0_1.length c0_1]) (t := 33) ?hr ?_; (case hd => rfl); (case hg => rfl); (case hr => first | (go_simp; done) | (go_simp; rfl)); intro gb589 hg w5 hbox hb; have n0_ := G (GN (by repeat (first | (with_reducible first | exact HB.out | apply Z | apply T | apply Y) | exact HB.out)) hb); have n1_ := G (hbox); have n2_ := G ((by rw [hg]; exact (GM (by repeat (first | (with_reducible first | exact HB.out | apply Z | apply T | apply Y) | exact HB.out))) : w.heap.size ≤ gb589)); have n3_ := G ((by rw [hg]; exact (GM (by repeat (first | (with_reducible first | exact HB.out | apply Z | apply T | apply Y) | exact HB.out))) : w.heap.size ≤ gb589)); clear HB; have HB := n0_; have BK589 := n1_; have GW589 := n2_; have GE589 := n3_; clear n0_ n1_ n2_ n3_; clear hb hbox hg) | ((with_reducible refine gate_dst (N := 3) rfl ?_); refine box_event ?hg (N := 3) ?hd (cs := #[.slice A1_0 l1_0.length c1_0, .int .i64 a1_1]) (t := 24) ?hr ?_; (case hd => rfl); (case hg => rfl); (case hr => first | (go_simp; done) | (go_simp; rfl)); intro gb590 hg w6 hbox hb; have n0_ := G (F (g := gb589) (o := .cells #[.slice A0_0 l0_0.length c0_0, .slice A0_1 l0_1.length c0_1] 33 (0, 0)) (by (with_reducible repeat (first | refine U ?_ _ | refine X ?_ | refine V ?_ _)); exact BK589.out) hb); have n1_ := G (GN (by repeat (first | (with_reducible first | exact HB.out | apply Z | apply T | apply Y | refine O ?_ GE589.out) | exact HB.out)) hb); have n2_ := G (hbox); have n3_ := G ((by rw [hg]; exact (GM (by repeat (first | (with_reducible first | exact HB.out | apply Z | apply T | apply Y | refine O ?_ GE589.out) | exact HB.out))) : w.heap.size ≤ gb590)); have n4_ := G ((by rw [hg]; exact (GM (by repeat (first | (with_reducible first | exact HB.out | apply Z | apply T | apply Y | refine O ?_ GE589.out) | exact HB.out))) : w.heap.size ≤ gb590)); have n5_ := G ((by rw [hg]; exact Nat.ne_of_lt (blk_lt (g := gb589) (o := .cells #[.slice A0_0 l0_0.length c0_0, .slice A0_1 l0_1.length c0_1] 33 (0, 0)) (by (with_reducible repeat (first | refine U ?_ _ | refine X ?_ | refine V ?_ _)); exact BK589.out)) : gb589 ≠ gb590)); have n6_ := G ((by rw [hg]; exact Nat.ne_of_gt (blk_lt (g := gb589) (o := .cells #[.slice A0_0 l0_0.length c0_0, .slice A0_1 l0_1.length c0_1] 33 (0, 0)) (by (with_reducible repeat (first | refine U ?_ _ | refine X ?_ | refine V ?_ _)); exact BK589.out)) : gb590 ≠ gb589)); clear BK589; clear HB; have BK589 := n0_; have HB := n1_; have BK590 := n2_; have GW590 := n3_; have GE590 := n4_; have NB589_590 := n5_; have NB590_589 := n6_; clear n0_ n1_ n2_ n3_ n4_ n5_ n6_; clear hb hbox hg; have hnb7 := NB589_590.out; have hnc7 := NB590_589.out; have hcz8_0 : w6.cell? ⟨gb589, 0, none⟩ = some (.slice A0_0 l0_0.length c0_0) := (E BK589.out 0).trans rfl; have hcz8_1 : w6.cell? ⟨gb589, 1, none⟩ = some (.slice A0_1 l0_1.length c0_1) := (E BK589.out 1).trans rfl; have hfz8_0 := GT BK589.out 0; have hfz8_1 := GT BK589.out 1) | ((with_reducible refine gate_callee (f := 19) rfl ?_); refine goesL_ (some 12) rfl rfl Try.func19 (by kernel_rfl) rfl #[.agg #[.slice A0_0 l0_0.length c0_0, .slice A0_1 l0_1.length c0_1], .int .i64 1048576] rfl (by (try simp only [List.map_toArray, List.map_cons, List.map_nil]); first | done | rfl | (simp only [List.length_drop, List.length_take]; rfl)) ?_; (with_reducible refine (laws_szFrame.calls _ _ l0_0 _ _ l0_1 1048576 t591 _ ?side1 ?side2 ?side3 ?side4 A3.out).mono ?_); (case side1 => repeat (first | exact (GO HR0_0.out HB.out) | (with_reducible refine R ?_ _) | (with_reducible refine GG ?_ _) | (with_reducible refine GJ ?_))); (case side2 => exact HC0_0.out); (case side3 => repeat (first | exact (GO HR0_1.out HB.out) | (with_reducible refine R ?_ _) | (with_reducible refine GG ?_ _) | (with_reducible refine GJ ?_))); (case side4 => exact HC0_1.out); rintro e w9 ⟨rfl, hb⟩; refine ⟨_, rfl, ?_⟩; have n0_ := G (F (g := gb589) (o := .cells #[.slice A0_0 l0_0.length c0_0, .slice A0_1 l0_1.length c0_1] 33 (0, 0)) (by (with_reducible repeat (first | refine U ?_ _ | refine X ?_ | refine V ?_ _)); exact BK589.out) hb); have n1_ := G (F (g := gb590) (o := .cells #[.slice A1_0 l1_0.length c1_0, .int .i64 a1_1] 24 (0, 0)) (by (with_reducible repeat (first | refine U ?_ _ | refine X ?_ | refine V ?_ _)); exact BK590.out) hb); have n2_ := G (GN (by repeat (first | (with_reducible first | exact HB.out | apply Z | apply T | apply Y | refine O ?_ GE589.out | refine O ?_ GE590.out) | exact HB.out)) hb); clear BK589; clear BK590; clear HB; have BK589 := n0_; have BK590 := n1_; have HB := n2_; clear n0_ n1_ n2_; (try clear hb); (try clear hb2); (try clear hk); (try clear hi)))
  go_ret
  exact ⟨by first | rfl | (simp [errW_none, errW_some] <;> rfl) | (simp [*, errW_none, errW_some] <;> rfl), by repeat (first | (with_reducible first | exact HB.out | apply Z | apply T | apply Y | refine O ?_ GE589.out | refine O ?_ GE590.out) | exact HB.out)⟩
 ·rw [if_neg c4] at H
  have c4b0 : decide (t591 < 0) = false := decide_eq_false c4
  clear c4
  replace H := Option.bind_eq_some_iff.mp H
  obtain ⟨t592, A100, H⟩ := H
  replace H : (if t592 < 0 then (some true) else ((laws_toFrame.f k l0_0 l0_1).bind fun bt593 => ((laws_toDensities.f k l1_0 a1_1).bind fun bt599 => ((spec_ValidDensities.f k bt593.1 bt593.2 bt599.1 bt599.2).bind fun t603 => ((laws_toFrame.f k l0_0 l0_1).bind fun bt604 => ((laws_toDensities.f k l1_0 a1_1).bind fun bt611 => ((impl_ValidDensities.f k bt604.1 bt604.2 bt611.1 bt611.2).bind fun t616 => (if (t616 != t603) = true then (some false) else ((laws_toFrame.f k l0_0 l0_1).bind fun bt617 => ((laws_eqFrame.f k bt604.1 bt604.2 bt617.1 bt617.2).bind fun t623 => (if t623 = true then ((laws_toDensities.f k l1_0 a1_1).bind fun bt624 => ((laws_eqDensities.f k bt611.1 bt611.2 bt624.1 bt624.2).bind fun t628 => (if t628 = true then (some true) else (some false)))) else (some false)))))))))))) = some r := H
  have A10 := G A100
  clear A100
  by_cases c11 : t592 < 0
  ·rw [if_pos c11] at H
   have c11b0 : decide (t592 < 0) = true := decide_eq_true c11
   clear c11
   obtain rfl := Option.some.inj H
   go_enter Try.func9, Try.ntmps9
   go_wp2_with (first | ((with_reducible refine gate_dst (N := 2) rfl ?_); refine box_event ?hg (N := 2) ?hd (cs := #[.slice A0_0 l0_0.length c0_0, .slice A0_1 l0_1.length c0_1]) (t := 33) ?hr ?_; (case hd => rfl); (case hg => rfl); (case hr => first | (go_simp; done) | (go_simp; rfl)); intro gb589 hg w12 hbox hb; have n0_ := G (GN (by repeat (first | (with_reducible first | exact HB.out | apply Z | apply T | apply Y) | exact HB.out)) hb); have n1_ := G (hbox); have n2_ := G ((by rw [hg]; exact (GM (by repeat (first | (with_reducible first | exact HB.out | apply Z | apply T | apply Y) | exact HB.out))) : w.heap.size ≤ gb589)); have n3_ := G ((by rw [hg]; exact (GM (by repeat (first | (with_reducible first | exact HB.out | apply Z | apply T | apply Y) | exact HB.out))) : w.heap.size ≤ gb589)); clear HB; have HB := n0_; have BK589 := n1_; have GW589 := n2_; have GE589 := n3_; clear n0_ n1_ n2_ n3_; clear hb hbox hg) | ((with_reducible refine gate_dst (N := 3) rfl ?_); refine box_event ?hg (N := 3) ?hd (cs := #[.slice A1_0 l1_0.length c1_0, .int .i64 a1_1]) (t := 24) ?hr ?_; (case hd => rfl); (case hg => rfl); (case hr => first | (go_simp; done) | (go_simp; rfl)); intro gb590 hg w13 hbox hb; have n0_ := G (F (g := gb589) (o := .cells #[.slice A0_0 l0_0.length c0_0, .slice A0_1 l0_1.length c0_1] 33 (0, 0)) (by (with_reducible repeat (first | refine U ?_ _ | refine X ?_ | refine V ?_ _)); exact BK589.out) hb); have n1_ := G (GN (by repeat (first | (with_reducible first | exact HB.out | apply Z | apply T | apply Y | refine O ?_ GE589.out) | exact HB.out)) hb); have n2_ := G (hbox); have n3_ := G ((by rw [hg]; exact (GM (by repeat (first | (with_reducible first | exact HB.out | apply Z | apply T | apply Y | refine O ?_ GE589.out) | exact HB.out))) : w.heap.size ≤ gb590)); have n4_ := G ((by rw [hg]; exact (GM (by repeat (first | (with_reducible first | exact HB.out | apply Z | apply T | apply Y | refine O ?_ GE589.out) | exact HB.out))) : w.heap.size ≤ gb590)); have n5_ := G ((by rw [hg]; exact Nat.ne_of_lt (blk_lt (g := gb589) (o := .cells #[.slice A0_0 l0_0.length c0_0, .slice A0_1 l0_1.length c0_1] 33 (0, 0)) (by (with_reducible repeat (first | refine U ?_ _ | refine X ?_ | refine V ?_ _)); exact BK589.out)) : gb589 ≠ gb590)); have n6_ := G ((by rw [hg]; exact Nat.ne_of_gt (blk_lt (g := gb589) (o := .cells #[.slice A0_0 l0_0.length c0_0, .slice A0_1 l0_1.length c0_1] 33 (0, 0)) (by (with_reducible repeat (first | refine U ?_ _ | refine X ?_ | refine V ?_ _)); exact BK589.out)) : gb590 ≠ gb589)); clear BK589; clear HB; have BK589 := n0_; have HB := n1_; have BK590 := n2_; have GW590 := n3_; have GE590 := n4_; have NB589_590 := n5_; have NB590_589 := n6_; clear n0_ n1_ n2_ n3_ n4_ n5_ n6_; clear hb hbox hg; have hnb14 := NB589_590.out; have hnc14 := NB590_589.out; have hcz15_0 : w13.cell? ⟨gb589, 0, none⟩ = some (.slice A0_0 l0_0.length c0_0) := (E BK589.out 0).trans rfl; have hcz15_1 : w13.cell? ⟨gb589, 1, none⟩ = some (.slice A0_1 l0_1.length c0_1) := (E BK589.out 1).trans rfl; have hfz15_0 := GT BK589.out 0; have hfz15_1 := GT BK589.out 1) | ((with_reducible refine gate_callee (f := 19) rfl ?_); refine goesL_ (some 12) rfl rfl Try.func19 (by kernel_rfl) rfl #[.agg #[.slice A0_0 l0_0.length c0_0, .slice A0_1 l0_1.length c0_1], .int .i64 1048576] rfl (by (try simp only [List.map_toArray, List.map_cons, List.map_nil]); first | done | rfl | (simp only [List.length_drop, List.length_take]; rfl)) ?_; (with_reducible refine (laws_szFrame.calls _ _ l0_0 _ _ l0_1 1048576 t591 _ ?side1 ?side2 ?side3 ?side4 A3.out).mono ?_); (case side1 => repeat (first | exact (GO HR0_0.out HB.out) | (with_reducible refine R ?_ _) | (with_reducible refine GG ?_ _) | (with_reducible refine GJ ?_))); (case side2 => exact HC0_0.out); (case side3 => repeat (first | exact (GO HR0_1.out HB.out) | (with_reducible refine R ?_ _) | (with_reducible refine GG ?_ _) | (with_reducible refine GJ ?_))); (case side4 => exact HC0_1.out); rintro e w16 ⟨rfl, hb⟩; refine ⟨_, rfl, ?_⟩; have n0_ := G (F (g := gb589) (o := .cells #[.slice A0_0 l0_0.length c0_0, .slice A0_1 l0_1.length c0_1] 33 (0, 0)) (by (with_reducible repeat (first | refine U ?_ _ | refine X ?_ | refine V ?_ _)); exact BK589.out) hb); have n1_ := G (F (g := gb590) (o := .cells #[.slice A1_0 l1_0.length c1_0, .int .i64 a1_1] 24 (0, 0)) (by (with_reducible repeat (first | refine U ?_ _ | refine X ?_ | refine V ?_ _)); exact BK590.out) hb); have n2_ := G (GN (by repeat (first | (with_reducible first | exact HB.out | apply Z | apply T | apply Y | refine O ?_ GE589.out | refine O ?_ GE590.out) | exact HB.out)) hb); clear BK589; clear BK590; clear HB; have BK589 := n0_; have BK590 := n1_; have HB := n2_; clear n0_ n1_ n2_; (try clear hb); (try clear hb2); (try clear hk); (try clear hi); have hcz17_0 : w16.cell? ⟨gb590, 0, none⟩ = some (.slice A1_0 l1_0.length c1_0) := (E BK590.out 0).trans rfl; have hcz17_1 : w16.cell? ⟨gb590, 1, none⟩ = some (.int .i64 a1_1) := (E BK590.out 1).trans rfl; have hfz17_0 := GT BK590.out 0; have hfz17_1 := GT BK590.out 1) | ((with_reducible refine gate_callee (f := 14) rfl ?_); refine goesL_ (some 17) rfl rfl Try.func14 (by kernel_rfl) rfl #[.agg #[.slice A1_0 l1_0.length c1_0, .int .i64 a1_1], .int .i64 t591] rfl (by (try simp only [List.map_toArray, List.map_cons, List.map_nil]); first | done | rfl | (simp only [List.length_drop, List.length_take]; rfl)) ?_; (with_reducible refine (laws_szDensities.calls _ _ l1_0 a1_1 t591 t592 _ ?side1 ?side2 A10.out).mono ?_); (case side1 => repeat (first | exact (GO HR1_0.out HB.out) | (with_reducible refine R ?_ _) | (with_reducible refine GG ?_ _) | (with_reducible refine GJ ?_))); (case side2 => exact HC1_0.out); rintro e w18 ⟨rfl, hb⟩; refine ⟨_, rfl, ?_⟩; have n0_ := G (F (g := gb589) (o := .cells #[.slice A0_0 l0_0.length c0_0, .slice A0_1 l0_1.length c0_1] 33 (0, 0)) (by (with_reducible repeat (first | refine U ?_ _ | refine X ?_ | refine V ?_ _)); exact BK589.out) hb); have n1_ := G (F (g := gb590) (o := .cells #[.slice A1_0 l1_0.length c1_0, .int .i64 a1_1] 24 (0, 0)) (by (with_reducible repeat (first | refine U ?_ _ | refine X ?_ | refine V ?_ _)); exact BK590.out) hb); have n2_ := G (GN (by repeat (first | (with_reducible first | exact HB.out | apply Z | apply T | apply Y | refine O ?_ GE589.out | refine O ?_ GE590.out) | exact HB.out)) hb); clear BK589; clear BK590; clear HB; have BK589 := n0_; have BK590 := n1_; have HB := n2_; clear n0_ n1_ n2_; (try clear hb); (try clear hb2); (try clear hk); (try clear hi)))
   go_ret
   exact ⟨by first | rfl | (simp [errW_none, errW_some] <;> rfl) | (simp [*, errW_none, errW_some] <;> rfl), by repeat (first | (with_reducible first | exact HB.out | apply Z | apply T | apply Y | refine O ?_ GE589.out | refine O ?_ GE590.out) | exact HB.out)⟩
  ·rw [if_neg c11] at H
   have c11b0 : decide (t592 < 0) = false := decide_eq_false c11
   clear c11
   replace H := Option.bind_eq_some_iff.mp H
   obtain ⟨⟨t593, t596⟩, A190, H⟩ := H
   replace H : ((laws_toDensities.f k l1_0 a1_1).bind fun bt599 => ((spec_ValidDensities.f k t593 t596 bt599.1 bt599.2).bind fun t603 => ((laws_toFrame.f k l0_0 l0_1).bind fun bt604 => ((laws_toDensities.f k l1_0 a1_1).bind fun bt611 => ((impl_ValidDensities.f k bt604.1 bt604.2 bt611.1 bt611.2).bind fun t616 => (if (t616 != t603) = true then (some false) else ((laws_toFrame.f k l0_0 l0_1).bind fun bt617 => ((laws_eqFrame.f k bt604.1 bt604.2 bt617.1 bt617.2).bind fun t623 => (if t623 = true then ((laws_toDensities.f k l1_0 a1_1).bind fun bt624 => ((laws_eqDensities.f k bt611.1 bt611.2 bt624.1 bt624.2).bind fun t628 => (if t628 = true then (some true) else (some false)))) else (some false)))))))))) = some r := H
   have A19 := G A190
   clear A190
   replace H := Option.bind_eq_some_iff.mp H
   obtain ⟨⟨t599, t602⟩, A200, H⟩ := H
   replace H : ((spec_ValidDensities.f k t593 t596 t599 t602).bind fun t603 => ((laws_toFrame.f k l0_0 l0_1).bind fun bt604 => ((laws_toDensities.f k l1_0 a1_1).bind fun bt611 => ((impl_ValidDensities.f k bt604.1 bt604.2 bt611.1 bt611.2).bind fun t616 => (if (t616 != t603) = true then (some false) else ((laws_toFrame.f k l0_0 l0_1).bind fun bt617 => ((laws_eqFrame.f k bt604.1 bt604.2 bt617.1 bt617.2).bind fun t623 => (if t623 = true then ((laws_toDensities.f k l1_0 a1_1).bind fun bt624 => ((laws_eqDensities.f k bt611.1 bt611.2 bt624.1 bt624.2).bind fun t628 => (if t628 = true then (some true) else (some false)))) else (some false))))))))) = some r := H
   have A20 := G A200
   clear A200
   replace H := Option.bind_eq_some_iff.mp H
   obtain ⟨t603, A210, H⟩ := H
   replace H : ((laws_toFrame.f k l0_0 l0_1).bind fun bt604 => ((laws_toDensities.f k l1_0 a1_1).bind fun bt611 => ((impl_ValidDensities.f k bt604.1 bt604.2 bt611.1 bt611.2).bind fun t616 => (if (t616 != t603) = true then (some false) else ((laws_toFrame.f k l0_0 l0_1).bind fun bt617 => ((laws_eqFrame.f k bt604.1 bt604.2 bt617.1 bt617.2).bind fun t623 => (if t623 = true then ((laws_toDensities.f k l1_0 a1_1).bind fun bt624 => ((laws_eqDensities.f k bt611.1 bt611.2 bt624.1 bt624.2).bind fun t628 => (if t628 = true then (some true) else (some false)))) else (some false)))))))) = some r := H
   have A21 := G A210
   clear A210
   replace H := Option.bind_eq_some_iff.mp H
   obtain ⟨⟨t604, t607⟩, A220, H⟩ := H
   replace H : ((laws_toDensities.f k l1_0 a1_1).bind fun bt611 => ((impl_ValidDensities.f k t604 t607 bt611.1 bt611.2).bind fun t616 => (if (t616 != t603) = true then (some false) else ((laws_toFrame.f k l0_0 l0_1).bind fun bt617 => ((laws_eqFrame.f k t604 t607 bt617.1 bt617.2).bind fun t623 => (if t623 = true then ((laws_toDensities.f k l1_0 a1_1).bind fun bt624 => ((laws_eqDensities.f k bt611.1 bt611.2 bt624.1 bt624.2).bind fun t628 => (if t628 = true then (some true) else (some false)))) else (some false))))))) = some r := H
   have A22 := G A220
   clear A220
   replace H := Option.bind_eq_some_iff.mp H
   obtain ⟨⟨t611, t614⟩, A230, H⟩ := H
   replace H : ((impl_ValidDensities.f k t604 t607 t611 t614).bind fun t616 => (if (t616 != t603) = true then (some false) else ((laws_toFrame.f k l0_0 l0_1).bind fun bt617 => ((laws_eqFrame.f k t604 t607 bt617.1 bt617.2).bind fun t623 => (if t623 = true then ((laws_toDensities.f k l1_0 a1_1).bind fun bt624 => ((laws_eqDensities.f k t611 t614 bt624.1 bt624.2).bind fun t628 => (if t628 = true then (some true) else (some false)))) else (some false)))))) = some r := H
   have A23 := G A230
   clear A230
   replace H := Option.bind_eq_some_iff.mp H
   obtain ⟨t616, A240, H⟩ := H
   replace H : (if (t616 != t603) = true then (some false) else ((laws_toFrame.f k l0_0 l0_1).bind fun bt617 => ((laws_eqFrame.f k t604 t607 bt617.1 bt617.2).bind fun t623 => (if t623 = true then ((laws_toDensities.f k l1_0 a1_1).bind fun bt624 => ((laws_eqDensities.f k t611 t614 bt624.1 bt624.2).bind fun t628 => (if t628 = true then (some true) else (some false)))) else (some false))))) = some r := H
   have A24 := G A240
   clear A240
   by_cases c25 : (t616 != t603) = true
   ·rw [if_pos c25] at H
    have c25b0 : (t616 != t603) = true := c25
    (try (have c25b1 : decide (t616 = t603) = false := by simpa using c25))
    (try (have c25b2 : (t616 == t603) = false := by simpa using c25))
    (try (have c25b3 : ¬ (t616 = t603) := by simpa using c25))
    clear c25
    obtain rfl := Option.some.inj H
    go_enter Try.func9, Try.ntmps9
    try go_wp2_with (first | ((with_reducible refine gate_dst (N := 2) rfl ?_); refine box_event ?hg (N := 2) ?hd (cs := #[.slice A0_0 l0_0.length c0_0, .slice A0_1 l0_1.length c0_1]) (t := 33) ?hr ?_; (case hd => rfl); (case hg => rfl); (case hr => first | (go_simp; done) | (go_simp; rfl)); intro gb589 hg w26 hbox hb; have n0_ := G (GN (by repeat (first | (with_reducible first | exact HB.out | apply Z | apply T | apply Y) | exact HB.out)) hb); have n1_ := G (hbox); have n2_ := G ((by rw [hg]; exact (GM (by repeat (first | (with_reducible first | exact HB.out | apply Z | apply T | apply Y) | exact HB.out))) : w.heap.size ≤ gb589)); have n3_ := G ((by rw [hg]; exact (GM (by repeat (first | (with_reducible first | exact HB.out | apply Z | apply T | apply Y) | exact HB.out))) : w.heap.size ≤ gb589)); clear HB; have HB := n0_; have BK589 := n1_; have GW589 := n2_; have GE589 := n3_; clear n0_ n1_ n2_ n3_; clear hb hbox hg) | ((with_reducible refine gate_dst (N := 3) rfl ?_); refine box_event ?hg (N := 3) ?hd (cs := #[.slice A1_0 l1_0.length c1_0, .int .i64 a1_1]) (t := 24) ?hr ?_; (case hd => rfl); (case hg => rfl); (case hr => first | (go_simp; done) | (go_simp; rfl)); intro gb590 hg w27 hbox hb; have n0_ := G (F (g := gb589) (o := .cells #[.slice A0_0 l0_0.length c0_0, .slice A0_1 l0_1.length c0_1] 33 (0, 0)) (by (with_reducible repeat (first | refine U ?_ _ | refine X ?_ | refine V ?_ _)); exact BK589.out) hb); have n1_ := G (GN (by repeat (first | (with_reducible first | exact HB.out | apply Z | apply T | apply Y | refine O ?_ GE589.out) | exact HB.out)) hb); have n2_ := G (hbox); have n3_ := G ((by rw [hg]; exact (GM (by repeat (first | (with_reducible first | exact HB.out | apply Z | apply T | apply Y | refine O ?_ GE589.out) | exact HB.out))) : w.heap.size ≤ gb590)); have n4_ := G ((by rw [hg]; exact (GM (by repeat (first | (with_reducible first | exact HB.out | apply Z | apply T | apply Y | refine O ?_ GE589.out) | exact HB.out))) : w.heap.size ≤ gb590)); have n5_ := G ((by rw [hg]; exact Nat.ne_of_lt (blk_lt (g := gb589) (o := .cells #[.slice A0_0 l0_0.length c0_0, .slice A0_1 l0_1.length c0_1] 33 (0, 0)) (by (with_reducible repeat (first | refine U ?_ _ | refine X ?_ | refine V ?_ _)); exact BK589.out)) : gb589 ≠ gb590)); have n6_ := G ((by rw [hg]; exact Nat.ne_of_gt (blk_lt (g := gb589) (o := .cells #[.slice A0_0 l0_0.length c0_0, .slice A0_1 l0_1.length c0_1] 33 (0, 0)) (by (with_reducible repeat (first | refine U ?_ _ | refine X ?_ | refine V ?_ _)); exact BK589.out)) : gb590 ≠ gb589)); clear BK589; clear HB; have BK589 := n0_; have HB := n1_; have BK590 := n2_; have GW590 := n3_; have GE590 := n4_; have NB589_590 := n5_; have NB590_589 := n6_; clear n0_ n1_ n2_ n3_ n4_ n5_ n6_; clear hb hbox hg; have hnb28 := NB589_590.out; have hnc28 := NB590_589.out; have hcz29_0 : w27.cell? ⟨gb589, 0, none⟩ = some (.slice A0_0 l0_0.length c0_0) := (E BK589.out 0).trans rfl; have hcz29_1 : w27.cell? ⟨gb589, 1, none⟩ = some (.slice A0_1 l0_1.length c0_1) := (E BK589.out 1).trans rfl; have hfz29_0 := GT BK589.out 0; have hfz29_1 := GT BK589.out 1) | ((with_reducible refine gate_callee (f := 19) rfl ?_); refine goesL_ (some 12) rfl rfl Try.func19 (by kernel_rfl) rfl #[.agg #[.slice A0_0 l0_0.length c0_0, .slice A0_1 l0_1.length c0_1], .int .i64 1048576] rfl (by (try simp only [List.map_toArray, List.map_cons, List.map_nil]); first | done | rfl | (simp only [List.length_drop, List.length_take]; rfl)) ?_; (with_reducible refine (laws_szFrame.calls _ _ l0_0 _ _ l0_1 1048576 t591 _ ?side1 ?side2 ?side3 ?side4 A3.out).mono ?_); (case side1 => repeat (first | exact (GO HR0_0.out HB.out) | (with_reducible refine R ?_ _) | (with_reducible refine GG ?_ _) | (with_reducible refine GJ ?_))); (case side2 => exact HC0_0.out); (case side3 => repeat (first | exact (GO HR0_1.out HB.out) | (with_reducible refine R ?_ _) | (with_reducible refine GG ?_ _) | (with_reducible refine GJ ?_))); (case side4 => exact HC0_1.out); rintro e w30 ⟨rfl, hb⟩; refine ⟨_, rfl, ?_⟩; have n0_ := G (F (g := gb589) (o := .cells #[.slice A0_0 l0_0.length c0_0, .slice A0_1 l0_1.length c0_1] 33 (0, 0)) (by (with_reducible repeat (first | refine U ?_ _ | refine X ?_ | refine V ?_ _)); exact BK589.out) hb); have n1_ := G (F (g := gb590) (o := .cells #[.slice A1_0 l1_0.length c1_0, .int .i64 a1_1] 24 (0, 0)) (by (with_reducible repeat (first | refine U ?_ _ | refine X ?_ | refine V ?_ _)); exact BK590.out) hb); have n2_ := G (GN (by repeat (first | (with_reducible first | exact HB.out | apply Z | apply T | apply Y | refine O ?_ GE589.out | refine O ?_ GE590.out) | exact HB.out)) hb); clear BK589; clear BK590; clear HB; have BK589 := n0_; have BK590 := n1_; have HB := n2_; clear n0_ n1_ n2_; (try clear hb); (try clear hb2); (try clear hk); (try clear hi); have hcz31_0 : w30.cell? ⟨gb590, 0, none⟩ = some (.slice A1_0 l1_0.length c1_0) := (E BK590.out 0).trans rfl; have hcz31_1 : w30.cell? ⟨gb590, 1, none⟩ = some (.int .i64 a1_1) := (E BK590.out 1).trans rfl; have hfz31_0 := GT BK590.out 0; have hfz31_1 := GT BK590.out 1) | ((with_reducible refine gate_callee (f := 14) rfl ?_); refine goesL_ (some 17) rfl rfl Try.func14 (by kernel_rfl) rfl #[.agg #[.slice A1_0 l1_0.length c1_0, .int .i64 a1_1], .int .i64 t591] rfl (by (try simp only [List.map_toArray, List.map_cons, List.map_nil]); first | done | rfl | (simp only [List.length_drop, List.length_take]; rfl)) ?_; (with_reducible refine (laws_szDensities.calls _ _ l1_0 a1_1 t591 t592 _ ?side1 ?side2 A10.out).mono ?_); (case side1 => repeat (first | exact (GO HR1_0.out HB.out) | (with_reducible refine R ?_ _) | (with_reducible refine GG ?_ _) | (with_reducible refine GJ ?_))); (case side2 => exact HC1_0.out); rintro e w32 ⟨rfl, hb⟩; refine ⟨_, rfl, ?_⟩; have n0_ := G (F (g := gb589) (o := .cells #[.slice A0_0 l0_0.length c0_0, .slice A0_1 l0_1.length c0_1] 33 (0, 0)) (by (with_reducible repeat (first | refine U ?_ _ | refine X ?_ | refine V ?_ _)); exact BK589.out) hb); have n1_ := G (F (g := gb590) (o := .cells #[.slice A1_0 l1_0.length c1_0, .int .i64 a1_1] 24 (0, 0)) (by (with_reducible repeat (first | refine U ?_ _ | refine X ?_ | refine V ?_ _)); exact BK590.out) hb); have n2_ := G (GN (by repeat (first | (with_reducible first | exact HB.out | apply Z | apply T | apply Y | refine O ?_ GE589.out | refine O ?_ GE590.out) | exact HB.out)) hb); clear BK589; clear BK590; clear HB; have BK589 := n0_; have BK590 := n1_; have HB := n2_; clear n0_ n1_ n2_; (try clear hb); (try clear hb2); (try clear hk); (try clear hi)))
    have n0_ := G (X BK589.out)
    have n1_ := G (X BK590.out)
    have n2_ := G (Y HB.out)
    clear BK589
    clear BK590
    clear HB
    have BK589 := n0_
    have BK590 := n1_
    have HB := n2_
    clear n0_ n1_ n2_
    refine start_ (n := 6) (S := fun w' => w'.cell? ⟨gb589, 0, none⟩ = some (.slice A0_0 l0_0.length c0_0) ∧ w'.cell? ⟨gb589, 1, none⟩ = some (.slice A0_1 l0_1.length c0_1) ∧ w'.cell? ⟨gb590, 0, none⟩ = some (.slice A1_0 l1_0.length c1_0) ∧ w'.cell? ⟨gb590, 1, none⟩ = some (.int .i64 a1_1)) (ds := []) #[n', n', n', n', n', n'] (by kernel_rfl) rfl rfl ⟨(E BK589.out 0).trans rfl, (E BK589.out 1).trans rfl, (E BK590.out 0).trans rfl, (E BK590.out 1).trans rfl⟩ (fun hHeld => ?_)
    generalize w32.drew = w33 at BK589 BK590 HB hHeld ⊢
    refine take_ (i := 0) (N := some 20) (v := ?_) (a' := ?_) #[y', n', n', n', n', n'] rfl rfl (by kernel_rfl) (fun _ _ _ h => h) (Or.inl ⟨by rfl, ?_⟩) hHeld ?_ ?_
    rotate_left
    ·rintro w' ⟨s0, s1, s2, s3⟩
     go_simp
     with_reducible rfl
    rotate_left
    ·simp only [Act.put, z1', z2', z3', i64_w, i32_w]
     rfl
    refine take_ (i := 2) (N := some 22) (v := ?_) (a' := ?_) #[y', n', y', n', n', n'] rfl rfl (by kernel_rfl) (fun _ _ _ h => h) (Or.inl ⟨by rfl, ?_⟩) hHeld ?_ ?_
    rotate_left
    ·rintro w' ⟨s0, s1, s2, s3⟩
     go_simp
     with_reducible rfl
    rotate_left
    ·simp only [Act.put, z1', z2', z3', i64_w, i32_w]
     rfl
    refine one_ (i := 1) (N := some 21) #[y', y', y', n', n', n'] rfl rfl (by kernel_rfl) (by decide) (fun K hK => ?_)
    refine goes_ Try.func21 (by kernel_rfl) rfl #[.agg #[.slice A0_0 l0_0.length c0_0, .slice A0_1 l0_1.length c0_1]] (by rfl) rfl rfl (by (try simp only [List.map_toArray, List.map_cons, List.map_nil]); first | done | rfl | (simp only [List.length_drop, List.length_take]; rfl)) ?_
    with_reducible refine (laws_toFrame.calls k _ _ l0_0 _ _ l0_1 t593 t596 _ ?side1 ?side2 ?side3 ?side4 A19.out).mono ?_
    (case side1 => repeat (first | exact (GO HR0_0.out HB.out) | (with_reducible refine R ?_ _) | (with_reducible refine GG ?_ _) | (with_reducible refine GJ ?_)))
    (case side2 => exact HC0_0.out)
    (case side3 => repeat (first | exact (GO HR0_1.out HB.out) | (with_reducible refine R ?_ _) | (with_reducible refine GG ?_ _) | (with_reducible refine GJ ?_)))
    (case side4 => exact HC0_1.out)
    rintro e w34 ⟨v594, v597, rfl, ho0, ho1, hb⟩
    refine ⟨_, rfl, ?_⟩
    have n0_ := G (Kd.R_lower ho0 (GM (by repeat (first | (with_reducible first | exact HB.out | apply Z | apply T | apply Y | refine O ?_ GE589.out | refine O ?_ GE590.out) | exact HB.out))))
    have n1_ := G (Kd.R_lower ho1 (GM (by repeat (first | (with_reducible first | exact HB.out | apply Z | apply T | apply Y | refine O ?_ GE589.out | refine O ?_ GE590.out) | exact HB.out))))
    have n2_ := G (F (g := gb589) (o := .cells #[.slice A0_0 l0_0.length c0_0, .slice A0_1 l0_1.length c0_1] 33 (0, 0)) (by (with_reducible repeat (first | refine U ?_ _ | refine X ?_ | refine V ?_ _)); exact BK589.out) hb)
    have n3_ := G (F (g := gb590) (o := .cells #[.slice A1_0 l1_0.length c1_0, .int .i64 a1_1] 24 (0, 0)) (by (with_reducible repeat (first | refine U ?_ _ | refine X ?_ | refine V ?_ _)); exact BK590.out) hb)
    have n4_ := G (GN (by repeat (first | (with_reducible first | exact HB.out | apply Z | apply T | apply Y | refine O ?_ GE589.out | refine O ?_ GE590.out) | exact HB.out)) hb)
    clear BK589
    clear BK590
    clear HB
    have HO595 := n0_
    have HO598 := n1_
    have BK589 := n2_
    have BK590 := n3_
    have HB := n4_
    clear n0_ n1_ n2_ n3_ n4_
    (try clear hb)
    (try clear hb2)
    (try clear hk)
    (try clear hi)
    (try clear ho0)
    (try clear ho1)
    refine hK.out _ _ ⟨(E BK589.out 0).trans rfl, (E BK589.out 1).trans rfl, (E BK590.out 0).trans rfl, (E BK590.out 1).trans rfl⟩ (fun hHeld => ?_)
    clear hK K
    refine norm_ (a' := ?_) ?_ ?_
    rotate_left
    ·show Act.put _ (some 21) _ = _
     simp only [Act.put, z1', z2', z3', i64_w, i32_w]
     rfl
    refine one_ (i := 3) (N := some 23) #[y', y', y', y', n', n'] rfl rfl (by kernel_rfl) (by decide) (fun K hK => ?_)
    refine goes_ Try.func16 (by kernel_rfl) rfl #[.agg #[.slice A1_0 l1_0.length c1_0, .int .i64 a1_1]] (by rfl) rfl rfl (by (try simp only [List.map_toArray, List.map_cons, List.map_nil]); first | done | rfl | (simp only [List.length_drop, List.length_take]; rfl)) ?_
    with_reducible refine (laws_toDensities.calls k _ _ l1_0 a1_1 t599 t602 _ ?side1 ?side2 A20.out).mono ?_
    (case side1 => repeat (first | exact (GO HR1_0.out HB.out) | (with_reducible refine R ?_ _) | (with_reducible refine GG ?_ _) | (with_reducible refine GJ ?_)))
    (case side2 => exact HC1_0.out)
    rintro e w35 ⟨v600, rfl, ho0, hb⟩
    refine ⟨_, rfl, ?_⟩
    have n0_ := G (B (by (with_reducible repeat (first | apply J | apply L | apply M)); exact HO595.out) hb)
    have n1_ := G (B (by (with_reducible repeat (first | apply J | apply L | apply M)); exact HO598.out) hb)
    have n2_ := G (Kd.R_lower ho0 (GM (by repeat (first | (with_reducible first | exact HB.out | apply Z | apply T | apply Y | refine O ?_ GE589.out | refine O ?_ GE590.out) | exact HB.out))))
    have n3_ := G (F (g := gb589) (o := .cells #[.slice A0_0 l0_0.length c0_0, .slice A0_1 l0_1.length c0_1] 33 (0, 0)) (by (with_reducible repeat (first | refine U ?_ _ | refine X ?_ | refine V ?_ _)); exact BK589.out) hb)
    have n4_ := G (F (g := gb590) (o := .cells #[.slice A1_0 l1_0.length c1_0, .int .i64 a1_1] 24 (0, 0)) (by (with_reducible repeat (first | refine U ?_ _ | refine X ?_ | refine V ?_ _)); exact BK590.out) hb)
    have n5_ := G (GN (by repeat (first | (with_reducible first | exact HB.out | apply Z | apply T | apply Y | refine O ?_ GE589.out | refine O ?_ GE590.out) | exact HB.out)) hb)
    clear HO595
    clear HO598
    clear BK589
    clear BK590
    clear HB
    have HO595 := n0_
    have HO598 := n1_
    have HO601 := n2_
    have BK589 := n3_
    have BK590 := n4_
    have HB := n5_
    clear n0_ n1_ n2_ n3_ n4_ n5_
    (try clear hb)
    (try clear hb2)
    (try clear hk)
    (try clear hi)
    (try clear ho0)
    obtain ⟨Ao36, co36, eo36⟩ := Kd.R_slice HO595.out
    (first | subst eo36 | (injection eo36 with f1_ f2_ f3_; have f4_ := f1_.symm; have f5_ := f3_.symm; clear f1_ f2_ f3_; subst f4_; subst f5_))
    obtain ⟨Ao37, co37, eo37⟩ := Kd.R_slice HO598.out
    (first | subst eo37 | (injection eo37 with f1_ f2_ f3_; have f4_ := f1_.symm; have f5_ := f3_.symm; clear f1_ f2_ f3_; subst f4_; subst f5_))
    obtain ⟨Ao38, co38, eo38⟩ := Kd.R_slice HO601.out
    (first | subst eo38 | (injection eo38 with f1_ f2_ f3_; have f4_ := f1_.symm; have f5_ := f3_.symm; clear f1_ f2_ f3_; subst f4_; subst f5_))
    refine hK.out _ _ ⟨(E BK589.out 0).trans rfl, (E BK589.out 1).trans rfl, (E BK590.out 0).trans rfl, (E BK590.out 1).trans rfl⟩ (fun hHeld => ?_)
    clear hK K
    refine norm_ (a' := ?_) ?_ ?_
    rotate_left
    ·show Act.put _ (some 23) _ = _
     simp only [Act.put, z1', z2', z3', i64_w, i32_w]
     rfl
    refine one_ (i := 4) (N := some 24) #[y', y', y', y', y', n'] rfl rfl (by kernel_rfl) (by decide) (fun K hK => ?_)
    refine goes_ Try.func39 (by kernel_rfl) rfl #[.agg #[.slice Ao36 t593.length co36, .slice Ao37 t596.length co37], .agg #[.slice Ao38 t599.length co38, .int .i64 t602]] (by rfl) rfl rfl (by (try simp only [List.map_toArray, List.map_cons, List.map_nil]); first | done | rfl | (simp only [List.length_drop, List.length_take]; rfl)) ?_
    with_reducible refine (spec_ValidDensities.calls k _ _ t593 _ _ t596 _ _ t599 t602 t603 _ ?side1 ?side2 ?side3 ?side4 ?side5 ?side6 A21.out).mono ?_
    (case side1 => repeat (first | exact (Kd.R_reads' HO595.out).2.2 | (with_reducible refine R ?_ _) | (with_reducible refine GG ?_ _) | (with_reducible refine GJ ?_)))
    (case side2 => exact (Kd.R_reads' HO595.out).2.1)
    (case side3 => repeat (first | exact (Kd.R_reads' HO598.out).2.2 | (with_reducible refine R ?_ _) | (with_reducible refine GG ?_ _) | (with_reducible refine GJ ?_)))
    (case side4 => exact (Kd.R_reads' HO598.out).2.1)
    (case side5 => repeat (first | exact (Kd.R_reads' HO601.out).2.2 | (with_reducible refine R ?_ _) | (with_reducible refine GG ?_ _) | (with_reducible refine GJ ?_)))
    (case side6 => exact (Kd.R_reads' HO601.out).2.1)
    rintro e w39 ⟨rfl, hb⟩
    refine ⟨_, rfl, ?_⟩
    have n0_ := G (B (by (with_reducible repeat (first | apply J | apply L | apply M)); exact HO595.out) hb)
    have n1_ := G (B (by (with_reducible repeat (first | apply J | apply L | apply M)); exact HO598.out) hb)
    have n2_ := G (B (by (with_reducible repeat (first | apply J | apply L | apply M)); exact HO601.out) hb)
    have n3_ := G (F (g := gb589) (o := .cells #[.slice A0_0 l0_0.length c0_0, .slice A0_1 l0_1.length c0_1] 33 (0, 0)) (by (with_reducible repeat (first | refine U ?_ _ | refine X ?_ | refine V ?_ _)); exact BK589.out) hb)
    have n4_ := G (F (g := gb590) (o := .cells #[.slice A1_0 l1_0.length c1_0, .int .i64 a1_1] 24 (0, 0)) (by (with_reducible repeat (first | refine U ?_ _ | refine X ?_ | refine V ?_ _)); exact BK590.out) hb)
    have n5_ := G (GN (by repeat (first | (with_reducible first | exact HB.out | apply Z | apply T | apply Y | refine O ?_ GE589.out | refine O ?_ GE590.out) | exact HB.out)) hb)
    clear HO595
    clear HO598
    clear HO601
    clear BK589
    clear BK590
    clear HB
    have HO595 := n0_
    have HO598 := n1_
    have HO601 := n2_
    have BK589 := n3_
    have BK590 := n4_
    have HB := n5_
    clear n0_ n1_ n2_ n3_ n4_ n5_
    (try clear hb)
    (try clear hb2)
    (try clear hk)
    (try clear hi)
    refine hK.out _ _ ⟨(E BK589.out 0).trans rfl, (E BK589.out 1).trans rfl, (E BK590.out 0).trans rfl, (E BK590.out 1).trans rfl⟩ (fun hHeld => ?_)
    clear hK K
    refine norm_ (a' := ?_) ?_ ?_
    rotate_left
    ·show Act.put _ (some 24) _ = _
     simp only [Act.put, z1', z2', z3', i64_w, i32_w]
     rfl
    refine pure_ (i := 5) (N := some 6) (v := ?_) (a' := ?_) #[y', y', y', y', y', y'] rfl rfl (by kernel_rfl) (fun _ _ _ h => h) (Or.inl ⟨by rfl, ?_⟩) ?_ ?_
    rotate_left
    ·intro w'
     go_simp
     with_reducible rfl
    rotate_left
    ·simp only [Act.put, z1', z2', z3', i64_w, i32_w]
     rfl
    refine done_ (by kernel_rfl) ?_
    have hcz40_0 : w39.cell? ⟨gb589, 0, none⟩ = some (.slice A0_0 l0_0.length c0_0) := (E BK589.out 0).trans rfl
    have hcz40_1 : w39.cell? ⟨gb589, 1, none⟩ = some (.slice A0_1 l0_1.length c0_1) := (E BK589.out 1).trans rfl
    have hfz40_0 := GT BK589.out 0
    have hfz40_1 := GT BK589.out 1
    try go_wp2_with (first | ((with_reducible refine gate_callee (f := 21) rfl ?_); refine goesL_ (some 26) rfl rfl Try.func21 (by kernel_rfl) rfl #[.agg #[.slice A0_0 l0_0.length c0_0, .slice A0_1 l0_1.length c0_1]] rfl (by (try simp only [List.map_toArray, List.map_cons, List.map_nil]); first | done | rfl | (simp only [List.length_drop, List.length_take]; rfl)) ?_; (with_reducible refine (laws_toFrame.calls k _ _ l0_0 _ _ l0_1 t604 t607 _ ?side1 ?side2 ?side3 ?side4 A22.out).mono ?_); (case side1 => repeat (first | exact (GO HR0_0.out HB.out) | (with_reducible refine R ?_ _) | (with_reducible refine GG ?_ _) | (with_reducible refine GJ ?_))); (case side2 => exact HC0_0.out); (case side3 => repeat (first | exact (GO HR0_1.out HB.out) | (with_reducible refine R ?_ _) | (with_reducible refine GG ?_ _) | (with_reducible refine GJ ?_))); (case side4 => exact HC0_1.out); rintro e w41 ⟨v605, v608, rfl, ho0, ho1, hb⟩; refine ⟨_, rfl, ?_⟩; have n0_ := G (Kd.R_elder' (by (with_reducible repeat (first | apply J | apply L | apply M)); exact HO595.out) (Kd.R_base ho0) hb); have n1_ := G (Kd.R_elder' (by (with_reducible repeat (first | apply J | apply L | apply M)); exact HO598.out) (Kd.R_base ho1) hb); have n2_ := G (B (by (with_reducible repeat (first | apply J | apply L | apply M)); exact HO601.out) hb); have n3_ := G (Kd.R_lower (GL ho0 (Kd.R_lt (by (with_reducible repeat (first | apply J | apply L | apply M)); exact HO595.out))) (GM (by repeat (first | (with_reducible first | exact HB.out | apply Z | apply T | apply Y | refine O ?_ GE589.out | refine O ?_ GE590.out) | exact HB.out)))); have n4_ := G (Kd.R_lower (GL ho1 (Kd.R_lt (by (with_reducible repeat (first | apply J | apply L | apply M)); exact HO598.out))) (GM (by repeat (first | (with_reducible first | exact HB.out | apply Z | apply T | apply Y | refine O ?_ GE589.out | refine O ?_ GE590.out) | exact HB.out)))); have n5_ := G (F (g := gb589) (o := .cells #[.slice A0_0 l0_0.length c0_0, .slice A0_1 l0_1.length c0_1] 33 (0, 0)) (by (with_reducible repeat (first | refine U ?_ _ | refine X ?_ | refine V ?_ _)); exact BK589.out) hb); have n6_ := G (F (g := gb590) (o := .cells #[.slice A1_0 l1_0.length c1_0, .int .i64 a1_1] 24 (0, 0)) (by (with_reducible repeat (first | refine U ?_ _ | refine X ?_ | refine V ?_ _)); exact BK590.out) hb); have n7_ := G (GN (by repeat (first | (with_reducible first | exact HB.out | apply Z | apply T | apply Y | refine O ?_ GE589.out | refine O ?_ GE590.out) | exact HB.out)) hb); clear HO595; clear HO598; clear HO601; clear BK589; clear BK590; clear HB; have HO595 := n0_; have HO598 := n1_; have HO601 := n2_; have HO606 := n3_; have HO609 := n4_; have BK589 := n5_; have BK590 := n6_; have HB := n7_; clear n0_ n1_ n2_ n3_ n4_ n5_ n6_ n7_; (try clear hb); (try clear hb2); (try clear hk); (try clear hi); (try clear ho0); (try clear ho1)) | ((with_reducible refine gate_dst (N := 7) rfl ?_); refine box_event ?hg (N := 7) ?hd (cs := #[.slice none 0 0, .slice none 0 0]) (t := 39) ?hr ?_; (case hd => rfl); (case hg => rfl); (case hr => first | (go_simp; done) | (go_simp; rfl)); intro gb610 hg w42 hbox hb; have n0_ := G (B (by (with_reducible repeat (first | apply J | apply L | apply M)); exact HO595.out) hb); have n1_ := G (B (by (with_reducible repeat (first | apply J | apply L | apply M)); exact HO598.out) hb); have n2_ := G (B (by (with_reducible repeat (first | apply J | apply L | apply M)); exact HO601.out) hb); have n3_ := G (B (by (with_reducible repeat (first | apply J | apply L | apply M)); exact HO606.out) hb); have n4_ := G (B (by (with_reducible repeat (first | apply J | apply L | apply M)); exact HO609.out) hb); have n5_ := G (F (g := gb589) (o := .cells #[.slice A0_0 l0_0.length c0_0, .slice A0_1 l0_1.length c0_1] 33 (0, 0)) (by (with_reducible repeat (first | refine U ?_ _ | refine X ?_ | refine V ?_ _)); exact BK589.out) hb); have n6_ := G (F (g := gb590) (o := .cells #[.slice A1_0 l1_0.length c1_0, .int .i64 a1_1] 24 (0, 0)) (by (with_reducible repeat (first | refine U ?_ _ | refine X ?_ | refine V ?_ _)); exact BK590.out) hb); have n7_ := G (GN (by repeat (first | (with_reducible first | exact HB.out | apply Z | apply T | apply Y | refine O ?_ GE589.out | refine O ?_ GE590.out) | exact HB.out)) hb); have n8_ := G (hbox); have n9_ := G ((by rw [hg]; exact (GM (by repeat (first | (with_reducible first | exact HB.out | apply Z | apply T | apply Y | refine O ?_ GE589.out | refine O ?_ GE590.out) | exact HB.out))) : w.heap.size ≤ gb610)); have n10_ := G ((by rw [hg]; exact (GM (by repeat (first | (with_reducible first | exact HB.out | apply Z | apply T | apply Y | refine O ?_ GE589.out | refine O ?_ GE590.out) | exact HB.out))) : w.heap.size ≤ gb610)); have n11_ := G ((by rw [hg]; exact Nat.ne_of_lt (blk_lt (g := gb589) (o := .cells #[.slice A0_0 l0_0.length c0_0, .slice A0_1 l0_1.length c0_1] 33 (0, 0)) (by (with_reducible repeat (first | refine U ?_ _ | refine X ?_ | refine V ?_ _)); exact BK589.out)) : gb589 ≠ gb610)); have n12_ := G ((by rw [hg]; exact Nat.ne_of_gt (blk_lt (g := gb589) (o := .cells #[.slice A0_0 l0_0.length c0_0, .slice A0_1 l0_1.length c0_1] 33 (0, 0)) (by (with_reducible repeat (first | refine U ?_ _ | refine X ?_ | refine V ?_ _)); exact BK589.out)) : gb610 ≠ gb589)); have n13_ := G ((by rw [hg]; exact Nat.ne_of_lt (blk_lt (g := gb590) (o := .cells #[.slice A1_0 l1_0.length c1_0, .int .i64 a1_1] 24 (0, 0)) (by (with_reducible repeat (first | refine U ?_ _ | refine X ?_ | refine V ?_ _)); exact BK590.out)) : gb590 ≠ gb610)); have n14_ := G ((by rw [hg]; exact Nat.ne_of_gt (blk_lt (g := gb590) (o := .cells #[.slice A1_0 l1_0.length c1_0, .int .i64 a1_1] 24 (0, 0)) (by (with_reducible repeat (first | refine U ?_ _ | refine X ?_ | refine V ?_ _)); exact BK590.out)) : gb610 ≠ gb590)); clear HO595; clear HO598; clear HO601; clear HO606; clear HO609; clear BK589; clear BK590; clear HB; have HO595 := n0_; have HO598 := n1_; have HO601 := n2_; have HO606 := n3_; have HO609 := n4_; have BK589 := n5_; have BK590 := n6_; have HB := n7_; have BK610 := n8_; have GW610 := n9_; have GE610 := n10_; have NB589_610 := n11_; have NB610_589 := n12_; have NB590_610 := n13_; have NB610_590 := n14_; clear n0_ n1_ n2_ n3_ n4_ n5_ n6_ n7_ n8_ n9_ n10_ n11_ n12_ n13_ n14_; clear hb hbox hg; obtain ⟨Ao43, co43, eo43⟩ := Kd.R_slice HO606.out; subst eo43; have hnb44 := NB610_589.out; have hnc44 := NB589_610.out; have hnb45 := NB610_590.out; have hnc45 := NB590_610.out; have hcz46_0 : w42.cell? ⟨gb610, 0, none⟩ = some (.slice none 0 0) := (E BK610.out 0).trans rfl; have hcz46_1 : w42.cell? ⟨gb610, 1, none⟩ = some (.slice none 0 0) := (E BK610.out 1).trans rfl; have hfz46_0 := GT BK610.out 0; have hfz46_1 := GT BK610.out 1; obtain ⟨Ao47, co47, eo47⟩ := Kd.R_slice HO609.out; subst eo47; have hcz48_0 : w42.cell? ⟨gb590, 0, none⟩ = some (.slice A1_0 l1_0.length c1_0) := (E BK590.out 0).trans rfl; have hcz48_1 : w42.cell? ⟨gb590, 1, none⟩ = some (.int .i64 a1_1) := (E BK590.out 1).trans rfl; have hfz48_0 := GT BK590.out 0; have hfz48_1 := GT BK590.out 1) | ((with_reducible refine gate_callee (f := 16) rfl ?_); refine goesL_ (some 28) rfl rfl Try.func16 (by kernel_rfl) rfl #[.agg #[.slice A1_0 l1_0.length c1_0, .int .i64 a1_1]] rfl (by (try simp only [List.map_toArray, List.map_cons, List.map_nil]); first | done | rfl | (simp only [List.length_drop, List.length_take]; rfl)) ?_; (with_reducible refine (laws_toDensities.calls k _ _ l1_0 a1_1 t611 t614 _ ?side1 ?side2 A23.out).mono ?_); (case side1 => exact GO HR1_0.out (by repeat (first | (with_reducible first | exact HB.out | apply Z | apply T | apply Y | refine O ?_ GE589.out | refine O ?_ GE590.out | refine O ?_ GE610.out) | exact HB.out))); (case side2 => exact HC1_0.out); rintro e w49 ⟨v612, rfl, ho0, hb⟩; refine ⟨_, rfl, ?_⟩; have n0_ := G (B (by (with_reducible repeat (first | apply J | apply L | apply M)); exact (P (D (p := ⟨gb610, 1, none⟩) (D (p := ⟨gb610, 0, none⟩) (I HO595.out BK610.out (by decide)) (fun _ hk => hk.2) (.slice Ao43 t604.length co43)) (fun _ hk => hk.2) (.slice Ao47 t607.length co47)) (fun _ h_ => h_.1))) hb); have n1_ := G (B (by (with_reducible repeat (first | apply J | apply L | apply M)); exact (P (D (p := ⟨gb610, 1, none⟩) (D (p := ⟨gb610, 0, none⟩) (I HO598.out BK610.out (by decide)) (fun _ hk => hk.2) (.slice Ao43 t604.length co43)) (fun _ hk => hk.2) (.slice Ao47 t607.length co47)) (fun _ h_ => h_.1))) hb); have n2_ := G (Kd.R_elder' (by (with_reducible repeat (first | apply J | apply L | apply M)); exact (P (D (p := ⟨gb610, 1, none⟩) (D (p := ⟨gb610, 0, none⟩) (I HO601.out BK610.out (by decide)) (fun _ hk => hk.2) (.slice Ao43 t604.length co43)) (fun _ hk => hk.2) (.slice Ao47 t607.length co47)) (fun _ h_ => h_.1))) (Kd.R_base ho0) hb); have n3_ := G (B (by (with_reducible repeat (first | apply J | apply L | apply M)); exact (P (D (p := ⟨gb610, 1, none⟩) (D (p := ⟨gb610, 0, none⟩) (I HO606.out BK610.out (by decide)) (fun _ hk => hk.2) (.slice Ao43 t604.length co43)) (fun _ hk => hk.2) (.slice Ao47 t607.length co47)) (fun _ h_ => h_.1))) hb); have n4_ := G (B (by (with_reducible repeat (first | apply J | apply L | apply M)); exact (P (D (p := ⟨gb610, 1, none⟩) (D (p := ⟨gb610, 0, none⟩) (I HO609.out BK610.out (by decide)) (fun _ hk => hk.2) (.slice Ao43 t604.length co43)) (fun _ hk => hk.2) (.slice Ao47 t607.length co47)) (fun _ h_ => h_.1))) hb); have n5_ := G (Kd.R_lower (GL ho0 (Kd.R_lt (by (with_reducible repeat (first | apply J | apply L | apply M)); exact (P (D (p := ⟨gb610, 1, none⟩) (D (p := ⟨gb610, 0, none⟩) (I HO601.out BK610.out (by decide)) (fun _ hk => hk.2) (.slice Ao43 t604.length co43)) (fun _ hk => hk.2) (.slice Ao47 t607.length co47)) (fun _ h_ => h_.1))))) (GM (by repeat (first | (with_reducible first | exact HB.out | apply Z | apply T | apply Y | refine O ?_ GE589.out | refine O ?_ GE590.out | refine O ?_ GE610.out) | exact HB.out)))); have n6_ := G (F (g := gb589) (o := .cells #[.slice A0_0 l0_0.length c0_0, .slice A0_1 l0_1.length c0_1] 33 (0, 0)) (by (with_reducible repeat (first | refine U ?_ _ | refine X ?_ | refine V ?_ _)); refine blk_far ?_ NB589_610.out _; (with_reducible repeat (first | refine U ?_ _ | refine X ?_ | refine V ?_ _)); refine blk_far ?_ NB589_610.out _; (with_reducible repeat (first | refine U ?_ _ | refine X ?_ | refine V ?_ _)); exact BK589.out) hb); have n7_ := G (F (g := gb590) (o := .cells #[.slice A1_0 l1_0.length c1_0, .int .i64 a1_1] 24 (0, 0)) (by (with_reducible repeat (first | refine U ?_ _ | refine X ?_ | refine V ?_ _)); refine blk_far ?_ NB590_610.out _; (with_reducible repeat (first | refine U ?_ _ | refine X ?_ | refine V ?_ _)); refine blk_far ?_ NB590_610.out _; (with_reducible repeat (first | refine U ?_ _ | refine X ?_ | refine V ?_ _)); exact BK590.out) hb); have n8_ := G (F (g := gb610) (o := .cells #[.slice Ao43 t604.length co43, .slice Ao47 t607.length co47] 39 (0, 0)) (by (with_reducible repeat (first | refine U ?_ _ | refine X ?_ | refine V ?_ _)); refine blk_put (cs := #[.slice Ao43 t604.length co43, .slice none 0 0]) ?_ 1 _ rfl; (with_reducible repeat (first | refine U ?_ _ | refine X ?_ | refine V ?_ _)); refine blk_put (cs := #[.slice none 0 0, .slice none 0 0]) ?_ 0 _ rfl; (with_reducible repeat (first | refine U ?_ _ | refine X ?_ | refine V ?_ _)); exact BK610.out) hb); have n9_ := G (GN (by repeat (first | (with_reducible first | exact HB.out | apply Z | apply T | apply Y | refine O ?_ GE589.out | refine O ?_ GE590.out | refine O ?_ GE610.out) | exact HB.out)) hb); clear HO595; clear HO598; clear HO601; clear HO606; clear HO609; clear BK589; clear BK590; clear BK610; clear HB; have HO595 := n0_; have HO598 := n1_; have HO601 := n2_; have HO606 := n3_; have HO609 := n4_; have HO613 := n5_; have BK589 := n6_; have BK590 := n7_; have BK610 := n8_; have HB := n9_; clear n0_ n1_ n2_ n3_ n4_ n5_ n6_ n7_ n8_ n9_; (try clear hb); (try clear hb2); (try clear hk); (try clear hi); (try clear ho0)) | ((with_reducible refine gate_dst (N := 8) rfl ?_); refine box_event ?hg (N := 8) ?hd (cs := #[.slice none 0 0, .int .i64 0]) (t := 27) ?hr ?_; (case hd => rfl); (case hg => rfl); (case hr => first | (go_simp; done) | (go_simp; rfl)); intro gb615 hg w50 hbox hb; have n0_ := G (B (by (with_reducible repeat (first | apply J | apply L | apply M)); exact HO595.out) hb); have n1_ := G (B (by (with_reducible repeat (first | apply J | apply L | apply M)); exact HO598.out) hb); have n2_ := G (B (by (with_reducible repeat (first | apply J | apply L | apply M)); exact HO601.out) hb); have n3_ := G (B (by (with_reducible repeat (first | apply J | apply L | apply M)); exact HO606.out) hb); have n4_ := G (B (by (with_reducible repeat (first | apply J | apply L | apply M)); exact HO609.out) hb); have n5_ := G (B (by (with_reducible repeat (first | apply J | apply L | apply M)); exact HO613.out) hb); have n6_ := G (F (g := gb589) (o := .cells #[.slice A0_0 l0_0.length c0_0, .slice A0_1 l0_1.length c0_1] 33 (0, 0)) (by (with_reducible repeat (first | refine U ?_ _ | refine X ?_ | refine V ?_ _)); exact BK589.out) hb); have n7_ := G (F (g := gb590) (o := .cells #[.slice A1_0 l1_0.length c1_0, .int .i64 a1_1] 24 (0, 0)) (by (with_reducible repeat (first | refine U ?_ _ | refine X ?_ | refine V ?_ _)); exact BK590.out) hb); have n8_ := G (F (g := gb610) (o := .cells #[.slice Ao43 t604.length co43, .slice Ao47 t607.length co47] 39 (0, 0)) (by (with_reducible repeat (first | refine U ?_ _ | refine X ?_ | refine V ?_ _)); exact BK610.out) hb); have n9_ := G (GN (by repeat (first | (with_reducible first | exact HB.out | apply Z | apply T | apply Y | refine O ?_ GE589.out | refine O ?_ GE590.out | refine O ?_ GE610.out) | exact HB.out)) hb); have n10_ := G (hbox); have n11_ := G ((by rw [hg]; exact (GM (by repeat (first | (with_reducible first | exact HB.out | apply Z | apply T | apply Y | refine O ?_ GE589.out | refine O ?_ GE590.out | refine O ?_ GE610.out) | exact HB.out))) : w.heap.size ≤ gb615)); have n12_ := G ((by rw [hg]; exact (GM (by repeat (first | (with_reducible first | exact HB.out | apply Z | apply T | apply Y | refine O ?_ GE589.out | refine O ?_ GE590.out | refine O ?_ GE610.out) | exact HB.out))) : w.heap.size ≤ gb615)); have n13_ := G ((by rw [hg]; exact Nat.ne_of_lt (blk_lt (g := gb589) (o := .cells #[.slice A0_0 l0_0.length c0_0, .slice A0_1 l0_1.length c0_1] 33 (0, 0)) (by (with_reducible repeat (first | refine U ?_ _ | refine X ?_ | refine V ?_ _)); exact BK589.out)) : gb589 ≠ gb615)); have n14_ := G ((by rw [hg]; exact Nat.ne_of_gt (blk_lt (g := gb589) (o := .cells #[.slice A0_0 l0_0.length c0_0, .slice A0_1 l0_1.length c0_1] 33 (0, 0)) (by (with_reducible repeat (first | refine U ?_ _ | refine X ?_ | refine V ?_ _)); exact BK589.out)) : gb615 ≠ gb589)); have n15_ := G ((by rw [hg]; exact Nat.ne_of_lt (blk_lt (g := gb590) (o := .cells #[.slice A1_0 l1_0.length c1_0, .int .i64 a1_1] 24 (0, 0)) (by (with_reducible repeat (first | refine U ?_ _ | refine X ?_ | refine V ?_ _)); exact BK590.out)) : gb590 ≠ gb615)); have n16_ := G ((by rw [hg]; exact Nat.ne_of_gt (blk_lt (g := gb590) (o := .cells #[.slice A1_0 l1_0.length c1_0, .int .i64 a1_1] 24 (0, 0)) (by (with_reducible repeat (first | refine U ?_ _ | refine X ?_ | refine V ?_ _)); exact BK590.out)) : gb615 ≠ gb590)); have n17_ := G ((by rw [hg]; exact Nat.ne_of_lt (blk_lt (g := gb610) (o := .cells #[.slice Ao43 t604.length co43, .slice Ao47 t607.length co47] 39 (0, 0)) (by (with_reducible repeat (first | refine U ?_ _ | refine X ?_ | refine V ?_ _)); exact BK610.out)) : gb610 ≠ gb615)); have n18_ := G ((by rw [hg]; exact Nat.ne_of_gt (blk_lt (g := gb610) (o := .cells #[.slice Ao43 t604.length co43, .slice Ao47 t607.length co47] 39 (0, 0)) (by (with_reducible repeat (first | refine U ?_ _ | refine X ?_ | refine V ?_ _)); exact BK610.out)) : gb615 ≠ gb610)); clear HO595; clear HO598; clear HO601; clear HO606; clear HO609; clear HO613; clear BK589; clear BK590; clear BK610; clear HB; have HO595 := n0_; have HO598 := n1_; have HO601 := n2_; have HO606 := n3_; have HO609 := n4_; have HO613 := n5_; have BK589 := n6_; have BK590 := n7_; have BK610 := n8_; have HB := n9_; have BK615 := n10_; have GW615 := n11_; have GE615 := n12_; have NB589_615 := n13_; have NB615_589 := n14_; have NB590_615 := n15_; have NB615_590 := n16_; have NB610_615 := n17_; have NB615_610 := n18_; clear n0_ n1_ n2_ n3_ n4_ n5_ n6_ n7_ n8_ n9_ n10_ n11_ n12_ n13_ n14_ n15_ n16_ n17_ n18_; clear hb hbox hg; obtain ⟨Ao51, co51, eo51⟩ := Kd.R_slice HO613.out; subst eo51; have hnb52 := NB615_589.out; have hnc52 := NB589_615.out; have hnb53 := NB615_590.out; have hnc53 := NB590_615.out; have hnb54 := NB615_610.out; have hnc54 := NB610_615.out; have hcz55_0 : w50.cell? ⟨gb615, 0, none⟩ = some (.slice none 0 0) := (E BK615.out 0).trans rfl; have hcz55_1 : w50.cell? ⟨gb615, 1, none⟩ = some (.int .i64 0) := (E BK615.out 1).trans rfl; have hfz55_0 := GT BK615.out 0; have hfz55_1 := GT BK615.out 1; have hcz56_0 : w50.cell? ⟨gb610, 0, none⟩ = some (.slice Ao43 t604.length co43) := (E BK610.out 0).trans rfl; have hcz56_1 : w50.cell? ⟨gb610, 1, none⟩ = some (.slice Ao47 t607.length co47) := (E BK610.out 1).trans rfl; have hfz56_0 := GT BK610.out 0; have hfz56_1 := GT BK610.out 1) | ((with_reducible refine gate_callee (f := 40) rfl ?_); refine goesL_ (some 31) rfl rfl Try.func40 (by kernel_rfl) rfl #[.agg #[.slice Ao43 t604.length co43, .slice Ao47 t607.length co47], .agg #[.slice Ao51 t611.length co51, .int .i64 t614]] rfl (by (try simp only [List.map_toArray, List.map_cons, List.map_nil]); first | done | rfl | (simp only [List.length_drop, List.length_take]; rfl)) ?_; (with_reducible refine (impl_ValidDensities.calls k _ _ t604 _ _ t607 _ _ t611 t614 t616 _ ?side1 ?side2 ?side3 ?side4 ?side5 ?side6 A24.out).mono ?_); (case side1 => refine (Kd.R_reads' (e := 82) (base := w.heap.size) (ok := fun k_ => (True ∧ some k_ ≠ (.slice Ao36 t593.length co36 : Value).ownBlock)) (n := t604.length) (c := co43) ?_).2.2; exact (by (with_reducible repeat (first | apply J | apply L | apply M)); exact (P (D (p := ⟨gb615, 1, none⟩) (D (p := ⟨gb615, 0, none⟩) (I HO606.out BK615.out (by decide)) (fun _ hk => hk.2) (.slice Ao51 t611.length co51)) (fun _ hk => hk.2) (.int .i64 t614)) (fun _ h_ => h_.1)))); (case side2 => exact (Kd.R_reads' HO606.out).2.1); (case side3 => refine (Kd.R_reads' (e := 84) (base := w.heap.size) (ok := fun k_ => (True ∧ some k_ ≠ (.slice Ao37 t596.length co37 : Value).ownBlock)) (n := t607.length) (c := co47) ?_).2.2; exact (by (with_reducible repeat (first | apply J | apply L | apply M)); exact (P (D (p := ⟨gb615, 1, none⟩) (D (p := ⟨gb615, 0, none⟩) (I HO609.out BK615.out (by decide)) (fun _ hk => hk.2) (.slice Ao51 t611.length co51)) (fun _ hk => hk.2) (.int .i64 t614)) (fun _ h_ => h_.1)))); (case side4 => exact (Kd.R_reads' HO609.out).2.1); (case side5 => refine (Kd.R_reads' (e := 2) (base := w.heap.size) (ok := fun k_ => (True ∧ some k_ ≠ (.slice Ao38 t599.length co38 : Value).ownBlock)) (n := t611.length) (c := co51) ?_).2.2; exact (by (with_reducible repeat (first | apply J | apply L | apply M)); exact (P (D (p := ⟨gb615, 1, none⟩) (D (p := ⟨gb615, 0, none⟩) (I HO613.out BK615.out (by decide)) (fun _ hk => hk.2) (.slice Ao51 t611.length co51)) (fun _ hk => hk.2) (.int .i64 t614)) (fun _ h_ => h_.1)))); (case side6 => exact (Kd.R_reads' HO613.out).2.1); rintro e w57 ⟨rfl, hb⟩; refine ⟨_, rfl, ?_⟩; have n0_ := G (B (by (with_reducible repeat (first | apply J | apply L | apply M)); exact (P (D (p := ⟨gb615, 1, none⟩) (D (p := ⟨gb615, 0, none⟩) (I HO595.out BK615.out (by decide)) (fun _ hk => hk.2) (.slice Ao51 t611.length co51)) (fun _ hk => hk.2) (.int .i64 t614)) (fun _ h_ => h_.1))) hb); have n1_ := G (B (by (with_reducible repeat (first | apply J | apply L | apply M)); exact (P (D (p := ⟨gb615, 1, none⟩) (D (p := ⟨gb615, 0, none⟩) (I HO598.out BK615.out (by decide)) (fun _ hk => hk.2) (.slice Ao51 t611.length co51)) (fun _ hk => hk.2) (.int .i64 t614)) (fun _ h_ => h_.1))) hb); have n2_ := G (B (by (with_reducible repeat (first | apply J | apply L | apply M)); exact (P (D (p := ⟨gb615, 1, none⟩) (D (p := ⟨gb615, 0, none⟩) (I HO601.out BK615.out (by decide)) (fun _ hk => hk.2) (.slice Ao51 t611.length co51)) (fun _ hk => hk.2) (.int .i64 t614)) (fun _ h_ => h_.1))) hb); have n3_ := G (B (by (with_reducible repeat (first | apply J | apply L | apply M)); exact (P (D (p := ⟨gb615, 1, none⟩) (D (p := ⟨gb615, 0, none⟩) (I HO606.out BK615.out (by decide)) (fun _ hk => hk.2) (.slice Ao51 t611.length co51)) (fun _ hk => hk.2) (.int .i64 t614)) (fun _ h_ => h_.1))) hb); have n4_ := G (B (by (with_reducible repeat (first | apply J | apply L | apply M)); exact (P (D (p := ⟨gb615, 1, none⟩) (D (p := ⟨gb615, 0, none⟩) (I HO609.out BK615.out (by decide)) (fun _ hk => hk.2) (.slice Ao51 t611.length co51)) (fun _ hk => hk.2) (.int .i64 t614)) (fun _ h_ => h_.1))) hb); have n5_ := G (B (by (with_reducible repeat (first | apply J | apply L | apply M)); exact (P (D (p := ⟨gb615, 1, none⟩) (D (p := ⟨gb615, 0, none⟩) (I HO613.out BK615.out (by decide)) (fun _ hk => hk.2) (.slice Ao51 t611.length co51)) (fun _ hk => hk.2) (.int .i64 t614)) (fun _ h_ => h_.1))) hb); have n6_ := G (F (g := gb589) (o := .cells #[.slice A0_0 l0_0.length c0_0, .slice A0_1 l0_1.length c0_1] 33 (0, 0)) (by (with_reducible repeat (first | refine U ?_ _ | refine X ?_ | refine V ?_ _)); refine blk_far ?_ NB589_615.out _; (with_reducible repeat (first | refine U ?_ _ | refine X ?_ | refine V ?_ _)); refine blk_far ?_ NB589_615.out _; (with_reducible repeat (first | refine U ?_ _ | refine X ?_ | refine V ?_ _)); exact BK589.out) hb); have n7_ := G (F (g := gb590) (o := .cells #[.slice A1_0 l1_0.length c1_0, .int .i64 a1_1] 24 (0, 0)) (by (with_reducible repeat (first | refine U ?_ _ | refine X ?_ | refine V ?_ _)); refine blk_far ?_ NB590_615.out _; (with_reducible repeat (first | refine U ?_ _ | refine X ?_ | refine V ?_ _)); refine blk_far ?_ NB590_615.out _; (with_reducible repeat (first | refine U ?_ _ | refine X ?_ | refine V ?_ _)); exact BK590.out) hb); have n8_ := G (F (g := gb610) (o := .cells #[.slice Ao43 t604.length co43, .slice Ao47 t607.length co47] 39 (0, 0)) (by (with_reducible repeat (first | refine U ?_ _ | refine X ?_ | refine V ?_ _)); refine blk_far ?_ NB610_615.out _; (with_reducible repeat (first | refine U ?_ _ | refine X ?_ | refine V ?_ _)); refine blk_far ?_ NB610_615.out _; (with_reducible repeat (first | refine U ?_ _ | refine X ?_ | refine V ?_ _)); exact BK610.out) hb); have n9_ := G (F (g := gb615) (o := .cells #[.slice Ao51 t611.length co51, .int .i64 t614] 27 (0, 0)) (by (with_reducible repeat (first | refine U ?_ _ | refine X ?_ | refine V ?_ _)); refine blk_put (cs := #[.slice Ao51 t611.length co51, .int .i64 0]) ?_ 1 _ rfl; (with_reducible repeat (first | refine U ?_ _ | refine X ?_ | refine V ?_ _)); refine blk_put (cs := #[.slice none 0 0, .int .i64 0]) ?_ 0 _ rfl; (with_reducible repeat (first | refine U ?_ _ | refine X ?_ | refine V ?_ _)); exact BK615.out) hb); have n10_ := G (GN (by repeat (first | (with_reducible first | exact HB.out | apply Z | apply T | apply Y | refine O ?_ GE589.out | refine O ?_ GE590.out | refine O ?_ GE610.out | refine O ?_ GE615.out) | exact HB.out)) hb); clear HO595; clear HO598; clear HO601; clear HO606; clear HO609; clear HO613; clear BK589; clear BK590; clear BK610; clear BK615; clear HB; have HO595 := n0_; have HO598 := n1_; have HO601 := n2_; have HO606 := n3_; have HO609 := n4_; have HO613 := n5_; have BK589 := n6_; have BK590 := n7_; have BK610 := n8_; have BK615 := n9_; have HB := n10_; clear n0_ n1_ n2_ n3_ n4_ n5_ n6_ n7_ n8_ n9_ n10_; (try clear hb); (try clear hb2); (try clear hk); (try clear hi)))
    go_ret
    exact ⟨by first | rfl | (simp [errW_none, errW_some] <;> rfl) | (simp [*, errW_none, errW_some] <;> rfl), by repeat (first | (with_reducible first | exact HB.out | apply Z | apply T | apply Y | refine O ?_ GE589.out | refine O ?_ GE590.out | refine O ?_ GE610.out | refine O ?_ GE615.out) | exact HB.out)⟩
   ·rw [if_neg c25] at H
    have c25b0 : (t616 != t603) = false := by simpa using c25
    (try (have c25b1 : decide (t616 = t603) = true := by simpa using c25))
    (try (have c25b2 : (t616 == t603) = true := by simpa using c25))
    clear c25
    replace H := Option.bind_eq_some_iff.mp H
    obtain ⟨⟨t617, t620⟩, A580, H⟩ := H
    replace H : ((laws_eqFrame.f k t604 t607 t617 t620).bind fun t623 => (if t623 = true then ((laws_toDensities.f k l1_0 a1_1).bind fun bt624 => ((laws_eqDensities.f k t611 t614 bt624.1 bt624.2).bind fun t628 => (if t628 = true then (some true) else (some false)))) else (some false))) = some r := H
    have A58 := G A580
    clear A580
    replace H := Option.bind_eq_some_iff.mp H
    obtain ⟨t623, A590, H⟩ := H
    replace H : (if t623 = true then ((laws_toDensities.f k l1_0 a1_1).bind fun bt624 => ((laws_eqDensities.f k t611 t614 bt624.1 bt624.2).bind fun t628 => (if t628 = true then (some true) else (some false)))) else (some false)) = some r := H
    have A59 := G A590
    clear A590
    by_cases c60 : t623 = true
    ·subst c60
     have H1 : ((laws_toDensities.f k l1_0 a1_1).bind fun bt624 => ((laws_eqDensities.f k t611 t614 bt624.1 bt624.2).bind fun t628 => (if t628 = true then (some true) else (some false)))) = some r := by rw [if_pos rfl] at H; exact H
     clear H
     have H := H1
     clear H1
     replace H := Option.bind_eq_some_iff.mp H
     obtain ⟨⟨t624, t627⟩, A610, H⟩ := H
     replace H : ((laws_eqDensities.f k t611 t614 t624 t627).bind fun t628 => (if t628 = true then (some true) else (some false))) = some r := H
     have A61 := G A610
     clear A610
     replace H := Option.bind_eq_some_iff.mp H
     obtain ⟨t628, A620, H⟩ := H
     replace H : (if t628 = true then (some true) else (some false)) = some r := H
     have A62 := G A620
     clear A620
     by_cases c63 : t628 = true
     ·subst c63
      have H1 : (some true) = some r := by rw [if_pos rfl] at H; exact H
      clear H
      have H := H1
      clear H1
      obtain rfl := Option.some.inj H
      go_enter Try.func9, Try.ntmps9
      try go_wp2_with (first | ((with_reducible refine gate_dst (N := 2) rfl ?_); refine box_event ?hg (N := 2) ?hd (cs := #[.slice A0_0 l0_0.length c0_0, .slice A0_1 l0_1.length c0_1]) (t := 33) ?hr ?_; (case hd => rfl); (case hg => rfl); (case hr => first | (go_simp; done) | (go_simp; rfl)); intro gb589 hg w64 hbox hb; have n0_ := G (GN (by repeat (first | (with_reducible first | exact HB.out | apply Z | apply T | apply Y) | exact HB.out)) hb); have n1_ := G (hbox); have n2_ := G ((by rw [hg]; exact (GM (by repeat (first | (with_reducible first | exact HB.out | apply Z | apply T | apply Y) | exact HB.out))) : w.heap.size ≤ gb589)); have n3_ := G ((by rw [hg]; exact (GM (by repeat (first | (with_reducible first | exact HB.out | apply Z | apply T | apply Y) | exact HB.out))) : w.heap.size ≤ gb589)); clear HB; have HB := n0_; have BK589 := n1_; have GW589 := n2_; have GE589 := n3_; clear n0_ n1_ n2_ n3_; clear hb hbox hg) | ((with_reducible refine gate_dst (N := 3) rfl ?_); refine box_event ?hg (N := 3) ?hd (cs := #[.slice A1_0 l1_0.length c1_0, .int .i64 a1_1]) (t := 24) ?hr ?_; (case hd => rfl); (case hg => rfl); (case hr => first | (go_simp; done) | (go_simp; rfl)); intro gb590 hg w65 hbox hb; have n0_ := G (F (g := gb589) (o := .cells #[.slice A0_0 l0_0.length c0_0, .slice A0_1 l0_1.length c0_1] 33 (0, 0)) (by (with_reducible repeat (first | refine U ?_ _ | refine X ?_ | refine V ?_ _)); exact BK589.out) hb); have n1_ := G (GN (by repeat (first | (with_reducible first | exact HB.out | apply Z | apply T | apply Y | refine O ?_ GE589.out) | exact HB.out)) hb); have n2_ := G (hbox); have n3_ := G ((by rw [hg]; exact (GM (by repeat (first | (with_reducible first | exact HB.out | apply Z | apply T | apply Y | refine O ?_ GE589.out) | exact HB.out))) : w.heap.size ≤ gb590)); have n4_ := G ((by rw [hg]; exact (GM (by repeat (first | (with_reducible first | exact HB.out | apply Z | apply T | apply Y | refine O ?_ GE589.out) | exact HB.out))) : w.heap.size ≤ gb590)); have n5_ := G ((by rw [hg]; exact Nat.ne_of_lt (blk_lt (g := gb589) (o := .cells #[.slice A0_0 l0_0.length c0_0, .slice A0_1 l0_1.length c0_1] 33 (0, 0)) (by (with_reducible repeat (first | refine U ?_ _ | refine X ?_ | refine V ?_ _)); exact BK589.out)) : gb589 ≠ gb590)); have n6_ := G ((by rw [hg]; exact Nat.ne_of_gt (blk_lt (g := gb589) (o := .cells #[.slice A0_0 l0_0.length c0_0, .slice A0_1 l0_1.length c0_1] 33 (0, 0)) (by (with_reducible repeat (first | refine U ?_ _ | refine X ?_ | refine V ?_ _)); exact BK589.out)) : gb590 ≠ gb589)); clear BK589; clear HB; have BK589 := n0_; have HB := n1_; have BK590 := n2_; have GW590 := n3_; have GE590 := n4_; have NB589_590 := n5_; have NB590_589 := n6_; clear n0_ n1_ n2_ n3_ n4_ n5_ n6_; clear hb hbox hg; have hnb66 := NB589_590.out; have hnc66 := NB590_589.out; have hcz67_0 : w65.cell? ⟨gb589, 0, none⟩ = some (.slice A0_0 l0_0.length c0_0) := (E BK589.out 0).trans rfl; have hcz67_1 : w65.cell? ⟨gb589, 1, none⟩ = some (.slice A0_1 l0_1.length c0_1) := (E BK589.out 1).trans rfl; have hfz67_0 := GT BK589.out 0; have hfz67_1 := GT BK589.out 1) | ((with_reducible refine gate_callee (f := 19) rfl ?_); refine goesL_ (some 12) rfl rfl Try.func19 (by kernel_rfl) rfl #[.agg #[.slice A0_0 l0_0.length c0_0, .slice A0_1 l0_1.length c0_1], .int .i64 1048576] rfl (by (try simp only [List.map_toArray, List.map_cons, List.map_nil]); first | done | rfl | (simp only [List.length_drop, List.length_take]; rfl)) ?_; (with_reducible refine (laws_szFrame.calls _ _ l0_0 _ _ l0_1 1048576 t591 _ ?side1 ?side2 ?side3 ?side4 A3.out).mono ?_); (case side1 => repeat (first | exact (GO HR0_0.out HB.out) | (with_reducible refine R ?_ _) | (with_reducible refine GG ?_ _) | (with_reducible refine GJ ?_))); (case side2 => exact HC0_0.out); (case side3 => repeat (first | exact (GO HR0_1.out HB.out) | (with_reducible refine R ?_ _) | (with_reducible refine GG ?_ _) | (with_reducible refine GJ ?_))); (case side4 => exact HC0_1.out); rintro e w68 ⟨rfl, hb⟩; refine ⟨_, rfl, ?_⟩; have n0_ := G (F (g := gb589) (o := .cells #[.slice A0_0 l0_0.length c0_0, .slice A0_1 l0_1.length c0_1] 33 (0, 0)) (by (with_reducible repeat (first | refine U ?_ _ | refine X ?_ | refine V ?_ _)); exact BK589.out) hb); have n1_ := G (F (g := gb590) (o := .cells #[.slice A1_0 l1_0.length c1_0, .int .i64 a1_1] 24 (0, 0)) (by (with_reducible repeat (first | refine U ?_ _ | refine X ?_ | refine V ?_ _)); exact BK590.out) hb); have n2_ := G (GN (by repeat (first | (with_reducible first | exact HB.out | apply Z | apply T | apply Y | refine O ?_ GE589.out | refine O ?_ GE590.out) | exact HB.out)) hb); clear BK589; clear BK590; clear HB; have BK589 := n0_; have BK590 := n1_; have HB := n2_; clear n0_ n1_ n2_; (try clear hb); (try clear hb2); (try clear hk); (try clear hi); have hcz69_0 : w68.cell? ⟨gb590, 0, none⟩ = some (.slice A1_0 l1_0.length c1_0) := (E BK590.out 0).trans rfl; have hcz69_1 : w68.cell? ⟨gb590, 1, none⟩ = some (.int .i64 a1_1) := (E BK590.out 1).trans rfl; have hfz69_0 := GT BK590.out 0; have hfz69_1 := GT BK590.out 1) | ((with_reducible refine gate_callee (f := 14) rfl ?_); refine goesL_ (some 17) rfl rfl Try.func14 (by kernel_rfl) rfl #[.agg #[.slice A1_0 l1_0.length c1_0, .int .i64 a1_1], .int .i64 t591] rfl (by (try simp only [List.map_toArray, List.map_cons, List.map_nil]); first | done | rfl | (simp only [List.length_drop, List.length_take]; rfl)) ?_; (with_reducible refine (laws_szDensities.calls _ _ l1_0 a1_1 t591 t592 _ ?side1 ?side2 A10.out).mono ?_); (case side1 => repeat (first | exact (GO HR1_0.out HB.out) | (with_reducible refine R ?_ _) | (with_reducible refine GG ?_ _) | (with_reducible refine GJ ?_))); (case side2 => exact HC1_0.out); rintro e w70 ⟨rfl, hb⟩; refine ⟨_, rfl, ?_⟩; have n0_ := G (F (g := gb589) (o := .cells #[.slice A0_0 l0_0.length c0_0, .slice A0_1 l0_1.length c0_1] 33 (0, 0)) (by (with_reducible repeat (first | refine U ?_ _ | refine X ?_ | refine V ?_ _)); exact BK589.out) hb); have n1_ := G (F (g := gb590) (o := .cells #[.slice A1_0 l1_0.length c1_0, .int .i64 a1_1] 24 (0, 0)) (by (with_reducible repeat (first | refine U ?_ _ | refine X ?_ | refine V ?_ _)); exact BK590.out) hb); have n2_ := G (GN (by repeat (first | (with_reducible first | exact HB.out | apply Z | apply T | apply Y | refine O ?_ GE589.out | refine O ?_ GE590.out) | exact HB.out)) hb); clear BK589; clear BK590; clear HB; have BK589 := n0_; have BK590 := n1_; have HB := n2_; clear n0_ n1_ n2_; (try clear hb); (try clear hb2); (try clear hk); (try clear hi)))
      have n0_ := G (X BK589.out)
      have n1_ := G (X BK590.out)
      have n2_ := G (Y HB.out)
      clear BK589
      clear BK590
      clear HB
      have BK589 := n0_
      have BK590 := n1_
      have HB := n2_
      clear n0_ n1_ n2_
      refine start_ (n := 6) (S := fun w' => w'.cell? ⟨gb589, 0, none⟩ = some (.slice A0_0 l0_0.length c0_0) ∧ w'.cell? ⟨gb589, 1, none⟩ = some (.slice A0_1 l0_1.length c0_1) ∧ w'.cell? ⟨gb590, 0, none⟩ = some (.slice A1_0 l1_0.length c1_0) ∧ w'.cell? ⟨gb590, 1, none⟩ = some (.int .i64 a1_1)) (ds := []) #[n', n', n', n', n', n'] (by kernel_rfl) rfl rfl ⟨(E BK589.out 0).trans rfl, (E BK589.out 1).trans rfl, (E BK590.out 0).trans rfl, (E BK590.out 1).trans rfl⟩ (fun hHeld => ?_)
      generalize w70.drew = w71 at BK589 BK590 HB hHeld ⊢
      refine take_ (i := 0) (N := some 20) (v := ?_) (a' := ?_) #[y', n', n', n', n', n'] rfl rfl (by kernel_rfl) (fun _ _ _ h => h) (Or.inl ⟨by rfl, ?_⟩) hHeld ?_ ?_
      rotate_left
      ·rintro w' ⟨s0, s1, s2, s3⟩
       go_simp
       with_reducible rfl
      rotate_left
      ·simp only [Act.put, z1', z2', z3', i64_w, i32_w]
       rfl
      refine take_ (i := 2) (N := some 22) (v := ?_) (a' := ?_) #[y', n', y', n', n', n'] rfl rfl (by kernel_rfl) (fun _ _ _ h => h) (Or.inl ⟨by rfl, ?_⟩) hHeld ?_ ?_
      rotate_left
      ·rintro w' ⟨s0, s1, s2, s3⟩
       go_simp
       with_reducible rfl
      rotate_left
      ·simp only [Act.put, z1', z2', z3', i64_w, i32_w]
       rfl
      refine one_ (i := 1) (N := some 21) #[y', y', y', n', n', n'] rfl rfl (by kernel_rfl) (by decide) (fun K hK => ?_)
      refine goes_ Try.func21 (by kernel_rfl) rfl #[.agg #[.slice A0_0 l0_0.length c0_0, .slice A0_1 l0_1.length c0_1]] (by rfl) rfl rfl (by (try simp only [List.map_toArray, List.map_cons, List.map_nil]); first | done | rfl | (simp only [List.length_drop, List.length_take]; rfl)) ?_
      with_reducible refine (laws_toFrame.calls k _ _ l0_0 _ _ l0_1 t593 t596 _ ?side1 ?side2 ?side3 ?side4 A19.out).mono ?_
      (case side1 => repeat (first | exact (GO HR0_0.out HB.out) | (with_reducible refine R ?_ _) | (with_reducible refine GG ?_ _) | (with_reducible refine GJ ?_)))
      (case side2 => exact HC0_0.out)
      (case side3 => repeat (first | exact (GO HR0_1.out HB.out) | (with_reducible refine R ?_ _) | (with_reducible refine GG ?_ _) | (with_reducible refine GJ ?_)))
      (case side4 => exact HC0_1.out)
      rintro e w72 ⟨v594, v597, rfl, ho0, ho1, hb⟩
      refine ⟨_, rfl, ?_⟩
      have n0_ := G (Kd.R_lower ho0 (GM (by repeat (first | (with_reducible first | exact HB.out | apply Z | apply T | apply Y | refine O ?_ GE589.out | refine O ?_ GE590.out) | exact HB.out))))
      have n1_ := G (Kd.R_lower ho1 (GM (by repeat (first | (with_reducible first | exact HB.out | apply Z | apply T | apply Y | refine O ?_ GE589.out | refine O ?_ GE590.out) | exact HB.out))))
      have n2_ := G (F (g := gb589) (o := .cells #[.slice A0_0 l0_0.length c0_0, .slice A0_1 l0_1.length c0_1] 33 (0, 0)) (by (with_reducible repeat (first | refine U ?_ _ | refine X ?_ | refine V ?_ _)); exact BK589.out) hb)
      have n3_ := G (F (g := gb590) (o := .cells #[.slice A1_0 l1_0.length c1_0, .int .i64 a1_1] 24 (0, 0)) (by (with_reducible repeat (first | refine U ?_ _ | refine X ?_ | refine V ?_ _)); exact BK590.out) hb)
      have n4_ := G (GN (by repeat (first | (with_reducible first | exact HB.out | apply Z | apply T | apply Y | refine O ?_ GE589.out | refine O ?_ GE590.out) | exact HB.out)) hb)
      clear BK589
      clear BK590
      clear HB
      have HO595 := n0_
      have HO598 := n1_
      have BK589 := n2_
      have BK590 := n3_
      have HB := n4_
      clear n0_ n1_ n2_ n3_ n4_
      (try clear hb)
      (try clear hb2)
      (try clear hk)
      (try clear hi)
      (try clear ho0)
      (try clear ho1)
      refine hK.out _ _ ⟨(E BK589.out 0).trans rfl, (E BK589.out 1).trans rfl, (E BK590.out 0).trans rfl, (E BK590.out 1).trans rfl⟩ (fun hHeld => ?_)
      clear hK K
      refine norm_ (a' := ?_) ?_ ?_
      rotate_left
      ·show Act.put _ (some 21) _ = _
       simp only [Act.put, z1', z2', z3', i64_w, i32_w]
       rfl
      refine one_ (i := 3) (N := some 23) #[y', y', y', y', n', n'] rfl rfl (by kernel_rfl) (by decide) (fun K hK => ?_)
      refine goes_ Try.func16 (by kernel_rfl) rfl #[.agg #[.slice A1_0 l1_0.length c1_0, .int .i64 a1_1]] (by rfl) rfl rfl (by (try simp only [List.map_toArray, List.map_cons, List.map_nil]); first | done | rfl | (simp only [List.length_drop, List.length_take]; rfl)) ?_
      with_reducible refine (laws_toDensities.calls k _ _ l1_0 a1_1 t599 t602 _ ?side1 ?side2 A20.out).mono ?_
      (case side1 => repeat (first | exact (GO HR1_0.out HB.out) | (with_reducible refine R ?_ _) | (with_reducible refine GG ?_ _) | (with_reducible refine GJ ?_)))
      (case side2 => exact HC1_0.out)
      rintro e w73 ⟨v600, rfl, ho0, hb⟩
      refine ⟨_, rfl, ?_⟩
      have n0_ := G (B (by (with_reducible repeat (first | apply J | apply L | apply M)); exact HO595.out) hb)
      have n1_ := G (B (by (with_reducible repeat (first | apply J | apply L | apply M)); exact HO598.out) hb)
      have n2_ := G (Kd.R_lower ho0 (GM (by repeat (first | (with_reducible first | exact HB.out | apply Z | apply T | apply Y | refine O ?_ GE589.out | refine O ?_ GE590.out) | exact HB.out))))
      have n3_ := G (F (g := gb589) (o := .cells #[.slice A0_0 l0_0.length c0_0, .slice A0_1 l0_1.length c0_1] 33 (0, 0)) (by (with_reducible repeat (first | refine U ?_ _ | refine X ?_ | refine V ?_ _)); exact BK589.out) hb)
      have n4_ := G (F (g := gb590) (o := .cells #[.slice A1_0 l1_0.length c1_0, .int .i64 a1_1] 24 (0, 0)) (by (with_reducible repeat (first | refine U ?_ _ | refine X ?_ | refine V ?_ _)); exact BK590.out) hb)
      have n5_ := G (GN (by repeat (first | (with_reducible first | exact HB.out | apply Z | apply T | apply Y | refine O ?_ GE589.out | refine O ?_ GE590.out) | exact HB.out)) hb)
      clear HO595
      clear HO598
      clear BK589
      clear BK590
      clear HB
      have HO595 := n0_
      have HO598 := n1_
      have HO601 := n2_
      have BK589 := n3_
      have BK590 := n4_
      have HB := n5_
      clear n0_ n1_ n2_ n3_ n4_ n5_
      (try clear hb)
      (try clear hb2)
      (try clear hk)
      (try clear hi)
      (try clear ho0)
      obtain ⟨Ao74, co74, eo74⟩ := Kd.R_slice HO595.out
      (first | subst eo74 | (injection eo74 with f1_ f2_ f3_; have f4_ := f1_.symm; have f5_ := f3_.symm; clear f1_ f2_ f3_; subst f4_; subst f5_))
      obtain ⟨Ao75, co75, eo75⟩ := Kd.R_slice HO598.out
      (first | subst eo75 | (injection eo75 with f1_ f2_ f3_; have f4_ := f1_.symm; have f5_ := f3_.symm; clear f1_ f2_ f3_; subst f4_; subst f5_))
      obtain ⟨Ao76, co76, eo76⟩ := Kd.R_slice HO601.out
      (first | subst eo76 | (injection eo76 with f1_ f2_ f3_; have f4_ := f1_.symm; have f5_ := f3_.symm; clear f1_ f2_ f3_; subst f4_; subst f5_))
      refine hK.out _ _ ⟨(E BK589.out 0).trans rfl, (E BK589.out 1).trans rfl, (E BK590.out 0).trans rfl, (E BK590.out 1).trans rfl⟩ (fun hHeld => ?_)
      clear hK K
      refine norm_ (a' := ?_) ?_ ?_
      rotate_left
      ·show Act.put _ (some 23) _ = _
       simp only [Act.put, z1', z2', z3', i64_w, i32_w]
       rfl
      refine one_ (i := 4) (N := some 24) #[y', y', y', y', y', n'] rfl rfl (by kernel_rfl) (by decide) (fun K hK => ?_)
      refine goes_ Try.func39 (by kernel_rfl) rfl #[.agg #[.slice Ao74 t593.length co74, .slice Ao75 t596.length co75], .agg #[.slice Ao76 t599.length co76, .int .i64 t602]] (by rfl) rfl rfl (by (try simp only [List.map_toArray, List.map_cons, List.map_nil]); first | done | rfl | (simp only [List.length_drop, List.length_take]; rfl)) ?_
      with_reducible refine (spec_ValidDensities.calls k _ _ t593 _ _ t596 _ _ t599 t602 t603 _ ?side1 ?side2 ?side3 ?side4 ?side5 ?side6 A21.out).mono ?_
      (case side1 => repeat (first | exact (Kd.R_reads' HO595.out).2.2 | (with_reducible refine R ?_ _) | (with_reducible refine GG ?_ _) | (with_reducible refine GJ ?_)))
      (case side2 => exact (Kd.R_reads' HO595.out).2.1)
      (case side3 => repeat (first | exact (Kd.R_reads' HO598.out).2.2 | (with_reducible refine R ?_ _) | (with_reducible refine GG ?_ _) | (with_reducible refine GJ ?_)))
      (case side4 => exact (Kd.R_reads' HO598.out).2.1)
      (case side5 => repeat (first | exact (Kd.R_reads' HO601.out).2.2 | (with_reducible refine R ?_ _) | (with_reducible refine GG ?_ _) | (with_reducible refine GJ ?_)))
      (case side6 => exact (Kd.R_reads' HO601.out).2.1)
      rintro e w77 ⟨rfl, hb⟩
      refine ⟨_, rfl, ?_⟩
      have n0_ := G (B (by (with_reducible repeat (first | apply J | apply L | apply M)); exact HO595.out) hb)
      have n1_ := G (B (by (with_reducible repeat (first | apply J | apply L | apply M)); exact HO598.out) hb)
      have n2_ := G (B (by (with_reducible repeat (first | apply J | apply L | apply M)); exact HO601.out) hb)
      have n3_ := G (F (g := gb589) (o := .cells #[.slice A0_0 l0_0.length c0_0, .slice A0_1 l0_1.length c0_1] 33 (0, 0)) (by (with_reducible repeat (first | refine U ?_ _ | refine X ?_ | refine V ?_ _)); exact BK589.out) hb)
      have n4_ := G (F (g := gb590) (o := .cells #[.slice A1_0 l1_0.length c1_0, .int .i64 a1_1] 24 (0, 0)) (by (with_reducible repeat (first | refine U ?_ _ | refine X ?_ | refine V ?_ _)); exact BK590.out) hb)
      have n5_ := G (GN (by repeat (first | (with_reducible first | exact HB.out | apply Z | apply T | apply Y | refine O ?_ GE589.out | refine O ?_ GE590.out) | exact HB.out)) hb)
      clear HO595
      clear HO598
      clear HO601
      clear BK589
      clear BK590
      clear HB
      have HO595 := n0_
      have HO598 := n1_
      have HO601 := n2_
      have BK589 := n3_
      have BK590 := n4_
      have HB := n5_
      clear n0_ n1_ n2_ n3_ n4_ n5_
      (try clear hb)
      (try clear hb2)
      (try clear hk)
      (try clear hi)
      refine hK.out _ _ ⟨(E BK589.out 0).trans rfl, (E BK589.out 1).trans rfl, (E BK590.out 0).trans rfl, (E BK590.out 1).trans rfl⟩ (fun hHeld => ?_)
      clear hK K
      refine norm_ (a' := ?_) ?_ ?_
      rotate_left
      ·show Act.put _ (some 24) _ = _
       simp only [Act.put, z1', z2', z3', i64_w, i32_w]
       rfl
      refine pure_ (i := 5) (N := some 6) (v := ?_) (a' := ?_) #[y', y', y', y', y', y'] rfl rfl (by kernel_rfl) (fun _ _ _ h => h) (Or.inl ⟨by rfl, ?_⟩) ?_ ?_
      rotate_left
      ·intro w'
       go_simp
       with_reducible rfl
      rotate_left
      ·simp only [Act.put, z1', z2', z3', i64_w, i32_w]
       rfl
      refine done_ (by kernel_rfl) ?_
      have hcz78_0 : w77.cell? ⟨gb589, 0, none⟩ = some (.slice A0_0 l0_0.length c0_0) := (E BK589.out 0).trans rfl
      have hcz78_1 : w77.cell? ⟨gb589, 1, none⟩ = some (.slice A0_1 l0_1.length c0_1) := (E BK589.out 1).trans rfl
      have hfz78_0 := GT BK589.out 0
      have hfz78_1 := GT BK589.out 1
      try go_wp2_with (first | ((with_reducible refine gate_callee (f := 21) rfl ?_); refine goesL_ (some 26) rfl rfl Try.func21 (by kernel_rfl) rfl #[.agg #[.slice A0_0 l0_0.length c0_0, .slice A0_1 l0_1.length c0_1]] rfl (by (try simp only [List.map_toArray, List.map_cons, List.map_nil]); first | done | rfl | (simp only [List.length_drop, List.length_take]; rfl)) ?_; (with_reducible refine (laws_toFrame.calls k _ _ l0_0 _ _ l0_1 t604 t607 _ ?side1 ?side2 ?side3 ?side4 A22.out).mono ?_); (case side1 => repeat (first | exact (GO HR0_0.out HB.out) | (with_reducible refine R ?_ _) | (with_reducible refine GG ?_ _) | (with_reducible refine GJ ?_))); (case side2 => exact HC0_0.out); (case side3 => repeat (first | exact (GO HR0_1.out HB.out) | (with_reducible refine R ?_ _) | (with_reducible refine GG ?_ _) | (with_reducible refine GJ ?_))); (case side4 => exact HC0_1.out); rintro e w79 ⟨v605, v608, rfl, ho0, ho1, hb⟩; refine ⟨_, rfl, ?_⟩; have n0_ := G (Kd.R_elder' (by (with_reducible repeat (first | apply J | apply L | apply M)); exact HO595.out) (Kd.R_base ho0) hb); have n1_ := G (Kd.R_elder' (by (with_reducible repeat (first | apply J | apply L | apply M)); exact HO598.out) (Kd.R_base ho1) hb); have n2_ := G (B (by (with_reducible repeat (first | apply J | apply L | apply M)); exact HO601.out) hb); have n3_ := G (Kd.R_lower (GL ho0 (Kd.R_lt (by (with_reducible repeat (first | apply J | apply L | apply M)); exact HO595.out))) (GM (by repeat (first | (with_reducible first | exact HB.out | apply Z | apply T | apply Y | refine O ?_ GE589.out | refine O ?_ GE590.out) | exact HB.out)))); have n4_ := G (Kd.R_lower (GL ho1 (Kd.R_lt (by (with_reducible repeat (first | apply J | apply L | apply M)); exact HO598.out))) (GM (by repeat (first | (with_reducible first | exact HB.out | apply Z | apply T | apply Y | refine O ?_ GE589.out | refine O ?_ GE590.out) | exact HB.out)))); have n5_ := G (F (g := gb589) (o := .cells #[.slice A0_0 l0_0.length c0_0, .slice A0_1 l0_1.length c0_1] 33 (0, 0)) (by (with_reducible repeat (first | refine U ?_ _ | refine X ?_ | refine V ?_ _)); exact BK589.out) hb); have n6_ := G (F (g := gb590) (o := .cells #[.slice A1_0 l1_0.length c1_0, .int .i64 a1_1] 24 (0, 0)) (by (with_reducible repeat (first | refine U ?_ _ | refine X ?_ | refine V ?_ _)); exact BK590.out) hb); have n7_ := G (GN (by repeat (first | (with_reducible first | exact HB.out | apply Z | apply T | apply Y | refine O ?_ GE589.out | refine O ?_ GE590.out) | exact HB.out)) hb); clear HO595; clear HO598; clear HO601; clear BK589; clear BK590; clear HB; have HO595 := n0_; have HO598 := n1_; have HO601 := n2_; have HO606 := n3_; have HO609 := n4_; have BK589 := n5_; have BK590 := n6_; have HB := n7_; clear n0_ n1_ n2_ n3_ n4_ n5_ n6_ n7_; (try clear hb); (try clear hb2); (try clear hk); (try clear hi); (try clear ho0); (try clear ho1)) | ((with_reducible refine gate_dst (N := 7) rfl ?_); refine box_event ?hg (N := 7) ?hd (cs := #[.slice none 0 0, .slice none 0 0]) (t := 39) ?hr ?_; (case hd => rfl); (case hg => rfl); (case hr => first | (go_simp; done) | (go_simp; rfl)); intro gb610 hg w80 hbox hb; have n0_ := G (B (by (with_reducible repeat (first | apply J | apply L | apply M)); exact HO595.out) hb); have n1_ := G (B (by (with_reducible repeat (first | apply J | apply L | apply M)); exact HO598.out) hb); have n2_ := G (B (by (with_reducible repeat (first | apply J | apply L | apply M)); exact HO601.out) hb); have n3_ := G (B (by (with_reducible repeat (first | apply J | apply L | apply M)); exact HO606.out) hb); have n4_ := G (B (by (with_reducible repeat (first | apply J | apply L | apply M)); exact HO609.out) hb); have n5_ := G (F (g := gb589) (o := .cells #[.slice A0_0 l0_0.length c0_0, .slice A0_1 l0_1.length c0_1] 33 (0, 0)) (by (with_reducible repeat (first | refine U ?_ _ | refine X ?_ | refine V ?_ _)); exact BK589.out) hb); have n6_ := G (F (g := gb590) (o := .cells #[.slice A1_0 l1_0.length c1_0, .int .i64 a1_1] 24 (0, 0)) (by (with_reducible repeat (first | refine U ?_ _ | refine X ?_ | refine V ?_ _)); exact BK590.out) hb); have n7_ := G (GN (by repeat (first | (with_reducible first | exact HB.out | apply Z | apply T | apply Y | refine O ?_ GE589.out | refine O ?_ GE590.out) | exact HB.out)) hb); have n8_ := G (hbox); have n9_ := G ((by rw [hg]; exact (GM (by repeat (first | (with_reducible first | exact HB.out | apply Z | apply T | apply Y | refine O ?_ GE589.out | refine O ?_ GE590.out) | exact HB.out))) : w.heap.size ≤ gb610)); have n10_ := G ((by rw [hg]; exact (GM (by repeat (first | (with_reducible first | exact HB.out | apply Z | apply T | apply Y | refine O ?_ GE589.out | refine O ?_ GE590.out) | exact HB.out))) : w.heap.size ≤ gb610)); have n11_ := G ((by rw [hg]; exact Nat.ne_of_lt (blk_lt (g := gb589) (o := .cells #[.slice A0_0 l0_0.length c0_0, .slice A0_1 l0_1.length c0_1] 33 (0, 0)) (by (with_reducible repeat (first | refine U ?_ _ | refine X ?_ | refine V ?_ _)); exact BK589.out)) : gb589 ≠ gb610)); have n12_ := G ((by rw [hg]; exact Nat.ne_of_gt (blk_lt (g := gb589) (o := .cells #[.slice A0_0 l0_0.length c0_0, .slice A0_1 l0_1.length c0_1] 33 (0, 0)) (by (with_reducible repeat (first | refine U ?_ _ | refine X ?_ | refine V ?_ _)); exact BK589.out)) : gb610 ≠ gb589)); have n13_ := G ((by rw [hg]; exact Nat.ne_of_lt (blk_lt (g := gb590) (o := .cells #[.slice A1_0 l1_0.length c1_0, .int .i64 a1_1] 24 (0, 0)) (by (with_reducible repeat (first | refine U ?_ _ | refine X ?_ | refine V ?_ _)); exact BK590.out)) : gb590 ≠ gb610)); have n14_ := G ((by rw [hg]; exact Nat.ne_of_gt (blk_lt (g := gb590) (o := .cells #[.slice A1_0 l1_0.length c1_0, .int .i64 a1_1] 24 (0, 0)) (by (with_reducible repeat (first | refine U ?_ _ | refine X ?_ | refine V ?_ _)); exact BK590.out)) : gb610 ≠ gb590)); clear HO595; clear HO598; clear HO601; clear HO606; clear HO609; clear BK589; clear BK590; clear HB; have HO595 := n0_; have HO598 := n1_; have HO601 := n2_; have HO606 := n3_; have HO609 := n4_; have BK589 := n5_; have BK590 := n6_; have HB := n7_; have BK610 := n8_; have GW610 := n9_; have GE610 := n10_; have NB589_610 := n11_; have NB610_589 := n12_; have NB590_610 := n13_; have NB610_590 := n14_; clear n0_ n1_ n2_ n3_ n4_ n5_ n6_ n7_ n8_ n9_ n10_ n11_ n12_ n13_ n14_; clear hb hbox hg; obtain ⟨Ao81, co81, eo81⟩ := Kd.R_slice HO606.out; subst eo81; have hnb82 := NB610_589.out; have hnc82 := NB589_610.out; have hnb83 := NB610_590.out; have hnc83 := NB590_610.out; have hcz84_0 : w80.cell? ⟨gb610, 0, none⟩ = some (.slice none 0 0) := (E BK610.out 0).trans rfl; have hcz84_1 : w80.cell? ⟨gb610, 1, none⟩ = some (.slice none 0 0) := (E BK610.out 1).trans rfl; have hfz84_0 := GT BK610.out 0; have hfz84_1 := GT BK610.out 1; obtain ⟨Ao85, co85, eo85⟩ := Kd.R_slice HO609.out; subst eo85; have hcz86_0 : w80.cell? ⟨gb590, 0, none⟩ = some (.slice A1_0 l1_0.length c1_0) := (E BK590.out 0).trans rfl; have hcz86_1 : w80.cell? ⟨gb590, 1, none⟩ = some (.int .i64 a1_1) := (E BK590.out 1).trans rfl; have hfz86_0 := GT BK590.out 0; have hfz86_1 := GT BK590.out 1) | ((with_reducible refine gate_callee (f := 16) rfl ?_); refine goesL_ (some 28) rfl rfl Try.func16 (by kernel_rfl) rfl #[.agg #[.slice A1_0 l1_0.length c1_0, .int .i64 a1_1]] rfl (by (try simp only [List.map_toArray, List.map_cons, List.map_nil]); first | done | rfl | (simp only [List.length_drop, List.length_take]; rfl)) ?_; (with_reducible refine (laws_toDensities.calls k _ _ l1_0 a1_1 t611 t614 _ ?side1 ?side2 A23.out).mono ?_); (case side1 => exact GO HR1_0.out (by repeat (first | (with_reducible first | exact HB.out | apply Z | apply T | apply Y | refine O ?_ GE589.out | refine O ?_ GE590.out | refine O ?_ GE610.out) | exact HB.out))); (case side2 => exact HC1_0.out); rintro e w87 ⟨v612, rfl, ho0, hb⟩; refine ⟨_, rfl, ?_⟩; have n0_ := G (B (by (with_reducible repeat (first | apply J | apply L | apply M)); exact (P (D (p := ⟨gb610, 1, none⟩) (D (p := ⟨gb610, 0, none⟩) (I HO595.out BK610.out (by decide)) (fun _ hk => hk.2) (.slice Ao81 t604.length co81)) (fun _ hk => hk.2) (.slice Ao85 t607.length co85)) (fun _ h_ => h_.1))) hb); have n1_ := G (B (by (with_reducible repeat (first | apply J | apply L | apply M)); exact (P (D (p := ⟨gb610, 1, none⟩) (D (p := ⟨gb610, 0, none⟩) (I HO598.out BK610.out (by decide)) (fun _ hk => hk.2) (.slice Ao81 t604.length co81)) (fun _ hk => hk.2) (.slice Ao85 t607.length co85)) (fun _ h_ => h_.1))) hb); have n2_ := G (Kd.R_elder' (by (with_reducible repeat (first | apply J | apply L | apply M)); exact (P (D (p := ⟨gb610, 1, none⟩) (D (p := ⟨gb610, 0, none⟩) (I HO601.out BK610.out (by decide)) (fun _ hk => hk.2) (.slice Ao81 t604.length co81)) (fun _ hk => hk.2) (.slice Ao85 t607.length co85)) (fun _ h_ => h_.1))) (Kd.R_base ho0) hb); have n3_ := G (B (by (with_reducible repeat (first | apply J | apply L | apply M)); exact (P (D (p := ⟨gb610, 1, none⟩) (D (p := ⟨gb610, 0, none⟩) (I HO606.out BK610.out (by decide)) (fun _ hk => hk.2) (.slice Ao81 t604.length co81)) (fun _ hk => hk.2) (.slice Ao85 t607.length co85)) (fun _ h_ => h_.1))) hb); have n4_ := G (B (by (with_reducible repeat (first | apply J | apply L | apply M)); exact (P (D (p := ⟨gb610, 1, none⟩) (D (p := ⟨gb610, 0, none⟩) (I HO609.out BK610.out (by decide)) (fun _ hk => hk.2) (.slice Ao81 t604.length co81)) (fun _ hk => hk.2) (.slice Ao85 t607.length co85)) (fun _ h_ => h_.1))) hb); have n5_ := G (Kd.R_lower (GL ho0 (Kd.R_lt (by (with_reducible repeat (first | apply J | apply L | apply M)); exact (P (D (p := ⟨gb610, 1, none⟩) (D (p := ⟨gb610, 0, none⟩) (I HO601.out BK610.out (by decide)) (fun _ hk => hk.2) (.slice Ao81 t604.length co81)) (fun _ hk => hk.2) (.slice Ao85 t607.length co85)) (fun _ h_ => h_.1))))) (GM (by repeat (first | (with_reducible first | exact HB.out | apply Z | apply T | apply Y | refine O ?_ GE589.out | refine O ?_ GE590.out | refine O ?_ GE610.out) | exact HB.out)))); have n6_ := G (F (g := gb589) (o := .cells #[.slice A0_0 l0_0.length c0_0, .slice A0_1 l0_1.length c0_1] 33 (0, 0)) (by (with_reducible repeat (first | refine U ?_ _ | refine X ?_ | refine V ?_ _)); refine blk_far ?_ NB589_610.out _; (with_reducible repeat (first | refine U ?_ _ | refine X ?_ | refine V ?_ _)); refine blk_far ?_ NB589_610.out _; (with_reducible repeat (first | refine U ?_ _ | refine X ?_ | refine V ?_ _)); exact BK589.out) hb); have n7_ := G (F (g := gb590) (o := .cells #[.slice A1_0 l1_0.length c1_0, .int .i64 a1_1] 24 (0, 0)) (by (with_reducible repeat (first | refine U ?_ _ | refine X ?_ | refine V ?_ _)); refine blk_far ?_ NB590_610.out _; (with_reducible repeat (first | refine U ?_ _ | refine X ?_ | refine V ?_ _)); refine blk_far ?_ NB590_610.out _; (with_reducible repeat (first | refine U ?_ _ | refine X ?_ | refine V ?_ _)); exact BK590.out) hb); have n8_ := G (F (g := gb610) (o := .cells #[.slice Ao81 t604.length co81, .slice Ao85 t607.length co85] 39 (0, 0)) (by (with_reducible repeat (first | refine U ?_ _ | refine X ?_ | refine V ?_ _)); refine blk_put (cs := #[.slice Ao81 t604.length co81, .slice none 0 0]) ?_ 1 _ rfl; (with_reducible repeat (first | refine U ?_ _ | refine X ?_ | refine V ?_ _)); refine blk_put (cs := #[.slice none 0 0, .slice none 0 0]) ?_ 0 _ rfl; (with_reducible repeat (first | refine U ?_ _ | refine X ?_ | refine V ?_ _)); exact BK610.out) hb); have n9_ := G (GN (by repeat (first | (with_reducible first | exact HB.out | apply Z | apply T | apply Y | refine O ?_ GE589.out | refine O ?_ GE590.out | refine O ?_ GE610.out) | exact HB.out)) hb); clear HO595; clear HO598; clear HO601; clear HO606; clear HO609; clear BK589; clear BK590; clear BK610; clear HB; have HO595 := n0_; have HO598 := n1_; have HO601 := n2_; have HO606 := n3_; have HO609 := n4_; have HO613 := n5_; have BK589 := n6_; have BK590 := n7_; have BK610 := n8_; have HB := n9_; clear n0_ n1_ n2_ n3_ n4_ n5_ n6_ n7_ n8_ n9_; (try clear hb); (try clear hb2); (try clear hk); (try clear hi); (try clear ho0)) | ((with_reducible refine gate_dst (N := 8) rfl ?_); refine box_event ?hg (N := 8) ?hd (cs := #[.slice none 0 0, .int .i64 0]) (t := 27) ?hr ?_; (case hd => rfl); (case hg => rfl); (case hr => first | (go_simp; done) | (go_simp; rfl)); intro gb615 hg w88 hbox hb; have n0_ := G (B (by (with_reducible repeat (first | apply J | apply L | apply M)); exact HO595.out) hb); have n1_ := G (B (by (with_reducible repeat (first | apply J | apply L | apply M)); exact HO598.out) hb); have n2_ := G (B (by (with_reducible repeat (first | apply J | apply L | apply M)); exact HO601.out) hb); have n3_ := G (B (by (with_reducible repeat (first | apply J | apply L | apply M)); exact HO606.out) hb); have n4_ := G (B (by (with_reducible repeat (first | apply J | apply L | apply M)); exact HO609.out) hb); have n5_ := G (B (by (with_reducible repeat (first | apply J | apply L | apply M)); exact HO613.out) hb); have n6_ := G (F (g := gb589) (o := .cells #[.slice A0_0 l0_0.length c0_0, .slice A0_1 l0_1.length c0_1] 33 (0, 0)) (by (with_reducible repeat (first | refine U ?_ _ | refine X ?_ | refine V ?_ _)); exact BK589.out) hb); have n7_ := G (F (g := gb590) (o := .cells #[.slice A1_0 l1_0.length c1_0, .int .i64 a1_1] 24 (0, 0)) (by (with_reducible repeat (first | refine U ?_ _ | refine X ?_ | refine V ?_ _)); exact BK590.out) hb); have n8_ := G (F (g := gb610) (o := .cells #[.slice Ao81 t604.length co81, .slice Ao85 t607.length co85] 39 (0, 0)) (by (with_reducible repeat (first | refine U ?_ _ | refine X ?_ | refine V ?_ _)); exact BK610.out) hb); have n9_ := G (GN (by repeat (first | (with_reducible first | exact HB.out | apply Z | apply T | apply Y | refine O ?_ GE589.out | refine O ?_ GE590.out | refine O ?_ GE610.out) | exact HB.out)) hb); have n10_ := G (hbox); have n11_ := G ((by rw [hg]; exact (GM (by repeat (first | (with_reducible first | exact HB.out | apply Z | apply T | apply Y | refine O ?_ GE589.out | refine O ?_ GE590.out | refine O ?_ GE610.out) | exact HB.out))) : w.heap.size ≤ gb615)); have n12_ := G ((by rw [hg]; exact (GM (by repeat (first | (with_reducible first | exact HB.out | apply Z | apply T | apply Y | refine O ?_ GE589.out | refine O ?_ GE590.out | refine O ?_ GE610.out) | exact HB.out))) : w.heap.size ≤ gb615)); have n13_ := G ((by rw [hg]; exact Nat.ne_of_lt (blk_lt (g := gb589) (o := .cells #[.slice A0_0 l0_0.length c0_0, .slice A0_1 l0_1.length c0_1] 33 (0, 0)) (by (with_reducible repeat (first | refine U ?_ _ | refine X ?_ | refine V ?_ _)); exact BK589.out)) : gb589 ≠ gb615)); have n14_ := G ((by rw [hg]; exact Nat.ne_of_gt (blk_lt (g := gb589) (o := .cells #[.slice A0_0 l0_0.length c0_0, .slice A0_1 l0_1.length c0_1] 33 (0, 0)) (by (with_reducible repeat (first | refine U ?_ _ | refine X ?_ | refine V ?_ _)); exact BK589.out)) : gb615 ≠ gb589)); have n15_ := G ((by rw [hg]; exact Nat.ne_of_lt (blk_lt (g := gb590) (o := .cells #[.slice A1_0 l1_0.length c1_0, .int .i64 a1_1] 24 (0, 0)) (by (with_reducible repeat (first | refine U ?_ _ | refine X ?_ | refine V ?_ _)); exact BK590.out)) : gb590 ≠ gb615)); have n16_ := G ((by rw [hg]; exact Nat.ne_of_gt (blk_lt (g := gb590) (o := .cells #[.slice A1_0 l1_0.length c1_0, .int .i64 a1_1] 24 (0, 0)) (by (with_reducible repeat (first | refine U ?_ _ | refine X ?_ | refine V ?_ _)); exact BK590.out)) : gb615 ≠ gb590)); have n17_ := G ((by rw [hg]; exact Nat.ne_of_lt (blk_lt (g := gb610) (o := .cells #[.slice Ao81 t604.length co81, .slice Ao85 t607.length co85] 39 (0, 0)) (by (with_reducible repeat (first | refine U ?_ _ | refine X ?_ | refine V ?_ _)); exact BK610.out)) : gb610 ≠ gb615)); have n18_ := G ((by rw [hg]; exact Nat.ne_of_gt (blk_lt (g := gb610) (o := .cells #[.slice Ao81 t604.length co81, .slice Ao85 t607.length co85] 39 (0, 0)) (by (with_reducible repeat (first | refine U ?_ _ | refine X ?_ | refine V ?_ _)); exact BK610.out)) : gb615 ≠ gb610)); clear HO595; clear HO598; clear HO601; clear HO606; clear HO609; clear HO613; clear BK589; clear BK590; clear BK610; clear HB; have HO595 := n0_; have HO598 := n1_; have HO601 := n2_; have HO606 := n3_; have HO609 := n4_; have HO613 := n5_; have BK589 := n6_; have BK590 := n7_; have BK610 := n8_; have HB := n9_; have BK615 := n10_; have GW615 := n11_; have GE615 := n12_; have NB589_615 := n13_; have NB615_589 := n14_; have NB590_615 := n15_; have NB615_590 := n16_; have NB610_615 := n17_; have NB615_610 := n18_; clear n0_ n1_ n2_ n3_ n4_ n5_ n6_ n7_ n8_ n9_ n10_ n11_ n12_ n13_ n14_ n15_ n16_ n17_ n18_; clear hb hbox hg; obtain ⟨Ao89, co89, eo89⟩ := Kd.R_slice HO613.out; subst eo89; have hnb90 := NB615_589.out; have hnc90 := NB589_615.out; have hnb91 := NB615_590.out; have hnc91 := NB590_615.out; have hnb92 := NB615_610.out; have hnc92 := NB610_615.out; have hcz93_0 : w88.cell? ⟨gb615, 0, none⟩ = some (.slice none 0 0) := (E BK615.out 0).trans rfl; have hcz93_1 : w88.cell? ⟨gb615, 1, none⟩ = some (.int .i64 0) := (E BK615.out 1).trans rfl; have hfz93_0 := GT BK615.out 0; have hfz93_1 := GT BK615.out 1; have hcz94_0 : w88.cell? ⟨gb610, 0, none⟩ = some (.slice Ao81 t604.length co81) := (E BK610.out 0).trans rfl; have hcz94_1 : w88.cell? ⟨gb610, 1, none⟩ = some (.slice Ao85 t607.length co85) := (E BK610.out 1).trans rfl; have hfz94_0 := GT BK610.out 0; have hfz94_1 := GT BK610.out 1) | ((with_reducible refine gate_callee (f := 40) rfl ?_); refine goesL_ (some 31) rfl rfl Try.func40 (by kernel_rfl) rfl #[.agg #[.slice Ao81 t604.length co81, .slice Ao85 t607.length co85], .agg #[.slice Ao89 t611.length co89, .int .i64 t614]] rfl (by (try simp only [List.map_toArray, List.map_cons, List.map_nil]); first | done | rfl | (simp only [List.length_drop, List.length_take]; rfl)) ?_; (with_reducible refine (impl_ValidDensities.calls k _ _ t604 _ _ t607 _ _ t611 t614 t616 _ ?side1 ?side2 ?side3 ?side4 ?side5 ?side6 A24.out).mono ?_); (case side1 => refine (Kd.R_reads' (e := 82) (base := w.heap.size) (ok := fun k_ => (True ∧ some k_ ≠ (.slice Ao74 t593.length co74 : Value).ownBlock)) (n := t604.length) (c := co81) ?_).2.2; exact (by (with_reducible repeat (first | apply J | apply L | apply M)); exact (P (D (p := ⟨gb615, 1, none⟩) (D (p := ⟨gb615, 0, none⟩) (I HO606.out BK615.out (by decide)) (fun _ hk => hk.2) (.slice Ao89 t611.length co89)) (fun _ hk => hk.2) (.int .i64 t614)) (fun _ h_ => h_.1)))); (case side2 => exact (Kd.R_reads' HO606.out).2.1); (case side3 => refine (Kd.R_reads' (e := 84) (base := w.heap.size) (ok := fun k_ => (True ∧ some k_ ≠ (.slice Ao75 t596.length co75 : Value).ownBlock)) (n := t607.length) (c := co85) ?_).2.2; exact (by (with_reducible repeat (first | apply J | apply L | apply M)); exact (P (D (p := ⟨gb615, 1, none⟩) (D (p := ⟨gb615, 0, none⟩) (I HO609.out BK615.out (by decide)) (fun _ hk => hk.2) (.slice Ao89 t611.length co89)) (fun _ hk => hk.2) (.int .i64 t614)) (fun _ h_ => h_.1)))); (case side4 => exact (Kd.R_reads' HO609.out).2.1); (case side5 => refine (Kd.R_reads' (e := 2) (base := w.heap.size) (ok := fun k_ => (True ∧ some k_ ≠ (.slice Ao76 t599.length co76 : Value).ownBlock)) (n := t611.length) (c := co89) ?_).2.2; exact (by (with_reducible repeat (first | apply J | apply L | apply M)); exact (P (D (p := ⟨gb615, 1, none⟩) (D (p := ⟨gb615, 0, none⟩) (I HO613.out BK615.out (by decide)) (fun _ hk => hk.2) (.slice Ao89 t611.length co89)) (fun _ hk => hk.2) (.int .i64 t614)) (fun _ h_ => h_.1)))); (case side6 => exact (Kd.R_reads' HO613.out).2.1); rintro e w95 ⟨rfl, hb⟩; refine ⟨_, rfl, ?_⟩; have n0_ := G (B (by (with_reducible repeat (first | apply J | apply L | apply M)); exact (P (D (p := ⟨gb615, 1, none⟩) (D (p := ⟨gb615, 0, none⟩) (I HO595.out BK615.out (by decide)) (fun _ hk => hk.2) (.slice Ao89 t611.length co89)) (fun _ hk => hk.2) (.int .i64 t614)) (fun _ h_ => h_.1))) hb); have n1_ := G (B (by (with_reducible repeat (first | apply J | apply L | apply M)); exact (P (D (p := ⟨gb615, 1, none⟩) (D (p := ⟨gb615, 0, none⟩) (I HO598.out BK615.out (by decide)) (fun _ hk => hk.2) (.slice Ao89 t611.length co89)) (fun _ hk => hk.2) (.int .i64 t614)) (fun _ h_ => h_.1))) hb); have n2_ := G (B (by (with_reducible repeat (first | apply J | apply L | apply M)); exact (P (D (p := ⟨gb615, 1, none⟩) (D (p := ⟨gb615, 0, none⟩) (I HO601.out BK615.out (by decide)) (fun _ hk => hk.2) (.slice Ao89 t611.length co89)) (fun _ hk => hk.2) (.int .i64 t614)) (fun _ h_ => h_.1))) hb); have n3_ := G (B (by (with_reducible repeat (first | apply J | apply L | apply M)); exact (P (D (p := ⟨gb615, 1, none⟩) (D (p := ⟨gb615, 0, none⟩) (I HO606.out BK615.out (by decide)) (fun _ hk => hk.2) (.slice Ao89 t611.length co89)) (fun _ hk => hk.2) (.int .i64 t614)) (fun _ h_ => h_.1))) hb); have n4_ := G (B (by (with_reducible repeat (first | apply J | apply L | apply M)); exact (P (D (p := ⟨gb615, 1, none⟩) (D (p := ⟨gb615, 0, none⟩) (I HO609.out BK615.out (by decide)) (fun _ hk => hk.2) (.slice Ao89 t611.length co89)) (fun _ hk => hk.2) (.int .i64 t614)) (fun _ h_ => h_.1))) hb); have n5_ := G (B (by (with_reducible repeat (first | apply J | apply L | apply M)); exact (P (D (p := ⟨gb615, 1, none⟩) (D (p := ⟨gb615, 0, none⟩) (I HO613.out BK615.out (by decide)) (fun _ hk => hk.2) (.slice Ao89 t611.length co89)) (fun _ hk => hk.2) (.int .i64 t614)) (fun _ h_ => h_.1))) hb); have n6_ := G (F (g := gb589) (o := .cells #[.slice A0_0 l0_0.length c0_0, .slice A0_1 l0_1.length c0_1] 33 (0, 0)) (by (with_reducible repeat (first | refine U ?_ _ | refine X ?_ | refine V ?_ _)); refine blk_far ?_ NB589_615.out _; (with_reducible repeat (first | refine U ?_ _ | refine X ?_ | refine V ?_ _)); refine blk_far ?_ NB589_615.out _; (with_reducible repeat (first | refine U ?_ _ | refine X ?_ | refine V ?_ _)); exact BK589.out) hb); have n7_ := G (F (g := gb590) (o := .cells #[.slice A1_0 l1_0.length c1_0, .int .i64 a1_1] 24 (0, 0)) (by (with_reducible repeat (first | refine U ?_ _ | refine X ?_ | refine V ?_ _)); refine blk_far ?_ NB590_615.out _; (with_reducible repeat (first | refine U ?_ _ | refine X ?_ | refine V ?_ _)); refine blk_far ?_ NB590_615.out _; (with_reducible repeat (first | refine U ?_ _ | refine X ?_ | refine V ?_ _)); exact BK590.out) hb); have n8_ := G (F (g := gb610) (o := .cells #[.slice Ao81 t604.length co81, .slice Ao85 t607.length co85] 39 (0, 0)) (by (with_reducible repeat (first | refine U ?_ _ | refine X ?_ | refine V ?_ _)); refine blk_far ?_ NB610_615.out _; (with_reducible repeat (first | refine U ?_ _ | refine X ?_ | refine V ?_ _)); refine blk_far ?_ NB610_615.out _; (with_reducible repeat (first | refine U ?_ _ | refine X ?_ | refine V ?_ _)); exact BK610.out) hb); have n9_ := G (F (g := gb615) (o := .cells #[.slice Ao89 t611.length co89, .int .i64 t614] 27 (0, 0)) (by (with_reducible repeat (first | refine U ?_ _ | refine X ?_ | refine V ?_ _)); refine blk_put (cs := #[.slice Ao89 t611.length co89, .int .i64 0]) ?_ 1 _ rfl; (with_reducible repeat (first | refine U ?_ _ | refine X ?_ | refine V ?_ _)); refine blk_put (cs := #[.slice none 0 0, .int .i64 0]) ?_ 0 _ rfl; (with_reducible repeat (first | refine U ?_ _ | refine X ?_ | refine V ?_ _)); exact BK615.out) hb); have n10_ := G (GN (by repeat (first | (with_reducible first | exact HB.out | apply Z | apply T | apply Y | refine O ?_ GE589.out | refine O ?_ GE590.out | refine O ?_ GE610.out | refine O ?_ GE615.out) | exact HB.out)) hb); clear HO595; clear HO598; clear HO601; clear HO606; clear HO609; clear HO613; clear BK589; clear BK590; clear BK610; clear BK615; clear HB; have HO595 := n0_; have HO598 := n1_; have HO601 := n2_; have HO606 := n3_; have HO609 := n4_; have HO613 := n5_; have BK589 := n6_; have BK590 := n7_; have BK610 := n8_; have BK615 := n9_; have HB := n10_; clear n0_ n1_ n2_ n3_ n4_ n5_ n6_ n7_ n8_ n9_ n10_; (try clear hb); (try clear hb2); (try clear hk); (try clear hi)))
      have n0_ := G (M HO595.out)
      have n1_ := G (M HO598.out)
      have n2_ := G (M HO601.out)
      have n3_ := G (M HO606.out)
      have n4_ := G (M HO609.out)
      have n5_ := G (M HO613.out)
      have n6_ := G (X BK589.out)
      have n7_ := G (X BK590.out)
      have n8_ := G (X BK610.out)
      have n9_ := G (X BK615.out)
      have n10_ := G (Y HB.out)
      clear HO595
      clear HO598
      clear HO601
      clear HO606
      clear HO609
      clear HO613
      clear BK589
      clear BK590
      clear BK610
      clear BK615
      clear HB
      have HO595 := n0_
      have HO598 := n1_
      have HO601 := n2_
      have HO606 := n3_
      have HO609 := n4_
      have HO613 := n5_
      have BK589 := n6_
      have BK590 := n7_
      have BK610 := n8_
      have BK615 := n9_
      have HB := n10_
      clear n0_ n1_ n2_ n3_ n4_ n5_ n6_ n7_ n8_ n9_ n10_
      refine start_ (n := 5) (S := fun w' => w'.cell? ⟨gb610, 0, none⟩ = some (.slice Ao81 t604.length co81) ∧ w'.cell? ⟨gb610, 1, none⟩ = some (.slice Ao85 t607.length co85) ∧ w'.cell? ⟨gb589, 0, none⟩ = some (.slice A0_0 l0_0.length c0_0) ∧ w'.cell? ⟨gb589, 1, none⟩ = some (.slice A0_1 l0_1.length c0_1)) (ds := []) #[n', n', n', n', n'] (by kernel_rfl) rfl rfl ⟨(E BK610.out 0).trans rfl, (E BK610.out 1).trans rfl, (E BK589.out 0).trans rfl, (E BK589.out 1).trans rfl⟩ (fun hHeld => ?_)
      generalize w95.drew = w96 at HO595 HO598 HO601 HO606 HO609 HO613 BK589 BK590 BK610 BK615 HB hHeld ⊢
      refine take_ (i := 0) (N := some 35) (v := ?_) (a' := ?_) #[y', n', n', n', n'] rfl rfl (by kernel_rfl) (fun _ _ _ h => h) (Or.inl ⟨by rfl, ?_⟩) hHeld ?_ ?_
      rotate_left
      ·rintro w' ⟨s0, s1, s2, s3⟩
       go_simp
       with_reducible rfl
      rotate_left
      ·simp only [Act.put, z1', z2', z3', i64_w, i32_w]
       rfl
      refine take_ (i := 1) (N := some 36) (v := ?_) (a' := ?_) #[y', y', n', n', n'] rfl rfl (by kernel_rfl) (fun _ _ _ h => h) (Or.inl ⟨by rfl, ?_⟩) hHeld ?_ ?_
      rotate_left
      ·rintro w' ⟨s0, s1, s2, s3⟩
       go_simp
       with_reducible rfl
      rotate_left
      ·simp only [Act.put, z1', z2', z3', i64_w, i32_w]
       rfl
      refine one_ (i := 2) (N := some 37) #[y', y', y', n', n'] rfl rfl (by kernel_rfl) (by decide) (fun K hK => ?_)
      refine goes_ Try.func21 (by kernel_rfl) rfl #[.agg #[.slice A0_0 l0_0.length c0_0, .slice A0_1 l0_1.length c0_1]] (by rfl) rfl rfl (by (try simp only [List.map_toArray, List.map_cons, List.map_nil]); first | done | rfl | (simp only [List.length_drop, List.length_take]; rfl)) ?_
      with_reducible refine (laws_toFrame.calls k _ _ l0_0 _ _ l0_1 t617 t620 _ ?side1 ?side2 ?side3 ?side4 A58.out).mono ?_
      (case side1 => repeat (first | exact (GO HR0_0.out HB.out) | (with_reducible refine R ?_ _) | (with_reducible refine GG ?_ _) | (with_reducible refine GJ ?_)))
      (case side2 => exact HC0_0.out)
      (case side3 => repeat (first | exact (GO HR0_1.out HB.out) | (with_reducible refine R ?_ _) | (with_reducible refine GG ?_ _) | (with_reducible refine GJ ?_)))
      (case side4 => exact HC0_1.out)
      rintro e w97 ⟨v618, v621, rfl, ho0, ho1, hb⟩
      refine ⟨_, rfl, ?_⟩
      have n0_ := G (Kd.R_elder' (by (with_reducible repeat (first | apply J | apply L | apply M)); exact HO595.out) (Kd.R_base ho0) hb)
      have n1_ := G (Kd.R_elder' (by (with_reducible repeat (first | apply J | apply L | apply M)); exact HO598.out) (Kd.R_base ho1) hb)
      have n2_ := G (B (by (with_reducible repeat (first | apply J | apply L | apply M)); exact HO601.out) hb)
      have n3_ := G (Kd.R_elder' (by (with_reducible repeat (first | apply J | apply L | apply M)); exact HO606.out) (Kd.R_base ho0) hb)
      have n4_ := G (Kd.R_elder' (by (with_reducible repeat (first | apply J | apply L | apply M)); exact HO609.out) (Kd.R_base ho1) hb)
      have n5_ := G (B (by (with_reducible repeat (first | apply J | apply L | apply M)); exact HO613.out) hb)
      have n6_ := G (Kd.R_lower (GL (GL ho0 (Kd.R_lt (by (with_reducible repeat (first | apply J | apply L | apply M)); exact HO595.out))) (Kd.R_lt (by (with_reducible repeat (first | apply J | apply L | apply M)); exact HO606.out))) (GM (by repeat (first | (with_reducible first | exact HB.out | apply Z | apply T | apply Y | refine O ?_ GE589.out | refine O ?_ GE590.out | refine O ?_ GE610.out | refine O ?_ GE615.out) | exact HB.out))))
      have n7_ := G (Kd.R_lower (GL (GL ho1 (Kd.R_lt (by (with_reducible repeat (first | apply J | apply L | apply M)); exact HO598.out))) (Kd.R_lt (by (with_reducible repeat (first | apply J | apply L | apply M)); exact HO609.out))) (GM (by repeat (first | (with_reducible first | exact HB.out | apply Z | apply T | apply Y | refine O ?_ GE589.out | refine O ?_ GE590.out | refine O ?_ GE610.out | refine O ?_ GE615.out) | exact HB.out))))
      have n8_ := G (F (g := gb589) (o := .cells #[.slice A0_0 l0_0.length c0_0, .slice A0_1 l0_1.length c0_1] 33 (0, 0)) (by (with_reducible repeat (first | refine U ?_ _ | refine X ?_ | refine V ?_ _)); exact BK589.out) hb)
      have n9_ := G (F (g := gb590) (o := .cells #[.slice A1_0 l1_0.length c1_0, .int .i64 a1_1] 24 (0, 0)) (by (with_reducible repeat (first | refine U ?_ _ | refine X ?_ | refine V ?_ _)); exact BK590.out) hb)
      have n10_ := G (F (g := gb610) (o := .cells #[.slice Ao81 t604.length co81, .slice Ao85 t607.length co85] 39 (0, 0)) (by (with_reducible repeat (first | refine U ?_ _ | refine X ?_ | refine V ?_ _)); exact BK610.out) hb)
      have n11_ := G (F (g := gb615) (o := .cells #[.slice Ao89 t611.length co89, .int .i64 t614] 27 (0, 0)) (by (with_reducible repeat (first | refine U ?_ _ | refine X ?_ | refine V ?_ _)); exact BK615.out) hb)
      have n12_ := G (GN (by repeat (first | (with_reducible first | exact HB.out | apply Z | apply T | apply Y | refine O ?_ GE589.out | refine O ?_ GE590.out | refine O ?_ GE610.out | refine O ?_ GE615.out) | exact HB.out)) hb)
      clear HO595
      clear HO598
      clear HO601
      clear HO606
      clear HO609
      clear HO613
      clear BK589
      clear BK590
      clear BK610
      clear BK615
      clear HB
      have HO595 := n0_
      have HO598 := n1_
      have HO601 := n2_
      have HO606 := n3_
      have HO609 := n4_
      have HO613 := n5_
      have HO619 := n6_
      have HO622 := n7_
      have BK589 := n8_
      have BK590 := n9_
      have BK610 := n10_
      have BK615 := n11_
      have HB := n12_
      clear n0_ n1_ n2_ n3_ n4_ n5_ n6_ n7_ n8_ n9_ n10_ n11_ n12_
      (try clear hb)
      (try clear hb2)
      (try clear hk)
      (try clear hi)
      (try clear ho0)
      (try clear ho1)
      obtain ⟨Ao98, co98, eo98⟩ := Kd.R_slice HO619.out
      (first | subst eo98 | (injection eo98 with f1_ f2_ f3_; have f4_ := f1_.symm; have f5_ := f3_.symm; clear f1_ f2_ f3_; subst f4_; subst f5_))
      obtain ⟨Ao99, co99, eo99⟩ := Kd.R_slice HO622.out
      (first | subst eo99 | (injection eo99 with f1_ f2_ f3_; have f4_ := f1_.symm; have f5_ := f3_.symm; clear f1_ f2_ f3_; subst f4_; subst f5_))
      refine hK.out _ _ ⟨(E BK610.out 0).trans rfl, (E BK610.out 1).trans rfl, (E BK589.out 0).trans rfl, (E BK589.out 1).trans rfl⟩ (fun hHeld => ?_)
      clear hK K
      refine norm_ (a' := ?_) ?_ ?_
      rotate_left
      ·show Act.put _ (some 37) _ = _
       simp only [Act.put, z1', z2', z3', i64_w, i32_w]
       rfl
      refine one_ (i := 3) (N := some 38) #[y', y', y', y', n'] rfl rfl (by kernel_rfl) (by decide) (fun K hK => ?_)
      refine goes_ Try.func23 (by kernel_rfl) rfl #[.agg #[.slice Ao81 t604.length co81, .slice Ao85 t607.length co85], .agg #[.slice Ao98 t617.length co98, .slice Ao99 t620.length co99]] (by rfl) rfl rfl (by (try simp only [List.map_toArray, List.map_cons, List.map_nil]); first | done | rfl | (simp only [List.length_drop, List.length_take]; rfl)) ?_
      with_reducible refine (laws_eqFrame.calls k _ _ t604 _ _ t607 _ _ t617 _ _ t620 true _ ?side1 ?side2 ?side3 ?side4 ?side5 ?side6 ?side7 ?side8 A59.out).mono ?_
      (case side1 => repeat (first | exact (Kd.R_reads' HO606.out).2.2 | (with_reducible refine R ?_ _) | (with_reducible refine GG ?_ _) | (with_reducible refine GJ ?_)))
      (case side2 => exact (Kd.R_reads' HO606.out).2.1)
      (case side3 => repeat (first | exact (Kd.R_reads' HO609.out).2.2 | (with_reducible refine R ?_ _) | (with_reducible refine GG ?_ _) | (with_reducible refine GJ ?_)))
      (case side4 => exact (Kd.R_reads' HO609.out).2.1)
      (case side5 => repeat (first | exact (Kd.R_reads' HO619.out).2.2 | (with_reducible refine R ?_ _) | (with_reducible refine GG ?_ _) | (with_reducible refine GJ ?_)))
      (case side6 => exact (Kd.R_reads' HO619.out).2.1)
      (case side7 => repeat (first | exact (Kd.R_reads' HO622.out).2.2 | (with_reducible refine R ?_ _) | (with_reducible refine GG ?_ _) | (with_reducible refine GJ ?_)))
      (case side8 => exact (Kd.R_reads' HO622.out).2.1)
      rintro e w100 ⟨rfl, hb⟩
      refine ⟨_, rfl, ?_⟩
      have n0_ := G (B (by (with_reducible repeat (first | apply J | apply L | apply M)); exact HO595.out) hb)
      have n1_ := G (B (by (with_reducible repeat (first | apply J | apply L | apply M)); exact HO598.out) hb)
      have n2_ := G (B (by (with_reducible repeat (first | apply J | apply L | apply M)); exact HO601.out) hb)
      have n3_ := G (B (by (with_reducible repeat (first | apply J | apply L | apply M)); exact HO606.out) hb)
      have n4_ := G (B (by (with_reducible repeat (first | apply J | apply L | apply M)); exact HO609.out) hb)
      have n5_ := G (B (by (with_reducible repeat (first | apply J | apply L | apply M)); exact HO613.out) hb)
      have n6_ := G (B (by (with_reducible repeat (first | apply J | apply L | apply M)); exact HO619.out) hb)
      have n7_ := G (B (by (with_reducible repeat (first | apply J | apply L | apply M)); exact HO622.out) hb)
      have n8_ := G (F (g := gb589) (o := .cells #[.slice A0_0 l0_0.length c0_0, .slice A0_1 l0_1.length c0_1] 33 (0, 0)) (by (with_reducible repeat (first | refine U ?_ _ | refine X ?_ | refine V ?_ _)); exact BK589.out) hb)
      have n9_ := G (F (g := gb590) (o := .cells #[.slice A1_0 l1_0.length c1_0, .int .i64 a1_1] 24 (0, 0)) (by (with_reducible repeat (first | refine U ?_ _ | refine X ?_ | refine V ?_ _)); exact BK590.out) hb)
      have n10_ := G (F (g := gb610) (o := .cells #[.slice Ao81 t604.length co81, .slice Ao85 t607.length co85] 39 (0, 0)) (by (with_reducible repeat (first | refine U ?_ _ | refine X ?_ | refine V ?_ _)); exact BK610.out) hb)
      have n11_ := G (F (g := gb615) (o := .cells #[.slice Ao89 t611.length co89, .int .i64 t614] 27 (0, 0)) (by (with_reducible repeat (first | refine U ?_ _ | refine X ?_ | refine V ?_ _)); exact BK615.out) hb)
      have n12_ := G (GN (by repeat (first | (with_reducible first | exact HB.out | apply Z | apply T | apply Y | refine O ?_ GE589.out | refine O ?_ GE590.out | refine O ?_ GE610.out | refine O ?_ GE615.out) | exact HB.out)) hb)
      clear HO595
      clear HO598
      clear HO601
      clear HO606
      clear HO609
      clear HO613
      clear HO619
      clear HO622
      clear BK589
      clear BK590
      clear BK610
      clear BK615
      clear HB
      have HO595 := n0_
      have HO598 := n1_
      have HO601 := n2_
      have HO606 := n3_
      have HO609 := n4_
      have HO613 := n5_
      have HO619 := n6_
      have HO622 := n7_
      have BK589 := n8_
      have BK590 := n9_
      have BK610 := n10_
      have BK615 := n11_
      have HB := n12_
      clear n0_ n1_ n2_ n3_ n4_ n5_ n6_ n7_ n8_ n9_ n10_ n11_ n12_
      (try clear hb)
      (try clear hb2)
      (try clear hk)
      (try clear hi)
      refine hK.out _ _ ⟨(E BK610.out 0).trans rfl, (E BK610.out 1).trans rfl, (E BK589.out 0).trans rfl, (E BK589.out 1).trans rfl⟩ (fun hHeld => ?_)
      clear hK K
      refine norm_ (a' := ?_) ?_ ?_
      rotate_left
      ·show Act.put _ (some 38) _ = _
       simp only [Act.put, z1', z2', z3', i64_w, i32_w]
       rfl
      refine pure_ (i := 4) (N := some 39) (v := ?_) (a' := ?_) #[y', y', y', y', y'] rfl rfl (by kernel_rfl) (fun _ _ _ h => h) (Or.inl ⟨by rfl, ?_⟩) ?_ ?_
      rotate_left
      ·intro w'
       go_simp
       with_reducible rfl
      rotate_left
      ·simp only [Act.put, z1', z2', z3', i64_w, i32_w]
       rfl
      refine done_ (by kernel_rfl) ?_
      try go_wp2
      have n0_ := G (M HO595.out)
      have n1_ := G (M HO598.out)
      have n2_ := G (M HO601.out)
      have n3_ := G (M HO606.out)
      have n4_ := G (M HO609.out)
      have n5_ := G (M HO613.out)
      have n6_ := G (M HO619.out)
      have n7_ := G (M HO622.out)
      have n8_ := G (X BK589.out)
      have n9_ := G (X BK590.out)
      have n10_ := G (X BK610.out)
      have n11_ := G (X BK615.out)
      have n12_ := G (Y HB.out)
      clear HO595
      clear HO598
      clear HO601
      clear HO606
      clear HO609
      clear HO613
      clear HO619
      clear HO622
      clear BK589
      clear BK590
      clear BK610
      clear BK615
      clear HB
      have HO595 := n0_
      have HO598 := n1_
      have HO601 := n2_
      have HO606 := n3_
      have HO609 := n4_
      have HO613 := n5_
      have HO619 := n6_
      have HO622 := n7_
      have BK589 := n8_
      have BK590 := n9_
      have BK610 := n10_
      have BK615 := n11_
      have HB := n12_
      clear n0_ n1_ n2_ n3_ n4_ n5_ n6_ n7_ n8_ n9_ n10_ n11_ n12_
      refine start_ (n := 5) (S := fun w' => w'.cell? ⟨gb615, 0, none⟩ = some (.slice Ao89 t611.length co89) ∧ w'.cell? ⟨gb615, 1, none⟩ = some (.int .i64 t614) ∧ w'.cell? ⟨gb590, 0, none⟩ = some (.slice A1_0 l1_0.length c1_0) ∧ w'.cell? ⟨gb590, 1, none⟩ = some (.int .i64 a1_1)) (ds := []) #[n', n', n', n', n'] (by kernel_rfl) rfl rfl ⟨(E BK615.out 0).trans rfl, (E BK615.out 1).trans rfl, (E BK590.out 0).trans rfl, (E BK590.out 1).trans rfl⟩ (fun hHeld => ?_)
      generalize w100.drew = w101 at HO595 HO598 HO601 HO606 HO609 HO613 HO619 HO622 BK589 BK590 BK610 BK615 HB hHeld ⊢
      refine take_ (i := 0) (N := some 40) (v := ?_) (a' := ?_) #[y', n', n', n', n'] rfl rfl (by kernel_rfl) (fun _ _ _ h => h) (Or.inl ⟨by rfl, ?_⟩) hHeld ?_ ?_
      rotate_left
      ·rintro w' ⟨s0, s1, s2, s3⟩
       go_simp
       with_reducible rfl
      rotate_left
      ·simp only [Act.put, z1', z2', z3', i64_w, i32_w]
       rfl
      refine take_ (i := 1) (N := some 41) (v := ?_) (a' := ?_) #[y', y', n', n', n'] rfl rfl (by kernel_rfl) (fun _ _ _ h => h) (Or.inl ⟨by rfl, ?_⟩) hHeld ?_ ?_
      rotate_left
      ·rintro w' ⟨s0, s1, s2, s3⟩
       go_simp
       with_reducible rfl
      rotate_left
      ·simp only [Act.put, z1', z2', z3', i64_w, i32_w]
       rfl
      refine one_ (i := 2) (N := some 42) #[y', y', y', n', n'] rfl rfl (by kernel_rfl) (by decide) (fun K hK => ?_)
      refine goes_ Try.func16 (by kernel_rfl) rfl #[.agg #[.slice A1_0 l1_0.length c1_0, .int .i64 a1_1]] (by rfl) rfl rfl (by (try simp only [List.map_toArray, List.map_cons, List.map_nil]); first | done | rfl | (simp only [List.length_drop, List.length_take]; rfl)) ?_
      with_reducible refine (laws_toDensities.calls k _ _ l1_0 a1_1 t624 t627 _ ?side1 ?side2 A61.out).mono ?_
      (case side1 => repeat (first | exact (GO HR1_0.out HB.out) | (with_reducible refine R ?_ _) | (with_reducible refine GG ?_ _) | (with_reducible refine GJ ?_)))
      (case side2 => exact HC1_0.out)
      rintro e w102 ⟨v625, rfl, ho0, hb⟩
      refine ⟨_, rfl, ?_⟩
      have n0_ := G (B (by (with_reducible repeat (first | apply J | apply L | apply M)); exact HO595.out) hb)
      have n1_ := G (B (by (with_reducible repeat (first | apply J | apply L | apply M)); exact HO598.out) hb)
      have n2_ := G (Kd.R_elder' (by (with_reducible repeat (first | apply J | apply L | apply M)); exact HO601.out) (Kd.R_base ho0) hb)
      have n3_ := G (B (by (with_reducible repeat (first | apply J | apply L | apply M)); exact HO606.out) hb)
      have n4_ := G (B (by (with_reducible repeat (first | apply J | apply L | apply M)); exact HO609.out) hb)
      have n5_ := G (Kd.R_elder' (by (with_reducible repeat (first | apply J | apply L | apply M)); exact HO613.out) (Kd.R_base ho0) hb)
      have n6_ := G (B (by (with_reducible repeat (first | apply J | apply L | apply M)); exact HO619.out) hb)
      have n7_ := G (B (by (with_reducible repeat (first | apply J | apply L | apply M)); exact HO622.out) hb)
      have n8_ := G (Kd.R_lower (GL (GL ho0 (Kd.R_lt (by (with_reducible repeat (first | apply J | apply L | apply M)); exact HO601.out))) (Kd.R_lt (by (with_reducible repeat (first | apply J | apply L | apply M)); exact HO613.out))) (GM (by repeat (first | (with_reducible first | exact HB.out | apply Z | apply T | apply Y | refine O ?_ GE589.out | refine O ?_ GE590.out | refine O ?_ GE610.out | refine O ?_ GE615.out) | exact HB.out))))
      have n9_ := G (F (g := gb589) (o := .cells #[.slice A0_0 l0_0.length c0_0, .slice A0_1 l0_1.length c0_1] 33 (0, 0)) (by (with_reducible repeat (first | refine U ?_ _ | refine X ?_ | refine V ?_ _)); exact BK589.out) hb)
      have n10_ := G (F (g := gb590) (o := .cells #[.slice A1_0 l1_0.length c1_0, .int .i64 a1_1] 24 (0, 0)) (by (with_reducible repeat (first | refine U ?_ _ | refine X ?_ | refine V ?_ _)); exact BK590.out) hb)
      have n11_ := G (F (g := gb610) (o := .cells #[.slice Ao81 t604.length co81, .slice Ao85 t607.length co85] 39 (0, 0)) (by (with_reducible repeat (first | refine U ?_ _ | refine X ?_ | refine V ?_ _)); exact BK610.out) hb)
      have n12_ := G (F (g := gb615) (o := .cells #[.slice Ao89 t611.length co89, .int .i64 t614] 27 (0, 0)) (by (with_reducible repeat (first | refine U ?_ _ | refine X ?_ | refine V ?_ _)); exact BK615.out) hb)
      have n13_ := G (GN (by repeat (first | (with_reducible first | exact HB.out | apply Z | apply T | apply Y | refine O ?_ GE589.out | refine O ?_ GE590.out | refine O ?_ GE610.out | refine O ?_ GE615.out) | exact HB.out)) hb)
      clear HO595
      clear HO598
      clear HO601
      clear HO606
      clear HO609
      clear HO613
      clear HO619
      clear HO622
      clear BK589
      clear BK590
      clear BK610
      clear BK615
      clear HB
      have HO595 := n0_
      have HO598 := n1_
      have HO601 := n2_
      have HO606 := n3_
      have HO609 := n4_
      have HO613 := n5_
      have HO619 := n6_
      have HO622 := n7_
      have HO626 := n8_
      have BK589 := n9_
      have BK590 := n10_
      have BK610 := n11_
      have BK615 := n12_
      have HB := n13_
      clear n0_ n1_ n2_ n3_ n4_ n5_ n6_ n7_ n8_ n9_ n10_ n11_ n12_ n13_
      (try clear hb)
      (try clear hb2)
      (try clear hk)
      (try clear hi)
      (try clear ho0)
      obtain ⟨Ao103, co103, eo103⟩ := Kd.R_slice HO626.out
      (first | subst eo103 | (injection eo103 with f1_ f2_ f3_; have f4_ := f1_.symm; have f5_ := f3_.symm; clear f1_ f2_ f3_; subst f4_; subst f5_))
      refine hK.out _ _ ⟨(E BK615.out 0).trans rfl, (E BK615.out 1).trans rfl, (E BK590.out 0).trans rfl, (E BK590.out 1).trans rfl⟩ (fun hHeld => ?_)
      clear hK K
      refine norm_ (a' := ?_) ?_ ?_
      rotate_left
      ·show Act.put _ (some 42) _ = _
       simp only [Act.put, z1', z2', z3', i64_w, i32_w]
       rfl
      refine one_ (i := 3) (N := some 43) #[y', y', y', y', n'] rfl rfl (by kernel_rfl) (by decide) (fun K hK => ?_)
      refine goes_ Try.func18 (by kernel_rfl) rfl #[.agg #[.slice Ao89 t611.length co89, .int .i64 t614], .agg #[.slice Ao103 t624.length co103, .int .i64 t627]] (by rfl) rfl rfl (by (try simp only [List.map_toArray, List.map_cons, List.map_nil]); first | done | rfl | (simp only [List.length_drop, List.length_take]; rfl)) ?_
      with_reducible refine (laws_eqDensities.calls k _ _ t611 t614 _ _ t624 t627 true _ ?side1 ?side2 ?side3 ?side4 A62.out).mono ?_
      (case side1 => repeat (first | exact (Kd.R_reads' HO613.out).2.2 | (with_reducible refine R ?_ _) | (with_reducible refine GG ?_ _) | (with_reducible refine GJ ?_)))
      (case side2 => exact (Kd.R_reads' HO613.out).2.1)
      (case side3 => repeat (first | exact (Kd.R_reads' HO626.out).2.2 | (with_reducible refine R ?_ _) | (with_reducible refine GG ?_ _) | (with_reducible refine GJ ?_)))
      (case side4 => exact (Kd.R_reads' HO626.out).2.1)
      rintro e w104 ⟨rfl, hb⟩
      refine ⟨_, rfl, ?_⟩
      have n0_ := G (B (by (with_reducible repeat (first | apply J | apply L | apply M)); exact HO595.out) hb)
      have n1_ := G (B (by (with_reducible repeat (first | apply J | apply L | apply M)); exact HO598.out) hb)
      have n2_ := G (B (by (with_reducible repeat (first | apply J | apply L | apply M)); exact HO601.out) hb)
      have n3_ := G (B (by (with_reducible repeat (first | apply J | apply L | apply M)); exact HO606.out) hb)
      have n4_ := G (B (by (with_reducible repeat (first | apply J | apply L | apply M)); exact HO609.out) hb)
      have n5_ := G (B (by (with_reducible repeat (first | apply J | apply L | apply M)); exact HO613.out) hb)
      have n6_ := G (B (by (with_reducible repeat (first | apply J | apply L | apply M)); exact HO619.out) hb)
      have n7_ := G (B (by (with_reducible repeat (first | apply J | apply L | apply M)); exact HO622.out) hb)
      have n8_ := G (B (by (with_reducible repeat (first | apply J | apply L | apply M)); exact HO626.out) hb)
      have n9_ := G (F (g := gb589) (o := .cells #[.slice A0_0 l0_0.length c0_0, .slice A0_1 l0_1.length c0_1] 33 (0, 0)) (by (with_reducible repeat (first | refine U ?_ _ | refine X ?_ | refine V ?_ _)); exact BK589.out) hb)
      have n10_ := G (F (g := gb590) (o := .cells #[.slice A1_0 l1_0.length c1_0, .int .i64 a1_1] 24 (0, 0)) (by (with_reducible repeat (first | refine U ?_ _ | refine X ?_ | refine V ?_ _)); exact BK590.out) hb)
      have n11_ := G (F (g := gb610) (o := .cells #[.slice Ao81 t604.length co81, .slice Ao85 t607.length co85] 39 (0, 0)) (by (with_reducible repeat (first | refine U ?_ _ | refine X ?_ | refine V ?_ _)); exact BK610.out) hb)
      have n12_ := G (F (g := gb615) (o := .cells #[.slice Ao89 t611.length co89, .int .i64 t614] 27 (0, 0)) (by (with_reducible repeat (first | refine U ?_ _ | refine X ?_ | refine V ?_ _)); exact BK615.out) hb)
      have n13_ := G (GN (by repeat (first | (with_reducible first | exact HB.out | apply Z | apply T | apply Y | refine O ?_ GE589.out | refine O ?_ GE590.out | refine O ?_ GE610.out | refine O ?_ GE615.out) | exact HB.out)) hb)
      clear HO595
      clear HO598
      clear HO601
      clear HO606
      clear HO609
      clear HO613
      clear HO619
      clear HO622
      clear HO626
      clear BK589
      clear BK590
      clear BK610
      clear BK615
      clear HB
      have HO595 := n0_
      have HO598 := n1_
      have HO601 := n2_
      have HO606 := n3_
      have HO609 := n4_
      have HO613 := n5_
      have HO619 := n6_
      have HO622 := n7_
      have HO626 := n8_
      have BK589 := n9_
      have BK590 := n10_
      have BK610 := n11_
      have BK615 := n12_
      have HB := n13_
      clear n0_ n1_ n2_ n3_ n4_ n5_ n6_ n7_ n8_ n9_ n10_ n11_ n12_ n13_
      (try clear hb)
      (try clear hb2)
      (try clear hk)
      (try clear hi)
      refine hK.out _ _ ⟨(E BK615.out 0).trans rfl, (E BK615.out 1).trans rfl, (E BK590.out 0).trans rfl, (E BK590.out 1).trans rfl⟩ (fun hHeld => ?_)
      clear hK K
      refine norm_ (a' := ?_) ?_ ?_
      rotate_left
      ·show Act.put _ (some 43) _ = _
       simp only [Act.put, z1', z2', z3', i64_w, i32_w]
       rfl
      refine pure_ (i := 4) (N := some 44) (v := ?_) (a' := ?_) #[y', y', y', y', y'] rfl rfl (by kernel_rfl) (fun _ _ _ h => h) (Or.inl ⟨by rfl, ?_⟩) ?_ ?_
      rotate_left
      ·intro w'
       go_simp
       with_reducible rfl
      rotate_left
      ·simp only [Act.put, z1', z2', z3', i64_w, i32_w]
       rfl
      refine done_ (by kernel_rfl) ?_
      try go_wp2
      go_ret
      exact ⟨by first | rfl | (simp [errW_none, errW_some] <;> rfl) | (simp [*, errW_none, errW_some] <;> rfl), by repeat (first | (with_reducible first | exact HB.out | apply Z | apply T | apply Y | refine O ?_ GE589.out | refine O ?_ GE590.out | refine O ?_ GE610.out | refine O ?_ GE615.out) | exact HB.out)⟩
     ·replace c63 := Bool.eq_false_iff.mpr c63
      subst c63
      have H1 : (some false) = some r := by rw [if_neg (show ¬ (false = true) by decide)] at H; exact H
      clear H
      have H := H1
      clear H1
      obtain rfl := Option.some.inj H
      go_enter Try.func9, Try.ntmps9
      try go_wp2_with (first | ((with_reducible refine gate_dst (N := 2) rfl ?_); refine box_event ?hg (N := 2) ?hd (cs := #[.slice A0_0 l0_0.length c0_0, .slice A0_1 l0_1.length c0_1]) (t := 33) ?hr ?_; (case hd => rfl); (case hg => rfl); (case hr => first | (go_simp; done) | (go_simp; rfl)); intro gb589 hg w105 hbox hb; have n0_ := G (GN (by repeat (first | (with_reducible first | exact HB.out | apply Z | apply T | apply Y) | exact HB.out)) hb); have n1_ := G (hbox); have n2_ := G ((by rw [hg]; exact (GM (by repeat (first | (with_reducible first | exact HB.out | apply Z | apply T | apply Y) | exact HB.out))) : w.heap.size ≤ gb589)); have n3_ := G ((by rw [hg]; exact (GM (by repeat (first | (with_reducible first | exact HB.out | apply Z | apply T | apply Y) | exact HB.out))) : w.heap.size ≤ gb589)); clear HB; have HB := n0_; have BK589 := n1_; have GW589 := n2_; have GE589 := n3_; clear n0_ n1_ n2_ n3_; clear hb hbox hg) | ((with_reducible refine gate_dst (N := 3) rfl ?_); refine box_event ?hg (N := 3) ?hd (cs := #[.slice A1_0 l1_0.length c1_0, .int .i64 a1_1]) (t := 24) ?hr ?_; (case hd => rfl); (case hg => rfl); (case hr => first | (go_simp; done) | (go_simp; rfl)); intro gb590 hg w106 hbox hb; have n0_ := G (F (g := gb589) (o := .cells #[.slice A0_0 l0_0.length c0_0, .slice A0_1 l0_1.length c0_1] 33 (0, 0)) (by (with_reducible repeat (first | refine U ?_ _ | refine X ?_ | refine V ?_ _)); exact BK589.out) hb); have n1_ := G (GN (by repeat (first | (with_reducible first | exact HB.out | apply Z | apply T | apply Y | refine O ?_ GE589.out) | exact HB.out)) hb); have n2_ := G (hbox); have n3_ := G ((by rw [hg]; exact (GM (by repeat (first | (with_reducible first | exact HB.out | apply Z | apply T | apply Y | refine O ?_ GE589.out) | exact HB.out))) : w.heap.size ≤ gb590)); have n4_ := G ((by rw [hg]; exact (GM (by repeat (first | (with_reducible first | exact HB.out | apply Z | apply T | apply Y | refine O ?_ GE589.out) | exact HB.out))) : w.heap.size ≤ gb590)); have n5_ := G ((by rw [hg]; exact Nat.ne_of_lt (blk_lt (g := gb589) (o := .cells #[.slice A0_0 l0_0.length c0_0, .slice A0_1 l0_1.length c0_1] 33 (0, 0)) (by (with_reducible repeat (first | refine U ?_ _ | refine X ?_ | refine V ?_ _)); exact BK589.out)) : gb589 ≠ gb590)); have n6_ := G ((by rw [hg]; exact Nat.ne_of_gt (blk_lt (g := gb589) (o := .cells #[.slice A0_0 l0_0.length c0_0, .slice A0_1 l0_1.length c0_1] 33 (0, 0)) (by (with_reducible repeat (first | refine U ?_ _ | refine X ?_ | refine V ?_ _)); exact BK589.out)) : gb590 ≠ gb589)); clear BK589; clear HB; have BK589 := n0_; have HB := n1_; have BK590 := n2_; have GW590 := n3_; have GE590 := n4_; have NB589_590 := n5_; have NB590_589 := n6_; clear n0_ n1_ n2_ n3_ n4_ n5_ n6_; clear hb hbox hg; have hnb107 := NB589_590.out; have hnc107 := NB590_589.out; have hcz108_0 : w106.cell? ⟨gb589, 0, none⟩ = some (.slice A0_0 l0_0.length c0_0) := (E BK589.out 0).trans rfl; have hcz108_1 : w106.cell? ⟨gb589, 1, none⟩ = some (.slice A0_1 l0_1.length c0_1) := (E BK589.out 1).trans rfl; have hfz108_0 := GT BK589.out 0; have hfz108_1 := GT BK589.out 1) | ((with_reducible refine gate_callee (f := 19) rfl ?_); refine goesL_ (some 12) rfl rfl Try.func19 (by kernel_rfl) rfl #[.agg #[.slice A0_0 l0_0.length c0_0, .slice A0_1 l0_1.length c0_1], .int .i64 1048576] rfl (by (try simp only [List.map_toArray, List.map_cons, List.map_nil]); first | done | rfl | (simp only [List.length_drop, List.length_take]; rfl)) ?_; (with_reducible refine (laws_szFrame.calls _ _ l0_0 _ _ l0_1 1048576 t591 _ ?side1 ?side2 ?side3 ?side4 A3.out).mono ?_); (case side1 => repeat (first | exact (GO HR0_0.out HB.out) | (with_reducible refine R ?_ _) | (with_reducible refine GG ?_ _) | (with_reducible refine GJ ?_))); (case side2 => exact HC0_0.out); (case side3 => repeat (first | exact (GO HR0_1.out HB.out) | (with_reducible refine R ?_ _) | (with_reducible refine GG ?_ _) | (with_reducible refine GJ ?_))); (case side4 => exact HC0_1.out); rintro e w109 ⟨rfl, hb⟩; refine ⟨_, rfl, ?_⟩; have n0_ := G (F (g := gb589) (o := .cells #[.slice A0_0 l0_0.length c0_0, .slice A0_1 l0_1.length c0_1] 33 (0, 0)) (by (with_reducible repeat (first | refine U ?_ _ | refine X ?_ | refine V ?_ _)); exact BK589.out) hb); have n1_ := G (F (g := gb590) (o := .cells #[.slice A1_0 l1_0.length c1_0, .int .i64 a1_1] 24 (0, 0)) (by (with_reducible repeat (first | refine U ?_ _ | refine X ?_ | refine V ?_ _)); exact BK590.out) hb); have n2_ := G (GN (by repeat (first | (with_reducible first | exact HB.out | apply Z | apply T | apply Y | refine O ?_ GE589.out | refine O ?_ GE590.out) | exact HB.out)) hb); clear BK589; clear BK590; clear HB; have BK589 := n0_; have BK590 := n1_; have HB := n2_; clear n0_ n1_ n2_; (try clear hb); (try clear hb2); (try clear hk); (try clear hi); have hcz110_0 : w109.cell? ⟨gb590, 0, none⟩ = some (.slice A1_0 l1_0.length c1_0) := (E BK590.out 0).trans rfl; have hcz110_1 : w109.cell? ⟨gb590, 1, none⟩ = some (.int .i64 a1_1) := (E BK590.out 1).trans rfl; have hfz110_0 := GT BK590.out 0; have hfz110_1 := GT BK590.out 1) | ((with_reducible refine gate_callee (f := 14) rfl ?_); refine goesL_ (some 17) rfl rfl Try.func14 (by kernel_rfl) rfl #[.agg #[.slice A1_0 l1_0.length c1_0, .int .i64 a1_1], .int .i64 t591] rfl (by (try simp only [List.map_toArray, List.map_cons, List.map_nil]); first | done | rfl | (simp only [List.length_drop, List.length_take]; rfl)) ?_; (with_reducible refine (laws_szDensities.calls _ _ l1_0 a1_1 t591 t592 _ ?side1 ?side2 A10.out).mono ?_); (case side1 => repeat (first | exact (GO HR1_0.out HB.out) | (with_reducible refine R ?_ _) | (with_reducible refine GG ?_ _) | (with_reducible refine GJ ?_))); (case side2 => exact HC1_0.out); rintro e w111 ⟨rfl, hb⟩; refine ⟨_, rfl, ?_⟩; have n0_ := G (F (g := gb589) (o := .cells #[.slice A0_0 l0_0.length c0_0, .slice A0_1 l0_1.length c0_1] 33 (0, 0)) (by (with_reducible repeat (first | refine U ?_ _ | refine X ?_ | refine V ?_ _)); exact BK589.out) hb); have n1_ := G (F (g := gb590) (o := .cells #[.slice A1_0 l1_0.length c1_0, .int .i64 a1_1] 24 (0, 0)) (by (with_reducible repeat (first | refine U ?_ _ | refine X ?_ | refine V ?_ _)); exact BK590.out) hb); have n2_ := G (GN (by repeat (first | (with_reducible first | exact HB.out | apply Z | apply T | apply Y | refine O ?_ GE589.out | refine O ?_ GE590.out) | exact HB.out)) hb); clear BK589; clear BK590; clear HB; have BK589 := n0_; have BK590 := n1_; have HB := n2_; clear n0_ n1_ n2_; (try clear hb); (try clear hb2); (try clear hk); (try clear hi)))
      have n0_ := G (X BK589.out)
      have n1_ := G (X BK590.out)
      have n2_ := G (Y HB.out)
      clear BK589
      clear BK590
      clear HB
      have BK589 := n0_
      have BK590 := n1_
      have HB := n2_
      clear n0_ n1_ n2_
      refine start_ (n := 6) (S := fun w' => w'.cell? ⟨gb589, 0, none⟩ = some (.slice A0_0 l0_0.length c0_0) ∧ w'.cell? ⟨gb589, 1, none⟩ = some (.slice A0_1 l0_1.length c0_1) ∧ w'.cell? ⟨gb590, 0, none⟩ = some (.slice A1_0 l1_0.length c1_0) ∧ w'.cell? ⟨gb590, 1, none⟩ = some (.int .i64 a1_1)) (ds := []) #[n', n', n', n', n', n'] (by kernel_rfl) rfl rfl ⟨(E BK589.out 0).trans rfl, (E BK589.out 1).trans rfl, (E BK590.out 0).trans rfl, (E BK590.out 1).trans rfl⟩ (fun hHeld => ?_)
      generalize w111.drew = w112 at BK589 BK590 HB hHeld ⊢
      refine take_ (i := 0) (N := some 20) (v := ?_) (a' := ?_) #[y', n', n', n', n', n'] rfl rfl (by kernel_rfl) (fun _ _ _ h => h) (Or.inl ⟨by rfl, ?_⟩) hHeld ?_ ?_
      rotate_left
      ·rintro w' ⟨s0, s1, s2, s3⟩
       go_simp
       with_reducible rfl
      rotate_left
      ·simp only [Act.put, z1', z2', z3', i64_w, i32_w]
       rfl
      refine take_ (i := 2) (N := some 22) (v := ?_) (a' := ?_) #[y', n', y', n', n', n'] rfl rfl (by kernel_rfl) (fun _ _ _ h => h) (Or.inl ⟨by rfl, ?_⟩) hHeld ?_ ?_
      rotate_left
      ·rintro w' ⟨s0, s1, s2, s3⟩
       go_simp
       with_reducible rfl
      rotate_left
      ·simp only [Act.put, z1', z2', z3', i64_w, i32_w]
       rfl
      refine one_ (i := 1) (N := some 21) #[y', y', y', n', n', n'] rfl rfl (by kernel_rfl) (by decide) (fun K hK => ?_)
      refine goes_ Try.func21 (by kernel_rfl) rfl #[.agg #[.slice A0_0 l0_0.length c0_0, .slice A0_1 l0_1.length c0_1]] (by rfl) rfl rfl (by (try simp only [List.map_toArray, List.map_cons, List.map_nil]); first | done | rfl | (simp only [List.length_drop, List.length_take]; rfl)) ?_
      with_reducible refine (laws_toFrame.calls k _ _ l0_0 _ _ l0_1 t593 t596 _ ?side1 ?side2 ?side3 ?side4 A19.out).mono ?_
      (case side1 => repeat (first | exact (GO HR0_0.out HB.out) | (with_reducible refine R ?_ _) | (with_reducible refine GG ?_ _) | (with_reducible refine GJ ?_)))
      (case side2 => exact HC0_0.out)
      (case side3 => repeat (first | exact (GO HR0_1.out HB.out) | (with_reducible refine R ?_ _) | (with_reducible refine GG ?_ _) | (with_reducible refine GJ ?_)))
      (case side4 => exact HC0_1.out)
      rintro e w113 ⟨v594, v597, rfl, ho0, ho1, hb⟩
      refine ⟨_, rfl, ?_⟩
      have n0_ := G (Kd.R_lower ho0 (GM (by repeat (first | (with_reducible first | exact HB.out | apply Z | apply T | apply Y | refine O ?_ GE589.out | refine O ?_ GE590.out) | exact HB.out))))
      have n1_ := G (Kd.R_lower ho1 (GM (by repeat (first | (with_reducible first | exact HB.out | apply Z | apply T | apply Y | refine O ?_ GE589.out | refine O ?_ GE590.out) | exact HB.out))))
      have n2_ := G (F (g := gb589) (o := .cells #[.slice A0_0 l0_0.length c0_0, .slice A0_1 l0_1.length c0_1] 33 (0, 0)) (by (with_reducible repeat (first | refine U ?_ _ | refine X ?_ | refine V ?_ _)); exact BK589.out) hb)
      have n3_ := G (F (g := gb590) (o := .cells #[.slice A1_0 l1_0.length c1_0, .int .i64 a1_1] 24 (0, 0)) (by (with_reducible repeat (first | refine U ?_ _ | refine X ?_ | refine V ?_ _)); exact BK590.out) hb)
      have n4_ := G (GN (by repeat (first | (with_reducible first | exact HB.out | apply Z | apply T | apply Y | refine O ?_ GE589.out | refine O ?_ GE590.out) | exact HB.out)) hb)
      clear BK589
      clear BK590
      clear HB
      have HO595 := n0_
      have HO598 := n1_
      have BK589 := n2_
      have BK590 := n3_
      have HB := n4_
      clear n0_ n1_ n2_ n3_ n4_
      (try clear hb)
      (try clear hb2)
      (try clear hk)
      (try clear hi)
      (try clear ho0)
      (try clear ho1)
      refine hK.out _ _ ⟨(E BK589.out 0).trans rfl, (E BK589.out 1).trans rfl, (E BK590.out 0).trans rfl, (E BK590.out 1).trans rfl⟩ (fun hHeld => ?_)
      clear hK K
      refine norm_ (a' := ?_) ?_ ?_
      rotate_left
      ·show Act.put _ (some 21) _ = _
       simp only [Act.put, z1', z2', z3', i64_w, i32_w]
       rfl
      refine one_ (i := 3) (N := some 23) #[y', y', y', y', n', n'] rfl rfl (by kernel_rfl) (by decide) (fun K hK => ?_)
      refine goes_ Try.func16 (by kernel_rfl) rfl #[.agg #[.slice A1_0 l1_0.length c1_0, .int .i64 a1_1]] (by rfl) rfl rfl (by (try simp only [List.map_toArray, List.map_cons, List.map_nil]); first | done | rfl | (simp only [List.length_drop, List.length_take]; rfl)) ?_
      with_reducible refine (laws_toDensities.calls k _ _ l1_0 a1_1 t599 t602 _ ?side1 ?side2 A20.out).mono ?_
      (case side1 => repeat (first | exact (GO HR1_0.out HB.out) | (with_reducible refine R ?_ _) | (with_reducible refine GG ?_ _) | (with_reducible refine GJ ?_)))
      (case side2 => exact HC1_0.out)
      rintro e w114 ⟨v600, rfl, ho0, hb⟩
      refine ⟨_, rfl, ?_⟩
      have n0_ := G (B (by (with_reducible repeat (first | apply J | apply L | apply M)); exact HO595.out) hb)
      have n1_ := G (B (by (with_reducible repeat (first | apply J | apply L | apply M)); exact HO598.out) hb)
      have n2_ := G (Kd.R_lower ho0 (GM (by repeat (first | (with_reducible first | exact HB.out | apply Z | apply T | apply Y | refine O ?_ GE589.out | refine O ?_ GE590.out) | exact HB.out))))
      have n3_ := G (F (g := gb589) (o := .cells #[.slice A0_0 l0_0.length c0_0, .slice A0_1 l0_1.length c0_1] 33 (0, 0)) (by (with_reducible repeat (first | refine U ?_ _ | refine X ?_ | refine V ?_ _)); exact BK589.out) hb)
      have n4_ := G (F (g := gb590) (o := .cells #[.slice A1_0 l1_0.length c1_0, .int .i64 a1_1] 24 (0, 0)) (by (with_reducible repeat (first | refine U ?_ _ | refine X ?_ | refine V ?_ _)); exact BK590.out) hb)
      have n5_ := G (GN (by repeat (first | (with_reducible first | exact HB.out | apply Z | apply T | apply Y | refine O ?_ GE589.out | refine O ?_ GE590.out) | exact HB.out)) hb)
      clear HO595
      clear HO598
      clear BK589
      clear BK590
      clear HB
      have HO595 := n0_
      have HO598 := n1_
      have HO601 := n2_
      have BK589 := n3_
      have BK590 := n4_
      have HB := n5_
      clear n0_ n1_ n2_ n3_ n4_ n5_
      (try clear hb)
      (try clear hb2)
      (try clear hk)
      (try clear hi)
      (try clear ho0)
      obtain ⟨Ao115, co115, eo115⟩ := Kd.R_slice HO595.out
      (first | subst eo115 | (injection eo115 with f1_ f2_ f3_; have f4_ := f1_.symm; have f5_ := f3_.symm; clear f1_ f2_ f3_; subst f4_; subst f5_))
      obtain ⟨Ao116, co116, eo116⟩ := Kd.R_slice HO598.out
      (first | subst eo116 | (injection eo116 with f1_ f2_ f3_; have f4_ := f1_.symm; have f5_ := f3_.symm; clear f1_ f2_ f3_; subst f4_; subst f5_))
      obtain ⟨Ao117, co117, eo117⟩ := Kd.R_slice HO601.out
      (first | subst eo117 | (injection eo117 with f1_ f2_ f3_; have f4_ := f1_.symm; have f5_ := f3_.symm; clear f1_ f2_ f3_; subst f4_; subst f5_))
      refine hK.out _ _ ⟨(E BK589.out 0).trans rfl, (E BK589.out 1).trans rfl, (E BK590.out 0).trans rfl, (E BK590.out 1).trans rfl⟩ (fun hHeld => ?_)
      clear hK K
      refine norm_ (a' := ?_) ?_ ?_
      rotate_left
      ·show Act.put _ (some 23) _ = _
       simp only [Act.put, z1', z2', z3', i64_w, i32_w]
       rfl
      refine one_ (i := 4) (N := some 24) #[y', y', y', y', y', n'] rfl rfl (by kernel_rfl) (by decide) (fun K hK => ?_)
      refine goes_ Try.func39 (by kernel_rfl) rfl #[.agg #[.slice Ao115 t593.length co115, .slice Ao116 t596.length co116], .agg #[.slice Ao117 t599.length co117, .int .i64 t602]] (by rfl) rfl rfl (by (try simp only [List.map_toArray, List.map_cons, List.map_nil]); first | done | rfl | (simp only [List.length_drop, List.length_take]; rfl)) ?_
      with_reducible refine (spec_ValidDensities.calls k _ _ t593 _ _ t596 _ _ t599 t602 t603 _ ?side1 ?side2 ?side3 ?side4 ?side5 ?side6 A21.out).mono ?_
      (case side1 => repeat (first | exact (Kd.R_reads' HO595.out).2.2 | (with_reducible refine R ?_ _) | (with_reducible refine GG ?_ _) | (with_reducible refine GJ ?_)))
      (case side2 => exact (Kd.R_reads' HO595.out).2.1)
      (case side3 => repeat (first | exact (Kd.R_reads' HO598.out).2.2 | (with_reducible refine R ?_ _) | (with_reducible refine GG ?_ _) | (with_reducible refine GJ ?_)))
      (case side4 => exact (Kd.R_reads' HO598.out).2.1)
      (case side5 => repeat (first | exact (Kd.R_reads' HO601.out).2.2 | (with_reducible refine R ?_ _) | (with_reducible refine GG ?_ _) | (with_reducible refine GJ ?_)))
      (case side6 => exact (Kd.R_reads' HO601.out).2.1)
      rintro e w118 ⟨rfl, hb⟩
      refine ⟨_, rfl, ?_⟩
      have n0_ := G (B (by (with_reducible repeat (first | apply J | apply L | apply M)); exact HO595.out) hb)
      have n1_ := G (B (by (with_reducible repeat (first | apply J | apply L | apply M)); exact HO598.out) hb)
      have n2_ := G (B (by (with_reducible repeat (first | apply J | apply L | apply M)); exact HO601.out) hb)
      have n3_ := G (F (g := gb589) (o := .cells #[.slice A0_0 l0_0.length c0_0, .slice A0_1 l0_1.length c0_1] 33 (0, 0)) (by (with_reducible repeat (first | refine U ?_ _ | refine X ?_ | refine V ?_ _)); exact BK589.out) hb)
      have n4_ := G (F (g := gb590) (o := .cells #[.slice A1_0 l1_0.length c1_0, .int .i64 a1_1] 24 (0, 0)) (by (with_reducible repeat (first | refine U ?_ _ | refine X ?_ | refine V ?_ _)); exact BK590.out) hb)
      have n5_ := G (GN (by repeat (first | (with_reducible first | exact HB.out | apply Z | apply T | apply Y | refine O ?_ GE589.out | refine O ?_ GE590.out) | exact HB.out)) hb)
      clear HO595
      clear HO598
      clear HO601
      clear BK589
      clear BK590
      clear HB
      have HO595 := n0_
      have HO598 := n1_
      have HO601 := n2_
      have BK589 := n3_
      have BK590 := n4_
      have HB := n5_
      clear n0_ n1_ n2_ n3_ n4_ n5_
      (try clear hb)
      (try clear hb2)
      (try clear hk)
      (try clear hi)
      refine hK.out _ _ ⟨(E BK589.out 0).trans rfl, (E BK589.out 1).trans rfl, (E BK590.out 0).trans rfl, (E BK590.out 1).trans rfl⟩ (fun hHeld => ?_)
      clear hK K
      refine norm_ (a' := ?_) ?_ ?_
      rotate_left
      ·show Act.put _ (some 24) _ = _
       simp only [Act.put, z1', z2', z3', i64_w, i32_w]
       rfl
      refine pure_ (i := 5) (N := some 6) (v := ?_) (a' := ?_) #[y', y', y', y', y', y'] rfl rfl (by kernel_rfl) (fun _ _ _ h => h) (Or.inl ⟨by rfl, ?_⟩) ?_ ?_
      rotate_left
      ·intro w'
       go_simp
       with_reducible rfl
      rotate_left
      ·simp only [Act.put, z1', z2', z3', i64_w, i32_w]
       rfl
      refine done_ (by kernel_rfl) ?_
      have hcz119_0 : w118.cell? ⟨gb589, 0, none⟩ = some (.slice A0_0 l0_0.length c0_0) := (E BK589.out 0).trans rfl
      have hcz119_1 : w118.cell? ⟨gb589, 1, none⟩ = some (.slice A0_1 l0_1.length c0_1) := (E BK589.out 1).trans rfl
      have hfz119_0 := GT BK589.out 0
      have hfz119_1 := GT BK589.out 1
      try go_wp2_with (first | ((with_reducible refine gate_callee (f := 21) rfl ?_); refine goesL_ (some 26) rfl rfl Try.func21 (by kernel_rfl) rfl #[.agg #[.slice A0_0 l0_0.length c0_0, .slice A0_1 l0_1.length c0_1]] rfl (by (try simp only [List.map_toArray, List.map_cons, List.map_nil]); first | done | rfl | (simp only [List.length_drop, List.length_take]; rfl)) ?_; (with_reducible refine (laws_toFrame.calls k _ _ l0_0 _ _ l0_1 t604 t607 _ ?side1 ?side2 ?side3 ?side4 A22.out).mono ?_); (case side1 => repeat (first | exact (GO HR0_0.out HB.out) | (with_reducible refine R ?_ _) | (with_reducible refine GG ?_ _) | (with_reducible refine GJ ?_))); (case side2 => exact HC0_0.out); (case side3 => repeat (first | exact (GO HR0_1.out HB.out) | (with_reducible refine R ?_ _) | (with_reducible refine GG ?_ _) | (with_reducible refine GJ ?_))); (case side4 => exact HC0_1.out); rintro e w120 ⟨v605, v608, rfl, ho0, ho1, hb⟩; refine ⟨_, rfl, ?_⟩; have n0_ := G (Kd.R_elder' (by (with_reducible repeat (first | apply J | apply L | apply M)); exact HO595.out) (Kd.R_base ho0) hb); have n1_ := G (Kd.R_elder' (by (with_reducible repeat (first | apply J | apply L | apply M)); exact HO598.out) (Kd.R_base ho1) hb); have n2_ := G (B (by (with_reducible repeat (first | apply J | apply L | apply M)); exact HO601.out) hb); have n3_ := G (Kd.R_lower (GL ho0 (Kd.R_lt (by (with_reducible repeat (first | apply J | apply L | apply M)); exact HO595.out))) (GM (by repeat (first | (with_reducible first | exact HB.out | apply Z | apply T | apply Y | refine O ?_ GE589.out | refine O ?_ GE590.out) | exact HB.out)))); have n4_ := G (Kd.R_lower (GL ho1 (Kd.R_lt (by (with_reducible repeat (first | apply J | apply L | apply M)); exact HO598.out))) (GM (by repeat (first | (with_reducible first | exact HB.out | apply Z | apply T | apply Y | refine O ?_ GE589.out | refine O ?_ GE590.out) | exact HB.out)))); have n5_ := G (F (g := gb589) (o := .cells #[.slice A0_0 l0_0.length c0_0, .slice A0_1 l0_1.length c0_1] 33 (0, 0)) (by (with_reducible repeat (first | refine U ?_ _ | refine X ?_ | refine V ?_ _)); exact BK589.out) hb); have n6_ := G (F (g := gb590) (o := .cells #[.slice A1_0 l1_0.length c1_0, .int .i64 a1_1] 24 (0, 0)) (by (with_reducible repeat (first | refine U ?_ _ | refine X ?_ | refine V ?_ _)); exact BK590.out) hb); have n7_ := G (GN (by repeat (first | (with_reducible first | exact HB.out | apply Z | apply T | apply Y | refine O ?_ GE589.out | refine O ?_ GE590.out) | exact HB.out)) hb); clear HO595; clear HO598; clear HO601; clear BK589; clear BK590; clear HB; have HO595 := n0_; have HO598 := n1_; have HO601 := n2_; have HO606 := n3_; have HO609 := n4_; have BK589 := n5_; have BK590 := n6_; have HB := n7_; clear n0_ n1_ n2_ n3_ n4_ n5_ n6_ n7_; (try clear hb); (try clear hb2); (try clear hk); (try clear hi); (try clear ho0); (try clear ho1)) | ((with_reducible refine gate_dst (N := 7) rfl ?_); refine box_event ?hg (N := 7) ?hd (cs := #[.slice none 0 0, .slice none 0 0]) (t := 39) ?hr ?_; (case hd => rfl); (case hg => rfl); (case hr => first | (go_simp; done) | (go_simp; rfl)); intro gb610 hg w121 hbox hb; have n0_ := G (B (by (with_reducible repeat (first | apply J | apply L | apply M)); exact HO595.out) hb); have n1_ := G (B (by (with_reducible repeat (first | apply J | apply L | apply M)); exact HO598.out) hb); have n2_ := G (B (by (with_reducible repeat (first | apply J | apply L | apply M)); exact HO601.out) hb); have n3_ := G (B (by (with_reducible repeat (first | apply J | apply L | apply M)); exact HO606.out) hb); have n4_ := G (B (by (with_reducible repeat (first | apply J | apply L | apply M)); exact HO609.out) hb); have n5_ := G (F (g := gb589) (o := .cells #[.slice A0_0 l0_0.length c0_0, .slice A0_1 l0_1.length c0_1] 33 (0, 0)) (by (with_reducible repeat (first | refine U ?_ _ | refine X ?_ | refine V ?_ _)); exact BK589.out) hb); have n6_ := G (F (g := gb590) (o := .cells #[.slice A1_0 l1_0.length c1_0, .int .i64 a1_1] 24 (0, 0)) (by (with_reducible repeat (first | refine U ?_ _ | refine X ?_ | refine V ?_ _)); exact BK590.out) hb); have n7_ := G (GN (by repeat (first | (with_reducible first | exact HB.out | apply Z | apply T | apply Y | refine O ?_ GE589.out | refine O ?_ GE590.out) | exact HB.out)) hb); have n8_ := G (hbox); have n9_ := G ((by rw [hg]; exact (GM (by repeat (first | (with_reducible first | exact HB.out | apply Z | apply T | apply Y | refine O ?_ GE589.out | refine O ?_ GE590.out) | exact HB.out))) : w.heap.size ≤ gb610)); have n10_ := G ((by rw [hg]; exact (GM (by repeat (first | (with_reducible first | exact HB.out | apply Z | apply T | apply Y | refine O ?_ GE589.out | refine O ?_ GE590.out) | exact HB.out))) : w.heap.size ≤ gb610)); have n11_ := G ((by rw [hg]; exact Nat.ne_of_lt (blk_lt (g := gb589) (o := .cells #[.slice A0_0 l0_0.length c0_0, .slice A0_1 l0_1.length c0_1] 33 (0, 0)) (by (with_reducible repeat (first | refine U ?_ _ | refine X ?_ | refine V ?_ _)); exact BK589.out)) : gb589 ≠ gb610)); have n12_ := G ((by rw [hg]; exact Nat.ne_of_gt (blk_lt (g := gb589) (o := .cells #[.slice A0_0 l0_0.length c0_0, .slice A0_1 l0_1.length c0_1] 33 (0, 0)) (by (with_reducible repeat (first | refine U ?_ _ | refine X ?_ | refine V ?_ _)); exact BK589.out)) : gb610 ≠ gb589)); have n13_ := G ((by rw [hg]; exact Nat.ne_of_lt (blk_lt (g := gb590) (o := .cells #[.slice A1_0 l1_0.length c1_0, .int .i64 a1_1] 24 (0, 0)) (by (with_reducible repeat (first | refine U ?_ _ | refine X ?_ | refine V ?_ _)); exact BK590.out)) : gb590 ≠ gb610)); have n14_ := G ((by rw [hg]; exact Nat.ne_of_gt (blk_lt (g := gb590) (o := .cells #[.slice A1_0 l1_0.length c1_0, .int .i64 a1_1] 24 (0, 0)) (by (with_reducible repeat (first | refine U ?_ _ | refine X ?_ | refine V ?_ _)); exact BK590.out)) : gb610 ≠ gb590)); clear HO595; clear HO598; clear HO601; clear HO606; clear HO609; clear BK589; clear BK590; clear HB; have HO595 := n0_; have HO598 := n1_; have HO601 := n2_; have HO606 := n3_; have HO609 := n4_; have BK589 := n5_; have BK590 := n6_; have HB := n7_; have BK610 := n8_; have GW610 := n9_; have GE610 := n10_; have NB589_610 := n11_; have NB610_589 := n12_; have NB590_610 := n13_; have NB610_590 := n14_; clear n0_ n1_ n2_ n3_ n4_ n5_ n6_ n7_ n8_ n9_ n10_ n11_ n12_ n13_ n14_; clear hb hbox hg; obtain ⟨Ao122, co122, eo122⟩ := Kd.R_slice HO606.out; subst eo122; have hnb123 := NB610_589.out; have hnc123 := NB589_610.out; have hnb124 := NB610_590.out; have hnc124 := NB590_610.out; have hcz125_0 : w121.cell? ⟨gb610, 0, none⟩ = some (.slice none 0 0) := (E BK610.out 0).trans rfl; have hcz125_1 : w121.cell? ⟨gb610, 1, none⟩ = some (.slice none 0 0) := (E BK610.out 1).trans rfl; have hfz125_0 := GT BK610.out 0; have hfz125_1 := GT BK610.out 1; obtain ⟨Ao126, co126, eo126⟩ := Kd.R_slice HO609.out; subst eo126; have hcz127_0 : w121.cell? ⟨gb590, 0, none⟩ = some (.slice A1_0 l1_0.length c1_0) := (E BK590.out 0).trans rfl; have hcz127_1 : w121.cell? ⟨gb590, 1, none⟩ = some (.int .i64 a1_1) := (E BK590.out 1).trans rfl; have hfz127_0 := GT BK590.out 0; have hfz127_1 := GT BK590.out 1) | ((with_reducible refine gate_callee (f := 16) rfl ?_); refine goesL_ (some 28) rfl rfl Try.func16 (by kernel_rfl) rfl #[.agg #[.slice A1_0 l1_0.length c1_0, .int .i64 a1_1]] rfl (by (try simp only [List.map_toArray, List.map_cons, List.map_nil]); first | done | rfl | (simp only [List.length_drop, List.length_take]; rfl)) ?_; (with_reducible refine (laws_toDensities.calls k _ _ l1_0 a1_1 t611 t614 _ ?side1 ?side2 A23.out).mono ?_); (case side1 => exact GO HR1_0.out (by repeat (first | (with_reducible first | exact HB.out | apply Z | apply T | apply Y | refine O ?_ GE589.out | refine O ?_ GE590.out | refine O ?_ GE610.out) | exact HB.out))); (case side2 => exact HC1_0.out); rintro e w128 ⟨v612, rfl, ho0, hb⟩; refine ⟨_, rfl, ?_⟩; have n0_ := G (B (by (with_reducible repeat (first | apply J | apply L | apply M)); exact (P (D (p := ⟨gb610, 1, none⟩) (D (p := ⟨gb610, 0, none⟩) (I HO595.out BK610.out (by decide)) (fun _ hk => hk.2) (.slice Ao122 t604.length co122)) (fun _ hk => hk.2) (.slice Ao126 t607.length co126)) (fun _ h_ => h_.1))) hb); have n1_ := G (B (by (with_reducible repeat (first | apply J | apply L | apply M)); exact (P (D (p := ⟨gb610, 1, none⟩) (D (p := ⟨gb610, 0, none⟩) (I HO598.out BK610.out (by decide)) (fun _ hk => hk.2) (.slice Ao122 t604.length co122)) (fun _ hk => hk.2) (.slice Ao126 t607.length co126)) (fun _ h_ => h_.1))) hb); have n2_ := G (Kd.R_elder' (by (with_reducible repeat (first | apply J | apply L | apply M)); exact (P (D (p := ⟨gb610, 1, none⟩) (D (p := ⟨gb610, 0, none⟩) (I HO601.out BK610.out (by decide)) (fun _ hk => hk.2) (.slice Ao122 t604.length co122)) (fun _ hk => hk.2) (.slice Ao126 t607.length co126)) (fun _ h_ => h_.1))) (Kd.R_base ho0) hb); have n3_ := G (B (by (with_reducible repeat (first | apply J | apply L | apply M)); exact (P (D (p := ⟨gb610, 1, none⟩) (D (p := ⟨gb610, 0, none⟩) (I HO606.out BK610.out (by decide)) (fun _ hk => hk.2) (.slice Ao122 t604.length co122)) (fun _ hk => hk.2) (.slice Ao126 t607.length co126)) (fun _ h_ => h_.1))) hb); have n4_ := G (B (by (with_reducible repeat (first | apply J | apply L | apply M)); exact (P (D (p := ⟨gb610, 1, none⟩) (D (p := ⟨gb610, 0, none⟩) (I HO609.out BK610.out (by decide)) (fun _ hk => hk.2) (.slice Ao122 t604.length co122)) (fun _ hk => hk.2) (.slice Ao126 t607.length co126)) (fun _ h_ => h_.1))) hb); have n5_ := G (Kd.R_lower (GL ho0 (Kd.R_lt (by (with_reducible repeat (first | apply J | apply L | apply M)); exact (P (D (p := ⟨gb610, 1, none⟩) (D (p := ⟨gb610, 0, none⟩) (I HO601.out BK610.out (by decide)) (fun _ hk => hk.2) (.slice Ao122 t604.length co122)) (fun _ hk => hk.2) (.slice Ao126 t607.length co126)) (fun _ h_ => h_.1))))) (GM (by repeat (first | (with_reducible first | exact HB.out | apply Z | apply T | apply Y | refine O ?_ GE589.out | refine O ?_ GE590.out | refine O ?_ GE610.out) | exact HB.out)))); have n6_ := G (F (g := gb589) (o := .cells #[.slice A0_0 l0_0.length c0_0, .slice A0_1 l0_1.length c0_1] 33 (0, 0)) (by (with_reducible repeat (first | refine U ?_ _ | refine X ?_ | refine V ?_ _)); refine blk_far ?_ NB589_610.out _; (with_reducible repeat (first | refine U ?_ _ | refine X ?_ | refine V ?_ _)); refine blk_far ?_ NB589_610.out _; (with_reducible repeat (first | refine U ?_ _ | refine X ?_ | refine V ?_ _)); exact BK589.out) hb); have n7_ := G (F (g := gb590) (o := .cells #[.slice A1_0 l1_0.length c1_0, .int .i64 a1_1] 24 (0, 0)) (by (with_reducible repeat (first | refine U ?_ _ | refine X ?_ | refine V ?_ _)); refine blk_far ?_ NB590_610.out _; (with_reducible repeat (first | refine U ?_ _ | refine X ?_ | refine V ?_ _)); refine blk_far ?_ NB590_610.out _; (with_reducible repeat (first | refine U ?_ _ | refine X ?_ | refine V ?_ _)); exact BK590.out) hb); have n8_ := G (F (g := gb610) (o := .cells #[.slice Ao122 t604.length co122, .slice Ao126 t607.length co126] 39 (0, 0)) (by (with_reducible repeat (first | refine U ?_ _ | refine X ?_ | refine V ?_ _)); refine blk_put (cs := #[.slice Ao122 t604.length co122, .slice none 0 0]) ?_ 1 _ rfl; (with_reducible repeat (first | refine U ?_ _ | refine X ?_ | refine V ?_ _)); refine blk_put (cs := #[.slice none 0 0, .slice none 0 0]) ?_ 0 _ rfl; (with_reducible repeat (first | refine U ?_ _ | refine X ?_ | refine V ?_ _)); exact BK610.out) hb); have n9_ := G (GN (by repeat (first | (with_reducible first | exact HB.out | apply Z | apply T | apply Y | refine O ?_ GE589.out | refine O ?_ GE590.out | refine O ?_ GE610.out) | exact HB.out)) hb); clear HO595; clear HO598; clear HO601; clear HO606; clear HO609; clear BK589; clear BK590; clear BK610; clear HB; have HO595 := n0_; have HO598 := n1_; have HO601 := n2_; have HO606 := n3_; have HO609 := n4_; have HO613 := n5_; have BK589 := n6_; have BK590 := n7_; have BK610 := n8_; have HB := n9_; clear n0_ n1_ n2_ n3_ n4_ n5_ n6_ n7_ n8_ n9_; (try clear hb); (try clear hb2); (try clear hk); (try clear hi); (try clear ho0)) | ((with_reducible refine gate_dst (N := 8) rfl ?_); refine box_event ?hg (N := 8) ?hd (cs := #[.slice none 0 0, .int .i64 0]) (t := 27) ?hr ?_; (case hd => rfl); (case hg => rfl); (case hr => first | (go_simp; done) | (go_simp; rfl)); intro gb615 hg w129 hbox hb; have n0_ := G (B (by (with_reducible repeat (first | apply J | apply L | apply M)); exact HO595.out) hb); have n1_ := G (B (by (with_reducible repeat (first | apply J | apply L | apply M)); exact HO598.out) hb); have n2_ := G (B (by (with_reducible repeat (first | apply J | apply L | apply M)); exact HO601.out) hb); have n3_ := G (B (by (with_reducible repeat (first | apply J | apply L | apply M)); exact HO606.out) hb); have n4_ := G (B (by (with_reducible repeat (first | apply J | apply L | apply M)); exact HO609.out) hb); have n5_ := G (B (by (with_reducible repeat (first | apply J | apply L | apply M)); exact HO613.out) hb); have n6_ := G (F (g := gb589) (o := .cells #[.slice A0_0 l0_0.length c0_0, .slice A0_1 l0_1.length c0_1] 33 (0, 0)) (by (with_reducible repeat (first | refine U ?_ _ | refine X ?_ | refine V ?_ _)); exact BK589.out) hb); have n7_ := G (F (g := gb590) (o := .cells #[.slice A1_0 l1_0.length c1_0, .int .i64 a1_1] 24 (0, 0)) (by (with_reducible repeat (first | refine U ?_ _ | refine X ?_ | refine V ?_ _)); exact BK590.out) hb); have n8_ := G (F (g := gb610) (o := .cells #[.slice Ao122 t604.length co122, .slice Ao126 t607.length co126] 39 (0, 0)) (by (with_reducible repeat (first | refine U ?_ _ | refine X ?_ | refine V ?_ _)); exact BK610.out) hb); have n9_ := G (GN (by repeat (first | (with_reducible first | exact HB.out | apply Z | apply T | apply Y | refine O ?_ GE589.out | refine O ?_ GE590.out | refine O ?_ GE610.out) | exact HB.out)) hb); have n10_ := G (hbox); have n11_ := G ((by rw [hg]; exact (GM (by repeat (first | (with_reducible first | exact HB.out | apply Z | apply T | apply Y | refine O ?_ GE589.out | refine O ?_ GE590.out | refine O ?_ GE610.out) | exact HB.out))) : w.heap.size ≤ gb615)); have n12_ := G ((by rw [hg]; exact (GM (by repeat (first | (with_reducible first | exact HB.out | apply Z | apply T | apply Y | refine O ?_ GE589.out | refine O ?_ GE590.out | refine O ?_ GE610.out) | exact HB.out))) : w.heap.size ≤ gb615)); have n13_ := G ((by rw [hg]; exact Nat.ne_of_lt (blk_lt (g := gb589) (o := .cells #[.slice A0_0 l0_0.length c0_0, .slice A0_1 l0_1.length c0_1] 33 (0, 0)) (by (with_reducible repeat (first | refine U ?_ _ | refine X ?_ | refine V ?_ _)); exact BK589.out)) : gb589 ≠ gb615)); have n14_ := G ((by rw [hg]; exact Nat.ne_of_gt (blk_lt (g := gb589) (o := .cells #[.slice A0_0 l0_0.length c0_0, .slice A0_1 l0_1.length c0_1] 33 (0, 0)) (by (with_reducible repeat (first | refine U ?_ _ | refine X ?_ | refine V ?_ _)); exact BK589.out)) : gb615 ≠ gb589)); have n15_ := G ((by rw [hg]; exact Nat.ne_of_lt (blk_lt (g := gb590) (o := .cells #[.slice A1_0 l1_0.length c1_0, .int .i64 a1_1] 24 (0, 0)) (by (with_reducible repeat (first | refine U ?_ _ | refine X ?_ | refine V ?_ _)); exact BK590.out)) : gb590 ≠ gb615)); have n16_ := G ((by rw [hg]; exact Nat.ne_of_gt (blk_lt (g := gb590) (o := .cells #[.slice A1_0 l1_0.length c1_0, .int .i64 a1_1] 24 (0, 0)) (by (with_reducible repeat (first | refine U ?_ _ | refine X ?_ | refine V ?_ _)); exact BK590.out)) : gb615 ≠ gb590)); have n17_ := G ((by rw [hg]; exact Nat.ne_of_lt (blk_lt (g := gb610) (o := .cells #[.slice Ao122 t604.length co122, .slice Ao126 t607.length co126] 39 (0, 0)) (by (with_reducible repeat (first | refine U ?_ _ | refine X ?_ | refine V ?_ _)); exact BK610.out)) : gb610 ≠ gb615)); have n18_ := G ((by rw [hg]; exact Nat.ne_of_gt (blk_lt (g := gb610) (o := .cells #[.slice Ao122 t604.length co122, .slice Ao126 t607.length co126] 39 (0, 0)) (by (with_reducible repeat (first | refine U ?_ _ | refine X ?_ | refine V ?_ _)); exact BK610.out)) : gb615 ≠ gb610)); clear HO595; clear HO598; clear HO601; clear HO606; clear HO609; clear HO613; clear BK589; clear BK590; clear BK610; clear HB; have HO595 := n0_; have HO598 := n1_; have HO601 := n2_; have HO606 := n3_; have HO609 := n4_; have HO613 := n5_; have BK589 := n6_; have BK590 := n7_; have BK610 := n8_; have HB := n9_; have BK615 := n10_; have GW615 := n11_; have GE615 := n12_; have NB589_615 := n13_; have NB615_589 := n14_; have NB590_615 := n15_; have NB615_590 := n16_; have NB610_615 := n17_; have NB615_610 := n18_; clear n0_ n1_ n2_ n3_ n4_ n5_ n6_ n7_ n8_ n9_ n10_ n11_ n12_ n13_ n14_ n15_ n16_ n17_ n18_; clear hb hbox hg; obtain ⟨Ao130, co130, eo130⟩ := Kd.R_slice HO613.out; subst eo130; have hnb131 := NB615_589.out; have hnc131 := NB589_615.out; have hnb132 := NB615_590.out; have hnc132 := NB590_615.out; have hnb133 := NB615_610.out; have hnc133 := NB610_615.out; have hcz134_0 : w129.cell? ⟨gb615, 0, none⟩ = some (.slice none 0 0) := (E BK615.out 0).trans rfl; have hcz134_1 : w129.cell? ⟨gb615, 1, none⟩ = some (.int .i64 0) := (E BK615.out 1).trans rfl; have hfz134_0 := GT BK615.out 0; have hfz134_1 := GT BK615.out 1; have hcz135_0 : w129.cell? ⟨gb610, 0, none⟩ = some (.slice Ao122 t604.length co122) := (E BK610.out 0).trans rfl; have hcz135_1 : w129.cell? ⟨gb610, 1, none⟩ = some (.slice Ao126 t607.length co126) := (E BK610.out 1).trans rfl; have hfz135_0 := GT BK610.out 0; have hfz135_1 := GT BK610.out 1) | ((with_reducible refine gate_callee (f := 40) rfl ?_); refine goesL_ (some 31) rfl rfl Try.func40 (by kernel_rfl) rfl #[.agg #[.slice Ao122 t604.length co122, .slice Ao126 t607.length co126], .agg #[.slice Ao130 t611.length co130, .int .i64 t614]] rfl (by (try simp only [List.map_toArray, List.map_cons, List.map_nil]); first | done | rfl | (simp only [List.length_drop, List.length_take]; rfl)) ?_; (with_reducible refine (impl_ValidDensities.calls k _ _ t604 _ _ t607 _ _ t611 t614 t616 _ ?side1 ?side2 ?side3 ?side4 ?side5 ?side6 A24.out).mono ?_); (case side1 => refine (Kd.R_reads' (e := 82) (base := w.heap.size) (ok := fun k_ => (True ∧ some k_ ≠ (.slice Ao115 t593.length co115 : Value).ownBlock)) (n := t604.length) (c := co122) ?_).2.2; exact (by (with_reducible repeat (first | apply J | apply L | apply M)); exact (P (D (p := ⟨gb615, 1, none⟩) (D (p := ⟨gb615, 0, none⟩) (I HO606.out BK615.out (by decide)) (fun _ hk => hk.2) (.slice Ao130 t611.length co130)) (fun _ hk => hk.2) (.int .i64 t614)) (fun _ h_ => h_.1)))); (case side2 => exact (Kd.R_reads' HO606.out).2.1); (case side3 => refine (Kd.R_reads' (e := 84) (base := w.heap.size) (ok := fun k_ => (True ∧ some k_ ≠ (.slice Ao116 t596.length co116 : Value).ownBlock)) (n := t607.length) (c := co126) ?_).2.2; exact (by (with_reducible repeat (first | apply J | apply L | apply M)); exact (P (D (p := ⟨gb615, 1, none⟩) (D (p := ⟨gb615, 0, none⟩) (I HO609.out BK615.out (by decide)) (fun _ hk => hk.2) (.slice Ao130 t611.length co130)) (fun _ hk => hk.2) (.int .i64 t614)) (fun _ h_ => h_.1)))); (case side4 => exact (Kd.R_reads' HO609.out).2.1); (case side5 => refine (Kd.R_reads' (e := 2) (base := w.heap.size) (ok := fun k_ => (True ∧ some k_ ≠ (.slice Ao117 t599.length co117 : Value).ownBlock)) (n := t611.length) (c := co130) ?_).2.2; exact (by (with_reducible repeat (first | apply J | apply L | apply M)); exact (P (D (p := ⟨gb615, 1, none⟩) (D (p := ⟨gb615, 0, none⟩) (I HO613.out BK615.out (by decide)) (fun _ hk => hk.2) (.slice Ao130 t611.length co130)) (fun _ hk => hk.2) (.int .i64 t614)) (fun _ h_ => h_.1)))); (case side6 => exact (Kd.R_reads' HO613.out).2.1); rintro e w136 ⟨rfl, hb⟩; refine ⟨_, rfl, ?_⟩; have n0_ := G (B (by (with_reducible repeat (first | apply J | apply L | apply M)); exact (P (D (p := ⟨gb615, 1, none⟩) (D (p := ⟨gb615, 0, none⟩) (I HO595.out BK615.out (by decide)) (fun _ hk => hk.2) (.slice Ao130 t611.length co130)) (fun _ hk => hk.2) (.int .i64 t614)) (fun _ h_ => h_.1))) hb); have n1_ := G (B (by (with_reducible repeat (first | apply J | apply L | apply M)); exact (P (D (p := ⟨gb615, 1, none⟩) (D (p := ⟨gb615, 0, none⟩) (I HO598.out BK615.out (by decide)) (fun _ hk => hk.2) (.slice Ao130 t611.length co130)) (fun _ hk => hk.2) (.int .i64 t614)) (fun _ h_ => h_.1))) hb); have n2_ := G (B (by (with_reducible repeat (first | apply J | apply L | apply M)); exact (P (D (p := ⟨gb615, 1, none⟩) (D (p := ⟨gb615, 0, none⟩) (I HO601.out BK615.out (by decide)) (fun _ hk => hk.2) (.slice Ao130 t611.length co130)) (fun _ hk => hk.2) (.int .i64 t614)) (fun _ h_ => h_.1))) hb); have n3_ := G (B (by (with_reducible repeat (first | apply J | apply L | apply M)); exact (P (D (p := ⟨gb615, 1, none⟩) (D (p := ⟨gb615, 0, none⟩) (I HO606.out BK615.out (by decide)) (fun _ hk => hk.2) (.slice Ao130 t611.length co130)) (fun _ hk => hk.2) (.int .i64 t614)) (fun _ h_ => h_.1))) hb); have n4_ := G (B (by (with_reducible repeat (first | apply J | apply L | apply M)); exact (P (D (p := ⟨gb615, 1, none⟩) (D (p := ⟨gb615, 0, none⟩) (I HO609.out BK615.out (by decide)) (fun _ hk => hk.2) (.slice Ao130 t611.length co130)) (fun _ hk => hk.2) (.int .i64 t614)) (fun _ h_ => h_.1))) hb); have n5_ := G (B (by (with_reducible repeat (first | apply J | apply L | apply M)); exact (P (D (p := ⟨gb615, 1, none⟩) (D (p := ⟨gb615, 0, none⟩) (I HO613.out BK615.out (by decide)) (fun _ hk => hk.2) (.slice Ao130 t611.length co130)) (fun _ hk => hk.2) (.int .i64 t614)) (fun _ h_ => h_.1))) hb); have n6_ := G (F (g := gb589) (o := .cells #[.slice A0_0 l0_0.length c0_0, .slice A0_1 l0_1.length c0_1] 33 (0, 0)) (by (with_reducible repeat (first | refine U ?_ _ | refine X ?_ | refine V ?_ _)); refine blk_far ?_ NB589_615.out _; (with_reducible repeat (first | refine U ?_ _ | refine X ?_ | refine V ?_ _)); refine blk_far ?_ NB589_615.out _; (with_reducible repeat (first | refine U ?_ _ | refine X ?_ | refine V ?_ _)); exact BK589.out) hb); have n7_ := G (F (g := gb590) (o := .cells #[.slice A1_0 l1_0.length c1_0, .int .i64 a1_1] 24 (0, 0)) (by (with_reducible repeat (first | refine U ?_ _ | refine X ?_ | refine V ?_ _)); refine blk_far ?_ NB590_615.out _; (with_reducible repeat (first | refine U ?_ _ | refine X ?_ | refine V ?_ _)); refine blk_far ?_ NB590_615.out _; (with_reducible repeat (first | refine U ?_ _ | refine X ?_ | refine V ?_ _)); exact BK590.out) hb); have n8_ := G (F (g := gb610) (o := .cells #[.slice Ao122 t604.length co122, .slice Ao126 t607.length co126] 39 (0, 0)) (by (with_reducible repeat (first | refine U ?_ _ | refine X ?_ | refine V ?_ _)); refine blk_far ?_ NB610_615.out _; (with_reducible repeat (first | refine U ?_ _ | refine X ?_ | refine V ?_ _)); refine blk_far ?_ NB610_615.out _; (with_reducible repeat (first | refine U ?_ _ | refine X ?_ | refine V ?_ _)); exact BK610.out) hb); have n9_ := G (F (g := gb615) (o := .cells #[.slice Ao130 t611.length co130, .int .i64 t614] 27 (0, 0)) (by (with_reducible repeat (first | refine U ?_ _ | refine X ?_ | refine V ?_ _)); refine blk_put (cs := #[.slice Ao130 t611.length co130, .int .i64 0]) ?_ 1 _ rfl; (with_reducible repeat (first | refine U ?_ _ | refine X ?_ | refine V ?_ _)); refine blk_put (cs := #[.slice none 0 0, .int .i64 0]) ?_ 0 _ rfl; (with_reducible repeat (first | refine U ?_ _ | refine X ?_ | refine V ?_ _)); exact BK615.out) hb); have n10_ := G (GN (by repeat (first | (with_reducible first | exact HB.out | apply Z | apply T | apply Y | refine O ?_ GE589.out | refine O ?_ GE590.out | refine O ?_ GE610.out | refine O ?_ GE615.out) | exact HB.out)) hb); clear HO595; clear HO598; clear HO601; clear HO606; clear HO609; clear HO613; clear BK589; clear BK590; clear BK610; clear BK615; clear HB; have HO595 := n0_; have HO598 := n1_; have HO601 := n2_; have HO606 := n3_; have HO609 := n4_; have HO613 := n5_; have BK589 := n6_; have BK590 := n7_; have BK610 := n8_; have BK615 := n9_; have HB := n10_; clear n0_ n1_ n2_ n3_ n4_ n5_ n6_ n7_ n8_ n9_ n10_; (try clear hb); (try clear hb2); (try clear hk); (try clear hi)))
      have n0_ := G (M HO595.out)
      have n1_ := G (M HO598.out)
      have n2_ := G (M HO601.out)
      have n3_ := G (M HO606.out)
      have n4_ := G (M HO609.out)
      have n5_ := G (M HO613.out)
      have n6_ := G (X BK589.out)
      have n7_ := G (X BK590.out)
      have n8_ := G (X BK610.out)
      have n9_ := G (X BK615.out)
      have n10_ := G (Y HB.out)
      clear HO595
      clear HO598
      clear HO601
      clear HO606
      clear HO609
      clear HO613
      clear BK589
      clear BK590
      clear BK610
      clear BK615
      clear HB
      have HO595 := n0_
      have HO598 := n1_
      have HO601 := n2_
      have HO606 := n3_
      have HO609 := n4_
      have HO613 := n5_
      have BK589 := n6_
      have BK590 := n7_
      have BK610 := n8_
      have BK615 := n9_
      have HB := n10_
      clear n0_ n1_ n2_ n3_ n4_ n5_ n6_ n7_ n8_ n9_ n10_
      refine start_ (n := 5) (S := fun w' => w'.cell? ⟨gb610, 0, none⟩ = some (.slice Ao122 t604.length co122) ∧ w'.cell? ⟨gb610, 1, none⟩ = some (.slice Ao126 t607.length co126) ∧ w'.cell? ⟨gb589, 0, none⟩ = some (.slice A0_0 l0_0.length c0_0) ∧ w'.cell? ⟨gb589, 1, none⟩ = some (.slice A0_1 l0_1.length c0_1)) (ds := []) #[n', n', n', n', n'] (by kernel_rfl) rfl rfl ⟨(E BK610.out 0).trans rfl, (E BK610.out 1).trans rfl, (E BK589.out 0).trans rfl, (E BK589.out 1).trans rfl⟩ (fun hHeld => ?_)
      generalize w136.drew = w137 at HO595 HO598 HO601 HO606 HO609 HO613 BK589 BK590 BK610 BK615 HB hHeld ⊢
      refine take_ (i := 0) (N := some 35) (v := ?_) (a' := ?_) #[y', n', n', n', n'] rfl rfl (by kernel_rfl) (fun _ _ _ h => h) (Or.inl ⟨by rfl, ?_⟩) hHeld ?_ ?_
      rotate_left
      ·rintro w' ⟨s0, s1, s2, s3⟩
       go_simp
       with_reducible rfl
      rotate_left
      ·simp only [Act.put, z1', z2', z3', i64_w, i32_w]
       rfl
      refine take_ (i := 1) (N := some 36) (v := ?_) (a' := ?_) #[y', y', n', n', n'] rfl rfl (by kernel_rfl) (fun _ _ _ h => h) (Or.inl ⟨by rfl, ?_⟩) hHeld ?_ ?_
      rotate_left
      ·rintro w' ⟨s0, s1, s2, s3⟩
       go_simp
       with_reducible rfl
      rotate_left
      ·simp only [Act.put, z1', z2', z3', i64_w, i32_w]
       rfl
      refine one_ (i := 2) (N := some 37) #[y', y', y', n', n'] rfl rfl (by kernel_rfl) (by decide) (fun K hK => ?_)
      refine goes_ Try.func21 (by kernel_rfl) rfl #[.agg #[.slice A0_0 l0_0.length c0_0, .slice A0_1 l0_1.length c0_1]] (by rfl) rfl rfl (by (try simp only [List.map_toArray, List.map_cons, List.map_nil]); first | done | rfl | (simp only [List.length_drop, List.length_take]; rfl)) ?_
      with_reducible refine (laws_toFrame.calls k _ _ l0_0 _ _ l0_1 t617 t620 _ ?side1 ?side2 ?side3 ?side4 A58.out).mono ?_
      (case side1 => repeat (first | exact (GO HR0_0.out HB.out) | (with_reducible refine R ?_ _) | (with_reducible refine GG ?_ _) | (with_reducible refine GJ ?_)))
      (case side2 => exact HC0_0.out)
      (case side3 => repeat (first | exact (GO HR0_1.out HB.out) | (with_reducible refine R ?_ _) | (with_reducible refine GG ?_ _) | (with_reducible refine GJ ?_)))
      (case side4 => exact HC0_1.out)
      rintro e w138 ⟨v618, v621, rfl, ho0, ho1, hb⟩
      refine ⟨_, rfl, ?_⟩
      have n0_ := G (Kd.R_elder' (by (with_reducible repeat (first | apply J | apply L | apply M)); exact HO595.out) (Kd.R_base ho0) hb)
      have n1_ := G (Kd.R_elder' (by (with_reducible repeat (first | apply J | apply L | apply M)); exact HO598.out) (Kd.R_base ho1) hb)
      have n2_ := G (B (by (with_reducible repeat (first | apply J | apply L | apply M)); exact HO601.out) hb)
      have n3_ := G (Kd.R_elder' (by (with_reducible repeat (first | apply J | apply L | apply M)); exact HO606.out) (Kd.R_base ho0) hb)
      have n4_ := G (Kd.R_elder' (by (with_reducible repeat (first | apply J | apply L | apply M)); exact HO609.out) (Kd.R_base ho1) hb)
      have n5_ := G (B (by (with_reducible repeat (first | apply J | apply L | apply M)); exact HO613.out) hb)
      have n6_ := G (Kd.R_lower (GL (GL ho0 (Kd.R_lt (by (with_reducible repeat (first | apply J | apply L | apply M)); exact HO595.out))) (Kd.R_lt (by (with_reducible repeat (first | apply J | apply L | apply M)); exact HO606.out))) (GM (by repeat (first | (with_reducible first | exact HB.out | apply Z | apply T | apply Y | refine O ?_ GE589.out | refine O ?_ GE590.out | refine O ?_ GE610.out | refine O ?_ GE615.out) | exact HB.out))))
      have n7_ := G (Kd.R_lower (GL (GL ho1 (Kd.R_lt (by (with_reducible repeat (first | apply J | apply L | apply M)); exact HO598.out))) (Kd.R_lt (by (with_reducible repeat (first | apply J | apply L | apply M)); exact HO609.out))) (GM (by repeat (first | (with_reducible first | exact HB.out | apply Z | apply T | apply Y | refine O ?_ GE589.out | refine O ?_ GE590.out | refine O ?_ GE610.out | refine O ?_ GE615.out) | exact HB.out))))
      have n8_ := G (F (g := gb589) (o := .cells #[.slice A0_0 l0_0.length c0_0, .slice A0_1 l0_1.length c0_1] 33 (0, 0)) (by (with_reducible repeat (first | refine U ?_ _ | refine X ?_ | refine V ?_ _)); exact BK589.out) hb)
      have n9_ := G (F (g := gb590) (o := .cells #[.slice A1_0 l1_0.length c1_0, .int .i64 a1_1] 24 (0, 0)) (by (with_reducible repeat (first | refine U ?_ _ | refine X ?_ | refine V ?_ _)); exact BK590.out) hb)
      have n10_ := G (F (g := gb610) (o := .cells #[.slice Ao122 t604.length co122, .slice Ao126 t607.length co126] 39 (0, 0)) (by (with_reducible repeat (first | refine U ?_ _ | refine X ?_ | refine V ?_ _)); exact BK610.out) hb)
      have n11_ := G (F (g := gb615) (o := .cells #[.slice Ao130 t611.length co130, .int .i64 t614] 27 (0, 0)) (by (with_reducible repeat (first | refine U ?_ _ | refine X ?_ | refine V ?_ _)); exact BK615.out) hb)
      have n12_ := G (GN (by repeat (first | (with_reducible first | exact HB.out | apply Z | apply T | apply Y | refine O ?_ GE589.out | refine O ?_ GE590.out | refine O ?_ GE610.out | refine O ?_ GE615.out) | exact HB.out)) hb)
      clear HO595
      clear HO598
      clear HO601
      clear HO606
      clear HO609
      clear HO613
      clear BK589
      clear BK590
      clear BK610
      clear BK615
      clear HB
      have HO595 := n0_
      have HO598 := n1_
      have HO601 := n2_
      have HO606 := n3_
      have HO609 := n4_
      have HO613 := n5_
      have HO619 := n6_
      have HO622 := n7_
      have BK589 := n8_
      have BK590 := n9_
      have BK610 := n10_
      have BK615 := n11_
      have HB := n12_
      clear n0_ n1_ n2_ n3_ n4_ n5_ n6_ n7_ n8_ n9_ n10_ n11_ n12_
      (try clear hb)
      (try clear hb2)
      (try clear hk)
      (try clear hi)
      (try clear ho0)
      (try clear ho1)
      obtain ⟨Ao139, co139, eo139⟩ := Kd.R_slice HO619.out
      (first | subst eo139 | (injection eo139 with f1_ f2_ f3_; have f4_ := f1_.symm; have f5_ := f3_.symm; clear f1_ f2_ f3_; subst f4_; subst f5_))
      obtain ⟨Ao140, co140, eo140⟩ := Kd.R_slice HO622.out
      (first | subst eo140 | (injection eo140 with f1_ f2_ f3_; have f4_ := f1_.symm; have f5_ := f3_.symm; clear f1_ f2_ f3_; subst f4_; subst f5_))
      refine hK.out _ _ ⟨(E BK610.out 0).trans rfl, (E BK610.out 1).trans rfl, (E BK589.out 0).trans rfl, (E BK589.out 1).trans rfl⟩ (fun hHeld => ?_)
      clear hK K
      refine norm_ (a' := ?_) ?_ ?_
      rotate_left
      ·show Act.put _ (some 37) _ = _
       simp only [Act.put, z1', z2', z3', i64_w, i32_w]
       rfl
      refine one_ (i := 3) (N := some 38) #[y', y', y', y', n'] rfl rfl (by kernel_rfl) (by decide) (fun K hK => ?_)
      refine goes_ Try.func23 (by kernel_rfl) rfl #[.agg #[.slice Ao122 t604.length co122, .slice Ao126 t607.length co126], .agg #[.slice Ao139 t617.length co139, .slice Ao140 t620.length co140]] (by rfl) rfl rfl (by (try simp only [List.map_toArray, List.map_cons, List.map_nil]); first | done | rfl | (simp only [List.length_drop, List.length_take]; rfl)) ?_
      with_reducible refine (laws_eqFrame.calls k _ _ t604 _ _ t607 _ _ t617 _ _ t620 true _ ?side1 ?side2 ?side3 ?side4 ?side5 ?side6 ?side7 ?side8 A59.out).mono ?_
      (case side1 => repeat (first | exact (Kd.R_reads' HO606.out).2.2 | (with_reducible refine R ?_ _) | (with_reducible refine GG ?_ _) | (with_reducible refine GJ ?_)))
      (case side2 => exact (Kd.R_reads' HO606.out).2.1)
      (case side3 => repeat (first | exact (Kd.R_reads' HO609.out).2.2 | (with_reducible refine R ?_ _) | (with_reducible refine GG ?_ _) | (with_reducible refine GJ ?_)))
      (case side4 => exact (Kd.R_reads' HO609.out).2.1)
      (case side5 => repeat (first | exact (Kd.R_reads' HO619.out).2.2 | (with_reducible refine R ?_ _) | (with_reducible refine GG ?_ _) | (with_reducible refine GJ ?_)))
      (case side6 => exact (Kd.R_reads' HO619.out).2.1)
      (case side7 => repeat (first | exact (Kd.R_reads' HO622.out).2.2 | (with_reducible refine R ?_ _) | (with_reducible refine GG ?_ _) | (with_reducible refine GJ ?_)))
      (case side8 => exact (Kd.R_reads' HO622.out).2.1)
      rintro e w141 ⟨rfl, hb⟩
      refine ⟨_, rfl, ?_⟩
      have n0_ := G (B (by (with_reducible repeat (first | apply J | apply L | apply M)); exact HO595.out) hb)
      have n1_ := G (B (by (with_reducible repeat (first | apply J | apply L | apply M)); exact HO598.out) hb)
      have n2_ := G (B (by (with_reducible repeat (first | apply J | apply L | apply M)); exact HO601.out) hb)
      have n3_ := G (B (by (with_reducible repeat (first | apply J | apply L | apply M)); exact HO606.out) hb)
      have n4_ := G (B (by (with_reducible repeat (first | apply J | apply L | apply M)); exact HO609.out) hb)
      have n5_ := G (B (by (with_reducible repeat (first | apply J | apply L | apply M)); exact HO613.out) hb)
      have n6_ := G (B (by (with_reducible repeat (first | apply J | apply L | apply M)); exact HO619.out) hb)
      have n7_ := G (B (by (with_reducible repeat (first | apply J | apply L | apply M)); exact HO622.out) hb)
      have n8_ := G (F (g := gb589) (o := .cells #[.slice A0_0 l0_0.length c0_0, .slice A0_1 l0_1.length c0_1] 33 (0, 0)) (by (with_reducible repeat (first | refine U ?_ _ | refine X ?_ | refine V ?_ _)); exact BK589.out) hb)
      have n9_ := G (F (g := gb590) (o := .cells #[.slice A1_0 l1_0.length c1_0, .int .i64 a1_1] 24 (0, 0)) (by (with_reducible repeat (first | refine U ?_ _ | refine X ?_ | refine V ?_ _)); exact BK590.out) hb)
      have n10_ := G (F (g := gb610) (o := .cells #[.slice Ao122 t604.length co122, .slice Ao126 t607.length co126] 39 (0, 0)) (by (with_reducible repeat (first | refine U ?_ _ | refine X ?_ | refine V ?_ _)); exact BK610.out) hb)
      have n11_ := G (F (g := gb615) (o := .cells #[.slice Ao130 t611.length co130, .int .i64 t614] 27 (0, 0)) (by (with_reducible repeat (first | refine U ?_ _ | refine X ?_ | refine V ?_ _)); exact BK615.out) hb)
      have n12_ := G (GN (by repeat (first | (with_reducible first | exact HB.out | apply Z | apply T | apply Y | refine O ?_ GE589.out | refine O ?_ GE590.out | refine O ?_ GE610.out | refine O ?_ GE615.out) | exact HB.out)) hb)
      clear HO595
      clear HO598
      clear HO601
      clear HO606
      clear HO609
      clear HO613
      clear HO619
      clear HO622
      clear BK589
      clear BK590
      clear BK610
      clear BK615
      clear HB
      have HO595 := n0_
      have HO598 := n1_
      have HO601 := n2_
      have HO606 := n3_
      have HO609 := n4_
      have HO613 := n5_
      have HO619 := n6_
      have HO622 := n7_
      have BK589 := n8_
      have BK590 := n9_
      have BK610 := n10_
      have BK615 := n11_
      have HB := n12_
      clear n0_ n1_ n2_ n3_ n4_ n5_ n6_ n7_ n8_ n9_ n10_ n11_ n12_
      (try clear hb)
      (try clear hb2)
      (try clear hk)
      (try clear hi)
      refine hK.out _ _ ⟨(E BK610.out 0).trans rfl, (E BK610.out 1).trans rfl, (E BK589.out 0).trans rfl, (E BK589.out 1).trans rfl⟩ (fun hHeld => ?_)
      clear hK K
      refine norm_ (a' := ?_) ?_ ?_
      rotate_left
      ·show Act.put _ (some 38) _ = _
       simp only [Act.put, z1', z2', z3', i64_w, i32_w]
       rfl
      refine pure_ (i := 4) (N := some 39) (v := ?_) (a' := ?_) #[y', y', y', y', y'] rfl rfl (by kernel_rfl) (fun _ _ _ h => h) (Or.inl ⟨by rfl, ?_⟩) ?_ ?_
      rotate_left
      ·intro w'
       go_simp
       with_reducible rfl
      rotate_left
      ·simp only [Act.put, z1', z2', z3', i64_w, i32_w]
       rfl
      refine done_ (by kernel_rfl) ?_
      try go_wp2
      have n0_ := G (M HO595.out)
      have n1_ := G (M HO598.out)
      have n2_ := G (M HO601.out)
      have n3_ := G (M HO606.out)
      have n4_ := G (M HO609.out)
      have n5_ := G (M HO613.out)
      have n6_ := G (M HO619.out)
      have n7_ := G (M HO622.out)
      have n8_ := G (X BK589.out)
      have n9_ := G (X BK590.out)
      have n10_ := G (X BK610.out)
      have n11_ := G (X BK615.out)
      have n12_ := G (Y HB.out)
      clear HO595
      clear HO598
      clear HO601
      clear HO606
      clear HO609
      clear HO613
      clear HO619
      clear HO622
      clear BK589
      clear BK590
      clear BK610
      clear BK615
      clear HB
      have HO595 := n0_
      have HO598 := n1_
      have HO601 := n2_
      have HO606 := n3_
      have HO609 := n4_
      have HO613 := n5_
      have HO619 := n6_
      have HO622 := n7_
      have BK589 := n8_
      have BK590 := n9_
      have BK610 := n10_
      have BK615 := n11_
      have HB := n12_
      clear n0_ n1_ n2_ n3_ n4_ n5_ n6_ n7_ n8_ n9_ n10_ n11_ n12_
      refine start_ (n := 5) (S := fun w' => w'.cell? ⟨gb615, 0, none⟩ = some (.slice Ao130 t611.length co130) ∧ w'.cell? ⟨gb615, 1, none⟩ = some (.int .i64 t614) ∧ w'.cell? ⟨gb590, 0, none⟩ = some (.slice A1_0 l1_0.length c1_0) ∧ w'.cell? ⟨gb590, 1, none⟩ = some (.int .i64 a1_1)) (ds := []) #[n', n', n', n', n'] (by kernel_rfl) rfl rfl ⟨(E BK615.out 0).trans rfl, (E BK615.out 1).trans rfl, (E BK590.out 0).trans rfl, (E BK590.out 1).trans rfl⟩ (fun hHeld => ?_)
      generalize w141.drew = w142 at HO595 HO598 HO601 HO606 HO609 HO613 HO619 HO622 BK589 BK590 BK610 BK615 HB hHeld ⊢
      refine take_ (i := 0) (N := some 40) (v := ?_) (a' := ?_) #[y', n', n', n', n'] rfl rfl (by kernel_rfl) (fun _ _ _ h => h) (Or.inl ⟨by rfl, ?_⟩) hHeld ?_ ?_
      rotate_left
      ·rintro w' ⟨s0, s1, s2, s3⟩
       go_simp
       with_reducible rfl
      rotate_left
      ·simp only [Act.put, z1', z2', z3', i64_w, i32_w]
       rfl
      refine take_ (i := 1) (N := some 41) (v := ?_) (a' := ?_) #[y', y', n', n', n'] rfl rfl (by kernel_rfl) (fun _ _ _ h => h) (Or.inl ⟨by rfl, ?_⟩) hHeld ?_ ?_
      rotate_left
      ·rintro w' ⟨s0, s1, s2, s3⟩
       go_simp
       with_reducible rfl
      rotate_left
      ·simp only [Act.put, z1', z2', z3', i64_w, i32_w]
       rfl
      refine one_ (i := 2) (N := some 42) #[y', y', y', n', n'] rfl rfl (by kernel_rfl) (by decide) (fun K hK => ?_)
      refine goes_ Try.func16 (by kernel_rfl) rfl #[.agg #[.slice A1_0 l1_0.length c1_0, .int .i64 a1_1]] (by rfl) rfl rfl (by (try simp only [List.map_toArray, List.map_cons, List.map_nil]); first | done | rfl | (simp only [List.length_drop, List.length_take]; rfl)) ?_
      with_reducible refine (laws_toDensities.calls k _ _ l1_0 a1_1 t624 t627 _ ?side1 ?side2 A61.out).mono ?_
      (case side1 => repeat (first | exact (GO HR1_0.out HB.out) | (with_reducible refine R ?_ _) | (with_reducible refine GG ?_ _) | (with_reducible refine GJ ?_)))
      (case side2 => exact HC1_0.out)
      rintro e w143 ⟨v625, rfl, ho0, hb⟩
      refine ⟨_, rfl, ?_⟩
      have n0_ := G (B (by (with_reducible repeat (first | apply J | apply L | apply M)); exact HO595.out) hb)
      have n1_ := G (B (by (with_reducible repeat (first | apply J | apply L | apply M)); exact HO598.out) hb)
      have n2_ := G (Kd.R_elder' (by (with_reducible repeat (first | apply J | apply L | apply M)); exact HO601.out) (Kd.R_base ho0) hb)
      have n3_ := G (B (by (with_reducible repeat (first | apply J | apply L | apply M)); exact HO606.out) hb)
      have n4_ := G (B (by (with_reducible repeat (first | apply J | apply L | apply M)); exact HO609.out) hb)
      have n5_ := G (Kd.R_elder' (by (with_reducible repeat (first | apply J | apply L | apply M)); exact HO613.out) (Kd.R_base ho0) hb)
      have n6_ := G (B (by (with_reducible repeat (first | apply J | apply L | apply M)); exact HO619.out) hb)
      have n7_ := G (B (by (with_reducible repeat (first | apply J | apply L | apply M)); exact HO622.out) hb)
      have n8_ := G (Kd.R_lower (GL (GL ho0 (Kd.R_lt (by (with_reducible repeat (first | apply J | apply L | apply M)); exact HO601.out))) (Kd.R_lt (by (with_reducible repeat (first | apply J | apply L | apply M)); exact HO613.out))) (GM (by repeat (first | (with_reducible first | exact HB.out | apply Z | apply T | apply Y | refine O ?_ GE589.out | refine O ?_ GE590.out | refine O ?_ GE610.out | refine O ?_ GE615.out) | exact HB.out))))
      have n9_ := G (F (g := gb589) (o := .cells #[.slice A0_0 l0_0.length c0_0, .slice A0_1 l0_1.length c0_1] 33 (0, 0)) (by (with_reducible repeat (first | refine U ?_ _ | refine X ?_ | refine V ?_ _)); exact BK589.out) hb)
      have n10_ := G (F (g := gb590) (o := .cells #[.slice A1_0 l1_0.length c1_0, .int .i64 a1_1] 24 (0, 0)) (by (with_reducible repeat (first | refine U ?_ _ | refine X ?_ | refine V ?_ _)); exact BK590.out) hb)
      have n11_ := G (F (g := gb610) (o := .cells #[.slice Ao122 t604.length co122, .slice Ao126 t607.length co126] 39 (0, 0)) (by (with_reducible repeat (first | refine U ?_ _ | refine X ?_ | refine V ?_ _)); exact BK610.out) hb)
      have n12_ := G (F (g := gb615) (o := .cells #[.slice Ao130 t611.length co130, .int .i64 t614] 27 (0, 0)) (by (with_reducible repeat (first | refine U ?_ _ | refine X ?_ | refine V ?_ _)); exact BK615.out) hb)
      have n13_ := G (GN (by repeat (first | (with_reducible first | exact HB.out | apply Z | apply T | apply Y | refine O ?_ GE589.out | refine O ?_ GE590.out | refine O ?_ GE610.out | refine O ?_ GE615.out) | exact HB.out)) hb)
      clear HO595
      clear HO598
      clear HO601
      clear HO606
      clear HO609
      clear HO613
      clear HO619
      clear HO622
      clear BK589
      clear BK590
      clear BK610
      clear BK615
      clear HB
      have HO595 := n0_
      have HO598 := n1_
      have HO601 := n2_
      have HO606 := n3_
      have HO609 := n4_
      have HO613 := n5_
      have HO619 := n6_
      have HO622 := n7_
      have HO626 := n8_
      have BK589 := n9_
      have BK590 := n10_
      have BK610 := n11_
      have BK615 := n12_
      have HB := n13_
      clear n0_ n1_ n2_ n3_ n4_ n5_ n6_ n7_ n8_ n9_ n10_ n11_ n12_ n13_
      (try clear hb)
      (try clear hb2)
      (try clear hk)
      (try clear hi)
      (try clear ho0)
      obtain ⟨Ao144, co144, eo144⟩ := Kd.R_slice HO626.out
      (first | subst eo144 | (injection eo144 with f1_ f2_ f3_; have f4_ := f1_.symm; have f5_ := f3_.symm; clear f1_ f2_ f3_; subst f4_; subst f5_))
      refine hK.out _ _ ⟨(E BK615.out 0).trans rfl, (E BK615.out 1).trans rfl, (E BK590.out 0).trans rfl, (E BK590.out 1).trans rfl⟩ (fun hHeld => ?_)
      clear hK K
      refine norm_ (a' := ?_) ?_ ?_
      rotate_left
      ·show Act.put _ (some 42) _ = _
       simp only [Act.put, z1', z2', z3', i64_w, i32_w]
       rfl
      refine one_ (i := 3) (N := some 43) #[y', y', y', y', n'] rfl rfl (by kernel_rfl) (by decide) (fun K hK => ?_)
      refine goes_ Try.func18 (by kernel_rfl) rfl #[.agg #[.slice Ao130 t611.length co130, .int .i64 t614], .agg #[.slice Ao144 t624.length co144, .int .i64 t627]] (by rfl) rfl rfl (by (try simp only [List.map_toArray, List.map_cons, List.map_nil]); first | done | rfl | (simp only [List.length_drop, List.length_take]; rfl)) ?_
      with_reducible refine (laws_eqDensities.calls k _ _ t611 t614 _ _ t624 t627 false _ ?side1 ?side2 ?side3 ?side4 A62.out).mono ?_
      (case side1 => repeat (first | exact (Kd.R_reads' HO613.out).2.2 | (with_reducible refine R ?_ _) | (with_reducible refine GG ?_ _) | (with_reducible refine GJ ?_)))
      (case side2 => exact (Kd.R_reads' HO613.out).2.1)
      (case side3 => repeat (first | exact (Kd.R_reads' HO626.out).2.2 | (with_reducible refine R ?_ _) | (with_reducible refine GG ?_ _) | (with_reducible refine GJ ?_)))
      (case side4 => exact (Kd.R_reads' HO626.out).2.1)
      rintro e w145 ⟨rfl, hb⟩
      refine ⟨_, rfl, ?_⟩
      have n0_ := G (B (by (with_reducible repeat (first | apply J | apply L | apply M)); exact HO595.out) hb)
      have n1_ := G (B (by (with_reducible repeat (first | apply J | apply L | apply M)); exact HO598.out) hb)
      have n2_ := G (B (by (with_reducible repeat (first | apply J | apply L | apply M)); exact HO601.out) hb)
      have n3_ := G (B (by (with_reducible repeat (first | apply J | apply L | apply M)); exact HO606.out) hb)
      have n4_ := G (B (by (with_reducible repeat (first | apply J | apply L | apply M)); exact HO609.out) hb)
      have n5_ := G (B (by (with_reducible repeat (first | apply J | apply L | apply M)); exact HO613.out) hb)
      have n6_ := G (B (by (with_reducible repeat (first | apply J | apply L | apply M)); exact HO619.out) hb)
      have n7_ := G (B (by (with_reducible repeat (first | apply J | apply L | apply M)); exact HO622.out) hb)
      have n8_ := G (B (by (with_reducible repeat (first | apply J | apply L | apply M)); exact HO626.out) hb)
      have n9_ := G (F (g := gb589) (o := .cells #[.slice A0_0 l0_0.length c0_0, .slice A0_1 l0_1.length c0_1] 33 (0, 0)) (by (with_reducible repeat (first | refine U ?_ _ | refine X ?_ | refine V ?_ _)); exact BK589.out) hb)
      have n10_ := G (F (g := gb590) (o := .cells #[.slice A1_0 l1_0.length c1_0, .int .i64 a1_1] 24 (0, 0)) (by (with_reducible repeat (first | refine U ?_ _ | refine X ?_ | refine V ?_ _)); exact BK590.out) hb)
      have n11_ := G (F (g := gb610) (o := .cells #[.slice Ao122 t604.length co122, .slice Ao126 t607.length co126] 39 (0, 0)) (by (with_reducible repeat (first | refine U ?_ _ | refine X ?_ | refine V ?_ _)); exact BK610.out) hb)
      have n12_ := G (F (g := gb615) (o := .cells #[.slice Ao130 t611.length co130, .int .i64 t614] 27 (0, 0)) (by (with_reducible repeat (first | refine U ?_ _ | refine X ?_ | refine V ?_ _)); exact BK615.out) hb)
      have n13_ := G (GN (by repeat (first | (with_reducible first | exact HB.out | apply Z | apply T | apply Y | refine O ?_ GE589.out | refine O ?_ GE590.out | refine O ?_ GE610.out | refine O ?_ GE615.out) | exact HB.out)) hb)
      clear HO595
      clear HO598
      clear HO601
      clear HO606
      clear HO609
      clear HO613
      clear HO619
      clear HO622
      clear HO626
      clear BK589
      clear BK590
      clear BK610
      clear BK615
      clear HB
      have HO595 := n0_
      have HO598 := n1_
      have HO601 := n2_
      have HO606 := n3_
      have HO609 := n4_
      have HO613 := n5_
      have HO619 := n6_
      have HO622 := n7_
      have HO626 := n8_
      have BK589 := n9_
      have BK590 := n10_
      have BK610 := n11_
      have BK615 := n12_
      have HB := n13_
      clear n0_ n1_ n2_ n3_ n4_ n5_ n6_ n7_ n8_ n9_ n10_ n11_ n12_ n13_
      (try clear hb)
      (try clear hb2)
      (try clear hk)
      (try clear hi)
      refine hK.out _ _ ⟨(E BK615.out 0).trans rfl, (E BK615.out 1).trans rfl, (E BK590.out 0).trans rfl, (E BK590.out 1).trans rfl⟩ (fun hHeld => ?_)
      clear hK K
      refine norm_ (a' := ?_) ?_ ?_
      rotate_left
      ·show Act.put _ (some 43) _ = _
       simp only [Act.put, z1', z2', z3', i64_w, i32_w]
       rfl
      refine pure_ (i := 4) (N := some 44) (v := ?_) (a' := ?_) #[y', y', y', y', y'] rfl rfl (by kernel_rfl) (fun _ _ _ h => h) (Or.inl ⟨by rfl, ?_⟩) ?_ ?_
      rotate_left
      ·intro w'
       go_simp
       with_reducible rfl
      rotate_left
      ·simp only [Act.put, z1', z2', z3', i64_w, i32_w]
       rfl
      refine done_ (by kernel_rfl) ?_
      try go_wp2
      go_ret
      exact ⟨by first | rfl | (simp [errW_none, errW_some] <;> rfl) | (simp [*, errW_none, errW_some] <;> rfl), by repeat (first | (with_reducible first | exact HB.out | apply Z | apply T | apply Y | refine O ?_ GE589.out | refine O ?_ GE590.out | refine O ?_ GE610.out | refine O ?_ GE615.out) | exact HB.out)⟩
    ·replace c60 := Bool.eq_false_iff.mpr c60
     subst c60
     have H1 : (some false) = some r := by rw [if_neg (show ¬ (false = true) by decide)] at H; exact H
     clear H
     have H := H1
     clear H1
     obtain rfl := Option.some.inj H
     go_enter Try.func9, Try.ntmps9
     try go_wp2_with (first | ((with_reducible refine gate_dst (N := 2) rfl ?_); refine box_event ?hg (N := 2) ?hd (cs := #[.slice A0_0 l0_0.length c0_0, .slice A0_1 l0_1.length c0_1]) (t := 33) ?hr ?_; (case hd => rfl); (case hg => rfl); (case hr => first | (go_simp; done) | (go_simp; rfl)); intro gb589 hg w146 hbox hb; have n0_ := G (GN (by repeat (first | (with_reducible first | exact HB.out | apply Z | apply T | apply Y) | exact HB.out)) hb); have n1_ := G (hbox); have n2_ := G ((by rw [hg]; exact (GM (by repeat (first | (with_reducible first | exact HB.out | apply Z | apply T | apply Y) | exact HB.out))) : w.heap.size ≤ gb589)); have n3_ := G ((by rw [hg]; exact (GM (by repeat (first | (with_reducible first | exact HB.out | apply Z | apply T | apply Y) | exact HB.out))) : w.heap.size ≤ gb589)); clear HB; have HB := n0_; have BK589 := n1_; have GW589 := n2_; have GE589 := n3_; clear n0_ n1_ n2_ n3_; clear hb hbox hg) | ((with_reducible refine gate_dst (N := 3) rfl ?_); refine box_event ?hg (N := 3) ?hd (cs := #[.slice A1_0 l1_0.length c1_0, .int .i64 a1_1]) (t := 24) ?hr ?_; (case hd => rfl); (case hg => rfl); (case hr => first | (go_simp; done) | (go_simp; rfl)); intro gb590 hg w147 hbox hb; have n0_ := G (F (g := gb589) (o := .cells #[.slice A0_0 l0_0.length c0_0, .slice A0_1 l0_1.length c0_1] 33 (0, 0)) (by (with_reducible repeat (first | refine U ?_ _ | refine X ?_ | refine V ?_ _)); exact BK589.out) hb); have n1_ := G (GN (by repeat (first | (with_reducible first | exact HB.out | apply Z | apply T | apply Y | refine O ?_ GE589.out) | exact HB.out)) hb); have n2_ := G (hbox); have n3_ := G ((by rw [hg]; exact (GM (by repeat (first | (with_reducible first | exact HB.out | apply Z | apply T | apply Y | refine O ?_ GE589.out) | exact HB.out))) : w.heap.size ≤ gb590)); have n4_ := G ((by rw [hg]; exact (GM (by repeat (first | (with_reducible first | exact HB.out | apply Z | apply T | apply Y | refine O ?_ GE589.out) | exact HB.out))) : w.heap.size ≤ gb590)); have n5_ := G ((by rw [hg]; exact Nat.ne_of_lt (blk_lt (g := gb589) (o := .cells #[.slice A0_0 l0_0.length c0_0, .slice A0_1 l0_1.length c0_1] 33 (0, 0)) (by (with_reducible repeat (first | refine U ?_ _ | refine X ?_ | refine V ?_ _)); exact BK589.out)) : gb589 ≠ gb590)); have n6_ := G ((by rw [hg]; exact Nat.ne_of_gt (blk_lt (g := gb589) (o := .cells #[.slice A0_0 l0_0.length c0_0, .slice A0_1 l0_1.length c0_1] 33 (0, 0)) (by (with_reducible repeat (first | refine U ?_ _ | refine X ?_ | refine V ?_ _)); exact BK589.out)) : gb590 ≠ gb589)); clear BK589; clear HB; have BK589 := n0_; have HB := n1_; have BK590 := n2_; have GW590 := n3_; have GE590 := n4_; have NB589_590 := n5_; have NB590_589 := n6_; clear n0_ n1_ n2_ n3_ n4_ n5_ n6_; clear hb hbox hg; have hnb148 := NB589_590.out; have hnc148 := NB590_589.out; have hcz149_0 : w147.cell? ⟨gb589, 0, none⟩ = some (.slice A0_0 l0_0.length c0_0) := (E BK589.out 0).trans rfl; have hcz149_1 : w147.cell? ⟨gb589, 1, none⟩ = some (.slice A0_1 l0_1.length c0_1) := (E BK589.out 1).trans rfl; have hfz149_0 := GT BK589.out 0; have hfz149_1 := GT BK589.out 1) | ((with_reducible refine gate_callee (f := 19) rfl ?_); refine goesL_ (some 12) rfl rfl Try.func19 (by kernel_rfl) rfl #[.agg #[.slice A0_0 l0_0.length c0_0, .slice A0_1 l0_1.length c0_1], .int .i64 1048576] rfl (by (try simp only [List.map_toArray, List.map_cons, List.map_nil]); first | done | rfl | (simp only [List.length_drop, List.length_take]; rfl)) ?_; (with_reducible refine (laws_szFrame.calls _ _ l0_0 _ _ l0_1 1048576 t591 _ ?side1 ?side2 ?side3 ?side4 A3.out).mono ?_); (case side1 => repeat (first | exact (GO HR0_0.out HB.out) | (with_reducible refine R ?_ _) | (with_reducible refine GG ?_ _) | (with_reducible refine GJ ?_))); (case side2 => exact HC0_0.out); (case side3 => repeat (first | exact (GO HR0_1.out HB.out) | (with_reducible refine R ?_ _) | (with_reducible refine GG ?_ _) | (with_reducible refine GJ ?_))); (case side4 => exact HC0_1.out); rintro e w150 ⟨rfl, hb⟩; refine ⟨_, rfl, ?_⟩; have n0_ := G (F (g := gb589) (o := .cells #[.slice A0_0 l0_0.length c0_0, .slice A0_1 l0_1.length c0_1] 33 (0, 0)) (by (with_reducible repeat (first | refine U ?_ _ | refine X ?_ | refine V ?_ _)); exact BK589.out) hb); have n1_ := G (F (g := gb590) (o := .cells #[.slice A1_0 l1_0.length c1_0, .int .i64 a1_1] 24 (0, 0)) (by (with_reducible repeat (first | refine U ?_ _ | refine X ?_ | refine V ?_ _)); exact BK590.out) hb); have n2_ := G (GN (by repeat (first | (with_reducible first | exact HB.out | apply Z | apply T | apply Y | refine O ?_ GE589.out | refine O ?_ GE590.out) | exact HB.out)) hb); clear BK589; clear BK590; clear HB; have BK589 := n0_; have BK590 := n1_; have HB := n2_; clear n0_ n1_ n2_; (try clear hb); (try clear hb2); (try clear hk); (try clear hi); have hcz151_0 : w150.cell? ⟨gb590, 0, none⟩ = some (.slice A1_0 l1_0.length c1_0) := (E BK590.out 0).trans rfl; have hcz151_1 : w150.cell? ⟨gb590, 1, none⟩ = some (.int .i64 a1_1) := (E BK590.out 1).trans rfl; have hfz151_0 := GT BK590.out 0; have hfz151_1 := GT BK590.out 1) | ((with_reducible refine gate_callee (f := 14) rfl ?_); refine goesL_ (some 17) rfl rfl Try.func14 (by kernel_rfl) rfl #[.agg #[.slice A1_0 l1_0.length c1_0, .int .i64 a1_1], .int .i64 t591] rfl (by (try simp only [List.map_toArray, List.map_cons, List.map_nil]); first | done | rfl | (simp only [List.length_drop, List.length_take]; rfl)) ?_; (with_reducible refine (laws_szDensities.calls _ _ l1_0 a1_1 t591 t592 _ ?side1 ?side2 A10.out).mono ?_); (case side1 => repeat (first | exact (GO HR1_0.out HB.out) | (with_reducible refine R ?_ _) | (with_reducible refine GG ?_ _) | (with_reducible refine GJ ?_))); (case side2 => exact HC1_0.out); rintro e w152 ⟨rfl, hb⟩; refine ⟨_, rfl, ?_⟩; have n0_ := G (F (g := gb589) (o := .cells #[.slice A0_0 l0_0.length c0_0, .slice A0_1 l0_1.length c0_1] 33 (0, 0)) (by (with_reducible repeat (first | refine U ?_ _ | refine X ?_ | refine V ?_ _)); exact BK589.out) hb); have n1_ := G (F (g := gb590) (o := .cells #[.slice A1_0 l1_0.length c1_0, .int .i64 a1_1] 24 (0, 0)) (by (with_reducible repeat (first | refine U ?_ _ | refine X ?_ | refine V ?_ _)); exact BK590.out) hb); have n2_ := G (GN (by repeat (first | (with_reducible first | exact HB.out | apply Z | apply T | apply Y | refine O ?_ GE589.out | refine O ?_ GE590.out) | exact HB.out)) hb); clear BK589; clear BK590; clear HB; have BK589 := n0_; have BK590 := n1_; have HB := n2_; clear n0_ n1_ n2_; (try clear hb); (try clear hb2); (try clear hk); (try clear hi)))
     have n0_ := G (X BK589.out)
     have n1_ := G (X BK590.out)
     have n2_ := G (Y HB.out)
     clear BK589
     clear BK590
     clear HB
     have BK589 := n0_
     have BK590 := n1_
     have HB := n2_
     clear n0_ n1_ n2_
     refine start_ (n := 6) (S := fun w' => w'.cell? ⟨gb589, 0, none⟩ = some (.slice A0_0 l0_0.length c0_0) ∧ w'.cell? ⟨gb589, 1, none⟩ = some (.slice A0_1 l0_1.length c0_1) ∧ w'.cell? ⟨gb590, 0, none⟩ = some (.slice A1_0 l1_0.length c1_0) ∧ w'.cell? ⟨gb590, 1, none⟩ = some (.int .i64 a1_1)) (ds := []) #[n', n', n', n', n', n'] (by kernel_rfl) rfl rfl ⟨(E BK589.out 0).trans rfl, (E BK589.out 1).trans rfl, (E BK590.out 0).trans rfl, (E BK590.out 1).trans rfl⟩ (fun hHeld => ?_)
     generalize w152.drew = w153 at BK589 BK590 HB hHeld ⊢
     refine take_ (i := 0) (N := some 20) (v := ?_) (a' := ?_) #[y', n', n', n', n', n'] rfl rfl (by kernel_rfl) (fun _ _ _ h => h) (Or.inl ⟨by rfl, ?_⟩) hHeld ?_ ?_
     rotate_left
     ·rintro w' ⟨s0, s1, s2, s3⟩
      go_simp
      with_reducible rfl
     rotate_left
     ·simp only [Act.put, z1', z2', z3', i64_w, i32_w]
      rfl
     refine take_ (i := 2) (N := some 22) (v := ?_) (a' := ?_) #[y', n', y', n', n', n'] rfl rfl (by kernel_rfl) (fun _ _ _ h => h) (Or.inl ⟨by rfl, ?_⟩) hHeld ?_ ?_
     rotate_left
     ·rintro w' ⟨s0, s1, s2, s3⟩
      go_simp
      with_reducible rfl
     rotate_left
     ·simp only [Act.put, z1', z2', z3', i64_w, i32_w]
      rfl
     refine one_ (i := 1) (N := some 21) #[y', y', y', n', n', n'] rfl rfl (by kernel_rfl) (by decide) (fun K hK => ?_)
     refine goes_ Try.func21 (by kernel_rfl) rfl #[.agg #[.slice A0_0 l0_0.length c0_0, .slice A0_1 l0_1.length c0_1]] (by rfl) rfl rfl (by (try simp only [List.map_toArray, List.map_cons, List.map_nil]); first | done | rfl | (simp only [List.length_drop, List.length_take]; rfl)) ?_
     with_reducible refine (laws_toFrame.calls k _ _ l0_0 _ _ l0_1 t593 t596 _ ?side1 ?side2 ?side3 ?side4 A19.out).mono ?_
     (case side1 => repeat (first | exact (GO HR0_0.out HB.out) | (with_reducible refine R ?_ _) | (with_reducible refine GG ?_ _) | (with_reducible refine GJ ?_)))
     (case side2 => exact HC0_0.out)
     (case side3 => repeat (first | exact (GO HR0_1.out HB.out) | (with_reducible refine R ?_ _) | (with_reducible refine GG ?_ _) | (with_reducible refine GJ ?_)))
     (case side4 => exact HC0_1.out)
     rintro e w154 ⟨v594, v597, rfl, ho0, ho1, hb⟩
     refine ⟨_, rfl, ?_⟩
     have n0_ := G (Kd.R_lower ho0 (GM (by repeat (first | (with_reducible first | exact HB.out | apply Z | apply T | apply Y | refine O ?_ GE589.out | refine O ?_ GE590.out) | exact HB.out))))
     have n1_ := G (Kd.R_lower ho1 (GM (by repeat (first | (with_reducible first | exact HB.out | apply Z | apply T | apply Y | refine O ?_ GE589.out | refine O ?_ GE590.out) | exact HB.out))))
     have n2_ := G (F (g := gb589) (o := .cells #[.slice A0_0 l0_0.length c0_0, .slice A0_1 l0_1.length c0_1] 33 (0, 0)) (by (with_reducible repeat (first | refine U ?_ _ | refine X ?_ | refine V ?_ _)); exact BK589.out) hb)
     have n3_ := G (F (g := gb590) (o := .cells #[.slice A1_0 l1_0.length c1_0, .int .i64 a1_1] 24 (0, 0)) (by (with_reducible repeat (first | refine U ?_ _ | refine X ?_ | refine V ?_ _)); exact BK590.out) hb)
     have n4_ := G (GN (by repeat (first | (with_reducible first | exact HB.out | apply Z | apply T | apply Y | refine O ?_ GE589.out | refine O ?_ GE590.out) | exact HB.out)) hb)
     clear BK589
     clear BK590
     clear HB
     have HO595 := n0_
     have HO598 := n1_
     have BK589 := n2_
     have BK590 := n3_
     have HB := n4_
     clear n0_ n1_ n2_ n3_ n4_
     (try clear hb)
     (try clear hb2)
     (try clear hk)
     (try clear hi)
     (try clear ho0)
     (try clear ho1)
     refine hK.out _ _ ⟨(E BK589.out 0).trans rfl, (E BK589.out 1).trans rfl, (E BK590.out 0).trans rfl, (E BK590.out 1).trans rfl⟩ (fun hHeld => ?_)
     clear hK K
     refine norm_ (a' := ?_) ?_ ?_
     rotate_left
     ·show Act.put _ (some 21) _ = _
      simp only [Act.put, z1', z2', z3', i64_w, i32_w]
      rfl
     refine one_ (i := 3) (N := some 23) #[y', y', y', y', n', n'] rfl rfl (by kernel_rfl) (by decide) (fun K hK => ?_)
     refine goes_ Try.func16 (by kernel_rfl) rfl #[.agg #[.slice A1_0 l1_0.length c1_0, .int .i64 a1_1]] (by rfl) rfl rfl (by (try simp only [List.map_toArray, List.map_cons, List.map_nil]); first | done | rfl | (simp only [List.length_drop, List.length_take]; rfl)) ?_
     with_reducible refine (laws_toDensities.calls k _ _ l1_0 a1_1 t599 t602 _ ?side1 ?side2 A20.out).mono ?_
     (case side1 => repeat (first | exact (GO HR1_0.out HB.out) | (with_reducible refine R ?_ _) | (with_reducible refine GG ?_ _) | (with_reducible refine GJ ?_)))
     (case side2 => exact HC1_0.out)
     rintro e w155 ⟨v600, rfl, ho0, hb⟩
     refine ⟨_, rfl, ?_⟩
     have n0_ := G (B (by (with_reducible repeat (first | apply J | apply L | apply M)); exact HO595.out) hb)
     have n1_ := G (B (by (with_reducible repeat (first | apply J | apply L | apply M)); exact HO598.out) hb)
     have n2_ := G (Kd.R_lower ho0 (GM (by repeat (first | (with_reducible first | exact HB.out | apply Z | apply T | apply Y | refine O ?_ GE589.out | refine O ?_ GE590.out) | exact HB.out))))
     have n3_ := G (F (g := gb589) (o := .cells #[.slice A0_0 l0_0.length c0_0, .slice A0_1 l0_1.length c0_1] 33 (0, 0)) (by (with_reducible repeat (first | refine U ?_ _ | refine X ?_ | refine V ?_ _)); exact BK589.out) hb)
     have n4_ := G (F (g := gb590) (o := .cells #[.slice A1_0 l1_0.length c1_0, .int .i64 a1_1] 24 (0, 0)) (by (with_reducible repeat (first | refine U ?_ _ | refine X ?_ | refine V ?_ _)); exact BK590.out) hb)
     have n5_ := G (GN (by repeat (first | (with_reducible first | exact HB.out | apply Z | apply T | apply Y | refine O ?_ GE589.out | refine O ?_ GE590.out) | exact HB.out)) hb)
     clear HO595
     clear HO598
     clear BK589
     clear BK590
     clear HB
     have HO595 := n0_
     have HO598 := n1_
     have HO601 := n2_
     have BK589 := n3_
     have BK590 := n4_
     have HB := n5_
     clear n0_ n1_ n2_ n3_ n4_ n5_
     (try clear hb)
     (try clear hb2)
     (try clear hk)
     (try clear hi)
     (try clear ho0)
     obtain ⟨Ao156, co156, eo156⟩ := Kd.R_slice HO595.out
     (first | subst eo156 | (injection eo156 with f1_ f2_ f3_; have f4_ := f1_.symm; have f5_ := f3_.symm; clear f1_ f2_ f3_; subst f4_; subst f5_))
     obtain ⟨Ao157, co157, eo157⟩ := Kd.R_slice HO598.out
     (first | subst eo157 | (injection eo157 with f1_ f2_ f3_; have f4_ := f1_.symm; have f5_ := f3_.symm; clear f1_ f2_ f3_; subst f4_; subst f5_))
     obtain ⟨Ao158, co158, eo158⟩ := Kd.R_slice HO601.out
     (first | subst eo158 | (injection eo158 with f1_ f2_ f3_; have f4_ := f1_.symm; have f5_ := f3_.symm; clear f1_ f2_ f3_; subst f4_; subst f5_))
     refine hK.out _ _ ⟨(E BK589.out 0).trans rfl, (E BK589.out 1).trans rfl, (E BK590.out 0).trans rfl, (E BK590.out 1).trans rfl⟩ (fun hHeld => ?_)
     clear hK K
     refine norm_ (a' := ?_) ?_ ?_
     rotate_left
     ·show Act.put _ (some 23) _ = _
      simp only [Act.put, z1', z2', z3', i64_w, i32_w]
      rfl
     refine one_ (i := 4) (N := some 24) #[y', y', y', y', y', n'] rfl rfl (by kernel_rfl) (by decide) (fun K hK => ?_)
     refine goes_ Try.func39 (by kernel_rfl) rfl #[.agg #[.slice Ao156 t593.length co156, .slice Ao157 t596.length co157], .agg #[.slice Ao158 t599.length co158, .int .i64 t602]] (by rfl) rfl rfl (by (try simp only [List.map_toArray, List.map_cons, List.map_nil]); first | done | rfl | (simp only [List.length_drop, List.length_take]; rfl)) ?_
     with_reducible refine (spec_ValidDensities.calls k _ _ t593 _ _ t596 _ _ t599 t602 t603 _ ?side1 ?side2 ?side3 ?side4 ?side5 ?side6 A21.out).mono ?_
     (case side1 => repeat (first | exact (Kd.R_reads' HO595.out).2.2 | (with_reducible refine R ?_ _) | (with_reducible refine GG ?_ _) | (with_reducible refine GJ ?_)))
     (case side2 => exact (Kd.R_reads' HO595.out).2.1)
     (case side3 => repeat (first | exact (Kd.R_reads' HO598.out).2.2 | (with_reducible refine R ?_ _) | (with_reducible refine GG ?_ _) | (with_reducible refine GJ ?_)))
     (case side4 => exact (Kd.R_reads' HO598.out).2.1)
     (case side5 => repeat (first | exact (Kd.R_reads' HO601.out).2.2 | (with_reducible refine R ?_ _) | (with_reducible refine GG ?_ _) | (with_reducible refine GJ ?_)))
     (case side6 => exact (Kd.R_reads' HO601.out).2.1)
     rintro e w159 ⟨rfl, hb⟩
     refine ⟨_, rfl, ?_⟩
     have n0_ := G (B (by (with_reducible repeat (first | apply J | apply L | apply M)); exact HO595.out) hb)
     have n1_ := G (B (by (with_reducible repeat (first | apply J | apply L | apply M)); exact HO598.out) hb)
     have n2_ := G (B (by (with_reducible repeat (first | apply J | apply L | apply M)); exact HO601.out) hb)
     have n3_ := G (F (g := gb589) (o := .cells #[.slice A0_0 l0_0.length c0_0, .slice A0_1 l0_1.length c0_1] 33 (0, 0)) (by (with_reducible repeat (first | refine U ?_ _ | refine X ?_ | refine V ?_ _)); exact BK589.out) hb)
     have n4_ := G (F (g := gb590) (o := .cells #[.slice A1_0 l1_0.length c1_0, .int .i64 a1_1] 24 (0, 0)) (by (with_reducible repeat (first | refine U ?_ _ | refine X ?_ | refine V ?_ _)); exact BK590.out) hb)
     have n5_ := G (GN (by repeat (first | (with_reducible first | exact HB.out | apply Z | apply T | apply Y | refine O ?_ GE589.out | refine O ?_ GE590.out) | exact HB.out)) hb)
     clear HO595
     clear HO598
     clear HO601
     clear BK589
     clear BK590
     clear HB
     have HO595 := n0_
     have HO598 := n1_
     have HO601 := n2_
     have BK589 := n3_
     have BK590 := n4_
     have HB := n5_
     clear n0_ n1_ n2_ n3_ n4_ n5_
     (try clear hb)
     (try clear hb2)
     (try clear hk)
     (try clear hi)
     refine hK.out _ _ ⟨(E BK589.out 0).trans rfl, (E BK589.out 1).trans rfl, (E BK590.out 0).trans rfl, (E BK590.out 1).trans rfl⟩ (fun hHeld => ?_)
     clear hK K
     refine norm_ (a' := ?_) ?_ ?_
     rotate_left
     ·show Act.put _ (some 24) _ = _
      simp only [Act.put, z1', z2', z3', i64_w, i32_w]
      rfl
     refine pure_ (i := 5) (N := some 6) (v := ?_) (a' := ?_) #[y', y', y', y', y', y'] rfl rfl (by kernel_rfl) (fun _ _ _ h => h) (Or.inl ⟨by rfl, ?_⟩) ?_ ?_
     rotate_left
     ·intro w'
      go_simp
      with_reducible rfl
     rotate_left
     ·simp only [Act.put, z1', z2', z3', i64_w, i32_w]
      rfl
     refine done_ (by kernel_rfl) ?_
     have hcz160_0 : w159.cell? ⟨gb589, 0, none⟩ = some (.slice A0_0 l0_0.length c0_0) := (E BK589.out 0).trans rfl
     have hcz160_1 : w159.cell? ⟨gb589, 1, none⟩ = some (.slice A0_1 l0_1.length c0_1) := (E BK589.out 1).trans rfl
     have hfz160_0 := GT BK589.out 0
     have hfz160_1 := GT BK589.out 1
     try go_wp2_with (first | ((with_reducible refine gate_callee (f := 21) rfl ?_); refine goesL_ (some 26) rfl rfl Try.func21 (by kernel_rfl) rfl #[.agg #[.slice A0_0 l0_0.length c0_0, .slice A0_1 l0_1.length c0_1]] rfl (by (try simp only [List.map_toArray, List.map_cons, List.map_nil]); first | done | rfl | (simp only [List.length_drop, List.length_take]; rfl)) ?_; (with_reducible refine (laws_toFrame.calls k _ _ l0_0 _ _ l0_1 t604 t607 _ ?side1 ?side2 ?side3 ?side4 A22.out).mono ?_); (case side1 => repeat (first | exact (GO HR0_0.out HB.out) | (with_reducible refine R ?_ _) | (with_reducible refine GG ?_ _) | (with_reducible refine GJ ?_))); (case side2 => exact HC0_0.out); (case side3 => repeat (first | exact (GO HR0_1.out HB.out) | (with_reducible refine R ?_ _) | (with_reducible refine GG ?_ _) | (with_reducible refine GJ ?_))); (case side4 => exact HC0_1.out); rintro e w161 ⟨v605, v608, rfl, ho0, ho1, hb⟩; refine ⟨_, rfl, ?_⟩; have n0_ := G (Kd.R_elder' (by (with_reducible repeat (first | apply J | apply L | apply M)); exact HO595.out) (Kd.R_base ho0) hb); have n1_ := G (Kd.R_elder' (by (with_reducible repeat (first | apply J | apply L | apply M)); exact HO598.out) (Kd.R_base ho1) hb); have n2_ := G (B (by (with_reducible repeat (first | apply J | apply L | apply M)); exact HO601.out) hb); have n3_ := G (Kd.R_lower (GL ho0 (Kd.R_lt (by (with_reducible repeat (first | apply J | apply L | apply M)); exact HO595.out))) (GM (by repeat (first | (with_reducible first | exact HB.out | apply Z | apply T | apply Y | refine O ?_ GE589.out | refine O ?_ GE590.out) | exact HB.out)))); have n4_ := G (Kd.R_lower (GL ho1 (Kd.R_lt (by (with_reducible repeat (first | apply J | apply L | apply M)); exact HO598.out))) (GM (by repeat (first | (with_reducible first | exact HB.out | apply Z | apply T | apply Y | refine O ?_ GE589.out | refine O ?_ GE590.out) | exact HB.out)))); have n5_ := G (F (g := gb589) (o := .cells #[.slice A0_0 l0_0.length c0_0, .slice A0_1 l0_1.length c0_1] 33 (0, 0)) (by (with_reducible repeat (first | refine U ?_ _ | refine X ?_ | refine V ?_ _)); exact BK589.out) hb); have n6_ := G (F (g := gb590) (o := .cells #[.slice A1_0 l1_0.length c1_0, .int .i64 a1_1] 24 (0, 0)) (by (with_reducible repeat (first | refine U ?_ _ | refine X ?_ | refine V ?_ _)); exact BK590.out) hb); have n7_ := G (GN (by repeat (first | (with_reducible first | exact HB.out | apply Z | apply T | apply Y | refine O ?_ GE589.out | refine O ?_ GE590.out) | exact HB.out)) hb); clear HO595; clear HO598; clear HO601; clear BK589; clear BK590; clear HB; have HO595 := n0_; have HO598 := n1_; have HO601 := n2_; have HO606 := n3_; have HO609 := n4_; have BK589 := n5_; have BK590 := n6_; have HB := n7_; clear n0_ n1_ n2_ n3_ n4_ n5_ n6_ n7_; (try clear hb); (try clear hb2); (try clear hk); (try clear hi); (try clear ho0); (try clear ho1)) | ((with_reducible refine gate_dst (N := 7) rfl ?_); refine box_event ?hg (N := 7) ?hd (cs := #[.slice none 0 0, .slice none 0 0]) (t := 39) ?hr ?_; (case hd => rfl); (case hg => rfl); (case hr => first | (go_simp; done) | (go_simp; rfl)); intro gb610 hg w162 hbox hb; have n0_ := G (B (by (with_reducible repeat (first | apply J | apply L | apply M)); exact HO595.out) hb); have n1_ := G (B (by (with_reducible repeat (first | apply J | apply L | apply M)); exact HO598.out) hb); have n2_ := G (B (by (with_reducible repeat (first | apply J | apply L | apply M)); exact HO601.out) hb); have n3_ := G (B (by (with_reducible repeat (first | apply J | apply L | apply M)); exact HO606.out) hb); have n4_ := G (B (by (with_reducible repeat (first | apply J | apply L | apply M)); exact HO609.out) hb); have n5_ := G (F (g := gb589) (o := .cells #[.slice A0_0 l0_0.length c0_0, .slice A0_1 l0_1.length c0_1] 33 (0, 0)) (by (with_reducible repeat (first | refine U ?_ _ | refine X ?_ | refine V ?_ _)); exact BK589.out) hb); have n6_ := G (F (g := gb590) (o := .cells #[.slice A1_0 l1_0.length c1_0, .int .i64 a1_1] 24 (0, 0)) (by (with_reducible repeat (first | refine U ?_ _ | refine X ?_ | refine V ?_ _)); exact BK590.out) hb); have n7_ := G (GN (by repeat (first | (with_reducible first | exact HB.out | apply Z | apply T | apply Y | refine O ?_ GE589.out | refine O ?_ GE590.out) | exact HB.out)) hb); have n8_ := G (hbox); have n9_ := G ((by rw [hg]; exact (GM (by repeat (first | (with_reducible first | exact HB.out | apply Z | apply T | apply Y | refine O ?_ GE589.out | refine O ?_ GE590.out) | exact HB.out))) : w.heap.size ≤ gb610)); have n10_ := G ((by rw [hg]; exact (GM (by repeat (first | (with_reducible first | exact HB.out | apply Z | apply T | apply Y | refine O ?_ GE589.out | refine O ?_ GE590.out) | exact HB.out))) : w.heap.size ≤ gb610)); have n11_ := G ((by rw [hg]; exact Nat.ne_of_lt (blk_lt (g := gb589) (o := .cells #[.slice A0_0 l0_0.length c0_0, .slice A0_1 l0_1.length c0_1] 33 (0, 0)) (by (with_reducible repeat (first | refine U ?_ _ | refine X ?_ | refine V ?_ _)); exact BK589.out)) : gb589 ≠ gb610)); have n12_ := G ((by rw [hg]; exact Nat.ne_of_gt (blk_lt (g := gb589) (o := .cells #[.slice A0_0 l0_0.length c0_0, .slice A0_1 l0_1.length c0_1] 33 (0, 0)) (by (with_reducible repeat (first | refine U ?_ _ | refine X ?_ | refine V ?_ _)); exact BK589.out)) : gb610 ≠ gb589)); have n13_ := G ((by rw [hg]; exact Nat.ne_of_lt (blk_lt (g := gb590) (o := .cells #[.slice A1_0 l1_0.length c1_0, .int .i64 a1_1] 24 (0, 0)) (by (with_reducible repeat (first | refine U ?_ _ | refine X ?_ | refine V ?_ _)); exact BK590.out)) : gb590 ≠ gb610)); have n14_ := G ((by rw [hg]; exact Nat.ne_of_gt (blk_lt (g := gb590) (o := .cells #[.slice A1_0 l1_0.length c1_0, .int .i64 a1_1] 24 (0, 0)) (by (with_reducible repeat (first | refine U ?_ _ | refine X ?_ | refine V ?_ _)); exact BK590.out)) : gb610 ≠ gb590)); clear HO595; clear HO598; clear HO601; clear HO606; clear HO609; clear BK589; clear BK590; clear HB; have HO595 := n0_; have HO598 := n1_; have HO601 := n2_; have HO606 := n3_; have HO609 := n4_; have BK589 := n5_; have BK590 := n6_; have HB := n7_; have BK610 := n8_; have GW610 := n9_; have GE610 := n10_; have NB589_610 := n11_; have NB610_589 := n12_; have NB590_610 := n13_; have NB610_590 := n14_; clear n0_ n1_ n2_ n3_ n4_ n5_ n6_ n7_ n8_ n9_ n10_ n11_ n12_ n13_ n14_; clear hb hbox hg; obtain ⟨Ao163, co163, eo163⟩ := Kd.R_slice HO606.out; subst eo163; have hnb164 := NB610_589.out; have hnc164 := NB589_610.out; have hnb165 := NB610_590.out; have hnc165 := NB590_610.out; have hcz166_0 : w162.cell? ⟨gb610, 0, none⟩ = some (.slice none 0 0) := (E BK610.out 0).trans rfl; have hcz166_1 : w162.cell? ⟨gb610, 1, none⟩ = some (.slice none 0 0) := (E BK610.out 1).trans rfl; have hfz166_0 := GT BK610.out 0; have hfz166_1 := GT BK610.out 1; obtain ⟨Ao167, co167, eo167⟩ := Kd.R_slice HO609.out; subst eo167; have hcz168_0 : w162.cell? ⟨gb590, 0, none⟩ = some (.slice A1_0 l1_0.length c1_0) := (E BK590.out 0).trans rfl; have hcz168_1 : w162.cell? ⟨gb590, 1, none⟩ = some (.int .i64 a1_1) := (E BK590.out 1).trans rfl; have hfz168_0 := GT BK590.out 0; have hfz168_1 := GT BK590.out 1) | ((with_reducible refine gate_callee (f := 16) rfl ?_); refine goesL_ (some 28) rfl rfl Try.func16 (by kernel_rfl) rfl #[.agg #[.slice A1_0 l1_0.length c1_0, .int .i64 a1_1]] rfl (by (try simp only [List.map_toArray, List.map_cons, List.map_nil]); first | done | rfl | (simp only [List.length_drop, List.length_take]; rfl)) ?_; (with_reducible refine (laws_toDensities.calls k _ _ l1_0 a1_1 t611 t614 _ ?side1 ?side2 A23.out).mono ?_); (case side1 => exact GO HR1_0.out (by repeat (first | (with_reducible first | exact HB.out | apply Z | apply T | apply Y | refine O ?_ GE589.out | refine O ?_ GE590.out | refine O ?_ GE610.out) | exact HB.out))); (case side2 => exact HC1_0.out); rintro e w169 ⟨v612, rfl, ho0, hb⟩; refine ⟨_, rfl, ?_⟩; have n0_ := G (B (by (with_reducible repeat (first | apply J | apply L | apply M)); exact (P (D (p := ⟨gb610, 1, none⟩) (D (p := ⟨gb610, 0, none⟩) (I HO595.out BK610.out (by decide)) (fun _ hk => hk.2) (.slice Ao163 t604.length co163)) (fun _ hk => hk.2) (.slice Ao167 t607.length co167)) (fun _ h_ => h_.1))) hb); have n1_ := G (B (by (with_reducible repeat (first | apply J | apply L | apply M)); exact (P (D (p := ⟨gb610, 1, none⟩) (D (p := ⟨gb610, 0, none⟩) (I HO598.out BK610.out (by decide)) (fun _ hk => hk.2) (.slice Ao163 t604.length co163)) (fun _ hk => hk.2) (.slice Ao167 t607.length co167)) (fun _ h_ => h_.1))) hb); have n2_ := G (Kd.R_elder' (by (with_reducible repeat (first | apply J | apply L | apply M)); exact (P (D (p := ⟨gb610, 1, none⟩) (D (p := ⟨gb610, 0, none⟩) (I HO601.out BK610.out (by decide)) (fun _ hk => hk.2) (.slice Ao163 t604.length co163)) (fun _ hk => hk.2) (.slice Ao167 t607.length co167)) (fun _ h_ => h_.1))) (Kd.R_base ho0) hb); have n3_ := G (B (by (with_reducible repeat (first | apply J | apply L | apply M)); exact (P (D (p := ⟨gb610, 1, none⟩) (D (p := ⟨gb610, 0, none⟩) (I HO606.out BK610.out (by decide)) (fun _ hk => hk.2) (.slice Ao163 t604.length co163)) (fun _ hk => hk.2) (.slice Ao167 t607.length co167)) (fun _ h_ => h_.1))) hb); have n4_ := G (B (by (with_reducible repeat (first | apply J | apply L | apply M)); exact (P (D (p := ⟨gb610, 1, none⟩) (D (p := ⟨gb610, 0, none⟩) (I HO609.out BK610.out (by decide)) (fun _ hk => hk.2) (.slice Ao163 t604.length co163)) (fun _ hk => hk.2) (.slice Ao167 t607.length co167)) (fun _ h_ => h_.1))) hb); have n5_ := G (Kd.R_lower (GL ho0 (Kd.R_lt (by (with_reducible repeat (first | apply J | apply L | apply M)); exact (P (D (p := ⟨gb610, 1, none⟩) (D (p := ⟨gb610, 0, none⟩) (I HO601.out BK610.out (by decide)) (fun _ hk => hk.2) (.slice Ao163 t604.length co163)) (fun _ hk => hk.2) (.slice Ao167 t607.length co167)) (fun _ h_ => h_.1))))) (GM (by repeat (first | (with_reducible first | exact HB.out | apply Z | apply T | apply Y | refine O ?_ GE589.out | refine O ?_ GE590.out | refine O ?_ GE610.out) | exact HB.out)))); have n6_ := G (F (g := gb589) (o := .cells #[.slice A0_0 l0_0.length c0_0, .slice A0_1 l0_1.length c0_1] 33 (0, 0)) (by (with_reducible repeat (first | refine U ?_ _ | refine X ?_ | refine V ?_ _)); refine blk_far ?_ NB589_610.out _; (with_reducible repeat (first | refine U ?_ _ | refine X ?_ | refine V ?_ _)); refine blk_far ?_ NB589_610.out _; (with_reducible repeat (first | refine U ?_ _ | refine X ?_ | refine V ?_ _)); exact BK589.out) hb); have n7_ := G (F (g := gb590) (o := .cells #[.slice A1_0 l1_0.length c1_0, .int .i64 a1_1] 24 (0, 0)) (by (with_reducible repeat (first | refine U ?_ _ | refine X ?_ | refine V ?_ _)); refine blk_far ?_ NB590_610.out _; (with_reducible repeat (first | refine U ?_ _ | refine X ?_ | refine V ?_ _)); refine blk_far ?_ NB590_610.out _; (with_reducible repeat (first | refine U ?_ _ | refine X ?_ | refine V ?_ _)); exact BK590.out) hb); have n8_ := G (F (g := gb610) (o := .cells #[.slice Ao163 t604.length co163, .slice Ao167 t607.length co167] 39 (0, 0)) (by (with_reducible repeat (first | refine U ?_ _ | refine X ?_ | refine V ?_ _)); refine blk_put (cs := #[.slice Ao163 t604.length co163, .slice none 0 0]) ?_ 1 _ rfl; (with_reducible repeat (first | refine U ?_ _ | refine X ?_ | refine V ?_ _)); refine blk_put (cs := #[.slice none 0 0, .slice none 0 0]) ?_ 0 _ rfl; (with_reducible repeat (first | refine U ?_ _ | refine X ?_ | refine V ?_ _)); exact BK610.out) hb); have n9_ := G (GN (by repeat (first | (with_reducible first | exact HB.out | apply Z | apply T | apply Y | refine O ?_ GE589.out | refine O ?_ GE590.out | refine O ?_ GE610.out) | exact HB.out)) hb); clear HO595; clear HO598; clear HO601; clear HO606; clear HO609; clear BK589; clear BK590; clear BK610; clear HB; have HO595 := n0_; have HO598 := n1_; have HO601 := n2_; have HO606 := n3_; have HO609 := n4_; have HO613 := n5_; have BK589 := n6_; have BK590 := n7_; have BK610 := n8_; have HB := n9_; clear n0_ n1_ n2_ n3_ n4_ n5_ n6_ n7_ n8_ n9_; (try clear hb); (try clear hb2); (try clear hk); (try clear hi); (try clear ho0)) | ((with_reducible refine gate_dst (N := 8) rfl ?_); refine box_event ?hg (N := 8) ?hd (cs := #[.slice none 0 0, .int .i64 0]) (t := 27) ?hr ?_; (case hd => rfl); (case hg => rfl); (case hr => first | (go_simp; done) | (go_simp; rfl)); intro gb615 hg w170 hbox hb; have n0_ := G (B (by (with_reducible repeat (first | apply J | apply L | apply M)); exact HO595.out) hb); have n1_ := G (B (by (with_reducible repeat (first | apply J | apply L | apply M)); exact HO598.out) hb); have n2_ := G (B (by (with_reducible repeat (first | apply J | apply L | apply M)); exact HO601.out) hb); have n3_ := G (B (by (with_reducible repeat (first | apply J | apply L | apply M)); exact HO606.out) hb); have n4_ := G (B (by (with_reducible repeat (first | apply J | apply L | apply M)); exact HO609.out) hb); have n5_ := G (B (by (with_reducible repeat (first | apply J | apply L | apply M)); exact HO613.out) hb); have n6_ := G (F (g := gb589) (o := .cells #[.slice A0_0 l0_0.length c0_0, .slice A0_1 l0_1.length c0_1] 33 (0, 0)) (by (with_reducible repeat (first | refine U ?_ _ | refine X ?_ | refine V ?_ _)); exact BK589.out) hb); have n7_ := G (F (g := gb590) (o := .cells #[.slice A1_0 l1_0.length c1_0, .int .i64 a1_1] 24 (0, 0)) (by (with_reducible repeat (first | refine U ?_ _ | refine X ?_ | refine V ?_ _)); exact BK590.out) hb); have n8_ := G (F (g := gb610) (o := .cells #[.slice Ao163 t604.length co163, .slice Ao167 t607.length co167] 39 (0, 0)) (by (with_reducible repeat (first | refine U ?_ _ | refine X ?_ | refine V ?_ _)); exact BK610.out) hb); have n9_ := G (GN (by repeat (first | (with_reducible first | exact HB.out | apply Z | apply T | apply Y | refine O ?_ GE589.out | refine O ?_ GE590.out | refine O ?_ GE610.out) | exact HB.out)) hb); have n10_ := G (hbox); have n11_ := G ((by rw [hg]; exact (GM (by repeat (first | (with_reducible first | exact HB.out | apply Z | apply T | apply Y | refine O ?_ GE589.out | refine O ?_ GE590.out | refine O ?_ GE610.out) | exact HB.out))) : w.heap.size ≤ gb615)); have n12_ := G ((by rw [hg]; exact (GM (by repeat (first | (with_reducible first | exact HB.out | apply Z | apply T | apply Y | refine O ?_ GE589.out | refine O ?_ GE590.out | refine O ?_ GE610.out) | exact HB.out))) : w.heap.size ≤ gb615)); have n13_ := G ((by rw [hg]; exact Nat.ne_of_lt (blk_lt (g := gb589) (o := .cells #[.slice A0_0 l0_0.length c0_0, .slice A0_1 l0_1.length c0_1] 33 (0, 0)) (by (with_reducible repeat (first | refine U ?_ _ | refine X ?_ | refine V ?_ _)); exact BK589.out)) : gb589 ≠ gb615)); have n14_ := G ((by rw [hg]; exact Nat.ne_of_gt (blk_lt (g := gb589) (o := .cells #[.slice A0_0 l0_0.length c0_0, .slice A0_1 l0_1.length c0_1] 33 (0, 0)) (by (with_reducible repeat (first | refine U ?_ _ | refine X ?_ | refine V ?_ _)); exact BK589.out)) : gb615 ≠ gb589)); have n15_ := G ((by rw [hg]; exact Nat.ne_of_lt (blk_lt (g := gb590) (o := .cells #[.slice A1_0 l1_0.length c1_0, .int .i64 a1_1] 24 (0, 0)) (by (with_reducible repeat (first | refine U ?_ _ | refine X ?_ | refine V ?_ _)); exact BK590.out)) : gb590 ≠ gb615)); have n16_ := G ((by rw [hg]; exact Nat.ne_of_gt (blk_lt (g := gb590) (o := .cells #[.slice A1_0 l1_0.length c1_0, .int .i64 a1_1] 24 (0, 0)) (by (with_reducible repeat (first | refine U ?_ _ | refine X ?_ | refine V ?_ _)); exact BK590.out)) : gb615 ≠ gb590)); have n17_ := G ((by rw [hg]; exact Nat.ne_of_lt (blk_lt (g := gb610) (o := .cells #[.slice Ao163 t604.length co163, .slice Ao167 t607.length co167] 39 (0, 0)) (by (with_reducible repeat (first | refine U ?_ _ | refine X ?_ | refine V ?_ _)); exact BK610.out)) : gb610 ≠ gb615)); have n18_ := G ((by rw [hg]; exact Nat.ne_of_gt (blk_lt (g := gb610) (o := .cells #[.slice Ao163 t604.length co163, .slice Ao167 t607.length co167] 39 (0, 0)) (by (with_reducible repeat (first | refine U ?_ _ | refine X ?_ | refine V ?_ _)); exact BK610.out)) : gb615 ≠ gb610)); clear HO595; clear HO598; clear HO601; clear HO606; clear HO609; clear HO613; clear BK589; clear BK590; clear BK610; clear HB; have HO595 := n0_; have HO598 := n1_; have HO601 := n2_; have HO606 := n3_; have HO609 := n4_; have HO613 := n5_; have BK589 := n6_; have BK590 := n7_; have BK610 := n8_; have HB := n9_; have BK615 := n10_; have GW615 := n11_; have GE615 := n12_; have NB589_615 := n13_; have NB615_589 := n14_; have NB590_615 := n15_; have NB615_590 := n16_; have NB610_615 := n17_; have NB615_610 := n18_; clear n0_ n1_ n2_ n3_ n4_ n5_ n6_ n7_ n8_ n9_ n10_ n11_ n12_ n13_ n14_ n15_ n16_ n17_ n18_; clear hb hbox hg; obtain ⟨Ao171, co171, eo171⟩ := Kd.R_slice HO613.out; subst eo171; have hnb172 := NB615_589.out; have hnc172 := NB589_615.out; have hnb173 := NB615_590.out; have hnc173 := NB590_615.out; have hnb174 := NB615_610.out; have hnc174 := NB610_615.out; have hcz175_0 : w170.cell? ⟨gb615, 0, none⟩ = some (.slice none 0 0) := (E BK615.out 0).trans rfl; have hcz175_1 : w170.cell? ⟨gb615, 1, none⟩ = some (.int .i64 0) := (E BK615.out 1).trans rfl; have hfz175_0 := GT BK615.out 0; have hfz175_1 := GT BK615.out 1; have hcz176_0 : w170.cell? ⟨gb610, 0, none⟩ = some (.slice Ao163 t604.length co163) := (E BK610.out 0).trans rfl; have hcz176_1 : w170.cell? ⟨gb610, 1, none⟩ = some (.slice Ao167 t607.length co167) := (E BK610.out 1).trans rfl; have hfz176_0 := GT BK610.out 0; have hfz176_1 := GT BK610.out 1) | ((with_reducible refine gate_callee (f := 40) rfl ?_); refine goesL_ (some 31) rfl rfl Try.func40 (by kernel_rfl) rfl #[.agg #[.slice Ao163 t604.length co163, .slice Ao167 t607.length co167], .agg #[.slice Ao171 t611.length co171, .int .i64 t614]] rfl (by (try simp only [List.map_toArray, List.map_cons, List.map_nil]); first | done | rfl | (simp only [List.length_drop, List.length_take]; rfl)) ?_; (with_reducible refine (impl_ValidDensities.calls k _ _ t604 _ _ t607 _ _ t611 t614 t616 _ ?side1 ?side2 ?side3 ?side4 ?side5 ?side6 A24.out).mono ?_); (case side1 => refine (Kd.R_reads' (e := 82) (base := w.heap.size) (ok := fun k_ => (True ∧ some k_ ≠ (.slice Ao156 t593.length co156 : Value).ownBlock)) (n := t604.length) (c := co163) ?_).2.2; exact (by (with_reducible repeat (first | apply J | apply L | apply M)); exact (P (D (p := ⟨gb615, 1, none⟩) (D (p := ⟨gb615, 0, none⟩) (I HO606.out BK615.out (by decide)) (fun _ hk => hk.2) (.slice Ao171 t611.length co171)) (fun _ hk => hk.2) (.int .i64 t614)) (fun _ h_ => h_.1)))); (case side2 => exact (Kd.R_reads' HO606.out).2.1); (case side3 => refine (Kd.R_reads' (e := 84) (base := w.heap.size) (ok := fun k_ => (True ∧ some k_ ≠ (.slice Ao157 t596.length co157 : Value).ownBlock)) (n := t607.length) (c := co167) ?_).2.2; exact (by (with_reducible repeat (first | apply J | apply L | apply M)); exact (P (D (p := ⟨gb615, 1, none⟩) (D (p := ⟨gb615, 0, none⟩) (I HO609.out BK615.out (by decide)) (fun _ hk => hk.2) (.slice Ao171 t611.length co171)) (fun _ hk => hk.2) (.int .i64 t614)) (fun _ h_ => h_.1)))); (case side4 => exact (Kd.R_reads' HO609.out).2.1); (case side5 => refine (Kd.R_reads' (e := 2) (base := w.heap.size) (ok := fun k_ => (True ∧ some k_ ≠ (.slice Ao158 t599.length co158 : Value).ownBlock)) (n := t611.length) (c := co171) ?_).2.2; exact (by (with_reducible repeat (first | apply J | apply L | apply M)); exact (P (D (p := ⟨gb615, 1, none⟩) (D (p := ⟨gb615, 0, none⟩) (I HO613.out BK615.out (by decide)) (fun _ hk => hk.2) (.slice Ao171 t611.length co171)) (fun _ hk => hk.2) (.int .i64 t614)) (fun _ h_ => h_.1)))); (case side6 => exact (Kd.R_reads' HO613.out).2.1); rintro e w177 ⟨rfl, hb⟩; refine ⟨_, rfl, ?_⟩; have n0_ := G (B (by (with_reducible repeat (first | apply J | apply L | apply M)); exact (P (D (p := ⟨gb615, 1, none⟩) (D (p := ⟨gb615, 0, none⟩) (I HO595.out BK615.out (by decide)) (fun _ hk => hk.2) (.slice Ao171 t611.length co171)) (fun _ hk => hk.2) (.int .i64 t614)) (fun _ h_ => h_.1))) hb); have n1_ := G (B (by (with_reducible repeat (first | apply J | apply L | apply M)); exact (P (D (p := ⟨gb615, 1, none⟩) (D (p := ⟨gb615, 0, none⟩) (I HO598.out BK615.out (by decide)) (fun _ hk => hk.2) (.slice Ao171 t611.length co171)) (fun _ hk => hk.2) (.int .i64 t614)) (fun _ h_ => h_.1))) hb); have n2_ := G (B (by (with_reducible repeat (first | apply J | apply L | apply M)); exact (P (D (p := ⟨gb615, 1, none⟩) (D (p := ⟨gb615, 0, none⟩) (I HO601.out BK615.out (by decide)) (fun _ hk => hk.2) (.slice Ao171 t611.length co171)) (fun _ hk => hk.2) (.int .i64 t614)) (fun _ h_ => h_.1))) hb); have n3_ := G (B (by (with_reducible repeat (first | apply J | apply L | apply M)); exact (P (D (p := ⟨gb615, 1, none⟩) (D (p := ⟨gb615, 0, none⟩) (I HO606.out BK615.out (by decide)) (fun _ hk => hk.2) (.slice Ao171 t611.length co171)) (fun _ hk => hk.2) (.int .i64 t614)) (fun _ h_ => h_.1))) hb); have n4_ := G (B (by (with_reducible repeat (first | apply J | apply L | apply M)); exact (P (D (p := ⟨gb615, 1, none⟩) (D (p := ⟨gb615, 0, none⟩) (I HO609.out BK615.out (by decide)) (fun _ hk => hk.2) (.slice Ao171 t611.length co171)) (fun _ hk => hk.2) (.int .i64 t614)) (fun _ h_ => h_.1))) hb); have n5_ := G (B (by (with_reducible repeat (first | apply J | apply L | apply M)); exact (P (D (p := ⟨gb615, 1, none⟩) (D (p := ⟨gb615, 0, none⟩) (I HO613.out BK615.out (by decide)) (fun _ hk => hk.2) (.slice Ao171 t611.length co171)) (fun _ hk => hk.2) (.int .i64 t614)) (fun _ h_ => h_.1))) hb); have n6_ := G (F (g := gb589) (o := .cells #[.slice A0_0 l0_0.length c0_0, .slice A0_1 l0_1.length c0_1] 33 (0, 0)) (by (with_reducible repeat (first | refine U ?_ _ | refine X ?_ | refine V ?_ _)); refine blk_far ?_ NB589_615.out _; (with_reducible repeat (first | refine U ?_ _ | refine X ?_ | refine V ?_ _)); refine blk_far ?_ NB589_615.out _; (with_reducible repeat (first | refine U ?_ _ | refine X ?_ | refine V ?_ _)); exact BK589.out) hb); have n7_ := G (F (g := gb590) (o := .cells #[.slice A1_0 l1_0.length c1_0, .int .i64 a1_1] 24 (0, 0)) (by (with_reducible repeat (first | refine U ?_ _ | refine X ?_ | refine V ?_ _)); refine blk_far ?_ NB590_615.out _; (with_reducible repeat (first | refine U ?_ _ | refine X ?_ | refine V ?_ _)); refine blk_far ?_ NB590_615.out _; (with_reducible repeat (first | refine U ?_ _ | refine X ?_ | refine V ?_ _)); exact BK590.out) hb); have n8_ := G (F (g := gb610) (o := .cells #[.slice Ao163 t604.length co163, .slice Ao167 t607.length co167] 39 (0, 0)) (by (with_reducible repeat (first | refine U ?_ _ | refine X ?_ | refine V ?_ _)); refine blk_far ?_ NB610_615.out _; (with_reducible repeat (first | refine U ?_ _ | refine X ?_ | refine V ?_ _)); refine blk_far ?_ NB610_615.out _; (with_reducible repeat (first | refine U ?_ _ | refine X ?_ | refine V ?_ _)); exact BK610.out) hb); have n9_ := G (F (g := gb615) (o := .cells #[.slice Ao171 t611.length co171, .int .i64 t614] 27 (0, 0)) (by (with_reducible repeat (first | refine U ?_ _ | refine X ?_ | refine V ?_ _)); refine blk_put (cs := #[.slice Ao171 t611.length co171, .int .i64 0]) ?_ 1 _ rfl; (with_reducible repeat (first | refine U ?_ _ | refine X ?_ | refine V ?_ _)); refine blk_put (cs := #[.slice none 0 0, .int .i64 0]) ?_ 0 _ rfl; (with_reducible repeat (first | refine U ?_ _ | refine X ?_ | refine V ?_ _)); exact BK615.out) hb); have n10_ := G (GN (by repeat (first | (with_reducible first | exact HB.out | apply Z | apply T | apply Y | refine O ?_ GE589.out | refine O ?_ GE590.out | refine O ?_ GE610.out | refine O ?_ GE615.out) | exact HB.out)) hb); clear HO595; clear HO598; clear HO601; clear HO606; clear HO609; clear HO613; clear BK589; clear BK590; clear BK610; clear BK615; clear HB; have HO595 := n0_; have HO598 := n1_; have HO601 := n2_; have HO606 := n3_; have HO609 := n4_; have HO613 := n5_; have BK589 := n6_; have BK590 := n7_; have BK610 := n8_; have BK615 := n9_; have HB := n10_; clear n0_ n1_ n2_ n3_ n4_ n5_ n6_ n7_ n8_ n9_ n10_; (try clear hb); (try clear hb2); (try clear hk); (try clear hi)))
     have n0_ := G (M HO595.out)
     have n1_ := G (M HO598.out)
     have n2_ := G (M HO601.out)
     have n3_ := G (M HO606.out)
     have n4_ := G (M HO609.out)
     have n5_ := G (M HO613.out)
     have n6_ := G (X BK589.out)
     have n7_ := G (X BK590.out)
     have n8_ := G (X BK610.out)
     have n9_ := G (X BK615.out)
     have n10_ := G (Y HB.out)
     clear HO595
     clear HO598
     clear HO601
     clear HO606
     clear HO609
     clear HO613
     clear BK589
     clear BK590
     clear BK610
     clear BK615
     clear HB
     have HO595 := n0_
     have HO598 := n1_
     have HO601 := n2_
     have HO606 := n3_
     have HO609 := n4_
     have HO613 := n5_
     have BK589 := n6_
     have BK590 := n7_
     have BK610 := n8_
     have BK615 := n9_
     have HB := n10_
     clear n0_ n1_ n2_ n3_ n4_ n5_ n6_ n7_ n8_ n9_ n10_
     refine start_ (n := 5) (S := fun w' => w'.cell? ⟨gb610, 0, none⟩ = some (.slice Ao163 t604.length co163) ∧ w'.cell? ⟨gb610, 1, none⟩ = some (.slice Ao167 t607.length co167) ∧ w'.cell? ⟨gb589, 0, none⟩ = some (.slice A0_0 l0_0.length c0_0) ∧ w'.cell? ⟨gb589, 1, none⟩ = some (.slice A0_1 l0_1.length c0_1)) (ds := []) #[n', n', n', n', n'] (by kernel_rfl) rfl rfl ⟨(E BK610.out 0).trans rfl, (E BK610.out 1).trans rfl, (E BK589.out 0).trans rfl, (E BK589.out 1).trans rfl⟩ (fun hHeld => ?_)
     generalize w177.drew = w178 at HO595 HO598 HO601 HO606 HO609 HO613 BK589 BK590 BK610 BK615 HB hHeld ⊢
     refine take_ (i := 0) (N := some 35) (v := ?_) (a' := ?_) #[y', n', n', n', n'] rfl rfl (by kernel_rfl) (fun _ _ _ h => h) (Or.inl ⟨by rfl, ?_⟩) hHeld ?_ ?_
     rotate_left
     ·rintro w' ⟨s0, s1, s2, s3⟩
      go_simp
      with_reducible rfl
     rotate_left
     ·simp only [Act.put, z1', z2', z3', i64_w, i32_w]
      rfl
     refine take_ (i := 1) (N := some 36) (v := ?_) (a' := ?_) #[y', y', n', n', n'] rfl rfl (by kernel_rfl) (fun _ _ _ h => h) (Or.inl ⟨by rfl, ?_⟩) hHeld ?_ ?_
     rotate_left
     ·rintro w' ⟨s0, s1, s2, s3⟩
      go_simp
      with_reducible rfl
     rotate_left
     ·simp only [Act.put, z1', z2', z3', i64_w, i32_w]
      rfl
     refine one_ (i := 2) (N := some 37) #[y', y', y', n', n'] rfl rfl (by kernel_rfl) (by decide) (fun K hK => ?_)
     refine goes_ Try.func21 (by kernel_rfl) rfl #[.agg #[.slice A0_0 l0_0.length c0_0, .slice A0_1 l0_1.length c0_1]] (by rfl) rfl rfl (by (try simp only [List.map_toArray, List.map_cons, List.map_nil]); first | done | rfl | (simp only [List.length_drop, List.length_take]; rfl)) ?_
     with_reducible refine (laws_toFrame.calls k _ _ l0_0 _ _ l0_1 t617 t620 _ ?side1 ?side2 ?side3 ?side4 A58.out).mono ?_
     (case side1 => repeat (first | exact (GO HR0_0.out HB.out) | (with_reducible refine R ?_ _) | (with_reducible refine GG ?_ _) | (with_reducible refine GJ ?_)))
     (case side2 => exact HC0_0.out)
     (case side3 => repeat (first | exact (GO HR0_1.out HB.out) | (with_reducible refine R ?_ _) | (with_reducible refine GG ?_ _) | (with_reducible refine GJ ?_)))
     (case side4 => exact HC0_1.out)
     rintro e w179 ⟨v618, v621, rfl, ho0, ho1, hb⟩
     refine ⟨_, rfl, ?_⟩
     have n0_ := G (Kd.R_elder' (by (with_reducible repeat (first | apply J | apply L | apply M)); exact HO595.out) (Kd.R_base ho0) hb)
     have n1_ := G (Kd.R_elder' (by (with_reducible repeat (first | apply J | apply L | apply M)); exact HO598.out) (Kd.R_base ho1) hb)
     have n2_ := G (B (by (with_reducible repeat (first | apply J | apply L | apply M)); exact HO601.out) hb)
     have n3_ := G (Kd.R_elder' (by (with_reducible repeat (first | apply J | apply L | apply M)); exact HO606.out) (Kd.R_base ho0) hb)
     have n4_ := G (Kd.R_elder' (by (with_reducible repeat (first | apply J | apply L | apply M)); exact HO609.out) (Kd.R_base ho1) hb)
     have n5_ := G (B (by (with_reducible repeat (first | apply J | apply L | apply M)); exact HO613.out) hb)
     have n6_ := G (Kd.R_lower (GL (GL ho0 (Kd.R_lt (by (with_reducible repeat (first | apply J | apply L | apply M)); exact HO595.out))) (Kd.R_lt (by (with_reducible repeat (first | apply J | apply L | apply M)); exact HO606.out))) (GM (by repeat (first | (with_reducible first | exact HB.out | apply Z | apply T | apply Y | refine O ?_ GE589.out | refine O ?_ GE590.out | refine O ?_ GE610.out | refine O ?_ GE615.out) | exact HB.out))))
     have n7_ := G (Kd.R_lower (GL (GL ho1 (Kd.R_lt (by (with_reducible repeat (first | apply J | apply L | apply M)); exact HO598.out))) (Kd.R_lt (by (with_reducible repeat (first | apply J | apply L | apply M)); exact HO609.out))) (GM (by repeat (first | (with_reducible first | exact HB.out | apply Z | apply T | apply Y | refine O ?_ GE589.out | refine O ?_ GE590.out | refine O ?_ GE610.out | refine O ?_ GE615.out) | exact HB.out))))
     have n8_ := G (F (g := gb589) (o := .cells #[.slice A0_0 l0_0.length c0_0, .slice A0_1 l0_1.length c0_1] 33 (0, 0)) (by (with_reducible repeat (first | refine U ?_ _ | refine X ?_ | refine V ?_ _)); exact BK589.out) hb)
     have n9_ := G (F (g := gb590) (o := .cells #[.slice A1_0 l1_0.length c1_0, .int .i64 a1_1] 24 (0, 0)) (by (with_reducible repeat (first | refine U ?_ _ | refine X ?_ | refine V ?_ _)); exact BK590.out) hb)
     have n10_ := G (F (g := gb610) (o := .cells #[.slice Ao163 t604.length co163, .slice Ao167 t607.length co167] 39 (0, 0)) (by (with_reducible repeat (first | refine U ?_ _ | refine X ?_ | refine V ?_ _)); exact BK610.out) hb)
     have n11_ := G (F (g := gb615) (o := .cells #[.slice Ao171 t611.length co171, .int .i64 t614] 27 (0, 0)) (by (with_reducible repeat (first | refine U ?_ _ | refine X ?_ | refine V ?_ _)); exact BK615.out) hb)
     have n12_ := G (GN (by repeat (first | (with_reducible first | exact HB.out | apply Z | apply T | apply Y | refine O ?_ GE589.out | refine O ?_ GE590.out | refine O ?_ GE610.out | refine O ?_ GE615.out) | exact HB.out)) hb)
     clear HO595
     clear HO598
     clear HO601
     clear HO606
     clear HO609
     clear HO613
     clear BK589
     clear BK590
     clear BK610
     clear BK615
     clear HB
     have HO595 := n0_
     have HO598 := n1_
     have HO601 := n2_
     have HO606 := n3_
     have HO609 := n4_
     have HO613 := n5_
     have HO619 := n6_
     have HO622 := n7_
     have BK589 := n8_
     have BK590 := n9_
     have BK610 := n10_
     have BK615 := n11_
     have HB := n12_
     clear n0_ n1_ n2_ n3_ n4_ n5_ n6_ n7_ n8_ n9_ n10_ n11_ n12_
     (try clear hb)
     (try clear hb2)
     (try clear hk)
     (try clear hi)
     (try clear ho0)
     (try clear ho1)
     obtain ⟨Ao180, co180, eo180⟩ := Kd.R_slice HO619.out
     (first | subst eo180 | (injection eo180 with f1_ f2_ f3_; have f4_ := f1_.symm; have f5_ := f3_.symm; clear f1_ f2_ f3_; subst f4_; subst f5_))
     obtain ⟨Ao181, co181, eo181⟩ := Kd.R_slice HO622.out
     (first | subst eo181 | (injection eo181 with f1_ f2_ f3_; have f4_ := f1_.symm; have f5_ := f3_.symm; clear f1_ f2_ f3_; subst f4_; subst f5_))
     refine hK.out _ _ ⟨(E BK610.out 0).trans rfl, (E BK610.out 1).trans rfl, (E BK589.out 0).trans rfl, (E BK589.out 1).trans rfl⟩ (fun hHeld => ?_)
     clear hK K
     refine norm_ (a' := ?_) ?_ ?_
     rotate_left
     ·show Act.put _ (some 37) _ = _
      simp only [Act.put, z1', z2', z3', i64_w, i32_w]
      rfl
     refine one_ (i := 3) (N := some 38) #[y', y', y', y', n'] rfl rfl (by kernel_rfl) (by decide) (fun K hK => ?_)
     refine goes_ Try.func23 (by kernel_rfl) rfl #[.agg #[.slice Ao163 t604.length co163, .slice Ao167 t607.length co167], .agg #[.slice Ao180 t617.length co180, .slice Ao181 t620.length co181]] (by rfl) rfl rfl (by (try simp only [List.map_toArray, List.map_cons, List.map_nil]); first | done | rfl | (simp only [List.length_drop, List.length_take]; rfl)) ?_
     with_reducible refine (laws_eqFrame.calls k _ _ t604 _ _ t607 _ _ t617 _ _ t620 false _ ?side1 ?side2 ?side3 ?side4 ?side5 ?side6 ?side7 ?side8 A59.out).mono ?_
     (case side1 => repeat (first | exact (Kd.R_reads' HO606.out).2.2 | (with_reducible refine R ?_ _) | (with_reducible refine GG ?_ _) | (with_reducible refine GJ ?_)))
     (case side2 => exact (Kd.R_reads' HO606.out).2.1)
     (case side3 => repeat (first | exact (Kd.R_reads' HO609.out).2.2 | (with_reducible refine R ?_ _) | (with_reducible refine GG ?_ _) | (with_reducible refine GJ ?_)))
     (case side4 => exact (Kd.R_reads' HO609.out).2.1)
     (case side5 => repeat (first | exact (Kd.R_reads' HO619.out).2.2 | (with_reducible refine R ?_ _) | (with_reducible refine GG ?_ _) | (with_reducible refine GJ ?_)))
     (case side6 => exact (Kd.R_reads' HO619.out).2.1)
     (case side7 => repeat (first | exact (Kd.R_reads' HO622.out).2.2 | (with_reducible refine R ?_ _) | (with_reducible refine GG ?_ _) | (with_reducible refine GJ ?_)))
     (case side8 => exact (Kd.R_reads' HO622.out).2.1)
     rintro e w182 ⟨rfl, hb⟩
     refine ⟨_, rfl, ?_⟩
     have n0_ := G (B (by (with_reducible repeat (first | apply J | apply L | apply M)); exact HO595.out) hb)
     have n1_ := G (B (by (with_reducible repeat (first | apply J | apply L | apply M)); exact HO598.out) hb)
     have n2_ := G (B (by (with_reducible repeat (first | apply J | apply L | apply M)); exact HO601.out) hb)
     have n3_ := G (B (by (with_reducible repeat (first | apply J | apply L | apply M)); exact HO606.out) hb)
     have n4_ := G (B (by (with_reducible repeat (first | apply J | apply L | apply M)); exact HO609.out) hb)
     have n5_ := G (B (by (with_reducible repeat (first | apply J | apply L | apply M)); exact HO613.out) hb)
     have n6_ := G (B (by (with_reducible repeat (first | apply J | apply L | apply M)); exact HO619.out) hb)
     have n7_ := G (B (by (with_reducible repeat (first | apply J | apply L | apply M)); exact HO622.out) hb)
     have n8_ := G (F (g := gb589) (o := .cells #[.slice A0_0 l0_0.length c0_0, .slice A0_1 l0_1.length c0_1] 33 (0, 0)) (by (with_reducible repeat (first | refine U ?_ _ | refine X ?_ | refine V ?_ _)); exact BK589.out) hb)
     have n9_ := G (F (g := gb590) (o := .cells #[.slice A1_0 l1_0.length c1_0, .int .i64 a1_1] 24 (0, 0)) (by (with_reducible repeat (first | refine U ?_ _ | refine X ?_ | refine V ?_ _)); exact BK590.out) hb)
     have n10_ := G (F (g := gb610) (o := .cells #[.slice Ao163 t604.length co163, .slice Ao167 t607.length co167] 39 (0, 0)) (by (with_reducible repeat (first | refine U ?_ _ | refine X ?_ | refine V ?_ _)); exact BK610.out) hb)
     have n11_ := G (F (g := gb615) (o := .cells #[.slice Ao171 t611.length co171, .int .i64 t614] 27 (0, 0)) (by (with_reducible repeat (first | refine U ?_ _ | refine X ?_ | refine V ?_ _)); exact BK615.out) hb)
     have n12_ := G (GN (by repeat (first | (with_reducible first | exact HB.out | apply Z | apply T | apply Y | refine O ?_ GE589.out | refine O ?_ GE590.out | refine O ?_ GE610.out | refine O ?_ GE615.out) | exact HB.out)) hb)
     clear HO595
     clear HO598
     clear HO601
     clear HO606
     clear HO609
     clear HO613
     clear HO619
     clear HO622
     clear BK589
     clear BK590
     clear BK610
     clear BK615
     clear HB
     have HO595 := n0_
     have HO598 := n1_
     have HO601 := n2_
     have HO606 := n3_
     have HO609 := n4_
     have HO613 := n5_
     have HO619 := n6_
     have HO622 := n7_
     have BK589 := n8_
     have BK590 := n9_
     have BK610 := n10_
     have BK615 := n11_
     have HB := n12_
     clear n0_ n1_ n2_ n3_ n4_ n5_ n6_ n7_ n8_ n9_ n10_ n11_ n12_
     (try clear hb)
     (try clear hb2)
     (try clear hk)
     (try clear hi)
     refine hK.out _ _ ⟨(E BK610.out 0).trans rfl, (E BK610.out 1).trans rfl, (E BK589.out 0).trans rfl, (E BK589.out 1).trans rfl⟩ (fun hHeld => ?_)
     clear hK K
     refine norm_ (a' := ?_) ?_ ?_
     rotate_left
     ·show Act.put _ (some 38) _ = _
      simp only [Act.put, z1', z2', z3', i64_w, i32_w]
      rfl
     refine pure_ (i := 4) (N := some 39) (v := ?_) (a' := ?_) #[y', y', y', y', y'] rfl rfl (by kernel_rfl) (fun _ _ _ h => h) (Or.inl ⟨by rfl, ?_⟩) ?_ ?_
     rotate_left
     ·intro w'
      go_simp
      with_reducible rfl
     rotate_left
     ·simp only [Act.put, z1', z2', z3', i64_w, i32_w]
      rfl
     refine done_ (by kernel_rfl) ?_
     try go_wp2
     go_ret
     exact ⟨by first | rfl | (simp [errW_none, errW_some] <;> rfl) | (simp [*, errW_none, errW_some] <;> rfl), by repeat (first | (with_reducible first | exact HB.out | apply Z | apply T | apply Y | refine O ?_ GE589.out | refine O ?_ GE590.out | refine O ?_ GE610.out | refine O ?_ GE615.out) | exact HB.out)⟩

end Go.Proofs.Ytacijlpnpkhjaaa.HFr
