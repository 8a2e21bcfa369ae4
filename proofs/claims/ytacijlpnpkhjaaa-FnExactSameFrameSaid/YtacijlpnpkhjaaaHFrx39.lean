-- Written by a program for this claim (the functions that the statement reaches, and that the program's code comes to them).
import Derived.Test.YtacijlpnpkhjaaaHFrx0
import Derived.Test.YtacijlpnpkhjaaaHFrx3
import Derived.Test.YtacijlpnpkhjaaaHFrx4
import Derived.Test.YtacijlpnpkhjaaaHFrx38
namespace Go.Proofs.Ytacijlpnpkhjaaa.HFr
open Go.RowKit Go.Proofs.YtacijlpnpkhjaaaW.PrintWords Go.Proofs.YtacijlpnpkhjaaaW.PrintLast Go.Proofs.YtacijlpnpkhjaaaW.PrintMore
attribute [local go_sem] max2_int min2_int max_two min_two max_three min_three max_four min_four   -- for this text's walks alone
set_option linter.unusedVariables false
set_option linter.unusedSimpArgs false

/-! ### laws_FnExactSameFrame: function 4 -/
def laws_FnExactSameFrame.f (k : Nat) (l0_0 : List (S113)) (l0_1 : List (S115)) (l1_0 : List (S113)) (l1_1 : List (S115)) : Option (Bool) := (laws_szFrame.f l0_0 l0_1 1048576).bind fun t840 => (if t840 < 0 then (some true) else ((laws_szFrame.f l1_0 l1_1 t840).bind fun t841 => (if t841 < 0 then (some true) else ((laws_toFrame.f k l0_0 l0_1).bind fun bt842 => ((laws_toFrame.f k l1_0 l1_1).bind fun bt848 => ((spec_SameFrame.f k bt842.1 bt842.2 bt848.1 bt848.2).bind fun t854 => ((laws_toFrame.f k l0_0 l0_1).bind fun bt855 => ((laws_toFrame.f k l1_0 l1_1).bind fun bt862 => ((impl_SameFrame.f k bt855.1 bt855.2 bt862.1 bt862.2).bind fun t869 => (if (t869 != t854) = true then (some false) else ((laws_toFrame.f k l0_0 l0_1).bind fun bt870 => ((laws_eqFrame.f k bt855.1 bt855.2 bt870.1 bt870.2).bind fun t876 => (if t876 = true then ((laws_toFrame.f k l1_0 l1_1).bind fun bt877 => ((laws_eqFrame.f k bt862.1 bt862.2 bt877.1 bt877.2).bind fun t883 => (if t883 = true then (some true) else (some false)))) else (some false))))))))))))))
theorem laws_FnExactSameFrame.mono : ∀ a0 a1 a2 a3 k, LeO (laws_FnExactSameFrame.f k a0 a1 a2 a3) (laws_FnExactSameFrame.f (k + 1) a0 a1 a2 a3) := by
 intro a0 a1 a2 a3 k
 unfold laws_FnExactSameFrame.f
 repeat' first
   | (with_reducible exact impl_SameFrame.mono _ _ _ _ _)
   | (with_reducible exact laws_eqFrame.mono _ _ _ _ _)
   | (with_reducible exact laws_toFrame.mono _ _ _)
   | (with_reducible exact spec_SameFrame.mono _ _ _ _ _)
   | (with_reducible exact LeO.refl _)
   | (with_reducible exact LeO.none _)
   | (with_reducible refine LeO.ite ?_ ?_)
   | (with_reducible refine LeO.bind ?_ (fun _ => ?_))
   | exact impl_SameFrame.mono _ _ _ _ _
   | exact laws_eqFrame.mono _ _ _ _ _
   | exact laws_toFrame.mono _ _ _
   | exact spec_SameFrame.mono _ _ _ _ _
   | exact LeO.none _
   | refine LeO.ite ?_ ?_
   | refine LeO.bind ?_ (fun _ => ?_)
@[reducible] def laws_FnExactSameFrame.y' : Bool := true
@[reducible] def laws_FnExactSameFrame.n' : Bool := false
theorem laws_FnExactSameFrame.z1' {α : Type} (l : List α) (i : Nat) (a : α) : l.toArray.setIfInBounds i a = (l.set i a).toArray := List.setIfInBounds_toArray ..
theorem laws_FnExactSameFrame.z2' {α : Type} (a b : α) (l : List α) : (a :: l).set 0 b = b :: l := rfl
theorem laws_FnExactSameFrame.z3' {α : Type} (a b : α) (l : List α) (n : Nat) : (a :: l).set (n + 1) b = a :: l.set n b := rfl
theorem laws_FnExactSameFrame.G : type_of% @Aside0.mk := @Aside0.mk
theorem laws_FnExactSameFrame.J : type_of% @Kd.R_alloc := @Kd.R_alloc
theorem laws_FnExactSameFrame.L : type_of% @Kd.R_drewN := @Kd.R_drewN
theorem laws_FnExactSameFrame.M : type_of% @Kd.R_drew := @Kd.R_drew
theorem laws_FnExactSameFrame.O : type_of% @below_set := @below_set
theorem laws_FnExactSameFrame.T : type_of% @pw_below_drewN := @pw_below_drewN
theorem laws_FnExactSameFrame.U : type_of% @blk_drewN := @blk_drewN
theorem laws_FnExactSameFrame.V : type_of% @blk_alloc := @blk_alloc
theorem laws_FnExactSameFrame.X : type_of% @blk_drew := @blk_drew
theorem laws_FnExactSameFrame.Y : type_of% @below_drew1 := @below_drew1
theorem laws_FnExactSameFrame.Z : type_of% @below_alloc := @below_alloc
theorem laws_FnExactSameFrame.B : type_of% @Kd.R_below := @Kd.R_below
theorem laws_FnExactSameFrame.D : type_of% @Kd.R_far := @Kd.R_far
theorem laws_FnExactSameFrame.E : type_of% @blk_cell := @blk_cell
theorem laws_FnExactSameFrame.F : type_of% @blk_below := @blk_below
theorem laws_FnExactSameFrame.I : type_of% @Kd.R_types := @Kd.R_types
theorem laws_FnExactSameFrame.P : type_of% @Kd.R_mono := @Kd.R_mono
theorem laws_FnExactSameFrame.R : type_of% @Kd.C_alloc := @Kd.C_alloc
theorem laws_FnExactSameFrame.GG : type_of% @Kd.C_drewN := @Kd.C_drewN
theorem laws_FnExactSameFrame.GJ : type_of% @Kd.C_drew := @Kd.C_drew
theorem laws_FnExactSameFrame.GL : type_of% @Kd.R_new' := @Kd.R_new'
theorem laws_FnExactSameFrame.GM : type_of% @below_size := @below_size
theorem laws_FnExactSameFrame.GN : type_of% @below_step := @below_step
theorem laws_FnExactSameFrame.GO : type_of% @Kd.C_below := @Kd.C_below
theorem laws_FnExactSameFrame.GT : type_of% @blk_frozen := @blk_frozen
set_option maxHeartbeats 8000000 in
set_option maxRecDepth 100000 in
theorem laws_FnExactSameFrame.calls (k : Nat) (A0_0 : Option Addr) (c0_0 : Nat) (l0_0 : List (S113)) (A0_1 : Option Addr) (c0_1 : Nat) (l0_1 : List (S115)) (A1_0 : Option Addr) (c1_0 : Nat) (l1_0 : List (S113)) (A1_1 : Option Addr) (c1_1 : Nat) (l1_1 : List (S115)) (r : Bool) (w : World) (hr0_0 : Kd.C k113 w A0_0 l0_0.length l0_0) (hc0_0 : l0_0.length ≤ c0_0) (hr0_1 : Kd.C k115 w A0_1 l0_1.length l0_1) (hc0_1 : l0_1.length ≤ c0_1) (hr1_0 : Kd.C k113 w A1_0 l1_0.length l1_0) (hc1_0 : l1_0.length ≤ c1_0) (hr1_1 : Kd.C k115 w A1_1 l1_1.length l1_1) (hc1_1 : l1_1.length ≤ c1_1) (h : laws_FnExactSameFrame.f k l0_0 l0_1 l1_0 l1_1 = some r) :
  Calls Try.prog 4 #[.agg #[.slice A0_0 l0_0.length c0_0, .slice A0_1 l0_1.length c0_1], .agg #[.slice A1_0 l1_0.length c1_0, .slice A1_1 l1_1.length c1_1]] w fun e w' => e = .returned (.bool r) ∧ Below w.heap.size w w' := by
 have hu33 := Try.underlying33
 have hu39 := Try.underlying39
 have HR0_0 := G hr0_0
 have HC0_0 := G hc0_0
 clear hr0_0 hc0_0
 have HR0_1 := G hr0_1
 have HC0_1 := G hc0_1
 clear hr0_1 hc0_1
 have HR1_0 := G hr1_0
 have HC1_0 := G hc1_0
 clear hr1_0 hc1_0
 have HR1_1 := G hr1_1
 have HC1_1 := G hc1_1
 clear hr1_1 hc1_1
 have HB := G (Below.refl w.heap.size w)
 have H : ((laws_szFrame.f l0_0 l0_1 1048576).bind fun t840 => (if t840 < 0 then (some true) else ((laws_szFrame.f l1_0 l1_1 t840).bind fun t841 => (if t841 < 0 then (some true) else ((laws_toFrame.f k l0_0 l0_1).bind fun bt842 => ((laws_toFrame.f k l1_0 l1_1).bind fun bt848 => ((spec_SameFrame.f k bt842.1 bt842.2 bt848.1 bt848.2).bind fun t854 => ((laws_toFrame.f k l0_0 l0_1).bind fun bt855 => ((laws_toFrame.f k l1_0 l1_1).bind fun bt862 => ((impl_SameFrame.f k bt855.1 bt855.2 bt862.1 bt862.2).bind fun t869 => (if (t869 != t854) = true then (some false) else ((laws_toFrame.f k l0_0 l0_1).bind fun bt870 => ((laws_eqFrame.f k bt855.1 bt855.2 bt870.1 bt870.2).bind fun t876 => (if t876 = true then ((laws_toFrame.f k l1_0 l1_1).bind fun bt877 => ((laws_eqFrame.f k bt862.1 bt862.2 bt877.1 bt877.2).bind fun t883 => (if t883 = true then (some true) else (some false)))) else (some false))))))))))))))) = some r := h
 clear h
 replace H := Option.bind_eq_some_iff.mp H
 obtain ⟨t840, A30, H⟩ := H
 replace H : (if t840 < 0 then (some true) else ((laws_szFrame.f l1_0 l1_1 t840).bind fun t841 => (if t841 < 0 then (some true) else ((laws_toFrame.f k l0_0 l0_1).bind fun bt842 => ((laws_toFrame.f k l1_0 l1_1).bind fun bt848 => ((spec_SameFrame.f k bt842.1 bt842.2 bt848.1 bt848.2).bind fun t854 => ((laws_toFrame.f k l0_0 l0_1).bind fun bt855 => ((laws_toFrame.f k l1_0 l1_1).bind fun bt862 => ((impl_SameFrame.f k bt855.1 bt855.2 bt862.1 bt862.2).bind fun t869 => (if (t869 != t854) = true then (some false) else ((laws_toFrame.f k l0_0 l0_1).bind fun bt870 => ((laws_eqFrame.f k bt855.1 bt855.2 bt870.1 bt870.2).bind fun t876 => (if t876 = true then ((laws_toFrame.f k l1_0 l1_1).bind fun bt877 => ((laws_eqFrame.f k bt862.1 bt862.2 bt877.1 bt877.2).bind fun t883 => (if t883 = true then (some true) else (some false)))) else (some false)))))))))))))) = some r := H
 have A3 := G A30
 clear A30
 by_cases c4 : t840 < 0
 ·rw [if_pos c4] at H
  have c4b0 : decide (t840 < 0) = true := decide_eq_true c4
  clear c4
  obtain rfl := Option.some.inj H
  go_enter Try.func4, Try.ntmps4
  go_wp2_with (first | ((with_reducible refine gate_dst (N := 2) rfl ?_); refine box_event ?hg (N := 2) ?hd (cs := #[.slice A0_0 l0_0.length c0_0, .slice A0_1 l0_1.length c0_1]) (t := 33) ?hr ?_; (case hd => rfl); (case hg => rfl); (case hr => first | (go_simp; done) | (go_simp; rfl)); intro gb838 hg w5 hbox hb; have n0_ := G (GN (by repeat (first | (with_reducible first | exact HB.out | apply Z | apply T | apply Y) | exact HB.out)) hb); have n1_ := G (hbox); have n2_ := G ((by rw [hg]; exact (GM (by repeat (first | (with_reducible first | exact HB.out | apply Z | apply T | apply Y) | exact HB.out))) : w.heap.size ≤ gb838)); have n3_ := G ((by rw [hg]; exact (GM (by repeat (first | (with_reducible first | exact HB.out | apply Z | apply T | apply Y) | exact HB.out))) : w.heap.size ≤ gb838)); clear HB; have HB := n0_; have BK838 := n1_; have GW838 := n2_; have GE838 := n3_; clear n0_ n1_ n2_ n3_; clear hb hbox hg) | ((with_reducible refine gate_dst (N := 3) rfl ?_); refine box_event ?hg (N := 3) ?hd (cs := #[.slice A1_0 l1_0.length c1_0, .slice A1_1 l1_1.length c1_1]) (t := 33) ?hr ?_; (case hd => rfl); (case hg => rfl); (case hr => first | (go_simp; done) | (go_simp; rfl)); intro gb839 hg w6 hbox hb; have n0_ := G (F (g := gb838) (o := .cells #[.slice A0_0 l0_0.length c0_0, .slice A0_1 l0_1.length c0_1] 33 (0, 0)) (by (with_reducible repeat (first | refine U ?_ _ | refine X ?_ | refine V ?_ _)); exact BK838.out) hb); have n1_ := G (GN (by repeat (first | (with_reducible first | exact HB.out | apply Z | apply T | apply Y | refine O ?_ GE838.out) | exact HB.out)) hb); have n2_ := G (hbox); have n3_ := G ((by rw [hg]; exact (GM (by repeat (first | (with_reducible first | exact HB.out | apply Z | apply T | apply Y | refine O ?_ GE838.out) | exact HB.out))) : w.heap.size ≤ gb839)); have n4_ := G ((by rw [hg]; exact (GM (by repeat (first | (with_reducible first | exact HB.out | apply Z | apply T | apply Y | refine O ?_ GE838.out) | exact HB.out))) : w.heap.size ≤ gb839)); have n5_ := G ((by rw [hg]; exact Nat.ne_of_lt (blk_lt (g := gb838) (o := .cells #[.slice A0_0 l0_0.length c0_0, .slice A0_1 l0_1.length c0_1] 33 (0, 0)) (by (with_reducible repeat (first | refine U ?_ _ | refine X ?_ | refine V ?_ _)); exact BK838.out)) : gb838 ≠ gb839)); have n6_ := G ((by rw [hg]; exact Nat.ne_of_gt (blk_lt (g := gb838) (o := .cells #[.slice A0_0 l0_0.length c0_0, .slice A0_1 l0_1.length c0_1] 33 (0, 0)) (by (with_reducible repeat (first | refine U ?_ _ | refine X ?_ | refine V ?_ _)); exact BK838.out)) : gb839 ≠ gb838)); clear BK838; clear HB; have BK838 := n0_; have HB := n1_; have BK839 := n2_; have GW839 := n3_; have GE839 := n4_; have NB838_839 := n5_; have NB839_838 := n6_; clear n0_ n1_ n2_ n3_ n4_ n5_ n6_; clear hb hbox hg; have hnb7 := NB838_839.out; have hnc7 := NB839_838.out; have hcz8_0 : w6.cell? ⟨gb838, 0, none⟩ = some (.slice A0_0 l0_0.length c0_0) := (E BK838.out 0).trans rfl; have hcz8_1 : w6.cell? ⟨gb838, 1, none⟩ = some (.slice A0_1 l0_1.length c0_1) := (E BK838.out 1).trans rfl; have hfz8_0 := GT BK838.out 0; have hfz8_1 := GT BK838.out 1) | ((with_reducible refine gate_callee (f := 19) rfl ?_); refine goesL_ (some 12) rfl rfl Try.func19 (by kernel_rfl) rfl #[.agg #[.slice A0_0 l0_0.length c0_0, .slice A0_1 l0_1.length c0_1], .int .i64 1048576] rfl (by (try simp only [List.map_toArray, List.map_cons, List.map_nil]); first | done | rfl | (simp only [List.length_drop, List.length_take]; rfl)) ?_; (with_reducible refine (laws_szFrame.calls _ _ l0_0 _ _ l0_1 1048576 t840 _ ?side1 ?side2 ?side3 ?side4 A3.out).mono ?_); (case side1 => repeat (first | exact (GO HR0_0.out HB.out) | (with_reducible refine R ?_ _) | (with_reducible refine GG ?_ _) | (with_reducible refine GJ ?_))); (case side2 => exact HC0_0.out); (case side3 => repeat (first | exact (GO HR0_1.out HB.out) | (with_reducible refine R ?_ _) | (with_reducible refine GG ?_ _) | (with_reducible refine GJ ?_))); (case side4 => exact HC0_1.out); rintro e w9 ⟨rfl, hb⟩; refine ⟨_, rfl, ?_⟩; have n0_ := G (F (g := gb838) (o := .cells #[.slice A0_0 l0_0.length c0_0, .slice A0_1 l0_1.length c0_1] 33 (0, 0)) (by (with_reducible repeat (first | refine U ?_ _ | refine X ?_ | refine V ?_ _)); exact BK838.out) hb); have n1_ := G (F (g := gb839) (o := .cells #[.slice A1_0 l1_0.length c1_0, .slice A1_1 l1_1.length c1_1] 33 (0, 0)) (by (with_reducible repeat (first | refine U ?_ _ | refine X ?_ | refine V ?_ _)); exact BK839.out) hb); have n2_ := G (GN (by repeat (first | (with_reducible first | exact HB.out | apply Z | apply T | apply Y | refine O ?_ GE838.out | refine O ?_ GE839.out) | exact HB.out)) hb); clear BK838; clear BK839; clear HB; have BK838 := n0_; have BK839 := n1_; have HB := n2_; clear n0_ n1_ n2_; (try clear hb); (try clear hb2); (try clear hk); (try clear hi)))
  go_ret
  exact ⟨by first | rfl | (simp [errW_none, errW_some] <;> rfl) | (simp [*, errW_none, errW_some] <;> rfl), by repeat (first | (with_reducible first | exact HB.out | apply Z | apply T | apply Y | refine O ?_ GE838.out | refine O ?_ GE839.out) | exact HB.out)⟩
 ·rw [if_neg c4] at H
  have c4b0 : decide (t840 < 0) = false := decide_eq_false c4
  clear c4
  replace H := Option.bind_eq_some_iff.mp H
  obtain ⟨t841, A100, H⟩ := H
  replace H : (if t841 < 0 then (some true) else ((laws_toFrame.f k l0_0 l0_1).bind fun bt842 => ((laws_toFrame.f k l1_0 l1_1).bind fun bt848 => ((spec_SameFrame.f k bt842.1 bt842.2 bt848.1 bt848.2).bind fun t854 => ((laws_toFrame.f k l0_0 l0_1).bind fun bt855 => ((laws_toFrame.f k l1_0 l1_1).bind fun bt862 => ((impl_SameFrame.f k bt855.1 bt855.2 bt862.1 bt862.2).bind fun t869 => (if (t869 != t854) = true then (some false) else ((laws_toFrame.f k l0_0 l0_1).bind fun bt870 => ((laws_eqFrame.f k bt855.1 bt855.2 bt870.1 bt870.2).bind fun t876 => (if t876 = true then ((laws_toFrame.f k l1_0 l1_1).bind fun bt877 => ((laws_eqFrame.f k bt862.1 bt862.2 bt877.1 bt877.2).bind fun t883 => (if t883 = true then (some true) else (some false)))) else (some false)))))))))))) = some r := H
  have A10 := G A100
  clear A100
  by_cases c11 : t841 < 0
  ·rw [if_pos c11] at H
   have c11b0 : decide (t841 < 0) = true := decide_eq_true c11
   clear c11
   obtain rfl := Option.some.inj H
   go_enter Try.func4, Try.ntmps4
   go_wp2_with (first | ((with_reducible refine gate_dst (N := 2) rfl ?_); refine box_event ?hg (N := 2) ?hd (cs := #[.slice A0_0 l0_0.length c0_0, .slice A0_1 l0_1.length c0_1]) (t := 33) ?hr ?_; (case hd => rfl); (case hg => rfl); (case hr => first | (go_simp; done) | (go_simp; rfl)); intro gb838 hg w12 hbox hb; have n0_ := G (GN (by repeat (first | (with_reducible first | exact HB.out | apply Z | apply T | apply Y) | exact HB.out)) hb); have n1_ := G (hbox); have n2_ := G ((by rw [hg]; exact (GM (by repeat (first | (with_reducible first | exact HB.out | apply Z | apply T | apply Y) | exact HB.out))) : w.heap.size ≤ gb838)); have n3_ := G ((by rw [hg]; exact (GM (by repeat (first | (with_reducible first | exact HB.out | apply Z | apply T | apply Y) | exact HB.out))) : w.heap.size ≤ gb838)); clear HB; have HB := n0_; have BK838 := n1_; have GW838 := n2_; have GE838 := n3_; clear n0_ n1_ n2_ n3_; clear hb hbox hg) | ((with_reducible refine gate_dst (N := 3) rfl ?_); refine box_event ?hg (N := 3) ?hd (cs := #[.slice A1_0 l1_0.length c1_0, .slice A1_1 l1_1.length c1_1]) (t := 33) ?hr ?_; (case hd => rfl); (case hg => rfl); (case hr => first | (go_simp; done) | (go_simp; rfl)); intro gb839 hg w13 hbox hb; have n0_ := G (F (g := gb838) (o := .cells #[.slice A0_0 l0_0.length c0_0, .slice A0_1 l0_1.length c0_1] 33 (0, 0)) (by (with_reducible repeat (first | refine U ?_ _ | refine X ?_ | refine V ?_ _)); exact BK838.out) hb); have n1_ := G (GN (by repeat (first | (with_reducible first | exact HB.out | apply Z | apply T | apply Y | refine O ?_ GE838.out) | exact HB.out)) hb); have n2_ := G (hbox); have n3_ := G ((by rw [hg]; exact (GM (by repeat (first | (with_reducible first | exact HB.out | apply Z | apply T | apply Y | refine O ?_ GE838.out) | exact HB.out))) : w.heap.size ≤ gb839)); have n4_ := G ((by rw [hg]; exact (GM (by repeat (first | (with_reducible first | exact HB.out | apply Z | apply T | apply Y | refine O ?_ GE838.out) | exact HB.out))) : w.heap.size ≤ gb839)); have n5_ := G ((by rw [hg]; exact Nat.ne_of_lt (blk_lt (g := gb838) (o := .cells #[.slice A0_0 l0_0.length c0_0, .slice A0_1 l0_1.length c0_1] 33 (0, 0)) (by (with_reducible repeat (first | refine U ?_ _ | refine X ?_ | refine V ?_ _)); exact BK838.out)) : gb838 ≠ gb839)); have n6_ := G ((by rw [hg]; exact Nat.ne_of_gt (blk_lt (g := gb838) (o := .cells #[.slice A0_0 l0_0.length c0_0, .slice A0_1 l0_1.length c0_1] 33 (0, 0)) (by (with_reducible repeat (first | refine U ?_ _ | refine X ?_ | refine V ?_ _)); exact BK838.out)) : gb839 ≠ gb838)); clear BK838; clear HB; have BK838 := n0_; have HB := n1_; have BK839 := n2_; have GW839 := n3_; have GE839 := n4_; have NB838_839 := n5_; have NB839_838 := n6_; clear n0_ n1_ n2_ n3_ n4_ n5_ n6_; clear hb hbox hg; have hnb14 := NB838_839.out; have hnc14 := NB839_838.out; have hcz15_0 : w13.cell? ⟨gb838, 0, none⟩ = some (.slice A0_0 l0_0.length c0_0) := (E BK838.out 0).trans rfl; have hcz15_1 : w13.cell? ⟨gb838, 1, none⟩ = some (.slice A0_1 l0_1.length c0_1) := (E BK838.out 1).trans rfl; have hfz15_0 := GT BK838.out 0; have hfz15_1 := GT BK838.out 1) | ((with_reducible refine gate_callee (f := 19) rfl ?_); refine goesL_ (some 12) rfl rfl Try.func19 (by kernel_rfl) rfl #[.agg #[.slice A0_0 l0_0.length c0_0, .slice A0_1 l0_1.length c0_1], .int .i64 1048576] rfl (by (try simp only [List.map_toArray, List.map_cons, List.map_nil]); first | done | rfl | (simp only [List.length_drop, List.length_take]; rfl)) ?_; (with_reducible refine (laws_szFrame.calls _ _ l0_0 _ _ l0_1 1048576 t840 _ ?side1 ?side2 ?side3 ?side4 A3.out).mono ?_); (case side1 => repeat (first | exact (GO HR0_0.out HB.out) | (with_reducible refine R ?_ _) | (with_reducible refine GG ?_ _) | (with_reducible refine GJ ?_))); (case side2 => exact HC0_0.out); (case side3 => repeat (first | exact (GO HR0_1.out HB.out) | (with_reducible refine R ?_ _) | (with_reducible refine GG ?_ _) | (with_reducible refine GJ ?_))); (case side4 => exact HC0_1.out); rintro e w16 ⟨rfl, hb⟩; refine ⟨_, rfl, ?_⟩; have n0_ := G (F (g := gb838) (o := .cells #[.slice A0_0 l0_0.length c0_0, .slice A0_1 l0_1.length c0_1] 33 (0, 0)) (by (with_reducible repeat (first | refine U ?_ _ | refine X ?_ | refine V ?_ _)); exact BK838.out) hb); have n1_ := G (F (g := gb839) (o := .cells #[.slice A1_0 l1_0.length c1_0, .slice A1_1 l1_1.length c1_1] 33 (0, 0)) (by (with_reducible repeat (first | refine U ?_ _ | refine X ?_ | refine V ?_ _)); exact BK839.out) hb); have n2_ := G (GN (by repeat (first | (with_reducible first | exact HB.out | apply Z | apply T | apply Y | refine O ?_ GE838.out | refine O ?_ GE839.out) | exact HB.out)) hb); clear BK838; clear BK839; clear HB; have BK838 := n0_; have BK839 := n1_; have HB := n2_; clear n0_ n1_ n2_; (try clear hb); (try clear hb2); (try clear hk); (try clear hi); have hcz17_0 : w16.cell? ⟨gb839, 0, none⟩ = some (.slice A1_0 l1_0.length c1_0) := (E BK839.out 0).trans rfl; have hcz17_1 : w16.cell? ⟨gb839, 1, none⟩ = some (.slice A1_1 l1_1.length c1_1) := (E BK839.out 1).trans rfl; have hfz17_0 := GT BK839.out 0; have hfz17_1 := GT BK839.out 1) | ((with_reducible refine gate_callee (f := 19) rfl ?_); refine goesL_ (some 17) rfl rfl Try.func19 (by kernel_rfl) rfl #[.agg #[.slice A1_0 l1_0.length c1_0, .slice A1_1 l1_1.length c1_1], .int .i64 t840] rfl (by (try simp only [List.map_toArray, List.map_cons, List.map_nil]); first | done | rfl | (simp only [List.length_drop, List.length_take]; rfl)) ?_; (with_reducible refine (laws_szFrame.calls _ _ l1_0 _ _ l1_1 t840 t841 _ ?side1 ?side2 ?side3 ?side4 A10.out).mono ?_); (case side1 => repeat (first | exact (GO HR1_0.out HB.out) | (with_reducible refine R ?_ _) | (with_reducible refine GG ?_ _) | (with_reducible refine GJ ?_))); (case side2 => exact HC1_0.out); (case side3 => repeat (first | exact (GO HR1_1.out HB.out) | (with_reducible refine R ?_ _) | (with_reducible refine GG ?_ _) | (with_reducible refine GJ ?_))); (case side4 => exact HC1_1.out); rintro e w18 ⟨rfl, hb⟩; refine ⟨_, rfl, ?_⟩; have n0_ := G (F (g := gb838) (o := .cells #[.slice A0_0 l0_0.length c0_0, .slice A0_1 l0_1.length c0_1] 33 (0, 0)) (by (with_reducible repeat (first | refine U ?_ _ | refine X ?_ | refine V ?_ _)); exact BK838.out) hb); have n1_ := G (F (g := gb839) (o := .cells #[.slice A1_0 l1_0.length c1_0, .slice A1_1 l1_1.length c1_1] 33 (0, 0)) (by (with_reducible repeat (first | refine U ?_ _ | refine X ?_ | refine V ?_ _)); exact BK839.out) hb); have n2_ := G (GN (by repeat (first | (with_reducible first | exact HB.out | apply Z | apply T | apply Y | refine O ?_ GE838.out | refine O ?_ GE839.out) | exact HB.out)) hb); clear BK838; clear BK839; clear HB; have BK838 := n0_; have BK839 := n1_; have HB := n2_; clear n0_ n1_ n2_; (try clear hb); (try clear hb2); (try clear hk); (try clear hi)))
   go_ret
   exact ⟨by first | rfl | (simp [errW_none, errW_some] <;> rfl) | (simp [*, errW_none, errW_some] <;> rfl), by repeat (first | (with_reducible first | exact HB.out | apply Z | apply T | apply Y | refine O ?_ GE838.out | refine O ?_ GE839.out) | exact HB.out)⟩
  ·rw [if_neg c11] at H
   have c11b0 : decide (t841 < 0) = false := decide_eq_false c11
   clear c11
   replace H := Option.bind_eq_some_iff.mp H
   obtain ⟨⟨t842, t845⟩, A190, H⟩ := H
   replace H : ((laws_toFrame.f k l1_0 l1_1).bind fun bt848 => ((spec_SameFrame.f k t842 t845 bt848.1 bt848.2).bind fun t854 => ((laws_toFrame.f k l0_0 l0_1).bind fun bt855 => ((laws_toFrame.f k l1_0 l1_1).bind fun bt862 => ((impl_SameFrame.f k bt855.1 bt855.2 bt862.1 bt862.2).bind fun t869 => (if (t869 != t854) = true then (some false) else ((laws_toFrame.f k l0_0 l0_1).bind fun bt870 => ((laws_eqFrame.f k bt855.1 bt855.2 bt870.1 bt870.2).bind fun t876 => (if t876 = true then ((laws_toFrame.f k l1_0 l1_1).bind fun bt877 => ((laws_eqFrame.f k bt862.1 bt862.2 bt877.1 bt877.2).bind fun t883 => (if t883 = true then (some true) else (some false)))) else (some false)))))))))) = some r := H
   have A19 := G A190
   clear A190
   replace H := Option.bind_eq_some_iff.mp H
   obtain ⟨⟨t848, t851⟩, A200, H⟩ := H
   replace H : ((spec_SameFrame.f k t842 t845 t848 t851).bind fun t854 => ((laws_toFrame.f k l0_0 l0_1).bind fun bt855 => ((laws_toFrame.f k l1_0 l1_1).bind fun bt862 => ((impl_SameFrame.f k bt855.1 bt855.2 bt862.1 bt862.2).bind fun t869 => (if (t869 != t854) = true then (some false) else ((laws_toFrame.f k l0_0 l0_1).bind fun bt870 => ((laws_eqFrame.f k bt855.1 bt855.2 bt870.1 bt870.2).bind fun t876 => (if t876 = true then ((laws_toFrame.f k l1_0 l1_1).bind fun bt877 => ((laws_eqFrame.f k bt862.1 bt862.2 bt877.1 bt877.2).bind fun t883 => (if t883 = true then (some true) else (some false)))) else (some false))))))))) = some r := H
   have A20 := G A200
   clear A200
   replace H := Option.bind_eq_some_iff.mp H
   obtain ⟨t854, A210, H⟩ := H
   replace H : ((laws_toFrame.f k l0_0 l0_1).bind fun bt855 => ((laws_toFrame.f k l1_0 l1_1).bind fun bt862 => ((impl_SameFrame.f k bt855.1 bt855.2 bt862.1 bt862.2).bind fun t869 => (if (t869 != t854) = true then (some false) else ((laws_toFrame.f k l0_0 l0_1).bind fun bt870 => ((laws_eqFrame.f k bt855.1 bt855.2 bt870.1 bt870.2).bind fun t876 => (if t876 = true then ((laws_toFrame.f k l1_0 l1_1).bind fun bt877 => ((laws_eqFrame.f k bt862.1 bt862.2 bt877.1 bt877.2).bind fun t883 => (if t883 = true then (some true) else (some false)))) else (some false)))))))) = some r := H
   have A21 := G A210
   clear A210
   replace H := Option.bind_eq_some_iff.mp H
   obtain ⟨⟨t855, t858⟩, A220, H⟩ := H
   replace H : ((laws_toFrame.f k l1_0 l1_1).bind fun bt862 => ((impl_SameFrame.f k t855 t858 bt862.1 bt862.2).bind fun t869 => (if (t869 != t854) = true then (some false) else ((laws_toFrame.f k l0_0 l0_1).bind fun bt870 => ((laws_eqFrame.f k t855 t858 bt870.1 bt870.2).bind fun t876 => (if t876 = true then ((laws_toFrame.f k l1_0 l1_1).bind fun bt877 => ((laws_eqFrame.f k bt862.1 bt862.2 bt877.1 bt877.2).bind fun t883 => (if t883 = true then (some true) else (some false)))) else (some false))))))) = some r := H
   have A22 := G A220
   clear A220
   replace H := Option.bind_eq_some_iff.mp H
   obtain ⟨⟨t862, t865⟩, A230, H⟩ := H
   replace H : ((impl_SameFrame.f k t855 t858 t862 t865).bind fun t869 => (if (t869 != t854) = true then (some false) else ((laws_toFrame.f k l0_0 l0_1).bind fun bt870 => ((laws_eqFrame.f k t855 t858 bt870.1 bt870.2).bind fun t876 => (if t876 = true then ((laws_toFrame.f k l1_0 l1_1).bind fun bt877 => ((laws_eqFrame.f k t862 t865 bt877.1 bt877.2).bind fun t883 => (if t883 = true then (some true) else (some false)))) else (some false)))))) = some r := H
   have A23 := G A230
   clear A230
   replace H := Option.bind_eq_some_iff.mp H
   obtain ⟨t869, A240, H⟩ := H
   replace H : (if (t869 != t854) = true then (some false) else ((laws_toFrame.f k l0_0 l0_1).bind fun bt870 => ((laws_eqFrame.f k t855 t858 bt870.1 bt870.2).bind fun t876 => (if t876 = true then ((laws_toFrame.f k l1_0 l1_1).bind fun bt877 => ((laws_eqFrame.f k t862 t865 bt877.1 bt877.2).bind fun t883 => (if t883 = true then (some true) else (some false)))) else (some false))))) = some r := H
   have A24 := G A240
   clear A240
   by_cases c25 : (t869 != t854) = true
   ·rw [if_pos c25] at H
    have c25b0 : (t869 != t854) = true := c25
    (try (have c25b1 : decide (t869 = t854) = false := by simpa using c25))
    (try (have c25b2 : (t869 == t854) = false := by simpa using c25))
    (try (have c25b3 : ¬ (t869 = t854) := by simpa using c25))
    clear c25
    obtain rfl := Option.some.inj H
    go_enter Try.func4, Try.ntmps4
    try go_wp2_with (first | ((with_reducible refine gate_dst (N := 2) rfl ?_); refine box_event ?hg (N := 2) ?hd (cs := #[.slice A0_0 l0_0.length c0_0, .slice A0_1 l0_1.length c0_1]) (t := 33) ?hr ?_; (case hd => rfl); (case hg => rfl); (case hr => first | (go_simp; done) | (go_simp; rfl)); intro gb838 hg w26 hbox hb; have n0_ := G (GN (by repeat (first | (with_reducible first | exact HB.out | apply Z | apply T | apply Y) | exact HB.out)) hb); have n1_ := G (hbox); have n2_ := G ((by rw [hg]; exact (GM (by repeat (first | (with_reducible first | exact HB.out | apply Z | apply T | apply Y) | exact HB.out))) : w.heap.size ≤ gb838)); have n3_ := G ((by rw [hg]; exact (GM (by repeat (first | (with_reducible first | exact HB.out | apply Z | apply T | apply Y) | exact HB.out))) : w.heap.size ≤ gb838)); clear HB; have HB := n0_; have BK838 := n1_; have GW838 := n2_; have GE838 := n3_; clear n0_ n1_ n2_ n3_; clear hb hbox hg) | ((with_reducible refine gate_dst (N := 3) rfl ?_); refine box_event ?hg (N := 3) ?hd (cs := #[.slice A1_0 l1_0.length c1_0, .slice A1_1 l1_1.length c1_1]) (t := 33) ?hr ?_; (case hd => rfl); (case hg => rfl); (case hr => first | (go_simp; done) | (go_simp; rfl)); intro gb839 hg w27 hbox hb; have n0_ := G (F (g := gb838) (o := .cells #[.slice A0_0 l0_0.length c0_0, .slice A0_1 l0_1.length c0_1] 33 (0, 0)) (by (with_reducible repeat (first | refine U ?_ _ | refine X ?_ | refine V ?_ _)); exact BK838.out) hb); have n1_ := G (GN (by repeat (first | (with_reducible first | exact HB.out | apply Z | apply T | apply Y | refine O ?_ GE838.out) | exact HB.out)) hb); have n2_ := G (hbox); have n3_ := G ((by rw [hg]; exact (GM (by repeat (first | (with_reducible first | exact HB.out | apply Z | apply T | apply Y | refine O ?_ GE838.out) | exact HB.out))) : w.heap.size ≤ gb839)); have n4_ := G ((by rw [hg]; exact (GM (by repeat (first | (with_reducible first | exact HB.out | apply Z | apply T | apply Y | refine O ?_ GE838.out) | exact HB.out))) : w.heap.size ≤ gb839)); have n5_ := G ((by rw [hg]; exact Nat.ne_of_lt (blk_lt (g := gb838) (o := .cells #[.slice A0_0 l0_0.length c0_0, .slice A0_1 l0_1.length c0_1] 33 (0, 0)) (by (with_reducible repeat (first | refine U ?_ _ | refine X ?_ | refine V ?_ _)); exact BK838.out)) : gb838 ≠ gb839)); have n6_ := G ((by rw [hg]; exact Nat.ne_of_gt (blk_lt (g := gb838) (o := .cells #[.slice A0_0 l0_0.length c0_0, .slice A0_1 l0_1.length c0_1] 33 (0, 0)) (by (with_reducible repeat (first | refine U ?_ _ | refine X ?_ | refine V ?_ _)); exact BK838.out)) : gb839 ≠ gb838)); clear BK838; clear HB; have BK838 := n0_; have HB := n1_; have BK839 := n2_; have GW839 := n3_; have GE839 := n4_; have NB838_839 := n5_; have NB839_838 := n6_; clear n0_ n1_ n2_ n3_ n4_ n5_ n6_; clear hb hbox hg; have hnb28 := NB838_839.out; have hnc28 := NB839_838.out; have hcz29_0 : w27.cell? ⟨gb838, 0, none⟩ = some (.slice A0_0 l0_0.length c0_0) := (E BK838.out 0).trans rfl; have hcz29_1 : w27.cell? ⟨gb838, 1, none⟩ = some (.slice A0_1 l0_1.length c0_1) := (E BK838.out 1).trans rfl; have hfz29_0 := GT BK838.out 0; have hfz29_1 := GT BK838.out 1) | ((with_reducible refine gate_callee (f := 19) rfl ?_); refine goesL_ (some 12) rfl rfl Try.func19 (by kernel_rfl) rfl #[.agg #[.slice A0_0 l0_0.length c0_0, .slice A0_1 l0_1.length c0_1], .int .i64 1048576] rfl (by (try simp only [List.map_toArray, List.map_cons, List.map_nil]); first | done | rfl | (simp only [List.length_drop, List.length_take]; rfl)) ?_; (with_reducible refine (laws_szFrame.calls _ _ l0_0 _ _ l0_1 1048576 t840 _ ?side1 ?side2 ?side3 ?side4 A3.out).mono ?_); (case side1 => repeat (first | exact (GO HR0_0.out HB.out) | (with_reducible refine R ?_ _) | (with_reducible refine GG ?_ _) | (with_reducible refine GJ ?_))); (case side2 => exact HC0_0.out); (case side3 => repeat (first | exact (GO HR0_1.out HB.out) | (with_reducible refine R ?_ _) | (with_reducible refine GG ?_ _) | (with_reducible refine GJ ?_))); (case side4 => exact HC0_1.out); rintro e w30 ⟨rfl, hb⟩; refine ⟨_, rfl, ?_⟩; have n0_ := G (F (g := gb838) (o := .cells #[.slice A0_0 l0_0.length c0_0, .slice A0_1 l0_1.length c0_1] 33 (0, 0)) (by (with_reducible repeat (first | refine U ?_ _ | refine X ?_ | refine V ?_ _)); exact BK838.out) hb); have n1_ := G (F (g := gb839) (o := .cells #[.slice A1_0 l1_0.length c1_0, .slice A1_1 l1_1.length c1_1] 33 (0, 0)) (by (with_reducible repeat (first | refine U ?_ _ | refine X ?_ | refine V ?_ _)); exact BK839.out) hb); have n2_ := G (GN (by repeat (first | (with_reducible first | exact HB.out | apply Z | apply T | apply Y | refine O ?_ GE838.out | refine O ?_ GE839.out) | exact HB.out)) hb); clear BK838; clear BK839; clear HB; have BK838 := n0_; have BK839 := n1_; have HB := n2_; clear n0_ n1_ n2_; (try clear hb); (try clear hb2); (try clear hk); (try clear hi); have hcz31_0 : w30.cell? ⟨gb839, 0, none⟩ = some (.slice A1_0 l1_0.length c1_0) := (E BK839.out 0).trans rfl; have hcz31_1 : w30.cell? ⟨gb839, 1, none⟩ = some (.slice A1_1 l1_1.length c1_1) := (E BK839.out 1).trans rfl; have hfz31_0 := GT BK839.out 0; have hfz31_1 := GT BK839.out 1) | ((with_reducible refine gate_callee (f := 19) rfl ?_); refine goesL_ (some 17) rfl rfl Try.func19 (by kernel_rfl) rfl #[.agg #[.slice A1_0 l1_0.length c1_0, .slice A1_1 l1_1.length c1_1], .int .i64 t840] rfl (by (try simp only [List.map_toArray, List.map_cons, List.map_nil]); first | done | rfl | (simp only [List.length_drop, List.length_take]; rfl)) ?_; (with_reducible refine (laws_szFrame.calls _ _ l1_0 _ _ l1_1 t840 t841 _ ?side1 ?side2 ?side3 ?side4 A10.out).mono ?_); (case side1 => repeat (first | exact (GO HR1_0.out HB.out) | (with_reducible refine R ?_ _) | (with_reducible refine GG ?_ _) | (with_reducible refine GJ ?_))); (case side2 => exact HC1_0.out); (case side3 => repeat (first | exact (GO HR1_1.out HB.out) | (with_reducible refine R ?_ _) | (with_reducible refine GG ?_ _) | (with_reducible refine GJ ?_))); (case side4 => exact HC1_1.out); rintro e w32 ⟨rfl, hb⟩; refine ⟨_, rfl, ?_⟩; have n0_ := G (F (g := gb838) (o := .cells #[.slice A0_0 l0_0.length c0_0, .slice A0_1 l0_1.length c0_1] 33 (0, 0)) (by (with_reducible repeat (first | refine U ?_ _ | refine X ?_ | refine V ?_ _)); exact BK838.out) hb); have n1_ := G (F (g := gb839) (o := .cells #[.slice A1_0 l1_0.length c1_0, .slice A1_1 l1_1.length c1_1] 33 (0, 0)) (by (with_reducible repeat (first | refine U ?_ _ | refine X ?_ | refine V ?_ _)); exact BK839.out) hb); have n2_ := G (GN (by repeat (first | (with_reducible first | exact HB.out | apply Z | apply T | apply Y | refine O ?_ GE838.out | refine O ?_ GE839.out) | exact HB.out)) hb); clear BK838; clear BK839; clear HB; have BK838 := n0_; have BK839 := n1_; have HB := n2_; clear n0_ n1_ n2_; (try clear hb); (try clear hb2); (try clear hk); (try clear hi)))
    have n0_ := G (X BK838.out)
    have n1_ := G (X BK839.out)
    have n2_ := G (Y HB.out)
    clear BK838
    clear BK839
    clear HB
    have BK838 := n0_
    have BK839 := n1_
    have HB := n2_
    clear n0_ n1_ n2_
    refine start_ (n := 6) (S := fun w' => w'.cell? ⟨gb838, 0, none⟩ = some (.slice A0_0 l0_0.length c0_0) ∧ w'.cell? ⟨gb838, 1, none⟩ = some (.slice A0_1 l0_1.length c0_1) ∧ w'.cell? ⟨gb839, 0, none⟩ = some (.slice A1_0 l1_0.length c1_0) ∧ w'.cell? ⟨gb839, 1, none⟩ = some (.slice A1_1 l1_1.length c1_1)) (ds := []) #[n', n', n', n', n', n'] (by kernel_rfl) rfl rfl ⟨(E BK838.out 0).trans rfl, (E BK838.out 1).trans rfl, (E BK839.out 0).trans rfl, (E BK839.out 1).trans rfl⟩ (fun hHeld => ?_)
    generalize w32.drew = w33 at BK838 BK839 HB hHeld ⊢
    refine take_ (i := 0) (N := some 20) (v := ?_) (a' := ?_) #[y', n', n', n', n', n'] rfl rfl (by kernel_rfl) (fun _ _ _ h => h) (Or.inl ⟨by rfl, ?_⟩) hHeld ?_ ?_
    rotate_left
    ·rintro w' ⟨s0, s1, s2, s3⟩
     go_simp
     with_reducible rfl
    rotate_left
    ·simp only [Act.put, z1', z2', z3', i64_w, i32_w]
     rfl
    refine take_ (i := 2) (N := some 22) (v := ?_) (a' := ?_) #[y', n', y', n', n', n'] rfl rfl (by kernel_rfl) (fun _ _ _ h => h) (Or.inl ⟨by rfl, ?_⟩) hHeld ?_ ?_
    rotate_left
    ·rintro w' ⟨s0, s1, s2, s3⟩
     go_simp
     with_reducible rfl
    rotate_left
    ·simp only [Act.put, z1', z2', z3', i64_w, i32_w]
     rfl
    refine one_ (i := 1) (N := some 21) #[y', y', y', n', n', n'] rfl rfl (by kernel_rfl) (by decide) (fun K hK => ?_)
    refine goes_ Try.func21 (by kernel_rfl) rfl #[.agg #[.slice A0_0 l0_0.length c0_0, .slice A0_1 l0_1.length c0_1]] (by rfl) rfl rfl (by (try simp only [List.map_toArray, List.map_cons, List.map_nil]); first | done | rfl | (simp only [List.length_drop, List.length_take]; rfl)) ?_
    with_reducible refine (laws_toFrame.calls k _ _ l0_0 _ _ l0_1 t842 t845 _ ?side1 ?side2 ?side3 ?side4 A19.out).mono ?_
    (case side1 => repeat (first | exact (GO HR0_0.out HB.out) | (with_reducible refine R ?_ _) | (with_reducible refine GG ?_ _) | (with_reducible refine GJ ?_)))
    (case side2 => exact HC0_0.out)
    (case side3 => repeat (first | exact (GO HR0_1.out HB.out) | (with_reducible refine R ?_ _) | (with_reducible refine GG ?_ _) | (with_reducible refine GJ ?_)))
    (case side4 => exact HC0_1.out)
    rintro e w34 ⟨v843, v846, rfl, ho0, ho1, hb⟩
    refine ⟨_, rfl, ?_⟩
    have n0_ := G (Kd.R_lower ho0 (GM (by repeat (first | (with_reducible first | exact HB.out | apply Z | apply T | apply Y | refine O ?_ GE838.out | refine O ?_ GE839.out) | exact HB.out))))
    have n1_ := G (Kd.R_lower ho1 (GM (by repeat (first | (with_reducible first | exact HB.out | apply Z | apply T | apply Y | refine O ?_ GE838.out | refine O ?_ GE839.out) | exact HB.out))))
    have n2_ := G (F (g := gb838) (o := .cells #[.slice A0_0 l0_0.length c0_0, .slice A0_1 l0_1.length c0_1] 33 (0, 0)) (by (with_reducible repeat (first | refine U ?_ _ | refine X ?_ | refine V ?_ _)); exact BK838.out) hb)
    have n3_ := G (F (g := gb839) (o := .cells #[.slice A1_0 l1_0.length c1_0, .slice A1_1 l1_1.length c1_1] 33 (0, 0)) (by (with_reducible repeat (first | refine U ?_ _ | refine X ?_ | refine V ?_ _)); exact BK839.out) hb)
    have n4_ := G (GN (by repeat (first | (with_reducible first | exact HB.out | apply Z | apply T | apply Y | refine O ?_ GE838.out | refine O ?_ GE839.out) | exact HB.out)) hb)
    clear BK838
    clear BK839
    clear HB
    have HO844 := n0_
    have HO847 := n1_
    have BK838 := n2_
    have BK839 := n3_
    have HB := n4_
    clear n0_ n1_ n2_ n3_ n4_
    (try clear hb)
    (try clear hb2)
    (try clear hk)
    (try clear hi)
    (try clear ho0)
    (try clear ho1)
    refine hK.out _ _ ⟨(E BK838.out 0).trans rfl, (E BK838.out 1).trans rfl, (E BK839.out 0).trans rfl, (E BK839.out 1).trans rfl⟩ (fun hHeld => ?_)
    clear hK K
    refine norm_ (a' := ?_) ?_ ?_
    rotate_left
    ·show Act.put _ (some 21) _ = _
     simp only [Act.put, z1', z2', z3', i64_w, i32_w]
     rfl
    refine one_ (i := 3) (N := some 23) #[y', y', y', y', n', n'] rfl rfl (by kernel_rfl) (by decide) (fun K hK => ?_)
    refine goes_ Try.func21 (by kernel_rfl) rfl #[.agg #[.slice A1_0 l1_0.length c1_0, .slice A1_1 l1_1.length c1_1]] (by rfl) rfl rfl (by (try simp only [List.map_toArray, List.map_cons, List.map_nil]); first | done | rfl | (simp only [List.length_drop, List.length_take]; rfl)) ?_
    with_reducible refine (laws_toFrame.calls k _ _ l1_0 _ _ l1_1 t848 t851 _ ?side1 ?side2 ?side3 ?side4 A20.out).mono ?_
    (case side1 => repeat (first | exact (GO HR1_0.out HB.out) | (with_reducible refine R ?_ _) | (with_reducible refine GG ?_ _) | (with_reducible refine GJ ?_)))
    (case side2 => exact HC1_0.out)
    (case side3 => repeat (first | exact (GO HR1_1.out HB.out) | (with_reducible refine R ?_ _) | (with_reducible refine GG ?_ _) | (with_reducible refine GJ ?_)))
    (case side4 => exact HC1_1.out)
    rintro e w35 ⟨v849, v852, rfl, ho0, ho1, hb⟩
    refine ⟨_, rfl, ?_⟩
    have n0_ := G (Kd.R_elder' (by (with_reducible repeat (first | apply J | apply L | apply M)); exact HO844.out) (Kd.R_base ho0) hb)
    have n1_ := G (Kd.R_elder' (by (with_reducible repeat (first | apply J | apply L | apply M)); exact HO847.out) (Kd.R_base ho1) hb)
    have n2_ := G (Kd.R_lower (GL ho0 (Kd.R_lt (by (with_reducible repeat (first | apply J | apply L | apply M)); exact HO844.out))) (GM (by repeat (first | (with_reducible first | exact HB.out | apply Z | apply T | apply Y | refine O ?_ GE838.out | refine O ?_ GE839.out) | exact HB.out))))
    have n3_ := G (Kd.R_lower (GL ho1 (Kd.R_lt (by (with_reducible repeat (first | apply J | apply L | apply M)); exact HO847.out))) (GM (by repeat (first | (with_reducible first | exact HB.out | apply Z | apply T | apply Y | refine O ?_ GE838.out | refine O ?_ GE839.out) | exact HB.out))))
    have n4_ := G (F (g := gb838) (o := .cells #[.slice A0_0 l0_0.length c0_0, .slice A0_1 l0_1.length c0_1] 33 (0, 0)) (by (with_reducible repeat (first | refine U ?_ _ | refine X ?_ | refine V ?_ _)); exact BK838.out) hb)
    have n5_ := G (F (g := gb839) (o := .cells #[.slice A1_0 l1_0.length c1_0, .slice A1_1 l1_1.length c1_1] 33 (0, 0)) (by (with_reducible repeat (first | refine U ?_ _ | refine X ?_ | refine V ?_ _)); exact BK839.out) hb)
    have n6_ := G (GN (by repeat (first | (with_reducible first | exact HB.out | apply Z | apply T | apply Y | refine O ?_ GE838.out | refine O ?_ GE839.out) | exact HB.out)) hb)
    clear HO844
    clear HO847
    clear BK838
    clear BK839
    clear HB
    have HO844 := n0_
    have HO847 := n1_
    have HO850 := n2_
    have HO853 := n3_
    have BK838 := n4_
    have BK839 := n5_
    have HB := n6_
    clear n0_ n1_ n2_ n3_ n4_ n5_ n6_
    (try clear hb)
    (try clear hb2)
    (try clear hk)
    (try clear hi)
    (try clear ho0)
    (try clear ho1)
    obtain ⟨Ao36, co36, eo36⟩ := Kd.R_slice HO844.out
    (first | subst eo36 | (injection eo36 with f1_ f2_ f3_; have f4_ := f1_.symm; have f5_ := f3_.symm; clear f1_ f2_ f3_; subst f4_; subst f5_))
    obtain ⟨Ao37, co37, eo37⟩ := Kd.R_slice HO847.out
    (first | subst eo37 | (injection eo37 with f1_ f2_ f3_; have f4_ := f1_.symm; have f5_ := f3_.symm; clear f1_ f2_ f3_; subst f4_; subst f5_))
    obtain ⟨Ao38, co38, eo38⟩ := Kd.R_slice HO850.out
    (first | subst eo38 | (injection eo38 with f1_ f2_ f3_; have f4_ := f1_.symm; have f5_ := f3_.symm; clear f1_ f2_ f3_; subst f4_; subst f5_))
    obtain ⟨Ao39, co39, eo39⟩ := Kd.R_slice HO853.out
    (first | subst eo39 | (injection eo39 with f1_ f2_ f3_; have f4_ := f1_.symm; have f5_ := f3_.symm; clear f1_ f2_ f3_; subst f4_; subst f5_))
    refine hK.out _ _ ⟨(E BK838.out 0).trans rfl, (E BK838.out 1).trans rfl, (E BK839.out 0).trans rfl, (E BK839.out 1).trans rfl⟩ (fun hHeld => ?_)
    clear hK K
    refine norm_ (a' := ?_) ?_ ?_
    rotate_left
    ·show Act.put _ (some 23) _ = _
     simp only [Act.put, z1', z2', z3', i64_w, i32_w]
     rfl
    refine one_ (i := 4) (N := some 24) #[y', y', y', y', y', n'] rfl rfl (by kernel_rfl) (by decide) (fun K hK => ?_)
    refine goes_ Try.func20 (by kernel_rfl) rfl #[.agg #[.slice Ao36 t842.length co36, .slice Ao37 t845.length co37], .agg #[.slice Ao38 t848.length co38, .slice Ao39 t851.length co39]] (by rfl) rfl rfl (by (try simp only [List.map_toArray, List.map_cons, List.map_nil]); first | done | rfl | (simp only [List.length_drop, List.length_take]; rfl)) ?_
    with_reducible refine (spec_SameFrame.calls k _ _ t842 _ _ t845 _ _ t848 _ _ t851 t854 _ ?side1 ?side2 ?side3 ?side4 ?side5 ?side6 ?side7 ?side8 A21.out).mono ?_
    (case side1 => repeat (first | exact (Kd.R_reads' HO844.out).2.2 | (with_reducible refine R ?_ _) | (with_reducible refine GG ?_ _) | (with_reducible refine GJ ?_)))
    (case side2 => exact (Kd.R_reads' HO844.out).2.1)
    (case side3 => repeat (first | exact (Kd.R_reads' HO847.out).2.2 | (with_reducible refine R ?_ _) | (with_reducible refine GG ?_ _) | (with_reducible refine GJ ?_)))
    (case side4 => exact (Kd.R_reads' HO847.out).2.1)
    (case side5 => repeat (first | exact (Kd.R_reads' HO850.out).2.2 | (with_reducible refine R ?_ _) | (with_reducible refine GG ?_ _) | (with_reducible refine GJ ?_)))
    (case side6 => exact (Kd.R_reads' HO850.out).2.1)
    (case side7 => repeat (first | exact (Kd.R_reads' HO853.out).2.2 | (with_reducible refine R ?_ _) | (with_reducible refine GG ?_ _) | (with_reducible refine GJ ?_)))
    (case side8 => exact (Kd.R_reads' HO853.out).2.1)
    rintro e w40 ⟨rfl, hb⟩
    refine ⟨_, rfl, ?_⟩
    have n0_ := G (B (by (with_reducible repeat (first | apply J | apply L | apply M)); exact HO844.out) hb)
    have n1_ := G (B (by (with_reducible repeat (first | apply J | apply L | apply M)); exact HO847.out) hb)
    have n2_ := G (B (by (with_reducible repeat (first | apply J | apply L | apply M)); exact HO850.out) hb)
    have n3_ := G (B (by (with_reducible repeat (first | apply J | apply L | apply M)); exact HO853.out) hb)
    have n4_ := G (F (g := gb838) (o := .cells #[.slice A0_0 l0_0.length c0_0, .slice A0_1 l0_1.length c0_1] 33 (0, 0)) (by (with_reducible repeat (first | refine U ?_ _ | refine X ?_ | refine V ?_ _)); exact BK838.out) hb)
    have n5_ := G (F (g := gb839) (o := .cells #[.slice A1_0 l1_0.length c1_0, .slice A1_1 l1_1.length c1_1] 33 (0, 0)) (by (with_reducible repeat (first | refine U ?_ _ | refine X ?_ | refine V ?_ _)); exact BK839.out) hb)
    have n6_ := G (GN (by repeat (first | (with_reducible first | exact HB.out | apply Z | apply T | apply Y | refine O ?_ GE838.out | refine O ?_ GE839.out) | exact HB.out)) hb)
    clear HO844
    clear HO847
    clear HO850
    clear HO853
    clear BK838
    clear BK839
    clear HB
    have HO844 := n0_
    have HO847 := n1_
    have HO850 := n2_
    have HO853 := n3_
    have BK838 := n4_
    have BK839 := n5_
    have HB := n6_
    clear n0_ n1_ n2_ n3_ n4_ n5_ n6_
    (try clear hb)
    (try clear hb2)
    (try clear hk)
    (try clear hi)
    refine hK.out _ _ ⟨(E BK838.out 0).trans rfl, (E BK838.out 1).trans rfl, (E BK839.out 0).trans rfl, (E BK839.out 1).trans rfl⟩ (fun hHeld => ?_)
    clear hK K
    refine norm_ (a' := ?_) ?_ ?_
    rotate_left
    ·show Act.put _ (some 24) _ = _
     simp only [Act.put, z1', z2', z3', i64_w, i32_w]
     rfl
    refine pure_ (i := 5) (N := some 6) (v := ?_) (a' := ?_) #[y', y', y', y', y', y'] rfl rfl (by kernel_rfl) (fun _ _ _ h => h) (Or.inl ⟨by rfl, ?_⟩) ?_ ?_
    rotate_left
    ·intro w'
     go_simp
     with_reducible rfl
    rotate_left
    ·simp only [Act.put, z1', z2', z3', i64_w, i32_w]
     rfl
    refine done_ (by kernel_rfl) ?_
    have hcz41_0 : w40.cell? ⟨gb838, 0, none⟩ = some (.slice A0_0 l0_0.length c0_0) := (E BK838.out 0).trans rfl
    have hcz41_1 : w40.cell? ⟨gb838, 1, none⟩ = some (.slice A0_1 l0_1.length c0_1) := (E BK838.out 1).trans rfl
    have hfz41_0 := GT BK838.out 0
    have hfz41_1 := GT BK838.out 1
    try go_wp2_with (first | ((with_reducible refine gate_callee (f := 21) rfl ?_); refine goesL_ (some 26) rfl rfl Try.func21 (by kernel_rfl) rfl #[.agg #[.slice A0_0 l0_0.length c0_0, .slice A0_1 l0_1.length c0_1]] rfl (by (try simp only [List.map_toArray, List.map_cons, List.map_nil]); first | done | rfl | (simp only [List.length_drop, List.length_take]; rfl)) ?_; (with_reducible refine (laws_toFrame.calls k _ _ l0_0 _ _ l0_1 t855 t858 _ ?side1 ?side2 ?side3 ?side4 A22.out).mono ?_); (case side1 => repeat (first | exact (GO HR0_0.out HB.out) | (with_reducible refine R ?_ _) | (with_reducible refine GG ?_ _) | (with_reducible refine GJ ?_))); (case side2 => exact HC0_0.out); (case side3 => repeat (first | exact (GO HR0_1.out HB.out) | (with_reducible refine R ?_ _) | (with_reducible refine GG ?_ _) | (with_reducible refine GJ ?_))); (case side4 => exact HC0_1.out); rintro e w42 ⟨v856, v859, rfl, ho0, ho1, hb⟩; refine ⟨_, rfl, ?_⟩; have n0_ := G (Kd.R_elder' (by (with_reducible repeat (first | apply J | apply L | apply M)); exact HO844.out) (Kd.R_base ho0) hb); have n1_ := G (Kd.R_elder' (by (with_reducible repeat (first | apply J | apply L | apply M)); exact HO847.out) (Kd.R_base ho1) hb); have n2_ := G (Kd.R_elder' (by (with_reducible repeat (first | apply J | apply L | apply M)); exact HO850.out) (Kd.R_base ho0) hb); have n3_ := G (Kd.R_elder' (by (with_reducible repeat (first | apply J | apply L | apply M)); exact HO853.out) (Kd.R_base ho1) hb); have n4_ := G (Kd.R_lower (GL (GL ho0 (Kd.R_lt (by (with_reducible repeat (first | apply J | apply L | apply M)); exact HO844.out))) (Kd.R_lt (by (with_reducible repeat (first | apply J | apply L | apply M)); exact HO850.out))) (GM (by repeat (first | (with_reducible first | exact HB.out | apply Z | apply T | apply Y | refine O ?_ GE838.out | refine O ?_ GE839.out) | exact HB.out)))); have n5_ := G (Kd.R_lower (GL (GL ho1 (Kd.R_lt (by (with_reducible repeat (first | apply J | apply L | apply M)); exact HO847.out))) (Kd.R_lt (by (with_reducible repeat (first | apply J | apply L | apply M)); exact HO853.out))) (GM (by repeat (first | (with_reducible first | exact HB.out | apply Z | apply T | apply Y | refine O ?_ GE838.out | refine O ?_ GE839.out) | exact HB.out)))); have n6_ := G (F (g := gb838) (o := .cells #[.slice A0_0 l0_0.length c0_0, .slice A0_1 l0_1.length c0_1] 33 (0, 0)) (by (with_reducible repeat (first | refine U ?_ _ | refine X ?_ | refine V ?_ _)); exact BK838.out) hb); have n7_ := G (F (g := gb839) (o := .cells #[.slice A1_0 l1_0.length c1_0, .slice A1_1 l1_1.length c1_1] 33 (0, 0)) (by (with_reducible repeat (first | refine U ?_ _ | refine X ?_ | refine V ?_ _)); exact BK839.out) hb); have n8_ := G (GN (by repeat (first | (with_reducible first | exact HB.out | apply Z | apply T | apply Y | refine O ?_ GE838.out | refine O ?_ GE839.out) | exact HB.out)) hb); clear HO844; clear HO847; clear HO850; clear HO853; clear BK838; clear BK839; clear HB; have HO844 := n0_; have HO847 := n1_; have HO850 := n2_; have HO853 := n3_; have HO857 := n4_; have HO860 := n5_; have BK838 := n6_; have BK839 := n7_; have HB := n8_; clear n0_ n1_ n2_ n3_ n4_ n5_ n6_ n7_ n8_; (try clear hb); (try clear hb2); (try clear hk); (try clear hi); (try clear ho0); (try clear ho1)) | ((with_reducible refine gate_dst (N := 7) rfl ?_); refine box_event ?hg (N := 7) ?hd (cs := #[.slice none 0 0, .slice none 0 0]) (t := 39) ?hr ?_; (case hd => rfl); (case hg => rfl); (case hr => first | (go_simp; done) | (go_simp; rfl)); intro gb861 hg w43 hbox hb; have n0_ := G (B (by (with_reducible repeat (first | apply J | apply L | apply M)); exact HO844.out) hb); have n1_ := G (B (by (with_reducible repeat (first | apply J | apply L | apply M)); exact HO847.out) hb); have n2_ := G (B (by (with_reducible repeat (first | apply J | apply L | apply M)); exact HO850.out) hb); have n3_ := G (B (by (with_reducible repeat (first | apply J | apply L | apply M)); exact HO853.out) hb); have n4_ := G (B (by (with_reducible repeat (first | apply J | apply L | apply M)); exact HO857.out) hb); have n5_ := G (B (by (with_reducible repeat (first | apply J | apply L | apply M)); exact HO860.out) hb); have n6_ := G (F (g := gb838) (o := .cells #[.slice A0_0 l0_0.length c0_0, .slice A0_1 l0_1.length c0_1] 33 (0, 0)) (by (with_reducible repeat (first | refine U ?_ _ | refine X ?_ | refine V ?_ _)); exact BK838.out) hb); have n7_ := G (F (g := gb839) (o := .cells #[.slice A1_0 l1_0.length c1_0, .slice A1_1 l1_1.length c1_1] 33 (0, 0)) (by (with_reducible repeat (first | refine U ?_ _ | refine X ?_ | refine V ?_ _)); exact BK839.out) hb); have n8_ := G (GN (by repeat (first | (with_reducible first | exact HB.out | apply Z | apply T | apply Y | refine O ?_ GE838.out | refine O ?_ GE839.out) | exact HB.out)) hb); have n9_ := G (hbox); have n10_ := G ((by rw [hg]; exact (GM (by repeat (first | (with_reducible first | exact HB.out | apply Z | apply T | apply Y | refine O ?_ GE838.out | refine O ?_ GE839.out) | exact HB.out))) : w.heap.size ≤ gb861)); have n11_ := G ((by rw [hg]; exact (GM (by repeat (first | (with_reducible first | exact HB.out | apply Z | apply T | apply Y | refine O ?_ GE838.out | refine O ?_ GE839.out) | exact HB.out))) : w.heap.size ≤ gb861)); have n12_ := G ((by rw [hg]; exact Nat.ne_of_lt (blk_lt (g := gb838) (o := .cells #[.slice A0_0 l0_0.length c0_0, .slice A0_1 l0_1.length c0_1] 33 (0, 0)) (by (with_reducible repeat (first | refine U ?_ _ | refine X ?_ | refine V ?_ _)); exact BK838.out)) : gb838 ≠ gb861)); have n13_ := G ((by rw [hg]; exact Nat.ne_of_gt (blk_lt (g := gb838) (o := .cells #[.slice A0_0 l0_0.length c0_0, .slice A0_1 l0_1.length c0_1] 33 (0, 0)) (by (with_reducible repeat (first | refine U ?_ _ | refine X ?_ | refine V ?_ _)); exact BK838.out)) : gb861 ≠ gb838)); have n14_ := G ((by rw [hg]; exact Nat.ne_of_lt (blk_lt (g := gb839) (o := .cells #[.slice A1_0 l1_0.length c1_0, .slice A1_1 l1_1.length c1_1] 33 (0, 0)) (by (with_reducible repeat (first | refine U ?_ _ | refine X ?_ | refine V ?_ _)); exact BK839.out)) : gb839 ≠ gb861)); have n15_ := G ((by rw [hg]; exact Nat.ne_of_gt (blk_lt (g := gb839) (o := .cells #[.slice A1_0 l1_0.length c1_0, .slice A1_1 l1_1.length c1_1] 33 (0, 0)) (by (with_reducible repeat (first | refine U ?_ _ | refine X ?_ | refine V ?_ _)); exact BK839.out)) : gb861 ≠ gb839)); clear HO844; clear HO847; clear HO850; clear HO853; clear HO857; clear HO860; clear BK838; clear BK839; clear HB; have HO844 := n0_; have HO847 := n1_; have HO850 := n2_; have HO853 := n3_; have HO857 := n4_; have HO860 := n5_; have BK838 := n6_; have BK839 := n7_; have HB := n8_; have BK861 := n9_; have GW861 := n10_; have GE861 := n11_; have NB838_861 := n12_; have NB861_838 := n13_; have NB839_861 := n14_; have NB861_839 := n15_; clear n0_ n1_ n2_ n3_ n4_ n5_ n6_ n7_ n8_ n9_ n10_ n11_ n12_ n13_ n14_ n15_; clear hb hbox hg; obtain ⟨Ao44, co44, eo44⟩ := Kd.R_slice HO857.out; subst eo44; have hnb45 := NB861_838.out; have hnc45 := NB838_861.out; have hnb46 := NB861_839.out; have hnc46 := NB839_861.out; have hcz47_0 : w43.cell? ⟨gb861, 0, none⟩ = some (.slice none 0 0) := (E BK861.out 0).trans rfl; have hcz47_1 : w43.cell? ⟨gb861, 1, none⟩ = some (.slice none 0 0) := (E BK861.out 1).trans rfl; have hfz47_0 := GT BK861.out 0; have hfz47_1 := GT BK861.out 1; obtain ⟨Ao48, co48, eo48⟩ := Kd.R_slice HO860.out; subst eo48; have hcz49_0 : w43.cell? ⟨gb839, 0, none⟩ = some (.slice A1_0 l1_0.length c1_0) := (E BK839.out 0).trans rfl; have hcz49_1 : w43.cell? ⟨gb839, 1, none⟩ = some (.slice A1_1 l1_1.length c1_1) := (E BK839.out 1).trans rfl; have hfz49_0 := GT BK839.out 0; have hfz49_1 := GT BK839.out 1) | ((with_reducible refine gate_callee (f := 21) rfl ?_); refine goesL_ (some 28) rfl rfl Try.func21 (by kernel_rfl) rfl #[.agg #[.slice A1_0 l1_0.length c1_0, .slice A1_1 l1_1.length c1_1]] rfl (by (try simp only [List.map_toArray, List.map_cons, List.map_nil]); first | done | rfl | (simp only [List.length_drop, List.length_take]; rfl)) ?_; (with_reducible refine (laws_toFrame.calls k _ _ l1_0 _ _ l1_1 t862 t865 _ ?side1 ?side2 ?side3 ?side4 A23.out).mono ?_); (case side1 => exact GO HR1_0.out (by repeat (first | (with_reducible first | exact HB.out | apply Z | apply T | apply Y | refine O ?_ GE838.out | refine O ?_ GE839.out | refine O ?_ GE861.out) | exact HB.out))); (case side2 => exact HC1_0.out); (case side3 => exact GO HR1_1.out (by repeat (first | (with_reducible first | exact HB.out | apply Z | apply T | apply Y | refine O ?_ GE838.out | refine O ?_ GE839.out | refine O ?_ GE861.out) | exact HB.out))); (case side4 => exact HC1_1.out); rintro e w50 ⟨v863, v866, rfl, ho0, ho1, hb⟩; refine ⟨_, rfl, ?_⟩; have n0_ := G (Kd.R_elder' (by (with_reducible repeat (first | apply J | apply L | apply M)); exact (P (D (p := ⟨gb861, 1, none⟩) (D (p := ⟨gb861, 0, none⟩) (I HO844.out BK861.out (by decide)) (fun _ hk => hk.2) (.slice Ao44 t855.length co44)) (fun _ hk => hk.2) (.slice Ao48 t858.length co48)) (fun _ h_ => h_.1))) (Kd.R_base ho0) hb); have n1_ := G (Kd.R_elder' (by (with_reducible repeat (first | apply J | apply L | apply M)); exact (P (D (p := ⟨gb861, 1, none⟩) (D (p := ⟨gb861, 0, none⟩) (I HO847.out BK861.out (by decide)) (fun _ hk => hk.2) (.slice Ao44 t855.length co44)) (fun _ hk => hk.2) (.slice Ao48 t858.length co48)) (fun _ h_ => h_.1))) (Kd.R_base ho1) hb); have n2_ := G (Kd.R_elder' (by (with_reducible repeat (first | apply J | apply L | apply M)); exact (P (D (p := ⟨gb861, 1, none⟩) (D (p := ⟨gb861, 0, none⟩) (I HO850.out BK861.out (by decide)) (fun _ hk => hk.2) (.slice Ao44 t855.length co44)) (fun _ hk => hk.2) (.slice Ao48 t858.length co48)) (fun _ h_ => h_.1))) (Kd.R_base ho0) hb); have n3_ := G (Kd.R_elder' (by (with_reducible repeat (first | apply J | apply L | apply M)); exact (P (D (p := ⟨gb861, 1, none⟩) (D (p := ⟨gb861, 0, none⟩) (I HO853.out BK861.out (by decide)) (fun _ hk => hk.2) (.slice Ao44 t855.length co44)) (fun _ hk => hk.2) (.slice Ao48 t858.length co48)) (fun _ h_ => h_.1))) (Kd.R_base ho1) hb); have n4_ := G (Kd.R_elder' (by (with_reducible repeat (first | apply J | apply L | apply M)); exact (P (D (p := ⟨gb861, 1, none⟩) (D (p := ⟨gb861, 0, none⟩) (I HO857.out BK861.out (by decide)) (fun _ hk => hk.2) (.slice Ao44 t855.length co44)) (fun _ hk => hk.2) (.slice Ao48 t858.length co48)) (fun _ h_ => h_.1))) (Kd.R_base ho0) hb); have n5_ := G (Kd.R_elder' (by (with_reducible repeat (first | apply J | apply L | apply M)); exact (P (D (p := ⟨gb861, 1, none⟩) (D (p := ⟨gb861, 0, none⟩) (I HO860.out BK861.out (by decide)) (fun _ hk => hk.2) (.slice Ao44 t855.length co44)) (fun _ hk => hk.2) (.slice Ao48 t858.length co48)) (fun _ h_ => h_.1))) (Kd.R_base ho1) hb); have n6_ := G (Kd.R_lower (GL (GL (GL ho0 (Kd.R_lt (by (with_reducible repeat (first | apply J | apply L | apply M)); exact (P (D (p := ⟨gb861, 1, none⟩) (D (p := ⟨gb861, 0, none⟩) (I HO844.out BK861.out (by decide)) (fun _ hk => hk.2) (.slice Ao44 t855.length co44)) (fun _ hk => hk.2) (.slice Ao48 t858.length co48)) (fun _ h_ => h_.1))))) (Kd.R_lt (by (with_reducible repeat (first | apply J | apply L | apply M)); exact (P (D (p := ⟨gb861, 1, none⟩) (D (p := ⟨gb861, 0, none⟩) (I HO850.out BK861.out (by decide)) (fun _ hk => hk.2) (.slice Ao44 t855.length co44)) (fun _ hk => hk.2) (.slice Ao48 t858.length co48)) (fun _ h_ => h_.1))))) (Kd.R_lt (by (with_reducible repeat (first | apply J | apply L | apply M)); exact (P (D (p := ⟨gb861, 1, none⟩) (D (p := ⟨gb861, 0, none⟩) (I HO857.out BK861.out (by decide)) (fun _ hk => hk.2) (.slice Ao44 t855.length co44)) (fun _ hk => hk.2) (.slice Ao48 t858.length co48)) (fun _ h_ => h_.1))))) (GM (by repeat (first | (with_reducible first | exact HB.out | apply Z | apply T | apply Y | refine O ?_ GE838.out | refine O ?_ GE839.out | refine O ?_ GE861.out) | exact HB.out)))); have n7_ := G (Kd.R_lower (GL (GL (GL ho1 (Kd.R_lt (by (with_reducible repeat (first | apply J | apply L | apply M)); exact (P (D (p := ⟨gb861, 1, none⟩) (D (p := ⟨gb861, 0, none⟩) (I HO847.out BK861.out (by decide)) (fun _ hk => hk.2) (.slice Ao44 t855.length co44)) (fun _ hk => hk.2) (.slice Ao48 t858.length co48)) (fun _ h_ => h_.1))))) (Kd.R_lt (by (with_reducible repeat (first | apply J | apply L | apply M)); exact (P (D (p := ⟨gb861, 1, none⟩) (D (p := ⟨gb861, 0, none⟩) (I HO853.out BK861.out (by decide)) (fun _ hk => hk.2) (.slice Ao44 t855.length co44)) (fun _ hk => hk.2) (.slice Ao48 t858.length co48)) (fun _ h_ => h_.1))))) (Kd.R_lt (by (with_reducible repeat (first | apply J | apply L | apply M)); exact (P (D (p := ⟨gb861, 1, none⟩) (D (p := ⟨gb861, 0, none⟩) (I HO860.out BK861.out (by decide)) (fun _ hk => hk.2) (.slice Ao44 t855.length co44)) (fun _ hk => hk.2) (.slice Ao48 t858.length co48)) (fun _ h_ => h_.1))))) (GM (by repeat (first | (with_reducible first | exact HB.out | apply Z | apply T | apply Y | refine O ?_ GE838.out | refine O ?_ GE839.out | refine O ?_ GE861.out) | exact HB.out)))); have n8_ := G (F (g := gb838) (o := .cells #[.slice A0_0 l0_0.length c0_0, .slice A0_1 l0_1.length c0_1] 33 (0, 0)) (by (with_reducible repeat (first | refine U ?_ _ | refine X ?_ | refine V ?_ _)); refine blk_far ?_ NB838_861.out _; (with_reducible repeat (first | refine U ?_ _ | refine X ?_ | refine V ?_ _)); refine blk_far ?_ NB838_861.out _; (with_reducible repeat (first | refine U ?_ _ | refine X ?_ | refine V ?_ _)); exact BK838.out) hb); have n9_ := G (F (g := gb839) (o := .cells #[.slice A1_0 l1_0.length c1_0, .slice A1_1 l1_1.length c1_1] 33 (0, 0)) (by (with_reducible repeat (first | refine U ?_ _ | refine X ?_ | refine V ?_ _)); refine blk_far ?_ NB839_861.out _; (with_reducible repeat (first | refine U ?_ _ | refine X ?_ | refine V ?_ _)); refine blk_far ?_ NB839_861.out _; (with_reducible repeat (first | refine U ?_ _ | refine X ?_ | refine V ?_ _)); exact BK839.out) hb); have n10_ := G (F (g := gb861) (o := .cells #[.slice Ao44 t855.length co44, .slice Ao48 t858.length co48] 39 (0, 0)) (by (with_reducible repeat (first | refine U ?_ _ | refine X ?_ | refine V ?_ _)); refine blk_put (cs := #[.slice Ao44 t855.length co44, .slice none 0 0]) ?_ 1 _ rfl; (with_reducible repeat (first | refine U ?_ _ | refine X ?_ | refine V ?_ _)); refine blk_put (cs := #[.slice none 0 0, .slice none 0 0]) ?_ 0 _ rfl; (with_reducible repeat (first | refine U ?_ _ | refine X ?_ | refine V ?_ _)); exact BK861.out) hb); have n11_ := G (GN (by repeat (first | (with_reducible first | exact HB.out | apply Z | apply T | apply Y | refine O ?_ GE838.out | refine O ?_ GE839.out | refine O ?_ GE861.out) | exact HB.out)) hb); clear HO844; clear HO847; clear HO850; clear HO853; clear HO857; clear HO860; clear BK838; clear BK839; clear BK861; clear HB; have HO844 := n0_; have HO847 := n1_; have HO850 := n2_; have HO853 := n3_; have HO857 := n4_; have HO860 := n5_; have HO864 := n6_; have HO867 := n7_; have BK838 := n8_; have BK839 := n9_; have BK861 := n10_; have HB := n11_; clear n0_ n1_ n2_ n3_ n4_ n5_ n6_ n7_ n8_ n9_ n10_ n11_; (try clear hb); (try clear hb2); (try clear hk); (try clear hi); (try clear ho0); (try clear ho1)) | ((with_reducible refine gate_dst (N := 8) rfl ?_); refine box_event ?hg (N := 8) ?hd (cs := #[.slice none 0 0, .slice none 0 0]) (t := 39) ?hr ?_; (case hd => rfl); (case hg => rfl); (case hr => first | (go_simp; done) | (go_simp; rfl)); intro gb868 hg w51 hbox hb; have n0_ := G (B (by (with_reducible repeat (first | apply J | apply L | apply M)); exact HO844.out) hb); have n1_ := G (B (by (with_reducible repeat (first | apply J | apply L | apply M)); exact HO847.out) hb); have n2_ := G (B (by (with_reducible repeat (first | apply J | apply L | apply M)); exact HO850.out) hb); have n3_ := G (B (by (with_reducible repeat (first | apply J | apply L | apply M)); exact HO853.out) hb); have n4_ := G (B (by (with_reducible repeat (first | apply J | apply L | apply M)); exact HO857.out) hb); have n5_ := G (B (by (with_reducible repeat (first | apply J | apply L | apply M)); exact HO860.out) hb); have n6_ := G (B (by (with_reducible repeat (first | apply J | apply L | apply M)); exact HO864.out) hb); have n7_ := G (B (by (with_reducible repeat (first | apply J | apply L | apply M)); exact HO867.out) hb); have n8_ := G (F (g := gb838) (o := .cells #[.slice A0_0 l0_0.length c0_0, .slice A0_1 l0_1.length c0_1] 33 (0, 0)) (by (with_reducible repeat (first | refine U ?_ _ | refine X ?_ | refine V ?_ _)); exact BK838.out) hb); have n9_ := G (F (g := gb839) (o := .cells #[.slice A1_0 l1_0.length c1_0, .slice A1_1 l1_1.length c1_1] 33 (0, 0)) (by (with_reducible repeat (first | refine U ?_ _ | refine X ?_ | refine V ?_ _)); exact BK839.out) hb); have n10_ := G (F (g := gb861) (o := .cells #[.slice Ao44 t855.length co44, .slice Ao48 t858.length co48] 39 (0, 0)) (by (with_reducible repeat (first | refine U ?_ _ | refine X ?_ | refine V ?_ _)); exact BK861.out) hb); have n11_ := G (GN (by repeat (first | (with_reducible first | exact HB.out | apply Z | apply T | apply Y | refine O ?_ GE838.out | refine O ?_ GE839.out | refine O ?_ GE861.out) | exact HB.out)) hb); have n12_ := G (hbox); have n13_ := G ((by rw [hg]; exact (GM (by repeat (first | (with_reducible first | exact HB.out | apply Z | apply T | apply Y | refine O ?_ GE838.out | refine O ?_ GE839.out | refine O ?_ GE861.out) | exact HB.out))) : w.heap.size ≤ gb868)); have n14_ := G ((by rw [hg]; exact (GM (by repeat (first | (with_reducible first | exact HB.out | apply Z | apply T | apply Y | refine O ?_ GE838.out | refine O ?_ GE839.out | refine O ?_ GE861.out) | exact HB.out))) : w.heap.size ≤ gb868)); have n15_ := G ((by rw [hg]; exact Nat.ne_of_lt (blk_lt (g := gb838) (o := .cells #[.slice A0_0 l0_0.length c0_0, .slice A0_1 l0_1.length c0_1] 33 (0, 0)) (by (with_reducible repeat (first | refine U ?_ _ | refine X ?_ | refine V ?_ _)); exact BK838.out)) : gb838 ≠ gb868)); have n16_ := G ((by rw [hg]; exact Nat.ne_of_gt (blk_lt (g := gb838) (o := .cells #[.slice A0_0 l0_0.length c0_0, .slice A0_1 l0_1.length c0_1] 33 (0, 0)) (by (with_reducible repeat (first | refine U ?_ _ | refine X ?_ | refine V ?_ _)); exact BK838.out)) : gb868 ≠ gb838)); have n17_ := G ((by rw [hg]; exact Nat.ne_of_lt (blk_lt (g := gb839) (o := .cells #[.slice A1_0 l1_0.length c1_0, .slice A1_1 l1_1.length c1_1] 33 (0, 0)) (by (with_reducible repeat (first | refine U ?_ _ | refine X ?_ | refine V ?_ _)); exact BK839.out)) : gb839 ≠ gb868)); have n18_ := G ((by rw [hg]; exact Nat.ne_of_gt (blk_lt (g := gb839) (o := .cells #[.slice A1_0 l1_0.length c1_0, .slice A1_1 l1_1.length c1_1] 33 (0, 0)) (by (with_reducible repeat (first | refine U ?_ _ | refine X ?_ | refine V ?_ _)); exact BK839.out)) : gb868 ≠ gb839)); have n19_ := G ((by rw [hg]; exact Nat.ne_of_lt (blk_lt (g := gb861) (o := .cells #[.slice Ao44 t855.length co44, .slice Ao48 t858.length co48] 39 (0, 0)) (by (with_reducible repeat (first | refine U ?_ _ | refine X ?_ | refine V ?_ _)); exact BK861.out)) : gb861 ≠ gb868)); have n20_ := G ((by rw [hg]; exact Nat.ne_of_gt (blk_lt (g := gb861) (o := .cells #[.slice Ao44 t855.length co44, .slice Ao48 t858.length co48] 39 (0, 0)) (by (with_reducible repeat (first | refine U ?_ _ | refine X ?_ | refine V ?_ _)); exact BK861.out)) : gb868 ≠ gb861)); clear HO844; clear HO847; clear HO850; clear HO853; clear HO857; clear HO860; clear HO864; clear HO867; clear BK838; clear BK839; clear BK861; clear HB; have HO844 := n0_; have HO847 := n1_; have HO850 := n2_; have HO853 := n3_; have HO857 := n4_; have HO860 := n5_; have HO864 := n6_; have HO867 := n7_; have BK838 := n8_; have BK839 := n9_; have BK861 := n10_; have HB := n11_; have BK868 := n12_; have GW868 := n13_; have GE868 := n14_; have NB838_868 := n15_; have NB868_838 := n16_; have NB839_868 := n17_; have NB868_839 := n18_; have NB861_868 := n19_; have NB868_861 := n20_; clear n0_ n1_ n2_ n3_ n4_ n5_ n6_ n7_ n8_ n9_ n10_ n11_ n12_ n13_ n14_ n15_ n16_ n17_ n18_ n19_ n20_; clear hb hbox hg; obtain ⟨Ao52, co52, eo52⟩ := Kd.R_slice HO864.out; subst eo52; have hnb53 := NB868_838.out; have hnc53 := NB838_868.out; have hnb54 := NB868_839.out; have hnc54 := NB839_868.out; have hnb55 := NB868_861.out; have hnc55 := NB861_868.out; have hcz56_0 : w51.cell? ⟨gb868, 0, none⟩ = some (.slice none 0 0) := (E BK868.out 0).trans rfl; have hcz56_1 : w51.cell? ⟨gb868, 1, none⟩ = some (.slice none 0 0) := (E BK868.out 1).trans rfl; have hfz56_0 := GT BK868.out 0; have hfz56_1 := GT BK868.out 1; obtain ⟨Ao57, co57, eo57⟩ := Kd.R_slice HO867.out; subst eo57; have hcz58_0 : w51.cell? ⟨gb861, 0, none⟩ = some (.slice Ao44 t855.length co44) := (E BK861.out 0).trans rfl; have hcz58_1 : w51.cell? ⟨gb861, 1, none⟩ = some (.slice Ao48 t858.length co48) := (E BK861.out 1).trans rfl; have hfz58_0 := GT BK861.out 0; have hfz58_1 := GT BK861.out 1) | ((with_reducible refine gate_callee (f := 22) rfl ?_); refine goesL_ (some 31) rfl rfl Try.func22 (by kernel_rfl) rfl #[.agg #[.slice Ao44 t855.length co44, .slice Ao48 t858.length co48], .agg #[.slice Ao52 t862.length co52, .slice Ao57 t865.length co57]] rfl (by (try simp only [List.map_toArray, List.map_cons, List.map_nil]); first | done | rfl | (simp only [List.length_drop, List.length_take]; rfl)) ?_; (with_reducible refine (impl_SameFrame.calls k _ _ t855 _ _ t858 _ _ t862 _ _ t865 t869 _ ?side1 ?side2 ?side3 ?side4 ?side5 ?side6 ?side7 ?side8 A24.out).mono ?_); (case side1 => refine (Kd.R_reads' (e := 82) (base := w.heap.size) (ok := fun k_ => (((True ∧ some k_ ≠ (.slice Ao36 t842.length co36 : Value).ownBlock) ∧ some k_ ≠ (.slice Ao38 t848.length co38 : Value).ownBlock) ∧ some k_ ≠ (.slice Ao52 t862.length co52 : Value).ownBlock)) (n := t855.length) (c := co44) ?_).2.2; exact (by (with_reducible repeat (first | apply J | apply L | apply M)); exact (P (D (p := ⟨gb868, 1, none⟩) (D (p := ⟨gb868, 0, none⟩) (I HO857.out BK868.out (by decide)) (fun _ hk => hk.2) (.slice Ao52 t862.length co52)) (fun _ hk => hk.2) (.slice Ao57 t865.length co57)) (fun _ h_ => h_.1)))); (case side2 => exact (Kd.R_reads' HO857.out).2.1); (case side3 => refine (Kd.R_reads' (e := 84) (base := w.heap.size) (ok := fun k_ => (((True ∧ some k_ ≠ (.slice Ao37 t845.length co37 : Value).ownBlock) ∧ some k_ ≠ (.slice Ao39 t851.length co39 : Value).ownBlock) ∧ some k_ ≠ (.slice Ao57 t865.length co57 : Value).ownBlock)) (n := t858.length) (c := co48) ?_).2.2; exact (by (with_reducible repeat (first | apply J | apply L | apply M)); exact (P (D (p := ⟨gb868, 1, none⟩) (D (p := ⟨gb868, 0, none⟩) (I HO860.out BK868.out (by decide)) (fun _ hk => hk.2) (.slice Ao52 t862.length co52)) (fun _ hk => hk.2) (.slice Ao57 t865.length co57)) (fun _ h_ => h_.1)))); (case side4 => exact (Kd.R_reads' HO860.out).2.1); (case side5 => refine (Kd.R_reads' (e := 82) (base := w.heap.size) (ok := fun k_ => (((True ∧ some k_ ≠ (.slice Ao36 t842.length co36 : Value).ownBlock) ∧ some k_ ≠ (.slice Ao38 t848.length co38 : Value).ownBlock) ∧ some k_ ≠ (.slice Ao44 t855.length co44 : Value).ownBlock)) (n := t862.length) (c := co52) ?_).2.2; exact (by (with_reducible repeat (first | apply J | apply L | apply M)); exact (P (D (p := ⟨gb868, 1, none⟩) (D (p := ⟨gb868, 0, none⟩) (I HO864.out BK868.out (by decide)) (fun _ hk => hk.2) (.slice Ao52 t862.length co52)) (fun _ hk => hk.2) (.slice Ao57 t865.length co57)) (fun _ h_ => h_.1)))); (case side6 => exact (Kd.R_reads' HO864.out).2.1); (case side7 => refine (Kd.R_reads' (e := 84) (base := w.heap.size) (ok := fun k_ => (((True ∧ some k_ ≠ (.slice Ao37 t845.length co37 : Value).ownBlock) ∧ some k_ ≠ (.slice Ao39 t851.length co39 : Value).ownBlock) ∧ some k_ ≠ (.slice Ao48 t858.length co48 : Value).ownBlock)) (n := t865.length) (c := co57) ?_).2.2; exact (by (with_reducible repeat (first | apply J | apply L | apply M)); exact (P (D (p := ⟨gb868, 1, none⟩) (D (p := ⟨gb868, 0, none⟩) (I HO867.out BK868.out (by decide)) (fun _ hk => hk.2) (.slice Ao52 t862.length co52)) (fun _ hk => hk.2) (.slice Ao57 t865.length co57)) (fun _ h_ => h_.1)))); (case side8 => exact (Kd.R_reads' HO867.out).2.1); rintro e w59 ⟨rfl, hb⟩; refine ⟨_, rfl, ?_⟩; have n0_ := G (B (by (with_reducible repeat (first | apply J | apply L | apply M)); exact (P (D (p := ⟨gb868, 1, none⟩) (D (p := ⟨gb868, 0, none⟩) (I HO844.out BK868.out (by decide)) (fun _ hk => hk.2) (.slice Ao52 t862.length co52)) (fun _ hk => hk.2) (.slice Ao57 t865.length co57)) (fun _ h_ => h_.1))) hb); have n1_ := G (B (by (with_reducible repeat (first | apply J | apply L | apply M)); exact (P (D (p := ⟨gb868, 1, none⟩) (D (p := ⟨gb868, 0, none⟩) (I HO847.out BK868.out (by decide)) (fun _ hk => hk.2) (.slice Ao52 t862.length co52)) (fun _ hk => hk.2) (.slice Ao57 t865.length co57)) (fun _ h_ => h_.1))) hb); have n2_ := G (B (by (with_reducible repeat (first | apply J | apply L | apply M)); exact (P (D (p := ⟨gb868, 1, none⟩) (D (p := ⟨gb868, 0, none⟩) (I HO850.out BK868.out (by decide)) (fun _ hk => hk.2) (.slice Ao52 t862.length co52)) (fun _ hk => hk.2) (.slice Ao57 t865.length co57)) (fun _ h_ => h_.1))) hb); have n3_ := G (B (by (with_reducible repeat (first | apply J | apply L | apply M)); exact (P (D (p := ⟨gb868, 1, none⟩) (D (p := ⟨gb868, 0, none⟩) (I HO853.out BK868.out (by decide)) (fun _ hk => hk.2) (.slice Ao52 t862.length co52)) (fun _ hk => hk.2) (.slice Ao57 t865.length co57)) (fun _ h_ => h_.1))) hb); have n4_ := G (B (by (with_reducible repeat (first | apply J | apply L | apply M)); exact (P (D (p := ⟨gb868, 1, none⟩) (D (p := ⟨gb868, 0, none⟩) (I HO857.out BK868.out (by decide)) (fun _ hk => hk.2) (.slice Ao52 t862.length co52)) (fun _ hk => hk.2) (.slice Ao57 t865.length co57)) (fun _ h_ => h_.1))) hb); have n5_ := G (B (by (with_reducible repeat (first | apply J | apply L | apply M)); exact (P (D (p := ⟨gb868, 1, none⟩) (D (p := ⟨gb868, 0, none⟩) (I HO860.out BK868.out (by decide)) (fun _ hk => hk.2) (.slice Ao52 t862.length co52)) (fun _ hk => hk.2) (.slice Ao57 t865.length co57)) (fun _ h_ => h_.1))) hb); have n6_ := G (B (by (with_reducible repeat (first | apply J | apply L | apply M)); exact (P (D (p := ⟨gb868, 1, none⟩) (D (p := ⟨gb868, 0, none⟩) (I HO864.out BK868.out (by decide)) (fun _ hk => hk.2) (.slice Ao52 t862.length co52)) (fun _ hk => hk.2) (.slice Ao57 t865.length co57)) (fun _ h_ => h_.1))) hb); have n7_ := G (B (by (with_reducible repeat (first | apply J | apply L | apply M)); exact (P (D (p := ⟨gb868, 1, none⟩) (D (p := ⟨gb868, 0, none⟩) (I HO867.out BK868.out (by decide)) (fun _ hk => hk.2) (.slice Ao52 t862.length co52)) (fun _ hk => hk.2) (.slice Ao57 t865.length co57)) (fun _ h_ => h_.1))) hb); have n8_ := G (F (g := gb838) (o := .cells #[.slice A0_0 l0_0.length c0_0, .slice A0_1 l0_1.length c0_1] 33 (0, 0)) (by (with_reducible repeat (first | refine U ?_ _ | refine X ?_ | refine V ?_ _)); refine blk_far ?_ NB838_868.out _; (with_reducible repeat (first | refine U ?_ _ | refine X ?_ | refine V ?_ _)); refine blk_far ?_ NB838_868.out _; (with_reducible repeat (first | refine U ?_ _ | refine X ?_ | refine V ?_ _)); exact BK838.out) hb); have n9_ := G (F (g := gb839) (o := .cells #[.slice A1_0 l1_0.length c1_0, .slice A1_1 l1_1.length c1_1] 33 (0, 0)) (by (with_reducible repeat (first | refine U ?_ _ | refine X ?_ | refine V ?_ _)); refine blk_far ?_ NB839_868.out _; (with_reducible repeat (first | refine U ?_ _ | refine X ?_ | refine V ?_ _)); refine blk_far ?_ NB839_868.out _; (with_reducible repeat (first | refine U ?_ _ | refine X ?_ | refine V ?_ _)); exact BK839.out) hb); have n10_ := G (F (g := gb861) (o := .cells #[.slice Ao44 t855.length co44, .slice Ao48 t858.length co48] 39 (0, 0)) (by (with_reducible repeat (first | refine U ?_ _ | refine X ?_ | refine V ?_ _)); refine blk_far ?_ NB861_868.out _; (with_reducible repeat (first | refine U ?_ _ | refine X ?_ | refine V ?_ _)); refine blk_far ?_ NB861_868.out _; (with_reducible repeat (first | refine U ?_ _ | refine X ?_ | refine V ?_ _)); exact BK861.out) hb); have n11_ := G (F (g := gb868) (o := .cells #[.slice Ao52 t862.length co52, .slice Ao57 t865.length co57] 39 (0, 0)) (by (with_reducible repeat (first | refine U ?_ _ | refine X ?_ | refine V ?_ _)); refine blk_put (cs := #[.slice Ao52 t862.length co52, .slice none 0 0]) ?_ 1 _ rfl; (with_reducible repeat (first | refine U ?_ _ | refine X ?_ | refine V ?_ _)); refine blk_put (cs := #[.slice none 0 0, .slice none 0 0]) ?_ 0 _ rfl; (with_reducible repeat (first | refine U ?_ _ | refine X ?_ | refine V ?_ _)); exact BK868.out) hb); have n12_ := G (GN (by repeat (first | (with_reducible first | exact HB.out | apply Z | apply T | apply Y | refine O ?_ GE838.out | refine O ?_ GE839.out | refine O ?_ GE861.out | refine O ?_ GE868.out) | exact HB.out)) hb); clear HO844; clear HO847; clear HO850; clear HO853; clear HO857; clear HO860; clear HO864; clear HO867; clear BK838; clear BK839; clear BK861; clear BK868; clear HB; have HO844 := n0_; have HO847 := n1_; have HO850 := n2_; have HO853 := n3_; have HO857 := n4_; have HO860 := n5_; have HO864 := n6_; have HO867 := n7_; have BK838 := n8_; have BK839 := n9_; have BK861 := n10_; have BK868 := n11_; have HB := n12_; clear n0_ n1_ n2_ n3_ n4_ n5_ n6_ n7_ n8_ n9_ n10_ n11_ n12_; (try clear hb); (try clear hb2); (try clear hk); (try clear hi)))
    go_ret
    exact ⟨by first | rfl | (simp [errW_none, errW_some] <;> rfl) | (simp [*, errW_none, errW_some] <;> rfl), by repeat (first | (with_reducible first | exact HB.out | apply Z | apply T | apply Y | refine O ?_ GE838.out | refine O ?_ GE839.out | refine O ?_ GE861.out | refine O ?_ GE868.out) | exact HB.out)⟩
   ·rw [if_neg c25] at H
    have c25b0 : (t869 != t854) = false := by simpa using c25
    (try (have c25b1 : decide (t869 = t854) = true := by simpa using c25))
    (try (have c25b2 : (t869 == t854) = true := by simpa using c25))
    clear c25
    replace H := Option.bind_eq_some_iff.mp H
    obtain ⟨⟨t870, t873⟩, A600, H⟩ := H
    replace H : ((laws_eqFrame.f k t855 t858 t870 t873).bind fun t876 => (if t876 = true then ((laws_toFrame.f k l1_0 l1_1).bind fun bt877 => ((laws_eqFrame.f k t862 t865 bt877.1 bt877.2).bind fun t883 => (if t883 = true then (some true) else (some false)))) else (some false))) = some r := H
    have A60 := G A600
    clear A600
    replace H := Option.bind_eq_some_iff.mp H
    obtain ⟨t876, A610, H⟩ := H
    replace H : (if t876 = true then ((laws_toFrame.f k l1_0 l1_1).bind fun bt877 => ((laws_eqFrame.f k t862 t865 bt877.1 bt877.2).bind fun t883 => (if t883 = true then (some true) else (some false)))) else (some false)) = some r := H
    have A61 := G A610
    clear A610
    by_cases c62 : t876 = true
    ·subst c62
     have H1 : ((laws_toFrame.f k l1_0 l1_1).bind fun bt877 => ((laws_eqFrame.f k t862 t865 bt877.1 bt877.2).bind fun t883 => (if t883 = true then (some true) else (some false)))) = some r := by rw [if_pos rfl] at H; exact H
     clear H
     have H := H1
     clear H1
     replace H := Option.bind_eq_some_iff.mp H
     obtain ⟨⟨t877, t880⟩, A630, H⟩ := H
     replace H : ((laws_eqFrame.f k t862 t865 t877 t880).bind fun t883 => (if t883 = true then (some true) else (some false))) = some r := H
     have A63 := G A630
     clear A630
     replace H := Option.bind_eq_some_iff.mp H
     obtain ⟨t883, A640, H⟩ := H
     replace H : (if t883 = true then (some true) else (some false)) = some r := H
     have A64 := G A640
     clear A640
     by_cases c65 : t883 = true
     ·subst c65
      have H1 : (some true) = some r := by rw [if_pos rfl] at H; exact H
      clear H
      have H := H1
      clear H1
      obtain rfl := Option.some.inj H
      go_enter Try.func4, Try.ntmps4
      try go_wp2_with (first | ((with_reducible refine gate_dst (N := 2) rfl ?_); refine box_event ?hg (N := 2) ?hd (cs := #[.slice A0_0 l0_0.length c0_0, .slice A0_1 l0_1.length c0_1]) (t := 33) ?hr ?_; (case hd => rfl); (case hg => rfl); (case hr => first | (go_simp; done) | (go_simp; rfl)); intro gb838 hg w66 hbox hb; have n0_ := G (GN (by repeat (first | (with_reducible first | exact HB.out | apply Z | apply T | apply Y) | exact HB.out)) hb); have n1_ := G (hbox); have n2_ := G ((by rw [hg]; exact (GM (by repeat (first | (with_reducible first | exact HB.out | apply Z | apply T | apply Y) | exact HB.out))) : w.heap.size ≤ gb838)); have n3_ := G ((by rw [hg]; exact (GM (by repeat (first | (with_reducible first | exact HB.out | apply Z | apply T | apply Y) | exact HB.out))) : w.heap.size ≤ gb838)); clear HB; have HB := n0_; have BK838 := n1_; have GW838 := n2_; have GE838 := n3_; clear n0_ n1_ n2_ n3_; clear hb hbox hg) | ((with_reducible refine gate_dst (N := 3) rfl ?_); refine box_event ?hg (N := 3) ?hd (cs := #[.slice A1_0 l1_0.length c1_0, .slice A1_1 l1_1.length c1_1]) (t := 33) ?hr ?_; (case hd => rfl); (case hg => rfl); (case hr => first | (go_simp; done) | (go_simp; rfl)); intro gb839 hg w67 hbox hb; have n0_ := G (F (g := gb838) (o := .cells #[.slice A0_0 l0_0.length c0_0, .slice A0_1 l0_1.length c0_1] 33 (0, 0)) (by (with_reducible repeat (first | refine U ?_ _ | refine X ?_ | refine V ?_ _)); exact BK838.out) hb); have n1_ := G (GN (by repeat (first | (with_reducible first | exact HB.out | apply Z | apply T | apply Y | refine O ?_ GE838.out) | exact HB.out)) hb); have n2_ := G (hbox); have n3_ := G ((by rw [hg]; exact (GM (by repeat (first | (with_reducible first | exact HB.out | apply Z | apply T | apply Y | refine O ?_ GE838.out) | exact HB.out))) : w.heap.size ≤ gb839)); have n4_ := G ((by rw [hg]; exact (GM (by repeat (first | (with_reducible first | exact HB.out | apply Z | apply T | apply Y | refine O ?_ GE838.out) | exact HB.out))) : w.heap.size ≤ gb839)); have n5_ := G ((by rw [hg]; exact Nat.ne_of_lt (blk_lt (g := gb838) (o := .cells #[.slice A0_0 l0_0.length c0_0, .slice A0_1 l0_1.length c0_1] 33 (0, 0)) (by (with_reducible repeat (first | refine U ?_ _ | refine X ?_ | refine V ?_ _)); exact BK838.out)) : gb838 ≠ gb839)); have n6_ := G ((by rw [hg]; exact Nat.ne_of_gt (blk_lt (g := gb838) (o := .cells #[.slice A0_0 l0_0.length c0_0, .slice A0_1 l0_1.length c0_1] 33 (0, 0)) (by (with_reducible repeat (first | refine U ?_ _ | refine X ?_ | refine V ?_ _)); exact BK838.out)) : gb839 ≠ gb838)); clear BK838; clear HB; have BK838 := n0_; have HB := n1_; have BK839 := n2_; have GW839 := n3_; have GE839 := n4_; have NB838_839 := n5_; have NB839_838 := n6_; clear n0_ n1_ n2_ n3_ n4_ n5_ n6_; clear hb hbox hg; have hnb68 := NB838_839.out; have hnc68 := NB839_838.out; have hcz69_0 : w67.cell? ⟨gb838, 0, none⟩ = some (.slice A0_0 l0_0.length c0_0) := (E BK838.out 0).trans rfl; have hcz69_1 : w67.cell? ⟨gb838, 1, none⟩ = some (.slice A0_1 l0_1.length c0_1) := (E BK838.out 1).trans rfl; have hfz69_0 := GT BK838.out 0; have hfz69_1 := GT BK838.out 1) | ((with_reducible refine gate_callee (f := 19) rfl ?_); refine goesL_ (some 12) rfl rfl Try.func19 (by kernel_rfl) rfl #[.agg #[.slice A0_0 l0_0.length c0_0, .slice A0_1 l0_1.length c0_1], .int .i64 1048576] rfl (by (try simp only [List.map_toArray, List.map_cons, List.map_nil]); first | done | rfl | (simp only [List.length_drop, List.length_take]; rfl)) ?_; (with_reducible refine (laws_szFrame.calls _ _ l0_0 _ _ l0_1 1048576 t840 _ ?side1 ?side2 ?side3 ?side4 A3.out).mono ?_); (case side1 => repeat (first | exact (GO HR0_0.out HB.out) | (with_reducible refine R ?_ _) | (with_reducible refine GG ?_ _) | (with_reducible refine GJ ?_))); (case side2 => exact HC0_0.out); (case side3 => repeat (first | exact (GO HR0_1.out HB.out) | (with_reducible refine R ?_ _) | (with_reducible refine GG ?_ _) | (with_reducible refine GJ ?_))); (case side4 => exact HC0_1.out); rintro e w70 ⟨rfl, hb⟩; refine ⟨_, rfl, ?_⟩; have n0_ := G (F (g := gb838) (o := .cells #[.slice A0_0 l0_0.length c0_0, .slice A0_1 l0_1.length c0_1] 33 (0, 0)) (by (with_reducible repeat (first | refine U ?_ _ | refine X ?_ | refine V ?_ _)); exact BK838.out) hb); have n1_ := G (F (g := gb839) (o := .cells #[.slice A1_0 l1_0.length c1_0, .slice A1_1 l1_1.length c1_1] 33 (0, 0)) (by (with_reducible repeat (first | refine U ?_ _ | refine X ?_ | refine V ?_ _)); exact BK839.out) hb); have n2_ := G (GN (by repeat (first | (with_reducible first | exact HB.out | apply Z | apply T | apply Y | refine O ?_ GE838.out | refine O ?_ GE839.out) | exact HB.out)) hb); clear BK838; clear BK839; clear HB; have BK838 := n0_; have BK839 := n1_; have HB := n2_; clear n0_ n1_ n2_; (try clear hb); (try clear hb2); (try clear hk); (try clear hi); have hcz71_0 : w70.cell? ⟨gb839, 0, none⟩ = some (.slice A1_0 l1_0.length c1_0) := (E BK839.out 0).trans rfl; have hcz71_1 : w70.cell? ⟨gb839, 1, none⟩ = some (.slice A1_1 l1_1.length c1_1) := (E BK839.out 1).trans rfl; have hfz71_0 := GT BK839.out 0; have hfz71_1 := GT BK839.out 1) | ((with_reducible refine gate_callee (f := 19) rfl ?_); refine goesL_ (some 17) rfl rfl Try.func19 (by kernel_rfl) rfl #[.agg #[.slice A1_0 l1_0.length c1_0, .slice A1_1 l1_1.length c1_1], .int .i64 t840] rfl (by (try simp only [List.map_toArray, List.map_cons, List.map_nil]); first | done | rfl | (simp only [List.length_drop, List.length_take]; rfl)) ?_; (with_reducible refine (laws_szFrame.calls _ _ l1_0 _ _ l1_1 t840 t841 _ ?side1 ?side2 ?side3 ?side4 A10.out).mono ?_); (case side1 => repeat (first | exact (GO HR1_0.out HB.out) | (with_reducible refine R ?_ _) | (with_reducible refine GG ?_ _) | (with_reducible refine GJ ?_))); (case side2 => exact HC1_0.out); (case side3 => repeat (first | exact (GO HR1_1.out HB.out) | (with_reducible refine R ?_ _) | (with_reducible refine GG ?_ _) | (with_reducible refine GJ ?_))); (case side4 => exact HC1_1.out); rintro e w72 ⟨rfl, hb⟩; refine ⟨_, rfl, ?_⟩; have n0_ := G (F (g := gb838) (o := .cells #[.slice A0_0 l0_0.length c0_0, .slice A0_1 l0_1.length c0_1] 33 (0, 0)) (by (with_reducible repeat (first | refine U ?_ _ | refine X ?_ | refine V ?_ _)); exact BK838.out) hb); have n1_ := G (F (g := gb839) (o := .cells #[.slice A1_0 l1_0.length c1_0, .slice A1_1 l1_1.length c1_1] 33 (0, 0)) (by (with_reducible repeat (first | refine U ?_ _ | refine X ?_ | refine V ?_ _)); exact BK839.out) hb); have n2_ := G (GN (by repeat (first | (with_reducible first | exact HB.out | apply Z | apply T | apply Y | refine O ?_ GE838.out | refine O ?_ GE839.out) | exact HB.out)) hb); clear BK838; clear BK839; clear HB; have BK838 := n0_; have BK839 := n1_; have HB := n2_; clear n0_ n1_ n2_; (try clear hb); (try clear hb2); (try clear hk); (try clear hi)))
      have n0_ := G (X BK838.out)
      have n1_ := G (X BK839.out)
      have n2_ := G (Y HB.out)
      clear BK838
      clear BK839
      clear HB
      have BK838 := n0_
      have BK839 := n1_
      have HB := n2_
      clear n0_ n1_ n2_
      refine start_ (n := 6) (S := fun w' => w'.cell? ⟨gb838, 0, none⟩ = some (.slice A0_0 l0_0.length c0_0) ∧ w'.cell? ⟨gb838, 1, none⟩ = some (.slice A0_1 l0_1.length c0_1) ∧ w'.cell? ⟨gb839, 0, none⟩ = some (.slice A1_0 l1_0.length c1_0) ∧ w'.cell? ⟨gb839, 1, none⟩ = some (.slice A1_1 l1_1.length c1_1)) (ds := []) #[n', n', n', n', n', n'] (by kernel_rfl) rfl rfl ⟨(E BK838.out 0).trans rfl, (E BK838.out 1).trans rfl, (E BK839.out 0).trans rfl, (E BK839.out 1).trans rfl⟩ (fun hHeld => ?_)
      generalize w72.drew = w73 at BK838 BK839 HB hHeld ⊢
      refine take_ (i := 0) (N := some 20) (v := ?_) (a' := ?_) #[y', n', n', n', n', n'] rfl rfl (by kernel_rfl) (fun _ _ _ h => h) (Or.inl ⟨by rfl, ?_⟩) hHeld ?_ ?_
      rotate_left
      ·rintro w' ⟨s0, s1, s2, s3⟩
       go_simp
       with_reducible rfl
      rotate_left
      ·simp only [Act.put, z1', z2', z3', i64_w, i32_w]
       rfl
      refine take_ (i := 2) (N := some 22) (v := ?_) (a' := ?_) #[y', n', y', n', n', n'] rfl rfl (by kernel_rfl) (fun _ _ _ h => h) (Or.inl ⟨by rfl, ?_⟩) hHeld ?_ ?_
      rotate_left
      ·rintro w' ⟨s0, s1, s2, s3⟩
       go_simp
       with_reducible rfl
      rotate_left
      ·simp only [Act.put, z1', z2', z3', i64_w, i32_w]
       rfl
      refine one_ (i := 1) (N := some 21) #[y', y', y', n', n', n'] rfl rfl (by kernel_rfl) (by decide) (fun K hK => ?_)
      refine goes_ Try.func21 (by kernel_rfl) rfl #[.agg #[.slice A0_0 l0_0.length c0_0, .slice A0_1 l0_1.length c0_1]] (by rfl) rfl rfl (by (try simp only [List.map_toArray, List.map_cons, List.map_nil]); first | done | rfl | (simp only [List.length_drop, List.length_take]; rfl)) ?_
      with_reducible refine (laws_toFrame.calls k _ _ l0_0 _ _ l0_1 t842 t845 _ ?side1 ?side2 ?side3 ?side4 A19.out).mono ?_
      (case side1 => repeat (first | exact (GO HR0_0.out HB.out) | (with_reducible refine R ?_ _) | (with_reducible refine GG ?_ _) | (with_reducible refine GJ ?_)))
      (case side2 => exact HC0_0.out)
      (case side3 => repeat (first | exact (GO HR0_1.out HB.out) | (with_reducible refine R ?_ _) | (with_reducible refine GG ?_ _) | (with_reducible refine GJ ?_)))
      (case side4 => exact HC0_1.out)
      rintro e w74 ⟨v843, v846, rfl, ho0, ho1, hb⟩
      refine ⟨_, rfl, ?_⟩
      have n0_ := G (Kd.R_lower ho0 (GM (by repeat (first | (with_reducible first | exact HB.out | apply Z | apply T | apply Y | refine O ?_ GE838.out | refine O ?_ GE839.out) | exact HB.out))))
      have n1_ := G (Kd.R_lower ho1 (GM (by repeat (first | (with_reducible first | exact HB.out | apply Z | apply T | apply Y | refine O ?_ GE838.out | refine O ?_ GE839.out) | exact HB.out))))
      have n2_ := G (F (g := gb838) (o := .cells #[.slice A0_0 l0_0.length c0_0, .slice A0_1 l0_1.length c0_1] 33 (0, 0)) (by (with_reducible repeat (first | refine U ?_ _ | refine X ?_ | refine V ?_ _)); exact BK838.out) hb)
      have n3_ := G (F (g := gb839) (o := .cells #[.slice A1_0 l1_0.length c1_0, .slice A1_1 l1_1.length c1_1] 33 (0, 0)) (by (with_reducible repeat (first | refine U ?_ _ | refine X ?_ | refine V ?_ _)); exact BK839.out) hb)
      have n4_ := G (GN (by repeat (first | (with_reducible first | exact HB.out | apply Z | apply T | apply Y | refine O ?_ GE838.out | refine O ?_ GE839.out) | exact HB.out)) hb)
      clear BK838
      clear BK839
      clear HB
      have HO844 := n0_
      have HO847 := n1_
      have BK838 := n2_
      have BK839 := n3_
      have HB := n4_
      clear n0_ n1_ n2_ n3_ n4_
      (try clear hb)
      (try clear hb2)
      (try clear hk)
      (try clear hi)
      (try clear ho0)
      (try clear ho1)
      refine hK.out _ _ ⟨(E BK838.out 0).trans rfl, (E BK838.out 1).trans rfl, (E BK839.out 0).trans rfl, (E BK839.out 1).trans rfl⟩ (fun hHeld => ?_)
      clear hK K
      refine norm_ (a' := ?_) ?_ ?_
      rotate_left
      ·show Act.put _ (some 21) _ = _
       simp only [Act.put, z1', z2', z3', i64_w, i32_w]
       rfl
      refine one_ (i := 3) (N := some 23) #[y', y', y', y', n', n'] rfl rfl (by kernel_rfl) (by decide) (fun K hK => ?_)
      refine goes_ Try.func21 (by kernel_rfl) rfl #[.agg #[.slice A1_0 l1_0.length c1_0, .slice A1_1 l1_1.length c1_1]] (by rfl) rfl rfl (by (try simp only [List.map_toArray, List.map_cons, List.map_nil]); first | done | rfl | (simp only [List.length_drop, List.length_take]; rfl)) ?_
      with_reducible refine (laws_toFrame.calls k _ _ l1_0 _ _ l1_1 t848 t851 _ ?side1 ?side2 ?side3 ?side4 A20.out).mono ?_
      (case side1 => repeat (first | exact (GO HR1_0.out HB.out) | (with_reducible refine R ?_ _) | (with_reducible refine GG ?_ _) | (with_reducible refine GJ ?_)))
      (case side2 => exact HC1_0.out)
      (case side3 => repeat (first | exact (GO HR1_1.out HB.out) | (with_reducible refine R ?_ _) | (with_reducible refine GG ?_ _) | (with_reducible refine GJ ?_)))
      (case side4 => exact HC1_1.out)
      rintro e w75 ⟨v849, v852, rfl, ho0, ho1, hb⟩
      refine ⟨_, rfl, ?_⟩
      have n0_ := G (Kd.R_elder' (by (with_reducible repeat (first | apply J | apply L | apply M)); exact HO844.out) (Kd.R_base ho0) hb)
      have n1_ := G (Kd.R_elder' (by (with_reducible repeat (first | apply J | apply L | apply M)); exact HO847.out) (Kd.R_base ho1) hb)
      have n2_ := G (Kd.R_lower (GL ho0 (Kd.R_lt (by (with_reducible repeat (first | apply J | apply L | apply M)); exact HO844.out))) (GM (by repeat (first | (with_reducible first | exact HB.out | apply Z | apply T | apply Y | refine O ?_ GE838.out | refine O ?_ GE839.out) | exact HB.out))))
      have n3_ := G (Kd.R_lower (GL ho1 (Kd.R_lt (by (with_reducible repeat (first | apply J | apply L | apply M)); exact HO847.out))) (GM (by repeat (first | (with_reducible first | exact HB.out | apply Z | apply T | apply Y | refine O ?_ GE838.out | refine O ?_ GE839.out) | exact HB.out))))
      have n4_ := G (F (g := gb838) (o := .cells #[.slice A0_0 l0_0.length c0_0, .slice A0_1 l0_1.length c0_1] 33 (0, 0)) (by (with_reducible repeat (first | refine U ?_ _ | refine X ?_ | refine V ?_ _)); exact BK838.out) hb)
      have n5_ := G (F (g := gb839) (o := .cells #[.slice A1_0 l1_0.length c1_0, .slice A1_1 l1_1.length c1_1] 33 (0, 0)) (by (with_reducible repeat (first | refine U ?_ _ | refine X ?_ | refine V ?_ _)); exact BK839.out) hb)
      have n6_ := G (GN (by repeat (first | (with_reducible first | exact HB.out | apply Z | apply T | apply Y | refine O ?_ GE838.out | refine O ?_ GE839.out) | exact HB.out)) hb)
      clear HO844
      clear HO847
      clear BK838
      clear BK839
      clear HB
      have HO844 := n0_
      have HO847 := n1_
      have HO850 := n2_
      have HO853 := n3_
      have BK838 := n4_
      have BK839 := n5_
      have HB := n6_
      clear n0_ n1_ n2_ n3_ n4_ n5_ n6_
      (try clear hb)
      (try clear hb2)
      (try clear hk)
      (try clear hi)
      (try clear ho0)
      (try clear ho1)
      obtain ⟨Ao76, co76, eo76⟩ := Kd.R_slice HO844.out
      (first | subst eo76 | (injection eo76 with f1_ f2_ f3_; have f4_ := f1_.symm; have f5_ := f3_.symm; clear f1_ f2_ f3_; subst f4_; subst f5_))
      obtain ⟨Ao77, co77, eo77⟩ := Kd.R_slice HO847.out
      (first | subst eo77 | (injection eo77 with f1_ f2_ f3_; have f4_ := f1_.symm; have f5_ := f3_.symm; clear f1_ f2_ f3_; subst f4_; subst f5_))
      obtain ⟨Ao78, co78, eo78⟩ := Kd.R_slice HO850.out
      (first | subst eo78 | (injection eo78 with f1_ f2_ f3_; have f4_ := f1_.symm; have f5_ := f3_.symm; clear f1_ f2_ f3_; subst f4_; subst f5_))
      obtain ⟨Ao79, co79, eo79⟩ := Kd.R_slice HO853.out
      (first | subst eo79 | (injection eo79 with f1_ f2_ f3_; have f4_ := f1_.symm; have f5_ := f3_.symm; clear f1_ f2_ f3_; subst f4_; subst f5_))
      refine hK.out _ _ ⟨(E BK838.out 0).trans rfl, (E BK838.out 1).trans rfl, (E BK839.out 0).trans rfl, (E BK839.out 1).trans rfl⟩ (fun hHeld => ?_)
      clear hK K
      refine norm_ (a' := ?_) ?_ ?_
      rotate_left
      ·show Act.put _ (some 23) _ = _
       simp only [Act.put, z1', z2', z3', i64_w, i32_w]
       rfl
      refine one_ (i := 4) (N := some 24) #[y', y', y', y', y', n'] rfl rfl (by kernel_rfl) (by decide) (fun K hK => ?_)
      refine goes_ Try.func20 (by kernel_rfl) rfl #[.agg #[.slice Ao76 t842.length co76, .slice Ao77 t845.length co77], .agg #[.slice Ao78 t848.length co78, .slice Ao79 t851.length co79]] (by rfl) rfl rfl (by (try simp only [List.map_toArray, List.map_cons, List.map_nil]); first | done | rfl | (simp only [List.length_drop, List.length_take]; rfl)) ?_
      with_reducible refine (spec_SameFrame.calls k _ _ t842 _ _ t845 _ _ t848 _ _ t851 t854 _ ?side1 ?side2 ?side3 ?side4 ?side5 ?side6 ?side7 ?side8 A21.out).mono ?_
      (case side1 => repeat (first | exact (Kd.R_reads' HO844.out).2.2 | (with_reducible refine R ?_ _) | (with_reducible refine GG ?_ _) | (with_reducible refine GJ ?_)))
      (case side2 => exact (Kd.R_reads' HO844.out).2.1)
      (case side3 => repeat (first | exact (Kd.R_reads' HO847.out).2.2 | (with_reducible refine R ?_ _) | (with_reducible refine GG ?_ _) | (with_reducible refine GJ ?_)))
      (case side4 => exact (Kd.R_reads' HO847.out).2.1)
      (case side5 => repeat (first | exact (Kd.R_reads' HO850.out).2.2 | (with_reducible refine R ?_ _) | (with_reducible refine GG ?_ _) | (with_reducible refine GJ ?_)))
      (case side6 => exact (Kd.R_reads' HO850.out).2.1)
      (case side7 => repeat (first | exact (Kd.R_reads' HO853.out).2.2 | (with_reducible refine R ?_ _) | (with_reducible refine GG ?_ _) | (with_reducible refine GJ ?_)))
      (case side8 => exact (Kd.R_reads' HO853.out).2.1)
      rintro e w80 ⟨rfl, hb⟩
      refine ⟨_, rfl, ?_⟩
      have n0_ := G (B (by (with_reducible repeat (first | apply J | apply L | apply M)); exact HO844.out) hb)
      have n1_ := G (B (by (with_reducible repeat (first | apply J | apply L | apply M)); exact HO847.out) hb)
      have n2_ := G (B (by (with_reducible repeat (first | apply J | apply L | apply M)); exact HO850.out) hb)
      have n3_ := G (B (by (with_reducible repeat (first | apply J | apply L | apply M)); exact HO853.out) hb)
      have n4_ := G (F (g := gb838) (o := .cells #[.slice A0_0 l0_0.length c0_0, .slice A0_1 l0_1.length c0_1] 33 (0, 0)) (by (with_reducible repeat (first | refine U ?_ _ | refine X ?_ | refine V ?_ _)); exact BK838.out) hb)
      have n5_ := G (F (g := gb839) (o := .cells #[.slice A1_0 l1_0.length c1_0, .slice A1_1 l1_1.length c1_1] 33 (0, 0)) (by (with_reducible repeat (first | refine U ?_ _ | refine X ?_ | refine V ?_ _)); exact BK839.out) hb)
      have n6_ := G (GN (by repeat (first | (with_reducible first | exact HB.out | apply Z | apply T | apply Y | refine O ?_ GE838.out | refine O ?_ GE839.out) | exact HB.out)) hb)
      clear HO844
      clear HO847
      clear HO850
      clear HO853
      clear BK838
      clear BK839
      clear HB
      have HO844 := n0_
      have HO847 := n1_
      have HO850 := n2_
      have HO853 := n3_
      have BK838 := n4_
      have BK839 := n5_
      have HB := n6_
      clear n0_ n1_ n2_ n3_ n4_ n5_ n6_
      (try clear hb)
      (try clear hb2)
      (try clear hk)
      (try clear hi)
      refine hK.out _ _ ⟨(E BK838.out 0).trans rfl, (E BK838.out 1).trans rfl, (E BK839.out 0).trans rfl, (E BK839.out 1).trans rfl⟩ (fun hHeld => ?_)
      clear hK K
      refine norm_ (a' := ?_) ?_ ?_
      rotate_left
      ·show Act.put _ (some 24) _ = _
       simp only [Act.put, z1', z2', z3', i64_w, i32_w]
       rfl
      refine pure_ (i := 5) (N := some 6) (v := ?_) (a' := ?_) #[y', y', y', y', y', y'] rfl rfl (by kernel_rfl) (fun _ _ _ h => h) (Or.inl ⟨by rfl, ?_⟩) ?_ ?_
      rotate_left
      ·intro w'
       go_simp
       with_reducible rfl
      rotate_left
      ·simp only [Act.put, z1', z2', z3', i64_w, i32_w]
       rfl
      refine done_ (by kernel_rfl) ?_
      have hcz81_0 : w80.cell? ⟨gb838, 0, none⟩ = some (.slice A0_0 l0_0.length c0_0) := (E BK838.out 0).trans rfl
      have hcz81_1 : w80.cell? ⟨gb838, 1, none⟩ = some (.slice A0_1 l0_1.length c0_1) := (E BK838.out 1).trans rfl
      have hfz81_0 := GT BK838.out 0
      have hfz81_1 := GT BK838.out 1
      try go_wp2_with (first | ((with_reducible refine gate_callee (f := 21) rfl ?_); refine goesL_ (some 26) rfl rfl Try.func21 (by kernel_rfl) rfl #[.agg #[.slice A0_0 l0_0.length c0_0, .slice A0_1 l0_1.length c0_1]] rfl (by (try simp only [List.map_toArray, List.map_cons, List.map_nil]); first | done | rfl | (simp only [List.length_drop, List.length_take]; rfl)) ?_; (with_reducible refine (laws_toFrame.calls k _ _ l0_0 _ _ l0_1 t855 t858 _ ?side1 ?side2 ?side3 ?side4 A22.out).mono ?_); (case side1 => repeat (first | exact (GO HR0_0.out HB.out) | (with_reducible refine R ?_ _) | (with_reducible refine GG ?_ _) | (with_reducible refine GJ ?_))); (case side2 => exact HC0_0.out); (case side3 => repeat (first | exact (GO HR0_1.out HB.out) | (with_reducible refine R ?_ _) | (with_reducible refine GG ?_ _) | (with_reducible refine GJ ?_))); (case side4 => exact HC0_1.out); rintro e w82 ⟨v856, v859, rfl, ho0, ho1, hb⟩; refine ⟨_, rfl, ?_⟩; have n0_ := G (Kd.R_elder' (by (with_reducible repeat (first | apply J | apply L | apply M)); exact HO844.out) (Kd.R_base ho0) hb); have n1_ := G (Kd.R_elder' (by (with_reducible repeat (first | apply J | apply L | apply M)); exact HO847.out) (Kd.R_base ho1) hb); have n2_ := G (Kd.R_elder' (by (with_reducible repeat (first | apply J | apply L | apply M)); exact HO850.out) (Kd.R_base ho0) hb); have n3_ := G (Kd.R_elder' (by (with_reducible repeat (first | apply J | apply L | apply M)); exact HO853.out) (Kd.R_base ho1) hb); have n4_ := G (Kd.R_lower (GL (GL ho0 (Kd.R_lt (by (with_reducible repeat (first | apply J | apply L | apply M)); exact HO844.out))) (Kd.R_lt (by (with_reducible repeat (first | apply J | apply L | apply M)); exact HO850.out))) (GM (by repeat (first | (with_reducible first | exact HB.out | apply Z | apply T | apply Y | refine O ?_ GE838.out | refine O ?_ GE839.out) | exact HB.out)))); have n5_ := G (Kd.R_lower (GL (GL ho1 (Kd.R_lt (by (with_reducible repeat (first | apply J | apply L | apply M)); exact HO847.out))) (Kd.R_lt (by (with_reducible repeat (first | apply J | apply L | apply M)); exact HO853.out))) (GM (by repeat (first | (with_reducible first | exact HB.out | apply Z | apply T | apply Y | refine O ?_ GE838.out | refine O ?_ GE839.out) | exact HB.out)))); have n6_ := G (F (g := gb838) (o := .cells #[.slice A0_0 l0_0.length c0_0, .slice A0_1 l0_1.length c0_1] 33 (0, 0)) (by (with_reducible repeat (first | refine U ?_ _ | refine X ?_ | refine V ?_ _)); exact BK838.out) hb); have n7_ := G (F (g := gb839) (o := .cells #[.slice A1_0 l1_0.length c1_0, .slice A1_1 l1_1.length c1_1] 33 (0, 0)) (by (with_reducible repeat (first | refine U ?_ _ | refine X ?_ | refine V ?_ _)); exact BK839.out) hb); have n8_ := G (GN (by repeat (first | (with_reducible first | exact HB.out | apply Z | apply T | apply Y | refine O ?_ GE838.out | refine O ?_ GE839.out) | exact HB.out)) hb); clear HO844; clear HO847; clear HO850; clear HO853; clear BK838; clear BK839; clear HB; have HO844 := n0_; have HO847 := n1_; have HO850 := n2_; have HO853 := n3_; have HO857 := n4_; have HO860 := n5_; have BK838 := n6_; have BK839 := n7_; have HB := n8_; clear n0_ n1_ n2_ n3_ n4_ n5_ n6_ n7_ n8_; (try clear hb); (try clear hb2); (try clear hk); (try clear hi); (try clear ho0); (try clear ho1)) | ((with_reducible refine gate_dst (N := 7) rfl ?_); refine box_event ?hg (N := 7) ?hd (cs := #[.slice none 0 0, .slice none 0 0]) (t := 39) ?hr ?_; (case hd => rfl); (case hg => rfl); (case hr => first | (go_simp; done) | (go_simp; rfl)); intro gb861 hg w83 hbox hb; have n0_ := G (B (by (with_reducible repeat (first | apply J | apply L | apply M)); exact HO844.out) hb); have n1_ := G (B (by (with_reducible repeat (first | apply J | apply L | apply M)); exact HO847.out) hb); have n2_ := G (B (by (with_reducible repeat (first | apply J | apply L | apply M)); exact HO850.out) hb); have n3_ := G (B (by (with_reducible repeat (first | apply J | apply L | apply M)); exact HO853.out) hb); have n4_ := G (B (by (with_reducible repeat (first | apply J | apply L | apply M)); exact HO857.out) hb); have n5_ := G (B (by (with_reducible repeat (first | apply J | apply L | apply M)); exact HO860.out) hb); have n6_ := G (F (g := gb838) (o := .cells #[.slice A0_0 l0_0.length c0_0, .slice A0_1 l0_1.length c0_1] 33 (0, 0)) (by (with_reducible repeat (first | refine U ?_ _ | refine X ?_ | refine V ?_ _)); exact BK838.out) hb); have n7_ := G (F (g := gb839) (o := .cells #[.slice A1_0 l1_0.length c1_0, .slice A1_1 l1_1.length c1_1] 33 (0, 0)) (by (with_reducible repeat (first | refine U ?_ _ | refine X ?_ | refine V ?_ _)); exact BK839.out) hb); have n8_ := G (GN (by repeat (first | (with_reducible first | exact HB.out | apply Z | apply T | apply Y | refine O ?_ GE838.out | refine O ?_ GE839.out) | exact HB.out)) hb); have n9_ := G (hbox); have n10_ := G ((by rw [hg]; exact (GM (by repeat (first | (with_reducible first | exact HB.out | apply Z | apply T | apply Y | refine O ?_ GE838.out | refine O ?_ GE839.out) | exact HB.out))) : w.heap.size ≤ gb861)); have n11_ := G ((by rw [hg]; exact (GM (by repeat (first | (with_reducible first | exact HB.out | apply Z | apply T | apply Y | refine O ?_ GE838.out | refine O ?_ GE839.out) | exact HB.out))) : w.heap.size ≤ gb861)); have n12_ := G ((by rw [hg]; exact Nat.ne_of_lt (blk_lt (g := gb838) (o := .cells #[.slice A0_0 l0_0.length c0_0, .slice A0_1 l0_1.length c0_1] 33 (0, 0)) (by (with_reducible repeat (first | refine U ?_ _ | refine X ?_ | refine V ?_ _)); exact BK838.out)) : gb838 ≠ gb861)); have n13_ := G ((by rw [hg]; exact Nat.ne_of_gt (blk_lt (g := gb838) (o := .cells #[.slice A0_0 l0_0.length c0_0, .slice A0_1 l0_1.length c0_1] 33 (0, 0)) (by (with_reducible repeat (first | refine U ?_ _ | refine X ?_ | refine V ?_ _)); exact BK838.out)) : gb861 ≠ gb838)); have n14_ := G ((by rw [hg]; exact Nat.ne_of_lt (blk_lt (g := gb839) (o := .cells #[.slice A1_0 l1_0.length c1_0, .slice A1_1 l1_1.length c1_1] 33 (0, 0)) (by (with_reducible repeat (first | refine U ?_ _ | refine X ?_ | refine V ?_ _)); exact BK839.out)) : gb839 ≠ gb861)); have n15_ := G ((by rw [hg]; exact Nat.ne_of_gt (blk_lt (g := gb839) (o := .cells #[.slice A1_0 l1_0.length c1_0, .slice A1_1 l1_1.length c1_1] 33 (0, 0)) (by (with_reducible repeat (first | refine U ?_ _ | refine X ?_ | refine V ?_ _)); exact BK839.out)) : gb861 ≠ gb839)); clear HO844; clear HO847; clear HO850; clear HO853; clear HO857; clear HO860; clear BK838; clear BK839; clear HB; have HO844 := n0_; have HO847 := n1_; have HO850 := n2_; have HO853 := n3_; have HO857 := n4_; have HO860 := n5_; have BK838 := n6_; have BK839 := n7_; have HB := n8_; have BK861 := n9_; have GW861 := n10_; have GE861 := n11_; have NB838_861 := n12_; have NB861_838 := n13_; have NB839_861 := n14_; have NB861_839 := n15_; clear n0_ n1_ n2_ n3_ n4_ n5_ n6_ n7_ n8_ n9_ n10_ n11_ n12_ n13_ n14_ n15_; clear hb hbox hg; obtain ⟨Ao84, co84, eo84⟩ := Kd.R_slice HO857.out; subst eo84; have hnb85 := NB861_838.out; have hnc85 := NB838_861.out; have hnb86 := NB861_839.out; have hnc86 := NB839_861.out; have hcz87_0 : w83.cell? ⟨gb861, 0, none⟩ = some (.slice none 0 0) := (E BK861.out 0).trans rfl; have hcz87_1 : w83.cell? ⟨gb861, 1, none⟩ = some (.slice none 0 0) := (E BK861.out 1).trans rfl; have hfz87_0 := GT BK861.out 0; have hfz87_1 := GT BK861.out 1; obtain ⟨Ao88, co88, eo88⟩ := Kd.R_slice HO860.out; subst eo88; have hcz89_0 : w83.cell? ⟨gb839, 0, none⟩ = some (.slice A1_0 l1_0.length c1_0) := (E BK839.out 0).trans rfl; have hcz89_1 : w83.cell? ⟨gb839, 1, none⟩ = some (.slice A1_1 l1_1.length c1_1) := (E BK839.out 1).trans rfl; have hfz89_0 := GT BK839.out 0; have hfz89_1 := GT BK839.out 1) | ((with_reducible refine gate_callee (f := 21) rfl ?_); refine goesL_ (some 28) rfl rfl Try.func21 (by kernel_rfl) rfl #[.agg #[.slice A1_0 l1_0.length c1_0, .slice A1_1 l1_1.length c1_1]] rfl (by (try simp only [List.map_toArray, List.map_cons, List.map_nil]); first | done | rfl | (simp only [List.length_drop, List.length_take]; rfl)) ?_; (with_reducible refine (laws_toFrame.calls k _ _ l1_0 _ _ l1_1 t862 t865 _ ?side1 ?side2 ?side3 ?side4 A23.out).mono ?_); (case side1 => exact GO HR1_0.out (by repeat (first | (with_reducible first | exact HB.out | apply Z | apply T | apply Y | refine O ?_ GE838.out | refine O ?_ GE839.out | refine O ?_ GE861.out) | exact HB.out))); (case side2 => exact HC1_0.out); (case side3 => exact GO HR1_1.out (by repeat (first | (with_reducible first | exact HB.out | apply Z | apply T | apply Y | refine O ?_ GE838.out | refine O ?_ GE839.out | refine O ?_ GE861.out) | exact HB.out))); (case side4 => exact HC1_1.out); rintro e w90 ⟨v863, v866, rfl, ho0, ho1, hb⟩; refine ⟨_, rfl, ?_⟩; have n0_ := G (Kd.R_elder' (by (with_reducible repeat (first | apply J | apply L | apply M)); exact (P (D (p := ⟨gb861, 1, none⟩) (D (p := ⟨gb861, 0, none⟩) (I HO844.out BK861.out (by decide)) (fun _ hk => hk.2) (.slice Ao84 t855.length co84)) (fun _ hk => hk.2) (.slice Ao88 t858.length co88)) (fun _ h_ => h_.1))) (Kd.R_base ho0) hb); have n1_ := G (Kd.R_elder' (by (with_reducible repeat (first | apply J | apply L | apply M)); exact (P (D (p := ⟨gb861, 1, none⟩) (D (p := ⟨gb861, 0, none⟩) (I HO847.out BK861.out (by decide)) (fun _ hk => hk.2) (.slice Ao84 t855.length co84)) (fun _ hk => hk.2) (.slice Ao88 t858.length co88)) (fun _ h_ => h_.1))) (Kd.R_base ho1) hb); have n2_ := G (Kd.R_elder' (by (with_reducible repeat (first | apply J | apply L | apply M)); exact (P (D (p := ⟨gb861, 1, none⟩) (D (p := ⟨gb861, 0, none⟩) (I HO850.out BK861.out (by decide)) (fun _ hk => hk.2) (.slice Ao84 t855.length co84)) (fun _ hk => hk.2) (.slice Ao88 t858.length co88)) (fun _ h_ => h_.1))) (Kd.R_base ho0) hb); have n3_ := G (Kd.R_elder' (by (with_reducible repeat (first | apply J | apply L | apply M)); exact (P (D (p := ⟨gb861, 1, none⟩) (D (p := ⟨gb861, 0, none⟩) (I HO853.out BK861.out (by decide)) (fun _ hk => hk.2) (.slice Ao84 t855.length co84)) (fun _ hk => hk.2) (.slice Ao88 t858.length co88)) (fun _ h_ => h_.1))) (Kd.R_base ho1) hb); have n4_ := G (Kd.R_elder' (by (with_reducible repeat (first | apply J | apply L | apply M)); exact (P (D (p := ⟨gb861, 1, none⟩) (D (p := ⟨gb861, 0, none⟩) (I HO857.out BK861.out (by decide)) (fun _ hk => hk.2) (.slice Ao84 t855.length co84)) (fun _ hk => hk.2) (.slice Ao88 t858.length co88)) (fun _ h_ => h_.1))) (Kd.R_base ho0) hb); have n5_ := G (Kd.R_elder' (by (with_reducible repeat (first | apply J | apply L | apply M)); exact (P (D (p := ⟨gb861, 1, none⟩) (D (p := ⟨gb861, 0, none⟩) (I HO860.out BK861.out (by decide)) (fun _ hk => hk.2) (.slice Ao84 t855.length co84)) (fun _ hk => hk.2) (.slice Ao88 t858.length co88)) (fun _ h_ => h_.1))) (Kd.R_base ho1) hb); have n6_ := G (Kd.R_lower (GL (GL (GL ho0 (Kd.R_lt (by (with_reducible repeat (first | apply J | apply L | apply M)); exact (P (D (p := ⟨gb861, 1, none⟩) (D (p := ⟨gb861, 0, none⟩) (I HO844.out BK861.out (by decide)) (fun _ hk => hk.2) (.slice Ao84 t855.length co84)) (fun _ hk => hk.2) (.slice Ao88 t858.length co88)) (fun _ h_ => h_.1))))) (Kd.R_lt (by (with_reducible repeat (first | apply J | apply L | apply M)); exact (P (D (p := ⟨gb861, 1, none⟩) (D (p := ⟨gb861, 0, none⟩) (I HO850.out BK861.out (by decide)) (fun _ hk => hk.2) (.slice Ao84 t855.length co84)) (fun _ hk => hk.2) (.slice Ao88 t858.length co88)) (fun _ h_ => h_.1))))) (Kd.R_lt (by (with_reducible repeat (first | apply J | apply L | apply M)); exact (P (D (p := ⟨gb861, 1, none⟩) (D (p := ⟨gb861, 0, none⟩) (I HO857.out BK861.out (by decide)) (fun _ hk => hk.2) (.slice Ao84 t855.length co84)) (fun _ hk => hk.2) (.slice Ao88 t858.length co88)) (fun _ h_ => h_.1))))) (GM (by repeat (first | (with_reducible first | exact HB.out | apply Z | apply T | apply Y | refine O ?_ GE838.out | refine O ?_ GE839.out | refine O ?_ GE861.out) | exact HB.out)))); have n7_ := G (Kd.R_lower (GL (GL (GL ho1 (Kd.R_lt (by (with_reducible repeat (first | apply J | apply L | apply M)); exact (P (D (p := ⟨gb861, 1, none⟩) (D (p := ⟨gb861, 0, none⟩) (I HO847.out BK861.out (by decide)) (fun _ hk => hk.2) (.slice Ao84 t855.length co84)) (fun _ hk => hk.2) (.slice Ao88 t858.length co88)) (fun _ h_ => h_.1))))) (Kd.R_lt (by (with_reducible repeat (first | apply J | apply L | apply M)); exact (P (D (p := ⟨gb861, 1, none⟩) (D (p := ⟨gb861, 0, none⟩) (I HO853.out BK861.out (by decide)) (fun _ hk => hk.2) (.slice Ao84 t855.length co84)) (fun _ hk => hk.2) (.slice Ao88 t858.length co88)) (fun _ h_ => h_.1))))) (Kd.R_lt (by (with_reducible repeat (first | apply J | apply L | apply M)); exact (P (D (p := ⟨gb861, 1, none⟩) (D (p := ⟨gb861, 0, none⟩) (I HO860.out BK861.out (by decide)) (fun _ hk => hk.2) (.slice Ao84 t855.length co84)) (fun _ hk => hk.2) (.slice Ao88 t858.length co88)) (fun _ h_ => h_.1))))) (GM (by repeat (first | (with_reducible first | exact HB.out | apply Z | apply T | apply Y | refine O ?_ GE838.out | refine O ?_ GE839.out | refine O ?_ GE861.out) | exact HB.out)))); have n8_ := G (F (g := gb838) (o := .cells #[.slice A0_0 l0_0.length c0_0, .slice A0_1 l0_1.length c0_1] 33 (0, 0)) (by (with_reducible repeat (first | refine U ?_ _ | refine X ?_ | refine V ?_ _)); refine blk_far ?_ NB838_861.out _; (with_reducible repeat (first | refine U ?_ _ | refine X ?_ | refine V ?_ _)); refine blk_far ?_ NB838_861.out _; (with_reducible repeat (first | refine U ?_ _ | refine X ?_ | refine V ?_ _)); exact BK838.out) hb); have n9_ := G (F (g := gb839) (o := .cells #[.slice A1_0 l1_0.length c1_0, .slice A1_1 l1_1.length c1_1] 33 (0, 0)) (by (with_reducible repeat (first | refine U ?_ _ | refine X ?_ | refine V ?_ _)); refine blk_far ?_ NB839_861.out _; (with_reducible repeat (first | refine U ?_ _ | refine X ?_ | refine V ?_ _)); refine blk_far ?_ NB839_861.out _; (with_reducible repeat (first | refine U ?_ _ | refine X ?_ | refine V ?_ _)); exact BK839.out) hb); have n10_ := G (F (g := gb861) (o := .cells #[.slice Ao84 t855.length co84, .slice Ao88 t858.length co88] 39 (0, 0)) (by (with_reducible repeat (first | refine U ?_ _ | refine X ?_ | refine V ?_ _)); refine blk_put (cs := #[.slice Ao84 t855.length co84, .slice none 0 0]) ?_ 1 _ rfl; (with_reducible repeat (first | refine U ?_ _ | refine X ?_ | refine V ?_ _)); refine blk_put (cs := #[.slice none 0 0, .slice none 0 0]) ?_ 0 _ rfl; (with_reducible repeat (first | refine U ?_ _ | refine X ?_ | refine V ?_ _)); exact BK861.out) hb); have n11_ := G (GN (by repeat (first | (with_reducible first | exact HB.out | apply Z | apply T | apply Y | refine O ?_ GE838.out | refine O ?_ GE839.out | refine O ?_ GE861.out) | exact HB.out)) hb); clear HO844; clear HO847; clear HO850; clear HO853; clear HO857; clear HO860; clear BK838; clear BK839; clear BK861; clear HB; have HO844 := n0_; have HO847 := n1_; have HO850 := n2_; have HO853 := n3_; have HO857 := n4_; have HO860 := n5_; have HO864 := n6_; have HO867 := n7_; have BK838 := n8_; have BK839 := n9_; have BK861 := n10_; have HB := n11_; clear n0_ n1_ n2_ n3_ n4_ n5_ n6_ n7_ n8_ n9_ n10_ n11_; (try clear hb); (try clear hb2); (try clear hk); (try clear hi); (try clear ho0); (try clear ho1)) | ((with_reducible refine gate_dst (N := 8) rfl ?_); refine box_event ?hg (N := 8) ?hd (cs := #[.slice none 0 0, .slice none 0 0]) (t := 39) ?hr ?_; (case hd => rfl); (case hg => rfl); (case hr => first | (go_simp; done) | (go_simp; rfl)); intro gb868 hg w91 hbox hb; have n0_ := G (B (by (with_reducible repeat (first | apply J | apply L | apply M)); exact HO844.out) hb); have n1_ := G (B (by (with_reducible repeat (first | apply J | apply L | apply M)); exact HO847.out) hb); have n2_ := G (B (by (with_reducible repeat (first | apply J | apply L | apply M)); exact HO850.out) hb); have n3_ := G (B (by (with_reducible repeat (first | apply J | apply L | apply M)); exact HO853.out) hb); have n4_ := G (B (by (with_reducible repeat (first | apply J | apply L | apply M)); exact HO857.out) hb); have n5_ := G (B (by (with_reducible repeat (first | apply J | apply L | apply M)); exact HO860.out) hb); have n6_ := G (B (by (with_reducible repeat (first | apply J | apply L | apply M)); exact HO864.out) hb); have n7_ := G (B (by (with_reducible repeat (first | apply J | apply L | apply M)); exact HO867.out) hb); have n8_ := G (F (g := gb838) (o := .cells #[.slice A0_0 l0_0.length c0_0, .slice A0_1 l0_1.length c0_1] 33 (0, 0)) (by (with_reducible repeat (first | refine U ?_ _ | refine X ?_ | refine V ?_ _)); exact BK838.out) hb); have n9_ := G (F (g := gb839) (o := .cells #[.slice A1_0 l1_0.length c1_0, .slice A1_1 l1_1.length c1_1] 33 (0, 0)) (by (with_reducible repeat (first | refine U ?_ _ | refine X ?_ | refine V ?_ _)); exact BK839.out) hb); have n10_ := G (F (g := gb861) (o := .cells #[.slice Ao84 t855.length co84, .slice Ao88 t858.length co88] 39 (0, 0)) (by (with_reducible repeat (first | refine U ?_ _ | refine X ?_ | refine V ?_ _)); exact BK861.out) hb); have n11_ := G (GN (by repeat (first | (with_reducible first | exact HB.out | apply Z | apply T | apply Y | refine O ?_ GE838.out | refine O ?_ GE839.out | refine O ?_ GE861.out) | exact HB.out)) hb); have n12_ := G (hbox); have n13_ := G ((by rw [hg]; exact (GM (by repeat (first | (with_reducible first | exact HB.out | apply Z | apply T | apply Y | refine O ?_ GE838.out | refine O ?_ GE839.out | refine O ?_ GE861.out) | exact HB.out))) : w.heap.size ≤ gb868)); have n14_ := G ((by rw [hg]; exact (GM (by repeat (first | (with_reducible first | exact HB.out | apply Z | apply T | apply Y | refine O ?_ GE838.out | refine O ?_ GE839.out | refine O ?_ GE861.out) | exact HB.out))) : w.heap.size ≤ gb868)); have n15_ := G ((by rw [hg]; exact Nat.ne_of_lt (blk_lt (g := gb838) (o := .cells #[.slice A0_0 l0_0.length c0_0, .slice A0_1 l0_1.length c0_1] 33 (0, 0)) (by (with_reducible repeat (first | refine U ?_ _ | refine X ?_ | refine V ?_ _)); exact BK838.out)) : gb838 ≠ gb868)); have n16_ := G ((by rw [hg]; exact Nat.ne_of_gt (blk_lt (g := gb838) (o := .cells #[.slice A0_0 l0_0.length c0_0, .slice A0_1 l0_1.length c0_1] 33 (0, 0)) (by (with_reducible repeat (first | refine U ?_ _ | refine X ?_ | refine V ?_ _)); exact BK838.out)) : gb868 ≠ gb838)); have n17_ := G ((by rw [hg]; exact Nat.ne_of_lt (blk_lt (g := gb839) (o := .cells #[.slice A1_0 l1_0.length c1_0, .slice A1_1 l1_1.length c1_1] 33 (0, 0)) (by (with_reducible repeat (first | refine U ?_ _ | refine X ?_ | refine V ?_ _)); exact BK839.out)) : gb839 ≠ gb868)); have n18_ := G ((by rw [hg]; exact Nat.ne_of_gt (blk_lt (g := gb839) (o := .cells #[.slice A1_0 l1_0.length c1_0, .slice A1_1 l1_1.length c1_1] 33 (0, 0)) (by (with_reducible repeat (first | refine U ?_ _ | refine X ?_ | refine V ?_ _)); exact BK839.out)) : gb868 ≠ gb839)); have n19_ := G ((by rw [hg]; exact Nat.ne_of_lt (blk_lt (g := gb861) (o := .cells #[.slice Ao84 t855.length co84, .slice Ao88 t858.length co88] 39 (0, 0)) (by (with_reducible repeat (first | refine U ?_ _ | refine X ?_ | refine V ?_ _)); exact BK861.out)) : gb861 ≠ gb868)); have n20_ := G ((by rw [hg]; exact Nat.ne_of_gt (blk_lt (g := gb861) (o := .cells #[.slice Ao84 t855.length co84, .slice Ao88 t858.length co88] 39 (0, 0)) (by (with_reducible repeat (first | refine U ?_ _ | refine X ?_ | refine V ?_ _)); exact BK861.out)) : gb868 ≠ gb861)); clear HO844; clear HO847; clear HO850; clear HO853; clear HO857; clear HO860; clear HO864; clear HO867; clear BK838; clear BK839; clear BK861; clear HB; have HO844 := n0_; have HO847 := n1_; have HO850 := n2_; have HO853 := n3_; have HO857 := n4_; have HO860 := n5_; have HO864 := n6_; have HO867 := n7_; have BK838 := n8_; have BK839 := n9_; have BK861 := n10_; have HB := n11_; have BK868 := n12_; have GW868 := n13_; have GE868 := n14_; have NB838_868 := n15_; have NB868_838 := n16_; have NB839_868 := n17_; have NB868_839 := n18_; have NB861_868 := n19_; have NB868_861 := n20_; clear n0_ n1_ n2_ n3_ n4_ n5_ n6_ n7_ n8_ n9_ n10_ n11_ n12_ n13_ n14_ n15_ n16_ n17_ n18_ n19_ n20_; clear hb hbox hg; obtain ⟨Ao92, co92, eo92⟩ := Kd.R_slice HO864.out; subst eo92; have hnb93 := NB868_838.out; have hnc93 := NB838_868.out; have hnb94 := NB868_839.out; have hnc94 := NB839_868.out; have hnb95 := NB868_861.out; have hnc95 := NB861_868.out; have hcz96_0 : w91.cell? ⟨gb868, 0, none⟩ = some (.slice none 0 0) := (E BK868.out 0).trans rfl; have hcz96_1 : w91.cell? ⟨gb868, 1, none⟩ = some (.slice none 0 0) := (E BK868.out 1).trans rfl; have hfz96_0 := GT BK868.out 0; have hfz96_1 := GT BK868.out 1; obtain ⟨Ao97, co97, eo97⟩ := Kd.R_slice HO867.out; subst eo97; have hcz98_0 : w91.cell? ⟨gb861, 0, none⟩ = some (.slice Ao84 t855.length co84) := (E BK861.out 0).trans rfl; have hcz98_1 : w91.cell? ⟨gb861, 1, none⟩ = some (.slice Ao88 t858.length co88) := (E BK861.out 1).trans rfl; have hfz98_0 := GT BK861.out 0; have hfz98_1 := GT BK861.out 1) | ((with_reducible refine gate_callee (f := 22) rfl ?_); refine goesL_ (some 31) rfl rfl Try.func22 (by kernel_rfl) rfl #[.agg #[.slice Ao84 t855.length co84, .slice Ao88 t858.length co88], .agg #[.slice Ao92 t862.length co92, .slice Ao97 t865.length co97]] rfl (by (try simp only [List.map_toArray, List.map_cons, List.map_nil]); first | done | rfl | (simp only [List.length_drop, List.length_take]; rfl)) ?_; (with_reducible refine (impl_SameFrame.calls k _ _ t855 _ _ t858 _ _ t862 _ _ t865 t869 _ ?side1 ?side2 ?side3 ?side4 ?side5 ?side6 ?side7 ?side8 A24.out).mono ?_); (case side1 => refine (Kd.R_reads' (e := 82) (base := w.heap.size) (ok := fun k_ => (((True ∧ some k_ ≠ (.slice Ao76 t842.length co76 : Value).ownBlock) ∧ some k_ ≠ (.slice Ao78 t848.length co78 : Value).ownBlock) ∧ some k_ ≠ (.slice Ao92 t862.length co92 : Value).ownBlock)) (n := t855.length) (c := co84) ?_).2.2; exact (by (with_reducible repeat (first | apply J | apply L | apply M)); exact (P (D (p := ⟨gb868, 1, none⟩) (D (p := ⟨gb868, 0, none⟩) (I HO857.out BK868.out (by decide)) (fun _ hk => hk.2) (.slice Ao92 t862.length co92)) (fun _ hk => hk.2) (.slice Ao97 t865.length co97)) (fun _ h_ => h_.1)))); (case side2 => exact (Kd.R_reads' HO857.out).2.1); (case side3 => refine (Kd.R_reads' (e := 84) (base := w.heap.size) (ok := fun k_ => (((True ∧ some k_ ≠ (.slice Ao77 t845.length co77 : Value).ownBlock) ∧ some k_ ≠ (.slice Ao79 t851.length co79 : Value).ownBlock) ∧ some k_ ≠ (.slice Ao97 t865.length co97 : Value).ownBlock)) (n := t858.length) (c := co88) ?_).2.2; exact (by (with_reducible repeat (first | apply J | apply L | apply M)); exact (P (D (p := ⟨gb868, 1, none⟩) (D (p := ⟨gb868, 0, none⟩) (I HO860.out BK868.out (by decide)) (fun _ hk => hk.2) (.slice Ao92 t862.length co92)) (fun _ hk => hk.2) (.slice Ao97 t865.length co97)) (fun _ h_ => h_.1)))); (case side4 => exact (Kd.R_reads' HO860.out).2.1); (case side5 => refine (Kd.R_reads' (e := 82) (base := w.heap.size) (ok := fun k_ => (((True ∧ some k_ ≠ (.slice Ao76 t842.length co76 : Value).ownBlock) ∧ some k_ ≠ (.slice Ao78 t848.length co78 : Value).ownBlock) ∧ some k_ ≠ (.slice Ao84 t855.length co84 : Value).ownBlock)) (n := t862.length) (c := co92) ?_).2.2; exact (by (with_reducible repeat (first | apply J | apply L | apply M)); exact (P (D (p := ⟨gb868, 1, none⟩) (D (p := ⟨gb868, 0, none⟩) (I HO864.out BK868.out (by decide)) (fun _ hk => hk.2) (.slice Ao92 t862.length co92)) (fun _ hk => hk.2) (.slice Ao97 t865.length co97)) (fun _ h_ => h_.1)))); (case side6 => exact (Kd.R_reads' HO864.out).2.1); (case side7 => refine (Kd.R_reads' (e := 84) (base := w.heap.size) (ok := fun k_ => (((True ∧ some k_ ≠ (.slice Ao77 t845.length co77 : Value).ownBlock) ∧ some k_ ≠ (.slice Ao79 t851.length co79 : Value).ownBlock) ∧ some k_ ≠ (.slice Ao88 t858.length co88 : Value).ownBlock)) (n := t865.length) (c := co97) ?_).2.2; exact (by (with_reducible repeat (first | apply J | apply L | apply M)); exact (P (D (p := ⟨gb868, 1, none⟩) (D (p := ⟨gb868, 0, none⟩) (I HO867.out BK868.out (by decide)) (fun _ hk => hk.2) (.slice Ao92 t862.length co92)) (fun _ hk => hk.2) (.slice Ao97 t865.length co97)) (fun _ h_ => h_.1)))); (case side8 => exact (Kd.R_reads' HO867.out).2.1); rintro e w99 ⟨rfl, hb⟩; refine ⟨_, rfl, ?_⟩; have n0_ := G (B (by (with_reducible repeat (first | apply J | apply L | apply M)); exact (P (D (p := ⟨gb868, 1, none⟩) (D (p := ⟨gb868, 0, none⟩) (I HO844.out BK868.out (by decide)) (fun _ hk => hk.2) (.slice Ao92 t862.length co92)) (fun _ hk => hk.2) (.slice Ao97 t865.length co97)) (fun _ h_ => h_.1))) hb); have n1_ := G (B (by (with_reducible repeat (first | apply J | apply L | apply M)); exact (P (D (p := ⟨gb868, 1, none⟩) (D (p := ⟨gb868, 0, none⟩) (I HO847.out BK868.out (by decide)) (fun _ hk => hk.2) (.slice Ao92 t862.length co92)) (fun _ hk => hk.2) (.slice Ao97 t865.length co97)) (fun _ h_ => h_.1))) hb); have n2_ := G (B (by (with_reducible repeat (first | apply J | apply L | apply M)); exact (P (D (p := ⟨gb868, 1, none⟩) (D (p := ⟨gb868, 0, none⟩) (I HO850.out BK868.out (by decide)) (fun _ hk => hk.2) (.slice Ao92 t862.length co92)) (fun _ hk => hk.2) (.slice Ao97 t865.length co97)) (fun _ h_ => h_.1))) hb); have n3_ := G (B (by (with_reducible repeat (first | apply J | apply L | apply M)); exact (P (D (p := ⟨gb868, 1, none⟩) (D (p := ⟨gb868, 0, none⟩) (I HO853.out BK868.out (by decide)) (fun _ hk => hk.2) (.slice Ao92 t862.length co92)) (fun _ hk => hk.2) (.slice Ao97 t865.length co97)) (fun _ h_ => h_.1))) hb); have n4_ := G (B (by (with_reducible repeat (first | apply J | apply L | apply M)); exact (P (D (p := ⟨gb868, 1, none⟩) (D (p := ⟨gb868, 0, none⟩) (I HO857.out BK868.out (by decide)) (fun _ hk => hk.2) (.slice Ao92 t862.length co92)) (fun _ hk => hk.2) (.slice Ao97 t865.length co97)) (fun _ h_ => h_.1))) hb); have n5_ := G (B (by (with_reducible repeat (first | apply J | apply L | apply M)); exact (P (D (p := ⟨gb868, 1, none⟩) (D (p := ⟨gb868, 0, none⟩) (I HO860.out BK868.out (by decide)) (fun _ hk => hk.2) (.slice Ao92 t862.length co92)) (fun _ hk => hk.2) (.slice Ao97 t865.length co97)) (fun _ h_ => h_.1))) hb); have n6_ := G (B (by (with_reducible repeat (first | apply J | apply L | apply M)); exact (P (D (p := ⟨gb868, 1, none⟩) (D (p := ⟨gb868, 0, none⟩) (I HO864.out BK868.out (by decide)) (fun _ hk => hk.2) (.slice Ao92 t862.length co92)) (fun _ hk => hk.2) (.slice Ao97 t865.length co97)) (fun _ h_ => h_.1))) hb); have n7_ := G (B (by (with_reducible repeat (first | apply J | apply L | apply M)); exact (P (D (p := ⟨gb868, 1, none⟩) (D (p := ⟨gb868, 0, none⟩) (I HO867.out BK868.out (by decide)) (fun _ hk => hk.2) (.slice Ao92 t862.length co92)) (fun _ hk => hk.2) (.slice Ao97 t865.length co97)) (fun _ h_ => h_.1))) hb); have n8_ := G (F (g := gb838) (o := .cells #[.slice A0_0 l0_0.length c0_0, .slice A0_1 l0_1.length c0_1] 33 (0, 0)) (by (with_reducible repeat (first | refine U ?_ _ | refine X ?_ | refine V ?_ _)); refine blk_far ?_ NB838_868.out _; (with_reducible repeat (first | refine U ?_ _ | refine X ?_ | refine V ?_ _)); refine blk_far ?_ NB838_868.out _; (with_reducible repeat (first | refine U ?_ _ | refine X ?_ | refine V ?_ _)); exact BK838.out) hb); have n9_ := G (F (g := gb839) (o := .cells #[.slice A1_0 l1_0.length c1_0, .slice A1_1 l1_1.length c1_1] 33 (0, 0)) (by (with_reducible repeat (first | refine U ?_ _ | refine X ?_ | refine V ?_ _)); refine blk_far ?_ NB839_868.out _; (with_reducible repeat (first | refine U ?_ _ | refine X ?_ | refine V ?_ _)); refine blk_far ?_ NB839_868.out _; (with_reducible repeat (first | refine U ?_ _ | refine X ?_ | refine V ?_ _)); exact BK839.out) hb); have n10_ := G (F (g := gb861) (o := .cells #[.slice Ao84 t855.length co84, .slice Ao88 t858.length co88] 39 (0, 0)) (by (with_reducible repeat (first | refine U ?_ _ | refine X ?_ | refine V ?_ _)); refine blk_far ?_ NB861_868.out _; (with_reducible repeat (first | refine U ?_ _ | refine X ?_ | refine V ?_ _)); refine blk_far ?_ NB861_868.out _; (with_reducible repeat (first | refine U ?_ _ | refine X ?_ | refine V ?_ _)); exact BK861.out) hb); have n11_ := G (F (g := gb868) (o := .cells #[.slice Ao92 t862.length co92, .slice Ao97 t865.length co97] 39 (0, 0)) (by (with_reducible repeat (first | refine U ?_ _ | refine X ?_ | refine V ?_ _)); refine blk_put (cs := #[.slice Ao92 t862.length co92, .slice none 0 0]) ?_ 1 _ rfl; (with_reducible repeat (first | refine U ?_ _ | refine X ?_ | refine V ?_ _)); refine blk_put (cs := #[.slice none 0 0, .slice none 0 0]) ?_ 0 _ rfl; (with_reducible repeat (first | refine U ?_ _ | refine X ?_ | refine V ?_ _)); exact BK868.out) hb); have n12_ := G (GN (by repeat (first | (with_reducible first | exact HB.out | apply Z | apply T | apply Y | refine O ?_ GE838.out | refine O ?_ GE839.out | refine O ?_ GE861.out | refine O ?_ GE868.out) | exact HB.out)) hb); clear HO844; clear HO847; clear HO850; clear HO853; clear HO857; clear HO860; clear HO864; clear HO867; clear BK838; clear BK839; clear BK861; clear BK868; clear HB; have HO844 := n0_; have HO847 := n1_; have HO850 := n2_; have HO853 := n3_; have HO857 := n4_; have HO860 := n5_; have HO864 := n6_; have HO867 := n7_; have BK838 := n8_; have BK839 := n9_; have BK861 := n10_; have BK868 := n11_; have HB := n12_; clear n0_ n1_ n2_ n3_ n4_ n5_ n6_ n7_ n8_ n9_ n10_ n11_ n12_; (try clear hb); (try clear hb2); (try clear hk); (try clear hi)))
      have n0_ := G (M HO844.out)
      have n1_ := G (M HO847.out)
      have n2_ := G (M HO850.out)
      have n3_ := G (M HO853.out)
      have n4_ := G (M HO857.out)
      have n5_ := G (M HO860.out)
      have n6_ := G (M HO864.out)
      have n7_ := G (M HO867.out)
      have n8_ := G (X BK838.out)
      have n9_ := G (X BK839.out)
      have n10_ := G (X BK861.out)
      have n11_ := G (X BK868.out)
      have n12_ := G (Y HB.out)
      clear HO844
      clear HO847
      clear HO850
      clear HO853
      clear HO857
      clear HO860
      clear HO864
      clear HO867
      clear BK838
      clear BK839
      clear BK861
      clear BK868
      clear HB
      have HO844 := n0_
      have HO847 := n1_
      have HO850 := n2_
      have HO853 := n3_
      have HO857 := n4_
      have HO860 := n5_
      have HO864 := n6_
      have HO867 := n7_
      have BK838 := n8_
      have BK839 := n9_
      have BK861 := n10_
      have BK868 := n11_
      have HB := n12_
      clear n0_ n1_ n2_ n3_ n4_ n5_ n6_ n7_ n8_ n9_ n10_ n11_ n12_
      refine start_ (n := 5) (S := fun w' => w'.cell? ⟨gb861, 0, none⟩ = some (.slice Ao84 t855.length co84) ∧ w'.cell? ⟨gb861, 1, none⟩ = some (.slice Ao88 t858.length co88) ∧ w'.cell? ⟨gb838, 0, none⟩ = some (.slice A0_0 l0_0.length c0_0) ∧ w'.cell? ⟨gb838, 1, none⟩ = some (.slice A0_1 l0_1.length c0_1)) (ds := []) #[n', n', n', n', n'] (by kernel_rfl) rfl rfl ⟨(E BK861.out 0).trans rfl, (E BK861.out 1).trans rfl, (E BK838.out 0).trans rfl, (E BK838.out 1).trans rfl⟩ (fun hHeld => ?_)
      generalize w99.drew = w100 at HO844 HO847 HO850 HO853 HO857 HO860 HO864 HO867 BK838 BK839 BK861 BK868 HB hHeld ⊢
      refine take_ (i := 0) (N := some 35) (v := ?_) (a' := ?_) #[y', n', n', n', n'] rfl rfl (by kernel_rfl) (fun _ _ _ h => h) (Or.inl ⟨by rfl, ?_⟩) hHeld ?_ ?_
      rotate_left
      ·rintro w' ⟨s0, s1, s2, s3⟩
       go_simp
       with_reducible rfl
      rotate_left
      ·simp only [Act.put, z1', z2', z3', i64_w, i32_w]
       rfl
      refine take_ (i := 1) (N := some 36) (v := ?_) (a' := ?_) #[y', y', n', n', n'] rfl rfl (by kernel_rfl) (fun _ _ _ h => h) (Or.inl ⟨by rfl, ?_⟩) hHeld ?_ ?_
      rotate_left
      ·rintro w' ⟨s0, s1, s2, s3⟩
       go_simp
       with_reducible rfl
      rotate_left
      ·simp only [Act.put, z1', z2', z3', i64_w, i32_w]
       rfl
      refine one_ (i := 2) (N := some 37) #[y', y', y', n', n'] rfl rfl (by kernel_rfl) (by decide) (fun K hK => ?_)
      refine goes_ Try.func21 (by kernel_rfl) rfl #[.agg #[.slice A0_0 l0_0.length c0_0, .slice A0_1 l0_1.length c0_1]] (by rfl) rfl rfl (by (try simp only [List.map_toArray, List.map_cons, List.map_nil]); first | done | rfl | (simp only [List.length_drop, List.length_take]; rfl)) ?_
      with_reducible refine (laws_toFrame.calls k _ _ l0_0 _ _ l0_1 t870 t873 _ ?side1 ?side2 ?side3 ?side4 A60.out).mono ?_
      (case side1 => repeat (first | exact (GO HR0_0.out HB.out) | (with_reducible refine R ?_ _) | (with_reducible refine GG ?_ _) | (with_reducible refine GJ ?_)))
      (case side2 => exact HC0_0.out)
      (case side3 => repeat (first | exact (GO HR0_1.out HB.out) | (with_reducible refine R ?_ _) | (with_reducible refine GG ?_ _) | (with_reducible refine GJ ?_)))
      (case side4 => exact HC0_1.out)
      rintro e w101 ⟨v871, v874, rfl, ho0, ho1, hb⟩
      refine ⟨_, rfl, ?_⟩
      have n0_ := G (Kd.R_elder' (by (with_reducible repeat (first | apply J | apply L | apply M)); exact HO844.out) (Kd.R_base ho0) hb)
      have n1_ := G (Kd.R_elder' (by (with_reducible repeat (first | apply J | apply L | apply M)); exact HO847.out) (Kd.R_base ho1) hb)
      have n2_ := G (Kd.R_elder' (by (with_reducible repeat (first | apply J | apply L | apply M)); exact HO850.out) (Kd.R_base ho0) hb)
      have n3_ := G (Kd.R_elder' (by (with_reducible repeat (first | apply J | apply L | apply M)); exact HO853.out) (Kd.R_base ho1) hb)
      have n4_ := G (Kd.R_elder' (by (with_reducible repeat (first | apply J | apply L | apply M)); exact HO857.out) (Kd.R_base ho0) hb)
      have n5_ := G (Kd.R_elder' (by (with_reducible repeat (first | apply J | apply L | apply M)); exact HO860.out) (Kd.R_base ho1) hb)
      have n6_ := G (Kd.R_elder' (by (with_reducible repeat (first | apply J | apply L | apply M)); exact HO864.out) (Kd.R_base ho0) hb)
      have n7_ := G (Kd.R_elder' (by (with_reducible repeat (first | apply J | apply L | apply M)); exact HO867.out) (Kd.R_base ho1) hb)
      have n8_ := G (Kd.R_lower (GL (GL (GL (GL ho0 (Kd.R_lt (by (with_reducible repeat (first | apply J | apply L | apply M)); exact HO844.out))) (Kd.R_lt (by (with_reducible repeat (first | apply J | apply L | apply M)); exact HO850.out))) (Kd.R_lt (by (with_reducible repeat (first | apply J | apply L | apply M)); exact HO857.out))) (Kd.R_lt (by (with_reducible repeat (first | apply J | apply L | apply M)); exact HO864.out))) (GM (by repeat (first | (with_reducible first | exact HB.out | apply Z | apply T | apply Y | refine O ?_ GE838.out | refine O ?_ GE839.out | refine O ?_ GE861.out | refine O ?_ GE868.out) | exact HB.out))))
      have n9_ := G (Kd.R_lower (GL (GL (GL (GL ho1 (Kd.R_lt (by (with_reducible repeat (first | apply J | apply L | apply M)); exact HO847.out))) (Kd.R_lt (by (with_reducible repeat (first | apply J | apply L | apply M)); exact HO853.out))) (Kd.R_lt (by (with_reducible repeat (first | apply J | apply L | apply M)); exact HO860.out))) (Kd.R_lt (by (with_reducible repeat (first | apply J | apply L | apply M)); exact HO867.out))) (GM (by repeat (first | (with_reducible first | exact HB.out | apply Z | apply T | apply Y | refine O ?_ GE838.out | refine O ?_ GE839.out | refine O ?_ GE861.out | refine O ?_ GE868.out) | exact HB.out))))
      have n10_ := G (F (g := gb838) (o := .cells #[.slice A0_0 l0_0.length c0_0, .slice A0_1 l0_1.length c0_1] 33 (0, 0)) (by (with_reducible repeat (first | refine U ?_ _ | refine X ?_ | refine V ?_ _)); exact BK838.out) hb)
      have n11_ := G (F (g := gb839) (o := .cells #[.slice A1_0 l1_0.length c1_0, .slice A1_1 l1_1.length c1_1] 33 (0, 0)) (by (with_reducible repeat (first | refine U ?_ _ | refine X ?_ | refine V ?_ _)); exact BK839.out) hb)
      have n12_ := G (F (g := gb861) (o := .cells #[.slice Ao84 t855.length co84, .slice Ao88 t858.length co88] 39 (0, 0)) (by (with_reducible repeat (first | refine U ?_ _ | refine X ?_ | refine V ?_ _)); exact BK861.out) hb)
      have n13_ := G (F (g := gb868) (o := .cells #[.slice Ao92 t862.length co92, .slice Ao97 t865.length co97] 39 (0, 0)) (by (with_reducible repeat (first | refine U ?_ _ | refine X ?_ | refine V ?_ _)); exact BK868.out) hb)
      have n14_ := G (GN (by repeat (first | (with_reducible first | exact HB.out | apply Z | apply T | apply Y | refine O ?_ GE838.out | refine O ?_ GE839.out | refine O ?_ GE861.out | refine O ?_ GE868.out) | exact HB.out)) hb)
      clear HO844
      clear HO847
      clear HO850
      clear HO853
      clear HO857
      clear HO860
      clear HO864
      clear HO867
      clear BK838
      clear BK839
      clear BK861
      clear BK868
      clear HB
      have HO844 := n0_
      have HO847 := n1_
      have HO850 := n2_
      have HO853 := n3_
      have HO857 := n4_
      have HO860 := n5_
      have HO864 := n6_
      have HO867 := n7_
      have HO872 := n8_
      have HO875 := n9_
      have BK838 := n10_
      have BK839 := n11_
      have BK861 := n12_
      have BK868 := n13_
      have HB := n14_
      clear n0_ n1_ n2_ n3_ n4_ n5_ n6_ n7_ n8_ n9_ n10_ n11_ n12_ n13_ n14_
      (try clear hb)
      (try clear hb2)
      (try clear hk)
      (try clear hi)
      (try clear ho0)
      (try clear ho1)
      obtain ⟨Ao102, co102, eo102⟩ := Kd.R_slice HO872.out
      (first | subst eo102 | (injection eo102 with f1_ f2_ f3_; have f4_ := f1_.symm; have f5_ := f3_.symm; clear f1_ f2_ f3_; subst f4_; subst f5_))
      obtain ⟨Ao103, co103, eo103⟩ := Kd.R_slice HO875.out
      (first | subst eo103 | (injection eo103 with f1_ f2_ f3_; have f4_ := f1_.symm; have f5_ := f3_.symm; clear f1_ f2_ f3_; subst f4_; subst f5_))
      refine hK.out _ _ ⟨(E BK861.out 0).trans rfl, (E BK861.out 1).trans rfl, (E BK838.out 0).trans rfl, (E BK838.out 1).trans rfl⟩ (fun hHeld => ?_)
      clear hK K
      refine norm_ (a' := ?_) ?_ ?_
      rotate_left
      ·show Act.put _ (some 37) _ = _
       simp only [Act.put, z1', z2', z3', i64_w, i32_w]
       rfl
      refine one_ (i := 3) (N := some 38) #[y', y', y', y', n'] rfl rfl (by kernel_rfl) (by decide) (fun K hK => ?_)
      refine goes_ Try.func23 (by kernel_rfl) rfl #[.agg #[.slice Ao84 t855.length co84, .slice Ao88 t858.length co88], .agg #[.slice Ao102 t870.length co102, .slice Ao103 t873.length co103]] (by rfl) rfl rfl (by (try simp only [List.map_toArray, List.map_cons, List.map_nil]); first | done | rfl | (simp only [List.length_drop, List.length_take]; rfl)) ?_
      with_reducible refine (laws_eqFrame.calls k _ _ t855 _ _ t858 _ _ t870 _ _ t873 true _ ?side1 ?side2 ?side3 ?side4 ?side5 ?side6 ?side7 ?side8 A61.out).mono ?_
      (case side1 => repeat (first | exact (Kd.R_reads' HO857.out).2.2 | (with_reducible refine R ?_ _) | (with_reducible refine GG ?_ _) | (with_reducible refine GJ ?_)))
      (case side2 => exact (Kd.R_reads' HO857.out).2.1)
      (case side3 => repeat (first | exact (Kd.R_reads' HO860.out).2.2 | (with_reducible refine R ?_ _) | (with_reducible refine GG ?_ _) | (with_reducible refine GJ ?_)))
      (case side4 => exact (Kd.R_reads' HO860.out).2.1)
      (case side5 => repeat (first | exact (Kd.R_reads' HO872.out).2.2 | (with_reducible refine R ?_ _) | (with_reducible refine GG ?_ _) | (with_reducible refine GJ ?_)))
      (case side6 => exact (Kd.R_reads' HO872.out).2.1)
      (case side7 => repeat (first | exact (Kd.R_reads' HO875.out).2.2 | (with_reducible refine R ?_ _) | (with_reducible refine GG ?_ _) | (with_reducible refine GJ ?_)))
      (case side8 => exact (Kd.R_reads' HO875.out).2.1)
      rintro e w104 ⟨rfl, hb⟩
      refine ⟨_, rfl, ?_⟩
      have n0_ := G (B (by (with_reducible repeat (first | apply J | apply L | apply M)); exact HO844.out) hb)
      have n1_ := G (B (by (with_reducible repeat (first | apply J | apply L | apply M)); exact HO847.out) hb)
      have n2_ := G (B (by (with_reducible repeat (first | apply J | apply L | apply M)); exact HO850.out) hb)
      have n3_ := G (B (by (with_reducible repeat (first | apply J | apply L | apply M)); exact HO853.out) hb)
      have n4_ := G (B (by (with_reducible repeat (first | apply J | apply L | apply M)); exact HO857.out) hb)
      have n5_ := G (B (by (with_reducible repeat (first | apply J | apply L | apply M)); exact HO860.out) hb)
      have n6_ := G (B (by (with_reducible repeat (first | apply J | apply L | apply M)); exact HO864.out) hb)
      have n7_ := G (B (by (with_reducible repeat (first | apply J | apply L | apply M)); exact HO867.out) hb)
      have n8_ := G (B (by (with_reducible repeat (first | apply J | apply L | apply M)); exact HO872.out) hb)
      have n9_ := G (B (by (with_reducible repeat (first | apply J | apply L | apply M)); exact HO875.out) hb)
      have n10_ := G (F (g := gb838) (o := .cells #[.slice A0_0 l0_0.length c0_0, .slice A0_1 l0_1.length c0_1] 33 (0, 0)) (by (with_reducible repeat (first | refine U ?_ _ | refine X ?_ | refine V ?_ _)); exact BK838.out) hb)
      have n11_ := G (F (g := gb839) (o := .cells #[.slice A1_0 l1_0.length c1_0, .slice A1_1 l1_1.length c1_1] 33 (0, 0)) (by (with_reducible repeat (first | refine U ?_ _ | refine X ?_ | refine V ?_ _)); exact BK839.out) hb)
      have n12_ := G (F (g := gb861) (o := .cells #[.slice Ao84 t855.length co84, .slice Ao88 t858.length co88] 39 (0, 0)) (by (with_reducible repeat (first | refine U ?_ _ | refine X ?_ | refine V ?_ _)); exact BK861.out) hb)
      have n13_ := G (F (g := gb868) (o := .cells #[.slice Ao92 t862.length co92, .slice Ao97 t865.length co97] 39 (0, 0)) (by (with_reducible repeat (first | refine U ?_ _ | refine X ?_ | refine V ?_ _)); exact BK868.out) hb)
      have n14_ := G (GN (by repeat (first | (with_reducible first | exact HB.out | apply Z | apply T | apply Y | refine O ?_ GE838.out | refine O ?_ GE839.out | refine O ?_ GE861.out | refine O ?_ GE868.out) | exact HB.out)) hb)
      clear HO844
      clear HO847
      clear HO850
      clear HO853
      clear HO857
      clear HO860
      clear HO864
      clear HO867
      clear HO872
      clear HO875
      clear BK838
      clear BK839
      clear BK861
      clear BK868
      clear HB
      have HO844 := n0_
      have HO847 := n1_
      have HO850 := n2_
      have HO853 := n3_
      have HO857 := n4_
      have HO860 := n5_
      have HO864 := n6_
      have HO867 := n7_
      have HO872 := n8_
      have HO875 := n9_
      have BK838 := n10_
      have BK839 := n11_
      have BK861 := n12_
      have BK868 := n13_
      have HB := n14_
      clear n0_ n1_ n2_ n3_ n4_ n5_ n6_ n7_ n8_ n9_ n10_ n11_ n12_ n13_ n14_
      (try clear hb)
      (try clear hb2)
      (try clear hk)
      (try clear hi)
      refine hK.out _ _ ⟨(E BK861.out 0).trans rfl, (E BK861.out 1).trans rfl, (E BK838.out 0).trans rfl, (E BK838.out 1).trans rfl⟩ (fun hHeld => ?_)
      clear hK K
      refine norm_ (a' := ?_) ?_ ?_
      rotate_left
      ·show Act.put _ (some 38) _ = _
       simp only [Act.put, z1', z2', z3', i64_w, i32_w]
       rfl
      refine pure_ (i := 4) (N := some 39) (v := ?_) (a' := ?_) #[y', y', y', y', y'] rfl rfl (by kernel_rfl) (fun _ _ _ h => h) (Or.inl ⟨by rfl, ?_⟩) ?_ ?_
      rotate_left
      ·intro w'
       go_simp
       with_reducible rfl
      rotate_left
      ·simp only [Act.put, z1', z2', z3', i64_w, i32_w]
       rfl
      refine done_ (by kernel_rfl) ?_
      try go_wp2
      have n0_ := G (M HO844.out)
      have n1_ := G (M HO847.out)
      have n2_ := G (M HO850.out)
      have n3_ := G (M HO853.out)
      have n4_ := G (M HO857.out)
      have n5_ := G (M HO860.out)
      have n6_ := G (M HO864.out)
      have n7_ := G (M HO867.out)
      have n8_ := G (M HO872.out)
      have n9_ := G (M HO875.out)
      have n10_ := G (X BK838.out)
      have n11_ := G (X BK839.out)
      have n12_ := G (X BK861.out)
      have n13_ := G (X BK868.out)
      have n14_ := G (Y HB.out)
      clear HO844
      clear HO847
      clear HO850
      clear HO853
      clear HO857
      clear HO860
      clear HO864
      clear HO867
      clear HO872
      clear HO875
      clear BK838
      clear BK839
      clear BK861
      clear BK868
      clear HB
      have HO844 := n0_
      have HO847 := n1_
      have HO850 := n2_
      have HO853 := n3_
      have HO857 := n4_
      have HO860 := n5_
      have HO864 := n6_
      have HO867 := n7_
      have HO872 := n8_
      have HO875 := n9_
      have BK838 := n10_
      have BK839 := n11_
      have BK861 := n12_
      have BK868 := n13_
      have HB := n14_
      clear n0_ n1_ n2_ n3_ n4_ n5_ n6_ n7_ n8_ n9_ n10_ n11_ n12_ n13_ n14_
      refine start_ (n := 5) (S := fun w' => w'.cell? ⟨gb868, 0, none⟩ = some (.slice Ao92 t862.length co92) ∧ w'.cell? ⟨gb868, 1, none⟩ = some (.slice Ao97 t865.length co97) ∧ w'.cell? ⟨gb839, 0, none⟩ = some (.slice A1_0 l1_0.length c1_0) ∧ w'.cell? ⟨gb839, 1, none⟩ = some (.slice A1_1 l1_1.length c1_1)) (ds := []) #[n', n', n', n', n'] (by kernel_rfl) rfl rfl ⟨(E BK868.out 0).trans rfl, (E BK868.out 1).trans rfl, (E BK839.out 0).trans rfl, (E BK839.out 1).trans rfl⟩ (fun hHeld => ?_)
      generalize w104.drew = w105 at HO844 HO847 HO850 HO853 HO857 HO860 HO864 HO867 HO872 HO875 BK838 BK839 BK861 BK868 HB hHeld ⊢
      refine take_ (i := 0) (N := some 40) (v := ?_) (a' := ?_) #[y', n', n', n', n'] rfl rfl (by kernel_rfl) (fun _ _ _ h => h) (Or.inl ⟨by rfl, ?_⟩) hHeld ?_ ?_
      rotate_left
      ·rintro w' ⟨s0, s1, s2, s3⟩
       go_simp
       with_reducible rfl
      rotate_left
      ·simp only [Act.put, z1', z2', z3', i64_w, i32_w]
       rfl
      refine take_ (i := 1) (N := some 41) (v := ?_) (a' := ?_) #[y', y', n', n', n'] rfl rfl (by kernel_rfl) (fun _ _ _ h => h) (Or.inl ⟨by rfl, ?_⟩) hHeld ?_ ?_
      rotate_left
      ·rintro w' ⟨s0, s1, s2, s3⟩
       go_simp
       with_reducible rfl
      rotate_left
      ·simp only [Act.put, z1', z2', z3', i64_w, i32_w]
       rfl
      refine one_ (i := 2) (N := some 42) #[y', y', y', n', n'] rfl rfl (by kernel_rfl) (by decide) (fun K hK => ?_)
      refine goes_ Try.func21 (by kernel_rfl) rfl #[.agg #[.slice A1_0 l1_0.length c1_0, .slice A1_1 l1_1.length c1_1]] (by rfl) rfl rfl (by (try simp only [List.map_toArray, List.map_cons, List.map_nil]); first | done | rfl | (simp only [List.length_drop, List.length_take]; rfl)) ?_
      with_reducible refine (laws_toFrame.calls k _ _ l1_0 _ _ l1_1 t877 t880 _ ?side1 ?side2 ?side3 ?side4 A63.out).mono ?_
      (case side1 => repeat (first | exact (GO HR1_0.out HB.out) | (with_reducible refine R ?_ _) | (with_reducible refine GG ?_ _) | (with_reducible refine GJ ?_)))
      (case side2 => exact HC1_0.out)
      (case side3 => repeat (first | exact (GO HR1_1.out HB.out) | (with_reducible refine R ?_ _) | (with_reducible refine GG ?_ _) | (with_reducible refine GJ ?_)))
      (case side4 => exact HC1_1.out)
      rintro e w106 ⟨v878, v881, rfl, ho0, ho1, hb⟩
      refine ⟨_, rfl, ?_⟩
      have n0_ := G (Kd.R_elder' (by (with_reducible repeat (first | apply J | apply L | apply M)); exact HO844.out) (Kd.R_base ho0) hb)
      have n1_ := G (Kd.R_elder' (by (with_reducible repeat (first | apply J | apply L | apply M)); exact HO847.out) (Kd.R_base ho1) hb)
      have n2_ := G (Kd.R_elder' (by (with_reducible repeat (first | apply J | apply L | apply M)); exact HO850.out) (Kd.R_base ho0) hb)
      have n3_ := G (Kd.R_elder' (by (with_reducible repeat (first | apply J | apply L | apply M)); exact HO853.out) (Kd.R_base ho1) hb)
      have n4_ := G (Kd.R_elder' (by (with_reducible repeat (first | apply J | apply L | apply M)); exact HO857.out) (Kd.R_base ho0) hb)
      have n5_ := G (Kd.R_elder' (by (with_reducible repeat (first | apply J | apply L | apply M)); exact HO860.out) (Kd.R_base ho1) hb)
      have n6_ := G (Kd.R_elder' (by (with_reducible repeat (first | apply J | apply L | apply M)); exact HO864.out) (Kd.R_base ho0) hb)
      have n7_ := G (Kd.R_elder' (by (with_reducible repeat (first | apply J | apply L | apply M)); exact HO867.out) (Kd.R_base ho1) hb)
      have n8_ := G (Kd.R_elder' (by (with_reducible repeat (first | apply J | apply L | apply M)); exact HO872.out) (Kd.R_base ho0) hb)
      have n9_ := G (Kd.R_elder' (by (with_reducible repeat (first | apply J | apply L | apply M)); exact HO875.out) (Kd.R_base ho1) hb)
      have n10_ := G (Kd.R_lower (GL (GL (GL (GL (GL ho0 (Kd.R_lt (by (with_reducible repeat (first | apply J | apply L | apply M)); exact HO844.out))) (Kd.R_lt (by (with_reducible repeat (first | apply J | apply L | apply M)); exact HO850.out))) (Kd.R_lt (by (with_reducible repeat (first | apply J | apply L | apply M)); exact HO857.out))) (Kd.R_lt (by (with_reducible repeat (first | apply J | apply L | apply M)); exact HO864.out))) (Kd.R_lt (by (with_reducible repeat (first | apply J | apply L | apply M)); exact HO872.out))) (GM (by repeat (first | (with_reducible first | exact HB.out | apply Z | apply T | apply Y | refine O ?_ GE838.out | refine O ?_ GE839.out | refine O ?_ GE861.out | refine O ?_ GE868.out) | exact HB.out))))
      have n11_ := G (Kd.R_lower (GL (GL (GL (GL (GL ho1 (Kd.R_lt (by (with_reducible repeat (first | apply J | apply L | apply M)); exact HO847.out))) (Kd.R_lt (by (with_reducible repeat (first | apply J | apply L | apply M)); exact HO853.out))) (Kd.R_lt (by (with_reducible repeat (first | apply J | apply L | apply M)); exact HO860.out))) (Kd.R_lt (by (with_reducible repeat (first | apply J | apply L | apply M)); exact HO867.out))) (Kd.R_lt (by (with_reducible repeat (first | apply J | apply L | apply M)); exact HO875.out))) (GM (by repeat (first | (with_reducible first | exact HB.out | apply Z | apply T | apply Y | refine O ?_ GE838.out | refine O ?_ GE839.out | refine O ?_ GE861.out | refine O ?_ GE868.out) | exact HB.out))))
      have n12_ := G (F (g := gb838) (o := .cells #[.slice A0_0 l0_0.length c0_0, .slice A0_1 l0_1.length c0_1] 33 (0, 0)) (by (with_reducible repeat (first | refine U ?_ _ | refine X ?_ | refine V ?_ _)); exact BK838.out) hb)
      have n13_ := G (F (g := gb839) (o := .cells #[.slice A1_0 l1_0.length c1_0, .slice A1_1 l1_1.length c1_1] 33 (0, 0)) (by (with_reducible repeat (first | refine U ?_ _ | refine X ?_ | refine V ?_ _)); exact BK839.out) hb)
      have n14_ := G (F (g := gb861) (o := .cells #[.slice Ao84 t855.length co84, .slice Ao88 t858.length co88] 39 (0, 0)) (by (with_reducible repeat (first | refine U ?_ _ | refine X ?_ | refine V ?_ _)); exact BK861.out) hb)
      have n15_ := G (F (g := gb868) (o := .cells #[.slice Ao92 t862.length co92, .slice Ao97 t865.length co97] 39 (0, 0)) (by (with_reducible repeat (first | refine U ?_ _ | refine X ?_ | refine V ?_ _)); exact BK868.out) hb)
      have n16_ := G (GN (by repeat (first | (with_reducible first | exact HB.out | apply Z | apply T | apply Y | refine O ?_ GE838.out | refine O ?_ GE839.out | refine O ?_ GE861.out | refine O ?_ GE868.out) | exact HB.out)) hb)
      clear HO844
      clear HO847
      clear HO850
      clear HO853
      clear HO857
      clear HO860
      clear HO864
      clear HO867
      clear HO872
      clear HO875
      clear BK838
      clear BK839
      clear BK861
      clear BK868
      clear HB
      have HO844 := n0_
      have HO847 := n1_
      have HO850 := n2_
      have HO853 := n3_
      have HO857 := n4_
      have HO860 := n5_
      have HO864 := n6_
      have HO867 := n7_
      have HO872 := n8_
      have HO875 := n9_
      have HO879 := n10_
      have HO882 := n11_
      have BK838 := n12_
      have BK839 := n13_
      have BK861 := n14_
      have BK868 := n15_
      have HB := n16_
      clear n0_ n1_ n2_ n3_ n4_ n5_ n6_ n7_ n8_ n9_ n10_ n11_ n12_ n13_ n14_ n15_ n16_
      (try clear hb)
      (try clear hb2)
      (try clear hk)
      (try clear hi)
      (try clear ho0)
      (try clear ho1)
      obtain ⟨Ao107, co107, eo107⟩ := Kd.R_slice HO879.out
      (first | subst eo107 | (injection eo107 with f1_ f2_ f3_; have f4_ := f1_.symm; have f5_ := f3_.symm; clear f1_ f2_ f3_; subst f4_; subst f5_))
      obtain ⟨Ao108, co108, eo108⟩ := Kd.R_slice HO882.out
      (first | subst eo108 | (injection eo108 with f1_ f2_ f3_; have f4_ := f1_.symm; have f5_ := f3_.symm; clear f1_ f2_ f3_; subst f4_; subst f5_))
      refine hK.out _ _ ⟨(E BK868.out 0).trans rfl, (E BK868.out 1).trans rfl, (E BK839.out 0).trans rfl, (E BK839.out 1).trans rfl⟩ (fun hHeld => ?_)
      clear hK K
      refine norm_ (a' := ?_) ?_ ?_
      rotate_left
      ·show Act.put _ (some 42) _ = _
       simp only [Act.put, z1', z2', z3', i64_w, i32_w]
       rfl
      refine one_ (i := 3) (N := some 43) #[y', y', y', y', n'] rfl rfl (by kernel_rfl) (by decide) (fun K hK => ?_)
      refine goes_ Try.func23 (by kernel_rfl) rfl #[.agg #[.slice Ao92 t862.length co92, .slice Ao97 t865.length co97], .agg #[.slice Ao107 t877.length co107, .slice Ao108 t880.length co108]] (by rfl) rfl rfl (by (try simp only [List.map_toArray, List.map_cons, List.map_nil]); first | done | rfl | (simp only [List.length_drop, List.length_take]; rfl)) ?_
      with_reducible refine (laws_eqFrame.calls k _ _ t862 _ _ t865 _ _ t877 _ _ t880 true _ ?side1 ?side2 ?side3 ?side4 ?side5 ?side6 ?side7 ?side8 A64.out).mono ?_
      (case side1 => repeat (first | exact (Kd.R_reads' HO864.out).2.2 | (with_reducible refine R ?_ _) | (with_reducible refine GG ?_ _) | (with_reducible refine GJ ?_)))
      (case side2 => exact (Kd.R_reads' HO864.out).2.1)
      (case side3 => repeat (first | exact (Kd.R_reads' HO867.out).2.2 | (with_reducible refine R ?_ _) | (with_reducible refine GG ?_ _) | (with_reducible refine GJ ?_)))
      (case side4 => exact (Kd.R_reads' HO867.out).2.1)
      (case side5 => repeat (first | exact (Kd.R_reads' HO879.out).2.2 | (with_reducible refine R ?_ _) | (with_reducible refine GG ?_ _) | (with_reducible refine GJ ?_)))
      (case side6 => exact (Kd.R_reads' HO879.out).2.1)
      (case side7 => repeat (first | exact (Kd.R_reads' HO882.out).2.2 | (with_reducible refine R ?_ _) | (with_reducible refine GG ?_ _) | (with_reducible refine GJ ?_)))
      (case side8 => exact (Kd.R_reads' HO882.out).2.1)
      rintro e w109 ⟨rfl, hb⟩
      refine ⟨_, rfl, ?_⟩
      have n0_ := G (B (by (with_reducible repeat (first | apply J | apply L | apply M)); exact HO844.out) hb)
      have n1_ := G (B (by (with_reducible repeat (first | apply J | apply L | apply M)); exact HO847.out) hb)
      have n2_ := G (B (by (with_reducible repeat (first | apply J | apply L | apply M)); exact HO850.out) hb)
      have n3_ := G (B (by (with_reducible repeat (first | apply J | apply L | apply M)); exact HO853.out) hb)
      have n4_ := G (B (by (with_reducible repeat (first | apply J | apply L | apply M)); exact HO857.out) hb)
      have n5_ := G (B (by (with_reducible repeat (first | apply J | apply L | apply M)); exact HO860.out) hb)
      have n6_ := G (B (by (with_reducible repeat (first | apply J | apply L | apply M)); exact HO864.out) hb)
      have n7_ := G (B (by (with_reducible repeat (first | apply J | apply L | apply M)); exact HO867.out) hb)
      have n8_ := G (B (by (with_reducible repeat (first | apply J | apply L | apply M)); exact HO872.out) hb)
      have n9_ := G (B (by (with_reducible repeat (first | apply J | apply L | apply M)); exact HO875.out) hb)
      have n10_ := G (B (by (with_reducible repeat (first | apply J | apply L | apply M)); exact HO879.out) hb)
      have n11_ := G (B (by (with_reducible repeat (first | apply J | apply L | apply M)); exact HO882.out) hb)
      have n12_ := G (F (g := gb838) (o := .cells #[.slice A0_0 l0_0.length c0_0, .slice A0_1 l0_1.length c0_1] 33 (0, 0)) (by (with_reducible repeat (first | refine U ?_ _ | refine X ?_ | refine V ?_ _)); exact BK838.out) hb)
      have n13_ := G (F (g := gb839) (o := .cells #[.slice A1_0 l1_0.length c1_0, .slice A1_1 l1_1.length c1_1] 33 (0, 0)) (by (with_reducible repeat (first | refine U ?_ _ | refine X ?_ | refine V ?_ _)); exact BK839.out) hb)
      have n14_ := G (F (g := gb861) (o := .cells #[.slice Ao84 t855.length co84, .slice Ao88 t858.length co88] 39 (0, 0)) (by (with_reducible repeat (first | refine U ?_ _ | refine X ?_ | refine V ?_ _)); exact BK861.out) hb)
      have n15_ := G (F (g := gb868) (o := .cells #[.slice Ao92 t862.length co92, .slice Ao97 t865.length co97] 39 (0, 0)) (by (with_reducible repeat (first | refine U ?_ _ | refine X ?_ | refine V ?_ _)); exact BK868.out) hb)
      have n16_ := G (GN (by repeat (first | (with_reducible first | exact HB.out | apply Z | apply T | apply Y | refine O ?_ GE838.out | refine O ?_ GE839.out | refine O ?_ GE861.out | refine O ?_ GE868.out) | exact HB.out)) hb)
      clear HO844
      clear HO847
      clear HO850
      clear HO853
      clear HO857
      clear HO860
      clear HO864
      clear HO867
      clear HO872
      clear HO875
      clear HO879
      clear HO882
      clear BK838
      clear BK839
      clear BK861
      clear BK868
      clear HB
      have HO844 := n0_
      have HO847 := n1_
      have HO850 := n2_
      have HO853 := n3_
      have HO857 := n4_
      have HO860 := n5_
      have HO864 := n6_
      have HO867 := n7_
      have HO872 := n8_
      have HO875 := n9_
      have HO879 := n10_
      have HO882 := n11_
      have BK838 := n12_
      have BK839 := n13_
      have BK861 := n14_
      have BK868 := n15_
      have HB := n16_
      clear n0_ n1_ n2_ n3_ n4_ n5_ n6_ n7_ n8_ n9_ n10_ n11_ n12_ n13_ n14_ n15_ n16_
      (try clear hb)
      (try clear hb2)
      (try clear hk)
      (try clear hi)
      refine hK.out _ _ ⟨(E BK868.out 0).trans rfl, (E BK868.out 1).trans rfl, (E BK839.out 0).trans rfl, (E BK839.out 1).trans rfl⟩ (fun hHeld => ?_)
      clear hK K
      refine norm_ (a' := ?_) ?_ ?_
      rotate_left
      ·show Act.put _ (some 43) _ = _
       simp only [Act.put, z1', z2', z3', i64_w, i32_w]
       rfl
      refine pure_ (i := 4) (N := some 44) (v := ?_) (a' := ?_) #[y', y', y', y', y'] rfl rfl (by kernel_rfl) (fun _ _ _ h => h) (Or.inl ⟨by rfl, ?_⟩) ?_ ?_
      rotate_left
      ·intro w'
       go_simp
       with_reducible rfl
      rotate_left
      ·simp only [Act.put, z1', z2', z3', i64_w, i32_w]
       rfl
      refine done_ (by kernel_rfl) ?_
      try go_wp2
      go_ret
      exact ⟨by first | rfl | (simp [errW_none, errW_some] <;> rfl) | (simp [*, errW_none, errW_some] <;> rfl), by repeat (first | (with_reducible first | exact HB.out | apply Z | apply T | apply Y | refine O ?_ GE838.out | refine O ?_ GE839.out | refine O ?_ GE861.out | refine O ?_ GE868.out) | exact HB.out)⟩
     ·replace c65 := Bool.eq_false_iff.mpr c65
      subst c65
      have H1 : (some false) = some r := by rw [if_neg (show ¬ (false = true) by decide)] at H; exact H
      clear H
      have H := H1
      clear H1
      obtain rfl := Option.some.inj H
      go_enter Try.func4, Try.ntmps4
      try go_wp2_with (first | ((with_reducible refine gate_dst (N := 2) rfl ?_); refine box_event ?hg (N := 2) ?hd (cs := #[.slice A0_0 l0_0.length c0_0, .slice A0_1 l0_1.length c0_1]) (t := 33) ?hr ?_; (case hd => rfl); (case hg => rfl); (case hr => first | (go_simp; done) | (go_simp; rfl)); intro gb838 hg w110 hbox hb; have n0_ := G (GN (by repeat (first | (with_reducible first | exact HB.out | apply Z | apply T | apply Y) | exact HB.out)) hb); have n1_ := G (hbox); have n2_ := G ((by rw [hg]; exact (GM (by repeat (first | (with_reducible first | exact HB.out | apply Z | apply T | apply Y) | exact HB.out))) : w.heap.size ≤ gb838)); have n3_ := G ((by rw [hg]; exact (GM (by repeat (first | (with_reducible first | exact HB.out | apply Z | apply T | apply Y) | exact HB.out))) : w.heap.size ≤ gb838)); clear HB; have HB := n0_; have BK838 := n1_; have GW838 := n2_; have GE838 := n3_; clear n0_ n1_ n2_ n3_; clear hb hbox hg) | ((with_reducible refine gate_dst (N := 3) rfl ?_); refine box_event ?hg (N := 3) ?hd (cs := #[.slice A1_0 l1_0.length c1_0, .slice A1_1 l1_1.length c1_1]) (t := 33) ?hr ?_; (case hd => rfl); (case hg => rfl); (case hr => first | (go_simp; done) | (go_simp; rfl)); intro gb839 hg w111 hbox hb; have n0_ := G (F (g := gb838) (o := .cells #[.slice A0_0 l0_0.length c0_0, .slice A0_1 l0_1.length c0_1] 33 (0, 0)) (by (with_reducible repeat (first | refine U ?_ _ | refine X ?_ | refine V ?_ _)); exact BK838.out) hb); have n1_ := G (GN (by repeat (first | (with_reducible first | exact HB.out | apply Z | apply T | apply Y | refine O ?_ GE838.out) | exact HB.out)) hb); have n2_ := G (hbox); have n3_ := G ((by rw [hg]; exact (GM (by repeat (first | (with_reducible first | exact HB.out | apply Z | apply T | apply Y | refine O ?_ GE838.out) | exact HB.out))) : w.heap.size ≤ gb839)); have n4_ := G ((by rw [hg]; exact (GM (by repeat (first | (with_reducible first | exact HB.out | apply Z | apply T | apply Y | refine O ?_ GE838.out) | exact HB.out))) : w.heap.size ≤ gb839)); have n5_ := G ((by rw [hg]; exact Nat.ne_of_lt (blk_lt (g := gb838) (o := .cells #[.slice A0_0 l0_0.length c0_0, .slice A0_1 l0_1.length c0_1] 33 (0, 0)) (by (with_reducible repeat (first | refine U ?_ _ | refine X ?_ | refine V ?_ _)); exact BK838.out)) : gb838 ≠ gb839)); have n6_ := G ((by rw [hg]; exact Nat.ne_of_gt (blk_lt (g := gb838) (o := .cells #[.slice A0_0 l0_0.length c0_0, .slice A0_1 l0_1.length c0_1] 33 (0, 0)) (by (with_reducible repeat (first | refine U ?_ _ | refine X ?_ | refine V ?_ _)); exact BK838.out)) : gb839 ≠ gb838)); clear BK838; clear HB; have BK838 := n0_; have HB := n1_; have BK839 := n2_; have GW839 := n3_; have GE839 := n4_; have NB838_839 := n5_; have NB839_838 := n6_; clear n0_ n1_ n2_ n3_ n4_ n5_ n6_; clear hb hbox hg; have hnb112 := NB838_839.out; have hnc112 := NB839_838.out; have hcz113_0 : w111.cell? ⟨gb838, 0, none⟩ = some (.slice A0_0 l0_0.length c0_0) := (E BK838.out 0).trans rfl; have hcz113_1 : w111.cell? ⟨gb838, 1, none⟩ = some (.slice A0_1 l0_1.length c0_1) := (E BK838.out 1).trans rfl; have hfz113_0 := GT BK838.out 0; have hfz113_1 := GT BK838.out 1) | ((with_reducible refine gate_callee (f := 19) rfl ?_); refine goesL_ (some 12) rfl rfl Try.func19 (by kernel_rfl) rfl #[.agg #[.slice A0_0 l0_0.length c0_0, .slice A0_1 l0_1.length c0_1], .int .i64 1048576] rfl (by (try simp only [List.map_toArray, List.map_cons, List.map_nil]); first | done | rfl | (simp only [List.length_drop, List.length_take]; rfl)) ?_; (with_reducible refine (laws_szFrame.calls _ _ l0_0 _ _ l0_1 1048576 t840 _ ?side1 ?side2 ?side3 ?side4 A3.out).mono ?_); (case side1 => repeat (first | exact (GO HR0_0.out HB.out) | (with_reducible refine R ?_ _) | (with_reducible refine GG ?_ _) | (with_reducible refine GJ ?_))); (case side2 => exact HC0_0.out); (case side3 => repeat (first | exact (GO HR0_1.out HB.out) | (with_reducible refine R ?_ _) | (with_reducible refine GG ?_ _) | (with_reducible refine GJ ?_))); (case side4 => exact HC0_1.out); rintro e w114 ⟨rfl, hb⟩; refine ⟨_, rfl, ?_⟩; have n0_ := G (F (g := gb838) (o := .cells #[.slice A0_0 l0_0.length c0_0, .slice A0_1 l0_1.length c0_1] 33 (0, 0)) (by (with_reducible repeat (first | refine U ?_ _ | refine X ?_ | refine V ?_ _)); exact BK838.out) hb); have n1_ := G (F (g := gb839) (o := .cells #[.slice A1_0 l1_0.length c1_0, .slice A1_1 l1_1.length c1_1] 33 (0, 0)) (by (with_reducible repeat (first | refine U ?_ _ | refine X ?_ | refine V ?_ _)); exact BK839.out) hb); have n2_ := G (GN (by repeat (first | (with_reducible first | exact HB.out | apply Z | apply T | apply Y | refine O ?_ GE838.out | refine O ?_ GE839.out) | exact HB.out)) hb); clear BK838; clear BK839; clear HB; have BK838 := n0_; have BK839 := n1_; have HB := n2_; clear n0_ n1_ n2_; (try clear hb); (try clear hb2); (try clear hk); (try clear hi); have hcz115_0 : w114.cell? ⟨gb839, 0, none⟩ = some (.slice A1_0 l1_0.length c1_0) := (E BK839.out 0).trans rfl; have hcz115_1 : w114.cell? ⟨gb839, 1, none⟩ = some (.slice A1_1 l1_1.length c1_1) := (E BK839.out 1).trans rfl; have hfz115_0 := GT BK839.out 0; have hfz115_1 := GT BK839.out 1) | ((with_reducible refine gate_callee (f := 19) rfl ?_); refine goesL_ (some 17) rfl rfl Try.func19 (by kernel_rfl) rfl #[.agg #[.slice A1_0 l1_0.length c1_0, .slice A1_1 l1_1.length c1_1], .int .i64 t840] rfl (by (try simp only [List.map_toArray, List.map_cons, List.map_nil]); first | done | rfl | (simp only [List.length_drop, List.length_take]; rfl)) ?_; (with_reducible refine (laws_szFrame.calls _ _ l1_0 _ _ l1_1 t840 t841 _ ?side1 ?side2 ?side3 ?side4 A10.out).mono ?_); (case side1 => repeat (first | exact (GO HR1_0.out HB.out) | (with_reducible refine R ?_ _) | (with_reducible refine GG ?_ _) | (with_reducible refine GJ ?_))); (case side2 => exact HC1_0.out); (case side3 => repeat (first | exact (GO HR1_1.out HB.out) | (with_reducible refine R ?_ _) | (with_reducible refine GG ?_ _) | (with_reducible refine GJ ?_))); (case side4 => exact HC1_1.out); rintro e w116 ⟨rfl, hb⟩; refine ⟨_, rfl, ?_⟩; have n0_ := G (F (g := gb838) (o := .cells #[.slice A0_0 l0_0.length c0_0, .slice A0_1 l0_1.length c0_1] 33 (0, 0)) (by (with_reducible repeat (first | refine U ?_ _ | refine X ?_ | refine V ?_ _)); exact BK838.out) hb); have n1_ := G (F (g := gb839) (o := .cells #[.slice A1_0 l1_0.length c1_0, .slice A1_1 l1_1.length c1_1] 33 (0, 0)) (by (with_reducible repeat (first | refine U ?_ _ | refine X ?_ | refine V ?_ _)); exact BK839.out) hb); have n2_ := G (GN (by repeat (first | (with_reducible first | exact HB.out | apply Z | apply T | apply Y | refine O ?_ GE838.out | refine O ?_ GE839.out) | exact HB.out)) hb); clear BK838; clear BK839; clear HB; have BK838 := n0_; have BK839 := n1_; have HB := n2_; clear n0_ n1_ n2_; (try clear hb); (try clear hb2); (try clear hk); (try clear hi)))
      have n0_ := G (X BK838.out)
      have n1_ := G (X BK839.out)
      have n2_ := G (Y HB.out)
      clear BK838
      clear BK839
      clear HB
      have BK838 := n0_
      have BK839 := n1_
      have HB := n2_
      clear n0_ n1_ n2_
      refine start_ (n := 6) (S := fun w' => w'.cell? ⟨gb838, 0, none⟩ = some (.slice A0_0 l0_0.length c0_0) ∧ w'.cell? ⟨gb838, 1, none⟩ = some (.slice A0_1 l0_1.length c0_1) ∧ w'.cell? ⟨gb839, 0, none⟩ = some (.slice A1_0 l1_0.length c1_0) ∧ w'.cell? ⟨gb839, 1, none⟩ = some (.slice A1_1 l1_1.length c1_1)) (ds := []) #[n', n', n', n', n', n'] (by kernel_rfl) rfl rfl ⟨(E BK838.out 0).trans rfl, (E BK838.out 1).trans rfl, (E BK839.out 0).trans rfl, (E BK839.out 1).trans rfl⟩ (fun hHeld => ?_)
      generalize w116.drew = w117 at BK838 BK839 HB hHeld ⊢
      refine take_ (i := 0) (N := some 20) (v := ?_) (a' := ?_) #[y', n', n', n', n', n'] rfl rfl (by kernel_rfl) (fun _ _ _ h => h) (Or.inl ⟨by rfl, ?_⟩) hHeld ?_ ?_
      rotate_left
      ·rintro w' ⟨s0, s1, s2, s3⟩
       go_simp
       with_reducible rfl
      rotate_left
      ·simp only [Act.put, z1', z2', z3', i64_w, i32_w]
       rfl
      refine take_ (i := 2) (N := some 22) (v := ?_) (a' := ?_) #[y', n', y', n', n', n'] rfl rfl (by kernel_rfl) (fun _ _ _ h => h) (Or.inl ⟨by rfl, ?_⟩) hHeld ?_ ?_
      rotate_left
      ·rintro w' ⟨s0, s1, s2, s3⟩
       go_simp
       with_reducible rfl
      rotate_left
      ·simp only [Act.put, z1', z2', z3', i64_w, i32_w]
       rfl
      refine one_ (i := 1) (N := some 21) #[y', y', y', n', n', n'] rfl rfl (by kernel_rfl) (by decide) (fun K hK => ?_)
      refine goes_ Try.func21 (by kernel_rfl) rfl #[.agg #[.slice A0_0 l0_0.length c0_0, .slice A0_1 l0_1.length c0_1]] (by rfl) rfl rfl (by (try simp only [List.map_toArray, List.map_cons, List.map_nil]); first | done | rfl | (simp only [List.length_drop, List.length_take]; rfl)) ?_
      with_reducible refine (laws_toFrame.calls k _ _ l0_0 _ _ l0_1 t842 t845 _ ?side1 ?side2 ?side3 ?side4 A19.out).mono ?_
      (case side1 => repeat (first | exact (GO HR0_0.out HB.out) | (with_reducible refine R ?_ _) | (with_reducible refine GG ?_ _) | (with_reducible refine GJ ?_)))
      (case side2 => exact HC0_0.out)
      (case side3 => repeat (first | exact (GO HR0_1.out HB.out) | (with_reducible refine R ?_ _) | (with_reducible refine GG ?_ _) | (with_reducible refine GJ ?_)))
      (case side4 => exact HC0_1.out)
      rintro e w118 ⟨v843, v846, rfl, ho0, ho1, hb⟩
      refine ⟨_, rfl, ?_⟩
      have n0_ := G (Kd.R_lower ho0 (GM (by repeat (first | (with_reducible first | exact HB.out | apply Z | apply T | apply Y | refine O ?_ GE838.out | refine O ?_ GE839.out) | exact HB.out))))
      have n1_ := G (Kd.R_lower ho1 (GM (by repeat (first | (with_reducible first | exact HB.out | apply Z | apply T | apply Y | refine O ?_ GE838.out | refine O ?_ GE839.out) | exact HB.out))))
      have n2_ := G (F (g := gb838) (o := .cells #[.slice A0_0 l0_0.length c0_0, .slice A0_1 l0_1.length c0_1] 33 (0, 0)) (by (with_reducible repeat (first | refine U ?_ _ | refine X ?_ | refine V ?_ _)); exact BK838.out) hb)
      have n3_ := G (F (g := gb839) (o := .cells #[.slice A1_0 l1_0.length c1_0, .slice A1_1 l1_1.length c1_1] 33 (0, 0)) (by (with_reducible repeat (first | refine U ?_ _ | refine X ?_ | refine V ?_ _)); exact BK839.out) hb)
      have n4_ := G (GN (by repeat (first | (with_reducible first | exact HB.out | apply Z | apply T | apply Y | refine O ?_ GE838.out | refine O ?_ GE839.out) | exact HB.out)) hb)
      clear BK838
      clear BK839
      clear HB
      have HO844 := n0_
      have HO847 := n1_
      have BK838 := n2_
      have BK839 := n3_
      have HB := n4_
      clear n0_ n1_ n2_ n3_ n4_
      (try clear hb)
      (try clear hb2)
      (try clear hk)
      (try clear hi)
      (try clear ho0)
      (try clear ho1)
      refine hK.out _ _ ⟨(E BK838.out 0).trans rfl, (E BK838.out 1).trans rfl, (E BK839.out 0).trans rfl, (E BK839.out 1).trans rfl⟩ (fun hHeld => ?_)
      clear hK K
      refine norm_ (a' := ?_) ?_ ?_
      rotate_left
      ·show Act.put _ (some 21) _ = _
       simp only [Act.put, z1', z2', z3', i64_w, i32_w]
       rfl
      refine one_ (i := 3) (N := some 23) #[y', y', y', y', n', n'] rfl rfl (by kernel_rfl) (by decide) (fun K hK => ?_)
      refine goes_ Try.func21 (by kernel_rfl) rfl #[.agg #[.slice A1_0 l1_0.length c1_0, .slice A1_1 l1_1.length c1_1]] (by rfl) rfl rfl (by (try simp only [List.map_toArray, List.map_cons, List.map_nil]); first | done | rfl | (simp only [List.length_drop, List.length_take]; rfl)) ?_
      with_reducible refine (laws_toFrame.calls k _ _ l1_0 _ _ l1_1 t848 t851 _ ?side1 ?side2 ?side3 ?side4 A20.out).mono ?_
      (case side1 => repeat (first | exact (GO HR1_0.out HB.out) | (with_reducible refine R ?_ _) | (with_reducible refine GG ?_ _) | (with_reducible refine GJ ?_)))
      (case side2 => exact HC1_0.out)
      (case side3 => repeat (first | exact (GO HR1_1.out HB.out) | (with_reducible refine R ?_ _) | (with_reducible refine GG ?_ _) | (with_reducible refine GJ ?_)))
      (case side4 => exact HC1_1.out)
      rintro e w119 ⟨v849, v852, rfl, ho0, ho1, hb⟩
      refine ⟨_, rfl, ?_⟩
      have n0_ := G (Kd.R_elder' (by (with_reducible repeat (first | apply J | apply L | apply M)); exact HO844.out) (Kd.R_base ho0) hb)
      have n1_ := G (Kd.R_elder' (by (with_reducible repeat (first | apply J | apply L | apply M)); exact HO847.out) (Kd.R_base ho1) hb)
      have n2_ := G (Kd.R_lower (GL ho0 (Kd.R_lt (by (with_reducible repeat (first | apply J | apply L | apply M)); exact HO844.out))) (GM (by repeat (first | (with_reducible first | exact HB.out | apply Z | apply T | apply Y | refine O ?_ GE838.out | refine O ?_ GE839.out) | exact HB.out))))
      have n3_ := G (Kd.R_lower (GL ho1 (Kd.R_lt (by (with_reducible repeat (first | apply J | apply L | apply M)); exact HO847.out))) (GM (by repeat (first | (with_reducible first | exact HB.out | apply Z | apply T | apply Y | refine O ?_ GE838.out | refine O ?_ GE839.out) | exact HB.out))))
      have n4_ := G (F (g := gb838) (o := .cells #[.slice A0_0 l0_0.length c0_0, .slice A0_1 l0_1.length c0_1] 33 (0, 0)) (by (with_reducible repeat (first | refine U ?_ _ | refine X ?_ | refine V ?_ _)); exact BK838.out) hb)
      have n5_ := G (F (g := gb839) (o := .cells #[.slice A1_0 l1_0.length c1_0, .slice A1_1 l1_1.length c1_1] 33 (0, 0)) (by (with_reducible repeat (first | refine U ?_ _ | refine X ?_ | refine V ?_ _)); exact BK839.out) hb)
      have n6_ := G (GN (by repeat (first | (with_reducible first | exact HB.out | apply Z | apply T | apply Y | refine O ?_ GE838.out | refine O ?_ GE839.out) | exact HB.out)) hb)
      clear HO844
      clear HO847
      clear BK838
      clear BK839
      clear HB
      have HO844 := n0_
      have HO847 := n1_
      have HO850 := n2_
      have HO853 := n3_
      have BK838 := n4_
      have BK839 := n5_
      have HB := n6_
      clear n0_ n1_ n2_ n3_ n4_ n5_ n6_
      (try clear hb)
      (try clear hb2)
      (try clear hk)
      (try clear hi)
      (try clear ho0)
      (try clear ho1)
      obtain ⟨Ao120, co120, eo120⟩ := Kd.R_slice HO844.out
      (first | subst eo120 | (injection eo120 with f1_ f2_ f3_; have f4_ := f1_.symm; have f5_ := f3_.symm; clear f1_ f2_ f3_; subst f4_; subst f5_))
      obtain ⟨Ao121, co121, eo121⟩ := Kd.R_slice HO847.out
      (first | subst eo121 | (injection eo121 with f1_ f2_ f3_; have f4_ := f1_.symm; have f5_ := f3_.symm; clear f1_ f2_ f3_; subst f4_; subst f5_))
      obtain ⟨Ao122, co122, eo122⟩ := Kd.R_slice HO850.out
      (first | subst eo122 | (injection eo122 with f1_ f2_ f3_; have f4_ := f1_.symm; have f5_ := f3_.symm; clear f1_ f2_ f3_; subst f4_; subst f5_))
      obtain ⟨Ao123, co123, eo123⟩ := Kd.R_slice HO853.out
      (first | subst eo123 | (injection eo123 with f1_ f2_ f3_; have f4_ := f1_.symm; have f5_ := f3_.symm; clear f1_ f2_ f3_; subst f4_; subst f5_))
      refine hK.out _ _ ⟨(E BK838.out 0).trans rfl, (E BK838.out 1).trans rfl, (E BK839.out 0).trans rfl, (E BK839.out 1).trans rfl⟩ (fun hHeld => ?_)
      clear hK K
      refine norm_ (a' := ?_) ?_ ?_
      rotate_left
      ·show Act.put _ (some 23) _ = _
       simp only [Act.put, z1', z2', z3', i64_w, i32_w]
       rfl
      refine one_ (i := 4) (N := some 24) #[y', y', y', y', y', n'] rfl rfl (by kernel_rfl) (by decide) (fun K hK => ?_)
      refine goes_ Try.func20 (by kernel_rfl) rfl #[.agg #[.slice Ao120 t842.length co120, .slice Ao121 t845.length co121], .agg #[.slice Ao122 t848.length co122, .slice Ao123 t851.length co123]] (by rfl) rfl rfl (by (try simp only [List.map_toArray, List.map_cons, List.map_nil]); first | done | rfl | (simp only [List.length_drop, List.length_take]; rfl)) ?_
      with_reducible refine (spec_SameFrame.calls k _ _ t842 _ _ t845 _ _ t848 _ _ t851 t854 _ ?side1 ?side2 ?side3 ?side4 ?side5 ?side6 ?side7 ?side8 A21.out).mono ?_
      (case side1 => repeat (first | exact (Kd.R_reads' HO844.out).2.2 | (with_reducible refine R ?_ _) | (with_reducible refine GG ?_ _) | (with_reducible refine GJ ?_)))
      (case side2 => exact (Kd.R_reads' HO844.out).2.1)
      (case side3 => repeat (first | exact (Kd.R_reads' HO847.out).2.2 | (with_reducible refine R ?_ _) | (with_reducible refine GG ?_ _) | (with_reducible refine GJ ?_)))
      (case side4 => exact (Kd.R_reads' HO847.out).2.1)
      (case side5 => repeat (first | exact (Kd.R_reads' HO850.out).2.2 | (with_reducible refine R ?_ _) | (with_reducible refine GG ?_ _) | (with_reducible refine GJ ?_)))
      (case side6 => exact (Kd.R_reads' HO850.out).2.1)
      (case side7 => repeat (first | exact (Kd.R_reads' HO853.out).2.2 | (with_reducible refine R ?_ _) | (with_reducible refine GG ?_ _) | (with_reducible refine GJ ?_)))
      (case side8 => exact (Kd.R_reads' HO853.out).2.1)
      rintro e w124 ⟨rfl, hb⟩
      refine ⟨_, rfl, ?_⟩
      have n0_ := G (B (by (with_reducible repeat (first | apply J | apply L | apply M)); exact HO844.out) hb)
      have n1_ := G (B (by (with_reducible repeat (first | apply J | apply L | apply M)); exact HO847.out) hb)
      have n2_ := G (B (by (with_reducible repeat (first | apply J | apply L | apply M)); exact HO850.out) hb)
      have n3_ := G (B (by (with_reducible repeat (first | apply J | apply L | apply M)); exact HO853.out) hb)
      have n4_ := G (F (g := gb838) (o := .cells #[.slice A0_0 l0_0.length c0_0, .slice A0_1 l0_1.length c0_1] 33 (0, 0)) (by (with_reducible repeat (first | refine U ?_ _ | refine X ?_ | refine V ?_ _)); exact BK838.out) hb)
      have n5_ := G (F (g := gb839) (o := .cells #[.slice A1_0 l1_0.length c1_0, .slice A1_1 l1_1.length c1_1] 33 (0, 0)) (by (with_reducible repeat (first | refine U ?_ _ | refine X ?_ | refine V ?_ _)); exact BK839.out) hb)
      have n6_ := G (GN (by repeat (first | (with_reducible first | exact HB.out | apply Z | apply T | apply Y | refine O ?_ GE838.out | refine O ?_ GE839.out) | exact HB.out)) hb)
      clear HO844
      clear HO847
      clear HO850
      clear HO853
      clear BK838
      clear BK839
      clear HB
      have HO844 := n0_
      have HO847 := n1_
      have HO850 := n2_
      have HO853 := n3_
      have BK838 := n4_
      have BK839 := n5_
      have HB := n6_
      clear n0_ n1_ n2_ n3_ n4_ n5_ n6_
      (try clear hb)
      (try clear hb2)
      (try clear hk)
      (try clear hi)
      refine hK.out _ _ ⟨(E BK838.out 0).trans rfl, (E BK838.out 1).trans rfl, (E BK839.out 0).trans rfl, (E BK839.out 1).trans rfl⟩ (fun hHeld => ?_)
      clear hK K
      refine norm_ (a' := ?_) ?_ ?_
      rotate_left
      ·show Act.put _ (some 24) _ = _
       simp only [Act.put, z1', z2', z3', i64_w, i32_w]
       rfl
      refine pure_ (i := 5) (N := some 6) (v := ?_) (a' := ?_) #[y', y', y', y', y', y'] rfl rfl (by kernel_rfl) (fun _ _ _ h => h) (Or.inl ⟨by rfl, ?_⟩) ?_ ?_
      rotate_left
      ·intro w'
       go_simp
       with_reducible rfl
      rotate_left
      ·simp only [Act.put, z1', z2', z3', i64_w, i32_w]
       rfl
      refine done_ (by kernel_rfl) ?_
      have hcz125_0 : w124.cell? ⟨gb838, 0, none⟩ = some (.slice A0_0 l0_0.length c0_0) := (E BK838.out 0).trans rfl
      have hcz125_1 : w124.cell? ⟨gb838, 1, none⟩ = some (.slice A0_1 l0_1.length c0_1) := (E BK838.out 1).trans rfl
      have hfz125_0 := GT BK838.out 0
      have hfz125_1 := GT BK838.out 1
      try go_wp2_with (first | ((with_reducible refine gate_callee (f := 21) rfl ?_); refine goesL_ (some 26) rfl rfl Try.func21 (by kernel_rfl) rfl #[.agg #[.slice A0_0 l0_0.length c0_0, .slice A0_1 l0_1.length c0_1]] rfl (by (try simp only [List.map_toArray, List.map_cons, List.map_nil]); first | done | rfl | (simp only [List.length_drop, List.length_take]; rfl)) ?_; (with_reducible refine (laws_toFrame.calls k _ _ l0_0 _ _ l0_1 t855 t858 _ ?side1 ?side2 ?side3 ?side4 A22.out).mono ?_); (case side1 => repeat (first | exact (GO HR0_0.out HB.out) | (with_reducible refine R ?_ _) | (with_reducible refine GG ?_ _) | (with_reducible refine GJ ?_))); (case side2 => exact HC0_0.out); (case side3 => repeat (first | exact (GO HR0_1.out HB.out) | (with_reducible refine R ?_ _) | (with_reducible refine GG ?_ _) | (with_reducible refine GJ ?_))); (case side4 => exact HC0_1.out); rintro e w126 ⟨v856, v859, rfl, ho0, ho1, hb⟩; refine ⟨_, rfl, ?_⟩; have n0_ := G (Kd.R_elder' (by (with_reducible repeat (first | apply J | apply L | apply M)); exact HO844.out) (Kd.R_base ho0) hb); have n1_ := G (Kd.R_elder' (by (with_reducible repeat (first | apply J | apply L | apply M)); exact HO847.out) (Kd.R_base ho1) hb); have n2_ := G (Kd.R_elder' (by (with_reducible repeat (first | apply J | apply L | apply M)); exact HO850.out) (Kd.R_base ho0) hb); have n3_ := G (Kd.R_elder' (by (with_reducible repeat (first | apply J | apply L | apply M)); exact HO853.out) (Kd.R_base ho1) hb); have n4_ := G (Kd.R_lower (GL (GL ho0 (Kd.R_lt (by (with_reducible repeat (first | apply J | apply L | apply M)); exact HO844.out))) (Kd.R_lt (by (with_reducible repeat (first | apply J | apply L | apply M)); exact HO850.out))) (GM (by repeat (first | (with_reducible first | exact HB.out | apply Z | apply T | apply Y | refine O ?_ GE838.out | refine O ?_ GE839.out) | exact HB.out)))); have n5_ := G (Kd.R_lower (GL (GL ho1 (Kd.R_lt (by (with_reducible repeat (first | apply J | apply L | apply M)); exact HO847.out))) (Kd.R_lt (by (with_reducible repeat (first | apply J | apply L | apply M)); exact HO853.out))) (GM (by repeat (first | (with_reducible first | exact HB.out | apply Z | apply T | apply Y | refine O ?_ GE838.out | refine O ?_ GE839.out) | exact HB.out)))); have n6_ := G (F (g := gb838) (o := .cells #[.slice A0_0 l0_0.length c0_0, .slice A0_1 l0_1.length c0_1] 33 (0, 0)) (by (with_reducible repeat (first | refine U ?_ _ | refine X ?_ | refine V ?_ _)); exact BK838.out) hb); have n7_ := G (F (g := gb839) (o := .cells #[.slice A1_0 l1_0.length c1_0, .slice A1_1 l1_1.length c1_1] 33 (0, 0)) (by (with_reducible repeat (first | refine U ?_ _ | refine X ?_ | refine V ?_ _)); exact BK839.out) hb); have n8_ := G (GN (by repeat (first | (with_reducible first | exact HB.out | apply Z | apply T | apply Y | refine O ?_ GE838.out | refine O ?_ GE839.out) | exact HB.out)) hb); clear HO844; clear HO847; clear HO850; clear HO853; clear BK838; clear BK839; clear HB; have HO844 := n0_; have HO847 := n1_; have HO850 := n2_; have HO853 := n3_; have HO857 := n4_; have HO860 := n5_; have BK838 := n6_; have BK839 := n7_; have HB := n8_; clear n0_ n1_ n2_ n3_ n4_ n5_ n6_ n7_ n8_; (try clear hb); (try clear hb2); (try clear hk); (try clear hi); (try clear ho0); (try clear ho1)) | ((with_reducible refine gate_dst (N := 7) rfl ?_); refine box_event ?hg (N := 7) ?hd (cs := #[.slice none 0 0, .slice none 0 0]) (t := 39) ?hr ?_; (case hd => rfl); (case hg => rfl); (case hr => first | (go_simp; done) | (go_simp; rfl)); intro gb861 hg w127 hbox hb; have n0_ := G (B (by (with_reducible repeat (first | apply J | apply L | apply M)); exact HO844.out) hb); have n1_ := G (B (by (with_reducible repeat (first | apply J | apply L | apply M)); exact HO847.out) hb); have n2_ := G (B (by (with_reducible repeat (first | apply J | apply L | apply M)); exact HO850.out) hb); have n3_ := G (B (by (with_reducible repeat (first | apply J | apply L | apply M)); exact HO853.out) hb); have n4_ := G (B (by (with_reducible repeat (first | apply J | apply L | apply M)); exact HO857.out) hb); have n5_ := G (B (by (with_reducible repeat (first | apply J | apply L | apply M)); exact HO860.out) hb); have n6_ := G (F (g := gb838) (o := .cells #[.slice A0_0 l0_0.length c0_0, .slice A0_1 l0_1.length c0_1] 33 (0, 0)) (by (with_reducible repeat (first | refine U ?_ _ | refine X ?_ | refine V ?_ _)); exact BK838.out) hb); have n7_ := G (F (g := gb839) (o := .cells #[.slice A1_0 l1_0.length c1_0, .slice A1_1 l1_1.length c1_1] 33 (0, 0)) (by (with_reducible repeat (first | refine U ?_ _ | refine X ?_ | refine V ?_ _)); exact BK839.out) hb); have n8_ := G (GN (by repeat (first | (with_reducible first | exact HB.out | apply Z | apply T | apply Y | refine O ?_ GE838.out | refine O ?_ GE839.out) | exact HB.out)) hb); have n9_ := G (hbox); have n10_ := G ((by rw [hg]; exact (GM (by repeat (first | (with_reducible first | exact HB.out | apply Z | apply T | apply Y | refine O ?_ GE838.out | refine O ?_ GE839.out) | exact HB.out))) : w.heap.size ≤ gb861)); have n11_ := G ((by rw [hg]; exact (GM (by repeat (first | (with_reducible first | exact HB.out | apply Z | apply T | apply Y | refine O ?_ GE838.out | refine O ?_ GE839.out) | exact HB.out))) : w.heap.size ≤ gb861)); have n12_ := G ((by rw [hg]; exact Nat.ne_of_lt (blk_lt (g := gb838) (o := .cells #[.slice A0_0 l0_0.length c0_0, .slice A0_1 l0_1.length c0_1] 33 (0, 0)) (by (with_reducible repeat (first | refine U ?_ _ | refine X ?_ | refine V ?_ _)); exact BK838.out)) : gb838 ≠ gb861)); have n13_ := G ((by rw [hg]; exact Nat.ne_of_gt (blk_lt (g := gb838) (o := .cells #[.slice A0_0 l0_0.length c0_0, .slice A0_1 l0_1.length c0_1] 33 (0, 0)) (by (with_reducible repeat (first | refine U ?_ _ | refine X ?_ | refine V ?_ _)); exact BK838.out)) : gb861 ≠ gb838)); have n14_ := G ((by rw [hg]; exact Nat.ne_of_lt (blk_lt (g := gb839) (o := .cells #[.slice A1_0 l1_0.length c1_0, .slice A1_1 l1_1.length c1_1] 33 (0, 0)) (by (with_reducible repeat (first | refine U ?_ _ | refine X ?_ | refine V ?_ _)); exact BK839.out)) : gb839 ≠ gb861)); have n15_ := G ((by rw [hg]; exact Nat.ne_of_gt (blk_lt (g := gb839) (o := .cells #[.slice A1_0 l1_0.length c1_0, .slice A1_1 l1_1.length c1_1] 33 (0, 0)) (by (with_reducible repeat (first | refine U ?_ _ | refine X ?_ | refine V ?_ _)); exact BK839.out)) : gb861 ≠ gb839)); clear HO844; clear HO847; clear HO850; clear HO853; clear HO857; clear HO860; clear BK838; clear BK839; clear HB; have HO844 := n0_; have HO847 := n1_; have HO850 := n2_; have HO853 := n3_; have HO857 := n4_; have HO860 := n5_; have BK838 := n6_; have BK839 := n7_; have HB := n8_; have BK861 := n9_; have GW861 := n10_; have GE861 := n11_; have NB838_861 := n12_; have NB861_838 := n13_; have NB839_861 := n14_; have NB861_839 := n15_; clear n0_ n1_ n2_ n3_ n4_ n5_ n6_ n7_ n8_ n9_ n10_ n11_ n12_ n13_ n14_ n15_; clear hb hbox hg; obtain ⟨Ao128, co128, eo128⟩ := Kd.R_slice HO857.out; subst eo128; have hnb129 := NB861_838.out; have hnc129 := NB838_861.out; have hnb130 := NB861_839.out; have hnc130 := NB839_861.out; have hcz131_0 : w127.cell? ⟨gb861, 0, none⟩ = some (.slice none 0 0) := (E BK861.out 0).trans rfl; have hcz131_1 : w127.cell? ⟨gb861, 1, none⟩ = some (.slice none 0 0) := (E BK861.out 1).trans rfl; have hfz131_0 := GT BK861.out 0; have hfz131_1 := GT BK861.out 1; obtain ⟨Ao132, co132, eo132⟩ := Kd.R_slice HO860.out; subst eo132; have hcz133_0 : w127.cell? ⟨gb839, 0, none⟩ = some (.slice A1_0 l1_0.length c1_0) := (E BK839.out 0).trans rfl; have hcz133_1 : w127.cell? ⟨gb839, 1, none⟩ = some (.slice A1_1 l1_1.length c1_1) := (E BK839.out 1).trans rfl; have hfz133_0 := GT BK839.out 0; have hfz133_1 := GT BK839.out 1) | ((with_reducible refine gate_callee (f := 21) rfl ?_); refine goesL_ (some 28) rfl rfl Try.func21 (by kernel_rfl) rfl #[.agg #[.slice A1_0 l1_0.length c1_0, .slice A1_1 l1_1.length c1_1]] rfl (by (try simp only [List.map_toArray, List.map_cons, List.map_nil]); first | done | rfl | (simp only [List.length_drop, List.length_take]; rfl)) ?_; (with_reducible refine (laws_toFrame.calls k _ _ l1_0 _ _ l1_1 t862 t865 _ ?side1 ?side2 ?side3 ?side4 A23.out).mono ?_); (case side1 => exact GO HR1_0.out (by repeat (first | (with_reducible first | exact HB.out | apply Z | apply T | apply Y | refine O ?_ GE838.out | refine O ?_ GE839.out | refine O ?_ GE861.out) | exact HB.out))); (case side2 => exact HC1_0.out); (case side3 => exact GO HR1_1.out (by repeat (first | (with_reducible first | exact HB.out | apply Z | apply T | apply Y | refine O ?_ GE838.out | refine O ?_ GE839.out | refine O ?_ GE861.out) | exact HB.out))); (case side4 => exact HC1_1.out); rintro e w134 ⟨v863, v866, rfl, ho0, ho1, hb⟩; refine ⟨_, rfl, ?_⟩; have n0_ := G (Kd.R_elder' (by (with_reducible repeat (first | apply J | apply L | apply M)); exact (P (D (p := ⟨gb861, 1, none⟩) (D (p := ⟨gb861, 0, none⟩) (I HO844.out BK861.out (by decide)) (fun _ hk => hk.2) (.slice Ao128 t855.length co128)) (fun _ hk => hk.2) (.slice Ao132 t858.length co132)) (fun _ h_ => h_.1))) (Kd.R_base ho0) hb); have n1_ := G (Kd.R_elder' (by (with_reducible repeat (first | apply J | apply L | apply M)); exact (P (D (p := ⟨gb861, 1, none⟩) (D (p := ⟨gb861, 0, none⟩) (I HO847.out BK861.out (by decide)) (fun _ hk => hk.2) (.slice Ao128 t855.length co128)) (fun _ hk => hk.2) (.slice Ao132 t858.length co132)) (fun _ h_ => h_.1))) (Kd.R_base ho1) hb); have n2_ := G (Kd.R_elder' (by (with_reducible repeat (first | apply J | apply L | apply M)); exact (P (D (p := ⟨gb861, 1, none⟩) (D (p := ⟨gb861, 0, none⟩) (I HO850.out BK861.out (by decide)) (fun _ hk => hk.2) (.slice Ao128 t855.length co128)) (fun _ hk => hk.2) (.slice Ao132 t858.length co132)) (fun _ h_ => h_.1))) (Kd.R_base ho0) hb); have n3_ := G (Kd.R_elder' (by (with_reducible repeat (first | apply J | apply L | apply M)); exact (P (D (p := ⟨gb861, 1, none⟩) (D (p := ⟨gb861, 0, none⟩) (I HO853.out BK861.out (by decide)) (fun _ hk => hk.2) (.slice Ao128 t855.length co128)) (fun _ hk => hk.2) (.slice Ao132 t858.length co132)) (fun _ h_ => h_.1))) (Kd.R_base ho1) hb); have n4_ := G (Kd.R_elder' (by (with_reducible repeat (first | apply J | apply L | apply M)); exact (P (D (p := ⟨gb861, 1, none⟩) (D (p := ⟨gb861, 0, none⟩) (I HO857.out BK861.out (by decide)) (fun _ hk => hk.2) (.slice Ao128 t855.length co128)) (fun _ hk => hk.2) (.slice Ao132 t858.length co132)) (fun _ h_ => h_.1))) (Kd.R_base ho0) hb); have n5_ := G (Kd.R_elder' (by (with_reducible repeat (first | apply J | apply L | apply M)); exact (P (D (p := ⟨gb861, 1, none⟩) (D (p := ⟨gb861, 0, none⟩) (I HO860.out BK861.out (by decide)) (fun _ hk => hk.2) (.slice Ao128 t855.length co128)) (fun _ hk => hk.2) (.slice Ao132 t858.length co132)) (fun _ h_ => h_.1))) (Kd.R_base ho1) hb); have n6_ := G (Kd.R_lower (GL (GL (GL ho0 (Kd.R_lt (by (with_reducible repeat (first | apply J | apply L | apply M)); exact (P (D (p := ⟨gb861, 1, none⟩) (D (p := ⟨gb861, 0, none⟩) (I HO844.out BK861.out (by decide)) (fun _ hk => hk.2) (.slice Ao128 t855.length co128)) (fun _ hk => hk.2) (.slice Ao132 t858.length co132)) (fun _ h_ => h_.1))))) (Kd.R_lt (by (with_reducible repeat (first | apply J | apply L | apply M)); exact (P (D (p := ⟨gb861, 1, none⟩) (D (p := ⟨gb861, 0, none⟩) (I HO850.out BK861.out (by decide)) (fun _ hk => hk.2) (.slice Ao128 t855.length co128)) (fun _ hk => hk.2) (.slice Ao132 t858.length co132)) (fun _ h_ => h_.1))))) (Kd.R_lt (by (with_reducible repeat (first | apply J | apply L | apply M)); exact (P (D (p := ⟨gb861, 1, none⟩) (D (p := ⟨gb861, 0, none⟩) (I HO857.out BK861.out (by decide)) (fun _ hk => hk.2) (.slice Ao128 t855.length co128)) (fun _ hk => hk.2) (.slice Ao132 t858.length co132)) (fun _ h_ => h_.1))))) (GM (by repeat (first | (with_reducible first | exact HB.out | apply Z | apply T | apply Y | refine O ?_ GE838.out | refine O ?_ GE839.out | refine O ?_ GE861.out) | exact HB.out)))); have n7_ := G (Kd.R_lower (GL (GL (GL ho1 (Kd.R_lt (by (with_reducible repeat (first | apply J | apply L | apply M)); exact (P (D (p := ⟨gb861, 1, none⟩) (D (p := ⟨gb861, 0, none⟩) (I HO847.out BK861.out (by decide)) (fun _ hk => hk.2) (.slice Ao128 t855.length co128)) (fun _ hk => hk.2) (.slice Ao132 t858.length co132)) (fun _ h_ => h_.1))))) (Kd.R_lt (by (with_reducible repeat (first | apply J | apply L | apply M)); exact (P (D (p := ⟨gb861, 1, none⟩) (D (p := ⟨gb861, 0, none⟩) (I HO853.out BK861.out (by decide)) (fun _ hk => hk.2) (.slice Ao128 t855.length co128)) (fun _ hk => hk.2) (.slice Ao132 t858.length co132)) (fun _ h_ => h_.1))))) (Kd.R_lt (by (with_reducible repeat (first | apply J | apply L | apply M)); exact (P (D (p := ⟨gb861, 1, none⟩) (D (p := ⟨gb861, 0, none⟩) (I HO860.out BK861.out (by decide)) (fun _ hk => hk.2) (.slice Ao128 t855.length co128)) (fun _ hk => hk.2) (.slice Ao132 t858.length co132)) (fun _ h_ => h_.1))))) (GM (by repeat (first | (with_reducible first | exact HB.out | apply Z | apply T | apply Y | refine O ?_ GE838.out | refine O ?_ GE839.out | refine O ?_ GE861.out) | exact HB.out)))); have n8_ := G (F (g := gb838) (o := .cells #[.slice A0_0 l0_0.length c0_0, .slice A0_1 l0_1.length c0_1] 33 (0, 0)) (by (with_reducible repeat (first | refine U ?_ _ | refine X ?_ | refine V ?_ _)); refine blk_far ?_ NB838_861.out _; (with_reducible repeat (first | refine U ?_ _ | refine X ?_ | refine V ?_ _)); refine blk_far ?_ NB838_861.out _; (with_reducible repeat (first | refine U ?_ _ | refine X ?_ | refine V ?_ _)); exact BK838.out) hb); have n9_ := G (F (g := gb839) (o := .cells #[.slice A1_0 l1_0.length c1_0, .slice A1_1 l1_1.length c1_1] 33 (0, 0)) (by (with_reducible repeat (first | refine U ?_ _ | refine X ?_ | refine V ?_ _)); refine blk_far ?_ NB839_861.out _; (with_reducible repeat (first | refine U ?_ _ | refine X ?_ | refine V ?_ _)); refine blk_far ?_ NB839_861.out _; (with_reducible repeat (first | refine U ?_ _ | refine X ?_ | refine V ?_ _)); exact BK839.out) hb); have n10_ := G (F (g := gb861) (o := .cells #[.slice Ao128 t855.length co128, .slice Ao132 t858.length co132] 39 (0, 0)) (by (with_reducible repeat (first | refine U ?_ _ | refine X ?_ | refine V ?_ _)); refine blk_put (cs := #[.slice Ao128 t855.length co128, .slice none 0 0]) ?_ 1 _ rfl; (with_reducible repeat (first | refine U ?_ _ | refine X ?_ | refine V ?_ _)); refine blk_put (cs := #[.slice none 0 0, .slice none 0 0]) ?_ 0 _ rfl; (with_reducible repeat (first | refine U ?_ _ | refine X ?_ | refine V ?_ _)); exact BK861.out) hb); have n11_ := G (GN (by repeat (first | (with_reducible first | exact HB.out | apply Z | apply T | apply Y | refine O ?_ GE838.out | refine O ?_ GE839.out | refine O ?_ GE861.out) | exact HB.out)) hb); clear HO844; clear HO847; clear HO850; clear HO853; clear HO857; clear HO860; clear BK838; clear BK839; clear BK861; clear HB; have HO844 := n0_; have HO847 := n1_; have HO850 := n2_; have HO853 := n3_; have HO857 := n4_; have HO860 := n5_; have HO864 := n6_; have HO867 := n7_; have BK838 := n8_; have BK839 := n9_; have BK861 := n10_; have HB := n11_; clear n0_ n1_ n2_ n3_ n4_ n5_ n6_ n7_ n8_ n9_ n10_ n11_; (try clear hb); (try clear hb2); (try clear hk); (try clear hi); (try clear ho0); (try clear ho1)) | ((with_reducible refine gate_dst (N := 8) rfl ?_); refine box_event ?hg (N := 8) ?hd (cs := #[.slice none 0 0, .slice none 0 0]) (t := 39) ?hr ?_; (case hd => rfl); (case hg => rfl); (case hr => first | (go_simp; done) | (go_simp; rfl)); intro gb868 hg w135 hbox hb; have n0_ := G (B (by (with_reducible repeat (first | apply J | apply L | apply M)); exact HO844.out) hb); have n1_ := G (B (by (with_reducible repeat (first | apply J | apply L | apply M)); exact HO847.out) hb); have n2_ := G (B (by (with_reducible repeat (first | apply J | apply L | apply M)); exact HO850.out) hb); have n3_ := G (B (by (with_reducible repeat (first | apply J | apply L | apply M)); exact HO853.out) hb); have n4_ := G (B (by (with_reducible repeat (first | apply J | apply L | apply M)); exact HO857.out) hb); have n5_ := G (B (by (with_reducible repeat (first | apply J | apply L | apply M)); exact HO860.out) hb); have n6_ := G (B (by (with_reducible repeat (first | apply J | apply L | apply M)); exact HO864.out) hb); have n7_ := G (B (by (with_reducible repeat (first | apply J | apply L | apply M)); exact HO867.out) hb); have n8_ := G (F (g := gb838) (o := .cells #[.slice A0_0 l0_0.length c0_0, .slice A0_1 l0_1.length c0_1] 33 (0, 0)) (by (with_reducible repeat (first | refine U ?_ _ | refine X ?_ | refine V ?_ _)); exact BK838.out) hb); have n9_ := G (F (g := gb839) (o := .cells #[.slice A1_0 l1_0.length c1_0, .slice A1_1 l1_1.length c1_1] 33 (0, 0)) (by (with_reducible repeat (first | refine U ?_ _ | refine X ?_ | refine V ?_ _)); exact BK839.out) hb); have n10_ := G (F (g := gb861) (o := .cells #[.slice Ao128 t855.length co128, .slice Ao132 t858.length co132] 39 (0, 0)) (by (with_reducible repeat (first | refine U ?_ _ | refine X ?_ | refine V ?_ _)); exact BK861.out) hb); have n11_ := G (GN (by repeat (first | (with_reducible first | exact HB.out | apply Z | apply T | apply Y | refine O ?_ GE838.out | refine O ?_ GE839.out | refine O ?_ GE861.out) | exact HB.out)) hb); have n12_ := G (hbox); have n13_ := G ((by rw [hg]; exact (GM (by repeat (first | (with_reducible first | exact HB.out | apply Z | apply T | apply Y | refine O ?_ GE838.out | refine O ?_ GE839.out | refine O ?_ GE861.out) | exact HB.out))) : w.heap.size ≤ gb868)); have n14_ := G ((by rw [hg]; exact (GM (by repeat (first | (with_reducible first | exact HB.out | apply Z | apply T | apply Y | refine O ?_ GE838.out | refine O ?_ GE839.out | refine O ?_ GE861.out) | exact HB.out))) : w.heap.size ≤ gb868)); have n15_ := G ((by rw [hg]; exact Nat.ne_of_lt (blk_lt (g := gb838) (o := .cells #[.slice A0_0 l0_0.length c0_0, .slice A0_1 l0_1.length c0_1] 33 (0, 0)) (by (with_reducible repeat (first | refine U ?_ _ | refine X ?_ | refine V ?_ _)); exact BK838.out)) : gb838 ≠ gb868)); have n16_ := G ((by rw [hg]; exact Nat.ne_of_gt (blk_lt (g := gb838) (o := .cells #[.slice A0_0 l0_0.length c0_0, .slice A0_1 l0_1.length c0_1] 33 (0, 0)) (by (with_reducible repeat (first | refine U ?_ _ | refine X ?_ | refine V ?_ _)); exact BK838.out)) : gb868 ≠ gb838)); have n17_ := G ((by rw [hg]; exact Nat.ne_of_lt (blk_lt (g := gb839) (o := .cells #[.slice A1_0 l1_0.length c1_0, .slice A1_1 l1_1.length c1_1] 33 (0, 0)) (by (with_reducible repeat (first | refine U ?_ _ | refine X ?_ | refine V ?_ _)); exact BK839.out)) : gb839 ≠ gb868)); have n18_ := G ((by rw [hg]; exact Nat.ne_of_gt (blk_lt (g := gb839) (o := .cells #[.slice A1_0 l1_0.length c1_0, .slice A1_1 l1_1.length c1_1] 33 (0, 0)) (by (with_reducible repeat (first | refine U ?_ _ | refine X ?_ | refine V ?_ _)); exact BK839.out)) : gb868 ≠ gb839)); have n19_ := G ((by rw [hg]; exact Nat.ne_of_lt (blk_lt (g := gb861) (o := .cells #[.slice Ao128 t855.length co128, .slice Ao132 t858.length co132] 39 (0, 0)) (by (with_reducible repeat (first | refine U ?_ _ | refine X ?_ | refine V ?_ _)); exact BK861.out)) : gb861 ≠ gb868)); have n20_ := G ((by rw [hg]; exact Nat.ne_of_gt (blk_lt (g := gb861) (o := .cells #[.slice Ao128 t855.length co128, .slice Ao132 t858.length co132] 39 (0, 0)) (by (with_reducible repeat (first | refine U ?_ _ | refine X ?_ | refine V ?_ _)); exact BK861.out)) : gb868 ≠ gb861)); clear HO844; clear HO847; clear HO850; clear HO853; clear HO857; clear HO860; clear HO864; clear HO867; clear BK838; clear BK839; clear BK861; clear HB; have HO844 := n0_; have HO847 := n1_; have HO850 := n2_; have HO853 := n3_; have HO857 := n4_; have HO860 := n5_; have HO864 := n6_; have HO867 := n7_; have BK838 := n8_; have BK839 := n9_; have BK861 := n10_; have HB := n11_; have BK868 := n12_; have GW868 := n13_; have GE868 := n14_; have NB838_868 := n15_; have NB868_838 := n16_; have NB839_868 := n17_; have NB868_839 := n18_; have NB861_868 := n19_; have NB868_861 := n20_; clear n0_ n1_ n2_ n3_ n4_ n5_ n6_ n7_ n8_ n9_ n10_ n11_ n12_ n13_ n14_ n15_ n16_ n17_ n18_ n19_ n20_; clear hb hbox hg; obtain ⟨Ao136, co136, eo136⟩ := Kd.R_slice HO864.out; subst eo136; have hnb137 := NB868_838.out; have hnc137 := NB838_868.out; have hnb138 := NB868_839.out; have hnc138 := NB839_868.out; have hnb139 := NB868_861.out; have hnc139 := NB861_868.out; have hcz140_0 : w135.cell? ⟨gb868, 0, none⟩ = some (.slice none 0 0) := (E BK868.out 0).trans rfl; have hcz140_1 : w135.cell? ⟨gb868, 1, none⟩ = some (.slice none 0 0) := (E BK868.out 1).trans rfl; have hfz140_0 := GT BK868.out 0; have hfz140_1 := GT BK868.out 1; obtain ⟨Ao141, co141, eo141⟩ := Kd.R_slice HO867.out; subst eo141; have hcz142_0 : w135.cell? ⟨gb861, 0, none⟩ = some (.slice Ao128 t855.length co128) := (E BK861.out 0).trans rfl; have hcz142_1 : w135.cell? ⟨gb861, 1, none⟩ = some (.slice Ao132 t858.length co132) := (E BK861.out 1).trans rfl; have hfz142_0 := GT BK861.out 0; have hfz142_1 := GT BK861.out 1) | ((with_reducible refine gate_callee (f := 22) rfl ?_); refine goesL_ (some 31) rfl rfl Try.func22 (by kernel_rfl) rfl #[.agg #[.slice Ao128 t855.length co128, .slice Ao132 t858.length co132], .agg #[.slice Ao136 t862.length co136, .slice Ao141 t865.length co141]] rfl (by (try simp only [List.map_toArray, List.map_cons, List.map_nil]); first | done | rfl | (simp only [List.length_drop, List.length_take]; rfl)) ?_; (with_reducible refine (impl_SameFrame.calls k _ _ t855 _ _ t858 _ _ t862 _ _ t865 t869 _ ?side1 ?side2 ?side3 ?side4 ?side5 ?side6 ?side7 ?side8 A24.out).mono ?_); (case side1 => refine (Kd.R_reads' (e := 82) (base := w.heap.size) (ok := fun k_ => (((True ∧ some k_ ≠ (.slice Ao120 t842.length co120 : Value).ownBlock) ∧ some k_ ≠ (.slice Ao122 t848.length co122 : Value).ownBlock) ∧ some k_ ≠ (.slice Ao136 t862.length co136 : Value).ownBlock)) (n := t855.length) (c := co128) ?_).2.2; exact (by (with_reducible repeat (first | apply J | apply L | apply M)); exact (P (D (p := ⟨gb868, 1, none⟩) (D (p := ⟨gb868, 0, none⟩) (I HO857.out BK868.out (by decide)) (fun _ hk => hk.2) (.slice Ao136 t862.length co136)) (fun _ hk => hk.2) (.slice Ao141 t865.length co141)) (fun _ h_ => h_.1)))); (case side2 => exact (Kd.R_reads' HO857.out).2.1); (case side3 => refine (Kd.R_reads' (e := 84) (base := w.heap.size) (ok := fun k_ => (((True ∧ some k_ ≠ (.slice Ao121 t845.length co121 : Value).ownBlock) ∧ some k_ ≠ (.slice Ao123 t851.length co123 : Value).ownBlock) ∧ some k_ ≠ (.slice Ao141 t865.length co141 : Value).ownBlock)) (n := t858.length) (c := co132) ?_).2.2; exact (by (with_reducible repeat (first | apply J | apply L | apply M)); exact (P (D (p := ⟨gb868, 1, none⟩) (D (p := ⟨gb868, 0, none⟩) (I HO860.out BK868.out (by decide)) (fun _ hk => hk.2) (.slice Ao136 t862.length co136)) (fun _ hk => hk.2) (.slice Ao141 t865.length co141)) (fun _ h_ => h_.1)))); (case side4 => exact (Kd.R_reads' HO860.out).2.1); (case side5 => refine (Kd.R_reads' (e := 82) (base := w.heap.size) (ok := fun k_ => (((True ∧ some k_ ≠ (.slice Ao120 t842.length co120 : Value).ownBlock) ∧ some k_ ≠ (.slice Ao122 t848.length co122 : Value).ownBlock) ∧ some k_ ≠ (.slice Ao128 t855.length co128 : Value).ownBlock)) (n := t862.length) (c := co136) ?_).2.2; exact (by (with_reducible repeat (first | apply J | apply L | apply M)); exact (P (D (p := ⟨gb868, 1, none⟩) (D (p := ⟨gb868, 0, none⟩) (I HO864.out BK868.out (by decide)) (fun _ hk => hk.2) (.slice Ao136 t862.length co136)) (fun _ hk => hk.2) (.slice Ao141 t865.length co141)) (fun _ h_ => h_.1)))); (case side6 => exact (Kd.R_reads' HO864.out).2.1); (case side7 => refine (Kd.R_reads' (e := 84) (base := w.heap.size) (ok := fun k_ => (((True ∧ some k_ ≠ (.slice Ao121 t845.length co121 : Value).ownBlock) ∧ some k_ ≠ (.slice Ao123 t851.length co123 : Value).ownBlock) ∧ some k_ ≠ (.slice Ao132 t858.length co132 : Value).ownBlock)) (n := t865.length) (c := co141) ?_).2.2; exact (by (with_reducible repeat (first | apply J | apply L | apply M)); exact (P (D (p := ⟨gb868, 1, none⟩) (D (p := ⟨gb868, 0, none⟩) (I HO867.out BK868.out (by decide)) (fun _ hk => hk.2) (.slice Ao136 t862.length co136)) (fun _ hk => hk.2) (.slice Ao141 t865.length co141)) (fun _ h_ => h_.1)))); (case side8 => exact (Kd.R_reads' HO867.out).2.1); rintro e w143 ⟨rfl, hb⟩; refine ⟨_, rfl, ?_⟩; have n0_ := G (B (by (with_reducible repeat (first | apply J | apply L | apply M)); exact (P (D (p := ⟨gb868, 1, none⟩) (D (p := ⟨gb868, 0, none⟩) (I HO844.out BK868.out (by decide)) (fun _ hk => hk.2) (.slice Ao136 t862.length co136)) (fun _ hk => hk.2) (.slice Ao141 t865.length co141)) (fun _ h_ => h_.1))) hb); have n1_ := G (B (by (with_reducible repeat (first | apply J | apply L | apply M)); exact (P (D (p := ⟨gb868, 1, none⟩) (D (p := ⟨gb868, 0, none⟩) (I HO847.out BK868.out (by decide)) (fun _ hk => hk.2) (.slice Ao136 t862.length co136)) (fun _ hk => hk.2) (.slice Ao141 t865.length co141)) (fun _ h_ => h_.1))) hb); have n2_ := G (B (by (with_reducible repeat (first | apply J | apply L | apply M)); exact (P (D (p := ⟨gb868, 1, none⟩) (D (p := ⟨gb868, 0, none⟩) (I HO850.out BK868.out (by decide)) (fun _ hk => hk.2) (.slice Ao136 t862.length co136)) (fun _ hk => hk.2) (.slice Ao141 t865.length co141)) (fun _ h_ => h_.1))) hb); have n3_ := G (B (by (with_reducible repeat (first | apply J | apply L | apply M)); exact (P (D (p := ⟨gb868, 1, none⟩) (D (p := ⟨gb868, 0, none⟩) (I HO853.out BK868.out (by decide)) (fun _ hk => hk.2) (.slice Ao136 t862.length co136)) (fun _ hk => hk.2) (.slice Ao141 t865.length co141)) (fun _ h_ => h_.1))) hb); have n4_ := G (B (by (with_reducible repeat (first | apply J | apply L | apply M)); exact (P (D (p := ⟨gb868, 1, none⟩) (D (p := ⟨gb868, 0, none⟩) (I HO857.out BK868.out (by decide)) (fun _ hk => hk.2) (.slice Ao136 t862.length co136)) (fun _ hk => hk.2) (.slice Ao141 t865.length co141)) (fun _ h_ => h_.1))) hb); have n5_ := G (B (by (with_reducible repeat (first | apply J | apply L | apply M)); exact (P (D (p := ⟨gb868, 1, none⟩) (D (p := ⟨gb868, 0, none⟩) (I HO860.out BK868.out (by decide)) (fun _ hk => hk.2) (.slice Ao136 t862.length co136)) (fun _ hk => hk.2) (.slice Ao141 t865.length co141)) (fun _ h_ => h_.1))) hb); have n6_ := G (B (by (with_reducible repeat (first | apply J | apply L | apply M)); exact (P (D (p := ⟨gb868, 1, none⟩) (D (p := ⟨gb868, 0, none⟩) (I HO864.out BK868.out (by decide)) (fun _ hk => hk.2) (.slice Ao136 t862.length co136)) (fun _ hk => hk.2) (.slice Ao141 t865.length co141)) (fun _ h_ => h_.1))) hb); have n7_ := G (B (by (with_reducible repeat (first | apply J | apply L | apply M)); exact (P (D (p := ⟨gb868, 1, none⟩) (D (p := ⟨gb868, 0, none⟩) (I HO867.out BK868.out (by decide)) (fun _ hk => hk.2) (.slice Ao136 t862.length co136)) (fun _ hk => hk.2) (.slice Ao141 t865.length co141)) (fun _ h_ => h_.1))) hb); have n8_ := G (F (g := gb838) (o := .cells #[.slice A0_0 l0_0.length c0_0, .slice A0_1 l0_1.length c0_1] 33 (0, 0)) (by (with_reducible repeat (first | refine U ?_ _ | refine X ?_ | refine V ?_ _)); refine blk_far ?_ NB838_868.out _; (with_reducible repeat (first | refine U ?_ _ | refine X ?_ | refine V ?_ _)); refine blk_far ?_ NB838_868.out _; (with_reducible repeat (first | refine U ?_ _ | refine X ?_ | refine V ?_ _)); exact BK838.out) hb); have n9_ := G (F (g := gb839) (o := .cells #[.slice A1_0 l1_0.length c1_0, .slice A1_1 l1_1.length c1_1] 33 (0, 0)) (by (with_reducible repeat (first | refine U ?_ _ | refine X ?_ | refine V ?_ _)); refine blk_far ?_ NB839_868.out _; (with_reducible repeat (first | refine U ?_ _ | refine X ?_ | refine V ?_ _)); refine blk_far ?_ NB839_868.out _; (with_reducible repeat (first | refine U ?_ _ | refine X ?_ | refine V ?_ _)); exact BK839.out) hb); have n10_ := G (F (g := gb861) (o := .cells #[.slice Ao128 t855.length co128, .slice Ao132 t858.length co132] 39 (0, 0)) (by (with_reducible repeat (first | refine U ?_ _ | refine X ?_ | refine V ?_ _)); refine blk_far ?_ NB861_868.out _; (with_reducible repeat (first | refine U ?_ _ | refine X ?_ | refine V ?_ _)); refine blk_far ?_ NB861_868.out _; (with_reducible repeat (first | refine U ?_ _ | refine X ?_ | refine V ?_ _)); exact BK861.out) hb); have n11_ := G (F (g := gb868) (o := .cells #[.slice Ao136 t862.length co136, .slice Ao141 t865.length co141] 39 (0, 0)) (by (with_reducible repeat (first | refine U ?_ _ | refine X ?_ | refine V ?_ _)); refine blk_put (cs := #[.slice Ao136 t862.length co136, .slice none 0 0]) ?_ 1 _ rfl; (with_reducible repeat (first | refine U ?_ _ | refine X ?_ | refine V ?_ _)); refine blk_put (cs := #[.slice none 0 0, .slice none 0 0]) ?_ 0 _ rfl; (with_reducible repeat (first | refine U ?_ _ | refine X ?_ | refine V ?_ _)); exact BK868.out) hb); have n12_ := G (GN (by repeat (first | (with_reducible first | exact HB.out | apply Z | apply T | apply Y | refine O ?_ GE838.out | refine O ?_ GE839.out | refine O ?_ GE861.out | refine O ?_ GE868.out) | exact HB.out)) hb); clear HO844; clear HO847; clear HO850; clear HO853; clear HO857; clear HO860; clear HO864; clear HO867; clear BK838; clear BK839; clear BK861; clear BK868; clear HB; have HO844 := n0_; have HO847 := n1_; have HO850 := n2_; have HO853 := n3_; have HO857 := n4_; have HO860 := n5_; have HO864 := n6_; have HO867 := n7_; have BK838 := n8_; have BK839 := n9_; have BK861 := n10_; have BK868 := n11_; have HB := n12_; clear n0_ n1_ n2_ n3_ n4_ n5_ n6_ n7_ n8_ n9_ n10_ n11_ n12_; (try clear hb); (try clear hb2); (try clear hk); (try clear hi)))
      have n0_ := G (M HO844.out)
      have n1_ := G (M HO847.out)
      have n2_ := G (M HO850.out)
      have n3_ := G (M HO853.out)
      have n4_ := G (M HO857.out)
      have n5_ := G (M HO860.out)
      have n6_ := G (M HO864.out)
      have n7_ := G (M HO867.out)
      have n8_ := G (X BK838.out)
      have n9_ := G (X BK839.out)
      have n10_ := G (X BK861.out)
      have n11_ := G (X BK868.out)
      have n12_ := G (Y HB.out)
      clear HO844
      clear HO847
      clear HO850
      clear HO853
      clear HO857
      clear HO860
      clear HO864
      clear HO867
      clear BK838
      clear BK839
      clear BK861
      clear BK868
      clear HB
      have HO844 := n0_
      have HO847 := n1_
      have HO850 := n2_
      have HO853 := n3_
      have HO857 := n4_
      have HO860 := n5_
      have HO864 := n6_
      have HO867 := n7_
      have BK838 := n8_
      have BK839 := n9_
      have BK861 := n10_
      have BK868 := n11_
      have HB := n12_
      clear n0_ n1_ n2_ n3_ n4_ n5_ n6_ n7_ n8_ n9_ n10_ n11_ n12_
      refine start_ (n := 5) (S := fun w' => w'.cell? ⟨gb861, 0, none⟩ = some (.slice Ao128 t855.length co128) ∧ w'.cell? ⟨gb861, 1, none⟩ = some (.slice Ao132 t858.length co132) ∧ w'.cell? ⟨gb838, 0, none⟩ = some (.slice A0_0 l0_0.length c0_0) ∧ w'.cell? ⟨gb838, 1, none⟩ = some (.slice A0_1 l0_1.length c0_1)) (ds := []) #[n', n', n', n', n'] (by kernel_rfl) rfl rfl ⟨(E BK861.out 0).trans rfl, (E BK861.out 1).trans rfl, (E BK838.out 0).trans rfl, (E BK838.out 1).trans rfl⟩ (fun hHeld => ?_)
      generalize w143.drew = w144 at HO844 HO847 HO850 HO853 HO857 HO860 HO864 HO867 BK838 BK839 BK861 BK868 HB hHeld ⊢
      refine take_ (i := 0) (N := some 35) (v := ?_) (a' := ?_) #[y', n', n', n', n'] rfl rfl (by kernel_rfl) (fun _ _ _ h => h) (Or.inl ⟨by rfl, ?_⟩) hHeld ?_ ?_
      rotate_left
      ·rintro w' ⟨s0, s1, s2, s3⟩
       go_simp
       with_reducible rfl
      rotate_left
      ·simp only [Act.put, z1', z2', z3', i64_w, i32_w]
       rfl
      refine take_ (i := 1) (N := some 36) (v := ?_) (a' := ?_) #[y', y', n', n', n'] rfl rfl (by kernel_rfl) (fun _ _ _ h => h) (Or.inl ⟨by rfl, ?_⟩) hHeld ?_ ?_
      rotate_left
      ·rintro w' ⟨s0, s1, s2, s3⟩
       go_simp
       with_reducible rfl
      rotate_left
      ·simp only [Act.put, z1', z2', z3', i64_w, i32_w]
       rfl
      refine one_ (i := 2) (N := some 37) #[y', y', y', n', n'] rfl rfl (by kernel_rfl) (by decide) (fun K hK => ?_)
      refine goes_ Try.func21 (by kernel_rfl) rfl #[.agg #[.slice A0_0 l0_0.length c0_0, .slice A0_1 l0_1.length c0_1]] (by rfl) rfl rfl (by (try simp only [List.map_toArray, List.map_cons, List.map_nil]); first | done | rfl | (simp only [List.length_drop, List.length_take]; rfl)) ?_
      with_reducible refine (laws_toFrame.calls k _ _ l0_0 _ _ l0_1 t870 t873 _ ?side1 ?side2 ?side3 ?side4 A60.out).mono ?_
      (case side1 => repeat (first | exact (GO HR0_0.out HB.out) | (with_reducible refine R ?_ _) | (with_reducible refine GG ?_ _) | (with_reducible refine GJ ?_)))
      (case side2 => exact HC0_0.out)
      (case side3 => repeat (first | exact (GO HR0_1.out HB.out) | (with_reducible refine R ?_ _) | (with_reducible refine GG ?_ _) | (with_reducible refine GJ ?_)))
      (case side4 => exact HC0_1.out)
      rintro e w145 ⟨v871, v874, rfl, ho0, ho1, hb⟩
      refine ⟨_, rfl, ?_⟩
      have n0_ := G (Kd.R_elder' (by (with_reducible repeat (first | apply J | apply L | apply M)); exact HO844.out) (Kd.R_base ho0) hb)
      have n1_ := G (Kd.R_elder' (by (with_reducible repeat (first | apply J | apply L | apply M)); exact HO847.out) (Kd.R_base ho1) hb)
      have n2_ := G (Kd.R_elder' (by (with_reducible repeat (first | apply J | apply L | apply M)); exact HO850.out) (Kd.R_base ho0) hb)
      have n3_ := G (Kd.R_elder' (by (with_reducible repeat (first | apply J | apply L | apply M)); exact HO853.out) (Kd.R_base ho1) hb)
      have n4_ := G (Kd.R_elder' (by (with_reducible repeat (first | apply J | apply L | apply M)); exact HO857.out) (Kd.R_base ho0) hb)
      have n5_ := G (Kd.R_elder' (by (with_reducible repeat (first | apply J | apply L | apply M)); exact HO860.out) (Kd.R_base ho1) hb)
      have n6_ := G (Kd.R_elder' (by (with_reducible repeat (first | apply J | apply L | apply M)); exact HO864.out) (Kd.R_base ho0) hb)
      have n7_ := G (Kd.R_elder' (by (with_reducible repeat (first | apply J | apply L | apply M)); exact HO867.out) (Kd.R_base ho1) hb)
      have n8_ := G (Kd.R_lower (GL (GL (GL (GL ho0 (Kd.R_lt (by (with_reducible repeat (first | apply J | apply L | apply M)); exact HO844.out))) (Kd.R_lt (by (with_reducible repeat (first | apply J | apply L | apply M)); exact HO850.out))) (Kd.R_lt (by (with_reducible repeat (first | apply J | apply L | apply M)); exact HO857.out))) (Kd.R_lt (by (with_reducible repeat (first | apply J | apply L | apply M)); exact HO864.out))) (GM (by repeat (first | (with_reducible first | exact HB.out | apply Z | apply T | apply Y | refine O ?_ GE838.out | refine O ?_ GE839.out | refine O ?_ GE861.out | refine O ?_ GE868.out) | exact HB.out))))
      have n9_ := G (Kd.R_lower (GL (GL (GL (GL ho1 (Kd.R_lt (by (with_reducible repeat (first | apply J | apply L | apply M)); exact HO847.out))) (Kd.R_lt (by (with_reducible repeat (first | apply J | apply L | apply M)); exact HO853.out))) (Kd.R_lt (by (with_reducible repeat (first | apply J | apply L | apply M)); exact HO860.out))) (Kd.R_lt (by (with_reducible repeat (first | apply J | apply L | apply M)); exact HO867.out))) (GM (by repeat (first | (with_reducible first | exact HB.out | apply Z | apply T | apply Y | refine O ?_ GE838.out | refine O ?_ GE839.out | refine O ?_ GE861.out | refine O ?_ GE868.out) | exact HB.out))))
      have n10_ := G (F (g := gb838) (o := .cells #[.slice A0_0 l0_0.length c0_0, .slice A0_1 l0_1.length c0_1] 33 (0, 0)) (by (with_reducible repeat (first | refine U ?_ _ | refine X ?_ | refine V ?_ _)); exact BK838.out) hb)
      have n11_ := G (F (g := gb839) (o := .cells #[.slice A1_0 l1_0.length c1_0, .slice A1_1 l1_1.length c1_1] 33 (0, 0)) (by (with_reducible repeat (first | refine U ?_ _ | refine X ?_ | refine V ?_ _)); exact BK839.out) hb)
      have n12_ := G (F (g := gb861) (o := .cells #[.slice Ao128 t855.length co128, .slice Ao132 t858.length co132] 39 (0, 0)) (by (with_reducible repeat (first | refine U ?_ _ | refine X ?_ | refine V ?_ _)); exact BK861.out) hb)
      have n13_ := G (F (g := gb868) (o := .cells #[.slice Ao136 t862.length co136, .slice Ao141 t865.length co141] 39 (0, 0)) (by (with_reducible repeat (first | refine U ?_ _ | refine X ?_ | refine V ?_ _)); exact BK868.out) hb)
      have n14_ := G (GN (by repeat (first | (with_reducible first | exact HB.out | apply Z | apply T | apply Y | refine O ?_ GE838.out | refine O ?_ GE839.out | refine O ?_ GE861.out | refine O ?_ GE868.out) | exact HB.out)) hb)
      clear HO844
      clear HO847
      clear HO850
      clear HO853
      clear HO857
      clear HO860
      clear HO864
      clear HO867
      clear BK838
      clear BK839
      clear BK861
      clear BK868
      clear HB
      have HO844 := n0_
      have HO847 := n1_
      have HO850 := n2_
      have HO853 := n3_
      have HO857 := n4_
      have HO860 := n5_
      have HO864 := n6_
      have HO867 := n7_
      have HO872 := n8_
      have HO875 := n9_
      have BK838 := n10_
      have BK839 := n11_
      have BK861 := n12_
      have BK868 := n13_
      have HB := n14_
      clear n0_ n1_ n2_ n3_ n4_ n5_ n6_ n7_ n8_ n9_ n10_ n11_ n12_ n13_ n14_
      (try clear hb)
      (try clear hb2)
      (try clear hk)
      (try clear hi)
      (try clear ho0)
      (try clear ho1)
      obtain ⟨Ao146, co146, eo146⟩ := Kd.R_slice HO872.out
      (first | subst eo146 | (injection eo146 with f1_ f2_ f3_; have f4_ := f1_.symm; have f5_ := f3_.symm; clear f1_ f2_ f3_; subst f4_; subst f5_))
      obtain ⟨Ao147, co147, eo147⟩ := Kd.R_slice HO875.out
      (first | subst eo147 | (injection eo147 with f1_ f2_ f3_; have f4_ := f1_.symm; have f5_ := f3_.symm; clear f1_ f2_ f3_; subst f4_; subst f5_))
      refine hK.out _ _ ⟨(E BK861.out 0).trans rfl, (E BK861.out 1).trans rfl, (E BK838.out 0).trans rfl, (E BK838.out 1).trans rfl⟩ (fun hHeld => ?_)
      clear hK K
      refine norm_ (a' := ?_) ?_ ?_
      rotate_left
      ·show Act.put _ (some 37) _ = _
       simp only [Act.put, z1', z2', z3', i64_w, i32_w]
       rfl
      refine one_ (i := 3) (N := some 38) #[y', y', y', y', n'] rfl rfl (by kernel_rfl) (by decide) (fun K hK => ?_)
      refine goes_ Try.func23 (by kernel_rfl) rfl #[.agg #[.slice Ao128 t855.length co128, .slice Ao132 t858.length co132], .agg #[.slice Ao146 t870.length co146, .slice Ao147 t873.length co147]] (by rfl) rfl rfl (by (try simp only [List.map_toArray, List.map_cons, List.map_nil]); first | done | rfl | (simp only [List.length_drop, List.length_take]; rfl)) ?_
      with_reducible refine (laws_eqFrame.calls k _ _ t855 _ _ t858 _ _ t870 _ _ t873 true _ ?side1 ?side2 ?side3 ?side4 ?side5 ?side6 ?side7 ?side8 A61.out).mono ?_
      (case side1 => repeat (first | exact (Kd.R_reads' HO857.out).2.2 | (with_reducible refine R ?_ _) | (with_reducible refine GG ?_ _) | (with_reducible refine GJ ?_)))
      (case side2 => exact (Kd.R_reads' HO857.out).2.1)
      (case side3 => repeat (first | exact (Kd.R_reads' HO860.out).2.2 | (with_reducible refine R ?_ _) | (with_reducible refine GG ?_ _) | (with_reducible refine GJ ?_)))
      (case side4 => exact (Kd.R_reads' HO860.out).2.1)
      (case side5 => repeat (first | exact (Kd.R_reads' HO872.out).2.2 | (with_reducible refine R ?_ _) | (with_reducible refine GG ?_ _) | (with_reducible refine GJ ?_)))
      (case side6 => exact (Kd.R_reads' HO872.out).2.1)
      (case side7 => repeat (first | exact (Kd.R_reads' HO875.out).2.2 | (with_reducible refine R ?_ _) | (with_reducible refine GG ?_ _) | (with_reducible refine GJ ?_)))
      (case side8 => exact (Kd.R_reads' HO875.out).2.1)
      rintro e w148 ⟨rfl, hb⟩
      refine ⟨_, rfl, ?_⟩
      have n0_ := G (B (by (with_reducible repeat (first | apply J | apply L | apply M)); exact HO844.out) hb)
      have n1_ := G (B (by (with_reducible repeat (first | apply J | apply L | apply M)); exact HO847.out) hb)
      have n2_ := G (B (by (with_reducible repeat (first | apply J | apply L | apply M)); exact HO850.out) hb)
      have n3_ := G (B (by (with_reducible repeat (first | apply J | apply L | apply M)); exact HO853.out) hb)
      have n4_ := G (B (by (with_reducible repeat (first | apply J | apply L | apply M)); exact HO857.out) hb)
      have n5_ := G (B (by (with_reducible repeat (first | apply J | apply L | apply M)); exact HO860.out) hb)
      have n6_ := G (B (by (with_reducible repeat (first | apply J | apply L | apply M)); exact HO864.out) hb)
      have n7_ := G (B (by (with_reducible repeat (first | apply J | apply L | apply M)); exact HO867.out) hb)
      have n8_ := G (B (by (with_reducible repeat (first | apply J | apply L | apply M)); exact HO872.out) hb)
      have n9_ := G (B (by (with_reducible repeat (first | apply J | apply L | apply M)); exact HO875.out) hb)
      have n10_ := G (F (g := gb838) (o := .cells #[.slice A0_0 l0_0.length c0_0, .slice A0_1 l0_1.length c0_1] 33 (0, 0)) (by (with_reducible repeat (first | refine U ?_ _ | refine X ?_ | refine V ?_ _)); exact BK838.out) hb)
      have n11_ := G (F (g := gb839) (o := .cells #[.slice A1_0 l1_0.length c1_0, .slice A1_1 l1_1.length c1_1] 33 (0, 0)) (by (with_reducible repeat (first | refine U ?_ _ | refine X ?_ | refine V ?_ _)); exact BK839.out) hb)
      have n12_ := G (F (g := gb861) (o := .cells #[.slice Ao128 t855.length co128, .slice Ao132 t858.length co132] 39 (0, 0)) (by (with_reducible repeat (first | refine U ?_ _ | refine X ?_ | refine V ?_ _)); exact BK861.out) hb)
      have n13_ := G (F (g := gb868) (o := .cells #[.slice Ao136 t862.length co136, .slice Ao141 t865.length co141] 39 (0, 0)) (by (with_reducible repeat (first | refine U ?_ _ | refine X ?_ | refine V ?_ _)); exact BK868.out) hb)
      have n14_ := G (GN (by repeat (first | (with_reducible first | exact HB.out | apply Z | apply T | apply Y | refine O ?_ GE838.out | refine O ?_ GE839.out | refine O ?_ GE861.out | refine O ?_ GE868.out) | exact HB.out)) hb)
      clear HO844
      clear HO847
      clear HO850
      clear HO853
      clear HO857
      clear HO860
      clear HO864
      clear HO867
      clear HO872
      clear HO875
      clear BK838
      clear BK839
      clear BK861
      clear BK868
      clear HB
      have HO844 := n0_
      have HO847 := n1_
      have HO850 := n2_
      have HO853 := n3_
      have HO857 := n4_
      have HO860 := n5_
      have HO864 := n6_
      have HO867 := n7_
      have HO872 := n8_
      have HO875 := n9_
      have BK838 := n10_
      have BK839 := n11_
      have BK861 := n12_
      have BK868 := n13_
      have HB := n14_
      clear n0_ n1_ n2_ n3_ n4_ n5_ n6_ n7_ n8_ n9_ n10_ n11_ n12_ n13_ n14_
      (try clear hb)
      (try clear hb2)
      (try clear hk)
      (try clear hi)
      refine hK.out _ _ ⟨(E BK861.out 0).trans rfl, (E BK861.out 1).trans rfl, (E BK838.out 0).trans rfl, (E BK838.out 1).trans rfl⟩ (fun hHeld => ?_)
      clear hK K
      refine norm_ (a' := ?_) ?_ ?_
      rotate_left
      ·show Act.put _ (some 38) _ = _
       simp only [Act.put, z1', z2', z3', i64_w, i32_w]
       rfl
      refine pure_ (i := 4) (N := some 39) (v := ?_) (a' := ?_) #[y', y', y', y', y'] rfl rfl (by kernel_rfl) (fun _ _ _ h => h) (Or.inl ⟨by rfl, ?_⟩) ?_ ?_
      rotate_left
      ·intro w'
       go_simp
       with_reducible rfl
      rotate_left
      ·simp only [Act.put, z1', z2', z3', i64_w, i32_w]
       rfl
      refine done_ (by kernel_rfl) ?_
      try go_wp2
      have n0_ := G (M HO844.out)
      have n1_ := G (M HO847.out)
      have n2_ := G (M HO850.out)
      have n3_ := G (M HO853.out)
      have n4_ := G (M HO857.out)
      have n5_ := G (M HO860.out)
      have n6_ := G (M HO864.out)
      have n7_ := G (M HO867.out)
      have n8_ := G (M HO872.out)
      have n9_ := G (M HO875.out)
      have n10_ := G (X BK838.out)
      have n11_ := G (X BK839.out)
      have n12_ := G (X BK861.out)
      have n13_ := G (X BK868.out)
      have n14_ := G (Y HB.out)
      clear HO844
      clear HO847
      clear HO850
      clear HO853
      clear HO857
      clear HO860
      clear HO864
      clear HO867
      clear HO872
      clear HO875
      clear BK838
      clear BK839
      clear BK861
      clear BK868
      clear HB
      have HO844 := n0_
      have HO847 := n1_
      have HO850 := n2_
      have HO853 := n3_
      have HO857 := n4_
      have HO860 := n5_
      have HO864 := n6_
      have HO867 := n7_
      have HO872 := n8_
      have HO875 := n9_
      have BK838 := n10_
      have BK839 := n11_
      have BK861 := n12_
      have BK868 := n13_
      have HB := n14_
      clear n0_ n1_ n2_ n3_ n4_ n5_ n6_ n7_ n8_ n9_ n10_ n11_ n12_ n13_ n14_
      refine start_ (n := 5) (S := fun w' => w'.cell? ⟨gb868, 0, none⟩ = some (.slice Ao136 t862.length co136) ∧ w'.cell? ⟨gb868, 1, none⟩ = some (.slice Ao141 t865.length co141) ∧ w'.cell? ⟨gb839, 0, none⟩ = some (.slice A1_0 l1_0.length c1_0) ∧ w'.cell? ⟨gb839, 1, none⟩ = some (.slice A1_1 l1_1.length c1_1)) (ds := []) #[n', n', n', n', n'] (by kernel_rfl) rfl rfl ⟨(E BK868.out 0).trans rfl, (E BK868.out 1).trans rfl, (E BK839.out 0).trans rfl, (E BK839.out 1).trans rfl⟩ (fun hHeld => ?_)
      generalize w148.drew = w149 at HO844 HO847 HO850 HO853 HO857 HO860 HO864 HO867 HO872 HO875 BK838 BK839 BK861 BK868 HB hHeld ⊢
      refine take_ (i := 0) (N := some 40) (v := ?_) (a' := ?_) #[y', n', n', n', n'] rfl rfl (by kernel_rfl) (fun _ _ _ h => h) (Or.inl ⟨by rfl, ?_⟩) hHeld ?_ ?_
      rotate_left
      ·rintro w' ⟨s0, s1, s2, s3⟩
       go_simp
       with_reducible rfl
      rotate_left
      ·simp only [Act.put, z1', z2', z3', i64_w, i32_w]
       rfl
      refine take_ (i := 1) (N := some 41) (v := ?_) (a' := ?_) #[y', y', n', n', n'] rfl rfl (by kernel_rfl) (fun _ _ _ h => h) (Or.inl ⟨by rfl, ?_⟩) hHeld ?_ ?_
      rotate_left
      ·rintro w' ⟨s0, s1, s2, s3⟩
       go_simp
       with_reducible rfl
      rotate_left
      ·simp only [Act.put, z1', z2', z3', i64_w, i32_w]
       rfl
      refine one_ (i := 2) (N := some 42) #[y', y', y', n', n'] rfl rfl (by kernel_rfl) (by decide) (fun K hK => ?_)
      refine goes_ Try.func21 (by kernel_rfl) rfl #[.agg #[.slice A1_0 l1_0.length c1_0, .slice A1_1 l1_1.length c1_1]] (by rfl) rfl rfl (by (try simp only [List.map_toArray, List.map_cons, List.map_nil]); first | done | rfl | (simp only [List.length_drop, List.length_take]; rfl)) ?_
      with_reducible refine (laws_toFrame.calls k _ _ l1_0 _ _ l1_1 t877 t880 _ ?side1 ?side2 ?side3 ?side4 A63.out).mono ?_
      (case side1 => repeat (first | exact (GO HR1_0.out HB.out) | (with_reducible refine R ?_ _) | (with_reducible refine GG ?_ _) | (with_reducible refine GJ ?_)))
      (case side2 => exact HC1_0.out)
      (case side3 => repeat (first | exact (GO HR1_1.out HB.out) | (with_reducible refine R ?_ _) | (with_reducible refine GG ?_ _) | (with_reducible refine GJ ?_)))
      (case side4 => exact HC1_1.out)
      rintro e w150 ⟨v878, v881, rfl, ho0, ho1, hb⟩
      refine ⟨_, rfl, ?_⟩
      have n0_ := G (Kd.R_elder' (by (with_reducible repeat (first | apply J | apply L | apply M)); exact HO844.out) (Kd.R_base ho0) hb)
      have n1_ := G (Kd.R_elder' (by (with_reducible repeat (first | apply J | apply L | apply M)); exact HO847.out) (Kd.R_base ho1) hb)
      have n2_ := G (Kd.R_elder' (by (with_reducible repeat (first | apply J | apply L | apply M)); exact HO850.out) (Kd.R_base ho0) hb)
      have n3_ := G (Kd.R_elder' (by (with_reducible repeat (first | apply J | apply L | apply M)); exact HO853.out) (Kd.R_base ho1) hb)
      have n4_ := G (Kd.R_elder' (by (with_reducible repeat (first | apply J | apply L | apply M)); exact HO857.out) (Kd.R_base ho0) hb)
      have n5_ := G (Kd.R_elder' (by (with_reducible repeat (first | apply J | apply L | apply M)); exact HO860.out) (Kd.R_base ho1) hb)
      have n6_ := G (Kd.R_elder' (by (with_reducible repeat (first | apply J | apply L | apply M)); exact HO864.out) (Kd.R_base ho0) hb)
      have n7_ := G (Kd.R_elder' (by (with_reducible repeat (first | apply J | apply L | apply M)); exact HO867.out) (Kd.R_base ho1) hb)
      have n8_ := G (Kd.R_elder' (by (with_reducible repeat (first | apply J | apply L | apply M)); exact HO872.out) (Kd.R_base ho0) hb)
      have n9_ := G (Kd.R_elder' (by (with_reducible repeat (first | apply J | apply L | apply M)); exact HO875.out) (Kd.R_base ho1) hb)
      have n10_ := G (Kd.R_lower (GL (GL (GL (GL (GL ho0 (Kd.R_lt (by (with_reducible repeat (first | apply J | apply L | apply M)); exact HO844.out))) (Kd.R_lt (by (with_reducible repeat (first | apply J | apply L | apply M)); exact HO850.out))) (Kd.R_lt (by (with_reducible repeat (first | apply J | apply L | apply M)); exact HO857.out))) (Kd.R_lt (by (with_reducible repeat (first | apply J | apply L | apply M)); exact HO864.out))) (Kd.R_lt (by (with_reducible repeat (first | apply J | apply L | apply M)); exact HO872.out))) (GM (by repeat (first | (with_reducible first | exact HB.out | apply Z | apply T | apply Y | refine O ?_ GE838.out | refine O ?_ GE839.out | refine O ?_ GE861.out | refine O ?_ GE868.out) | exact HB.out))))
      have n11_ := G (Kd.R_lower (GL (GL (GL (GL (GL ho1 (Kd.R_lt (by (with_reducible repeat (first | apply J | apply L | apply M)); exact HO847.out))) (Kd.R_lt (by (with_reducible repeat (first | apply J | apply L | apply M)); exact HO853.out))) (Kd.R_lt (by (with_reducible repeat (first | apply J | apply L | apply M)); exact HO860.out))) (Kd.R_lt (by (with_reducible repeat (first | apply J | apply L | apply M)); exact HO867.out))) (Kd.R_lt (by (with_reducible repeat (first | apply J | apply L | apply M)); exact HO875.out))) (GM (by repeat (first | (with_reducible first | exact HB.out | apply Z | apply T | apply Y | refine O ?_ GE838.out | refine O ?_ GE839.out | refine O ?_ GE861.out | refine O ?_ GE868.out) | exact HB.out))))
      have n12_ := G (F (g := gb838) (o := .cells #[.slice A0_0 l0_0.length c0_0, .slice A0_1 l0_1.length c0_1] 33 (0, 0)) (by (with_reducible repeat (first | refine U ?_ _ | refine X ?_ | refine V ?_ _)); exact BK838.out) hb)
      have n13_ := G (F (g := gb839) (o := .cells #[.slice A1_0 l1_0.length c1_0, .slice A1_1 l1_1.length c1_1] 33 (0, 0)) (by (with_reducible repeat (first | refine U ?_ _ | refine X ?_ | refine V ?_ _)); exact BK839.out) hb)
      have n14_ := G (F (g := gb861) (o := .cells #[.slice Ao128 t855.length co128, .slice Ao132 t858.length co132] 39 (0, 0)) (by (with_reducible repeat (first | refine U ?_ _ | refine X ?_ | refine V ?_ _)); exact BK861.out) hb)
      have n15_ := G (F (g := gb868) (o := .cells #[.slice Ao136 t862.length co136, .slice Ao141 t865.length co141] 39 (0, 0)) (by (with_reducible repeat (first | refine U ?_ _ | refine X ?_ | refine V ?_ _)); exact BK868.out) hb)
      have n16_ := G (GN (by repeat (first | (with_reducible first | exact HB.out | apply Z | apply T | apply Y | refine O ?_ GE838.out | refine O ?_ GE839.out | refine O ?_ GE861.out | refine O ?_ GE868.out) | exact HB.out)) hb)
      clear HO844
      clear HO847
      clear HO850
      clear HO853
      clear HO857
      clear HO860
      clear HO864
      clear HO867
      clear HO872
      clear HO875
      clear BK838
      clear BK839
      clear BK861
      clear BK868
      clear HB
      have HO844 := n0_
      have HO847 := n1_
      have HO850 := n2_
      have HO853 := n3_
      have HO857 := n4_
      have HO860 := n5_
      have HO864 := n6_
      have HO867 := n7_
      have HO872 := n8_
      have HO875 := n9_
      have HO879 := n10_
      have HO882 := n11_
      have BK838 := n12_
      have BK839 := n13_
      have BK861 := n14_
      have BK868 := n15_
      have HB := n16_
      clear n0_ n1_ n2_ n3_ n4_ n5_ n6_ n7_ n8_ n9_ n10_ n11_ n12_ n13_ n14_ n15_ n16_
      (try clear hb)
      (try clear hb2)
      (try clear hk)
      (try clear hi)
      (try clear ho0)
      (try clear ho1)
      obtain ⟨Ao151, co151, eo151⟩ := Kd.R_slice HO879.out
      (first | subst eo151 | (injection eo151 with f1_ f2_ f3_; have f4_ := f1_.symm; have f5_ := f3_.symm; clear f1_ f2_ f3_; subst f4_; subst f5_))
      obtain ⟨Ao152, co152, eo152⟩ := Kd.R_slice HO882.out
      (first | subst eo152 | (injection eo152 with f1_ f2_ f3_; have f4_ := f1_.symm; have f5_ := f3_.symm; clear f1_ f2_ f3_; subst f4_; subst f5_))
      refine hK.out _ _ ⟨(E BK868.out 0).trans rfl, (E BK868.out 1).trans rfl, (E BK839.out 0).trans rfl, (E BK839.out 1).trans rfl⟩ (fun hHeld => ?_)
      clear hK K
      refine norm_ (a' := ?_) ?_ ?_
      rotate_left
      ·show Act.put _ (some 42) _ = _
       simp only [Act.put, z1', z2', z3', i64_w, i32_w]
       rfl
      refine one_ (i := 3) (N := some 43) #[y', y', y', y', n'] rfl rfl (by kernel_rfl) (by decide) (fun K hK => ?_)
      refine goes_ Try.func23 (by kernel_rfl) rfl #[.agg #[.slice Ao136 t862.length co136, .slice Ao141 t865.length co141], .agg #[.slice Ao151 t877.length co151, .slice Ao152 t880.length co152]] (by rfl) rfl rfl (by (try simp only [List.map_toArray, List.map_cons, List.map_nil]); first | done | rfl | (simp only [List.length_drop, List.length_take]; rfl)) ?_
      with_reducible refine (laws_eqFrame.calls k _ _ t862 _ _ t865 _ _ t877 _ _ t880 false _ ?side1 ?side2 ?side3 ?side4 ?side5 ?side6 ?side7 ?side8 A64.out).mono ?_
      (case side1 => repeat (first | exact (Kd.R_reads' HO864.out).2.2 | (with_reducible refine R ?_ _) | (with_reducible refine GG ?_ _) | (with_reducible refine GJ ?_)))
      (case side2 => exact (Kd.R_reads' HO864.out).2.1)
      (case side3 => repeat (first | exact (Kd.R_reads' HO867.out).2.2 | (with_reducible refine R ?_ _) | (with_reducible refine GG ?_ _) | (with_reducible refine GJ ?_)))
      (case side4 => exact (Kd.R_reads' HO867.out).2.1)
      (case side5 => repeat (first | exact (Kd.R_reads' HO879.out).2.2 | (with_reducible refine R ?_ _) | (with_reducible refine GG ?_ _) | (with_reducible refine GJ ?_)))
      (case side6 => exact (Kd.R_reads' HO879.out).2.1)
      (case side7 => repeat (first | exact (Kd.R_reads' HO882.out).2.2 | (with_reducible refine R ?_ _) | (with_reducible refine GG ?_ _) | (with_reducible refine GJ ?_)))
      (case side8 => exact (Kd.R_reads' HO882.out).2.1)
      rintro e w153 ⟨rfl, hb⟩
      refine ⟨_, rfl, ?_⟩
      have n0_ := G (B (by (with_reducible repeat (first | apply J | apply L | apply M)); exact HO844.out) hb)
      have n1_ := G (B (by (with_reducible repeat (first | apply J | apply L | apply M)); exact HO847.out) hb)
      have n2_ := G (B (by (with_reducible repeat (first | apply J | apply L | apply M)); exact HO850.out) hb)
      have n3_ := G (B (by (with_reducible repeat (first | apply J | apply L | apply M)); exact HO853.out) hb)
      have n4_ := G (B (by (with_reducible repeat (first | apply J | apply L | apply M)); exact HO857.out) hb)
      have n5_ := G (B (by (with_reducible repeat (first | apply J | apply L | apply M)); exact HO860.out) hb)
      have n6_ := G (B (by (with_reducible repeat (first | apply J | apply L | apply M)); exact HO864.out) hb)
      have n7_ := G (B (by (with_reducible repeat (first | apply J | apply L | apply M)); exact HO867.out) hb)
      have n8_ := G (B (by (with_reducible repeat (first | apply J | apply L | apply M)); exact HO872.out) hb)
      have n9_ := G (B (by (with_reducible repeat (first | apply J | apply L | apply M)); exact HO875.out) hb)
      have n10_ := G (B (by (with_reducible repeat (first | apply J | apply L | apply M)); exact HO879.out) hb)
      have n11_ := G (B (by (with_reducible repeat (first | apply J | apply L | apply M)); exact HO882.out) hb)
      have n12_ := G (F (g := gb838) (o := .cells #[.slice A0_0 l0_0.length c0_0, .slice A0_1 l0_1.length c0_1] 33 (0, 0)) (by (with_reducible repeat (first | refine U ?_ _ | refine X ?_ | refine V ?_ _)); exact BK838.out) hb)
      have n13_ := G (F (g := gb839) (o := .cells #[.slice A1_0 l1_0.length c1_0, .slice A1_1 l1_1.length c1_1] 33 (0, 0)) (by (with_reducible repeat (first | refine U ?_ _ | refine X ?_ | refine V ?_ _)); exact BK839.out) hb)
      have n14_ := G (F (g := gb861) (o := .cells #[.slice Ao128 t855.length co128, .slice Ao132 t858.length co132] 39 (0, 0)) (by (with_reducible repeat (first | refine U ?_ _ | refine X ?_ | refine V ?_ _)); exact BK861.out) hb)
      have n15_ := G (F (g := gb868) (o := .cells #[.slice Ao136 t862.length co136, .slice Ao141 t865.length co141] 39 (0, 0)) (by (with_reducible repeat (first | refine U ?_ _ | refine X ?_ | refine V ?_ _)); exact BK868.out) hb)
      have n16_ := G (GN (by repeat (first | (with_reducible first | exact HB.out | apply Z | apply T | apply Y | refine O ?_ GE838.out | refine O ?_ GE839.out | refine O ?_ GE861.out | refine O ?_ GE868.out) | exact HB.out)) hb)
      clear HO844
      clear HO847
      clear HO850
      clear HO853
      clear HO857
      clear HO860
      clear HO864
      clear HO867
      clear HO872
      clear HO875
      clear HO879
      clear HO882
      clear BK838
      clear BK839
      clear BK861
      clear BK868
      clear HB
      have HO844 := n0_
      have HO847 := n1_
      have HO850 := n2_
      have HO853 := n3_
      have HO857 := n4_
      have HO860 := n5_
      have HO864 := n6_
      have HO867 := n7_
      have HO872 := n8_
      have HO875 := n9_
      have HO879 := n10_
      have HO882 := n11_
      have BK838 := n12_
      have BK839 := n13_
      have BK861 := n14_
      have BK868 := n15_
      have HB := n16_
      clear n0_ n1_ n2_ n3_ n4_ n5_ n6_ n7_ n8_ n9_ n10_ n11_ n12_ n13_ n14_ n15_ n16_
      (try clear hb)
      (try clear hb2)
      (try clear hk)
      (try clear hi)
      refine hK.out _ _ ⟨(E BK868.out 0).trans rfl, (E BK868.out 1).trans rfl, (E BK839.out 0).trans rfl, (E BK839.out 1).trans rfl⟩ (fun hHeld => ?_)
      clear hK K
      refine norm_ (a' := ?_) ?_ ?_
      rotate_left
      ·show Act.put _ (some 43) _ = _
       simp only [Act.put, z1', z2', z3', i64_w, i32_w]
       rfl
      refine pure_ (i := 4) (N := some 44) (v := ?_) (a' := ?_) #[y', y', y', y', y'] rfl rfl (by kernel_rfl) (fun _ _ _ h => h) (Or.inl ⟨by rfl, ?_⟩) ?_ ?_
      rotate_left
      ·intro w'
       go_simp
       with_reducible rfl
      rotate_left
      ·simp only [Act.put, z1', z2', z3', i64_w, i32_w]
       rfl
      refine done_ (by kernel_rfl) ?_
      try go_wp2
      go_ret
      exact ⟨by first | rfl | (simp [errW_none, errW_some] <;> rfl) | (simp [*, errW_none, errW_some] <;> rfl), by repeat (first | (with_reducible first | exact HB.out | apply Z | apply T | apply Y | refine O ?_ GE838.out | refine O ?_ GE839.out | refine O ?_ GE861.out | refine O ?_ GE868.out) | exact HB.out)⟩
    ·replace c62 := Bool.eq_false_iff.mpr c62
     subst c62
     have H1 : (some false) = some r := by rw [if_neg (show ¬ (false = true) by decide)] at H; exact H
     clear H
     have H := H1
     clear H1
     obtain rfl := Option.some.inj H
     go_enter Try.func4, Try.ntmps4
     try go_wp2_with (first | ((with_reducible refine gate_dst (N := 2) rfl ?_); refine box_event ?hg (N := 2) ?hd (cs := #[.slice A0_0 l0_0.length c0_0, .slice A0_1 l0_1.length c0_1]) (t := 33) ?hr ?_; (case hd => rfl); (case hg => rfl); (case hr => first | (go_simp; done) | (go_simp; rfl)); intro gb838 hg w154 hbox hb; have n0_ := G (GN (by repeat (first | (with_reducible first | exact HB.out | apply Z | apply T | apply Y) | exact HB.out)) hb); have n1_ := G (hbox); have n2_ := G ((by rw [hg]; exact (GM (by repeat (first | (with_reducible first | exact HB.out | apply Z | apply T | apply Y) | exact HB.out))) : w.heap.size ≤ gb838)); have n3_ := G ((by rw [hg]; exact (GM (by repeat (first | (with_reducible first | exact HB.out | apply Z | apply T | apply Y) | exact HB.out))) : w.heap.size ≤ gb838)); clear HB; have HB := n0_; have BK838 := n1_; have GW838 := n2_; have GE838 := n3_; clear n0_ n1_ n2_ n3_; clear hb hbox hg) | ((with_reducible refine gate_dst (N := 3) rfl ?_); refine box_event ?hg (N := 3) ?hd (cs := #[.slice A1_0 l1_0.length c1_0, .slice A1_1 l1_1.length c1_1]) (t := 33) ?hr ?_; (case hd => rfl); (case hg => rfl); (case hr => first | (go_simp; done) | (go_simp; rfl)); intro gb839 hg w155 hbox hb; have n0_ := G (F (g := gb838) (o := .cells #[.slice A0_0 l0_0.length c0_0, .slice A0_1 l0_1.length c0_1] 33 (0, 0)) (by (with_reducible repeat (first | refine U ?_ _ | refine X ?_ | refine V ?_ _)); exact BK838.out) hb); have n1_ := G (GN (by repeat (first | (with_reducible first | exact HB.out | apply Z | apply T | apply Y | refine O ?_ GE838.out) | exact HB.out)) hb); have n2_ := G (hbox); have n3_ := G ((by rw [hg]; exact (GM (by repeat (first | (with_reducible first | exact HB.out | apply Z | apply T | apply Y | refine O ?_ GE838.out) | exact HB.out))) : w.heap.size ≤ gb839)); have n4_ := G ((by rw [hg]; exact (GM (by repeat (first | (with_reducible first | exact HB.out | apply Z | apply T | apply Y | refine O ?_ GE838.out) | exact HB.out))) : w.heap.size ≤ gb839)); have n5_ := G ((by rw [hg]; exact Nat.ne_of_lt (blk_lt (g := gb838) (o := .cells #[.slice A0_0 l0_0.length c0_0, .slice A0_1 l0_1.length c0_1] 33 (0, 0)) (by (with_reducible repeat (first | refine U ?_ _ | refine X ?_ | refine V ?_ _)); exact BK838.out)) : gb838 ≠ gb839)); have n6_ := G ((by rw [hg]; exact Nat.ne_of_gt (blk_lt (g := gb838) (o := .cells #[.slice A0_0 l0_0.length c0_0, .slice A0_1 l0_1.length c0_1] 33 (0, 0)) (by (with_reducible repeat (first | refine U ?_ _ | refine X ?_ | refine V ?_ _)); exact BK838.out)) : gb839 ≠ gb838)); clear BK838; clear HB; have BK838 := n0_; have HB := n1_; have BK839 := n2_; have GW839 := n3_; have GE839 := n4_; have NB838_839 := n5_; have NB839_838 := n6_; clear n0_ n1_ n2_ n3_ n4_ n5_ n6_; clear hb hbox hg; have hnb156 := NB838_839.out; have hnc156 := NB839_838.out; have hcz157_0 : w155.cell? ⟨gb838, 0, none⟩ = some (.slice A0_0 l0_0.length c0_0) := (E BK838.out 0).trans rfl; have hcz157_1 : w155.cell? ⟨gb838, 1, none⟩ = some (.slice A0_1 l0_1.length c0_1) := (E BK838.out 1).trans rfl; have hfz157_0 := GT BK838.out 0; have hfz157_1 := GT BK838.out 1) | ((with_reducible refine gate_callee (f := 19) rfl ?_); refine goesL_ (some 12) rfl rfl Try.func19 (by kernel_rfl) rfl #[.agg #[.slice A0_0 l0_0.length c0_0, .slice A0_1 l0_1.length c0_1], .int .i64 1048576] rfl (by (try simp only [List.map_toArray, List.map_cons, List.map_nil]); first | done | rfl | (simp only [List.length_drop, List.length_take]; rfl)) ?_; (with_reducible refine (laws_szFrame.calls _ _ l0_0 _ _ l0_1 1048576 t840 _ ?side1 ?side2 ?side3 ?side4 A3.out).mono ?_); (case side1 => repeat (first | exact (GO HR0_0.out HB.out) | (with_reducible refine R ?_ _) | (with_reducible refine GG ?_ _) | (with_reducible refine GJ ?_))); (case side2 => exact HC0_0.out); (case side3 => repeat (first | exact (GO HR0_1.out HB.out) | (with_reducible refine R ?_ _) | (with_reducible refine GG ?_ _) | (with_reducible refine GJ ?_))); (case side4 => exact HC0_1.out); rintro e w158 ⟨rfl, hb⟩; refine ⟨_, rfl, ?_⟩; have n0_ := G (F (g := gb838) (o := .cells #[.slice A0_0 l0_0.length c0_0, .slice A0_1 l0_1.length c0_1] 33 (0, 0)) (by (with_reducible repeat (first | refine U ?_ _ | refine X ?_ | refine V ?_ _)); exact BK838.out) hb); have n1_ := G (F (g := gb839) (o := .cells #[.slice A1_0 l1_0.length c1_0, .slice A1_1 l1_1.length c1_1] 33 (0, 0)) (by (with_reducible repeat (first | refine U ?_ _ | refine X ?_ | refine V ?_ _)); exact BK839.out) hb); have n2_ := G (GN (by repeat (first | (with_reducible first | exact HB.out | apply Z | apply T | apply Y | refine O ?_ GE838.out | refine O ?_ GE839.out) | exact HB.out)) hb); clear BK838; clear BK839; clear HB; have BK838 := n0_; have BK839 := n1_; have HB := n2_; clear n0_ n1_ n2_; (try clear hb); (try clear hb2); (try clear hk); (try clear hi); have hcz159_0 : w158.cell? ⟨gb839, 0, none⟩ = some (.slice A1_0 l1_0.length c1_0) := (E BK839.out 0).trans rfl; have hcz159_1 : w158.cell? ⟨gb839, 1, none⟩ = some (.slice A1_1 l1_1.length c1_1) := (E BK839.out 1).trans rfl; have hfz159_0 := GT BK839.out 0; have hfz159_1 := GT BK839.out 1) | ((with_reducible refine gate_callee (f := 19) rfl ?_); refine goesL_ (some 17) rfl rfl Try.func19 (by kernel_rfl) rfl #[.agg #[.slice A1_0 l1_0.length c1_0, .slice A1_1 l1_1.length c1_1], .int .i64 t840] rfl (by (try simp only [List.map_toArray, List.map_cons, List.map_nil]); first | done | rfl | (simp only [List.length_drop, List.length_take]; rfl)) ?_; (with_reducible refine (laws_szFrame.calls _ _ l1_0 _ _ l1_1 t840 t841 _ ?side1 ?side2 ?side3 ?side4 A10.out).mono ?_); (case side1 => repeat (first | exact (GO HR1_0.out HB.out) | (with_reducible refine R ?_ _) | (with_reducible refine GG ?_ _) | (with_reducible refine GJ ?_))); (case side2 => exact HC1_0.out); (case side3 => repeat (first | exact (GO HR1_1.out HB.out) | (with_reducible refine R ?_ _) | (with_reducible refine GG ?_ _) | (with_reducible refine GJ ?_))); (case side4 => exact HC1_1.out); rintro e w160 ⟨rfl, hb⟩; refine ⟨_, rfl, ?_⟩; have n0_ := G (F (g := gb838) (o := .cells #[.slice A0_0 l0_0.length c0_0, .slice A0_1 l0_1.length c0_1] 33 (0, 0)) (by (with_reducible repeat (first | refine U ?_ _ | refine X ?_ | refine V ?_ _)); exact BK838.out) hb); have n1_ := G (F (g := gb839) (o := .cells #[.slice A1_0 l1_0.length c1_0, .slice A1_1 l1_1.length c1_1] 33 (0, 0)) (by (with_reducible repeat (first | refine U ?_ _ | refine X ?_ | refine V ?_ _)); exact BK839.out) hb); have n2_ := G (GN (by repeat (first | (with_reducible first | exact HB.out | apply Z | apply T | apply Y | refine O ?_ GE838.out | refine O ?_ GE839.out) | exact HB.out)) hb); clear BK838; clear BK839; clear HB; have BK838 := n0_; have BK839 := n1_; have HB := n2_; clear n0_ n1_ n2_; (try clear hb); (try clear hb2); (try clear hk); (try clear hi)))
     have n0_ := G (X BK838.out)
     have n1_ := G (X BK839.out)
     have n2_ := G (Y HB.out)
     clear BK838
     clear BK839
     clear HB
     have BK838 := n0_
     have BK839 := n1_
     have HB := n2_
     clear n0_ n1_ n2_
     refine start_ (n := 6) (S := fun w' => w'.cell? ⟨gb838, 0, none⟩ = some (.slice A0_0 l0_0.length c0_0) ∧ w'.cell? ⟨gb838, 1, none⟩ = some (.slice A0_1 l0_1.length c0_1) ∧ w'.cell? ⟨gb839, 0, none⟩ = some (.slice A1_0 l1_0.length c1_0) ∧ w'.cell? ⟨gb839, 1, none⟩ = some (.slice A1_1 l1_1.length c1_1)) (ds := []) #[n', n', n', n', n', n'] (by kernel_rfl) rfl rfl ⟨(E BK838.out 0).trans rfl, (E BK838.out 1).trans rfl, (E BK839.out 0).trans rfl, (E BK839.out 1).trans rfl⟩ (fun hHeld => ?_)
     generalize w160.drew = w161 at BK838 BK839 HB hHeld ⊢
     refine take_ (i := 0) (N := some 20) (v := ?_) (a' := ?_) #[y', n', n', n', n', n'] rfl rfl (by kernel_rfl) (fun _ _ _ h => h) (Or.inl ⟨by rfl, ?_⟩) hHeld ?_ ?_
     rotate_left
     ·rintro w' ⟨s0, s1, s2, s3⟩
      go_simp
      with_reducible rfl
     rotate_left
     ·simp only [Act.put, z1', z2', z3', i64_w, i32_w]
      rfl
     refine take_ (i := 2) (N := some 22) (v := ?_) (a' := ?_) #[y', n', y', n', n', n'] rfl rfl (by kernel_rfl) (fun _ _ _ h => h) (Or.inl ⟨by rfl, ?_⟩) hHeld ?_ ?_
     rotate_left
     ·rintro w' ⟨s0, s1, s2, s3⟩
      go_simp
      with_reducible rfl
     rotate_left
     ·simp only [Act.put, z1', z2', z3', i64_w, i32_w]
      rfl
     refine one_ (i := 1) (N := some 21) #[y', y', y', n', n', n'] rfl rfl (by kernel_rfl) (by decide) (fun K hK => ?_)
     refine goes_ Try.func21 (by kernel_rfl) rfl #[.agg #[.slice A0_0 l0_0.length c0_0, .slice A0_1 l0_1.length c0_1]] (by rfl) rfl rfl (by (try simp only [List.map_toArray, List.map_cons, List.map_nil]); first | done | rfl | (simp only [List.length_drop, List.length_take]; rfl)) ?_
     with_reducible refine (laws_toFrame.calls k _ _ l0_0 _ _ l0_1 t842 t845 _ ?side1 ?side2 ?side3 ?side4 A19.out).mono ?_
     (case side1 => repeat (first | exact (GO HR0_0.out HB.out) | (with_reducible refine R ?_ _) | (with_reducible refine GG ?_ _) | (with_reducible refine GJ ?_)))
     (case side2 => exact HC0_0.out)
     (case side3 => repeat (first | exact (GO HR0_1.out HB.out) | (with_reducible refine R ?_ _) | (with_reducible refine GG ?_ _) | (with_reducible refine GJ ?_)))
     (case side4 => exact HC0_1.out)
     rintro e w162 ⟨v843, v846, rfl, ho0, ho1, hb⟩
     refine ⟨_, rfl, ?_⟩
     have n0_ := G (Kd.R_lower ho0 (GM (by repeat (first | (with_reducible first | exact HB.out | apply Z | apply T | apply Y | refine O ?_ GE838.out | refine O ?_ GE839.out) | exact HB.out))))
     have n1_ := G (Kd.R_lower ho1 (GM (by repeat (first | (with_reducible first | exact HB.out | apply Z | apply T | apply Y | refine O ?_ GE838.out | refine O ?_ GE839.out) | exact HB.out))))
     have n2_ := G (F (g := gb838) (o := .cells #[.slice A0_0 l0_0.length c0_0, .slice A0_1 l0_1.length c0_1] 33 (0, 0)) (by (with_reducible repeat (first | refine U ?_ _ | refine X ?_ | refine V ?_ _)); exact BK838.out) hb)
     have n3_ := G (F (g := gb839) (o := .cells #[.slice A1_0 l1_0.length c1_0, .slice A1_1 l1_1.length c1_1] 33 (0, 0)) (by (with_reducible repeat (first | refine U ?_ _ | refine X ?_ | refine V ?_ _)); exact BK839.out) hb)
     have n4_ := G (GN (by repeat (first | (with_reducible first | exact HB.out | apply Z | apply T | apply Y | refine O ?_ GE838.out | refine O ?_ GE839.out) | exact HB.out)) hb)
     clear BK838
     clear BK839
     clear HB
     have HO844 := n0_
     have HO847 := n1_
     have BK838 := n2_
     have BK839 := n3_
     have HB := n4_
     clear n0_ n1_ n2_ n3_ n4_
     (try clear hb)
     (try clear hb2)
     (try clear hk)
     (try clear hi)
     (try clear ho0)
     (try clear ho1)
     refine hK.out _ _ ⟨(E BK838.out 0).trans rfl, (E BK838.out 1).trans rfl, (E BK839.out 0).trans rfl, (E BK839.out 1).trans rfl⟩ (fun hHeld => ?_)
     clear hK K
     refine norm_ (a' := ?_) ?_ ?_
     rotate_left
     ·show Act.put _ (some 21) _ = _
      simp only [Act.put, z1', z2', z3', i64_w, i32_w]
      rfl
     refine one_ (i := 3) (N := some 23) #[y', y', y', y', n', n'] rfl rfl (by kernel_rfl) (by decide) (fun K hK => ?_)
     refine goes_ Try.func21 (by kernel_rfl) rfl #[.agg #[.slice A1_0 l1_0.length c1_0, .slice A1_1 l1_1.length c1_1]] (by rfl) rfl rfl (by (try simp only [List.map_toArray, List.map_cons, List.map_nil]); first | done | rfl | (simp only [List.length_drop, List.length_take]; rfl)) ?_
     with_reducible refine (laws_toFrame.calls k _ _ l1_0 _ _ l1_1 t848 t851 _ ?side1 ?side2 ?side3 ?side4 A20.out).mono ?_
     (case side1 => repeat (first | exact (GO HR1_0.out HB.out) | (with_reducible refine R ?_ _) | (with_reducible refine GG ?_ _) | (with_reducible refine GJ ?_)))
     (case side2 => exact HC1_0.out)
     (case side3 => repeat (first | exact (GO HR1_1.out HB.out) | (with_reducible refine R ?_ _) | (with_reducible refine GG ?_ _) | (with_reducible refine GJ ?_)))
     (case side4 => exact HC1_1.out)
     rintro e w163 ⟨v849, v852, rfl, ho0, ho1, hb⟩
     refine ⟨_, rfl, ?_⟩
     have n0_ := G (Kd.R_elder' (by (with_reducible repeat (first | apply J | apply L | apply M)); exact HO844.out) (Kd.R_base ho0) hb)
     have n1_ := G (Kd.R_elder' (by (with_reducible repeat (first | apply J | apply L | apply M)); exact HO847.out) (Kd.R_base ho1) hb)
     have n2_ := G (Kd.R_lower (GL ho0 (Kd.R_lt (by (with_reducible repeat (first | apply J | apply L | apply M)); exact HO844.out))) (GM (by repeat (first | (with_reducible first | exact HB.out | apply Z | apply T | apply Y | refine O ?_ GE838.out | refine O ?_ GE839.out) | exact HB.out))))
     have n3_ := G (Kd.R_lower (GL ho1 (Kd.R_lt (by (with_reducible repeat (first | apply J | apply L | apply M)); exact HO847.out))) (GM (by repeat (first | (with_reducible first | exact HB.out | apply Z | apply T | apply Y | refine O ?_ GE838.out | refine O ?_ GE839.out) | exact HB.out))))
     have n4_ := G (F (g := gb838) (o := .cells #[.slice A0_0 l0_0.length c0_0, .slice A0_1 l0_1.length c0_1] 33 (0, 0)) (by (with_reducible repeat (first | refine U ?_ _ | refine X ?_ | refine V ?_ _)); exact BK838.out) hb)
     have n5_ := G (F (g := gb839) (o := .cells #[.slice A1_0 l1_0.length c1_0, .slice A1_1 l1_1.length c1_1] 33 (0, 0)) (by (with_reducible repeat (first | refine U ?_ _ | refine X ?_ | refine V ?_ _)); exact BK839.out) hb)
     have n6_ := G (GN (by repeat (first | (with_reducible first | exact HB.out | apply Z | apply T | apply Y | refine O ?_ GE838.out | refine O ?_ GE839.out) | exact HB.out)) hb)
     clear HO844
     clear HO847
     clear BK838
     clear BK839
     clear HB
     have HO844 := n0_
     have HO847 := n1_
     have HO850 := n2_
     have HO853 := n3_
     have BK838 := n4_
     have BK839 := n5_
     have HB := n6_
     clear n0_ n1_ n2_ n3_ n4_ n5_ n6_
     (try clear hb)
     (try clear hb2)
     (try clear hk)
     (try clear hi)
     (try clear ho0)
     (try clear ho1)
     obtain ⟨Ao164, co164, eo164⟩ := Kd.R_slice HO844.out
     (first | subst eo164 | (injection eo164 with f1_ f2_ f3_; have f4_ := f1_.symm; have f5_ := f3_.symm; clear f1_ f2_ f3_; subst f4_; subst f5_))
     obtain ⟨Ao165, co165, eo165⟩ := Kd.R_slice HO847.out
     (first | subst eo165 | (injection eo165 with f1_ f2_ f3_; have f4_ := f1_.symm; have f5_ := f3_.symm; clear f1_ f2_ f3_; subst f4_; subst f5_))
     obtain ⟨Ao166, co166, eo166⟩ := Kd.R_slice HO850.out
     (first | subst eo166 | (injection eo166 with f1_ f2_ f3_; have f4_ := f1_.symm; have f5_ := f3_.symm; clear f1_ f2_ f3_; subst f4_; subst f5_))
     obtain ⟨Ao167, co167, eo167⟩ := Kd.R_slice HO853.out
     (first | subst eo167 | (injection eo167 with f1_ f2_ f3_; have f4_ := f1_.symm; have f5_ := f3_.symm; clear f1_ f2_ f3_; subst f4_; subst f5_))
     refine hK.out _ _ ⟨(E BK838.out 0).trans rfl, (E BK838.out 1).trans rfl, (E BK839.out 0).trans rfl, (E BK839.out 1).trans rfl⟩ (fun hHeld => ?_)
     clear hK K
     refine norm_ (a' := ?_) ?_ ?_
     rotate_left
     ·show Act.put _ (some 23) _ = _
      simp only [Act.put, z1', z2', z3', i64_w, i32_w]
      rfl
     refine one_ (i := 4) (N := some 24) #[y', y', y', y', y', n'] rfl rfl (by kernel_rfl) (by decide) (fun K hK => ?_)
     refine goes_ Try.func20 (by kernel_rfl) rfl #[.agg #[.slice Ao164 t842.length co164, .slice Ao165 t845.length co165], .agg #[.slice Ao166 t848.length co166, .slice Ao167 t851.length co167]] (by rfl) rfl rfl (by (try simp only [List.map_toArray, List.map_cons, List.map_nil]); first | done | rfl | (simp only [List.length_drop, List.length_take]; rfl)) ?_
     with_reducible refine (spec_SameFrame.calls k _ _ t842 _ _ t845 _ _ t848 _ _ t851 t854 _ ?side1 ?side2 ?side3 ?side4 ?side5 ?side6 ?side7 ?side8 A21.out).mono ?_
     (case side1 => repeat (first | exact (Kd.R_reads' HO844.out).2.2 | (with_reducible refine R ?_ _) | (with_reducible refine GG ?_ _) | (with_reducible refine GJ ?_)))
     (case side2 => exact (Kd.R_reads' HO844.out).2.1)
     (case side3 => repeat (first | exact (Kd.R_reads' HO847.out).2.2 | (with_reducible refine R ?_ _) | (with_reducible refine GG ?_ _) | (with_reducible refine GJ ?_)))
     (case side4 => exact (Kd.R_reads' HO847.out).2.1)
     (case side5 => repeat (first | exact (Kd.R_reads' HO850.out).2.2 | (with_reducible refine R ?_ _) | (with_reducible refine GG ?_ _) | (with_reducible refine GJ ?_)))
     (case side6 => exact (Kd.R_reads' HO850.out).2.1)
     (case side7 => repeat (first | exact (Kd.R_reads' HO853.out).2.2 | (with_reducible refine R ?_ _) | (with_reducible refine GG ?_ _) | (with_reducible refine GJ ?_)))
     (case side8 => exact (Kd.R_reads' HO853.out).2.1)
     rintro e w168 ⟨rfl, hb⟩
     refine ⟨_, rfl, ?_⟩
     have n0_ := G (B (by (with_reducible repeat (first | apply J | apply L | apply M)); exact HO844.out) hb)
     have n1_ := G (B (by (with_reducible repeat (first | apply J | apply L | apply M)); exact HO847.out) hb)
     have n2_ := G (B (by (with_reducible repeat (first | apply J | apply L | apply M)); exact HO850.out) hb)
     have n3_ := G (B (by (with_reducible repeat (first | apply J | apply L | apply M)); exact HO853.out) hb)
     have n4_ := G (F (g := gb838) (o := .cells #[.slice A0_0 l0_0.length c0_0, .slice A0_1 l0_1.length c0_1] 33 (0, 0)) (by (with_reducible repeat (first | refine U ?_ _ | refine X ?_ | refine V ?_ _)); exact BK838.out) hb)
     have n5_ := G (F (g := gb839) (o := .cells #[.slice A1_0 l1_0.length c1_0, .slice A1_1 l1_1.length c1_1] 33 (0, 0)) (by (with_reducible repeat (first | refine U ?_ _ | refine X ?_ | refine V ?_ _)); exact BK839.out) hb)
     have n6_ := G (GN (by repeat (first | (with_reducible first | exact HB.out | apply Z | apply T | apply Y | refine O ?_ GE838.out | refine O ?_ GE839.out) | exact HB.out)) hb)
     clear HO844
     clear HO847
     clear HO850
     clear HO853
     clear BK838
     clear BK839
     clear HB
     have HO844 := n0_
     have HO847 := n1_
     have HO850 := n2_
     have HO853 := n3_
     have BK838 := n4_
     have BK839 := n5_
     have HB := n6_
     clear n0_ n1_ n2_ n3_ n4_ n5_ n6_
     (try clear hb)
     (try clear hb2)
     (try clear hk)
     (try clear hi)
     refine hK.out _ _ ⟨(E BK838.out 0).trans rfl, (E BK838.out 1).trans rfl, (E BK839.out 0).trans rfl, (E BK839.out 1).trans rfl⟩ (fun hHeld => ?_)
     clear hK K
     refine norm_ (a' := ?_) ?_ ?_
     rotate_left
     ·show Act.put _ (some 24) _ = _
      simp only [Act.put, z1', z2', z3', i64_w, i32_w]
      rfl
     refine pure_ (i := 5) (N := some 6) (v := ?_) (a' := ?_) #[y', y', y', y', y', y'] rfl rfl (by kernel_rfl) (fun _ _ _ h => h) (Or.inl ⟨by rfl, ?_⟩) ?_ ?_
     rotate_left
     ·intro w'
      go_simp
      with_reducible rfl
     rotate_left
     ·simp only [Act.put, z1', z2', z3', i64_w, i32_w]
      rfl
     refine done_ (by kernel_rfl) ?_
     have hcz169_0 : w168.cell? ⟨gb838, 0, none⟩ = some (.slice A0_0 l0_0.length c0_0) := (E BK838.out 0).trans rfl
     have hcz169_1 : w168.cell? ⟨gb838, 1, none⟩ = some (.slice A0_1 l0_1.length c0_1) := (E BK838.out 1).trans rfl
     have hfz169_0 := GT BK838.out 0
     have hfz169_1 := GT BK838.out 1
     try go_wp2_with (first | ((with_reducible refine gate_callee (f := 21) rfl ?_); refine goesL_ (some 26) rfl rfl Try.func21 (by kernel_rfl) rfl #[.agg #[.slice A0_0 l0_0.length c0_0, .slice A0_1 l0_1.length c0_1]] rfl (by (try simp only [List.map_toArray, List.map_cons, List.map_nil]); first | done | rfl | (simp only [List.length_drop, List.length_take]; rfl)) ?_; (with_reducible refine (laws_toFrame.calls k _ _ l0_0 _ _ l0_1 t855 t858 _ ?side1 ?side2 ?side3 ?side4 A22.out).mono ?_); (case side1 => repeat (first | exact (GO HR0_0.out HB.out) | (with_reducible refine R ?_ _) | (with_reducible refine GG ?_ _) | (with_reducible refine GJ ?_))); (case side2 => exact HC0_0.out); (case side3 => repeat (first | exact (GO HR0_1.out HB.out) | (with_reducible refine R ?_ _) | (with_reducible refine GG ?_ _) | (with_reducible refine GJ ?_))); (case side4 => exact HC0_1.out); rintro e w170 ⟨v856, v859, rfl, ho0, ho1, hb⟩; refine ⟨_, rfl, ?_⟩; have n0_ := G (Kd.R_elder' (by (with_reducible repeat (first | apply J | apply L | apply M)); exact HO844.out) (Kd.R_base ho0) hb); have n1_ := G (Kd.R_elder' (by (with_reducible repeat (first | apply J | apply L | apply M)); exact HO847.out) (Kd.R_base ho1) hb); have n2_ := G (Kd.R_elder' (by (with_reducible repeat (first | apply J | apply L | apply M)); exact HO850.out) (Kd.R_base ho0) hb); have n3_ := G (Kd.R_elder' (by (with_reducible repeat (first | apply J | apply L | apply M)); exact HO853.out) (Kd.R_base ho1) hb); have n4_ := G (Kd.R_lower (GL (GL ho0 (Kd.R_lt (by (with_reducible repeat (first | apply J | apply L | apply M)); exact HO844.out))) (Kd.R_lt (by (with_reducible repeat (first | apply J | apply L | apply M)); exact HO850.out))) (GM (by repeat (first | (with_reducible first | exact HB.out | apply Z | apply T | apply Y | refine O ?_ GE838.out | refine O ?_ GE839.out) | exact HB.out)))); have n5_ := G (Kd.R_lower (GL (GL ho1 (Kd.R_lt (by (with_reducible repeat (first | apply J | apply L | apply M)); exact HO847.out))) (Kd.R_lt (by (with_reducible repeat (first | apply J | apply L | apply M)); exact HO853.out))) (GM (by repeat (first | (with_reducible first | exact HB.out | apply Z | apply T | apply Y | refine O ?_ GE838.out | refine O ?_ GE839.out) | exact HB.out)))); have n6_ := G (F (g := gb838) (o := .cells #[.slice A0_0 l0_0.length c0_0, .slice A0_1 l0_1.length c0_1] 33 (0, 0)) (by (with_reducible repeat (first | refine U ?_ _ | refine X ?_ | refine V ?_ _)); exact BK838.out) hb); have n7_ := G (F (g := gb839) (o := .cells #[.slice A1_0 l1_0.length c1_0, .slice A1_1 l1_1.length c1_1] 33 (0, 0)) (by (with_reducible repeat (first | refine U ?_ _ | refine X ?_ | refine V ?_ _)); exact BK839.out) hb); have n8_ := G (GN (by repeat (first | (with_reducible first | exact HB.out | apply Z | apply T | apply Y | refine O ?_ GE838.out | refine O ?_ GE839.out) | exact HB.out)) hb); clear HO844; clear HO847; clear HO850; clear HO853; clear BK838; clear BK839; clear HB; have HO844 := n0_; have HO847 := n1_; have HO850 := n2_; have HO853 := n3_; have HO857 := n4_; have HO860 := n5_; have BK838 := n6_; have BK839 := n7_; have HB := n8_; clear n0_ n1_ n2_ n3_ n4_ n5_ n6_ n7_ n8_; (try clear hb); (try clear hb2); (try clear hk); (try clear hi); (try clear ho0); (try clear ho1)) | ((with_reducible refine gate_dst (N := 7) rfl ?_); refine box_event ?hg (N := 7) ?hd (cs := #[.slice none 0 0, .slice none 0 0]) (t := 39) ?hr ?_; (case hd => rfl); (case hg => rfl); (case hr => first | (go_simp; done) | (go_simp; rfl)); intro gb861 hg w171 hbox hb; have n0_ := G (B (by (with_reducible repeat (first | apply J | apply L | apply M)); exact HO844.out) hb); have n1_ := G (B (by (with_reducible repeat (first | apply J | apply L | apply M)); exact HO847.out) hb); have n2_ := G (B (by (with_reducible repeat (first | apply J | apply L | apply M)); exact HO850.out) hb); have n3_ := G (B (by (with_reducible repeat (first | apply J | apply L | apply M)); exact HO853.out) hb); have n4_ := G (B (by (with_reducible repeat (first | apply J | apply L | apply M)); exact HO857.out) hb); have n5_ := G (B (by (with_reducible repeat (first | apply J | apply L | apply M)); exact HO860.out) hb); have n6_ := G (F (g := gb838) (o := .cells #[.slice A0_0 l0_0.length c0_0, .slice A0_1 l0_1.length c0_1] 33 (0, 0)) (by (with_reducible repeat (first | refine U ?_ _ | refine X ?_ | refine V ?_ _)); exact BK838.out) hb); have n7_ := G (F (g := gb839) (o := .cells #[.slice A1_0 l1_0.length c1_0, .slice A1_1 l1_1.length c1_1] 33 (0, 0)) (by (with_reducible repeat (first | refine U ?_ _ | refine X ?_ | refine V ?_ _)); exact BK839.out) hb); have n8_ := G (GN (by repeat (first | (with_reducible first | exact HB.out | apply Z | apply T | apply Y | refine O ?_ GE838.out | refine O ?_ GE839.out) | exact HB.out)) hb); have n9_ := G (hbox); have n10_ := G ((by rw [hg]; exact (GM (by repeat (first | (with_reducible first | exact HB.out | apply Z | apply T | apply Y | refine O ?_ GE838.out | refine O ?_ GE839.out) | exact HB.out))) : w.heap.size ≤ gb861)); have n11_ := G ((by rw [hg]; exact (GM (by repeat (first | (with_reducible first | exact HB.out | apply Z | apply T | apply Y | refine O ?_ GE838.out | refine O ?_ GE839.out) | exact HB.out))) : w.heap.size ≤ gb861)); have n12_ := G ((by rw [hg]; exact Nat.ne_of_lt (blk_lt (g := gb838) (o := .cells #[.slice A0_0 l0_0.length c0_0, .slice A0_1 l0_1.length c0_1] 33 (0, 0)) (by (with_reducible repeat (first | refine U ?_ _ | refine X ?_ | refine V ?_ _)); exact BK838.out)) : gb838 ≠ gb861)); have n13_ := G ((by rw [hg]; exact Nat.ne_of_gt (blk_lt (g := gb838) (o := .cells #[.slice A0_0 l0_0.length c0_0, .slice A0_1 l0_1.length c0_1] 33 (0, 0)) (by (with_reducible repeat (first | refine U ?_ _ | refine X ?_ | refine V ?_ _)); exact BK838.out)) : gb861 ≠ gb838)); have n14_ := G ((by rw [hg]; exact Nat.ne_of_lt (blk_lt (g := gb839) (o := .cells #[.slice A1_0 l1_0.length c1_0, .slice A1_1 l1_1.length c1_1] 33 (0, 0)) (by (with_reducible repeat (first | refine U ?_ _ | refine X ?_ | refine V ?_ _)); exact BK839.out)) : gb839 ≠ gb861)); have n15_ := G ((by rw [hg]; exact Nat.ne_of_gt (blk_lt (g := gb839) (o := .cells #[.slice A1_0 l1_0.length c1_0, .slice A1_1 l1_1.length c1_1] 33 (0, 0)) (by (with_reducible repeat (first | refine U ?_ _ | refine X ?_ | refine V ?_ _)); exact BK839.out)) : gb861 ≠ gb839)); clear HO844; clear HO847; clear HO850; clear HO853; clear HO857; clear HO860; clear BK838; clear BK839; clear HB; have HO844 := n0_; have HO847 := n1_; have HO850 := n2_; have HO853 := n3_; have HO857 := n4_; have HO860 := n5_; have BK838 := n6_; have BK839 := n7_; have HB := n8_; have BK861 := n9_; have GW861 := n10_; have GE861 := n11_; have NB838_861 := n12_; have NB861_838 := n13_; have NB839_861 := n14_; have NB861_839 := n15_; clear n0_ n1_ n2_ n3_ n4_ n5_ n6_ n7_ n8_ n9_ n10_ n11_ n12_ n13_ n14_ n15_; clear hb hbox hg; obtain ⟨Ao172, co172, eo172⟩ := Kd.R_slice HO857.out; subst eo172; have hnb173 := NB861_838.out; have hnc173 := NB838_861.out; have hnb174 := NB861_839.out; have hnc174 := NB839_861.out; have hcz175_0 : w171.cell? ⟨gb861, 0, none⟩ = some (.slice none 0 0) := (E BK861.out 0).trans rfl; have hcz175_1 : w171.cell? ⟨gb861, 1, none⟩ = some (.slice none 0 0) := (E BK861.out 1).trans rfl; have hfz175_0 := GT BK861.out 0; have hfz175_1 := GT BK861.out 1; obtain ⟨Ao176, co176, eo176⟩ := Kd.R_slice HO860.out; subst eo176; have hcz177_0 : w171.cell? ⟨gb839, 0, none⟩ = some (.slice A1_0 l1_0.length c1_0) := (E BK839.out 0).trans rfl; have hcz177_1 : w171.cell? ⟨gb839, 1, none⟩ = some (.slice A1_1 l1_1.length c1_1) := (E BK839.out 1).trans rfl; have hfz177_0 := GT BK839.out 0; have hfz177_1 := GT BK839.out 1) | ((with_reducible refine gate_callee (f := 21) rfl ?_); refine goesL_ (some 28) rfl rfl Try.func21 (by kernel_rfl) rfl #[.agg #[.slice A1_0 l1_0.length c1_0, .slice A1_1 l1_1.length c1_1]] rfl (by (try simp only [List.map_toArray, List.map_cons, List.map_nil]); first | done | rfl | (simp only [List.length_drop, List.length_take]; rfl)) ?_; (with_reducible refine (laws_toFrame.calls k _ _ l1_0 _ _ l1_1 t862 t865 _ ?side1 ?side2 ?side3 ?side4 A23.out).mono ?_); (case side1 => exact GO HR1_0.out (by repeat (first | (with_reducible first | exact HB.out | apply Z | apply T | apply Y | refine O ?_ GE838.out | refine O ?_ GE839.out | refine O ?_ GE861.out) | exact HB.out))); (case side2 => exact HC1_0.out); (case side3 => exact GO HR1_1.out (by repeat (first | (with_reducible first | exact HB.out | apply Z | apply T | apply Y | refine O ?_ GE838.out | refine O ?_ GE839.out | refine O ?_ GE861.out) | exact HB.out))); (case side4 => exact HC1_1.out); rintro e w178 ⟨v863, v866, rfl, ho0, ho1, hb⟩; refine ⟨_, rfl, ?_⟩; have n0_ := G (Kd.R_elder' (by (with_reducible repeat (first | apply J | apply L | apply M)); exact (P (D (p := ⟨gb861, 1, none⟩) (D (p := ⟨gb861, 0, none⟩) (I HO844.out BK861.out (by decide)) (fun _ hk => hk.2) (.slice Ao172 t855.length co172)) (fun _ hk => hk.2) (.slice Ao176 t858.length co176)) (fun _ h_ => h_.1))) (Kd.R_base ho0) hb); have n1_ := G (Kd.R_elder' (by (with_reducible repeat (first | apply J | apply L | apply M)); exact (P (D (p := ⟨gb861, 1, none⟩) (D (p := ⟨gb861, 0, none⟩) (I HO847.out BK861.out (by decide)) (fun _ hk => hk.2) (.slice Ao172 t855.length co172)) (fun _ hk => hk.2) (.slice Ao176 t858.length co176)) (fun _ h_ => h_.1))) (Kd.R_base ho1) hb); have n2_ := G (Kd.R_elder' (by (with_reducible repeat (first | apply J | apply L | apply M)); exact (P (D (p := ⟨gb861, 1, none⟩) (D (p := ⟨gb861, 0, none⟩) (I HO850.out BK861.out (by decide)) (fun _ hk => hk.2) (.slice Ao172 t855.length co172)) (fun _ hk => hk.2) (.slice Ao176 t858.length co176)) (fun _ h_ => h_.1))) (Kd.R_base ho0) hb); have n3_ := G (Kd.R_elder' (by (with_reducible repeat (first | apply J | apply L | apply M)); exact (P (D (p := ⟨gb861, 1, none⟩) (D (p := ⟨gb861, 0, none⟩) (I HO853.out BK861.out (by decide)) (fun _ hk => hk.2) (.slice Ao172 t855.length co172)) (fun _ hk => hk.2) (.slice Ao176 t858.length co176)) (fun _ h_ => h_.1))) (Kd.R_base ho1) hb); have n4_ := G (Kd.R_elder' (by (with_reducible repeat (first | apply J | apply L | apply M)); exact (P (D (p := ⟨gb861, 1, none⟩) (D (p := ⟨gb861, 0, none⟩) (I HO857.out BK861.out (by decide)) (fun _ hk => hk.2) (.slice Ao172 t855.length co172)) (fun _ hk => hk.2) (.slice Ao176 t858.length co176)) (fun _ h_ => h_.1))) (Kd.R_base ho0) hb); have n5_ := G (Kd.R_elder' (by (with_reducible repeat (first | apply J | apply L | apply M)); exact (P (D (p := ⟨gb861, 1, none⟩) (D (p := ⟨gb861, 0, none⟩) (I HO860.out BK861.out (by decide)) (fun _ hk => hk.2) (.slice Ao172 t855.length co172)) (fun _ hk => hk.2) (.slice Ao176 t858.length co176)) (fun _ h_ => h_.1))) (Kd.R_base ho1) hb); have n6_ := G (Kd.R_lower (GL (GL (GL ho0 (Kd.R_lt (by (with_reducible repeat (first | apply J | apply L | apply M)); exact (P (D (p := ⟨gb861, 1, none⟩) (D (p := ⟨gb861, 0, none⟩) (I HO844.out BK861.out (by decide)) (fun _ hk => hk.2) (.slice Ao172 t855.length co172)) (fun _ hk => hk.2) (.slice Ao176 t858.length co176)) (fun _ h_ => h_.1))))) (Kd.R_lt (by (with_reducible repeat (first | apply J | apply L | apply M)); exact (P (D (p := ⟨gb861, 1, none⟩) (D (p := ⟨gb861, 0, none⟩) (I HO850.out BK861.out (by decide)) (fun _ hk => hk.2) (.slice Ao172 t855.length co172)) (fun _ hk => hk.2) (.slice Ao176 t858.length co176)) (fun _ h_ => h_.1))))) (Kd.R_lt (by (with_reducible repeat (first | apply J | apply L | apply M)); exact (P (D (p := ⟨gb861, 1, none⟩) (D (p := ⟨gb861, 0, none⟩) (I HO857.out BK861.out (by decide)) (fun _ hk => hk.2) (.slice Ao172 t855.length co172)) (fun _ hk => hk.2) (.slice Ao176 t858.length co176)) (fun _ h_ => h_.1))))) (GM (by repeat (first | (with_reducible first | exact HB.out | apply Z | apply T | apply Y | refine O ?_ GE838.out | refine O ?_ GE839.out | refine O ?_ GE861.out) | exact HB.out)))); have n7_ := G (Kd.R_lower (GL (GL (GL ho1 (Kd.R_lt (by (with_reducible repeat (first | apply J | apply L | apply M)); exact (P (D (p := ⟨gb861, 1, none⟩) (D (p := ⟨gb861, 0, none⟩) (I HO847.out BK861.out (by decide)) (fun _ hk => hk.2) (.slice Ao172 t855.length co172)) (fun _ hk => hk.2) (.slice Ao176 t858.length co176)) (fun _ h_ => h_.1))))) (Kd.R_lt (by (with_reducible repeat (first | apply J | apply L | apply M)); exact (P (D (p := ⟨gb861, 1, none⟩) (D (p := ⟨gb861, 0, none⟩) (I HO853.out BK861.out (by decide)) (fun _ hk => hk.2) (.slice Ao172 t855.length co172)) (fun _ hk => hk.2) (.slice Ao176 t858.length co176)) (fun _ h_ => h_.1))))) (Kd.R_lt (by (with_reducible repeat (first | apply J | apply L | apply M)); exact (P (D (p := ⟨gb861, 1, none⟩) (D (p := ⟨gb861, 0, none⟩) (I HO860.out BK861.out (by decide)) (fun _ hk => hk.2) (.slice Ao172 t855.length co172)) (fun _ hk => hk.2) (.slice Ao176 t858.length co176)) (fun _ h_ => h_.1))))) (GM (by repeat (first | (with_reducible first | exact HB.out | apply Z | apply T | apply Y | refine O ?_ GE838.out | refine O ?_ GE839.out | refine O ?_ GE861.out) | exact HB.out)))); have n8_ := G (F (g := gb838) (o := .cells #[.slice A0_0 l0_0.length c0_0, .slice A0_1 l0_1.length c0_1] 33 (0, 0)) (by (with_reducible repeat (first | refine U ?_ _ | refine X ?_ | refine V ?_ _)); refine blk_far ?_ NB838_861.out _; (with_reducible repeat (first | refine U ?_ _ | refine X ?_ | refine V ?_ _)); refine blk_far ?_ NB838_861.out _; (with_reducible repeat (first | refine U ?_ _ | refine X ?_ | refine V ?_ _)); exact BK838.out) hb); have n9_ := G (F (g := gb839) (o := .cells #[.slice A1_0 l1_0.length c1_0, .slice A1_1 l1_1.length c1_1] 33 (0, 0)) (by (with_reducible repeat (first | refine U ?_ _ | refine X ?_ | refine V ?_ _)); refine blk_far ?_ NB839_861.out _; (with_reducible repeat (first | refine U ?_ _ | refine X ?_ | refine V ?_ _)); refine blk_far ?_ NB839_861.out _; (with_reducible repeat (first | refine U ?_ _ | refine X ?_ | refine V ?_ _)); exact BK839.out) hb); have n10_ := G (F (g := gb861) (o := .cells #[.slice Ao172 t855.length co172, .slice Ao176 t858.length co176] 39 (0, 0)) (by (with_reducible repeat (first | refine U ?_ _ | refine X ?_ | refine V ?_ _)); refine blk_put (cs := #[.slice Ao172 t855.length co172, .slice none 0 0]) ?_ 1 _ rfl; (with_reducible repeat (first | refine U ?_ _ | refine X ?_ | refine V ?_ _)); refine blk_put (cs := #[.slice none 0 0, .slice none 0 0]) ?_ 0 _ rfl; (with_reducible repeat (first | refine U ?_ _ | refine X ?_ | refine V ?_ _)); exact BK861.out) hb); have n11_ := G (GN (by repeat (first | (with_reducible first | exact HB.out | apply Z | apply T | apply Y | refine O ?_ GE838.out | refine O ?_ GE839.out | refine O ?_ GE861.out) | exact HB.out)) hb); clear HO844; clear HO847; clear HO850; clear HO853; clear HO857; clear HO860; clear BK838; clear BK839; clear BK861; clear HB; have HO844 := n0_; have HO847 := n1_; have HO850 := n2_; have HO853 := n3_; have HO857 := n4_; have HO860 := n5_; have HO864 := n6_; have HO867 := n7_; have BK838 := n8_; have BK839 := n9_; have BK861 := n10_; have HB := n11_; clear n0_ n1_ n2_ n3_ n4_ n5_ n6_ n7_ n8_ n9_ n10_ n11_; (try clear hb); (try clear hb2); (try clear hk); (try clear hi); (try clear ho0); (try clear ho1)) | ((with_reducible refine gate_dst (N := 8) rfl ?_); refine box_event ?hg (N := 8) ?hd (cs := #[.slice none 0 0, .slice none 0 0]) (t := 39) ?hr ?_; (case hd => rfl); (case hg => rfl); (case hr => first | (go_simp; done) | (go_simp; rfl)); intro gb868 hg w179 hbox hb; have n0_ := G (B (by (with_reducible repeat (first | apply J | apply L | apply M)); exact HO844.out) hb); have n1_ := G (B (by (with_reducible repeat (first | apply J | apply L | apply M)); exact HO847.out) hb); have n2_ := G (B (by (with_reducible repeat (first | apply J | apply L | apply M)); exact HO850.out) hb); have n3_ := G (B (by (with_reducible repeat (first | apply J | apply L | apply M)); exact HO853.out) hb); have n4_ := G (B (by (with_reducible repeat (first | apply J | apply L | apply M)); exact HO857.out) hb); have n5_ := G (B (by (with_reducible repeat (first | apply J | apply L | apply M)); exact HO860.out) hb); have n6_ := G (B (by (with_reducible repeat (first | apply J | apply L | apply M)); exact HO864.out) hb); have n7_ := G (B (by (with_reducible repeat (first | apply J | apply L | apply M)); exact HO867.out) hb); have n8_ := G (F (g := gb838) (o := .cells #[.slice A0_0 l0_0.length c0_0, .slice A0_1 l0_1.length c0_1] 33 (0, 0)) (by (with_reducible repeat (first | refine U ?_ _ | refine X ?_ | refine V ?_ _)); exact BK838.out) hb); have n9_ := G (F (g := gb839) (o := .cells #[.slice A1_0 l1_0.length c1_0, .slice A1_1 l1_1.length c1_1] 33 (0, 0)) (by (with_reducible repeat (first | refine U ?_ _ | refine X ?_ | refine V ?_ _)); exact BK839.out) hb); have n10_ := G (F (g := gb861) (o := .cells #[.slice Ao172 t855.length co172, .slice Ao176 t858.length co176] 39 (0, 0)) (by (with_reducible repeat (first | refine U ?_ _ | refine X ?_ | refine V ?_ _)); exact BK861.out) hb); have n11_ := G (GN (by repeat (first | (with_reducible first | exact HB.out | apply Z | apply T | apply Y | refine O ?_ GE838.out | refine O ?_ GE839.out | refine O ?_ GE861.out) | exact HB.out)) hb); have n12_ := G (hbox); have n13_ := G ((by rw [hg]; exact (GM (by repeat (first | (with_reducible first | exact HB.out | apply Z | apply T | apply Y | refine O ?_ GE838.out | refine O ?_ GE839.out | refine O ?_ GE861.out) | exact HB.out))) : w.heap.size ≤ gb868)); have n14_ := G ((by rw [hg]; exact (GM (by repeat (first | (with_reducible first | exact HB.out | apply Z | apply T | apply Y | refine O ?_ GE838.out | refine O ?_ GE839.out | refine O ?_ GE861.out) | exact HB.out))) : w.heap.size ≤ gb868)); have n15_ := G ((by rw [hg]; exact Nat.ne_of_lt (blk_lt (g := gb838) (o := .cells #[.slice A0_0 l0_0.length c0_0, .slice A0_1 l0_1.length c0_1] 33 (0, 0)) (by (with_reducible repeat (first | refine U ?_ _ | refine X ?_ | refine V ?_ _)); exact BK838.out)) : gb838 ≠ gb868)); have n16_ := G ((by rw [hg]; exact Nat.ne_of_gt (blk_lt (g := gb838) (o := .cells #[.slice A0_0 l0_0.length c0_0, .slice A0_1 l0_1.length c0_1] 33 (0, 0)) (by (with_reducible repeat (first | refine U ?_ _ | refine X ?_ | refine V ?_ _)); exact BK838.out)) : gb868 ≠ gb838)); have n17_ := G ((by rw [hg]; exact Nat.ne_of_lt (blk_lt (g := gb839) (o := .cells #[.slice A1_0 l1_0.length c1_0, .slice A1_1 l1_1.length c1_1] 33 (0, 0)) (by (with_reducible repeat (first | refine U ?_ _ | refine X ?_ | refine V ?_ _)); exact BK839.out)) : gb839 ≠ gb868)); have n18_ := G ((by rw [hg]; exact Nat.ne_of_gt (blk_lt (g := gb839) (o := .cells #[.slice A1_0 l1_0.length c1_0, .slice A1_1 l1_1.length c1_1] 33 (0, 0)) (by (with_reducible repeat (first | refine U ?_ _ | refine X ?_ | refine V ?_ _)); exact BK839.out)) : gb868 ≠ gb839)); have n19_ := G ((by rw [hg]; exact Nat.ne_of_lt (blk_lt (g := gb861) (o := .cells #[.slice Ao172 t855.length co172, .slice Ao176 t858.length co176] 39 (0, 0)) (by (with_reducible repeat (first | refine U ?_ _ | refine X ?_ | refine V ?_ _)); exact BK861.out)) : gb861 ≠ gb868)); have n20_ := G ((by rw [hg]; exact Nat.ne_of_gt (blk_lt (g := gb861) (o := .cells #[.slice Ao172 t855.length co172, .slice Ao176 t858.length co176] 39 (0, 0)) (by (with_reducible repeat (first | refine U ?_ _ | refine X ?_ | refine V ?_ _)); exact BK861.out)) : gb868 ≠ gb861)); clear HO844; clear HO847; clear HO850; clear HO853; clear HO857; clear HO860; clear HO864; clear HO867; clear BK838; clear BK839; clear BK861; clear HB; have HO844 := n0_; have HO847 := n1_; have HO850 := n2_; have HO853 := n3_; have HO857 := n4_; have HO860 := n5_; have HO864 := n6_; have HO867 := n7_; have BK838 := n8_; have BK839 := n9_; have BK861 := n10_; have HB := n11_; have BK868 := n12_; have GW868 := n13_; have GE868 := n14_; have NB838_868 := n15_; have NB868_838 := n16_; have NB839_868 := n17_; have NB868_839 := n18_; have NB861_868 := n19_; have NB868_861 := n20_; clear n0_ n1_ n2_ n3_ n4_ n5_ n6_ n7_ n8_ n9_ n10_ n11_ n12_ n13_ n14_ n15_ n16_ n17_ n18_ n19_ n20_; clear hb hbox hg; obtain ⟨Ao180, co180, eo180⟩ := Kd.R_slice HO864.out; subst eo180; have hnb181 := NB868_838.out; have hnc181 := NB838_868.out; have hnb182 := NB868_839.out; have hnc182 := NB839_868.out; have hnb183 := NB868_861.out; have hnc183 := NB861_868.out; have hcz184_0 : w179.cell? ⟨gb868, 0, none⟩ = some (.slice none 0 0) := (E BK868.out 0).trans rfl; have hcz184_1 : w179.cell? ⟨gb868, 1, none⟩ = some (.slice none 0 0) := (E BK868.out 1).trans rfl; have hfz184_0 := GT BK868.out 0; have hfz184_1 := GT BK868.out 1; obtain ⟨Ao185, co185, eo185⟩ := Kd.R_slice HO867.out; subst eo185; have hcz186_0 : w179.cell? ⟨gb861, 0, none⟩ = some (.slice Ao172 t855.length co172) := (E BK861.out 0).trans rfl; have hcz186_1 : w179.cell? ⟨gb861, 1, none⟩ = some (.slice Ao176 t858.length co176) := (E BK861.out 1).trans rfl; have hfz186_0 := GT BK861.out 0; have hfz186_1 := GT BK861.out 1) | ((with_reducible refine gate_callee (f := 22) rfl ?_); refine goesL_ (some 31) rfl rfl Try.func22 (by kernel_rfl) rfl #[.agg #[.slice Ao172 t855.length co172, .slice Ao176 t858.length co176], .agg #[.slice Ao180 t862.length co180, .slice Ao185 t865.length co185]] rfl (by (try simp only [List.map_toArray, List.map_cons, List.map_nil]); first | done | rfl | (simp only [List.length_drop, List.length_take]; rfl)) ?_; (with_reducible refine (impl_SameFrame.calls k _ _ t855 _ _ t858 _ _ t862 _ _ t865 t869 _ ?side1 ?side2 ?side3 ?side4 ?side5 ?side6 ?side7 ?side8 A24.out).mono ?_); (case side1 => refine (Kd.R_reads' (e := 82) (base := w.heap.size) (ok := fun k_ => (((True ∧ some k_ ≠ (.slice Ao164 t842.length co164 : Value).ownBlock) ∧ some k_ ≠ (.slice Ao166 t848.length co166 : Value).ownBlock) ∧ some k_ ≠ (.slice Ao180 t862.length co180 : Value).ownBlock)) (n := t855.length) (c := co172) ?_).2.2; exact (by (with_reducible repeat (first | apply J | apply L | apply M)); exact (P (D (p := ⟨gb868, 1, none⟩) (D (p := ⟨gb868, 0, none⟩) (I HO857.out BK868.out (by decide)) (fun _ hk => hk.2) (.slice Ao180 t862.length co180)) (fun _ hk => hk.2) (.slice Ao185 t865.length co185)) (fun _ h_ => h_.1)))); (case side2 => exact (Kd.R_reads' HO857.out).2.1); (case side3 => refine (Kd.R_reads' (e := 84) (base := w.heap.size) (ok := fun k_ => (((True ∧ some k_ ≠ (.slice Ao165 t845.length co165 : Value).ownBlock) ∧ some k_ ≠ (.slice Ao167 t851.length co167 : Value).ownBlock) ∧ some k_ ≠ (.slice Ao185 t865.length co185 : Value).ownBlock)) (n := t858.length) (c := co176) ?_).2.2; exact (by (with_reducible repeat (first | apply J | apply L | apply M)); exact (P (D (p := ⟨gb868, 1, none⟩) (D (p := ⟨gb868, 0, none⟩) (I HO860.out BK868.out (by decide)) (fun _ hk => hk.2) (.slice Ao180 t862.length co180)) (fun _ hk => hk.2) (.slice Ao185 t865.length co185)) (fun _ h_ => h_.1)))); (case side4 => exact (Kd.R_reads' HO860.out).2.1); (case side5 => refine (Kd.R_reads' (e := 82) (base := w.heap.size) (ok := fun k_ => (((True ∧ some k_ ≠ (.slice Ao164 t842.length co164 : Value).ownBlock) ∧ some k_ ≠ (.slice Ao166 t848.length co166 : Value).ownBlock) ∧ some k_ ≠ (.slice Ao172 t855.length co172 : Value).ownBlock)) (n := t862.length) (c := co180) ?_).2.2; exact (by (with_reducible repeat (first | apply J | apply L | apply M)); exact (P (D (p := ⟨gb868, 1, none⟩) (D (p := ⟨gb868, 0, none⟩) (I HO864.out BK868.out (by decide)) (fun _ hk => hk.2) (.slice Ao180 t862.length co180)) (fun _ hk => hk.2) (.slice Ao185 t865.length co185)) (fun _ h_ => h_.1)))); (case side6 => exact (Kd.R_reads' HO864.out).2.1); (case side7 => refine (Kd.R_reads' (e := 84) (base := w.heap.size) (ok := fun k_ => (((True ∧ some k_ ≠ (.slice Ao165 t845.length co165 : Value).ownBlock) ∧ some k_ ≠ (.slice Ao167 t851.length co167 : Value).ownBlock) ∧ some k_ ≠ (.slice Ao176 t858.length co176 : Value).ownBlock)) (n := t865.length) (c := co185) ?_).2.2; exact (by (with_reducible repeat (first | apply J | apply L | apply M)); exact (P (D (p := ⟨gb868, 1, none⟩) (D (p := ⟨gb868, 0, none⟩) (I HO867.out BK868.out (by decide)) (fun _ hk => hk.2) (.slice Ao180 t862.length co180)) (fun _ hk => hk.2) (.slice Ao185 t865.length co185)) (fun _ h_ => h_.1)))); (case side8 => exact (Kd.R_reads' HO867.out).2.1); rintro e w187 ⟨rfl, hb⟩; refine ⟨_, rfl, ?_⟩; have n0_ := G (B (by (with_reducible repeat (first | apply J | apply L | apply M)); exact (P (D (p := ⟨gb868, 1, none⟩) (D (p := ⟨gb868, 0, none⟩) (I HO844.out BK868.out (by decide)) (fun _ hk => hk.2) (.slice Ao180 t862.length co180)) (fun _ hk => hk.2) (.slice Ao185 t865.length co185)) (fun _ h_ => h_.1))) hb); have n1_ := G (B (by (with_reducible repeat (first | apply J | apply L | apply M)); exact (P (D (p := ⟨gb868, 1, none⟩) (D (p := ⟨gb868, 0, none⟩) (I HO847.out BK868.out (by decide)) (fun _ hk => hk.2) (.slice Ao180 t862.length co180)) (fun _ hk => hk.2) (.slice Ao185 t865.length co185)) (fun _ h_ => h_.1))) hb); have n2_ := G (B (by (with_reducible repeat (first | apply J | apply L | apply M)); exact (P (D (p := ⟨gb868, 1, none⟩) (D (p := ⟨gb868, 0, none⟩) (I HO850.out BK868.out (by decide)) (fun _ hk => hk.2) (.slice Ao180 t862.length co180)) (fun _ hk => hk.2) (.slice Ao185 t865.length co185)) (fun _ h_ => h_.1))) hb); have n3_ := G (B (by (with_reducible repeat (first | apply J | apply L | apply M)); exact (P (D (p := ⟨gb868, 1, none⟩) (D (p := ⟨gb868, 0, none⟩) (I HO853.out BK868.out (by decide)) (fun _ hk => hk.2) (.slice Ao180 t862.length co180)) (fun _ hk => hk.2) (.slice Ao185 t865.length co185)) (fun _ h_ => h_.1))) hb); have n4_ := G (B (by (with_reducible repeat (first | apply J | apply L | apply M)); exact (P (D (p := ⟨gb868, 1, none⟩) (D (p := ⟨gb868, 0, none⟩) (I HO857.out BK868.out (by decide)) (fun _ hk => hk.2) (.slice Ao180 t862.length co180)) (fun _ hk => hk.2) (.slice Ao185 t865.length co185)) (fun _ h_ => h_.1))) hb); have n5_ := G (B (by (with_reducible repeat (first | apply J | apply L | apply M)); exact (P (D (p := ⟨gb868, 1, none⟩) (D (p := ⟨gb868, 0, none⟩) (I HO860.out BK868.out (by decide)) (fun _ hk => hk.2) (.slice Ao180 t862.length co180)) (fun _ hk => hk.2) (.slice Ao185 t865.length co185)) (fun _ h_ => h_.1))) hb); have n6_ := G (B (by (with_reducible repeat (first | apply J | apply L | apply M)); exact (P (D (p := ⟨gb868, 1, none⟩) (D (p := ⟨gb868, 0, none⟩) (I HO864.out BK868.out (by decide)) (fun _ hk => hk.2) (.slice Ao180 t862.length co180)) (fun _ hk => hk.2) (.slice Ao185 t865.length co185)) (fun _ h_ => h_.1))) hb); have n7_ := G (B (by (with_reducible repeat (first | apply J | apply L | apply M)); exact (P (D (p := ⟨gb868, 1, none⟩) (D (p := ⟨gb868, 0, none⟩) (I HO867.out BK868.out (by decide)) (fun _ hk => hk.2) (.slice Ao180 t862.length co180)) (fun _ hk => hk.2) (.slice Ao185 t865.length co185)) (fun _ h_ => h_.1))) hb); have n8_ := G (F (g := gb838) (o := .cells #[.slice A0_0 l0_0.length c0_0, .slice A0_1 l0_1.length c0_1] 33 (0, 0)) (by (with_reducible repeat (first | refine U ?_ _ | refine X ?_ | refine V ?_ _)); refine blk_far ?_ NB838_868.out _; (with_reducible repeat (first | refine U ?_ _ | refine X ?_ | refine V ?_ _)); refine blk_far ?_ NB838_868.out _; (with_reducible repeat (first | refine U ?_ _ | refine X ?_ | refine V ?_ _)); exact BK838.out) hb); have n9_ := G (F (g := gb839) (o := .cells #[.slice A1_0 l1_0.length c1_0, .slice A1_1 l1_1.length c1_1] 33 (0, 0)) (by (with_reducible repeat (first | refine U ?_ _ | refine X ?_ | refine V ?_ _)); refine blk_far ?_ NB839_868.out _; (with_reducible repeat (first | refine U ?_ _ | refine X ?_ | refine V ?_ _)); refine blk_far ?_ NB839_868.out _; (with_reducible repeat (first | refine U ?_ _ | refine X ?_ | refine V ?_ _)); exact BK839.out) hb); have n10_ := G (F (g := gb861) (o := .cells #[.slice Ao172 t855.length co172, .slice Ao176 t858.length co176] 39 (0, 0)) (by (with_reducible repeat (first | refine U ?_ _ | refine X ?_ | refine V ?_ _)); refine blk_far ?_ NB861_868.out _; (with_reducible repeat (first | refine U ?_ _ | refine X ?_ | refine V ?_ _)); refine blk_far ?_ NB861_868.out _; (with_reducible repeat (first | refine U ?_ _ | refine X ?_ | refine V ?_ _)); exact BK861.out) hb); have n11_ := G (F (g := gb868) (o := .cells #[.slice Ao180 t862.length co180, .slice Ao185 t865.length co185] 39 (0, 0)) (by (with_reducible repeat (first | refine U ?_ _ | refine X ?_ | refine V ?_ _)); refine blk_put (cs := #[.slice Ao180 t862.length co180, .slice none 0 0]) ?_ 1 _ rfl; (with_reducible repeat (first | refine U ?_ _ | refine X ?_ | refine V ?_ _)); refine blk_put (cs := #[.slice none 0 0, .slice none 0 0]) ?_ 0 _ rfl; (with_reducible repeat (first | refine U ?_ _ | refine X ?_ | refine V ?_ _)); exact BK868.out) hb); have n12_ := G (GN (by repeat (first | (with_reducible first | exact HB.out | apply Z | apply T | apply Y | refine O ?_ GE838.out | refine O ?_ GE839.out | refine O ?_ GE861.out | refine O ?_ GE868.out) | exact HB.out)) hb); clear HO844; clear HO847; clear HO850; clear HO853; clear HO857; clear HO860; clear HO864; clear HO867; clear BK838; clear BK839; clear BK861; clear BK868; clear HB; have HO844 := n0_; have HO847 := n1_; have HO850 := n2_; have HO853 := n3_; have HO857 := n4_; have HO860 := n5_; have HO864 := n6_; have HO867 := n7_; have BK838 := n8_; have BK839 := n9_; have BK861 := n10_; have BK868 := n11_; have HB := n12_; clear n0_ n1_ n2_ n3_ n4_ n5_ n6_ n7_ n8_ n9_ n10_ n11_ n12_; (try clear hb); (try clear hb2); (try clear hk); (try clear hi)))
     have n0_ := G (M HO844.out)
     have n1_ := G (M HO847.out)
     have n2_ := G (M HO850.out)
     have n3_ := G (M HO853.out)
     have n4_ := G (M HO857.out)
     have n5_ := G (M HO860.out)
     have n6_ := G (M HO864.out)
     have n7_ := G (M HO867.out)
     have n8_ := G (X BK838.out)
     have n9_ := G (X BK839.out)
     have n10_ := G (X BK861.out)
     have n11_ := G (X BK868.out)
     have n12_ := G (Y HB.out)
     clear HO844
     clear HO847
     clear HO850
     clear HO853
     clear HO857
     clear HO860
     clear HO864
     clear HO867
     clear BK838
     clear BK839
     clear BK861
     clear BK868
     clear HB
     have HO844 := n0_
     have HO847 := n1_
     have HO850 := n2_
     have HO853 := n3_
     have HO857 := n4_
     have HO860 := n5_
     have HO864 := n6_
     have HO867 := n7_
     have BK838 := n8_
     have BK839 := n9_
     have BK861 := n10_
     have BK868 := n11_
     have HB := n12_
     clear n0_ n1_ n2_ n3_ n4_ n5_ n6_ n7_ n8_ n9_ n10_ n11_ n12_
     refine start_ (n := 5) (S := fun w' => w'.cell? ⟨gb861, 0, none⟩ = some (.slice Ao172 t855.length co172) ∧ w'.cell? ⟨gb861, 1, none⟩ = some (.slice Ao176 t858.length co176) ∧ w'.cell? ⟨gb838, 0, none⟩ = some (.slice A0_0 l0_0.length c0_0) ∧ w'.cell? ⟨gb838, 1, none⟩ = some (.slice A0_1 l0_1.length c0_1)) (ds := []) #[n', n', n', n', n'] (by kernel_rfl) rfl rfl ⟨(E BK861.out 0).trans rfl, (E BK861.out 1).trans rfl, (E BK838.out 0).trans rfl, (E BK838.out 1).trans rfl⟩ (fun hHeld => ?_)
     generalize w187.drew = w188 at HO844 HO847 HO850 HO853 HO857 HO860 HO864 HO867 BK838 BK839 BK861 BK868 HB hHeld ⊢
     refine take_ (i := 0) (N := some 35) (v := ?_) (a' := ?_) #[y', n', n', n', n'] rfl rfl (by kernel_rfl) (fun _ _ _ h => h) (Or.inl ⟨by rfl, ?_⟩) hHeld ?_ ?_
     rotate_left
     ·rintro w' ⟨s0, s1, s2, s3⟩
      go_simp
      with_reducible rfl
     rotate_left
     ·simp only [Act.put, z1', z2', z3', i64_w, i32_w]
      rfl
     refine take_ (i := 1) (N := some 36) (v := ?_) (a' := ?_) #[y', y', n', n', n'] rfl rfl (by kernel_rfl) (fun _ _ _ h => h) (Or.inl ⟨by rfl, ?_⟩) hHeld ?_ ?_
     rotate_left
     ·rintro w' ⟨s0, s1, s2, s3⟩
      go_simp
      with_reducible rfl
     rotate_left
     ·simp only [Act.put, z1', z2', z3', i64_w, i32_w]
      rfl
     refine one_ (i := 2) (N := some 37) #[y', y', y', n', n'] rfl rfl (by kernel_rfl) (by decide) (fun K hK => ?_)
     refine goes_ Try.func21 (by kernel_rfl) rfl #[.agg #[.slice A0_0 l0_0.length c0_0, .slice A0_1 l0_1.length c0_1]] (by rfl) rfl rfl (by (try simp only [List.map_toArray, List.map_cons, List.map_nil]); first | done | rfl | (simp only [List.length_drop, List.length_take]; rfl)) ?_
     with_reducible refine (laws_toFrame.calls k _ _ l0_0 _ _ l0_1 t870 t873 _ ?side1 ?side2 ?side3 ?side4 A60.out).mono ?_
     (case side1 => repeat (first | exact (GO HR0_0.out HB.out) | (with_reducible refine R ?_ _) | (with_reducible refine GG ?_ _) | (with_reducible refine GJ ?_)))
     (case side2 => exact HC0_0.out)
     (case side3 => repeat (first | exact (GO HR0_1.out HB.out) | (with_reducible refine R ?_ _) | (with_reducible refine GG ?_ _) | (with_reducible refine GJ ?_)))
     (case side4 => exact HC0_1.out)
     rintro e w189 ⟨v871, v874, rfl, ho0, ho1, hb⟩
     refine ⟨_, rfl, ?_⟩
     have n0_ := G (Kd.R_elder' (by (with_reducible repeat (first | apply J | apply L | apply M)); exact HO844.out) (Kd.R_base ho0) hb)
     have n1_ := G (Kd.R_elder' (by (with_reducible repeat (first | apply J | apply L | apply M)); exact HO847.out) (Kd.R_base ho1) hb)
     have n2_ := G (Kd.R_elder' (by (with_reducible repeat (first | apply J | apply L | apply M)); exact HO850.out) (Kd.R_base ho0) hb)
     have n3_ := G (Kd.R_elder' (by (with_reducible repeat (first | apply J | apply L | apply M)); exact HO853.out) (Kd.R_base ho1) hb)
     have n4_ := G (Kd.R_elder' (by (with_reducible repeat (first | apply J | apply L | apply M)); exact HO857.out) (Kd.R_base ho0) hb)
     have n5_ := G (Kd.R_elder' (by (with_reducible repeat (first | apply J | apply L | apply M)); exact HO860.out) (Kd.R_base ho1) hb)
     have n6_ := G (Kd.R_elder' (by (with_reducible repeat (first | apply J | apply L | apply M)); exact HO864.out) (Kd.R_base ho0) hb)
     have n7_ := G (Kd.R_elder' (by (with_reducible repeat (first | apply J | apply L | apply M)); exact HO867.out) (Kd.R_base ho1) hb)
     have n8_ := G (Kd.R_lower (GL (GL (GL (GL ho0 (Kd.R_lt (by (with_reducible repeat (first | apply J | apply L | apply M)); exact HO844.out))) (Kd.R_lt (by (with_reducible repeat (first | apply J | apply L | apply M)); exact HO850.out))) (Kd.R_lt (by (with_reducible repeat (first | apply J | apply L | apply M)); exact HO857.out))) (Kd.R_lt (by (with_reducible repeat (first | apply J | apply L | apply M)); exact HO864.out))) (GM (by repeat (first | (with_reducible first | exact HB.out | apply Z | apply T | apply Y | refine O ?_ GE838.out | refine O ?_ GE839.out | refine O ?_ GE861.out | refine O ?_ GE868.out) | exact HB.out))))
     have n9_ := G (Kd.R_lower (GL (GL (GL (GL ho1 (Kd.R_lt (by (with_reducible repeat (first | apply J | apply L | apply M)); exact HO847.out))) (Kd.R_lt (by (with_reducible repeat (first | apply J | apply L | apply M)); exact HO853.out))) (Kd.R_lt (by (with_reducible repeat (first | apply J | apply L | apply M)); exact HO860.out))) (Kd.R_lt (by (with_reducible repeat (first | apply J | apply L | apply M)); exact HO867.out))) (GM (by repeat (first | (with_reducible first | exact HB.out | apply Z | apply T | apply Y | refine O ?_ GE838.out | refine O ?_ GE839.out | refine O ?_ GE861.out | refine O ?_ GE868.out) | exact HB.out))))
     have n10_ := G (F (g := gb838) (o := .cells #[.slice A0_0 l0_0.length c0_0, .slice A0_1 l0_1.length c0_1] 33 (0, 0)) (by (with_reducible repeat (first | refine U ?_ _ | refine X ?_ | refine V ?_ _)); exact BK838.out) hb)
     have n11_ := G (F (g := gb839) (o := .cells #[.slice A1_0 l1_0.length c1_0, .slice A1_1 l1_1.length c1_1] 33 (0, 0)) (by (with_reducible repeat (first | refine U ?_ _ | refine X ?_ | refine V ?_ _)); exact BK839.out) hb)
     have n12_ := G (F (g := gb861) (o := .cells #[.slice Ao172 t855.length co172, .slice Ao176 t858.length co176] 39 (0, 0)) (by (with_reducible repeat (first | refine U ?_ _ | refine X ?_ | refine V ?_ _)); exact BK861.out) hb)
     have n13_ := G (F (g := gb868) (o := .cells #[.slice Ao180 t862.length co180, .slice Ao185 t865.length co185] 39 (0, 0)) (by (with_reducible repeat (first | refine U ?_ _ | refine X ?_ | refine V ?_ _)); exact BK868.out) hb)
     have n14_ := G (GN (by repeat (first | (with_reducible first | exact HB.out | apply Z | apply T | apply Y | refine O ?_ GE838.out | refine O ?_ GE839.out | refine O ?_ GE861.out | refine O ?_ GE868.out) | exact HB.out)) hb)
     clear HO844
     clear HO847
     clear HO850
     clear HO853
     clear HO857
     clear HO860
     clear HO864
     clear HO867
     clear BK838
     clear BK839
     clear BK861
     clear BK868
     clear HB
     have HO844 := n0_
     have HO847 := n1_
     have HO850 := n2_
     have HO853 := n3_
     have HO857 := n4_
     have HO860 := n5_
     have HO864 := n6_
     have HO867 := n7_
     have HO872 := n8_
     have HO875 := n9_
     have BK838 := n10_
     have BK839 := n11_
     have BK861 := n12_
     have BK868 := n13_
     have HB := n14_
     clear n0_ n1_ n2_ n3_ n4_ n5_ n6_ n7_ n8_ n9_ n10_ n11_ n12_ n13_ n14_
     (try clear hb)
     (try clear hb2)
     (try clear hk)
     (try clear hi)
     (try clear ho0)
     (try clear ho1)
     obtain ⟨Ao190, co190, eo190⟩ := Kd.R_slice HO872.out
     (first | subst eo190 | (injection eo190 with f1_ f2_ f3_; have f4_ := f1_.symm; have f5_ := f3_.symm; clear f1_ f2_ f3_; subst f4_; subst f5_))
     obtain ⟨Ao191, co191, eo191⟩ := Kd.R_slice HO875.out
     (first | subst eo191 | (injection eo191 with f1_ f2_ f3_; have f4_ := f1_.symm; have f5_ := f3_.symm; clear f1_ f2_ f3_; subst f4_; subst f5_))
     refine hK.out _ _ ⟨(E BK861.out 0).trans rfl, (E BK861.out 1).trans rfl, (E BK838.out 0).trans rfl, (E BK838.out 1).trans rfl⟩ (fun hHeld => ?_)
     clear hK K
     refine norm_ (a' := ?_) ?_ ?_
     rotate_left
     ·show Act.put _ (some 37) _ = _
      simp only [Act.put, z1', z2', z3', i64_w, i32_w]
      rfl
     refine one_ (i := 3) (N := some 38) #[y', y', y', y', n'] rfl rfl (by kernel_rfl) (by decide) (fun K hK => ?_)
     refine goes_ Try.func23 (by kernel_rfl) rfl #[.agg #[.slice Ao172 t855.length co172, .slice Ao176 t858.length co176], .agg #[.slice Ao190 t870.length co190, .slice Ao191 t873.length co191]] (by rfl) rfl rfl (by (try simp only [List.map_toArray, List.map_cons, List.map_nil]); first | done | rfl | (simp only [List.length_drop, List.length_take]; rfl)) ?_
     with_reducible refine (laws_eqFrame.calls k _ _ t855 _ _ t858 _ _ t870 _ _ t873 false _ ?side1 ?side2 ?side3 ?side4 ?side5 ?side6 ?side7 ?side8 A61.out).mono ?_
     (case side1 => repeat (first | exact (Kd.R_reads' HO857.out).2.2 | (with_reducible refine R ?_ _) | (with_reducible refine GG ?_ _) | (with_reducible refine GJ ?_)))
     (case side2 => exact (Kd.R_reads' HO857.out).2.1)
     (case side3 => repeat (first | exact (Kd.R_reads' HO860.out).2.2 | (with_reducible refine R ?_ _) | (with_reducible refine GG ?_ _) | (with_reducible refine GJ ?_)))
     (case side4 => exact (Kd.R_reads' HO860.out).2.1)
     (case side5 => repeat (first | exact (Kd.R_reads' HO872.out).2.2 | (with_reducible refine R ?_ _) | (with_reducible refine GG ?_ _) | (with_reducible refine GJ ?_)))
     (case side6 => exact (Kd.R_reads' HO872.out).2.1)
     (case side7 => repeat (first | exact (Kd.R_reads' HO875.out).2.2 | (with_reducible refine R ?_ _) | (with_reducible refine GG ?_ _) | (with_reducible refine GJ ?_)))
     (case side8 => exact (Kd.R_reads' HO875.out).2.1)
     rintro e w192 ⟨rfl, hb⟩
     refine ⟨_, rfl, ?_⟩
     have n0_ := G (B (by (with_reducible repeat (first | apply J | apply L | apply M)); exact HO844.out) hb)
     have n1_ := G (B (by (with_reducible repeat (first | apply J | apply L | apply M)); exact HO847.out) hb)
     have n2_ := G (B (by (with_reducible repeat (first | apply J | apply L | apply M)); exact HO850.out) hb)
     have n3_ := G (B (by (with_reducible repeat (first | apply J | apply L | apply M)); exact HO853.out) hb)
     have n4_ := G (B (by (with_reducible repeat (first | apply J | apply L | apply M)); exact HO857.out) hb)
     have n5_ := G (B (by (with_reducible repeat (first | apply J | apply L | apply M)); exact HO860.out) hb)
     have n6_ := G (B (by (with_reducible repeat (first | apply J | apply L | apply M)); exact HO864.out) hb)
     have n7_ := G (B (by (with_reducible repeat (first | apply J | apply L | apply M)); exact HO867.out) hb)
     have n8_ := G (B (by (with_reducible repeat (first | apply J | apply L | apply M)); exact HO872.out) hb)
     have n9_ := G (B (by (with_reducible repeat (first | apply J | apply L | apply M)); exact HO875.out) hb)
     have n10_ := G (F (g := gb838) (o := .cells #[.slice A0_0 l0_0.length c0_0, .slice A0_1 l0_1.length c0_1] 33 (0, 0)) (by (with_reducible repeat (first | refine U ?_ _ | refine X ?_ | refine V ?_ _)); exact BK838.out) hb)
     have n11_ := G (F (g := gb839) (o := .cells #[.slice A1_0 l1_0.length c1_0, .slice A1_1 l1_1.length c1_1] 33 (0, 0)) (by (with_reducible repeat (first | refine U ?_ _ | refine X ?_ | refine V ?_ _)); exact BK839.out) hb)
     have n12_ := G (F (g := gb861) (o := .cells #[.slice Ao172 t855.length co172, .slice Ao176 t858.length co176] 39 (0, 0)) (by (with_reducible repeat (first | refine U ?_ _ | refine X ?_ | refine V ?_ _)); exact BK861.out) hb)
     have n13_ := G (F (g := gb868) (o := .cells #[.slice Ao180 t862.length co180, .slice Ao185 t865.length co185] 39 (0, 0)) (by (with_reducible repeat (first | refine U ?_ _ | refine X ?_ | refine V ?_ _)); exact BK868.out) hb)
     have n14_ := G (GN (by repeat (first | (with_reducible first | exact HB.out | apply Z | apply T | apply Y | refine O ?_ GE838.out | refine O ?_ GE839.out | refine O ?_ GE861.out | refine O ?_ GE868.out) | exact HB.out)) hb)
     clear HO844
     clear HO847
     clear HO850
     clear HO853
     clear HO857
     clear HO860
     clear HO864
     clear HO867
     clear HO872
     clear HO875
     clear BK838
     clear BK839
     clear BK861
     clear BK868
     clear HB
     have HO844 := n0_
     have HO847 := n1_
     have HO850 := n2_
     have HO853 := n3_
     have HO857 := n4_
     have HO860 := n5_
     have HO864 := n6_
     have HO867 := n7_
     have HO872 := n8_
     have HO875 := n9_
     have BK838 := n10_
     have BK839 := n11_
     have BK861 := n12_
     have BK868 := n13_
     have HB := n14_
     clear n0_ n1_ n2_ n3_ n4_ n5_ n6_ n7_ n8_ n9_ n10_ n11_ n12_ n13_ n14_
     (try clear hb)
     (try clear hb2)
     (try clear hk)
     (try clear hi)
     refine hK.out _ _ ⟨(E BK861.out 0).trans rfl, (E BK861.out 1).trans rfl, (E BK838.out 0).trans rfl, (E BK838.out 1).trans rfl⟩ (fun hHeld => ?_)
     clear hK K
     refine norm_ (a' := ?_) ?_ ?_
     rotate_left
     ·show Act.put _ (some 38) _ = _
      simp only [Act.put, z1', z2', z3', i64_w, i32_w]
      rfl
     refine pure_ (i := 4) (N := some 39) (v := ?_) (a' := ?_) #[y', y', y', y', y'] rfl rfl (by kernel_rfl) (fun _ _ _ h => h) (Or.inl ⟨by rfl, ?_⟩) ?_ ?_
     rotate_left
     ·intro w'
      go_simp
      with_reducible rfl
     rotate_left
     ·simp only [Act.put, z1', z2', z3', i64_w, i32_w]
      rfl
     refine done_ (by kernel_rfl) ?_
     try go_wp2
     go_ret
     exact ⟨by first | rfl | (simp [errW_none, errW_some] <;> rfl) | (simp [*, errW_none, errW_some] <;> rfl), by repeat (first | (with_reducible first | exact HB.out | apply Z | apply T | apply Y | refine O ?_ GE838.out | refine O ?_ GE839.out | refine O ?_ GE861.out | refine O ?_ GE868.out) | exact HB.out)⟩

end Go.Proofs.Ytacijlpnpkhjaaa.HFr
