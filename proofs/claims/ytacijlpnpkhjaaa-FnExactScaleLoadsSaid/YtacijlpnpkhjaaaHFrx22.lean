-- Written by a program for this claim (the functions that the statement reaches, and that the program's code comes to them).
import Derived.Test.YtacijlpnpkhjaaaHFrx0
import Derived.Test.YtacijlpnpkhjaaaHFrx3
import Derived.Test.YtacijlpnpkhjaaaHFrx4
import Derived.Test.YtacijlpnpkhjaaaHFrx11
import Derived.Test.YtacijlpnpkhjaaaHFrx13
import Derived.Test.YtacijlpnpkhjaaaHFrx21
namespace Go.Proofs.Ytacijlpnpkhjaaa.HFr
open Go.RowKit Go.Proofs.YtacijlpnpkhjaaaW.PrintWords Go.Proofs.YtacijlpnpkhjaaaW.PrintLast Go.Proofs.YtacijlpnpkhjaaaW.PrintMore
attribute [local go_sem] max2_int min2_int max_two min_two max_three min_three max_four min_four   -- for this text's walks alone
set_option linter.unusedVariables false
set_option linter.unusedSimpArgs false

/-! ### laws_FnExactScaleLoads: function 11 -/
mutual
def laws_FnExactScaleLoads.j0 : Nat → List (S99) → Int → List (S97) → Int → List (S97) → List (S97) → Int → Bool → List (S113) → List (S115) → List (S82) → List (S84) → Option (Bool)
 | 0, _, _, _, _, _, _, _, _, _, _, _, _ => none
 | k + 1, x1, x2, x8, x9, x11, x12, x13, x57, x420000, x420001, x442000, x442001 => if x57 = true then (some false) else ((laws_toFrame.f k x420000 x420001).bind fun bt450 => ((laws_eqFrame.f k x442000 x442001 bt450.1 bt450.2).bind fun t456 => (if t456 = true then ((laws_toPullS.f k x1).bind fun t457 => ((laws_eqPullS.f k x11 t457).bind fun t460 => (if t460 = true then ((laws_markFrame.f k x442000 x442001 1).bind fun bt461 => ((laws_markPullS.f k x11 bt461.1).bind fun bt464 => (if bt464.1 < 0 then (laws_FnExactScaleLoads.j1 k x1 x2 x8 x9 x12 true x420000 x420001) else ((laws_eqPullS.f k x12 x8).bind fun t466 => (if t466 = true then (laws_FnExactScaleLoads.j1 k x1 x2 x8 x9 x12 (x13 != x9) x420000 x420001) else (laws_FnExactScaleLoads.j1 k x1 x2 x8 x9 x12 true x420000 x420001)))))) else (some false)))) else (some false))))
def laws_FnExactScaleLoads.j1 : Nat → List (S99) → Int → List (S97) → Int → List (S97) → Bool → List (S113) → List (S115) → Option (Bool)
 | 0, _, _, _, _, _, _, _, _ => none
 | k + 1, x1, x2, x8, x9, x12, x86, x420000, x420001 => if x86 = true then (some false) else ((laws_markPullS.f k x12 1).bind fun bt467 => ((laws_heldPullS.f k bt467.2 1).bind fun t469 => (if t469 < 0 then (some false) else (if t469 = bt467.1 then ((laws_toFrame.f k x420000 x420001).bind fun bt470 => ((laws_toPullS.f k x1).bind fun t476 => ((impl_ScaleLoads.f k bt470.1 bt470.2 t476 x2).bind fun bt479 => ((laws_eqPullS.f k bt479.1 x8).bind fun t483 => (if t483 = true then (laws_FnExactScaleLoads.j2 k bt467.2 bt467.1 (bt479.2 != x9)) else (laws_FnExactScaleLoads.j2 k bt467.2 bt467.1 true)))))) else (some false)))))
def laws_FnExactScaleLoads.j2 : Nat → List (S97) → Int → Bool → Option (Bool)
 | 0, _, _, _ => none
 | k + 1, x12, x15, x115 => if x115 = true then (some false) else ((laws_heldPullS.f k x12 1).bind fun t484 => (if t484 < 0 then (some false) else (if t484 = x15 then (some true) else (some false))))
end
def laws_FnExactScaleLoads.f (k : Nat) (l0_0 : List (S113)) (l0_1 : List (S115)) (l1 : List (S99)) (a2 : Int) : Option (Bool) := (laws_szFrame.f l0_0 l0_1 1048576).bind fun t420 => (if t420 < 0 then (some true) else ((laws_szPullS.f l1 t420).bind fun t421 => (if t421 < 0 then (some true) else ((laws_toFrame.f k l0_0 l0_1).bind fun bt422 => ((laws_toPullS.f k l1).bind fun t428 => ((spec_ScaleLoads.f k bt422.1 bt422.2 t428 a2).bind fun bt431 => ((laws_toFrame.f k l0_0 l0_1).bind fun bt435 => ((laws_toPullS.f k l1).bind fun t442 => ((impl_ScaleLoads.f k bt435.1 bt435.2 t442 a2).bind fun bt445 => ((laws_eqPullS.f k bt445.1 bt431.1).bind fun t449 => (if t449 = true then (laws_FnExactScaleLoads.j0 k l1 a2 bt431.1 bt431.2 t442 bt445.1 bt445.2 (bt445.2 != bt431.2) l0_0 l0_1 bt435.1 bt435.2) else (laws_FnExactScaleLoads.j0 k l1 a2 bt431.1 bt431.2 t442 bt445.1 bt445.2 true l0_0 l0_1 bt435.1 bt435.2))))))))))))
theorem laws_FnExactScaleLoads.mono_l : ∀ k, (∀ y0 y1 y2 y3 y4 y5 y6 y7 y8 y9 y10 y11, LeO (laws_FnExactScaleLoads.j0 k y0 y1 y2 y3 y4 y5 y6 y7 y8 y9 y10 y11) (laws_FnExactScaleLoads.j0 (k + 1) y0 y1 y2 y3 y4 y5 y6 y7 y8 y9 y10 y11)) ∧ (∀ y0 y1 y2 y3 y4 y5 y6 y7, LeO (laws_FnExactScaleLoads.j1 k y0 y1 y2 y3 y4 y5 y6 y7) (laws_FnExactScaleLoads.j1 (k + 1) y0 y1 y2 y3 y4 y5 y6 y7)) ∧ (∀ y0 y1 y2, LeO (laws_FnExactScaleLoads.j2 k y0 y1 y2) (laws_FnExactScaleLoads.j2 (k + 1) y0 y1 y2))
 | 0 => ⟨fun _ _ _ _ _ _ _ _ _ _ _ _ r h => by simp [laws_FnExactScaleLoads.j0] at h, fun _ _ _ _ _ _ _ _ r h => by simp [laws_FnExactScaleLoads.j1] at h, fun _ _ _ r h => by simp [laws_FnExactScaleLoads.j2] at h⟩
 | k + 1 => by
  obtain ⟨ih0, ih1, ih2⟩ := laws_FnExactScaleLoads.mono_l k
  refine ⟨?_, ?_, ?_⟩
  ·intro y0 y1 y2 y3 y4 y5 y6 y7 y8 y9 y10 y11
   unfold laws_FnExactScaleLoads.j0
   repeat' first
   | (with_reducible exact ih0 _ _ _ _ _ _ _ _ _ _ _ _)
   | (with_reducible exact ih1 _ _ _ _ _ _ _ _)
   | (with_reducible exact ih2 _ _ _)
   | (with_reducible exact impl_ScaleLoads.mono _ _ _ _ _)
   | (with_reducible exact laws_eqFrame.mono _ _ _ _ _)
   | (with_reducible exact laws_eqPullS.mono _ _ _)
   | (with_reducible exact laws_heldPullS.mono _ _ _)
   | (with_reducible exact laws_markFrame.mono _ _ _ _)
   | (with_reducible exact laws_markPullS.mono _ _ _)
   | (with_reducible exact laws_toFrame.mono _ _ _)
   | (with_reducible exact laws_toPullS.mono _ _)
   | (with_reducible exact spec_ScaleLoads.mono _ _ _ _ _)
   | (with_reducible exact LeO.refl _)
   | (with_reducible exact LeO.none _)
   | (with_reducible refine LeO.ite ?_ ?_)
   | (with_reducible refine LeO.bind ?_ (fun _ => ?_))
   | exact ih0 _ _ _ _ _ _ _ _ _ _ _ _
   | exact ih1 _ _ _ _ _ _ _ _
   | exact ih2 _ _ _
   | exact impl_ScaleLoads.mono _ _ _ _ _
   | exact laws_eqFrame.mono _ _ _ _ _
   | exact laws_eqPullS.mono _ _ _
   | exact laws_heldPullS.mono _ _ _
   | exact laws_markFrame.mono _ _ _ _
   | exact laws_markPullS.mono _ _ _
   | exact laws_toFrame.mono _ _ _
   | exact laws_toPullS.mono _ _
   | exact spec_ScaleLoads.mono _ _ _ _ _
   | exact LeO.none _
   | refine LeO.ite ?_ ?_
   | refine LeO.bind ?_ (fun _ => ?_)
  ·intro y0 y1 y2 y3 y4 y5 y6 y7
   unfold laws_FnExactScaleLoads.j1
   repeat' first
   | (with_reducible exact ih0 _ _ _ _ _ _ _ _ _ _ _ _)
   | (with_reducible exact ih1 _ _ _ _ _ _ _ _)
   | (with_reducible exact ih2 _ _ _)
   | (with_reducible exact impl_ScaleLoads.mono _ _ _ _ _)
   | (with_reducible exact laws_eqFrame.mono _ _ _ _ _)
   | (with_reducible exact laws_eqPullS.mono _ _ _)
   | (with_reducible exact laws_heldPullS.mono _ _ _)
   | (with_reducible exact laws_markFrame.mono _ _ _ _)
   | (with_reducible exact laws_markPullS.mono _ _ _)
   | (with_reducible exact laws_toFrame.mono _ _ _)
   | (with_reducible exact laws_toPullS.mono _ _)
   | (with_reducible exact spec_ScaleLoads.mono _ _ _ _ _)
   | (with_reducible exact LeO.refl _)
   | (with_reducible exact LeO.none _)
   | (with_reducible refine LeO.ite ?_ ?_)
   | (with_reducible refine LeO.bind ?_ (fun _ => ?_))
   | exact ih0 _ _ _ _ _ _ _ _ _ _ _ _
   | exact ih1 _ _ _ _ _ _ _ _
   | exact ih2 _ _ _
   | exact impl_ScaleLoads.mono _ _ _ _ _
   | exact laws_eqFrame.mono _ _ _ _ _
   | exact laws_eqPullS.mono _ _ _
   | exact laws_heldPullS.mono _ _ _
   | exact laws_markFrame.mono _ _ _ _
   | exact laws_markPullS.mono _ _ _
   | exact laws_toFrame.mono _ _ _
   | exact laws_toPullS.mono _ _
   | exact spec_ScaleLoads.mono _ _ _ _ _
   | exact LeO.none _
   | refine LeO.ite ?_ ?_
   | refine LeO.bind ?_ (fun _ => ?_)
  ·intro y0 y1 y2
   unfold laws_FnExactScaleLoads.j2
   repeat' first
   | (with_reducible exact ih0 _ _ _ _ _ _ _ _ _ _ _ _)
   | (with_reducible exact ih1 _ _ _ _ _ _ _ _)
   | (with_reducible exact ih2 _ _ _)
   | (with_reducible exact impl_ScaleLoads.mono _ _ _ _ _)
   | (with_reducible exact laws_eqFrame.mono _ _ _ _ _)
   | (with_reducible exact laws_eqPullS.mono _ _ _)
   | (with_reducible exact laws_heldPullS.mono _ _ _)
   | (with_reducible exact laws_markFrame.mono _ _ _ _)
   | (with_reducible exact laws_markPullS.mono _ _ _)
   | (with_reducible exact laws_toFrame.mono _ _ _)
   | (with_reducible exact laws_toPullS.mono _ _)
   | (with_reducible exact spec_ScaleLoads.mono _ _ _ _ _)
   | (with_reducible exact LeO.refl _)
   | (with_reducible exact LeO.none _)
   | (with_reducible refine LeO.ite ?_ ?_)
   | (with_reducible refine LeO.bind ?_ (fun _ => ?_))
   | exact ih0 _ _ _ _ _ _ _ _ _ _ _ _
   | exact ih1 _ _ _ _ _ _ _ _
   | exact ih2 _ _ _
   | exact impl_ScaleLoads.mono _ _ _ _ _
   | exact laws_eqFrame.mono _ _ _ _ _
   | exact laws_eqPullS.mono _ _ _
   | exact laws_heldPullS.mono _ _ _
   | exact laws_markFrame.mono _ _ _ _
   | exact laws_markPullS.mono _ _ _
   | exact laws_toFrame.mono _ _ _
   | exact laws_toPullS.mono _ _
   | exact spec_ScaleLoads.mono _ _ _ _ _
   | exact LeO.none _
   | refine LeO.ite ?_ ?_
   | refine LeO.bind ?_ (fun _ => ?_)
theorem laws_FnExactScaleLoads.mono : ∀ a0 a1 a2 a3 k, LeO (laws_FnExactScaleLoads.f k a0 a1 a2 a3) (laws_FnExactScaleLoads.f (k + 1) a0 a1 a2 a3) := by
 intro a0 a1 a2 a3 k
 obtain ⟨ih0, ih1, ih2⟩ := laws_FnExactScaleLoads.mono_l k
 unfold laws_FnExactScaleLoads.f
 repeat' first
   | (with_reducible exact ih0 _ _ _ _ _ _ _ _ _ _ _ _)
   | (with_reducible exact ih1 _ _ _ _ _ _ _ _)
   | (with_reducible exact ih2 _ _ _)
   | (with_reducible exact impl_ScaleLoads.mono _ _ _ _ _)
   | (with_reducible exact laws_eqFrame.mono _ _ _ _ _)
   | (with_reducible exact laws_eqPullS.mono _ _ _)
   | (with_reducible exact laws_heldPullS.mono _ _ _)
   | (with_reducible exact laws_markFrame.mono _ _ _ _)
   | (with_reducible exact laws_markPullS.mono _ _ _)
   | (with_reducible exact laws_toFrame.mono _ _ _)
   | (with_reducible exact laws_toPullS.mono _ _)
   | (with_reducible exact spec_ScaleLoads.mono _ _ _ _ _)
   | (with_reducible exact LeO.refl _)
   | (with_reducible exact LeO.none _)
   | (with_reducible refine LeO.ite ?_ ?_)
   | (with_reducible refine LeO.bind ?_ (fun _ => ?_))
   | exact ih0 _ _ _ _ _ _ _ _ _ _ _ _
   | exact ih1 _ _ _ _ _ _ _ _
   | exact ih2 _ _ _
   | exact impl_ScaleLoads.mono _ _ _ _ _
   | exact laws_eqFrame.mono _ _ _ _ _
   | exact laws_eqPullS.mono _ _ _
   | exact laws_heldPullS.mono _ _ _
   | exact laws_markFrame.mono _ _ _ _
   | exact laws_markPullS.mono _ _ _
   | exact laws_toFrame.mono _ _ _
   | exact laws_toPullS.mono _ _
   | exact spec_ScaleLoads.mono _ _ _ _ _
   | exact LeO.none _
   | refine LeO.ite ?_ ?_
   | refine LeO.bind ?_ (fun _ => ?_)
@[reducible] def laws_FnExactScaleLoads.y' : Bool := true
@[reducible] def laws_FnExactScaleLoads.n' : Bool := false
theorem laws_FnExactScaleLoads.z1' {α : Type} (l : List α) (i : Nat) (a : α) : l.toArray.setIfInBounds i a = (l.set i a).toArray := List.setIfInBounds_toArray ..
theorem laws_FnExactScaleLoads.z2' {α : Type} (a b : α) (l : List α) : (a :: l).set 0 b = b :: l := rfl
theorem laws_FnExactScaleLoads.z3' {α : Type} (a b : α) (l : List α) (n : Nat) : (a :: l).set (n + 1) b = a :: l.set n b := rfl
theorem laws_FnExactScaleLoads.G : type_of% @Aside0.mk := @Aside0.mk
theorem laws_FnExactScaleLoads.J : type_of% @Kd.R_alloc := @Kd.R_alloc
theorem laws_FnExactScaleLoads.L : type_of% @Kd.R_drewN := @Kd.R_drewN
theorem laws_FnExactScaleLoads.M : type_of% @Kd.R_drew := @Kd.R_drew
theorem laws_FnExactScaleLoads.O : type_of% @below_set := @below_set
theorem laws_FnExactScaleLoads.T : type_of% @pw_below_drewN := @pw_below_drewN
theorem laws_FnExactScaleLoads.U : type_of% @blk_drewN := @blk_drewN
theorem laws_FnExactScaleLoads.V : type_of% @blk_alloc := @blk_alloc
theorem laws_FnExactScaleLoads.X : type_of% @blk_drew := @blk_drew
theorem laws_FnExactScaleLoads.Y : type_of% @below_drew1 := @below_drew1
theorem laws_FnExactScaleLoads.Z : type_of% @below_alloc := @below_alloc
theorem laws_FnExactScaleLoads.B : type_of% @Kd.R_below := @Kd.R_below
theorem laws_FnExactScaleLoads.D : type_of% @Kd.R_far := @Kd.R_far
theorem laws_FnExactScaleLoads.E : type_of% @blk_cell := @blk_cell
theorem laws_FnExactScaleLoads.F : type_of% @blk_below := @blk_below
theorem laws_FnExactScaleLoads.I : type_of% @Kd.R_mono := @Kd.R_mono
theorem laws_FnExactScaleLoads.P : type_of% @Kd.C_alloc := @Kd.C_alloc
theorem laws_FnExactScaleLoads.GG : type_of% @Kd.C_drewN := @Kd.C_drewN
theorem laws_FnExactScaleLoads.GJ : type_of% @Kd.C_drew := @Kd.C_drew
theorem laws_FnExactScaleLoads.GL : type_of% @Kd.R_new' := @Kd.R_new'
theorem laws_FnExactScaleLoads.GM : type_of% @below_size := @below_size
theorem laws_FnExactScaleLoads.GN : type_of% @below_step := @below_step
theorem laws_FnExactScaleLoads.GO : type_of% @Kd.C_below := @Kd.C_below
theorem laws_FnExactScaleLoads.GT : type_of% @blk_frozen := @blk_frozen
set_option maxHeartbeats 8000000 in
set_option maxRecDepth 100000 in
theorem laws_FnExactScaleLoads.calls (k : Nat) (A0_0 : Option Addr) (c0_0 : Nat) (l0_0 : List (S113)) (A0_1 : Option Addr) (c0_1 : Nat) (l0_1 : List (S115)) (A1 : Option Addr) (c1 : Nat) (l1 : List (S99)) (a2 : Int) (r : Bool) (w : World) (hr0_0 : Kd.C k113 w A0_0 l0_0.length l0_0) (hc0_0 : l0_0.length ≤ c0_0) (hr0_1 : Kd.C k115 w A0_1 l0_1.length l0_1) (hc0_1 : l0_1.length ≤ c0_1) (hr1 : Kd.C k99 w A1 l1.length l1) (hc1 : l1.length ≤ c1) (h : laws_FnExactScaleLoads.f k l0_0 l0_1 l1 a2 = some r) :
  Calls Try.prog 11 #[.agg #[.slice A0_0 l0_0.length c0_0, .slice A0_1 l0_1.length c0_1], .slice A1 l1.length c1, .int .i64 a2] w fun e w' => e = .returned (.bool r) ∧ Below w.heap.size w w' := by
 have hu33 := Try.underlying33
 have hu39 := Try.underlying39
 have HR0_0 := G hr0_0
 have HC0_0 := G hc0_0
 clear hr0_0 hc0_0
 have HR0_1 := G hr0_1
 have HC0_1 := G hc0_1
 clear hr0_1 hc0_1
 have HR1 := G hr1
 have HC1 := G hc1
 clear hr1 hc1
 have HB := G (Below.refl w.heap.size w)
 have H : ((laws_szFrame.f l0_0 l0_1 1048576).bind fun t420 => (if t420 < 0 then (some true) else ((laws_szPullS.f l1 t420).bind fun t421 => (if t421 < 0 then (some true) else ((laws_toFrame.f k l0_0 l0_1).bind fun bt422 => ((laws_toPullS.f k l1).bind fun t428 => ((spec_ScaleLoads.f k bt422.1 bt422.2 t428 a2).bind fun bt431 => ((laws_toFrame.f k l0_0 l0_1).bind fun bt435 => ((laws_toPullS.f k l1).bind fun t442 => ((impl_ScaleLoads.f k bt435.1 bt435.2 t442 a2).bind fun bt445 => ((laws_eqPullS.f k bt445.1 bt431.1).bind fun t449 => (if t449 = true then (laws_FnExactScaleLoads.j0 k l1 a2 bt431.1 bt431.2 t442 bt445.1 bt445.2 (bt445.2 != bt431.2) l0_0 l0_1 bt435.1 bt435.2) else (laws_FnExactScaleLoads.j0 k l1 a2 bt431.1 bt431.2 t442 bt445.1 bt445.2 true l0_0 l0_1 bt435.1 bt435.2))))))))))))) = some r := h
 clear h
 replace H := Option.bind_eq_some_iff.mp H
 obtain ⟨t420, A40, H⟩ := H
 replace H : (if t420 < 0 then (some true) else ((laws_szPullS.f l1 t420).bind fun t421 => (if t421 < 0 then (some true) else ((laws_toFrame.f k l0_0 l0_1).bind fun bt422 => ((laws_toPullS.f k l1).bind fun t428 => ((spec_ScaleLoads.f k bt422.1 bt422.2 t428 a2).bind fun bt431 => ((laws_toFrame.f k l0_0 l0_1).bind fun bt435 => ((laws_toPullS.f k l1).bind fun t442 => ((impl_ScaleLoads.f k bt435.1 bt435.2 t442 a2).bind fun bt445 => ((laws_eqPullS.f k bt445.1 bt431.1).bind fun t449 => (if t449 = true then (laws_FnExactScaleLoads.j0 k l1 a2 bt431.1 bt431.2 t442 bt445.1 bt445.2 (bt445.2 != bt431.2) l0_0 l0_1 bt435.1 bt435.2) else (laws_FnExactScaleLoads.j0 k l1 a2 bt431.1 bt431.2 t442 bt445.1 bt445.2 true l0_0 l0_1 bt435.1 bt435.2)))))))))))) = some r := H
 have A4 := G A40
 clear A40
 by_cases c5 : t420 < 0
 ·rw [if_pos c5] at H
  have c5b0 : decide (t420 < 0) = true := decide_eq_true c5
  clear c5
  obtain rfl := Option.some.inj H
  go_enter Try.func11, Try.ntmps11
  go_wp2_with (first | ((with_reducible refine gate_dst (N := 3) rfl ?_); refine box_event ?hg (N := 3) ?hd (cs := #[.slice A0_0 l0_0.length c0_0, .slice A0_1 l0_1.length c0_1]) (t := 33) ?hr ?_; (case hd => rfl); (case hg => rfl); (case hr => first | (go_simp; done) | (go_simp; rfl)); intro gb419 hg w6 hbox hb; have n0_ := G (GN (by repeat (first | (with_reducible first | exact HB.out | apply Z | apply T | apply Y) | exact HB.out)) hb); have n1_ := G (hbox); have n2_ := G ((by rw [hg]; exact (GM (by repeat (first | (with_reducible first | exact HB.out | apply Z | apply T | apply Y) | exact HB.out))) : w.heap.size ≤ gb419)); have n3_ := G ((by rw [hg]; exact (GM (by repeat (first | (with_reducible first | exact HB.out | apply Z | apply T | apply Y) | exact HB.out))) : w.heap.size ≤ gb419)); clear HB; have HB := n0_; have BK419 := n1_; have GW419 := n2_; have GE419 := n3_; clear n0_ n1_ n2_ n3_; clear hb hbox hg; have hcz7_0 : w6.cell? ⟨gb419, 0, none⟩ = some (.slice A0_0 l0_0.length c0_0) := (E BK419.out 0).trans rfl; have hcz7_1 : w6.cell? ⟨gb419, 1, none⟩ = some (.slice A0_1 l0_1.length c0_1) := (E BK419.out 1).trans rfl; have hfz7_0 := GT BK419.out 0; have hfz7_1 := GT BK419.out 1) | ((with_reducible refine gate_callee (f := 19) rfl ?_); refine goesL_ (some 21) rfl rfl Try.func19 (by kernel_rfl) rfl #[.agg #[.slice A0_0 l0_0.length c0_0, .slice A0_1 l0_1.length c0_1], .int .i64 1048576] rfl (by (try simp only [List.map_toArray, List.map_cons, List.map_nil]); first | done | rfl | (simp only [List.length_drop, List.length_take]; rfl)) ?_; (with_reducible refine (laws_szFrame.calls _ _ l0_0 _ _ l0_1 1048576 t420 _ ?side1 ?side2 ?side3 ?side4 A4.out).mono ?_); (case side1 => repeat (first | exact (GO HR0_0.out HB.out) | (with_reducible refine P ?_ _) | (with_reducible refine GG ?_ _) | (with_reducible refine GJ ?_))); (case side2 => exact HC0_0.out); (case side3 => repeat (first | exact (GO HR0_1.out HB.out) | (with_reducible refine P ?_ _) | (with_reducible refine GG ?_ _) | (with_reducible refine GJ ?_))); (case side4 => exact HC0_1.out); rintro e w8 ⟨rfl, hb⟩; refine ⟨_, rfl, ?_⟩; have n0_ := G (F (g := gb419) (o := .cells #[.slice A0_0 l0_0.length c0_0, .slice A0_1 l0_1.length c0_1] 33 (0, 0)) (by (with_reducible repeat (first | refine U ?_ _ | refine X ?_ | refine V ?_ _)); exact BK419.out) hb); have n1_ := G (GN (by repeat (first | (with_reducible first | exact HB.out | apply Z | apply T | apply Y | refine O ?_ GE419.out) | exact HB.out)) hb); clear BK419; clear HB; have BK419 := n0_; have HB := n1_; clear n0_ n1_; (try clear hb); (try clear hb2); (try clear hk); (try clear hi)))
  go_ret
  exact ⟨by first | rfl | (simp [errW_none, errW_some] <;> rfl) | (simp [*, errW_none, errW_some] <;> rfl), by repeat (first | (with_reducible first | exact HB.out | apply Z | apply T | apply Y | refine O ?_ GE419.out) | exact HB.out)⟩
 ·rw [if_neg c5] at H
  have c5b0 : decide (t420 < 0) = false := decide_eq_false c5
  clear c5
  replace H := Option.bind_eq_some_iff.mp H
  obtain ⟨t421, A90, H⟩ := H
  replace H : (if t421 < 0 then (some true) else ((laws_toFrame.f k l0_0 l0_1).bind fun bt422 => ((laws_toPullS.f k l1).bind fun t428 => ((spec_ScaleLoads.f k bt422.1 bt422.2 t428 a2).bind fun bt431 => ((laws_toFrame.f k l0_0 l0_1).bind fun bt435 => ((laws_toPullS.f k l1).bind fun t442 => ((impl_ScaleLoads.f k bt435.1 bt435.2 t442 a2).bind fun bt445 => ((laws_eqPullS.f k bt445.1 bt431.1).bind fun t449 => (if t449 = true then (laws_FnExactScaleLoads.j0 k l1 a2 bt431.1 bt431.2 t442 bt445.1 bt445.2 (bt445.2 != bt431.2) l0_0 l0_1 bt435.1 bt435.2) else (laws_FnExactScaleLoads.j0 k l1 a2 bt431.1 bt431.2 t442 bt445.1 bt445.2 true l0_0 l0_1 bt435.1 bt435.2)))))))))) = some r := H
  have A9 := G A90
  clear A90
  by_cases c10 : t421 < 0
  ·rw [if_pos c10] at H
   have c10b0 : decide (t421 < 0) = true := decide_eq_true c10
   clear c10
   obtain rfl := Option.some.inj H
   go_enter Try.func11, Try.ntmps11
   go_wp2_with (first | ((with_reducible refine gate_dst (N := 3) rfl ?_); refine box_event ?hg (N := 3) ?hd (cs := #[.slice A0_0 l0_0.length c0_0, .slice A0_1 l0_1.length c0_1]) (t := 33) ?hr ?_; (case hd => rfl); (case hg => rfl); (case hr => first | (go_simp; done) | (go_simp; rfl)); intro gb419 hg w11 hbox hb; have n0_ := G (GN (by repeat (first | (with_reducible first | exact HB.out | apply Z | apply T | apply Y) | exact HB.out)) hb); have n1_ := G (hbox); have n2_ := G ((by rw [hg]; exact (GM (by repeat (first | (with_reducible first | exact HB.out | apply Z | apply T | apply Y) | exact HB.out))) : w.heap.size ≤ gb419)); have n3_ := G ((by rw [hg]; exact (GM (by repeat (first | (with_reducible first | exact HB.out | apply Z | apply T | apply Y) | exact HB.out))) : w.heap.size ≤ gb419)); clear HB; have HB := n0_; have BK419 := n1_; have GW419 := n2_; have GE419 := n3_; clear n0_ n1_ n2_ n3_; clear hb hbox hg; have hcz12_0 : w11.cell? ⟨gb419, 0, none⟩ = some (.slice A0_0 l0_0.length c0_0) := (E BK419.out 0).trans rfl; have hcz12_1 : w11.cell? ⟨gb419, 1, none⟩ = some (.slice A0_1 l0_1.length c0_1) := (E BK419.out 1).trans rfl; have hfz12_0 := GT BK419.out 0; have hfz12_1 := GT BK419.out 1) | ((with_reducible refine gate_callee (f := 19) rfl ?_); refine goesL_ (some 21) rfl rfl Try.func19 (by kernel_rfl) rfl #[.agg #[.slice A0_0 l0_0.length c0_0, .slice A0_1 l0_1.length c0_1], .int .i64 1048576] rfl (by (try simp only [List.map_toArray, List.map_cons, List.map_nil]); first | done | rfl | (simp only [List.length_drop, List.length_take]; rfl)) ?_; (with_reducible refine (laws_szFrame.calls _ _ l0_0 _ _ l0_1 1048576 t420 _ ?side1 ?side2 ?side3 ?side4 A4.out).mono ?_); (case side1 => repeat (first | exact (GO HR0_0.out HB.out) | (with_reducible refine P ?_ _) | (with_reducible refine GG ?_ _) | (with_reducible refine GJ ?_))); (case side2 => exact HC0_0.out); (case side3 => repeat (first | exact (GO HR0_1.out HB.out) | (with_reducible refine P ?_ _) | (with_reducible refine GG ?_ _) | (with_reducible refine GJ ?_))); (case side4 => exact HC0_1.out); rintro e w13 ⟨rfl, hb⟩; refine ⟨_, rfl, ?_⟩; have n0_ := G (F (g := gb419) (o := .cells #[.slice A0_0 l0_0.length c0_0, .slice A0_1 l0_1.length c0_1] 33 (0, 0)) (by (with_reducible repeat (first | refine U ?_ _ | refine X ?_ | refine V ?_ _)); exact BK419.out) hb); have n1_ := G (GN (by repeat (first | (with_reducible first | exact HB.out | apply Z | apply T | apply Y | refine O ?_ GE419.out) | exact HB.out)) hb); clear BK419; clear HB; have BK419 := n0_; have HB := n1_; clear n0_ n1_; (try clear hb); (try clear hb2); (try clear hk); (try clear hi)) | ((with_reducible refine gate_callee (f := 28) rfl ?_); refine goesL_ (some 26) rfl rfl Try.func28 (by kernel_rfl) rfl #[.slice A1 l1.length c1, .int .i64 t420] rfl (by (try simp only [List.map_toArray, List.map_cons, List.map_nil]); first | done | rfl | (simp only [List.length_drop, List.length_take]; rfl)) ?_; (with_reducible refine (laws_szPullS.calls _ _ l1 t420 t421 _ ?side1 ?side2 A9.out).mono ?_); (case side1 => repeat (first | exact (GO HR1.out HB.out) | (with_reducible refine P ?_ _) | (with_reducible refine GG ?_ _) | (with_reducible refine GJ ?_))); (case side2 => exact HC1.out); rintro e w' ⟨rfl, ⟨nd, rfl⟩⟩; refine ⟨_, rfl, ?_⟩))
   go_ret
   exact ⟨by first | rfl | (simp [errW_none, errW_some] <;> rfl) | (simp [*, errW_none, errW_some] <;> rfl), by repeat (first | (with_reducible first | exact HB.out | apply Z | apply T | apply Y | refine O ?_ GE419.out) | exact HB.out)⟩
  ·rw [if_neg c10] at H
   have c10b0 : decide (t421 < 0) = false := decide_eq_false c10
   clear c10
   replace H := Option.bind_eq_some_iff.mp H
   obtain ⟨⟨t422, t425⟩, A140, H⟩ := H
   replace H : ((laws_toPullS.f k l1).bind fun t428 => ((spec_ScaleLoads.f k t422 t425 t428 a2).bind fun bt431 => ((laws_toFrame.f k l0_0 l0_1).bind fun bt435 => ((laws_toPullS.f k l1).bind fun t442 => ((impl_ScaleLoads.f k bt435.1 bt435.2 t442 a2).bind fun bt445 => ((laws_eqPullS.f k bt445.1 bt431.1).bind fun t449 => (if t449 = true then (laws_FnExactScaleLoads.j0 k l1 a2 bt431.1 bt431.2 t442 bt445.1 bt445.2 (bt445.2 != bt431.2) l0_0 l0_1 bt435.1 bt435.2) else (laws_FnExactScaleLoads.j0 k l1 a2 bt431.1 bt431.2 t442 bt445.1 bt445.2 true l0_0 l0_1 bt435.1 bt435.2)))))))) = some r := H
   have A14 := G A140
   clear A140
   replace H := Option.bind_eq_some_iff.mp H
   obtain ⟨t428, A150, H⟩ := H
   replace H : ((spec_ScaleLoads.f k t422 t425 t428 a2).bind fun bt431 => ((laws_toFrame.f k l0_0 l0_1).bind fun bt435 => ((laws_toPullS.f k l1).bind fun t442 => ((impl_ScaleLoads.f k bt435.1 bt435.2 t442 a2).bind fun bt445 => ((laws_eqPullS.f k bt445.1 bt431.1).bind fun t449 => (if t449 = true then (laws_FnExactScaleLoads.j0 k l1 a2 bt431.1 bt431.2 t442 bt445.1 bt445.2 (bt445.2 != bt431.2) l0_0 l0_1 bt435.1 bt435.2) else (laws_FnExactScaleLoads.j0 k l1 a2 bt431.1 bt431.2 t442 bt445.1 bt445.2 true l0_0 l0_1 bt435.1 bt435.2))))))) = some r := H
   have A15 := G A150
   clear A150
   replace H := Option.bind_eq_some_iff.mp H
   obtain ⟨⟨t431, t434⟩, A160, H⟩ := H
   replace H : ((laws_toFrame.f k l0_0 l0_1).bind fun bt435 => ((laws_toPullS.f k l1).bind fun t442 => ((impl_ScaleLoads.f k bt435.1 bt435.2 t442 a2).bind fun bt445 => ((laws_eqPullS.f k bt445.1 t431).bind fun t449 => (if t449 = true then (laws_FnExactScaleLoads.j0 k l1 a2 t431 t434 t442 bt445.1 bt445.2 (bt445.2 != t434) l0_0 l0_1 bt435.1 bt435.2) else (laws_FnExactScaleLoads.j0 k l1 a2 t431 t434 t442 bt445.1 bt445.2 true l0_0 l0_1 bt435.1 bt435.2)))))) = some r := H
   have A16 := G A160
   clear A160
   replace H := Option.bind_eq_some_iff.mp H
   obtain ⟨⟨t435, t438⟩, A170, H⟩ := H
   replace H : ((laws_toPullS.f k l1).bind fun t442 => ((impl_ScaleLoads.f k t435 t438 t442 a2).bind fun bt445 => ((laws_eqPullS.f k bt445.1 t431).bind fun t449 => (if t449 = true then (laws_FnExactScaleLoads.j0 k l1 a2 t431 t434 t442 bt445.1 bt445.2 (bt445.2 != t434) l0_0 l0_1 t435 t438) else (laws_FnExactScaleLoads.j0 k l1 a2 t431 t434 t442 bt445.1 bt445.2 true l0_0 l0_1 t435 t438))))) = some r := H
   have A17 := G A170
   clear A170
   replace H := Option.bind_eq_some_iff.mp H
   obtain ⟨t442, A180, H⟩ := H
   replace H : ((impl_ScaleLoads.f k t435 t438 t442 a2).bind fun bt445 => ((laws_eqPullS.f k bt445.1 t431).bind fun t449 => (if t449 = true then (laws_FnExactScaleLoads.j0 k l1 a2 t431 t434 t442 bt445.1 bt445.2 (bt445.2 != t434) l0_0 l0_1 t435 t438) else (laws_FnExactScaleLoads.j0 k l1 a2 t431 t434 t442 bt445.1 bt445.2 true l0_0 l0_1 t435 t438)))) = some r := H
   have A18 := G A180
   clear A180
   replace H := Option.bind_eq_some_iff.mp H
   obtain ⟨⟨t445, t448⟩, A190, H⟩ := H
   replace H : ((laws_eqPullS.f k t445 t431).bind fun t449 => (if t449 = true then (laws_FnExactScaleLoads.j0 k l1 a2 t431 t434 t442 t445 t448 (t448 != t434) l0_0 l0_1 t435 t438) else (laws_FnExactScaleLoads.j0 k l1 a2 t431 t434 t442 t445 t448 true l0_0 l0_1 t435 t438))) = some r := H
   have A19 := G A190
   clear A190
   have HC20 := G H
   clear H
   go_enter Try.func11, Try.ntmps11
   go_upto_region 12 with (first | ((with_reducible refine gate_dst (N := 3) rfl ?_); refine box_event ?hg (N := 3) ?hd (cs := #[.slice A0_0 l0_0.length c0_0, .slice A0_1 l0_1.length c0_1]) (t := 33) ?hr ?_; (case hd => rfl); (case hg => rfl); (case hr => first | (go_simp; done) | (go_simp; rfl)); intro gb419 hg w21 hbox hb; have n0_ := G (GN (by repeat (first | (with_reducible first | exact HB.out | apply Z | apply T | apply Y) | exact HB.out)) hb); have n1_ := G (hbox); have n2_ := G ((by rw [hg]; exact (GM (by repeat (first | (with_reducible first | exact HB.out | apply Z | apply T | apply Y) | exact HB.out))) : w.heap.size ≤ gb419)); have n3_ := G ((by rw [hg]; exact (GM (by repeat (first | (with_reducible first | exact HB.out | apply Z | apply T | apply Y) | exact HB.out))) : w.heap.size ≤ gb419)); clear HB; have HB := n0_; have BK419 := n1_; have GW419 := n2_; have GE419 := n3_; clear n0_ n1_ n2_ n3_; clear hb hbox hg; have hcz22_0 : w21.cell? ⟨gb419, 0, none⟩ = some (.slice A0_0 l0_0.length c0_0) := (E BK419.out 0).trans rfl; have hcz22_1 : w21.cell? ⟨gb419, 1, none⟩ = some (.slice A0_1 l0_1.length c0_1) := (E BK419.out 1).trans rfl; have hfz22_0 := GT BK419.out 0; have hfz22_1 := GT BK419.out 1) | ((with_reducible refine gate_callee (f := 19) rfl ?_); refine goesL_ (some 21) rfl rfl Try.func19 (by kernel_rfl) rfl #[.agg #[.slice A0_0 l0_0.length c0_0, .slice A0_1 l0_1.length c0_1], .int .i64 1048576] rfl (by (try simp only [List.map_toArray, List.map_cons, List.map_nil]); first | done | rfl | (simp only [List.length_drop, List.length_take]; rfl)) ?_; (with_reducible refine (laws_szFrame.calls _ _ l0_0 _ _ l0_1 1048576 t420 _ ?side1 ?side2 ?side3 ?side4 A4.out).mono ?_); (case side1 => repeat (first | exact (GO HR0_0.out HB.out) | (with_reducible refine P ?_ _) | (with_reducible refine GG ?_ _) | (with_reducible refine GJ ?_))); (case side2 => exact HC0_0.out); (case side3 => repeat (first | exact (GO HR0_1.out HB.out) | (with_reducible refine P ?_ _) | (with_reducible refine GG ?_ _) | (with_reducible refine GJ ?_))); (case side4 => exact HC0_1.out); rintro e w23 ⟨rfl, hb⟩; refine ⟨_, rfl, ?_⟩; have n0_ := G (F (g := gb419) (o := .cells #[.slice A0_0 l0_0.length c0_0, .slice A0_1 l0_1.length c0_1] 33 (0, 0)) (by (with_reducible repeat (first | refine U ?_ _ | refine X ?_ | refine V ?_ _)); exact BK419.out) hb); have n1_ := G (GN (by repeat (first | (with_reducible first | exact HB.out | apply Z | apply T | apply Y | refine O ?_ GE419.out) | exact HB.out)) hb); clear BK419; clear HB; have BK419 := n0_; have HB := n1_; clear n0_ n1_; (try clear hb); (try clear hb2); (try clear hk); (try clear hi)) | ((with_reducible refine gate_callee (f := 28) rfl ?_); refine goesL_ (some 26) rfl rfl Try.func28 (by kernel_rfl) rfl #[.slice A1 l1.length c1, .int .i64 t420] rfl (by (try simp only [List.map_toArray, List.map_cons, List.map_nil]); first | done | rfl | (simp only [List.length_drop, List.length_take]; rfl)) ?_; (with_reducible refine (laws_szPullS.calls _ _ l1 t420 t421 _ ?side1 ?side2 A9.out).mono ?_); (case side1 => repeat (first | exact (GO HR1.out HB.out) | (with_reducible refine P ?_ _) | (with_reducible refine GG ?_ _) | (with_reducible refine GJ ?_))); (case side2 => exact HC1.out); rintro e w' ⟨rfl, ⟨nd, rfl⟩⟩; refine ⟨_, rfl, ?_⟩; (try (rw [drewN_self w23]; generalize hq_ : World.drewN w23 _ = w23; have n0_ : Aside0 (w23.heap[gb419]? = some (.cells #[.slice A0_0 l0_0.length c0_0, .slice A0_1 l0_1.length c0_1] 33 (0, 0))) := ⟨by rw [← hq_]; exact (by (with_reducible repeat (first | refine U ?_ _ | refine X ?_ | refine V ?_ _)); exact BK419.out)⟩; have n1_ : Aside0 (Below w.heap.size w w23) := ⟨by rw [← hq_]; exact (by repeat (first | (with_reducible first | exact HB.out | apply Z | apply T | apply Y | refine O ?_ GE419.out) | exact HB.out))⟩; clear BK419 HB hq_; have BK419 := n0_; have HB := n1_; clear n0_ n1_)); have hcz24_0 : w23.cell? ⟨gb419, 0, none⟩ = some (.slice A0_0 l0_0.length c0_0) := (E BK419.out 0).trans rfl; have hcz24_1 : w23.cell? ⟨gb419, 1, none⟩ = some (.slice A0_1 l0_1.length c0_1) := (E BK419.out 1).trans rfl; have hfz24_0 := GT BK419.out 0; have hfz24_1 := GT BK419.out 1) | ((with_reducible refine gate_callee (f := 21) rfl ?_); refine goesL_ (some 31) rfl rfl Try.func21 (by kernel_rfl) rfl #[.agg #[.slice A0_0 l0_0.length c0_0, .slice A0_1 l0_1.length c0_1]] rfl (by (try simp only [List.map_toArray, List.map_cons, List.map_nil]); first | done | rfl | (simp only [List.length_drop, List.length_take]; rfl)) ?_; (with_reducible refine (laws_toFrame.calls k _ _ l0_0 _ _ l0_1 t422 t425 _ ?side1 ?side2 ?side3 ?side4 A14.out).mono ?_); (case side1 => repeat (first | exact (GO HR0_0.out HB.out) | (with_reducible refine P ?_ _) | (with_reducible refine GG ?_ _) | (with_reducible refine GJ ?_))); (case side2 => exact HC0_0.out); (case side3 => repeat (first | exact (GO HR0_1.out HB.out) | (with_reducible refine P ?_ _) | (with_reducible refine GG ?_ _) | (with_reducible refine GJ ?_))); (case side4 => exact HC0_1.out); rintro e w25 ⟨v423, v426, rfl, ho0, ho1, hb⟩; refine ⟨_, rfl, ?_⟩; have n0_ := G (Kd.R_lower ho0 (GM (by repeat (first | (with_reducible first | exact HB.out | apply Z | apply T | apply Y | refine O ?_ GE419.out) | exact HB.out)))); have n1_ := G (Kd.R_lower ho1 (GM (by repeat (first | (with_reducible first | exact HB.out | apply Z | apply T | apply Y | refine O ?_ GE419.out) | exact HB.out)))); have n2_ := G (F (g := gb419) (o := .cells #[.slice A0_0 l0_0.length c0_0, .slice A0_1 l0_1.length c0_1] 33 (0, 0)) (by (with_reducible repeat (first | refine U ?_ _ | refine X ?_ | refine V ?_ _)); exact BK419.out) hb); have n3_ := G (GN (by repeat (first | (with_reducible first | exact HB.out | apply Z | apply T | apply Y | refine O ?_ GE419.out) | exact HB.out)) hb); clear BK419; clear HB; have HO424 := n0_; have HO427 := n1_; have BK419 := n2_; have HB := n3_; clear n0_ n1_ n2_ n3_; (try clear hb); (try clear hb2); (try clear hk); (try clear hi); (try clear ho0); (try clear ho1)) | ((with_reducible refine gate_callee (f := 30) rfl ?_); refine goesL_ (some 33) rfl rfl Try.func30 (by kernel_rfl) rfl #[.slice A1 l1.length c1] rfl (by (try simp only [List.map_toArray, List.map_cons, List.map_nil]); first | done | rfl | (simp only [List.length_drop, List.length_take]; rfl)) ?_; (with_reducible refine (laws_toPullS.calls k _ _ l1 t428 _ ?side1 ?side2 A15.out).mono ?_); (case side1 => repeat (first | exact (GO HR1.out HB.out) | (with_reducible refine P ?_ _) | (with_reducible refine GG ?_ _) | (with_reducible refine GJ ?_))); (case side2 => exact HC1.out); rintro e w26 ⟨v429, rfl, ho0, hb⟩; refine ⟨_, rfl, ?_⟩; have n0_ := G (B (by (with_reducible repeat (first | apply J | apply L | apply M)); exact HO424.out) hb); have n1_ := G (B (by (with_reducible repeat (first | apply J | apply L | apply M)); exact HO427.out) hb); have n2_ := G (Kd.R_lower ho0 (GM (by repeat (first | (with_reducible first | exact HB.out | apply Z | apply T | apply Y | refine O ?_ GE419.out) | exact HB.out)))); have n3_ := G (F (g := gb419) (o := .cells #[.slice A0_0 l0_0.length c0_0, .slice A0_1 l0_1.length c0_1] 33 (0, 0)) (by (with_reducible repeat (first | refine U ?_ _ | refine X ?_ | refine V ?_ _)); exact BK419.out) hb); have n4_ := G (GN (by repeat (first | (with_reducible first | exact HB.out | apply Z | apply T | apply Y | refine O ?_ GE419.out) | exact HB.out)) hb); clear HO424; clear HO427; clear BK419; clear HB; have HO424 := n0_; have HO427 := n1_; have HO430 := n2_; have BK419 := n3_; have HB := n4_; clear n0_ n1_ n2_ n3_ n4_; (try clear hb); (try clear hb2); (try clear hk); (try clear hi); (try clear ho0); obtain ⟨Ao27, co27, eo27⟩ := Kd.R_slice HO424.out; subst eo27; obtain ⟨Ao28, co28, eo28⟩ := Kd.R_slice HO427.out; subst eo28; obtain ⟨Ao29, co29, eo29⟩ := Kd.R_slice HO430.out; subst eo29) | ((with_reducible refine gate_callee (f := 45) rfl ?_); refine goesL_ (some 35) rfl rfl Try.func45 (by kernel_rfl) rfl #[.agg #[.slice Ao27 t422.length co27, .slice Ao28 t425.length co28], .slice Ao29 t428.length co29, .int .i64 a2] rfl (by (try simp only [List.map_toArray, List.map_cons, List.map_nil]); first | done | rfl | (simp only [List.length_drop, List.length_take]; rfl)) ?_; (with_reducible refine (spec_ScaleLoads.calls k _ _ t422 _ _ t425 _ _ t428 a2 t431 t434 _ ?side1 ?side2 ?side3 ?side4 ?side5 ?side6 A16.out).mono ?_); (case side1 => repeat (first | exact (Kd.R_reads' HO424.out).2.2 | (with_reducible refine P ?_ _) | (with_reducible refine GG ?_ _) | (with_reducible refine GJ ?_))); (case side2 => exact (Kd.R_reads' HO424.out).2.1); (case side3 => repeat (first | exact (Kd.R_reads' HO427.out).2.2 | (with_reducible refine P ?_ _) | (with_reducible refine GG ?_ _) | (with_reducible refine GJ ?_))); (case side4 => exact (Kd.R_reads' HO427.out).2.1); (case side5 => repeat (first | exact (Kd.R_reads' HO430.out).2.2 | (with_reducible refine P ?_ _) | (with_reducible refine GG ?_ _) | (with_reducible refine GJ ?_))); (case side6 => exact (Kd.R_reads' HO430.out).2.1); rintro e w30 ⟨v432, rfl, ho0, hb⟩; refine ⟨_, rfl, ?_⟩; have n0_ := G (B (by (with_reducible repeat (first | apply J | apply L | apply M)); exact HO424.out) hb); have n1_ := G (B (by (with_reducible repeat (first | apply J | apply L | apply M)); exact HO427.out) hb); have n2_ := G (Kd.R_elder' (by (with_reducible repeat (first | apply J | apply L | apply M)); exact HO430.out) (Kd.R_base ho0) hb); have n3_ := G (Kd.R_lower (GL ho0 (Kd.R_lt (by (with_reducible repeat (first | apply J | apply L | apply M)); exact HO430.out))) (GM (by repeat (first | (with_reducible first | exact HB.out | apply Z | apply T | apply Y | refine O ?_ GE419.out) | exact HB.out)))); have n4_ := G (F (g := gb419) (o := .cells #[.slice A0_0 l0_0.length c0_0, .slice A0_1 l0_1.length c0_1] 33 (0, 0)) (by (with_reducible repeat (first | refine U ?_ _ | refine X ?_ | refine V ?_ _)); exact BK419.out) hb); have n5_ := G (GN (by repeat (first | (with_reducible first | exact HB.out | apply Z | apply T | apply Y | refine O ?_ GE419.out) | exact HB.out)) hb); clear HO424; clear HO427; clear HO430; clear BK419; clear HB; have HO424 := n0_; have HO427 := n1_; have HO430 := n2_; have HO433 := n3_; have BK419 := n4_; have HB := n5_; clear n0_ n1_ n2_ n3_ n4_ n5_; (try clear hb); (try clear hb2); (try clear hk); (try clear hi); (try clear ho0); have hcz31_0 : w30.cell? ⟨gb419, 0, none⟩ = some (.slice A0_0 l0_0.length c0_0) := (E BK419.out 0).trans rfl; have hcz31_1 : w30.cell? ⟨gb419, 1, none⟩ = some (.slice A0_1 l0_1.length c0_1) := (E BK419.out 1).trans rfl; have hfz31_0 := GT BK419.out 0; have hfz31_1 := GT BK419.out 1) | ((with_reducible refine gate_callee (f := 21) rfl ?_); refine goesL_ (some 39) rfl rfl Try.func21 (by kernel_rfl) rfl #[.agg #[.slice A0_0 l0_0.length c0_0, .slice A0_1 l0_1.length c0_1]] rfl (by (try simp only [List.map_toArray, List.map_cons, List.map_nil]); first | done | rfl | (simp only [List.length_drop, List.length_take]; rfl)) ?_; (with_reducible refine (laws_toFrame.calls k _ _ l0_0 _ _ l0_1 t435 t438 _ ?side1 ?side2 ?side3 ?side4 A17.out).mono ?_); (case side1 => repeat (first | exact (GO HR0_0.out HB.out) | (with_reducible refine P ?_ _) | (with_reducible refine GG ?_ _) | (with_reducible refine GJ ?_))); (case side2 => exact HC0_0.out); (case side3 => repeat (first | exact (GO HR0_1.out HB.out) | (with_reducible refine P ?_ _) | (with_reducible refine GG ?_ _) | (with_reducible refine GJ ?_))); (case side4 => exact HC0_1.out); rintro e w32 ⟨v436, v439, rfl, ho0, ho1, hb⟩; refine ⟨_, rfl, ?_⟩; have n0_ := G (Kd.R_elder' (by (with_reducible repeat (first | apply J | apply L | apply M)); exact HO424.out) (Kd.R_base ho0) hb); have n1_ := G (Kd.R_elder' (by (with_reducible repeat (first | apply J | apply L | apply M)); exact HO427.out) (Kd.R_base ho1) hb); have n2_ := G (B (by (with_reducible repeat (first | apply J | apply L | apply M)); exact HO430.out) hb); have n3_ := G (B (by (with_reducible repeat (first | apply J | apply L | apply M)); exact HO433.out) hb); have n4_ := G (Kd.R_lower (GL ho0 (Kd.R_lt (by (with_reducible repeat (first | apply J | apply L | apply M)); exact HO424.out))) (GM (by repeat (first | (with_reducible first | exact HB.out | apply Z | apply T | apply Y | refine O ?_ GE419.out) | exact HB.out)))); have n5_ := G (Kd.R_lower (GL ho1 (Kd.R_lt (by (with_reducible repeat (first | apply J | apply L | apply M)); exact HO427.out))) (GM (by repeat (first | (with_reducible first | exact HB.out | apply Z | apply T | apply Y | refine O ?_ GE419.out) | exact HB.out)))); have n6_ := G (F (g := gb419) (o := .cells #[.slice A0_0 l0_0.length c0_0, .slice A0_1 l0_1.length c0_1] 33 (0, 0)) (by (with_reducible repeat (first | refine U ?_ _ | refine X ?_ | refine V ?_ _)); exact BK419.out) hb); have n7_ := G (GN (by repeat (first | (with_reducible first | exact HB.out | apply Z | apply T | apply Y | refine O ?_ GE419.out) | exact HB.out)) hb); clear HO424; clear HO427; clear HO430; clear HO433; clear BK419; clear HB; have HO424 := n0_; have HO427 := n1_; have HO430 := n2_; have HO433 := n3_; have HO437 := n4_; have HO440 := n5_; have BK419 := n6_; have HB := n7_; clear n0_ n1_ n2_ n3_ n4_ n5_ n6_ n7_; (try clear hb); (try clear hb2); (try clear hk); (try clear hi); (try clear ho0); (try clear ho1)) | ((with_reducible refine gate_dst (N := 10) rfl ?_); refine box_event ?hg (N := 10) ?hd (cs := #[.slice none 0 0, .slice none 0 0]) (t := 39) ?hr ?_; (case hd => rfl); (case hg => rfl); (case hr => first | (go_simp; done) | (go_simp; rfl)); intro gb441 hg w33 hbox hb; have n0_ := G (B (by (with_reducible repeat (first | apply J | apply L | apply M)); exact HO424.out) hb); have n1_ := G (B (by (with_reducible repeat (first | apply J | apply L | apply M)); exact HO427.out) hb); have n2_ := G (B (by (with_reducible repeat (first | apply J | apply L | apply M)); exact HO430.out) hb); have n3_ := G (B (by (with_reducible repeat (first | apply J | apply L | apply M)); exact HO433.out) hb); have n4_ := G (B (by (with_reducible repeat (first | apply J | apply L | apply M)); exact HO437.out) hb); have n5_ := G (B (by (with_reducible repeat (first | apply J | apply L | apply M)); exact HO440.out) hb); have n6_ := G (F (g := gb419) (o := .cells #[.slice A0_0 l0_0.length c0_0, .slice A0_1 l0_1.length c0_1] 33 (0, 0)) (by (with_reducible repeat (first | refine U ?_ _ | refine X ?_ | refine V ?_ _)); exact BK419.out) hb); have n7_ := G (GN (by repeat (first | (with_reducible first | exact HB.out | apply Z | apply T | apply Y | refine O ?_ GE419.out) | exact HB.out)) hb); have n8_ := G (hbox); have n9_ := G ((by rw [hg]; exact (GM (by repeat (first | (with_reducible first | exact HB.out | apply Z | apply T | apply Y | refine O ?_ GE419.out) | exact HB.out))) : w.heap.size ≤ gb441)); have n10_ := G ((by rw [hg]; exact (GM (by repeat (first | (with_reducible first | exact HB.out | apply Z | apply T | apply Y | refine O ?_ GE419.out) | exact HB.out))) : w.heap.size ≤ gb441)); have n11_ := G ((by rw [hg]; exact Nat.ne_of_lt (blk_lt (g := gb419) (o := .cells #[.slice A0_0 l0_0.length c0_0, .slice A0_1 l0_1.length c0_1] 33 (0, 0)) (by (with_reducible repeat (first | refine U ?_ _ | refine X ?_ | refine V ?_ _)); exact BK419.out)) : gb419 ≠ gb441)); have n12_ := G ((by rw [hg]; exact Nat.ne_of_gt (blk_lt (g := gb419) (o := .cells #[.slice A0_0 l0_0.length c0_0, .slice A0_1 l0_1.length c0_1] 33 (0, 0)) (by (with_reducible repeat (first | refine U ?_ _ | refine X ?_ | refine V ?_ _)); exact BK419.out)) : gb441 ≠ gb419)); clear HO424; clear HO427; clear HO430; clear HO433; clear HO437; clear HO440; clear BK419; clear HB; have HO424 := n0_; have HO427 := n1_; have HO430 := n2_; have HO433 := n3_; have HO437 := n4_; have HO440 := n5_; have BK419 := n6_; have HB := n7_; have BK441 := n8_; have GW441 := n9_; have GE441 := n10_; have NB419_441 := n11_; have NB441_419 := n12_; clear n0_ n1_ n2_ n3_ n4_ n5_ n6_ n7_ n8_ n9_ n10_ n11_ n12_; clear hb hbox hg; obtain ⟨Ao34, co34, eo34⟩ := Kd.R_slice HO437.out; subst eo34; have hnb35 := NB441_419.out; have hnc35 := NB419_441.out; have hcz36_0 : w33.cell? ⟨gb441, 0, none⟩ = some (.slice none 0 0) := (E BK441.out 0).trans rfl; have hcz36_1 : w33.cell? ⟨gb441, 1, none⟩ = some (.slice none 0 0) := (E BK441.out 1).trans rfl; have hfz36_0 := GT BK441.out 0; have hfz36_1 := GT BK441.out 1; obtain ⟨Ao37, co37, eo37⟩ := Kd.R_slice HO440.out; subst eo37) | ((with_reducible refine gate_callee (f := 30) rfl ?_); refine goesL_ (some 41) rfl rfl Try.func30 (by kernel_rfl) rfl #[.slice A1 l1.length c1] rfl (by (try simp only [List.map_toArray, List.map_cons, List.map_nil]); first | done | rfl | (simp only [List.length_drop, List.length_take]; rfl)) ?_; (with_reducible refine (laws_toPullS.calls k _ _ l1 t442 _ ?side1 ?side2 A18.out).mono ?_); (case side1 => exact GO HR1.out (by repeat (first | (with_reducible first | exact HB.out | apply Z | apply T | apply Y | refine O ?_ GE419.out | refine O ?_ GE441.out) | exact HB.out))); (case side2 => exact HC1.out); rintro e w38 ⟨v443, rfl, ho0, hb⟩; refine ⟨_, rfl, ?_⟩; have n0_ := G (B (by (with_reducible repeat (first | apply J | apply L | apply M)); exact (I (D (p := ⟨gb441, 1, none⟩) (D (p := ⟨gb441, 0, none⟩) (Kd.R_types HO424.out BK441.out (by decide)) (fun _ hk => hk.2) (.slice Ao34 t435.length co34)) (fun _ hk => hk.2) (.slice Ao37 t438.length co37)) (fun _ h_ => h_.1))) hb); have n1_ := G (B (by (with_reducible repeat (first | apply J | apply L | apply M)); exact (I (D (p := ⟨gb441, 1, none⟩) (D (p := ⟨gb441, 0, none⟩) (Kd.R_types HO427.out BK441.out (by decide)) (fun _ hk => hk.2) (.slice Ao34 t435.length co34)) (fun _ hk => hk.2) (.slice Ao37 t438.length co37)) (fun _ h_ => h_.1))) hb); have n2_ := G (Kd.R_elder' (by (with_reducible repeat (first | apply J | apply L | apply M)); exact (I (D (p := ⟨gb441, 1, none⟩) (D (p := ⟨gb441, 0, none⟩) (Kd.R_types HO430.out BK441.out (by decide)) (fun _ hk => hk.2) (.slice Ao34 t435.length co34)) (fun _ hk => hk.2) (.slice Ao37 t438.length co37)) (fun _ h_ => h_.1))) (Kd.R_base ho0) hb); have n3_ := G (Kd.R_elder' (by (with_reducible repeat (first | apply J | apply L | apply M)); exact (I (D (p := ⟨gb441, 1, none⟩) (D (p := ⟨gb441, 0, none⟩) (Kd.R_types HO433.out BK441.out (by decide)) (fun _ hk => hk.2) (.slice Ao34 t435.length co34)) (fun _ hk => hk.2) (.slice Ao37 t438.length co37)) (fun _ h_ => h_.1))) (Kd.R_base ho0) hb); have n4_ := G (B (by (with_reducible repeat (first | apply J | apply L | apply M)); exact (I (D (p := ⟨gb441, 1, none⟩) (D (p := ⟨gb441, 0, none⟩) (Kd.R_types HO437.out BK441.out (by decide)) (fun _ hk => hk.2) (.slice Ao34 t435.length co34)) (fun _ hk => hk.2) (.slice Ao37 t438.length co37)) (fun _ h_ => h_.1))) hb); have n5_ := G (B (by (with_reducible repeat (first | apply J | apply L | apply M)); exact (I (D (p := ⟨gb441, 1, none⟩) (D (p := ⟨gb441, 0, none⟩) (Kd.R_types HO440.out BK441.out (by decide)) (fun _ hk => hk.2) (.slice Ao34 t435.length co34)) (fun _ hk => hk.2) (.slice Ao37 t438.length co37)) (fun _ h_ => h_.1))) hb); have n6_ := G (Kd.R_lower (GL (GL ho0 (Kd.R_lt (by (with_reducible repeat (first | apply J | apply L | apply M)); exact (I (D (p := ⟨gb441, 1, none⟩) (D (p := ⟨gb441, 0, none⟩) (Kd.R_types HO430.out BK441.out (by decide)) (fun _ hk => hk.2) (.slice Ao34 t435.length co34)) (fun _ hk => hk.2) (.slice Ao37 t438.length co37)) (fun _ h_ => h_.1))))) (Kd.R_lt (by (with_reducible repeat (first | apply J | apply L | apply M)); exact (I (D (p := ⟨gb441, 1, none⟩) (D (p := ⟨gb441, 0, none⟩) (Kd.R_types HO433.out BK441.out (by decide)) (fun _ hk => hk.2) (.slice Ao34 t435.length co34)) (fun _ hk => hk.2) (.slice Ao37 t438.length co37)) (fun _ h_ => h_.1))))) (GM (by repeat (first | (with_reducible first | exact HB.out | apply Z | apply T | apply Y | refine O ?_ GE419.out | refine O ?_ GE441.out) | exact HB.out)))); have n7_ := G (F (g := gb419) (o := .cells #[.slice A0_0 l0_0.length c0_0, .slice A0_1 l0_1.length c0_1] 33 (0, 0)) (by (with_reducible repeat (first | refine U ?_ _ | refine X ?_ | refine V ?_ _)); refine blk_far ?_ NB419_441.out _; (with_reducible repeat (first | refine U ?_ _ | refine X ?_ | refine V ?_ _)); refine blk_far ?_ NB419_441.out _; (with_reducible repeat (first | refine U ?_ _ | refine X ?_ | refine V ?_ _)); exact BK419.out) hb); have n8_ := G (F (g := gb441) (o := .cells #[.slice Ao34 t435.length co34, .slice Ao37 t438.length co37] 39 (0, 0)) (by (with_reducible repeat (first | refine U ?_ _ | refine X ?_ | refine V ?_ _)); refine blk_put (cs := #[.slice Ao34 t435.length co34, .slice none 0 0]) ?_ 1 _ rfl; (with_reducible repeat (first | refine U ?_ _ | refine X ?_ | refine V ?_ _)); refine blk_put (cs := #[.slice none 0 0, .slice none 0 0]) ?_ 0 _ rfl; (with_reducible repeat (first | refine U ?_ _ | refine X ?_ | refine V ?_ _)); exact BK441.out) hb); have n9_ := G (GN (by repeat (first | (with_reducible first | exact HB.out | apply Z | apply T | apply Y | refine O ?_ GE419.out | refine O ?_ GE441.out) | exact HB.out)) hb); clear HO424; clear HO427; clear HO430; clear HO433; clear HO437; clear HO440; clear BK419; clear BK441; clear HB; have HO424 := n0_; have HO427 := n1_; have HO430 := n2_; have HO433 := n3_; have HO437 := n4_; have HO440 := n5_; have HO444 := n6_; have BK419 := n7_; have BK441 := n8_; have HB := n9_; clear n0_ n1_ n2_ n3_ n4_ n5_ n6_ n7_ n8_ n9_; (try clear hb); (try clear hb2); (try clear hk); (try clear hi); (try clear ho0); have hcz39_0 : w38.cell? ⟨gb441, 0, none⟩ = some (.slice Ao34 t435.length co34) := (E BK441.out 0).trans rfl; have hcz39_1 : w38.cell? ⟨gb441, 1, none⟩ = some (.slice Ao37 t438.length co37) := (E BK441.out 1).trans rfl; have hfz39_0 := GT BK441.out 0; have hfz39_1 := GT BK441.out 1; obtain ⟨Ao40, co40, eo40⟩ := Kd.R_slice HO444.out; subst eo40) | ((with_reducible refine gate_callee (f := 46) rfl ?_); refine goesL_ (some 46) rfl rfl Try.func46 (by kernel_rfl) rfl #[.agg #[.slice Ao34 t435.length co34, .slice Ao37 t438.length co37], .slice Ao40 t442.length co40, .int .i64 a2] rfl (by (try simp only [List.map_toArray, List.map_cons, List.map_nil]); first | done | rfl | (simp only [List.length_drop, List.length_take]; rfl)) ?_; (with_reducible refine (impl_ScaleLoads.calls k _ _ t435 _ _ t438 _ _ t442 a2 t445 t448 _ ?side1 ?side2 ?side3 ?side4 ?side5 ?side6 A19.out).mono ?_); (case side1 => repeat (first | exact (Kd.R_reads' HO437.out).2.2 | (with_reducible refine P ?_ _) | (with_reducible refine GG ?_ _) | (with_reducible refine GJ ?_))); (case side2 => exact (Kd.R_reads' HO437.out).2.1); (case side3 => repeat (first | exact (Kd.R_reads' HO440.out).2.2 | (with_reducible refine P ?_ _) | (with_reducible refine GG ?_ _) | (with_reducible refine GJ ?_))); (case side4 => exact (Kd.R_reads' HO440.out).2.1); (case side5 => repeat (first | exact (Kd.R_reads' HO444.out).2.2 | (with_reducible refine P ?_ _) | (with_reducible refine GG ?_ _) | (with_reducible refine GJ ?_))); (case side6 => exact (Kd.R_reads' HO444.out).2.1); rintro e w41 ⟨v446, rfl, ho0, hb⟩; refine ⟨_, rfl, ?_⟩; have n0_ := G (B (by (with_reducible repeat (first | apply J | apply L | apply M)); exact HO424.out) hb); have n1_ := G (B (by (with_reducible repeat (first | apply J | apply L | apply M)); exact HO427.out) hb); have n2_ := G (Kd.R_elder' (by (with_reducible repeat (first | apply J | apply L | apply M)); exact HO430.out) (Kd.R_base ho0) hb); have n3_ := G (Kd.R_elder' (by (with_reducible repeat (first | apply J | apply L | apply M)); exact HO433.out) (Kd.R_base ho0) hb); have n4_ := G (B (by (with_reducible repeat (first | apply J | apply L | apply M)); exact HO437.out) hb); have n5_ := G (B (by (with_reducible repeat (first | apply J | apply L | apply M)); exact HO440.out) hb); have n6_ := G (Kd.R_elder' (by (with_reducible repeat (first | apply J | apply L | apply M)); exact HO444.out) (Kd.R_base ho0) hb); have n7_ := G (Kd.R_lower (GL (GL (GL ho0 (Kd.R_lt (by (with_reducible repeat (first | apply J | apply L | apply M)); exact HO430.out))) (Kd.R_lt (by (with_reducible repeat (first | apply J | apply L | apply M)); exact HO433.out))) (Kd.R_lt (by (with_reducible repeat (first | apply J | apply L | apply M)); exact HO444.out))) (GM (by repeat (first | (with_reducible first | exact HB.out | apply Z | apply T | apply Y | refine O ?_ GE419.out | refine O ?_ GE441.out) | exact HB.out)))); have n8_ := G (F (g := gb419) (o := .cells #[.slice A0_0 l0_0.length c0_0, .slice A0_1 l0_1.length c0_1] 33 (0, 0)) (by (with_reducible repeat (first | refine U ?_ _ | refine X ?_ | refine V ?_ _)); exact BK419.out) hb); have n9_ := G (F (g := gb441) (o := .cells #[.slice Ao34 t435.length co34, .slice Ao37 t438.length co37] 39 (0, 0)) (by (with_reducible repeat (first | refine U ?_ _ | refine X ?_ | refine V ?_ _)); exact BK441.out) hb); have n10_ := G (GN (by repeat (first | (with_reducible first | exact HB.out | apply Z | apply T | apply Y | refine O ?_ GE419.out | refine O ?_ GE441.out) | exact HB.out)) hb); clear HO424; clear HO427; clear HO430; clear HO433; clear HO437; clear HO440; clear HO444; clear BK419; clear BK441; clear HB; have HO424 := n0_; have HO427 := n1_; have HO430 := n2_; have HO433 := n3_; have HO437 := n4_; have HO440 := n5_; have HO444 := n6_; have HO447 := n7_; have BK419 := n8_; have BK441 := n9_; have HB := n10_; clear n0_ n1_ n2_ n3_ n4_ n5_ n6_ n7_ n8_ n9_ n10_; (try clear hb); (try clear hb2); (try clear hk); (try clear hi); (try clear ho0)))
   (try simp only [Act.put, List.setIfInBounds_toArray, List.set_cons_zero, List.set_cons_succ])
   go_cut [57] (fun v57 wc => ∃ (kq : Nat) (x57_19 : Bool), v57 = .bool x57_19 ∧ Aside0 (laws_FnExactScaleLoads.j0 kq l1 a2 t431 t434 t442 t445 t448 x57_19 l0_0 l0_1 t435 t438 = some r) ∧ Aside0 (kq ≤ k) ∧ Aside0 (Kd.R k97 97 wc w.heap.size (fun k_ => some k_ ≠ ((.slice Ao40 t442.length co40) : Value).ownBlock ∧ some k_ ≠ (v446 : Value).ownBlock) v432 t431) ∧ Aside0 (Kd.R k97 97 wc w.heap.size (fun k_ => some k_ ≠ (v432 : Value).ownBlock ∧ some k_ ≠ (v446 : Value).ownBlock) (.slice Ao40 t442.length co40) t442) ∧ Aside0 (Kd.R k97 97 wc w.heap.size (fun k_ => some k_ ≠ (v432 : Value).ownBlock ∧ some k_ ≠ ((.slice Ao40 t442.length co40) : Value).ownBlock) v446 t445) ∧ Aside0 (Kd.R k82 82 wc w.heap.size (fun _ => True) (.slice Ao34 t435.length co34) t435) ∧ Aside0 (Kd.R k84 84 wc w.heap.size (fun _ => True) (.slice Ao37 t438.length co37) t438) ∧ Aside0 (wc.heap[gb419]? = some (.cells #[(.slice A0_0 l0_0.length c0_0), (.slice A0_1 l0_1.length c0_1)] 33 (0, 0))) ∧ Aside0 (wc.heap[gb441]? = some (.cells #[(.slice Ao34 t435.length co34), (.slice Ao37 t438.length co37)] 39 (0, 0))) ∧ Aside0 (Below w.heap.size w wc))
   case first =>
    have H := HC20.out
    clear HC20
    replace H := Option.bind_eq_some_iff.mp H
    obtain ⟨t449, A420, H⟩ := H
    replace H : (if t449 = true then (laws_FnExactScaleLoads.j0 k l1 a2 t431 t434 t442 t445 t448 (t448 != t434) l0_0 l0_1 t435 t438) else (laws_FnExactScaleLoads.j0 k l1 a2 t431 t434 t442 t445 t448 true l0_0 l0_1 t435 t438)) = some r := H
    have A42 := G A420
    clear A420
    by_cases c43 : t449 = true
    ·subst c43
     have H1 : (laws_FnExactScaleLoads.j0 k l1 a2 t431 t434 t442 t445 t448 (t448 != t434) l0_0 l0_1 t435 t438) = some r := by rw [if_pos rfl] at H; exact H
     clear H
     have H := H1
     clear H1
     have H' := G H
     clear H
     obtain ⟨Ao44, co44, eo44⟩ := Kd.R_slice HO447.out
     subst eo44
     obtain ⟨Ao45, co45, eo45⟩ := Kd.R_slice HO433.out
     subst eo45
     go_wp2_with (first | ((with_reducible refine gate_callee (f := 32) rfl ?_); refine goesL_ (some 51) rfl rfl Try.func32 (by kernel_rfl) rfl #[.slice Ao44 t445.length co44, .slice Ao45 t431.length co45] rfl (by (try simp only [List.map_toArray, List.map_cons, List.map_nil]); first | done | rfl | (simp only [List.length_drop, List.length_take]; rfl)) ?_; (with_reducible refine (laws_eqPullS.calls k _ _ t445 _ _ t431 true _ ?side1 ?side2 ?side3 ?side4 A42.out).mono ?_); (case side1 => repeat (first | exact (Kd.R_reads' HO447.out).2.2 | (with_reducible refine P ?_ _) | (with_reducible refine GG ?_ _) | (with_reducible refine GJ ?_))); (case side2 => exact (Kd.R_reads' HO447.out).2.1); (case side3 => repeat (first | exact (Kd.R_reads' HO433.out).2.2 | (with_reducible refine P ?_ _) | (with_reducible refine GG ?_ _) | (with_reducible refine GJ ?_))); (case side4 => exact (Kd.R_reads' HO433.out).2.1); rintro e w46 ⟨rfl, hb⟩; refine ⟨_, rfl, ?_⟩; have n0_ := G (B (by (with_reducible repeat (first | apply J | apply L | apply M)); exact HO424.out) hb); have n1_ := G (B (by (with_reducible repeat (first | apply J | apply L | apply M)); exact HO427.out) hb); have n2_ := G (B (by (with_reducible repeat (first | apply J | apply L | apply M)); exact HO430.out) hb); have n3_ := G (B (by (with_reducible repeat (first | apply J | apply L | apply M)); exact HO433.out) hb); have n4_ := G (B (by (with_reducible repeat (first | apply J | apply L | apply M)); exact HO437.out) hb); have n5_ := G (B (by (with_reducible repeat (first | apply J | apply L | apply M)); exact HO440.out) hb); have n6_ := G (B (by (with_reducible repeat (first | apply J | apply L | apply M)); exact HO444.out) hb); have n7_ := G (B (by (with_reducible repeat (first | apply J | apply L | apply M)); exact HO447.out) hb); have n8_ := G (F (g := gb419) (o := .cells #[.slice A0_0 l0_0.length c0_0, .slice A0_1 l0_1.length c0_1] 33 (0, 0)) (by (with_reducible repeat (first | refine U ?_ _ | refine X ?_ | refine V ?_ _)); exact BK419.out) hb); have n9_ := G (F (g := gb441) (o := .cells #[.slice Ao34 t435.length co34, .slice Ao37 t438.length co37] 39 (0, 0)) (by (with_reducible repeat (first | refine U ?_ _ | refine X ?_ | refine V ?_ _)); exact BK441.out) hb); have n10_ := G (GN (by repeat (first | (with_reducible first | exact HB.out | apply Z | apply T | apply Y | refine O ?_ GE419.out | refine O ?_ GE441.out) | exact HB.out)) hb); clear HO424; clear HO427; clear HO430; clear HO433; clear HO437; clear HO440; clear HO444; clear HO447; clear BK419; clear BK441; clear HB; have HO424 := n0_; have HO427 := n1_; have HO430 := n2_; have HO433 := n3_; have HO437 := n4_; have HO440 := n5_; have HO444 := n6_; have HO447 := n7_; have BK419 := n8_; have BK441 := n9_; have HB := n10_; clear n0_ n1_ n2_ n3_ n4_ n5_ n6_ n7_ n8_ n9_ n10_; (try clear hb); (try clear hb2); (try clear hk); (try clear hi)))
     go_meet
     case rel => exact ⟨_, ((t448 != t434)), (by first | rfl | (simp; done) | (simp [*]; done)), H', ⟨by first | omega | exact Nat.le_refl _⟩, ⟨by (with_reducible repeat (first | apply J | apply L | apply M)); exact I HO433.out (fun _ hk => ⟨hk.1.2, hk.2⟩)⟩, ⟨by (with_reducible repeat (first | apply J | apply L | apply M)); exact I HO444.out (fun _ hk => ⟨hk.1.2, hk.2⟩)⟩, ⟨by (with_reducible repeat (first | apply J | apply L | apply M)); exact I HO447.out (fun _ hk => ⟨hk.1.2, hk.2⟩)⟩, ⟨by (with_reducible repeat (first | apply J | apply L | apply M)); exact I HO437.out (fun _ hk => trivial)⟩, ⟨by (with_reducible repeat (first | apply J | apply L | apply M)); exact I HO440.out (fun _ hk => trivial)⟩, ⟨by (with_reducible repeat (first | refine U ?_ _ | refine X ?_ | refine V ?_ _)); exact BK419.out⟩, ⟨by (with_reducible repeat (first | refine U ?_ _ | refine X ?_ | refine V ?_ _)); exact BK441.out⟩, ⟨by repeat (first | (with_reducible first | exact HB.out | apply Z | apply T | apply Y | refine O ?_ GE419.out | refine O ?_ GE441.out) | exact HB.out)⟩⟩
    ·replace c43 := Bool.eq_false_iff.mpr c43
     subst c43
     have H1 : (laws_FnExactScaleLoads.j0 k l1 a2 t431 t434 t442 t445 t448 true l0_0 l0_1 t435 t438) = some r := by rw [if_neg (show ¬ (false = true) by decide)] at H; exact H
     clear H
     have H := H1
     clear H1
     have H' := G H
     clear H
     obtain ⟨Ao47, co47, eo47⟩ := Kd.R_slice HO447.out
     subst eo47
     obtain ⟨Ao48, co48, eo48⟩ := Kd.R_slice HO433.out
     subst eo48
     go_wp2_with (first | ((with_reducible refine gate_callee (f := 32) rfl ?_); refine goesL_ (some 51) rfl rfl Try.func32 (by kernel_rfl) rfl #[.slice Ao47 t445.length co47, .slice Ao48 t431.length co48] rfl (by (try simp only [List.map_toArray, List.map_cons, List.map_nil]); first | done | rfl | (simp only [List.length_drop, List.length_take]; rfl)) ?_; (with_reducible refine (laws_eqPullS.calls k _ _ t445 _ _ t431 false _ ?side1 ?side2 ?side3 ?side4 A42.out).mono ?_); (case side1 => repeat (first | exact (Kd.R_reads' HO447.out).2.2 | (with_reducible refine P ?_ _) | (with_reducible refine GG ?_ _) | (with_reducible refine GJ ?_))); (case side2 => exact (Kd.R_reads' HO447.out).2.1); (case side3 => repeat (first | exact (Kd.R_reads' HO433.out).2.2 | (with_reducible refine P ?_ _) | (with_reducible refine GG ?_ _) | (with_reducible refine GJ ?_))); (case side4 => exact (Kd.R_reads' HO433.out).2.1); rintro e w49 ⟨rfl, hb⟩; refine ⟨_, rfl, ?_⟩; have n0_ := G (B (by (with_reducible repeat (first | apply J | apply L | apply M)); exact HO424.out) hb); have n1_ := G (B (by (with_reducible repeat (first | apply J | apply L | apply M)); exact HO427.out) hb); have n2_ := G (B (by (with_reducible repeat (first | apply J | apply L | apply M)); exact HO430.out) hb); have n3_ := G (B (by (with_reducible repeat (first | apply J | apply L | apply M)); exact HO433.out) hb); have n4_ := G (B (by (with_reducible repeat (first | apply J | apply L | apply M)); exact HO437.out) hb); have n5_ := G (B (by (with_reducible repeat (first | apply J | apply L | apply M)); exact HO440.out) hb); have n6_ := G (B (by (with_reducible repeat (first | apply J | apply L | apply M)); exact HO444.out) hb); have n7_ := G (B (by (with_reducible repeat (first | apply J | apply L | apply M)); exact HO447.out) hb); have n8_ := G (F (g := gb419) (o := .cells #[.slice A0_0 l0_0.length c0_0, .slice A0_1 l0_1.length c0_1] 33 (0, 0)) (by (with_reducible repeat (first | refine U ?_ _ | refine X ?_ | refine V ?_ _)); exact BK419.out) hb); have n9_ := G (F (g := gb441) (o := .cells #[.slice Ao34 t435.length co34, .slice Ao37 t438.length co37] 39 (0, 0)) (by (with_reducible repeat (first | refine U ?_ _ | refine X ?_ | refine V ?_ _)); exact BK441.out) hb); have n10_ := G (GN (by repeat (first | (with_reducible first | exact HB.out | apply Z | apply T | apply Y | refine O ?_ GE419.out | refine O ?_ GE441.out) | exact HB.out)) hb); clear HO424; clear HO427; clear HO430; clear HO433; clear HO437; clear HO440; clear HO444; clear HO447; clear BK419; clear BK441; clear HB; have HO424 := n0_; have HO427 := n1_; have HO430 := n2_; have HO433 := n3_; have HO437 := n4_; have HO440 := n5_; have HO444 := n6_; have HO447 := n7_; have BK419 := n8_; have BK441 := n9_; have HB := n10_; clear n0_ n1_ n2_ n3_ n4_ n5_ n6_ n7_ n8_ n9_ n10_; (try clear hb); (try clear hb2); (try clear hk); (try clear hi)))
     go_meet
     case rel => exact ⟨_, (true), (by first | rfl | (simp; done) | (simp [*]; done)), H', ⟨by first | omega | exact Nat.le_refl _⟩, ⟨by (with_reducible repeat (first | apply J | apply L | apply M)); exact I HO433.out (fun _ hk => ⟨hk.1.2, hk.2⟩)⟩, ⟨by (with_reducible repeat (first | apply J | apply L | apply M)); exact I HO444.out (fun _ hk => ⟨hk.1.2, hk.2⟩)⟩, ⟨by (with_reducible repeat (first | apply J | apply L | apply M)); exact I HO447.out (fun _ hk => ⟨hk.1.2, hk.2⟩)⟩, ⟨by (with_reducible repeat (first | apply J | apply L | apply M)); exact I HO437.out (fun _ hk => trivial)⟩, ⟨by (with_reducible repeat (first | apply J | apply L | apply M)); exact I HO440.out (fun _ hk => trivial)⟩, ⟨by (with_reducible repeat (first | refine U ?_ _ | refine X ?_ | refine V ?_ _)); exact BK419.out⟩, ⟨by (with_reducible repeat (first | refine U ?_ _ | refine X ?_ | refine V ?_ _)); exact BK441.out⟩, ⟨by repeat (first | (with_reducible first | exact HB.out | apply Z | apply T | apply Y | refine O ?_ GE419.out | refine O ?_ GE441.out) | exact HB.out)⟩⟩
   case rest =>
    clear HC20
    try clear c1
    try clear c2
    try clear p2
    try clear c3
    try clear c4
    try clear c5
    try clear c5b0
    try clear c10
    try clear c10b0
    try clear c11
    try clear c19
    try clear c21
    try clear c28
    try clear c30
    try clear c32
    try clear c35
    try clear c43
    try clear c45
    try clear c46
    try clear hcz12_0
    try clear hcz12_1
    try clear hcz22_0
    try clear hcz22_1
    try clear hcz24_0
    try clear hcz24_1
    try clear hcz31_0
    try clear hcz31_1
    try clear hcz36_0
    try clear hcz36_1
    try clear hcz39_0
    try clear hcz39_1
    try clear hcz7_0
    try clear hcz7_1
    try clear hfz12_0
    try clear hfz12_1
    try clear hfz22_0
    try clear hfz22_1
    try clear hfz24_0
    try clear hfz24_1
    try clear hfz31_0
    try clear hfz31_1
    try clear hfz36_0
    try clear hfz36_1
    try clear hfz39_0
    try clear hfz39_1
    try clear hfz7_0
    try clear hfz7_1
    obtain ⟨kq, x57_19, rfl, HA, HJ19, HO_8, HO_11, HO_12, HO_442000, HO_442001, BK419, BK441, HB⟩ := hcut
    cases kq with
    | zero => exact absurd HA.out (by simp [laws_FnExactScaleLoads.j0])
    | succ kj19 =>
     have H := HA.out
     clear HA
     simp only [laws_FnExactScaleLoads.j0] at H
     by_cases c50 : x57_19 = true
     ·subst c50
      have H1 : (some false) = some r := by rw [if_pos rfl] at H; exact H
      clear H
      have H := H1
      clear H1
      obtain rfl := Option.some.inj H
      go_wp2
      go_ret
      exact ⟨by first | rfl | (simp [errW_none, errW_some] <;> rfl) | (simp [*, errW_none, errW_some] <;> rfl), by repeat (first | (with_reducible first | exact HB.out | apply Z | apply T | apply Y | refine O ?_ GE419.out | refine O ?_ GE441.out) | exact HB.out)⟩
     ·replace c50 := Bool.eq_false_iff.mpr c50
      subst c50
      have H1 : ((laws_toFrame.f kj19 l0_0 l0_1).bind fun bt450 => ((laws_eqFrame.f kj19 t435 t438 bt450.1 bt450.2).bind fun t456 => (if t456 = true then ((laws_toPullS.f kj19 l1).bind fun t457 => ((laws_eqPullS.f kj19 t442 t457).bind fun t460 => (if t460 = true then ((laws_markFrame.f kj19 t435 t438 1).bind fun bt461 => ((laws_markPullS.f kj19 t442 bt461.1).bind fun bt464 => (if bt464.1 < 0 then (laws_FnExactScaleLoads.j1 kj19 l1 a2 t431 t434 t445 true l0_0 l0_1) else ((laws_eqPullS.f kj19 t445 t431).bind fun t466 => (if t466 = true then (laws_FnExactScaleLoads.j1 kj19 l1 a2 t431 t434 t445 (t448 != t434) l0_0 l0_1) else (laws_FnExactScaleLoads.j1 kj19 l1 a2 t431 t434 t445 true l0_0 l0_1)))))) else (some false)))) else (some false)))) = some r := by rw [if_neg (show ¬ (false = true) by decide)] at H; exact H
      clear H
      have H := H1
      clear H1
      replace H := Option.bind_eq_some_iff.mp H
      obtain ⟨⟨t450, t453⟩, A510, H⟩ := H
      replace H : ((laws_eqFrame.f kj19 t435 t438 t450 t453).bind fun t456 => (if t456 = true then ((laws_toPullS.f kj19 l1).bind fun t457 => ((laws_eqPullS.f kj19 t442 t457).bind fun t460 => (if t460 = true then ((laws_markFrame.f kj19 t435 t438 1).bind fun bt461 => ((laws_markPullS.f kj19 t442 bt461.1).bind fun bt464 => (if bt464.1 < 0 then (laws_FnExactScaleLoads.j1 kj19 l1 a2 t431 t434 t445 true l0_0 l0_1) else ((laws_eqPullS.f kj19 t445 t431).bind fun t466 => (if t466 = true then (laws_FnExactScaleLoads.j1 kj19 l1 a2 t431 t434 t445 (t448 != t434) l0_0 l0_1) else (laws_FnExactScaleLoads.j1 kj19 l1 a2 t431 t434 t445 true l0_0 l0_1)))))) else (some false)))) else (some false))) = some r := H
      have A51 := G A510
      clear A510
      replace H := Option.bind_eq_some_iff.mp H
      obtain ⟨t456, A520, H⟩ := H
      replace H : (if t456 = true then ((laws_toPullS.f kj19 l1).bind fun t457 => ((laws_eqPullS.f kj19 t442 t457).bind fun t460 => (if t460 = true then ((laws_markFrame.f kj19 t435 t438 1).bind fun bt461 => ((laws_markPullS.f kj19 t442 bt461.1).bind fun bt464 => (if bt464.1 < 0 then (laws_FnExactScaleLoads.j1 kj19 l1 a2 t431 t434 t445 true l0_0 l0_1) else ((laws_eqPullS.f kj19 t445 t431).bind fun t466 => (if t466 = true then (laws_FnExactScaleLoads.j1 kj19 l1 a2 t431 t434 t445 (t448 != t434) l0_0 l0_1) else (laws_FnExactScaleLoads.j1 kj19 l1 a2 t431 t434 t445 true l0_0 l0_1)))))) else (some false)))) else (some false)) = some r := H
      have A52 := G A520
      clear A520
      by_cases c53 : t456 = true
      ·subst c53
       have H1 : ((laws_toPullS.f kj19 l1).bind fun t457 => ((laws_eqPullS.f kj19 t442 t457).bind fun t460 => (if t460 = true then ((laws_markFrame.f kj19 t435 t438 1).bind fun bt461 => ((laws_markPullS.f kj19 t442 bt461.1).bind fun bt464 => (if bt464.1 < 0 then (laws_FnExactScaleLoads.j1 kj19 l1 a2 t431 t434 t445 true l0_0 l0_1) else ((laws_eqPullS.f kj19 t445 t431).bind fun t466 => (if t466 = true then (laws_FnExactScaleLoads.j1 kj19 l1 a2 t431 t434 t445 (t448 != t434) l0_0 l0_1) else (laws_FnExactScaleLoads.j1 kj19 l1 a2 t431 t434 t445 true l0_0 l0_1)))))) else (some false)))) = some r := by rw [if_pos rfl] at H; exact H
       clear H
       have H := H1
       clear H1
       replace H := Option.bind_eq_some_iff.mp H
       obtain ⟨t457, A540, H⟩ := H
       replace H : ((laws_eqPullS.f kj19 t442 t457).bind fun t460 => (if t460 = true then ((laws_markFrame.f kj19 t435 t438 1).bind fun bt461 => ((laws_markPullS.f kj19 t442 bt461.1).bind fun bt464 => (if bt464.1 < 0 then (laws_FnExactScaleLoads.j1 kj19 l1 a2 t431 t434 t445 true l0_0 l0_1) else ((laws_eqPullS.f kj19 t445 t431).bind fun t466 => (if t466 = true then (laws_FnExactScaleLoads.j1 kj19 l1 a2 t431 t434 t445 (t448 != t434) l0_0 l0_1) else (laws_FnExactScaleLoads.j1 kj19 l1 a2 t431 t434 t445 true l0_0 l0_1)))))) else (some false))) = some r := H
       have A54 := G A540
       clear A540
       replace H := Option.bind_eq_some_iff.mp H
       obtain ⟨t460, A550, H⟩ := H
       replace H : (if t460 = true then ((laws_markFrame.f kj19 t435 t438 1).bind fun bt461 => ((laws_markPullS.f kj19 t442 bt461.1).bind fun bt464 => (if bt464.1 < 0 then (laws_FnExactScaleLoads.j1 kj19 l1 a2 t431 t434 t445 true l0_0 l0_1) else ((laws_eqPullS.f kj19 t445 t431).bind fun t466 => (if t466 = true then (laws_FnExactScaleLoads.j1 kj19 l1 a2 t431 t434 t445 (t448 != t434) l0_0 l0_1) else (laws_FnExactScaleLoads.j1 kj19 l1 a2 t431 t434 t445 true l0_0 l0_1)))))) else (some false)) = some r := H
       have A55 := G A550
       clear A550
       by_cases c56 : t460 = true
       ·subst c56
        have H1 : ((laws_markFrame.f kj19 t435 t438 1).bind fun bt461 => ((laws_markPullS.f kj19 t442 bt461.1).bind fun bt464 => (if bt464.1 < 0 then (laws_FnExactScaleLoads.j1 kj19 l1 a2 t431 t434 t445 true l0_0 l0_1) else ((laws_eqPullS.f kj19 t445 t431).bind fun t466 => (if t466 = true then (laws_FnExactScaleLoads.j1 kj19 l1 a2 t431 t434 t445 (t448 != t434) l0_0 l0_1) else (laws_FnExactScaleLoads.j1 kj19 l1 a2 t431 t434 t445 true l0_0 l0_1)))))) = some r := by rw [if_pos rfl] at H; exact H
        clear H
        have H := H1
        clear H1
        replace H := Option.bind_eq_some_iff.mp H
        obtain ⟨⟨t461, t462, t463⟩, A570, H⟩ := H
        replace H : ((laws_markPullS.f kj19 t442 t461).bind fun bt464 => (if bt464.1 < 0 then (laws_FnExactScaleLoads.j1 kj19 l1 a2 t431 t434 t445 true l0_0 l0_1) else ((laws_eqPullS.f kj19 t445 t431).bind fun t466 => (if t466 = true then (laws_FnExactScaleLoads.j1 kj19 l1 a2 t431 t434 t445 (t448 != t434) l0_0 l0_1) else (laws_FnExactScaleLoads.j1 kj19 l1 a2 t431 t434 t445 true l0_0 l0_1))))) = some r := H
        have A57 := G A570
        clear A570
        replace H := Option.bind_eq_some_iff.mp H
        obtain ⟨⟨t464, t465⟩, A580, H⟩ := H
        replace H : (if t464 < 0 then (laws_FnExactScaleLoads.j1 kj19 l1 a2 t431 t434 t445 true l0_0 l0_1) else ((laws_eqPullS.f kj19 t445 t431).bind fun t466 => (if t466 = true then (laws_FnExactScaleLoads.j1 kj19 l1 a2 t431 t434 t445 (t448 != t434) l0_0 l0_1) else (laws_FnExactScaleLoads.j1 kj19 l1 a2 t431 t434 t445 true l0_0 l0_1)))) = some r := H
        have A58 := G A580
        clear A580
        have HC59 := G H
        clear H
        try go_wp2
        have n0_ := G (M HO_8.out)
        have n1_ := G (M HO_11.out)
        have n2_ := G (M HO_12.out)
        have n3_ := G (M HO_442000.out)
        have n4_ := G (M HO_442001.out)
        have n5_ := G (X BK419.out)
        have n6_ := G (X BK441.out)
        have n7_ := G (Y HB.out)
        clear HO_8
        clear HO_11
        clear HO_12
        clear HO_442000
        clear HO_442001
        clear BK419
        clear BK441
        clear HB
        have HO_8 := n0_
        have HO_11 := n1_
        have HO_12 := n2_
        have HO_442000 := n3_
        have HO_442001 := n4_
        have BK419 := n5_
        have BK441 := n6_
        have HB := n7_
        clear n0_ n1_ n2_ n3_ n4_ n5_ n6_ n7_
        refine start_ (n := 5) (S := fun w' => w'.cell? ⟨gb441, 0, none⟩ = some (.slice Ao34 t435.length co34) ∧ w'.cell? ⟨gb441, 1, none⟩ = some (.slice Ao37 t438.length co37) ∧ w'.cell? ⟨gb419, 0, none⟩ = some (.slice A0_0 l0_0.length c0_0) ∧ w'.cell? ⟨gb419, 1, none⟩ = some (.slice A0_1 l0_1.length c0_1)) (ds := []) #[n', n', n', n', n'] (by kernel_rfl) rfl rfl ⟨(E BK441.out 0).trans rfl, (E BK441.out 1).trans rfl, (E BK419.out 0).trans rfl, (E BK419.out 1).trans rfl⟩ (fun hHeld => ?_)
        generalize wc.drew = w60 at HO_8 HO_11 HO_12 HO_442000 HO_442001 BK419 BK441 HB hHeld ⊢
        refine take_ (i := 0) (N := some 58) (v := ?_) (a' := ?_) #[y', n', n', n', n'] rfl rfl (by kernel_rfl) (fun _ _ _ h => h) (Or.inl ⟨by rfl, ?_⟩) hHeld ?_ ?_
        rotate_left
        ·rintro w' ⟨s0, s1, s2, s3⟩
         go_simp
         with_reducible rfl
        rotate_left
        ·simp only [Act.put, z1', z2', z3', i64_w, i32_w]
         rfl
        refine take_ (i := 1) (N := some 59) (v := ?_) (a' := ?_) #[y', y', n', n', n'] rfl rfl (by kernel_rfl) (fun _ _ _ h => h) (Or.inl ⟨by rfl, ?_⟩) hHeld ?_ ?_
        rotate_left
        ·rintro w' ⟨s0, s1, s2, s3⟩
         go_simp
         with_reducible rfl
        rotate_left
        ·simp only [Act.put, z1', z2', z3', i64_w, i32_w]
         rfl
        refine one_ (i := 2) (N := some 60) #[y', y', y', n', n'] rfl rfl (by kernel_rfl) (by decide) (fun K hK => ?_)
        refine goes_ Try.func21 (by kernel_rfl) rfl #[.agg #[.slice A0_0 l0_0.length c0_0, .slice A0_1 l0_1.length c0_1]] (by rfl) rfl rfl (by (try simp only [List.map_toArray, List.map_cons, List.map_nil]); first | done | rfl | (simp only [List.length_drop, List.length_take]; rfl)) ?_
        with_reducible refine (laws_toFrame.calls kj19 _ _ l0_0 _ _ l0_1 t450 t453 _ ?side1 ?side2 ?side3 ?side4 A51.out).mono ?_
        (case side1 => repeat (first | exact (GO HR0_0.out HB.out) | (with_reducible refine P ?_ _) | (with_reducible refine GG ?_ _) | (with_reducible refine GJ ?_)))
        (case side2 => exact HC0_0.out)
        (case side3 => repeat (first | exact (GO HR0_1.out HB.out) | (with_reducible refine P ?_ _) | (with_reducible refine GG ?_ _) | (with_reducible refine GJ ?_)))
        (case side4 => exact HC0_1.out)
        rintro e w61 ⟨v451, v454, rfl, ho0, ho1, hb⟩
        refine ⟨_, rfl, ?_⟩
        have n0_ := G (B (by (with_reducible repeat (first | apply J | apply L | apply M)); exact HO_8.out) hb)
        have n1_ := G (B (by (with_reducible repeat (first | apply J | apply L | apply M)); exact HO_11.out) hb)
        have n2_ := G (B (by (with_reducible repeat (first | apply J | apply L | apply M)); exact HO_12.out) hb)
        have n3_ := G (Kd.R_elder' (by (with_reducible repeat (first | apply J | apply L | apply M)); exact HO_442000.out) (Kd.R_base ho0) hb)
        have n4_ := G (Kd.R_elder' (by (with_reducible repeat (first | apply J | apply L | apply M)); exact HO_442001.out) (Kd.R_base ho1) hb)
        have n5_ := G (Kd.R_lower (GL ho0 (Kd.R_lt (by (with_reducible repeat (first | apply J | apply L | apply M)); exact HO_442000.out))) (GM (by repeat (first | (with_reducible first | exact HB.out | apply Z | apply T | apply Y | refine O ?_ GE419.out | refine O ?_ GE441.out) | exact HB.out))))
        have n6_ := G (Kd.R_lower (GL ho1 (Kd.R_lt (by (with_reducible repeat (first | apply J | apply L | apply M)); exact HO_442001.out))) (GM (by repeat (first | (with_reducible first | exact HB.out | apply Z | apply T | apply Y | refine O ?_ GE419.out | refine O ?_ GE441.out) | exact HB.out))))
        have n7_ := G (F (g := gb419) (o := .cells #[.slice A0_0 l0_0.length c0_0, .slice A0_1 l0_1.length c0_1] 33 (0, 0)) (by (with_reducible repeat (first | refine U ?_ _ | refine X ?_ | refine V ?_ _)); exact BK419.out) hb)
        have n8_ := G (F (g := gb441) (o := .cells #[.slice Ao34 t435.length co34, .slice Ao37 t438.length co37] 39 (0, 0)) (by (with_reducible repeat (first | refine U ?_ _ | refine X ?_ | refine V ?_ _)); exact BK441.out) hb)
        have n9_ := G (GN (by repeat (first | (with_reducible first | exact HB.out | apply Z | apply T | apply Y | refine O ?_ GE419.out | refine O ?_ GE441.out) | exact HB.out)) hb)
        clear HO_8
        clear HO_11
        clear HO_12
        clear HO_442000
        clear HO_442001
        clear BK419
        clear BK441
        clear HB
        have HO_8 := n0_
        have HO_11 := n1_
        have HO_12 := n2_
        have HO_442000 := n3_
        have HO_442001 := n4_
        have HO452 := n5_
        have HO455 := n6_
        have BK419 := n7_
        have BK441 := n8_
        have HB := n9_
        clear n0_ n1_ n2_ n3_ n4_ n5_ n6_ n7_ n8_ n9_
        (try clear hb)
        (try clear hb2)
        (try clear hk)
        (try clear hi)
        (try clear ho0)
        (try clear ho1)
        obtain ⟨Ao62, co62, eo62⟩ := Kd.R_slice HO452.out
        (first | subst eo62 | (injection eo62 with f1_ f2_ f3_; have f4_ := f1_.symm; have f5_ := f3_.symm; clear f1_ f2_ f3_; subst f4_; subst f5_))
        obtain ⟨Ao63, co63, eo63⟩ := Kd.R_slice HO455.out
        (first | subst eo63 | (injection eo63 with f1_ f2_ f3_; have f4_ := f1_.symm; have f5_ := f3_.symm; clear f1_ f2_ f3_; subst f4_; subst f5_))
        refine hK.out _ _ ⟨(E BK441.out 0).trans rfl, (E BK441.out 1).trans rfl, (E BK419.out 0).trans rfl, (E BK419.out 1).trans rfl⟩ (fun hHeld => ?_)
        clear hK K
        refine norm_ (a' := ?_) ?_ ?_
        rotate_left
        ·show Act.put _ (some 60) _ = _
         simp only [Act.put, z1', z2', z3', i64_w, i32_w]
         rfl
        refine one_ (i := 3) (N := some 61) #[y', y', y', y', n'] rfl rfl (by kernel_rfl) (by decide) (fun K hK => ?_)
        refine goes_ Try.func23 (by kernel_rfl) rfl #[.agg #[.slice Ao34 t435.length co34, .slice Ao37 t438.length co37], .agg #[.slice Ao62 t450.length co62, .slice Ao63 t453.length co63]] (by rfl) rfl rfl (by (try simp only [List.map_toArray, List.map_cons, List.map_nil]); first | done | rfl | (simp only [List.length_drop, List.length_take]; rfl)) ?_
        with_reducible refine (laws_eqFrame.calls kj19 _ _ t435 _ _ t438 _ _ t450 _ _ t453 true _ ?side1 ?side2 ?side3 ?side4 ?side5 ?side6 ?side7 ?side8 A52.out).mono ?_
        (case side1 => repeat (first | exact (Kd.R_reads' HO_442000.out).2.2 | (with_reducible refine P ?_ _) | (with_reducible refine GG ?_ _) | (with_reducible refine GJ ?_)))
        (case side2 => exact (Kd.R_reads' HO_442000.out).2.1)
        (case side3 => repeat (first | exact (Kd.R_reads' HO_442001.out).2.2 | (with_reducible refine P ?_ _) | (with_reducible refine GG ?_ _) | (with_reducible refine GJ ?_)))
        (case side4 => exact (Kd.R_reads' HO_442001.out).2.1)
        (case side5 => repeat (first | exact (Kd.R_reads' HO452.out).2.2 | (with_reducible refine P ?_ _) | (with_reducible refine GG ?_ _) | (with_reducible refine GJ ?_)))
        (case side6 => exact (Kd.R_reads' HO452.out).2.1)
        (case side7 => repeat (first | exact (Kd.R_reads' HO455.out).2.2 | (with_reducible refine P ?_ _) | (with_reducible refine GG ?_ _) | (with_reducible refine GJ ?_)))
        (case side8 => exact (Kd.R_reads' HO455.out).2.1)
        rintro e w64 ⟨rfl, hb⟩
        refine ⟨_, rfl, ?_⟩
        have n0_ := G (B (by (with_reducible repeat (first | apply J | apply L | apply M)); exact HO_8.out) hb)
        have n1_ := G (B (by (with_reducible repeat (first | apply J | apply L | apply M)); exact HO_11.out) hb)
        have n2_ := G (B (by (with_reducible repeat (first | apply J | apply L | apply M)); exact HO_12.out) hb)
        have n3_ := G (B (by (with_reducible repeat (first | apply J | apply L | apply M)); exact HO_442000.out) hb)
        have n4_ := G (B (by (with_reducible repeat (first | apply J | apply L | apply M)); exact HO_442001.out) hb)
        have n5_ := G (B (by (with_reducible repeat (first | apply J | apply L | apply M)); exact HO452.out) hb)
        have n6_ := G (B (by (with_reducible repeat (first | apply J | apply L | apply M)); exact HO455.out) hb)
        have n7_ := G (F (g := gb419) (o := .cells #[.slice A0_0 l0_0.length c0_0, .slice A0_1 l0_1.length c0_1] 33 (0, 0)) (by (with_reducible repeat (first | refine U ?_ _ | refine X ?_ | refine V ?_ _)); exact BK419.out) hb)
        have n8_ := G (F (g := gb441) (o := .cells #[.slice Ao34 t435.length co34, .slice Ao37 t438.length co37] 39 (0, 0)) (by (with_reducible repeat (first | refine U ?_ _ | refine X ?_ | refine V ?_ _)); exact BK441.out) hb)
        have n9_ := G (GN (by repeat (first | (with_reducible first | exact HB.out | apply Z | apply T | apply Y | refine O ?_ GE419.out | refine O ?_ GE441.out) | exact HB.out)) hb)
        clear HO_8
        clear HO_11
        clear HO_12
        clear HO_442000
        clear HO_442001
        clear HO452
        clear HO455
        clear BK419
        clear BK441
        clear HB
        have HO_8 := n0_
        have HO_11 := n1_
        have HO_12 := n2_
        have HO_442000 := n3_
        have HO_442001 := n4_
        have HO452 := n5_
        have HO455 := n6_
        have BK419 := n7_
        have BK441 := n8_
        have HB := n9_
        clear n0_ n1_ n2_ n3_ n4_ n5_ n6_ n7_ n8_ n9_
        (try clear hb)
        (try clear hb2)
        (try clear hk)
        (try clear hi)
        refine hK.out _ _ ⟨(E BK441.out 0).trans rfl, (E BK441.out 1).trans rfl, (E BK419.out 0).trans rfl, (E BK419.out 1).trans rfl⟩ (fun hHeld => ?_)
        clear hK K
        refine norm_ (a' := ?_) ?_ ?_
        rotate_left
        ·show Act.put _ (some 61) _ = _
         simp only [Act.put, z1', z2', z3', i64_w, i32_w]
         rfl
        refine pure_ (i := 4) (N := some 62) (v := ?_) (a' := ?_) #[y', y', y', y', y'] rfl rfl (by kernel_rfl) (fun _ _ _ h => h) (Or.inl ⟨by rfl, ?_⟩) ?_ ?_
        rotate_left
        ·intro w'
         go_simp
         with_reducible rfl
        rotate_left
        ·simp only [Act.put, z1', z2', z3', i64_w, i32_w]
         rfl
        refine done_ (by kernel_rfl) ?_
        go_upto_region 21 with (first | ((with_reducible refine gate_callee (f := 30) rfl ?_); refine goesL_ (some 65) rfl rfl Try.func30 (by kernel_rfl) rfl #[.slice A1 l1.length c1] rfl (by (try simp only [List.map_toArray, List.map_cons, List.map_nil]); first | done | rfl | (simp only [List.length_drop, List.length_take]; rfl)) ?_; (with_reducible refine (laws_toPullS.calls kj19 _ _ l1 t457 _ ?side1 ?side2 A54.out).mono ?_); (case side1 => repeat (first | exact (GO HR1.out HB.out) | (with_reducible refine P ?_ _) | (with_reducible refine GG ?_ _) | (with_reducible refine GJ ?_))); (case side2 => exact HC1.out); rintro e w65 ⟨v458, rfl, ho0, hb⟩; refine ⟨_, rfl, ?_⟩; have n0_ := G (Kd.R_elder' (by (with_reducible repeat (first | apply J | apply L | apply M)); exact HO_8.out) (Kd.R_base ho0) hb); have n1_ := G (Kd.R_elder' (by (with_reducible repeat (first | apply J | apply L | apply M)); exact HO_11.out) (Kd.R_base ho0) hb); have n2_ := G (Kd.R_elder' (by (with_reducible repeat (first | apply J | apply L | apply M)); exact HO_12.out) (Kd.R_base ho0) hb); have n3_ := G (B (by (with_reducible repeat (first | apply J | apply L | apply M)); exact HO_442000.out) hb); have n4_ := G (B (by (with_reducible repeat (first | apply J | apply L | apply M)); exact HO_442001.out) hb); have n5_ := G (B (by (with_reducible repeat (first | apply J | apply L | apply M)); exact HO452.out) hb); have n6_ := G (B (by (with_reducible repeat (first | apply J | apply L | apply M)); exact HO455.out) hb); have n7_ := G (Kd.R_lower (GL (GL (GL ho0 (Kd.R_lt (by (with_reducible repeat (first | apply J | apply L | apply M)); exact HO_8.out))) (Kd.R_lt (by (with_reducible repeat (first | apply J | apply L | apply M)); exact HO_11.out))) (Kd.R_lt (by (with_reducible repeat (first | apply J | apply L | apply M)); exact HO_12.out))) (GM (by repeat (first | (with_reducible first | exact HB.out | apply Z | apply T | apply Y | refine O ?_ GE419.out | refine O ?_ GE441.out) | exact HB.out)))); have n8_ := G (F (g := gb419) (o := .cells #[.slice A0_0 l0_0.length c0_0, .slice A0_1 l0_1.length c0_1] 33 (0, 0)) (by (with_reducible repeat (first | refine U ?_ _ | refine X ?_ | refine V ?_ _)); exact BK419.out) hb); have n9_ := G (F (g := gb441) (o := .cells #[.slice Ao34 t435.length co34, .slice Ao37 t438.length co37] 39 (0, 0)) (by (with_reducible repeat (first | refine U ?_ _ | refine X ?_ | refine V ?_ _)); exact BK441.out) hb); have n10_ := G (GN (by repeat (first | (with_reducible first | exact HB.out | apply Z | apply T | apply Y | refine O ?_ GE419.out | refine O ?_ GE441.out) | exact HB.out)) hb); clear HO_8; clear HO_11; clear HO_12; clear HO_442000; clear HO_442001; clear HO452; clear HO455; clear BK419; clear BK441; clear HB; have HO_8 := n0_; have HO_11 := n1_; have HO_12 := n2_; have HO_442000 := n3_; have HO_442001 := n4_; have HO452 := n5_; have HO455 := n6_; have HO459 := n7_; have BK419 := n8_; have BK441 := n9_; have HB := n10_; clear n0_ n1_ n2_ n3_ n4_ n5_ n6_ n7_ n8_ n9_ n10_; (try clear hb); (try clear hb2); (try clear hk); (try clear hi); (try clear ho0); obtain ⟨Ao66, co66, eo66⟩ := Kd.R_slice HO459.out; subst eo66) | ((with_reducible refine gate_callee (f := 32) rfl ?_); refine goesL_ (some 66) rfl rfl Try.func32 (by kernel_rfl) rfl #[.slice Ao40 t442.length co40, .slice Ao66 t457.length co66] rfl (by (try simp only [List.map_toArray, List.map_cons, List.map_nil]); first | done | rfl | (simp only [List.length_drop, List.length_take]; rfl)) ?_; (with_reducible refine (laws_eqPullS.calls kj19 _ _ t442 _ _ t457 true _ ?side1 ?side2 ?side3 ?side4 A55.out).mono ?_); (case side1 => repeat (first | exact (Kd.R_reads' HO_11.out).2.2 | (with_reducible refine P ?_ _) | (with_reducible refine GG ?_ _) | (with_reducible refine GJ ?_))); (case side2 => exact (Kd.R_reads' HO_11.out).2.1); (case side3 => repeat (first | exact (Kd.R_reads' HO459.out).2.2 | (with_reducible refine P ?_ _) | (with_reducible refine GG ?_ _) | (with_reducible refine GJ ?_))); (case side4 => exact (Kd.R_reads' HO459.out).2.1); rintro e w67 ⟨rfl, hb⟩; refine ⟨_, rfl, ?_⟩; have n0_ := G (B (by (with_reducible repeat (first | apply J | apply L | apply M)); exact HO_8.out) hb); have n1_ := G (B (by (with_reducible repeat (first | apply J | apply L | apply M)); exact HO_11.out) hb); have n2_ := G (B (by (with_reducible repeat (first | apply J | apply L | apply M)); exact HO_12.out) hb); have n3_ := G (B (by (with_reducible repeat (first | apply J | apply L | apply M)); exact HO_442000.out) hb); have n4_ := G (B (by (with_reducible repeat (first | apply J | apply L | apply M)); exact HO_442001.out) hb); have n5_ := G (B (by (with_reducible repeat (first | apply J | apply L | apply M)); exact HO452.out) hb); have n6_ := G (B (by (with_reducible repeat (first | apply J | apply L | apply M)); exact HO455.out) hb); have n7_ := G (B (by (with_reducible repeat (first | apply J | apply L | apply M)); exact HO459.out) hb); have n8_ := G (F (g := gb419) (o := .cells #[.slice A0_0 l0_0.length c0_0, .slice A0_1 l0_1.length c0_1] 33 (0, 0)) (by (with_reducible repeat (first | refine U ?_ _ | refine X ?_ | refine V ?_ _)); exact BK419.out) hb); have n9_ := G (F (g := gb441) (o := .cells #[.slice Ao34 t435.length co34, .slice Ao37 t438.length co37] 39 (0, 0)) (by (with_reducible repeat (first | refine U ?_ _ | refine X ?_ | refine V ?_ _)); exact BK441.out) hb); have n10_ := G (GN (by repeat (first | (with_reducible first | exact HB.out | apply Z | apply T | apply Y | refine O ?_ GE419.out | refine O ?_ GE441.out) | exact HB.out)) hb); clear HO_8; clear HO_11; clear HO_12; clear HO_442000; clear HO_442001; clear HO452; clear HO455; clear HO459; clear BK419; clear BK441; clear HB; have HO_8 := n0_; have HO_11 := n1_; have HO_12 := n2_; have HO_442000 := n3_; have HO_442001 := n4_; have HO452 := n5_; have HO455 := n6_; have HO459 := n7_; have BK419 := n8_; have BK441 := n9_; have HB := n10_; clear n0_ n1_ n2_ n3_ n4_ n5_ n6_ n7_ n8_ n9_ n10_; (try clear hb); (try clear hb2); (try clear hk); (try clear hi); have hnb68 := NB441_419.out; have hnc68 := NB419_441.out; have hcz69_0 : w67.cell? ⟨gb441, 0, none⟩ = some (.slice Ao34 t435.length co34) := (E BK441.out 0).trans rfl; have hcz69_1 : w67.cell? ⟨gb441, 1, none⟩ = some (.slice Ao37 t438.length co37) := (E BK441.out 1).trans rfl; have hfz69_0 := GT BK441.out 0; have hfz69_1 := GT BK441.out 1) | ((with_reducible refine gate_callee (f := 36) rfl ?_); refine goesL_ (some 70) rfl rfl Try.func36 (by kernel_rfl) rfl #[.agg #[.slice Ao34 t435.length co34, .slice Ao37 t438.length co37], .int .i64 1] rfl (by (try simp only [List.map_toArray, List.map_cons, List.map_nil]); first | done | rfl | (simp only [List.length_drop, List.length_take]; rfl)) ?_; (with_reducible refine (laws_markFrame.calls kj19 (fun k_ => some k_ = (.slice Ao34 t435.length co34 : Value).ownBlock) (.slice Ao34 t435.length co34) t435 (fun k_ => some k_ = (.slice Ao37 t438.length co37 : Value).ownBlock) (.slice Ao37 t438.length co37) t438 1 t461 t462 t463 w _ ?side1 ?side2 ?side3 A57.out).mono ?_); (case side1 => repeat (first | (with_reducible first | exact HB.out | apply Z | apply T | apply Y | refine O ?_ GE419.out | refine O ?_ GE441.out) | exact HB.out)); (case side2 => exact Kd.R_tight rfl HO_442000.out); (case side3 => exact Kd.R_tight rfl HO_442001.out); rintro e w70 ⟨rfl, hy0, hy1, hb, hkp⟩; refine ⟨_, rfl, ?_⟩; have n0_ := G (I (ok' := fun k_ => some k_ ≠ (.slice Ao40 t442.length co40 : Value).ownBlock ∧ some k_ ≠ (v446 : Value).ownBlock ∧ some k_ ≠ (.slice Ao66 t457.length co66 : Value).ownBlock) (Kd.R_keptB ((Kd.R_apart' (Kd.R_apart' HO_8.out (Kd.R_typed HO_442000.out) (by decide)) (Kd.R_typed HO_442001.out) (by decide))) hkp (fun k_ hk_ hs_ => Or.elim hs_ (fun e_ => (hk_.1.2) e_) (fun e_ => (hk_.2) e_))) (fun k_ hk_ => ⟨hk_.1.1.1.1.1, hk_.1.1.1.1.2, hk_.1.1.1.2⟩)); have n1_ := G (I (ok' := fun k_ => some k_ ≠ (v432 : Value).ownBlock ∧ some k_ ≠ (v446 : Value).ownBlock ∧ some k_ ≠ (.slice Ao66 t457.length co66 : Value).ownBlock) (Kd.R_keptB ((Kd.R_apart' (Kd.R_apart' HO_11.out (Kd.R_typed HO_442000.out) (by decide)) (Kd.R_typed HO_442001.out) (by decide))) hkp (fun k_ hk_ hs_ => Or.elim hs_ (fun e_ => (hk_.1.2) e_) (fun e_ => (hk_.2) e_))) (fun k_ hk_ => ⟨hk_.1.1.1.1.1, hk_.1.1.1.1.2, hk_.1.1.1.2⟩)); have n2_ := G (I (ok' := fun k_ => some k_ ≠ (v432 : Value).ownBlock ∧ some k_ ≠ (.slice Ao40 t442.length co40 : Value).ownBlock ∧ some k_ ≠ (.slice Ao66 t457.length co66 : Value).ownBlock) (Kd.R_keptB ((Kd.R_apart' (Kd.R_apart' HO_12.out (Kd.R_typed HO_442000.out) (by decide)) (Kd.R_typed HO_442001.out) (by decide))) hkp (fun k_ hk_ hs_ => Or.elim hs_ (fun e_ => (hk_.1.2) e_) (fun e_ => (hk_.2) e_))) (fun k_ hk_ => ⟨hk_.1.1.1.1.1, hk_.1.1.1.1.2, hk_.1.1.1.2⟩)); have n3_ := G (Kd.R_reok rfl hy0 (fun k_ e_ => HO_442000.out.1 k_ e_)); have n4_ := G (Kd.R_reok rfl hy1 (fun k_ e_ => HO_442001.out.1 k_ e_)); have n5_ := G (blk_kept (by (with_reducible repeat (first | refine U ?_ _ | refine X ?_ | refine V ?_ _)); exact BK419.out) hkp (fun hs_ => Or.elim hs_ (fun e_ => (fun e_ => (Kd.R_ne HO_442000.out BK419.out (by decide)) e_) e_) (fun e_ => (fun e_ => (Kd.R_ne HO_442001.out BK419.out (by decide)) e_) e_))); have n6_ := G (blk_kept (by (with_reducible repeat (first | refine U ?_ _ | refine X ?_ | refine V ?_ _)); exact BK441.out) hkp (fun hs_ => Or.elim hs_ (fun e_ => (fun e_ => (Kd.R_ne HO_442000.out BK441.out (by decide)) e_) e_) (fun e_ => (fun e_ => (Kd.R_ne HO_442001.out BK441.out (by decide)) e_) e_))); have n7_ := G (I (ok' := fun k_ => some k_ ≠ (.slice Ao34 t435.length co34 : Value).ownBlock) (Kd.R_keptB ((Kd.R_apart' HO452.out (Kd.R_typed HO_442001.out) (by decide))) hkp (fun k_ hk_ hs_ => Or.elim hs_ (fun e_ => (hk_.1.2) e_) (fun e_ => (hk_.2) e_))) (fun k_ hk_ => hk_.1.1.2)); have n8_ := G (I (ok' := fun k_ => some k_ ≠ (.slice Ao37 t438.length co37 : Value).ownBlock) (Kd.R_keptB ((Kd.R_apart' HO455.out (Kd.R_typed HO_442000.out) (by decide))) hkp (fun k_ hk_ hs_ => Or.elim hs_ (fun e_ => (hk_.2) e_) (fun e_ => (hk_.1.2) e_))) (fun k_ hk_ => hk_.1.1.2)); have n9_ := G (I (ok' := fun k_ => some k_ ≠ (v432 : Value).ownBlock ∧ some k_ ≠ (.slice Ao40 t442.length co40 : Value).ownBlock ∧ some k_ ≠ (v446 : Value).ownBlock) (Kd.R_keptB ((Kd.R_apart' (Kd.R_apart' HO459.out (Kd.R_typed HO_442000.out) (by decide)) (Kd.R_typed HO_442001.out) (by decide))) hkp (fun k_ hk_ hs_ => Or.elim hs_ (fun e_ => (hk_.1.2) e_) (fun e_ => (hk_.2) e_))) (fun k_ hk_ => ⟨hk_.1.1.1.1.1.2, hk_.1.1.1.1.2, hk_.1.1.1.2⟩)); have n10_ := G (hb); clear HO_8; clear HO_11; clear HO_12; clear HO_442000; clear HO_442001; clear BK419; clear BK441; clear HO452; clear HO455; clear HO459; clear HB; have HO_8 := n0_; have HO_11 := n1_; have HO_12 := n2_; have HO_442000 := n3_; have HO_442001 := n4_; have BK419 := n5_; have BK441 := n6_; have HO452 := n7_; have HO455 := n8_; have HO459 := n9_; have HB := n10_; clear n0_ n1_ n2_ n3_ n4_ n5_ n6_ n7_ n8_ n9_ n10_; (try clear hb); (try clear hkp); (try clear hy0); (try clear hy1)) | ((with_reducible refine gate_callee (f := 47) rfl ?_); refine goesL_ (some 73) rfl rfl Try.func47 (by kernel_rfl) rfl #[.slice Ao40 t442.length co40, .int .i64 t461] rfl (by (try simp only [List.map_toArray, List.map_cons, List.map_nil]); first | done | rfl | (simp only [List.length_drop, List.length_take]; rfl)) ?_; (with_reducible refine (laws_markPullS.calls kj19 (fun k_ => some k_ = (.slice Ao40 t442.length co40 : Value).ownBlock) (.slice Ao40 t442.length co40) t442 t461 t464 t465 w _ ?side1 ?side2 A58.out).mono ?_); (case side1 => repeat (first | (with_reducible first | exact HB.out | apply Z | apply T | apply Y | refine O ?_ GE419.out | refine O ?_ GE441.out) | exact HB.out)); (case side2 => exact Kd.R_tight rfl HO_11.out); rintro e w71 ⟨rfl, hy0, hb, hkp⟩; refine ⟨_, rfl, ?_⟩; have n0_ := G (I (ok' := fun k_ => some k_ ≠ (.slice Ao40 t442.length co40 : Value).ownBlock ∧ some k_ ≠ (v446 : Value).ownBlock ∧ some k_ ≠ (.slice Ao66 t457.length co66 : Value).ownBlock) (Kd.R_keptB (HO_8.out) hkp (fun k_ hk_ hs_ => (hk_.1) hs_)) (fun k_ hk_ => ⟨hk_.1.1, hk_.1.2.1, hk_.1.2.2⟩)); have n1_ := G (Kd.R_reok rfl hy0 (fun k_ e_ => HO_11.out.1 k_ e_)); have n2_ := G (I (ok' := fun k_ => some k_ ≠ (v432 : Value).ownBlock ∧ some k_ ≠ (.slice Ao40 t442.length co40 : Value).ownBlock ∧ some k_ ≠ (.slice Ao66 t457.length co66 : Value).ownBlock) (Kd.R_keptB (HO_12.out) hkp (fun k_ hk_ hs_ => (hk_.2.1) hs_)) (fun k_ hk_ => ⟨hk_.1.1, hk_.1.2.1, hk_.1.2.2⟩)); have n3_ := G (I (ok' := fun k_ => some k_ ≠ (.slice Ao62 t450.length co62 : Value).ownBlock) (Kd.R_keptB ((Kd.R_apart' HO_442000.out (Kd.R_typed HO_11.out) (by decide))) hkp (fun k_ hk_ hs_ => (hk_.2) hs_)) (fun k_ hk_ => hk_.1.1.2)); have n4_ := G (I (ok' := fun k_ => some k_ ≠ (.slice Ao63 t453.length co63 : Value).ownBlock) (Kd.R_keptB ((Kd.R_apart' HO_442001.out (Kd.R_typed HO_11.out) (by decide))) hkp (fun k_ hk_ hs_ => (hk_.2) hs_)) (fun k_ hk_ => hk_.1.1.2)); have n5_ := G (blk_kept (by (with_reducible repeat (first | refine U ?_ _ | refine X ?_ | refine V ?_ _)); exact BK419.out) hkp (fun hs_ => (fun e_ => (Kd.R_ne HO_11.out BK419.out (by decide)) e_) hs_)); have n6_ := G (blk_kept (by (with_reducible repeat (first | refine U ?_ _ | refine X ?_ | refine V ?_ _)); exact BK441.out) hkp (fun hs_ => (fun e_ => (Kd.R_ne HO_11.out BK441.out (by decide)) e_) hs_)); have n7_ := G (I (ok' := fun k_ => some k_ ≠ (.slice Ao34 t435.length co34 : Value).ownBlock) (Kd.R_keptB ((Kd.R_apart' HO452.out (Kd.R_typed HO_11.out) (by decide))) hkp (fun k_ hk_ hs_ => (hk_.2) hs_)) (fun k_ hk_ => hk_.1.1)); have n8_ := G (I (ok' := fun k_ => some k_ ≠ (.slice Ao37 t438.length co37 : Value).ownBlock) (Kd.R_keptB ((Kd.R_apart' HO455.out (Kd.R_typed HO_11.out) (by decide))) hkp (fun k_ hk_ hs_ => (hk_.2) hs_)) (fun k_ hk_ => hk_.1.1)); have n9_ := G (I (ok' := fun k_ => some k_ ≠ (v432 : Value).ownBlock ∧ some k_ ≠ (.slice Ao40 t442.length co40 : Value).ownBlock ∧ some k_ ≠ (v446 : Value).ownBlock) (Kd.R_keptB (HO459.out) hkp (fun k_ hk_ hs_ => (hk_.2.1) hs_)) (fun k_ hk_ => ⟨hk_.1.1, hk_.1.2.1, hk_.1.2.2⟩)); have n10_ := G (hb); clear HO_8; clear HO_11; clear HO_12; clear HO_442000; clear HO_442001; clear BK419; clear BK441; clear HO452; clear HO455; clear HO459; clear HB; have HO_8 := n0_; have HO_11 := n1_; have HO_12 := n2_; have HO_442000 := n3_; have HO_442001 := n4_; have BK419 := n5_; have BK441 := n6_; have HO452 := n7_; have HO455 := n8_; have HO459 := n9_; have HB := n10_; clear n0_ n1_ n2_ n3_ n4_ n5_ n6_ n7_ n8_ n9_ n10_; (try clear hb); (try clear hkp); (try clear hy0)))
        (try simp only [Act.put, List.setIfInBounds_toArray, List.set_cons_zero, List.set_cons_succ])
        go_cut [86] (fun v86 wc => ∃ (kq : Nat) (x86_58 : Bool), v86 = .bool x86_58 ∧ Aside0 (laws_FnExactScaleLoads.j1 kq l1 a2 t431 t434 t445 x86_58 l0_0 l0_1 = some r) ∧ Aside0 (kq ≤ kj19) ∧ Aside0 (Kd.R k97 97 wc w.heap.size (fun k_ => some k_ ≠ (v446 : Value).ownBlock) v432 t431) ∧ Aside0 (Kd.R k97 97 wc w.heap.size (fun k_ => some k_ ≠ (v432 : Value).ownBlock) v446 t445) ∧ Aside0 (Kd.R k82 82 wc w.heap.size (fun _ => True) (.slice Ao34 t435.length co34) t462) ∧ Aside0 (Kd.R k84 84 wc w.heap.size (fun _ => True) (.slice Ao37 t438.length co37) t463) ∧ Aside0 (wc.heap[gb419]? = some (.cells #[(.slice A0_0 l0_0.length c0_0), (.slice A0_1 l0_1.length c0_1)] 33 (0, 0))) ∧ Aside0 (wc.heap[gb441]? = some (.cells #[(.slice Ao34 t435.length co34), (.slice Ao37 t438.length co37)] 39 (0, 0))) ∧ Aside0 (Below w.heap.size w wc))
        case first =>
         have H := HC59.out
         clear HC59
         by_cases c72 : t464 < 0
         ·rw [if_pos c72] at H
          have c72b0 : decide (t464 < 0) = true := decide_eq_true c72
          clear c72
          (first | rw [c72b0] | (simp only [i64_w, i32_w]; rw [c72b0]) | skip)
          have H' := G H
          clear H
          go_wp2
          go_meet
          case rel => exact ⟨_, (true), (by first | rfl | (simp; done) | (simp [*]; done)), H', ⟨by have := HJ19.out; first | omega | exact Nat.le_refl _⟩, ⟨by (with_reducible repeat (first | apply J | apply L | apply M)); exact I HO_8.out (fun _ hk => hk.2.1)⟩, ⟨by (with_reducible repeat (first | apply J | apply L | apply M)); exact I HO_12.out (fun _ hk => hk.1)⟩, ⟨by (with_reducible repeat (first | apply J | apply L | apply M)); exact I HO_442000.out (fun _ hk => trivial)⟩, ⟨by (with_reducible repeat (first | apply J | apply L | apply M)); exact I HO_442001.out (fun _ hk => trivial)⟩, ⟨by (with_reducible repeat (first | refine U ?_ _ | refine X ?_ | refine V ?_ _)); exact BK419.out⟩, ⟨by (with_reducible repeat (first | refine U ?_ _ | refine X ?_ | refine V ?_ _)); exact BK441.out⟩, ⟨by repeat (first | (with_reducible first | exact HB.out | apply Z | apply T | apply Y | refine O ?_ GE419.out | refine O ?_ GE441.out) | exact HB.out)⟩⟩
         ·rw [if_neg c72] at H
          have c72b0 : decide (t464 < 0) = false := decide_eq_false c72
          clear c72
          (first | rw [c72b0] | (simp only [i64_w, i32_w]; rw [c72b0]) | skip)
          replace H := Option.bind_eq_some_iff.mp H
          obtain ⟨t466, A730, H⟩ := H
          replace H : (if t466 = true then (laws_FnExactScaleLoads.j1 kj19 l1 a2 t431 t434 t445 (t448 != t434) l0_0 l0_1) else (laws_FnExactScaleLoads.j1 kj19 l1 a2 t431 t434 t445 true l0_0 l0_1)) = some r := H
          have A73 := G A730
          clear A730
          by_cases c74 : t466 = true
          ·subst c74
           have H1 : (laws_FnExactScaleLoads.j1 kj19 l1 a2 t431 t434 t445 (t448 != t434) l0_0 l0_1) = some r := by rw [if_pos rfl] at H; exact H
           clear H
           have H := H1
           clear H1
           have H' := G H
           clear H
           obtain ⟨Ao75, co75, eo75⟩ := Kd.R_slice HO_12.out
           subst eo75
           obtain ⟨Ao76, co76, eo76⟩ := Kd.R_slice HO_8.out
           subst eo76
           go_wp2_with (first | (go_at_call 32; (with_reducible refine (laws_eqPullS.calls kj19 _ _ t445 _ _ t431 true _ ?side1 ?side2 ?side3 ?side4 A73.out).mono ?_); (case side1 => repeat (first | exact (Kd.R_reads' HO_12.out).2.2 | (with_reducible refine P ?_ _) | (with_reducible refine GG ?_ _) | (with_reducible refine GJ ?_))); (case side2 => exact (Kd.R_reads' HO_12.out).2.1); (case side3 => repeat (first | exact (Kd.R_reads' HO_8.out).2.2 | (with_reducible refine P ?_ _) | (with_reducible refine GG ?_ _) | (with_reducible refine GJ ?_))); (case side4 => exact (Kd.R_reads' HO_8.out).2.1); rintro e w77 ⟨rfl, hb⟩; have n0_ := G (B (by (with_reducible repeat (first | apply J | apply L | apply M)); exact HO_8.out) hb); have n1_ := G (B (by (with_reducible repeat (first | apply J | apply L | apply M)); exact HO_11.out) hb); have n2_ := G (B (by (with_reducible repeat (first | apply J | apply L | apply M)); exact HO_12.out) hb); have n3_ := G (B (by (with_reducible repeat (first | apply J | apply L | apply M)); exact HO_442000.out) hb); have n4_ := G (B (by (with_reducible repeat (first | apply J | apply L | apply M)); exact HO_442001.out) hb); have n5_ := G (B (by (with_reducible repeat (first | apply J | apply L | apply M)); exact HO452.out) hb); have n6_ := G (B (by (with_reducible repeat (first | apply J | apply L | apply M)); exact HO455.out) hb); have n7_ := G (B (by (with_reducible repeat (first | apply J | apply L | apply M)); exact HO459.out) hb); have n8_ := G (F (g := gb419) (o := .cells #[.slice A0_0 l0_0.length c0_0, .slice A0_1 l0_1.length c0_1] 33 (0, 0)) (by (with_reducible repeat (first | refine U ?_ _ | refine X ?_ | refine V ?_ _)); exact BK419.out) hb); have n9_ := G (F (g := gb441) (o := .cells #[.slice Ao34 t435.length co34, .slice Ao37 t438.length co37] 39 (0, 0)) (by (with_reducible repeat (first | refine U ?_ _ | refine X ?_ | refine V ?_ _)); exact BK441.out) hb); have n10_ := G (GN (by repeat (first | (with_reducible first | exact HB.out | apply Z | apply T | apply Y | refine O ?_ GE419.out | refine O ?_ GE441.out) | exact HB.out)) hb); clear HO_8; clear HO_11; clear HO_12; clear HO_442000; clear HO_442001; clear HO452; clear HO455; clear HO459; clear BK419; clear BK441; clear HB; have HO_8 := n0_; have HO_11 := n1_; have HO_12 := n2_; have HO_442000 := n3_; have HO_442001 := n4_; have HO452 := n5_; have HO455 := n6_; have HO459 := n7_; have BK419 := n8_; have BK441 := n9_; have HB := n10_; clear n0_ n1_ n2_ n3_ n4_ n5_ n6_ n7_ n8_ n9_ n10_; (try clear hb); (try clear hb2); (try clear hk); (try clear hi)))
           go_meet
           case rel => exact ⟨_, ((t448 != t434)), (by first | rfl | (simp; done) | (simp [*]; done)), H', ⟨by have := HJ19.out; first | omega | exact Nat.le_refl _⟩, ⟨by (with_reducible repeat (first | apply J | apply L | apply M)); exact I HO_8.out (fun _ hk => hk.2.1)⟩, ⟨by (with_reducible repeat (first | apply J | apply L | apply M)); exact I HO_12.out (fun _ hk => hk.1)⟩, ⟨by (with_reducible repeat (first | apply J | apply L | apply M)); exact I HO_442000.out (fun _ hk => trivial)⟩, ⟨by (with_reducible repeat (first | apply J | apply L | apply M)); exact I HO_442001.out (fun _ hk => trivial)⟩, ⟨by (with_reducible repeat (first | refine U ?_ _ | refine X ?_ | refine V ?_ _)); exact BK419.out⟩, ⟨by (with_reducible repeat (first | refine U ?_ _ | refine X ?_ | refine V ?_ _)); exact BK441.out⟩, ⟨by repeat (first | (with_reducible first | exact HB.out | apply Z | apply T | apply Y | refine O ?_ GE419.out | refine O ?_ GE441.out) | exact HB.out)⟩⟩
          ·replace c74 := Bool.eq_false_iff.mpr c74
           subst c74
           have H1 : (laws_FnExactScaleLoads.j1 kj19 l1 a2 t431 t434 t445 true l0_0 l0_1) = some r := by rw [if_neg (show ¬ (false = true) by decide)] at H; exact H
           clear H
           have H := H1
           clear H1
           have H' := G H
           clear H
           obtain ⟨Ao78, co78, eo78⟩ := Kd.R_slice HO_12.out
           subst eo78
           obtain ⟨Ao79, co79, eo79⟩ := Kd.R_slice HO_8.out
           subst eo79
           go_wp2_with (first | (go_at_call 32; (with_reducible refine (laws_eqPullS.calls kj19 _ _ t445 _ _ t431 false _ ?side1 ?side2 ?side3 ?side4 A73.out).mono ?_); (case side1 => repeat (first | exact (Kd.R_reads' HO_12.out).2.2 | (with_reducible refine P ?_ _) | (with_reducible refine GG ?_ _) | (with_reducible refine GJ ?_))); (case side2 => exact (Kd.R_reads' HO_12.out).2.1); (case side3 => repeat (first | exact (Kd.R_reads' HO_8.out).2.2 | (with_reducible refine P ?_ _) | (with_reducible refine GG ?_ _) | (with_reducible refine GJ ?_))); (case side4 => exact (Kd.R_reads' HO_8.out).2.1); rintro e w80 ⟨rfl, hb⟩; have n0_ := G (B (by (with_reducible repeat (first | apply J | apply L | apply M)); exact HO_8.out) hb); have n1_ := G (B (by (with_reducible repeat (first | apply J | apply L | apply M)); exact HO_11.out) hb); have n2_ := G (B (by (with_reducible repeat (first | apply J | apply L | apply M)); exact HO_12.out) hb); have n3_ := G (B (by (with_reducible repeat (first | apply J | apply L | apply M)); exact HO_442000.out) hb); have n4_ := G (B (by (with_reducible repeat (first | apply J | apply L | apply M)); exact HO_442001.out) hb); have n5_ := G (B (by (with_reducible repeat (first | apply J | apply L | apply M)); exact HO452.out) hb); have n6_ := G (B (by (with_reducible repeat (first | apply J | apply L | apply M)); exact HO455.out) hb); have n7_ := G (B (by (with_reducible repeat (first | apply J | apply L | apply M)); exact HO459.out) hb); have n8_ := G (F (g := gb419) (o := .cells #[.slice A0_0 l0_0.length c0_0, .slice A0_1 l0_1.length c0_1] 33 (0, 0)) (by (with_reducible repeat (first | refine U ?_ _ | refine X ?_ | refine V ?_ _)); exact BK419.out) hb); have n9_ := G (F (g := gb441) (o := .cells #[.slice Ao34 t435.length co34, .slice Ao37 t438.length co37] 39 (0, 0)) (by (with_reducible repeat (first | refine U ?_ _ | refine X ?_ | refine V ?_ _)); exact BK441.out) hb); have n10_ := G (GN (by repeat (first | (with_reducible first | exact HB.out | apply Z | apply T | apply Y | refine O ?_ GE419.out | refine O ?_ GE441.out) | exact HB.out)) hb); clear HO_8; clear HO_11; clear HO_12; clear HO_442000; clear HO_442001; clear HO452; clear HO455; clear HO459; clear BK419; clear BK441; clear HB; have HO_8 := n0_; have HO_11 := n1_; have HO_12 := n2_; have HO_442000 := n3_; have HO_442001 := n4_; have HO452 := n5_; have HO455 := n6_; have HO459 := n7_; have BK419 := n8_; have BK441 := n9_; have HB := n10_; clear n0_ n1_ n2_ n3_ n4_ n5_ n6_ n7_ n8_ n9_ n10_; (try clear hb); (try clear hb2); (try clear hk); (try clear hi)))
           go_meet
           case rel => exact ⟨_, (true), (by first | rfl | (simp; done) | (simp [*]; done)), H', ⟨by have := HJ19.out; first | omega | exact Nat.le_refl _⟩, ⟨by (with_reducible repeat (first | apply J | apply L | apply M)); exact I HO_8.out (fun _ hk => hk.2.1)⟩, ⟨by (with_reducible repeat (first | apply J | apply L | apply M)); exact I HO_12.out (fun _ hk => hk.1)⟩, ⟨by (with_reducible repeat (first | apply J | apply L | apply M)); exact I HO_442000.out (fun _ hk => trivial)⟩, ⟨by (with_reducible repeat (first | apply J | apply L | apply M)); exact I HO_442001.out (fun _ hk => trivial)⟩, ⟨by (with_reducible repeat (first | refine U ?_ _ | refine X ?_ | refine V ?_ _)); exact BK419.out⟩, ⟨by (with_reducible repeat (first | refine U ?_ _ | refine X ?_ | refine V ?_ _)); exact BK441.out⟩, ⟨by repeat (first | (with_reducible first | exact HB.out | apply Z | apply T | apply Y | refine O ?_ GE419.out | refine O ?_ GE441.out) | exact HB.out)⟩⟩
        case rest =>
         clear HC59
         try clear c1
         try clear c2
         try clear p2
         try clear c3
         try clear c4
         try clear c5
         try clear c5b0
         try clear c6
         try clear c7
         try clear c10
         try clear c10b0
         try clear c11
         try clear c19
         try clear c21
         try clear c23
         try clear c28
         try clear c30
         try clear c32
         try clear c35
         try clear c36
         try clear c43
         try clear c45
         try clear c46
         try clear c47
         try clear c50
         try clear c53
         try clear c56
         try clear c68
         try clear c72
         try clear c72b0
         try clear c74
         try clear hcz12_0
         try clear hcz12_1
         try clear hcz22_0
         try clear hcz22_1
         try clear hcz24_0
         try clear hcz24_1
         try clear hcz31_0
         try clear hcz31_1
         try clear hcz36_0
         try clear hcz36_1
         try clear hcz39_0
         try clear hcz39_1
         try clear hcz69_0
         try clear hcz69_1
         try clear hcz7_0
         try clear hcz7_1
         try clear hfz12_0
         try clear hfz12_1
         try clear hfz22_0
         try clear hfz22_1
         try clear hfz24_0
         try clear hfz24_1
         try clear hfz31_0
         try clear hfz31_1
         try clear hfz36_0
         try clear hfz36_1
         try clear hfz39_0
         try clear hfz39_1
         try clear hfz69_0
         try clear hfz69_1
         try clear hfz7_0
         try clear hfz7_1
         try clear p2
         obtain ⟨kq, x86_58, rfl, HA, HJ58, HO_8, HO_12, HO_442000, HO_442001, BK419, BK441, HB⟩ := hcut
         have hl442000_58 := (Kd.R_reads' HO_442000.out).1
         rw [hl442000_58] at HO_442000
         (try simp only [hl442000_58])
         (try simp only [hl442000_58] at BK419)
         (try simp only [hl442000_58] at BK441)
         (try simp only [hl442000_58] at HO_8)
         (try simp only [hl442000_58] at HO_12)
         (try simp only [hl442000_58] at HO_442001)
         have hl442001_58 := (Kd.R_reads' HO_442001.out).1
         rw [hl442001_58] at HO_442001
         (try simp only [hl442001_58])
         (try simp only [hl442001_58] at BK419)
         (try simp only [hl442001_58] at BK441)
         (try simp only [hl442001_58] at HO_8)
         (try simp only [hl442001_58] at HO_12)
         (try simp only [hl442001_58] at HO_442000)
         cases kq with
         | zero => exact absurd HA.out (by simp [laws_FnExactScaleLoads.j1])
         | succ kj58 =>
          have H := HA.out
          clear HA
          simp only [laws_FnExactScaleLoads.j1] at H
          by_cases c81 : x86_58 = true
          ·subst c81
           have H1 : (some false) = some r := by rw [if_pos rfl] at H; exact H
           clear H
           have H := H1
           clear H1
           obtain rfl := Option.some.inj H
           go_wp2
           go_ret
           exact ⟨by first | rfl | (simp [errW_none, errW_some] <;> rfl) | (simp [*, errW_none, errW_some] <;> rfl), by repeat (first | (with_reducible first | exact HB.out | apply Z | apply T | apply Y | refine O ?_ GE419.out | refine O ?_ GE441.out) | exact HB.out)⟩
          ·replace c81 := Bool.eq_false_iff.mpr c81
           subst c81
           have H1 : ((laws_markPullS.f kj58 t445 1).bind fun bt467 => ((laws_heldPullS.f kj58 bt467.2 1).bind fun t469 => (if t469 < 0 then (some false) else (if t469 = bt467.1 then ((laws_toFrame.f kj58 l0_0 l0_1).bind fun bt470 => ((laws_toPullS.f kj58 l1).bind fun t476 => ((impl_ScaleLoads.f kj58 bt470.1 bt470.2 t476 a2).bind fun bt479 => ((laws_eqPullS.f kj58 bt479.1 t431).bind fun t483 => (if t483 = true then (laws_FnExactScaleLoads.j2 kj58 bt467.2 bt467.1 (bt479.2 != t434)) else (laws_FnExactScaleLoads.j2 kj58 bt467.2 bt467.1 true)))))) else (some false))))) = some r := by rw [if_neg (show ¬ (false = true) by decide)] at H; exact H
           clear H
           have H := H1
           clear H1
           replace H := Option.bind_eq_some_iff.mp H
           obtain ⟨⟨t467, t468⟩, A820, H⟩ := H
           replace H : ((laws_heldPullS.f kj58 t468 1).bind fun t469 => (if t469 < 0 then (some false) else (if t469 = t467 then ((laws_toFrame.f kj58 l0_0 l0_1).bind fun bt470 => ((laws_toPullS.f kj58 l1).bind fun t476 => ((impl_ScaleLoads.f kj58 bt470.1 bt470.2 t476 a2).bind fun bt479 => ((laws_eqPullS.f kj58 bt479.1 t431).bind fun t483 => (if t483 = true then (laws_FnExactScaleLoads.j2 kj58 t468 t467 (bt479.2 != t434)) else (laws_FnExactScaleLoads.j2 kj58 t468 t467 true)))))) else (some false)))) = some r := H
           have A82 := G A820
           clear A820
           replace H := Option.bind_eq_some_iff.mp H
           obtain ⟨t469, A830, H⟩ := H
           replace H : (if t469 < 0 then (some false) else (if t469 = t467 then ((laws_toFrame.f kj58 l0_0 l0_1).bind fun bt470 => ((laws_toPullS.f kj58 l1).bind fun t476 => ((impl_ScaleLoads.f kj58 bt470.1 bt470.2 t476 a2).bind fun bt479 => ((laws_eqPullS.f kj58 bt479.1 t431).bind fun t483 => (if t483 = true then (laws_FnExactScaleLoads.j2 kj58 t468 t467 (bt479.2 != t434)) else (laws_FnExactScaleLoads.j2 kj58 t468 t467 true)))))) else (some false))) = some r := H
           have A83 := G A830
           clear A830
           by_cases c84 : t469 < 0
           ·rw [if_pos c84] at H
            have c84b0 : decide (t469 < 0) = true := decide_eq_true c84
            clear c84
            obtain rfl := Option.some.inj H
            obtain ⟨Ao85, co85, eo85⟩ := Kd.R_slice HO_12.out
            subst eo85
            go_wp2_with (first | ((with_reducible refine gate_callee (f := 47) rfl ?_); refine goesL_ (some 89) rfl rfl Try.func47 (by kernel_rfl) rfl #[.slice Ao85 t445.length co85, .int .i64 1] rfl (by (try simp only [List.map_toArray, List.map_cons, List.map_nil]); first | done | rfl | (simp only [List.length_drop, List.length_take]; rfl)) ?_; (with_reducible refine (laws_markPullS.calls kj58 (fun k_ => some k_ = (.slice Ao85 t445.length co85 : Value).ownBlock) (.slice Ao85 t445.length co85) t445 1 t467 t468 w _ ?side1 ?side2 A82.out).mono ?_); (case side1 => repeat (first | (with_reducible first | exact HB.out | apply Z | apply T | apply Y | refine O ?_ GE419.out | refine O ?_ GE441.out) | exact HB.out)); (case side2 => exact Kd.R_tight rfl HO_12.out); rintro e w86 ⟨rfl, hy0, hb, hkp⟩; refine ⟨_, rfl, ?_⟩; have n0_ := G (I (ok' := fun k_ => some k_ ≠ (.slice Ao85 t445.length co85 : Value).ownBlock) (Kd.R_keptB (HO_8.out) hkp (fun k_ hk_ hs_ => (hk_) hs_)) (fun k_ hk_ => hk_.1)); have n1_ := G (Kd.R_reok rfl hy0 (fun k_ e_ => HO_12.out.1 k_ e_)); have n2_ := G (I (ok' := fun k_ => True) (Kd.R_keptB ((Kd.R_apart' HO_442000.out (Kd.R_typed HO_12.out) (by decide))) hkp (fun k_ hk_ hs_ => (hk_.2) hs_)) (fun k_ hk_ => trivial)); have n3_ := G (I (ok' := fun k_ => True) (Kd.R_keptB ((Kd.R_apart' HO_442001.out (Kd.R_typed HO_12.out) (by decide))) hkp (fun k_ hk_ hs_ => (hk_.2) hs_)) (fun k_ hk_ => trivial)); have n4_ := G (blk_kept (by (with_reducible repeat (first | refine U ?_ _ | refine X ?_ | refine V ?_ _)); exact BK419.out) hkp (fun hs_ => (fun e_ => (Kd.R_ne HO_12.out BK419.out (by decide)) e_) hs_)); have n5_ := G (blk_kept (by (with_reducible repeat (first | refine U ?_ _ | refine X ?_ | refine V ?_ _)); exact BK441.out) hkp (fun hs_ => (fun e_ => (Kd.R_ne HO_12.out BK441.out (by decide)) e_) hs_)); have n6_ := G (hb); clear HO_8; clear HO_12; clear HO_442000; clear HO_442001; clear BK419; clear BK441; clear HB; have HO_8 := n0_; have HO_12 := n1_; have HO_442000 := n2_; have HO_442001 := n3_; have BK419 := n4_; have BK441 := n5_; have HB := n6_; clear n0_ n1_ n2_ n3_ n4_ n5_ n6_; (try clear hb); (try clear hkp); (try clear hy0)) | ((with_reducible refine gate_callee (f := 48) rfl ?_); refine goesL_ (some 92) rfl rfl Try.func48 (by kernel_rfl) rfl #[.slice Ao85 t468.length co85, .int .i64 1] rfl (by (try simp only [List.map_toArray, List.map_cons, List.map_nil]); first | done | (rw [show t468.length = t445.length from (Kd.R_reads' HO_12.out).1.symm] <;> rfl) | rfl | (simp only [List.length_drop, List.length_take]; rfl)) ?_; (with_reducible refine (laws_heldPullS.calls kj58 _ _ t468 1 t469 _ ?side1 ?side2 A83.out).mono ?_); (case side1 => repeat (first | exact (Kd.R_reads' HO_12.out).2.2 | (with_reducible refine P ?_ _) | (with_reducible refine GG ?_ _) | (with_reducible refine GJ ?_))); (case side2 => rw [show t468.length = t445.length from (Kd.R_reads' HO_12.out).1.symm]; exact (Kd.R_reads' HO_12.out).2.1); rintro e w' ⟨rfl, ⟨nd, rfl⟩⟩; refine ⟨_, rfl, ?_⟩))
            go_ret
            exact ⟨by first | rfl | (simp [errW_none, errW_some] <;> rfl) | (simp [*, errW_none, errW_some] <;> rfl), by repeat (first | (with_reducible first | exact HB.out | apply Z | apply T | apply Y | refine O ?_ GE419.out | refine O ?_ GE441.out) | exact HB.out)⟩
           ·rw [if_neg c84] at H
            have c84b0 : decide (t469 < 0) = false := decide_eq_false c84
            clear c84
            by_cases c87 : t469 = t467
            ·rw [if_pos c87] at H
             have c87b0 : (t469 == t467) = true := beq_iff_eq.mpr c87
             have c87b1 : (t469 != t467) = false := bne_eq_false_iff_eq.mpr c87
             clear c87
             replace H := Option.bind_eq_some_iff.mp H
             obtain ⟨⟨t470, t473⟩, A880, H⟩ := H
             replace H : ((laws_toPullS.f kj58 l1).bind fun t476 => ((impl_ScaleLoads.f kj58 t470 t473 t476 a2).bind fun bt479 => ((laws_eqPullS.f kj58 bt479.1 t431).bind fun t483 => (if t483 = true then (laws_FnExactScaleLoads.j2 kj58 t468 t467 (bt479.2 != t434)) else (laws_FnExactScaleLoads.j2 kj58 t468 t467 true))))) = some r := H
             have A88 := G A880
             clear A880
             replace H := Option.bind_eq_some_iff.mp H
             obtain ⟨t476, A890, H⟩ := H
             replace H : ((impl_ScaleLoads.f kj58 t470 t473 t476 a2).bind fun bt479 => ((laws_eqPullS.f kj58 bt479.1 t431).bind fun t483 => (if t483 = true then (laws_FnExactScaleLoads.j2 kj58 t468 t467 (bt479.2 != t434)) else (laws_FnExactScaleLoads.j2 kj58 t468 t467 true)))) = some r := H
             have A89 := G A890
             clear A890
             replace H := Option.bind_eq_some_iff.mp H
             obtain ⟨⟨t479, t482⟩, A900, H⟩ := H
             replace H : ((laws_eqPullS.f kj58 t479 t431).bind fun t483 => (if t483 = true then (laws_FnExactScaleLoads.j2 kj58 t468 t467 (t482 != t434)) else (laws_FnExactScaleLoads.j2 kj58 t468 t467 true))) = some r := H
             have A90 := G A900
             clear A900
             have HC91 := G H
             clear H
             obtain ⟨Ao92, co92, eo92⟩ := Kd.R_slice HO_12.out
             subst eo92
             go_upto_region 32 with (first | ((with_reducible refine gate_callee (f := 47) rfl ?_); refine goesL_ (some 89) rfl rfl Try.func47 (by kernel_rfl) rfl #[.slice Ao92 t445.length co92, .int .i64 1] rfl (by (try simp only [List.map_toArray, List.map_cons, List.map_nil]); first | done | rfl | (simp only [List.length_drop, List.length_take]; rfl)) ?_; (with_reducible refine (laws_markPullS.calls kj58 (fun k_ => some k_ = (.slice Ao92 t445.length co92 : Value).ownBlock) (.slice Ao92 t445.length co92) t445 1 t467 t468 w _ ?side1 ?side2 A82.out).mono ?_); (case side1 => repeat (first | (with_reducible first | exact HB.out | apply Z | apply T | apply Y | refine O ?_ GE419.out | refine O ?_ GE441.out) | exact HB.out)); (case side2 => exact Kd.R_tight rfl HO_12.out); rintro e w93 ⟨rfl, hy0, hb, hkp⟩; refine ⟨_, rfl, ?_⟩; have n0_ := G (I (ok' := fun k_ => some k_ ≠ (.slice Ao92 t445.length co92 : Value).ownBlock) (Kd.R_keptB (HO_8.out) hkp (fun k_ hk_ hs_ => (hk_) hs_)) (fun k_ hk_ => hk_.1)); have n1_ := G (Kd.R_reok rfl hy0 (fun k_ e_ => HO_12.out.1 k_ e_)); have n2_ := G (I (ok' := fun k_ => True) (Kd.R_keptB ((Kd.R_apart' HO_442000.out (Kd.R_typed HO_12.out) (by decide))) hkp (fun k_ hk_ hs_ => (hk_.2) hs_)) (fun k_ hk_ => trivial)); have n3_ := G (I (ok' := fun k_ => True) (Kd.R_keptB ((Kd.R_apart' HO_442001.out (Kd.R_typed HO_12.out) (by decide))) hkp (fun k_ hk_ hs_ => (hk_.2) hs_)) (fun k_ hk_ => trivial)); have n4_ := G (blk_kept (by (with_reducible repeat (first | refine U ?_ _ | refine X ?_ | refine V ?_ _)); exact BK419.out) hkp (fun hs_ => (fun e_ => (Kd.R_ne HO_12.out BK419.out (by decide)) e_) hs_)); have n5_ := G (blk_kept (by (with_reducible repeat (first | refine U ?_ _ | refine X ?_ | refine V ?_ _)); exact BK441.out) hkp (fun hs_ => (fun e_ => (Kd.R_ne HO_12.out BK441.out (by decide)) e_) hs_)); have n6_ := G (hb); clear HO_8; clear HO_12; clear HO_442000; clear HO_442001; clear BK419; clear BK441; clear HB; have HO_8 := n0_; have HO_12 := n1_; have HO_442000 := n2_; have HO_442001 := n3_; have BK419 := n4_; have BK441 := n5_; have HB := n6_; clear n0_ n1_ n2_ n3_ n4_ n5_ n6_; (try clear hb); (try clear hkp); (try clear hy0)) | ((with_reducible refine gate_callee (f := 48) rfl ?_); refine goesL_ (some 92) rfl rfl Try.func48 (by kernel_rfl) rfl #[.slice Ao92 t468.length co92, .int .i64 1] rfl (by (try simp only [List.map_toArray, List.map_cons, List.map_nil]); first | done | (rw [show t468.length = t445.length from (Kd.R_reads' HO_12.out).1.symm] <;> rfl) | rfl | (simp only [List.length_drop, List.length_take]; rfl)) ?_; (with_reducible refine (laws_heldPullS.calls kj58 _ _ t468 1 t469 _ ?side1 ?side2 A83.out).mono ?_); (case side1 => repeat (first | exact (Kd.R_reads' HO_12.out).2.2 | (with_reducible refine P ?_ _) | (with_reducible refine GG ?_ _) | (with_reducible refine GJ ?_))); (case side2 => rw [show t468.length = t445.length from (Kd.R_reads' HO_12.out).1.symm]; exact (Kd.R_reads' HO_12.out).2.1); rintro e w' ⟨rfl, ⟨nd, rfl⟩⟩; refine ⟨_, rfl, ?_⟩; have hnb94 := NB419_441.out; have hnc94 := NB441_419.out; have hcz95_0 : w93.cell? ⟨gb419, 0, none⟩ = some (.slice A0_0 l0_0.length c0_0) := (E BK419.out 0).trans rfl; have hcz95_1 : w93.cell? ⟨gb419, 1, none⟩ = some (.slice A0_1 l0_1.length c0_1) := (E BK419.out 1).trans rfl; have hfz95_0 := GT BK419.out 0; have hfz95_1 := GT BK419.out 1) | ((with_reducible refine gate_callee (f := 21) rfl ?_); refine goesL_ (some 100) rfl rfl Try.func21 (by kernel_rfl) rfl #[.agg #[.slice A0_0 l0_0.length c0_0, .slice A0_1 l0_1.length c0_1]] rfl (by (try simp only [List.map_toArray, List.map_cons, List.map_nil]); first | done | rfl | (simp only [List.length_drop, List.length_take]; rfl)) ?_; (with_reducible refine (laws_toFrame.calls kj58 _ _ l0_0 _ _ l0_1 t470 t473 _ ?side1 ?side2 ?side3 ?side4 A88.out).mono ?_); (case side1 => repeat (first | exact (GO HR0_0.out (by repeat (first | (with_reducible first | exact HB.out | apply Z | apply T | apply Y | refine O ?_ GE419.out | refine O ?_ GE441.out) | exact HB.out))) | (with_reducible refine P ?_ _) | (with_reducible refine GG ?_ _) | (with_reducible refine GJ ?_))); (case side2 => exact HC0_0.out); (case side3 => repeat (first | exact (GO HR0_1.out (by repeat (first | (with_reducible first | exact HB.out | apply Z | apply T | apply Y | refine O ?_ GE419.out | refine O ?_ GE441.out) | exact HB.out))) | (with_reducible refine P ?_ _) | (with_reducible refine GG ?_ _) | (with_reducible refine GJ ?_))); (case side4 => exact HC0_1.out); rintro e w96 ⟨v471, v474, rfl, ho0, ho1, hb⟩; refine ⟨_, rfl, ?_⟩; have n0_ := G (B (by (with_reducible repeat (first | apply J | apply L | apply M)); exact HO_8.out) hb); have n1_ := G (B (by (with_reducible repeat (first | apply J | apply L | apply M)); exact HO_12.out) hb); have n2_ := G (Kd.R_elder' (by (with_reducible repeat (first | apply J | apply L | apply M)); exact HO_442000.out) (Kd.R_base ho0) hb); have n3_ := G (Kd.R_elder' (by (with_reducible repeat (first | apply J | apply L | apply M)); exact HO_442001.out) (Kd.R_base ho1) hb); have n4_ := G (Kd.R_lower (GL ho0 (Kd.R_lt (by (with_reducible repeat (first | apply J | apply L | apply M)); exact HO_442000.out))) (GM (by repeat (first | (with_reducible first | exact HB.out | apply Z | apply T | apply Y | refine O ?_ GE419.out | refine O ?_ GE441.out) | exact HB.out)))); have n5_ := G (Kd.R_lower (GL ho1 (Kd.R_lt (by (with_reducible repeat (first | apply J | apply L | apply M)); exact HO_442001.out))) (GM (by repeat (first | (with_reducible first | exact HB.out | apply Z | apply T | apply Y | refine O ?_ GE419.out | refine O ?_ GE441.out) | exact HB.out)))); have n6_ := G (F (g := gb419) (o := .cells #[.slice A0_0 l0_0.length c0_0, .slice A0_1 l0_1.length c0_1] 33 (0, 0)) (by (with_reducible repeat (first | refine U ?_ _ | refine X ?_ | refine V ?_ _)); exact BK419.out) hb); have n7_ := G (F (g := gb441) (o := .cells #[.slice Ao34 t462.length co34, .slice Ao37 t463.length co37] 39 (0, 0)) (by (with_reducible repeat (first | refine U ?_ _ | refine X ?_ | refine V ?_ _)); exact BK441.out) hb); have n8_ := G (GN (by repeat (first | (with_reducible first | exact HB.out | apply Z | apply T | apply Y | refine O ?_ GE419.out | refine O ?_ GE441.out) | exact HB.out)) hb); clear HO_8; clear HO_12; clear HO_442000; clear HO_442001; clear BK419; clear BK441; clear HB; have HO_8 := n0_; have HO_12 := n1_; have HO_442000 := n2_; have HO_442001 := n3_; have HO472 := n4_; have HO475 := n5_; have BK419 := n6_; have BK441 := n7_; have HB := n8_; clear n0_ n1_ n2_ n3_ n4_ n5_ n6_ n7_ n8_; (try clear hb); (try clear hb2); (try clear hk); (try clear hi); (try clear ho0); (try clear ho1)) | ((with_reducible refine gate_callee (f := 30) rfl ?_); refine goesL_ (some 102) rfl rfl Try.func30 (by kernel_rfl) rfl #[.slice A1 l1.length c1] rfl (by (try simp only [List.map_toArray, List.map_cons, List.map_nil]); first | done | rfl | (simp only [List.length_drop, List.length_take]; rfl)) ?_; (with_reducible refine (laws_toPullS.calls kj58 _ _ l1 t476 _ ?side1 ?side2 A89.out).mono ?_); (case side1 => repeat (first | exact (GO HR1.out HB.out) | (with_reducible refine P ?_ _) | (with_reducible refine GG ?_ _) | (with_reducible refine GJ ?_))); (case side2 => exact HC1.out); rintro e w97 ⟨v477, rfl, ho0, hb⟩; refine ⟨_, rfl, ?_⟩; have n0_ := G (Kd.R_elder' (by (with_reducible repeat (first | apply J | apply L | apply M)); exact HO_8.out) (Kd.R_base ho0) hb); have n1_ := G (Kd.R_elder' (by (with_reducible repeat (first | apply J | apply L | apply M)); exact HO_12.out) (Kd.R_base ho0) hb); have n2_ := G (B (by (with_reducible repeat (first | apply J | apply L | apply M)); exact HO_442000.out) hb); have n3_ := G (B (by (with_reducible repeat (first | apply J | apply L | apply M)); exact HO_442001.out) hb); have n4_ := G (B (by (with_reducible repeat (first | apply J | apply L | apply M)); exact HO472.out) hb); have n5_ := G (B (by (with_reducible repeat (first | apply J | apply L | apply M)); exact HO475.out) hb); have n6_ := G (Kd.R_lower (GL (GL ho0 (Kd.R_lt (by (with_reducible repeat (first | apply J | apply L | apply M)); exact HO_8.out))) (Kd.R_lt (by (with_reducible repeat (first | apply J | apply L | apply M)); exact HO_12.out))) (GM (by repeat (first | (with_reducible first | exact HB.out | apply Z | apply T | apply Y | refine O ?_ GE419.out | refine O ?_ GE441.out) | exact HB.out)))); have n7_ := G (F (g := gb419) (o := .cells #[.slice A0_0 l0_0.length c0_0, .slice A0_1 l0_1.length c0_1] 33 (0, 0)) (by (with_reducible repeat (first | refine U ?_ _ | refine X ?_ | refine V ?_ _)); exact BK419.out) hb); have n8_ := G (F (g := gb441) (o := .cells #[.slice Ao34 t462.length co34, .slice Ao37 t463.length co37] 39 (0, 0)) (by (with_reducible repeat (first | refine U ?_ _ | refine X ?_ | refine V ?_ _)); exact BK441.out) hb); have n9_ := G (GN (by repeat (first | (with_reducible first | exact HB.out | apply Z | apply T | apply Y | refine O ?_ GE419.out | refine O ?_ GE441.out) | exact HB.out)) hb); clear HO_8; clear HO_12; clear HO_442000; clear HO_442001; clear HO472; clear HO475; clear BK419; clear BK441; clear HB; have HO_8 := n0_; have HO_12 := n1_; have HO_442000 := n2_; have HO_442001 := n3_; have HO472 := n4_; have HO475 := n5_; have HO478 := n6_; have BK419 := n7_; have BK441 := n8_; have HB := n9_; clear n0_ n1_ n2_ n3_ n4_ n5_ n6_ n7_ n8_ n9_; (try clear hb); (try clear hb2); (try clear hk); (try clear hi); (try clear ho0); obtain ⟨Ao98, co98, eo98⟩ := Kd.R_slice HO472.out; subst eo98; obtain ⟨Ao99, co99, eo99⟩ := Kd.R_slice HO475.out; subst eo99; obtain ⟨Ao100, co100, eo100⟩ := Kd.R_slice HO478.out; subst eo100) | ((with_reducible refine gate_callee (f := 46) rfl ?_); refine goesL_ (some 104) rfl rfl Try.func46 (by kernel_rfl) rfl #[.agg #[.slice Ao98 t470.length co98, .slice Ao99 t473.length co99], .slice Ao100 t476.length co100, .int .i64 a2] rfl (by (try simp only [List.map_toArray, List.map_cons, List.map_nil]); first | done | rfl | (simp only [List.length_drop, List.length_take]; rfl)) ?_; (with_reducible refine (impl_ScaleLoads.calls kj58 _ _ t470 _ _ t473 _ _ t476 a2 t479 t482 _ ?side1 ?side2 ?side3 ?side4 ?side5 ?side6 A90.out).mono ?_); (case side1 => repeat (first | exact (Kd.R_reads' HO472.out).2.2 | (with_reducible refine P ?_ _) | (with_reducible refine GG ?_ _) | (with_reducible refine GJ ?_))); (case side2 => exact (Kd.R_reads' HO472.out).2.1); (case side3 => repeat (first | exact (Kd.R_reads' HO475.out).2.2 | (with_reducible refine P ?_ _) | (with_reducible refine GG ?_ _) | (with_reducible refine GJ ?_))); (case side4 => exact (Kd.R_reads' HO475.out).2.1); (case side5 => repeat (first | exact (Kd.R_reads' HO478.out).2.2 | (with_reducible refine P ?_ _) | (with_reducible refine GG ?_ _) | (with_reducible refine GJ ?_))); (case side6 => exact (Kd.R_reads' HO478.out).2.1); rintro e w101 ⟨v480, rfl, ho0, hb⟩; refine ⟨_, rfl, ?_⟩; have n0_ := G (Kd.R_elder' (by (with_reducible repeat (first | apply J | apply L | apply M)); exact HO_8.out) (Kd.R_base ho0) hb); have n1_ := G (Kd.R_elder' (by (with_reducible repeat (first | apply J | apply L | apply M)); exact HO_12.out) (Kd.R_base ho0) hb); have n2_ := G (B (by (with_reducible repeat (first | apply J | apply L | apply M)); exact HO_442000.out) hb); have n3_ := G (B (by (with_reducible repeat (first | apply J | apply L | apply M)); exact HO_442001.out) hb); have n4_ := G (B (by (with_reducible repeat (first | apply J | apply L | apply M)); exact HO472.out) hb); have n5_ := G (B (by (with_reducible repeat (first | apply J | apply L | apply M)); exact HO475.out) hb); have n6_ := G (Kd.R_elder' (by (with_reducible repeat (first | apply J | apply L | apply M)); exact HO478.out) (Kd.R_base ho0) hb); have n7_ := G (Kd.R_lower (GL (GL (GL ho0 (Kd.R_lt (by (with_reducible repeat (first | apply J | apply L | apply M)); exact HO_8.out))) (Kd.R_lt (by (with_reducible repeat (first | apply J | apply L | apply M)); exact HO_12.out))) (Kd.R_lt (by (with_reducible repeat (first | apply J | apply L | apply M)); exact HO478.out))) (GM (by repeat (first | (with_reducible first | exact HB.out | apply Z | apply T | apply Y | refine O ?_ GE419.out | refine O ?_ GE441.out) | exact HB.out)))); have n8_ := G (F (g := gb419) (o := .cells #[.slice A0_0 l0_0.length c0_0, .slice A0_1 l0_1.length c0_1] 33 (0, 0)) (by (with_reducible repeat (first | refine U ?_ _ | refine X ?_ | refine V ?_ _)); exact BK419.out) hb); have n9_ := G (F (g := gb441) (o := .cells #[.slice Ao34 t462.length co34, .slice Ao37 t463.length co37] 39 (0, 0)) (by (with_reducible repeat (first | refine U ?_ _ | refine X ?_ | refine V ?_ _)); exact BK441.out) hb); have n10_ := G (GN (by repeat (first | (with_reducible first | exact HB.out | apply Z | apply T | apply Y | refine O ?_ GE419.out | refine O ?_ GE441.out) | exact HB.out)) hb); clear HO_8; clear HO_12; clear HO_442000; clear HO_442001; clear HO472; clear HO475; clear HO478; clear BK419; clear BK441; clear HB; have HO_8 := n0_; have HO_12 := n1_; have HO_442000 := n2_; have HO_442001 := n3_; have HO472 := n4_; have HO475 := n5_; have HO478 := n6_; have HO481 := n7_; have BK419 := n8_; have BK441 := n9_; have HB := n10_; clear n0_ n1_ n2_ n3_ n4_ n5_ n6_ n7_ n8_ n9_ n10_; (try clear hb); (try clear hb2); (try clear hk); (try clear hi); (try clear ho0)))
             (try simp only [Act.put, List.setIfInBounds_toArray, List.set_cons_zero, List.set_cons_succ])
             go_cut [115] (fun v115 wc => ∃ (kq : Nat) (x115_90 : Bool), v115 = .bool x115_90 ∧ Aside0 (laws_FnExactScaleLoads.j2 kq t468 t467 x115_90 = some r) ∧ Aside0 (kq ≤ kj58) ∧ Aside0 (Kd.R k97 97 wc w.heap.size (fun _ => True) (.slice Ao92 t445.length co92) t468) ∧ Aside0 (Kd.R k82 82 wc w.heap.size (fun _ => True) (.slice Ao34 t462.length co34) t462) ∧ Aside0 (Kd.R k84 84 wc w.heap.size (fun _ => True) (.slice Ao37 t463.length co37) t463) ∧ Aside0 (wc.heap[gb419]? = some (.cells #[(.slice A0_0 l0_0.length c0_0), (.slice A0_1 l0_1.length c0_1)] 33 (0, 0))) ∧ Aside0 (wc.heap[gb441]? = some (.cells #[(.slice Ao34 t462.length co34), (.slice Ao37 t463.length co37)] 39 (0, 0))) ∧ Aside0 (Below w.heap.size w wc))
             case first =>
              have H := HC91.out
              clear HC91
              replace H := Option.bind_eq_some_iff.mp H
              obtain ⟨t483, A1020, H⟩ := H
              replace H : (if t483 = true then (laws_FnExactScaleLoads.j2 kj58 t468 t467 (t482 != t434)) else (laws_FnExactScaleLoads.j2 kj58 t468 t467 true)) = some r := H
              have A102 := G A1020
              clear A1020
              by_cases c103 : t483 = true
              ·subst c103
               have H1 : (laws_FnExactScaleLoads.j2 kj58 t468 t467 (t482 != t434)) = some r := by rw [if_pos rfl] at H; exact H
               clear H
               have H := H1
               clear H1
               have H' := G H
               clear H
               obtain ⟨Ao104, co104, eo104⟩ := Kd.R_slice HO481.out
               subst eo104
               obtain ⟨Ao105, co105, eo105⟩ := Kd.R_slice HO_8.out
               subst eo105
               go_wp2_with (first | ((with_reducible refine gate_callee (f := 32) rfl ?_); refine goesL_ (some 109) rfl rfl Try.func32 (by kernel_rfl) rfl #[.slice Ao104 t479.length co104, .slice Ao105 t431.length co105] rfl (by (try simp only [List.map_toArray, List.map_cons, List.map_nil]); first | done | rfl | (simp only [List.length_drop, List.length_take]; rfl)) ?_; (with_reducible refine (laws_eqPullS.calls kj58 _ _ t479 _ _ t431 true _ ?side1 ?side2 ?side3 ?side4 A102.out).mono ?_); (case side1 => repeat (first | exact (Kd.R_reads' HO481.out).2.2 | (with_reducible refine P ?_ _) | (with_reducible refine GG ?_ _) | (with_reducible refine GJ ?_))); (case side2 => exact (Kd.R_reads' HO481.out).2.1); (case side3 => repeat (first | exact (Kd.R_reads' HO_8.out).2.2 | (with_reducible refine P ?_ _) | (with_reducible refine GG ?_ _) | (with_reducible refine GJ ?_))); (case side4 => exact (Kd.R_reads' HO_8.out).2.1); rintro e w106 ⟨rfl, hb⟩; refine ⟨_, rfl, ?_⟩; have n0_ := G (B (by (with_reducible repeat (first | apply J | apply L | apply M)); exact HO_8.out) hb); have n1_ := G (B (by (with_reducible repeat (first | apply J | apply L | apply M)); exact HO_12.out) hb); have n2_ := G (B (by (with_reducible repeat (first | apply J | apply L | apply M)); exact HO_442000.out) hb); have n3_ := G (B (by (with_reducible repeat (first | apply J | apply L | apply M)); exact HO_442001.out) hb); have n4_ := G (B (by (with_reducible repeat (first | apply J | apply L | apply M)); exact HO472.out) hb); have n5_ := G (B (by (with_reducible repeat (first | apply J | apply L | apply M)); exact HO475.out) hb); have n6_ := G (B (by (with_reducible repeat (first | apply J | apply L | apply M)); exact HO478.out) hb); have n7_ := G (B (by (with_reducible repeat (first | apply J | apply L | apply M)); exact HO481.out) hb); have n8_ := G (F (g := gb419) (o := .cells #[.slice A0_0 l0_0.length c0_0, .slice A0_1 l0_1.length c0_1] 33 (0, 0)) (by (with_reducible repeat (first | refine U ?_ _ | refine X ?_ | refine V ?_ _)); exact BK419.out) hb); have n9_ := G (F (g := gb441) (o := .cells #[.slice Ao34 t462.length co34, .slice Ao37 t463.length co37] 39 (0, 0)) (by (with_reducible repeat (first | refine U ?_ _ | refine X ?_ | refine V ?_ _)); exact BK441.out) hb); have n10_ := G (GN (by repeat (first | (with_reducible first | exact HB.out | apply Z | apply T | apply Y | refine O ?_ GE419.out | refine O ?_ GE441.out) | exact HB.out)) hb); clear HO_8; clear HO_12; clear HO_442000; clear HO_442001; clear HO472; clear HO475; clear HO478; clear HO481; clear BK419; clear BK441; clear HB; have HO_8 := n0_; have HO_12 := n1_; have HO_442000 := n2_; have HO_442001 := n3_; have HO472 := n4_; have HO475 := n5_; have HO478 := n6_; have HO481 := n7_; have BK419 := n8_; have BK441 := n9_; have HB := n10_; clear n0_ n1_ n2_ n3_ n4_ n5_ n6_ n7_ n8_ n9_ n10_; (try clear hb); (try clear hb2); (try clear hk); (try clear hi)))
               go_meet
               case rel => exact ⟨_, ((t482 != t434)), (by first | rfl | (simp; done) | (simp [*]; done)), H', ⟨by have := HJ19.out; have := HJ58.out; first | omega | exact Nat.le_refl _⟩, ⟨by (try simp only [hl442000_58]); (try simp only [hl442001_58]); (with_reducible repeat (first | apply J | apply L | apply M)); exact I HO_12.out (fun _ hk => trivial)⟩, ⟨by (try simp only [hl442000_58]); (try simp only [hl442001_58]); (with_reducible repeat (first | apply J | apply L | apply M)); exact I HO_442000.out (fun _ hk => trivial)⟩, ⟨by (try simp only [hl442000_58]); (try simp only [hl442001_58]); (with_reducible repeat (first | apply J | apply L | apply M)); exact I HO_442001.out (fun _ hk => trivial)⟩, ⟨by (try simp only [hl442000_58]); (try simp only [hl442001_58]); (with_reducible repeat (first | refine U ?_ _ | refine X ?_ | refine V ?_ _)); exact BK419.out⟩, ⟨by (try simp only [hl442000_58]); (try simp only [hl442001_58]); (with_reducible repeat (first | refine U ?_ _ | refine X ?_ | refine V ?_ _)); exact BK441.out⟩, ⟨by repeat (first | (with_reducible first | exact HB.out | apply Z | apply T | apply Y | refine O ?_ GE419.out | refine O ?_ GE441.out) | exact HB.out)⟩⟩
              ·replace c103 := Bool.eq_false_iff.mpr c103
               subst c103
               have H1 : (laws_FnExactScaleLoads.j2 kj58 t468 t467 true) = some r := by rw [if_neg (show ¬ (false = true) by decide)] at H; exact H
               clear H
               have H := H1
               clear H1
               have H' := G H
               clear H
               obtain ⟨Ao107, co107, eo107⟩ := Kd.R_slice HO481.out
               subst eo107
               obtain ⟨Ao108, co108, eo108⟩ := Kd.R_slice HO_8.out
               subst eo108
               go_wp2_with (first | ((with_reducible refine gate_callee (f := 32) rfl ?_); refine goesL_ (some 109) rfl rfl Try.func32 (by kernel_rfl) rfl #[.slice Ao107 t479.length co107, .slice Ao108 t431.length co108] rfl (by (try simp only [List.map_toArray, List.map_cons, List.map_nil]); first | done | rfl | (simp only [List.length_drop, List.length_take]; rfl)) ?_; (with_reducible refine (laws_eqPullS.calls kj58 _ _ t479 _ _ t431 false _ ?side1 ?side2 ?side3 ?side4 A102.out).mono ?_); (case side1 => repeat (first | exact (Kd.R_reads' HO481.out).2.2 | (with_reducible refine P ?_ _) | (with_reducible refine GG ?_ _) | (with_reducible refine GJ ?_))); (case side2 => exact (Kd.R_reads' HO481.out).2.1); (case side3 => repeat (first | exact (Kd.R_reads' HO_8.out).2.2 | (with_reducible refine P ?_ _) | (with_reducible refine GG ?_ _) | (with_reducible refine GJ ?_))); (case side4 => exact (Kd.R_reads' HO_8.out).2.1); rintro e w109 ⟨rfl, hb⟩; refine ⟨_, rfl, ?_⟩; have n0_ := G (B (by (with_reducible repeat (first | apply J | apply L | apply M)); exact HO_8.out) hb); have n1_ := G (B (by (with_reducible repeat (first | apply J | apply L | apply M)); exact HO_12.out) hb); have n2_ := G (B (by (with_reducible repeat (first | apply J | apply L | apply M)); exact HO_442000.out) hb); have n3_ := G (B (by (with_reducible repeat (first | apply J | apply L | apply M)); exact HO_442001.out) hb); have n4_ := G (B (by (with_reducible repeat (first | apply J | apply L | apply M)); exact HO472.out) hb); have n5_ := G (B (by (with_reducible repeat (first | apply J | apply L | apply M)); exact HO475.out) hb); have n6_ := G (B (by (with_reducible repeat (first | apply J | apply L | apply M)); exact HO478.out) hb); have n7_ := G (B (by (with_reducible repeat (first | apply J | apply L | apply M)); exact HO481.out) hb); have n8_ := G (F (g := gb419) (o := .cells #[.slice A0_0 l0_0.length c0_0, .slice A0_1 l0_1.length c0_1] 33 (0, 0)) (by (with_reducible repeat (first | refine U ?_ _ | refine X ?_ | refine V ?_ _)); exact BK419.out) hb); have n9_ := G (F (g := gb441) (o := .cells #[.slice Ao34 t462.length co34, .slice Ao37 t463.length co37] 39 (0, 0)) (by (with_reducible repeat (first | refine U ?_ _ | refine X ?_ | refine V ?_ _)); exact BK441.out) hb); have n10_ := G (GN (by repeat (first | (with_reducible first | exact HB.out | apply Z | apply T | apply Y | refine O ?_ GE419.out | refine O ?_ GE441.out) | exact HB.out)) hb); clear HO_8; clear HO_12; clear HO_442000; clear HO_442001; clear HO472; clear HO475; clear HO478; clear HO481; clear BK419; clear BK441; clear HB; have HO_8 := n0_; have HO_12 := n1_; have HO_442000 := n2_; have HO_442001 := n3_; have HO472 := n4_; have HO475 := n5_; have HO478 := n6_; have HO481 := n7_; have BK419 := n8_; have BK441 := n9_; have HB := n10_; clear n0_ n1_ n2_ n3_ n4_ n5_ n6_ n7_ n8_ n9_ n10_; (try clear hb); (try clear hb2); (try clear hk); (try clear hi)))
               go_meet
               case rel => exact ⟨_, (true), (by first | rfl | (simp; done) | (simp [*]; done)), H', ⟨by have := HJ19.out; have := HJ58.out; first | omega | exact Nat.le_refl _⟩, ⟨by (try simp only [hl442000_58]); (try simp only [hl442001_58]); (with_reducible repeat (first | apply J | apply L | apply M)); exact I HO_12.out (fun _ hk => trivial)⟩, ⟨by (try simp only [hl442000_58]); (try simp only [hl442001_58]); (with_reducible repeat (first | apply J | apply L | apply M)); exact I HO_442000.out (fun _ hk => trivial)⟩, ⟨by (try simp only [hl442000_58]); (try simp only [hl442001_58]); (with_reducible repeat (first | apply J | apply L | apply M)); exact I HO_442001.out (fun _ hk => trivial)⟩, ⟨by (try simp only [hl442000_58]); (try simp only [hl442001_58]); (with_reducible repeat (first | refine U ?_ _ | refine X ?_ | refine V ?_ _)); exact BK419.out⟩, ⟨by (try simp only [hl442000_58]); (try simp only [hl442001_58]); (with_reducible repeat (first | refine U ?_ _ | refine X ?_ | refine V ?_ _)); exact BK441.out⟩, ⟨by repeat (first | (with_reducible first | exact HB.out | apply Z | apply T | apply Y | refine O ?_ GE419.out | refine O ?_ GE441.out) | exact HB.out)⟩⟩
             case rest =>
              clear HC91
              try clear c1
              try clear c2
              try clear p2
              try clear c3
              try clear c4
              try clear c5
              try clear c5b0
              try clear c6
              try clear c7
              try clear c8
              try clear c9
              try clear c10
              try clear c10b0
              try clear c11
              try clear c19
              try clear c21
              try clear c23
              try clear c28
              try clear c30
              try clear c32
              try clear c35
              try clear c36
              try clear c43
              try clear c45
              try clear c46
              try clear c47
              try clear c48
              try clear c50
              try clear c53
              try clear c56
              try clear c68
              try clear c72
              try clear c72b0
              try clear c74
              try clear c81
              try clear c84
              try clear c84b0
              try clear c87
              try clear c87b0
              try clear c87b1
              try clear c94
              try clear c103
              try clear hcz12_0
              try clear hcz12_1
              try clear hcz22_0
              try clear hcz22_1
              try clear hcz24_0
              try clear hcz24_1
              try clear hcz31_0
              try clear hcz31_1
              try clear hcz36_0
              try clear hcz36_1
              try clear hcz39_0
              try clear hcz39_1
              try clear hcz69_0
              try clear hcz69_1
              try clear hcz7_0
              try clear hcz7_1
              try clear hcz95_0
              try clear hcz95_1
              try clear hfz12_0
              try clear hfz12_1
              try clear hfz22_0
              try clear hfz22_1
              try clear hfz24_0
              try clear hfz24_1
              try clear hfz31_0
              try clear hfz31_1
              try clear hfz36_0
              try clear hfz36_1
              try clear hfz39_0
              try clear hfz39_1
              try clear hfz69_0
              try clear hfz69_1
              try clear hfz7_0
              try clear hfz7_1
              try clear hfz95_0
              try clear hfz95_1
              try clear p2
              obtain ⟨kq, x115_90, rfl, HA, HJ90, HO_12, HO_442000, HO_442001, BK419, BK441, HB⟩ := hcut
              have hl12_90 := (Kd.R_reads' HO_12.out).1
              rw [hl12_90] at HO_12
              (try simp only [hl12_90])
              (try simp only [hl12_90] at BK419)
              (try simp only [hl12_90] at BK441)
              (try simp only [hl12_90] at HO_442000)
              (try simp only [hl12_90] at HO_442001)
              cases kq with
              | zero => exact absurd HA.out (by simp [laws_FnExactScaleLoads.j2])
              | succ kj90 =>
               have H := HA.out
               clear HA
               simp only [laws_FnExactScaleLoads.j2] at H
               by_cases c110 : x115_90 = true
               ·subst c110
                have H1 : (some false) = some r := by rw [if_pos rfl] at H; exact H
                clear H
                have H := H1
                clear H1
                obtain rfl := Option.some.inj H
                go_wp2
                go_ret
                exact ⟨by first | rfl | (simp [errW_none, errW_some] <;> rfl) | (simp [*, errW_none, errW_some] <;> rfl), by repeat (first | (with_reducible first | exact HB.out | apply Z | apply T | apply Y | refine O ?_ GE419.out | refine O ?_ GE441.out) | exact HB.out)⟩
               ·replace c110 := Bool.eq_false_iff.mpr c110
                subst c110
                have H1 : ((laws_heldPullS.f kj90 t468 1).bind fun t484 => (if t484 < 0 then (some false) else (if t484 = t467 then (some true) else (some false)))) = some r := by rw [if_neg (show ¬ (false = true) by decide)] at H; exact H
                clear H
                have H := H1
                clear H1
                replace H := Option.bind_eq_some_iff.mp H
                obtain ⟨t484, A1110, H⟩ := H
                replace H : (if t484 < 0 then (some false) else (if t484 = t467 then (some true) else (some false))) = some r := H
                have A111 := G A1110
                clear A1110
                by_cases c112 : t484 < 0
                ·rw [if_pos c112] at H
                 have c112b0 : decide (t484 < 0) = true := decide_eq_true c112
                 clear c112
                 obtain rfl := Option.some.inj H
                 go_wp2_with (first | ((with_reducible refine gate_callee (f := 48) rfl ?_); refine goesL_ (some 118) rfl rfl Try.func48 (by kernel_rfl) rfl #[.slice Ao92 t468.length co92, .int .i64 1] rfl (by (try simp only [List.map_toArray, List.map_cons, List.map_nil]); first | done | rfl | (simp only [List.length_drop, List.length_take]; rfl)) ?_; (with_reducible refine (laws_heldPullS.calls kj90 _ _ t468 1 t484 _ ?side1 ?side2 A111.out).mono ?_); (case side1 => repeat (first | exact (Kd.R_reads' HO_12.out).2.2 | (with_reducible refine P ?_ _) | (with_reducible refine GG ?_ _) | (with_reducible refine GJ ?_))); (case side2 => exact (Kd.R_reads' HO_12.out).2.1); rintro e w' ⟨rfl, ⟨nd, rfl⟩⟩; refine ⟨_, rfl, ?_⟩))
                 go_ret
                 exact ⟨by first | rfl | (simp [errW_none, errW_some] <;> rfl) | (simp [*, errW_none, errW_some] <;> rfl), by repeat (first | (with_reducible first | exact HB.out | apply Z | apply T | apply Y | refine O ?_ GE419.out | refine O ?_ GE441.out) | exact HB.out)⟩
                ·rw [if_neg c112] at H
                 have c112b0 : decide (t484 < 0) = false := decide_eq_false c112
                 clear c112
                 by_cases c113 : t484 = t467
                 ·rw [if_pos c113] at H
                  have c113b0 : (t484 == t467) = true := beq_iff_eq.mpr c113
                  have c113b1 : (t484 != t467) = false := bne_eq_false_iff_eq.mpr c113
                  clear c113
                  obtain rfl := Option.some.inj H
                  go_wp2_with (first | ((with_reducible refine gate_callee (f := 48) rfl ?_); refine goesL_ (some 118) rfl rfl Try.func48 (by kernel_rfl) rfl #[.slice Ao92 t468.length co92, .int .i64 1] rfl (by (try simp only [List.map_toArray, List.map_cons, List.map_nil]); first | done | rfl | (simp only [List.length_drop, List.length_take]; rfl)) ?_; (with_reducible refine (laws_heldPullS.calls kj90 _ _ t468 1 t484 _ ?side1 ?side2 A111.out).mono ?_); (case side1 => repeat (first | exact (Kd.R_reads' HO_12.out).2.2 | (with_reducible refine P ?_ _) | (with_reducible refine GG ?_ _) | (with_reducible refine GJ ?_))); (case side2 => exact (Kd.R_reads' HO_12.out).2.1); rintro e w' ⟨rfl, ⟨nd, rfl⟩⟩; refine ⟨_, rfl, ?_⟩))
                  go_ret
                  exact ⟨by first | rfl | (simp [errW_none, errW_some] <;> rfl) | (simp [*, errW_none, errW_some] <;> rfl), by repeat (first | (with_reducible first | exact HB.out | apply Z | apply T | apply Y | refine O ?_ GE419.out | refine O ?_ GE441.out) | exact HB.out)⟩
                 ·rw [if_neg c113] at H
                  have c113b0 : (t484 == t467) = false := beq_eq_false_iff_ne.mpr c113
                  have c113b1 : (t484 != t467) = true := bne_iff_ne.mpr c113
                  obtain rfl := Option.some.inj H
                  go_wp2_with (first | ((with_reducible refine gate_callee (f := 48) rfl ?_); refine goesL_ (some 118) rfl rfl Try.func48 (by kernel_rfl) rfl #[.slice Ao92 t468.length co92, .int .i64 1] rfl (by (try simp only [List.map_toArray, List.map_cons, List.map_nil]); first | done | rfl | (simp only [List.length_drop, List.length_take]; rfl)) ?_; (with_reducible refine (laws_heldPullS.calls kj90 _ _ t468 1 t484 _ ?side1 ?side2 A111.out).mono ?_); (case side1 => repeat (first | exact (Kd.R_reads' HO_12.out).2.2 | (with_reducible refine P ?_ _) | (with_reducible refine GG ?_ _) | (with_reducible refine GJ ?_))); (case side2 => exact (Kd.R_reads' HO_12.out).2.1); rintro e w' ⟨rfl, ⟨nd, rfl⟩⟩; refine ⟨_, rfl, ?_⟩))
                  go_ret
                  exact ⟨by first | rfl | (simp [errW_none, errW_some] <;> rfl) | (simp [*, errW_none, errW_some] <;> rfl), by repeat (first | (with_reducible first | exact HB.out | apply Z | apply T | apply Y | refine O ?_ GE419.out | refine O ?_ GE441.out) | exact HB.out)⟩
            ·rw [if_neg c87] at H
             have c87b0 : (t469 == t467) = false := beq_eq_false_iff_ne.mpr c87
             have c87b1 : (t469 != t467) = true := bne_iff_ne.mpr c87
             obtain rfl := Option.some.inj H
             obtain ⟨Ao114, co114, eo114⟩ := Kd.R_slice HO_12.out
             subst eo114
             go_wp2_with (first | ((with_reducible refine gate_callee (f := 47) rfl ?_); refine goesL_ (some 89) rfl rfl Try.func47 (by kernel_rfl) rfl #[.slice Ao114 t445.length co114, .int .i64 1] rfl (by (try simp only [List.map_toArray, List.map_cons, List.map_nil]); first | done | rfl | (simp only [List.length_drop, List.length_take]; rfl)) ?_; (with_reducible refine (laws_markPullS.calls kj58 (fun k_ => some k_ = (.slice Ao114 t445.length co114 : Value).ownBlock) (.slice Ao114 t445.length co114) t445 1 t467 t468 w _ ?side1 ?side2 A82.out).mono ?_); (case side1 => repeat (first | (with_reducible first | exact HB.out | apply Z | apply T | apply Y | refine O ?_ GE419.out | refine O ?_ GE441.out) | exact HB.out)); (case side2 => exact Kd.R_tight rfl HO_12.out); rintro e w115 ⟨rfl, hy0, hb, hkp⟩; refine ⟨_, rfl, ?_⟩; have n0_ := G (I (ok' := fun k_ => some k_ ≠ (.slice Ao114 t445.length co114 : Value).ownBlock) (Kd.R_keptB (HO_8.out) hkp (fun k_ hk_ hs_ => (hk_) hs_)) (fun k_ hk_ => hk_.1)); have n1_ := G (Kd.R_reok rfl hy0 (fun k_ e_ => HO_12.out.1 k_ e_)); have n2_ := G (I (ok' := fun k_ => True) (Kd.R_keptB ((Kd.R_apart' HO_442000.out (Kd.R_typed HO_12.out) (by decide))) hkp (fun k_ hk_ hs_ => (hk_.2) hs_)) (fun k_ hk_ => trivial)); have n3_ := G (I (ok' := fun k_ => True) (Kd.R_keptB ((Kd.R_apart' HO_442001.out (Kd.R_typed HO_12.out) (by decide))) hkp (fun k_ hk_ hs_ => (hk_.2) hs_)) (fun k_ hk_ => trivial)); have n4_ := G (blk_kept (by (with_reducible repeat (first | refine U ?_ _ | refine X ?_ | refine V ?_ _)); exact BK419.out) hkp (fun hs_ => (fun e_ => (Kd.R_ne HO_12.out BK419.out (by decide)) e_) hs_)); have n5_ := G (blk_kept (by (with_reducible repeat (first | refine U ?_ _ | refine X ?_ | refine V ?_ _)); exact BK441.out) hkp (fun hs_ => (fun e_ => (Kd.R_ne HO_12.out BK441.out (by decide)) e_) hs_)); have n6_ := G (hb); clear HO_8; clear HO_12; clear HO_442000; clear HO_442001; clear BK419; clear BK441; clear HB; have HO_8 := n0_; have HO_12 := n1_; have HO_442000 := n2_; have HO_442001 := n3_; have BK419 := n4_; have BK441 := n5_; have HB := n6_; clear n0_ n1_ n2_ n3_ n4_ n5_ n6_; (try clear hb); (try clear hkp); (try clear hy0)) | ((with_reducible refine gate_callee (f := 48) rfl ?_); refine goesL_ (some 92) rfl rfl Try.func48 (by kernel_rfl) rfl #[.slice Ao114 t468.length co114, .int .i64 1] rfl (by (try simp only [List.map_toArray, List.map_cons, List.map_nil]); first | done | (rw [show t468.length = t445.length from (Kd.R_reads' HO_12.out).1.symm] <;> rfl) | rfl | (simp only [List.length_drop, List.length_take]; rfl)) ?_; (with_reducible refine (laws_heldPullS.calls kj58 _ _ t468 1 t469 _ ?side1 ?side2 A83.out).mono ?_); (case side1 => repeat (first | exact (Kd.R_reads' HO_12.out).2.2 | (with_reducible refine P ?_ _) | (with_reducible refine GG ?_ _) | (with_reducible refine GJ ?_))); (case side2 => rw [show t468.length = t445.length from (Kd.R_reads' HO_12.out).1.symm]; exact (Kd.R_reads' HO_12.out).2.1); rintro e w' ⟨rfl, ⟨nd, rfl⟩⟩; refine ⟨_, rfl, ?_⟩))
             go_ret
             exact ⟨by first | rfl | (simp [errW_none, errW_some] <;> rfl) | (simp [*, errW_none, errW_some] <;> rfl), by repeat (first | (with_reducible first | exact HB.out | apply Z | apply T | apply Y | refine O ?_ GE419.out | refine O ?_ GE441.out) | exact HB.out)⟩
       ·replace c56 := Bool.eq_false_iff.mpr c56
        subst c56
        have H1 : (some false) = some r := by rw [if_neg (show ¬ (false = true) by decide)] at H; exact H
        clear H
        have H := H1
        clear H1
        obtain rfl := Option.some.inj H
        try go_wp2
        have n0_ := G (M HO_8.out)
        have n1_ := G (M HO_11.out)
        have n2_ := G (M HO_12.out)
        have n3_ := G (M HO_442000.out)
        have n4_ := G (M HO_442001.out)
        have n5_ := G (X BK419.out)
        have n6_ := G (X BK441.out)
        have n7_ := G (Y HB.out)
        clear HO_8
        clear HO_11
        clear HO_12
        clear HO_442000
        clear HO_442001
        clear BK419
        clear BK441
        clear HB
        have HO_8 := n0_
        have HO_11 := n1_
        have HO_12 := n2_
        have HO_442000 := n3_
        have HO_442001 := n4_
        have BK419 := n5_
        have BK441 := n6_
        have HB := n7_
        clear n0_ n1_ n2_ n3_ n4_ n5_ n6_ n7_
        refine start_ (n := 5) (S := fun w' => w'.cell? ⟨gb441, 0, none⟩ = some (.slice Ao34 t435.length co34) ∧ w'.cell? ⟨gb441, 1, none⟩ = some (.slice Ao37 t438.length co37) ∧ w'.cell? ⟨gb419, 0, none⟩ = some (.slice A0_0 l0_0.length c0_0) ∧ w'.cell? ⟨gb419, 1, none⟩ = some (.slice A0_1 l0_1.length c0_1)) (ds := []) #[n', n', n', n', n'] (by kernel_rfl) rfl rfl ⟨(E BK441.out 0).trans rfl, (E BK441.out 1).trans rfl, (E BK419.out 0).trans rfl, (E BK419.out 1).trans rfl⟩ (fun hHeld => ?_)
        generalize wc.drew = w116 at HO_8 HO_11 HO_12 HO_442000 HO_442001 BK419 BK441 HB hHeld ⊢
        refine take_ (i := 0) (N := some 58) (v := ?_) (a' := ?_) #[y', n', n', n', n'] rfl rfl (by kernel_rfl) (fun _ _ _ h => h) (Or.inl ⟨by rfl, ?_⟩) hHeld ?_ ?_
        rotate_left
        ·rintro w' ⟨s0, s1, s2, s3⟩
         go_simp
         with_reducible rfl
        rotate_left
        ·simp only [Act.put, z1', z2', z3', i64_w, i32_w]
         rfl
        refine take_ (i := 1) (N := some 59) (v := ?_) (a' := ?_) #[y', y', n', n', n'] rfl rfl (by kernel_rfl) (fun _ _ _ h => h) (Or.inl ⟨by rfl, ?_⟩) hHeld ?_ ?_
        rotate_left
        ·rintro w' ⟨s0, s1, s2, s3⟩
         go_simp
         with_reducible rfl
        rotate_left
        ·simp only [Act.put, z1', z2', z3', i64_w, i32_w]
         rfl
        refine one_ (i := 2) (N := some 60) #[y', y', y', n', n'] rfl rfl (by kernel_rfl) (by decide) (fun K hK => ?_)
        refine goes_ Try.func21 (by kernel_rfl) rfl #[.agg #[.slice A0_0 l0_0.length c0_0, .slice A0_1 l0_1.length c0_1]] (by rfl) rfl rfl (by (try simp only [List.map_toArray, List.map_cons, List.map_nil]); first | done | rfl | (simp only [List.length_drop, List.length_take]; rfl)) ?_
        with_reducible refine (laws_toFrame.calls kj19 _ _ l0_0 _ _ l0_1 t450 t453 _ ?side1 ?side2 ?side3 ?side4 A51.out).mono ?_
        (case side1 => repeat (first | exact (GO HR0_0.out HB.out) | (with_reducible refine P ?_ _) | (with_reducible refine GG ?_ _) | (with_reducible refine GJ ?_)))
        (case side2 => exact HC0_0.out)
        (case side3 => repeat (first | exact (GO HR0_1.out HB.out) | (with_reducible refine P ?_ _) | (with_reducible refine GG ?_ _) | (with_reducible refine GJ ?_)))
        (case side4 => exact HC0_1.out)
        rintro e w117 ⟨v451, v454, rfl, ho0, ho1, hb⟩
        refine ⟨_, rfl, ?_⟩
        have n0_ := G (B (by (with_reducible repeat (first | apply J | apply L | apply M)); exact HO_8.out) hb)
        have n1_ := G (B (by (with_reducible repeat (first | apply J | apply L | apply M)); exact HO_11.out) hb)
        have n2_ := G (B (by (with_reducible repeat (first | apply J | apply L | apply M)); exact HO_12.out) hb)
        have n3_ := G (Kd.R_elder' (by (with_reducible repeat (first | apply J | apply L | apply M)); exact HO_442000.out) (Kd.R_base ho0) hb)
        have n4_ := G (Kd.R_elder' (by (with_reducible repeat (first | apply J | apply L | apply M)); exact HO_442001.out) (Kd.R_base ho1) hb)
        have n5_ := G (Kd.R_lower (GL ho0 (Kd.R_lt (by (with_reducible repeat (first | apply J | apply L | apply M)); exact HO_442000.out))) (GM (by repeat (first | (with_reducible first | exact HB.out | apply Z | apply T | apply Y | refine O ?_ GE419.out | refine O ?_ GE441.out) | exact HB.out))))
        have n6_ := G (Kd.R_lower (GL ho1 (Kd.R_lt (by (with_reducible repeat (first | apply J | apply L | apply M)); exact HO_442001.out))) (GM (by repeat (first | (with_reducible first | exact HB.out | apply Z | apply T | apply Y | refine O ?_ GE419.out | refine O ?_ GE441.out) | exact HB.out))))
        have n7_ := G (F (g := gb419) (o := .cells #[.slice A0_0 l0_0.length c0_0, .slice A0_1 l0_1.length c0_1] 33 (0, 0)) (by (with_reducible repeat (first | refine U ?_ _ | refine X ?_ | refine V ?_ _)); exact BK419.out) hb)
        have n8_ := G (F (g := gb441) (o := .cells #[.slice Ao34 t435.length co34, .slice Ao37 t438.length co37] 39 (0, 0)) (by (with_reducible repeat (first | refine U ?_ _ | refine X ?_ | refine V ?_ _)); exact BK441.out) hb)
        have n9_ := G (GN (by repeat (first | (with_reducible first | exact HB.out | apply Z | apply T | apply Y | refine O ?_ GE419.out | refine O ?_ GE441.out) | exact HB.out)) hb)
        clear HO_8
        clear HO_11
        clear HO_12
        clear HO_442000
        clear HO_442001
        clear BK419
        clear BK441
        clear HB
        have HO_8 := n0_
        have HO_11 := n1_
        have HO_12 := n2_
        have HO_442000 := n3_
        have HO_442001 := n4_
        have HO452 := n5_
        have HO455 := n6_
        have BK419 := n7_
        have BK441 := n8_
        have HB := n9_
        clear n0_ n1_ n2_ n3_ n4_ n5_ n6_ n7_ n8_ n9_
        (try clear hb)
        (try clear hb2)
        (try clear hk)
        (try clear hi)
        (try clear ho0)
        (try clear ho1)
        obtain ⟨Ao118, co118, eo118⟩ := Kd.R_slice HO452.out
        (first | subst eo118 | (injection eo118 with f1_ f2_ f3_; have f4_ := f1_.symm; have f5_ := f3_.symm; clear f1_ f2_ f3_; subst f4_; subst f5_))
        obtain ⟨Ao119, co119, eo119⟩ := Kd.R_slice HO455.out
        (first | subst eo119 | (injection eo119 with f1_ f2_ f3_; have f4_ := f1_.symm; have f5_ := f3_.symm; clear f1_ f2_ f3_; subst f4_; subst f5_))
        refine hK.out _ _ ⟨(E BK441.out 0).trans rfl, (E BK441.out 1).trans rfl, (E BK419.out 0).trans rfl, (E BK419.out 1).trans rfl⟩ (fun hHeld => ?_)
        clear hK K
        refine norm_ (a' := ?_) ?_ ?_
        rotate_left
        ·show Act.put _ (some 60) _ = _
         simp only [Act.put, z1', z2', z3', i64_w, i32_w]
         rfl
        refine one_ (i := 3) (N := some 61) #[y', y', y', y', n'] rfl rfl (by kernel_rfl) (by decide) (fun K hK => ?_)
        refine goes_ Try.func23 (by kernel_rfl) rfl #[.agg #[.slice Ao34 t435.length co34, .slice Ao37 t438.length co37], .agg #[.slice Ao118 t450.length co118, .slice Ao119 t453.length co119]] (by rfl) rfl rfl (by (try simp only [List.map_toArray, List.map_cons, List.map_nil]); first | done | rfl | (simp only [List.length_drop, List.length_take]; rfl)) ?_
        with_reducible refine (laws_eqFrame.calls kj19 _ _ t435 _ _ t438 _ _ t450 _ _ t453 true _ ?side1 ?side2 ?side3 ?side4 ?side5 ?side6 ?side7 ?side8 A52.out).mono ?_
        (case side1 => repeat (first | exact (Kd.R_reads' HO_442000.out).2.2 | (with_reducible refine P ?_ _) | (with_reducible refine GG ?_ _) | (with_reducible refine GJ ?_)))
        (case side2 => exact (Kd.R_reads' HO_442000.out).2.1)
        (case side3 => repeat (first | exact (Kd.R_reads' HO_442001.out).2.2 | (with_reducible refine P ?_ _) | (with_reducible refine GG ?_ _) | (with_reducible refine GJ ?_)))
        (case side4 => exact (Kd.R_reads' HO_442001.out).2.1)
        (case side5 => repeat (first | exact (Kd.R_reads' HO452.out).2.2 | (with_reducible refine P ?_ _) | (with_reducible refine GG ?_ _) | (with_reducible refine GJ ?_)))
        (case side6 => exact (Kd.R_reads' HO452.out).2.1)
        (case side7 => repeat (first | exact (Kd.R_reads' HO455.out).2.2 | (with_reducible refine P ?_ _) | (with_reducible refine GG ?_ _) | (with_reducible refine GJ ?_)))
        (case side8 => exact (Kd.R_reads' HO455.out).2.1)
        rintro e w120 ⟨rfl, hb⟩
        refine ⟨_, rfl, ?_⟩
        have n0_ := G (B (by (with_reducible repeat (first | apply J | apply L | apply M)); exact HO_8.out) hb)
        have n1_ := G (B (by (with_reducible repeat (first | apply J | apply L | apply M)); exact HO_11.out) hb)
        have n2_ := G (B (by (with_reducible repeat (first | apply J | apply L | apply M)); exact HO_12.out) hb)
        have n3_ := G (B (by (with_reducible repeat (first | apply J | apply L | apply M)); exact HO_442000.out) hb)
        have n4_ := G (B (by (with_reducible repeat (first | apply J | apply L | apply M)); exact HO_442001.out) hb)
        have n5_ := G (B (by (with_reducible repeat (first | apply J | apply L | apply M)); exact HO452.out) hb)
        have n6_ := G (B (by (with_reducible repeat (first | apply J | apply L | apply M)); exact HO455.out) hb)
        have n7_ := G (F (g := gb419) (o := .cells #[.slice A0_0 l0_0.length c0_0, .slice A0_1 l0_1.length c0_1] 33 (0, 0)) (by (with_reducible repeat (first | refine U ?_ _ | refine X ?_ | refine V ?_ _)); exact BK419.out) hb)
        have n8_ := G (F (g := gb441) (o := .cells #[.slice Ao34 t435.length co34, .slice Ao37 t438.length co37] 39 (0, 0)) (by (with_reducible repeat (first | refine U ?_ _ | refine X ?_ | refine V ?_ _)); exact BK441.out) hb)
        have n9_ := G (GN (by repeat (first | (with_reducible first | exact HB.out | apply Z | apply T | apply Y | refine O ?_ GE419.out | refine O ?_ GE441.out) | exact HB.out)) hb)
        clear HO_8
        clear HO_11
        clear HO_12
        clear HO_442000
        clear HO_442001
        clear HO452
        clear HO455
        clear BK419
        clear BK441
        clear HB
        have HO_8 := n0_
        have HO_11 := n1_
        have HO_12 := n2_
        have HO_442000 := n3_
        have HO_442001 := n4_
        have HO452 := n5_
        have HO455 := n6_
        have BK419 := n7_
        have BK441 := n8_
        have HB := n9_
        clear n0_ n1_ n2_ n3_ n4_ n5_ n6_ n7_ n8_ n9_
        (try clear hb)
        (try clear hb2)
        (try clear hk)
        (try clear hi)
        refine hK.out _ _ ⟨(E BK441.out 0).trans rfl, (E BK441.out 1).trans rfl, (E BK419.out 0).trans rfl, (E BK419.out 1).trans rfl⟩ (fun hHeld => ?_)
        clear hK K
        refine norm_ (a' := ?_) ?_ ?_
        rotate_left
        ·show Act.put _ (some 61) _ = _
         simp only [Act.put, z1', z2', z3', i64_w, i32_w]
         rfl
        refine pure_ (i := 4) (N := some 62) (v := ?_) (a' := ?_) #[y', y', y', y', y'] rfl rfl (by kernel_rfl) (fun _ _ _ h => h) (Or.inl ⟨by rfl, ?_⟩) ?_ ?_
        rotate_left
        ·intro w'
         go_simp
         with_reducible rfl
        rotate_left
        ·simp only [Act.put, z1', z2', z3', i64_w, i32_w]
         rfl
        refine done_ (by kernel_rfl) ?_
        try go_wp2_with (first | ((with_reducible refine gate_callee (f := 30) rfl ?_); refine goesL_ (some 65) rfl rfl Try.func30 (by kernel_rfl) rfl #[.slice A1 l1.length c1] rfl (by (try simp only [List.map_toArray, List.map_cons, List.map_nil]); first | done | rfl | (simp only [List.length_drop, List.length_take]; rfl)) ?_; (with_reducible refine (laws_toPullS.calls kj19 _ _ l1 t457 _ ?side1 ?side2 A54.out).mono ?_); (case side1 => repeat (first | exact (GO HR1.out HB.out) | (with_reducible refine P ?_ _) | (with_reducible refine GG ?_ _) | (with_reducible refine GJ ?_))); (case side2 => exact HC1.out); rintro e w121 ⟨v458, rfl, ho0, hb⟩; refine ⟨_, rfl, ?_⟩; have n0_ := G (Kd.R_elder' (by (with_reducible repeat (first | apply J | apply L | apply M)); exact HO_8.out) (Kd.R_base ho0) hb); have n1_ := G (Kd.R_elder' (by (with_reducible repeat (first | apply J | apply L | apply M)); exact HO_11.out) (Kd.R_base ho0) hb); have n2_ := G (Kd.R_elder' (by (with_reducible repeat (first | apply J | apply L | apply M)); exact HO_12.out) (Kd.R_base ho0) hb); have n3_ := G (B (by (with_reducible repeat (first | apply J | apply L | apply M)); exact HO_442000.out) hb); have n4_ := G (B (by (with_reducible repeat (first | apply J | apply L | apply M)); exact HO_442001.out) hb); have n5_ := G (B (by (with_reducible repeat (first | apply J | apply L | apply M)); exact HO452.out) hb); have n6_ := G (B (by (with_reducible repeat (first | apply J | apply L | apply M)); exact HO455.out) hb); have n7_ := G (Kd.R_lower (GL (GL (GL ho0 (Kd.R_lt (by (with_reducible repeat (first | apply J | apply L | apply M)); exact HO_8.out))) (Kd.R_lt (by (with_reducible repeat (first | apply J | apply L | apply M)); exact HO_11.out))) (Kd.R_lt (by (with_reducible repeat (first | apply J | apply L | apply M)); exact HO_12.out))) (GM (by repeat (first | (with_reducible first | exact HB.out | apply Z | apply T | apply Y | refine O ?_ GE419.out | refine O ?_ GE441.out) | exact HB.out)))); have n8_ := G (F (g := gb419) (o := .cells #[.slice A0_0 l0_0.length c0_0, .slice A0_1 l0_1.length c0_1] 33 (0, 0)) (by (with_reducible repeat (first | refine U ?_ _ | refine X ?_ | refine V ?_ _)); exact BK419.out) hb); have n9_ := G (F (g := gb441) (o := .cells #[.slice Ao34 t435.length co34, .slice Ao37 t438.length co37] 39 (0, 0)) (by (with_reducible repeat (first | refine U ?_ _ | refine X ?_ | refine V ?_ _)); exact BK441.out) hb); have n10_ := G (GN (by repeat (first | (with_reducible first | exact HB.out | apply Z | apply T | apply Y | refine O ?_ GE419.out | refine O ?_ GE441.out) | exact HB.out)) hb); clear HO_8; clear HO_11; clear HO_12; clear HO_442000; clear HO_442001; clear HO452; clear HO455; clear BK419; clear BK441; clear HB; have HO_8 := n0_; have HO_11 := n1_; have HO_12 := n2_; have HO_442000 := n3_; have HO_442001 := n4_; have HO452 := n5_; have HO455 := n6_; have HO459 := n7_; have BK419 := n8_; have BK441 := n9_; have HB := n10_; clear n0_ n1_ n2_ n3_ n4_ n5_ n6_ n7_ n8_ n9_ n10_; (try clear hb); (try clear hb2); (try clear hk); (try clear hi); (try clear ho0); obtain ⟨Ao122, co122, eo122⟩ := Kd.R_slice HO459.out; subst eo122) | ((with_reducible refine gate_callee (f := 32) rfl ?_); refine goesL_ (some 66) rfl rfl Try.func32 (by kernel_rfl) rfl #[.slice Ao40 t442.length co40, .slice Ao122 t457.length co122] rfl (by (try simp only [List.map_toArray, List.map_cons, List.map_nil]); first | done | rfl | (simp only [List.length_drop, List.length_take]; rfl)) ?_; (with_reducible refine (laws_eqPullS.calls kj19 _ _ t442 _ _ t457 false _ ?side1 ?side2 ?side3 ?side4 A55.out).mono ?_); (case side1 => repeat (first | exact (Kd.R_reads' HO_11.out).2.2 | (with_reducible refine P ?_ _) | (with_reducible refine GG ?_ _) | (with_reducible refine GJ ?_))); (case side2 => exact (Kd.R_reads' HO_11.out).2.1); (case side3 => repeat (first | exact (Kd.R_reads' HO459.out).2.2 | (with_reducible refine P ?_ _) | (with_reducible refine GG ?_ _) | (with_reducible refine GJ ?_))); (case side4 => exact (Kd.R_reads' HO459.out).2.1); rintro e w123 ⟨rfl, hb⟩; refine ⟨_, rfl, ?_⟩; have n0_ := G (B (by (with_reducible repeat (first | apply J | apply L | apply M)); exact HO_8.out) hb); have n1_ := G (B (by (with_reducible repeat (first | apply J | apply L | apply M)); exact HO_11.out) hb); have n2_ := G (B (by (with_reducible repeat (first | apply J | apply L | apply M)); exact HO_12.out) hb); have n3_ := G (B (by (with_reducible repeat (first | apply J | apply L | apply M)); exact HO_442000.out) hb); have n4_ := G (B (by (with_reducible repeat (first | apply J | apply L | apply M)); exact HO_442001.out) hb); have n5_ := G (B (by (with_reducible repeat (first | apply J | apply L | apply M)); exact HO452.out) hb); have n6_ := G (B (by (with_reducible repeat (first | apply J | apply L | apply M)); exact HO455.out) hb); have n7_ := G (B (by (with_reducible repeat (first | apply J | apply L | apply M)); exact HO459.out) hb); have n8_ := G (F (g := gb419) (o := .cells #[.slice A0_0 l0_0.length c0_0, .slice A0_1 l0_1.length c0_1] 33 (0, 0)) (by (with_reducible repeat (first | refine U ?_ _ | refine X ?_ | refine V ?_ _)); exact BK419.out) hb); have n9_ := G (F (g := gb441) (o := .cells #[.slice Ao34 t435.length co34, .slice Ao37 t438.length co37] 39 (0, 0)) (by (with_reducible repeat (first | refine U ?_ _ | refine X ?_ | refine V ?_ _)); exact BK441.out) hb); have n10_ := G (GN (by repeat (first | (with_reducible first | exact HB.out | apply Z | apply T | apply Y | refine O ?_ GE419.out | refine O ?_ GE441.out) | exact HB.out)) hb); clear HO_8; clear HO_11; clear HO_12; clear HO_442000; clear HO_442001; clear HO452; clear HO455; clear HO459; clear BK419; clear BK441; clear HB; have HO_8 := n0_; have HO_11 := n1_; have HO_12 := n2_; have HO_442000 := n3_; have HO_442001 := n4_; have HO452 := n5_; have HO455 := n6_; have HO459 := n7_; have BK419 := n8_; have BK441 := n9_; have HB := n10_; clear n0_ n1_ n2_ n3_ n4_ n5_ n6_ n7_ n8_ n9_ n10_; (try clear hb); (try clear hb2); (try clear hk); (try clear hi)))
        go_ret
        exact ⟨by first | rfl | (simp [errW_none, errW_some] <;> rfl) | (simp [*, errW_none, errW_some] <;> rfl), by repeat (first | (with_reducible first | exact HB.out | apply Z | apply T | apply Y | refine O ?_ GE419.out | refine O ?_ GE441.out) | exact HB.out)⟩
      ·replace c53 := Bool.eq_false_iff.mpr c53
       subst c53
       have H1 : (some false) = some r := by rw [if_neg (show ¬ (false = true) by decide)] at H; exact H
       clear H
       have H := H1
       clear H1
       obtain rfl := Option.some.inj H
       try go_wp2
       have n0_ := G (M HO_8.out)
       have n1_ := G (M HO_11.out)
       have n2_ := G (M HO_12.out)
       have n3_ := G (M HO_442000.out)
       have n4_ := G (M HO_442001.out)
       have n5_ := G (X BK419.out)
       have n6_ := G (X BK441.out)
       have n7_ := G (Y HB.out)
       clear HO_8
       clear HO_11
       clear HO_12
       clear HO_442000
       clear HO_442001
       clear BK419
       clear BK441
       clear HB
       have HO_8 := n0_
       have HO_11 := n1_
       have HO_12 := n2_
       have HO_442000 := n3_
       have HO_442001 := n4_
       have BK419 := n5_
       have BK441 := n6_
       have HB := n7_
       clear n0_ n1_ n2_ n3_ n4_ n5_ n6_ n7_
       refine start_ (n := 5) (S := fun w' => w'.cell? ⟨gb441, 0, none⟩ = some (.slice Ao34 t435.length co34) ∧ w'.cell? ⟨gb441, 1, none⟩ = some (.slice Ao37 t438.length co37) ∧ w'.cell? ⟨gb419, 0, none⟩ = some (.slice A0_0 l0_0.length c0_0) ∧ w'.cell? ⟨gb419, 1, none⟩ = some (.slice A0_1 l0_1.length c0_1)) (ds := []) #[n', n', n', n', n'] (by kernel_rfl) rfl rfl ⟨(E BK441.out 0).trans rfl, (E BK441.out 1).trans rfl, (E BK419.out 0).trans rfl, (E BK419.out 1).trans rfl⟩ (fun hHeld => ?_)
       generalize wc.drew = w124 at HO_8 HO_11 HO_12 HO_442000 HO_442001 BK419 BK441 HB hHeld ⊢
       refine take_ (i := 0) (N := some 58) (v := ?_) (a' := ?_) #[y', n', n', n', n'] rfl rfl (by kernel_rfl) (fun _ _ _ h => h) (Or.inl ⟨by rfl, ?_⟩) hHeld ?_ ?_
       rotate_left
       ·rintro w' ⟨s0, s1, s2, s3⟩
        go_simp
        with_reducible rfl
       rotate_left
       ·simp only [Act.put, z1', z2', z3', i64_w, i32_w]
        rfl
       refine take_ (i := 1) (N := some 59) (v := ?_) (a' := ?_) #[y', y', n', n', n'] rfl rfl (by kernel_rfl) (fun _ _ _ h => h) (Or.inl ⟨by rfl, ?_⟩) hHeld ?_ ?_
       rotate_left
       ·rintro w' ⟨s0, s1, s2, s3⟩
        go_simp
        with_reducible rfl
       rotate_left
       ·simp only [Act.put, z1', z2', z3', i64_w, i32_w]
        rfl
       refine one_ (i := 2) (N := some 60) #[y', y', y', n', n'] rfl rfl (by kernel_rfl) (by decide) (fun K hK => ?_)
       refine goes_ Try.func21 (by kernel_rfl) rfl #[.agg #[.slice A0_0 l0_0.length c0_0, .slice A0_1 l0_1.length c0_1]] (by rfl) rfl rfl (by (try simp only [List.map_toArray, List.map_cons, List.map_nil]); first | done | rfl | (simp only [List.length_drop, List.length_take]; rfl)) ?_
       with_reducible refine (laws_toFrame.calls kj19 _ _ l0_0 _ _ l0_1 t450 t453 _ ?side1 ?side2 ?side3 ?side4 A51.out).mono ?_
       (case side1 => repeat (first | exact (GO HR0_0.out HB.out) | (with_reducible refine P ?_ _) | (with_reducible refine GG ?_ _) | (with_reducible refine GJ ?_)))
       (case side2 => exact HC0_0.out)
       (case side3 => repeat (first | exact (GO HR0_1.out HB.out) | (with_reducible refine P ?_ _) | (with_reducible refine GG ?_ _) | (with_reducible refine GJ ?_)))
       (case side4 => exact HC0_1.out)
       rintro e w125 ⟨v451, v454, rfl, ho0, ho1, hb⟩
       refine ⟨_, rfl, ?_⟩
       have n0_ := G (B (by (with_reducible repeat (first | apply J | apply L | apply M)); exact HO_8.out) hb)
       have n1_ := G (B (by (with_reducible repeat (first | apply J | apply L | apply M)); exact HO_11.out) hb)
       have n2_ := G (B (by (with_reducible repeat (first | apply J | apply L | apply M)); exact HO_12.out) hb)
       have n3_ := G (Kd.R_elder' (by (with_reducible repeat (first | apply J | apply L | apply M)); exact HO_442000.out) (Kd.R_base ho0) hb)
       have n4_ := G (Kd.R_elder' (by (with_reducible repeat (first | apply J | apply L | apply M)); exact HO_442001.out) (Kd.R_base ho1) hb)
       have n5_ := G (Kd.R_lower (GL ho0 (Kd.R_lt (by (with_reducible repeat (first | apply J | apply L | apply M)); exact HO_442000.out))) (GM (by repeat (first | (with_reducible first | exact HB.out | apply Z | apply T | apply Y | refine O ?_ GE419.out | refine O ?_ GE441.out) | exact HB.out))))
       have n6_ := G (Kd.R_lower (GL ho1 (Kd.R_lt (by (with_reducible repeat (first | apply J | apply L | apply M)); exact HO_442001.out))) (GM (by repeat (first | (with_reducible first | exact HB.out | apply Z | apply T | apply Y | refine O ?_ GE419.out | refine O ?_ GE441.out) | exact HB.out))))
       have n7_ := G (F (g := gb419) (o := .cells #[.slice A0_0 l0_0.length c0_0, .slice A0_1 l0_1.length c0_1] 33 (0, 0)) (by (with_reducible repeat (first | refine U ?_ _ | refine X ?_ | refine V ?_ _)); exact BK419.out) hb)
       have n8_ := G (F (g := gb441) (o := .cells #[.slice Ao34 t435.length co34, .slice Ao37 t438.length co37] 39 (0, 0)) (by (with_reducible repeat (first | refine U ?_ _ | refine X ?_ | refine V ?_ _)); exact BK441.out) hb)
       have n9_ := G (GN (by repeat (first | (with_reducible first | exact HB.out | apply Z | apply T | apply Y | refine O ?_ GE419.out | refine O ?_ GE441.out) | exact HB.out)) hb)
       clear HO_8
       clear HO_11
       clear HO_12
       clear HO_442000
       clear HO_442001
       clear BK419
       clear BK441
       clear HB
       have HO_8 := n0_
       have HO_11 := n1_
       have HO_12 := n2_
       have HO_442000 := n3_
       have HO_442001 := n4_
       have HO452 := n5_
       have HO455 := n6_
       have BK419 := n7_
       have BK441 := n8_
       have HB := n9_
       clear n0_ n1_ n2_ n3_ n4_ n5_ n6_ n7_ n8_ n9_
       (try clear hb)
       (try clear hb2)
       (try clear hk)
       (try clear hi)
       (try clear ho0)
       (try clear ho1)
       obtain ⟨Ao126, co126, eo126⟩ := Kd.R_slice HO452.out
       (first | subst eo126 | (injection eo126 with f1_ f2_ f3_; have f4_ := f1_.symm; have f5_ := f3_.symm; clear f1_ f2_ f3_; subst f4_; subst f5_))
       obtain ⟨Ao127, co127, eo127⟩ := Kd.R_slice HO455.out
       (first | subst eo127 | (injection eo127 with f1_ f2_ f3_; have f4_ := f1_.symm; have f5_ := f3_.symm; clear f1_ f2_ f3_; subst f4_; subst f5_))
       refine hK.out _ _ ⟨(E BK441.out 0).trans rfl, (E BK441.out 1).trans rfl, (E BK419.out 0).trans rfl, (E BK419.out 1).trans rfl⟩ (fun hHeld => ?_)
       clear hK K
       refine norm_ (a' := ?_) ?_ ?_
       rotate_left
       ·show Act.put _ (some 60) _ = _
        simp only [Act.put, z1', z2', z3', i64_w, i32_w]
        rfl
       refine one_ (i := 3) (N := some 61) #[y', y', y', y', n'] rfl rfl (by kernel_rfl) (by decide) (fun K hK => ?_)
       refine goes_ Try.func23 (by kernel_rfl) rfl #[.agg #[.slice Ao34 t435.length co34, .slice Ao37 t438.length co37], .agg #[.slice Ao126 t450.length co126, .slice Ao127 t453.length co127]] (by rfl) rfl rfl (by (try simp only [List.map_toArray, List.map_cons, List.map_nil]); first | done | rfl | (simp only [List.length_drop, List.length_take]; rfl)) ?_
       with_reducible refine (laws_eqFrame.calls kj19 _ _ t435 _ _ t438 _ _ t450 _ _ t453 false _ ?side1 ?side2 ?side3 ?side4 ?side5 ?side6 ?side7 ?side8 A52.out).mono ?_
       (case side1 => repeat (first | exact (Kd.R_reads' HO_442000.out).2.2 | (with_reducible refine P ?_ _) | (with_reducible refine GG ?_ _) | (with_reducible refine GJ ?_)))
       (case side2 => exact (Kd.R_reads' HO_442000.out).2.1)
       (case side3 => repeat (first | exact (Kd.R_reads' HO_442001.out).2.2 | (with_reducible refine P ?_ _) | (with_reducible refine GG ?_ _) | (with_reducible refine GJ ?_)))
       (case side4 => exact (Kd.R_reads' HO_442001.out).2.1)
       (case side5 => repeat (first | exact (Kd.R_reads' HO452.out).2.2 | (with_reducible refine P ?_ _) | (with_reducible refine GG ?_ _) | (with_reducible refine GJ ?_)))
       (case side6 => exact (Kd.R_reads' HO452.out).2.1)
       (case side7 => repeat (first | exact (Kd.R_reads' HO455.out).2.2 | (with_reducible refine P ?_ _) | (with_reducible refine GG ?_ _) | (with_reducible refine GJ ?_)))
       (case side8 => exact (Kd.R_reads' HO455.out).2.1)
       rintro e w128 ⟨rfl, hb⟩
       refine ⟨_, rfl, ?_⟩
       have n0_ := G (B (by (with_reducible repeat (first | apply J | apply L | apply M)); exact HO_8.out) hb)
       have n1_ := G (B (by (with_reducible repeat (first | apply J | apply L | apply M)); exact HO_11.out) hb)
       have n2_ := G (B (by (with_reducible repeat (first | apply J | apply L | apply M)); exact HO_12.out) hb)
       have n3_ := G (B (by (with_reducible repeat (first | apply J | apply L | apply M)); exact HO_442000.out) hb)
       have n4_ := G (B (by (with_reducible repeat (first | apply J | apply L | apply M)); exact HO_442001.out) hb)
       have n5_ := G (B (by (with_reducible repeat (first | apply J | apply L | apply M)); exact HO452.out) hb)
       have n6_ := G (B (by (with_reducible repeat (first | apply J | apply L | apply M)); exact HO455.out) hb)
       have n7_ := G (F (g := gb419) (o := .cells #[.slice A0_0 l0_0.length c0_0, .slice A0_1 l0_1.length c0_1] 33 (0, 0)) (by (with_reducible repeat (first | refine U ?_ _ | refine X ?_ | refine V ?_ _)); exact BK419.out) hb)
       have n8_ := G (F (g := gb441) (o := .cells #[.slice Ao34 t435.length co34, .slice Ao37 t438.length co37] 39 (0, 0)) (by (with_reducible repeat (first | refine U ?_ _ | refine X ?_ | refine V ?_ _)); exact BK441.out) hb)
       have n9_ := G (GN (by repeat (first | (with_reducible first | exact HB.out | apply Z | apply T | apply Y | refine O ?_ GE419.out | refine O ?_ GE441.out) | exact HB.out)) hb)
       clear HO_8
       clear HO_11
       clear HO_12
       clear HO_442000
       clear HO_442001
       clear HO452
       clear HO455
       clear BK419
       clear BK441
       clear HB
       have HO_8 := n0_
       have HO_11 := n1_
       have HO_12 := n2_
       have HO_442000 := n3_
       have HO_442001 := n4_
       have HO452 := n5_
       have HO455 := n6_
       have BK419 := n7_
       have BK441 := n8_
       have HB := n9_
       clear n0_ n1_ n2_ n3_ n4_ n5_ n6_ n7_ n8_ n9_
       (try clear hb)
       (try clear hb2)
       (try clear hk)
       (try clear hi)
       refine hK.out _ _ ⟨(E BK441.out 0).trans rfl, (E BK441.out 1).trans rfl, (E BK419.out 0).trans rfl, (E BK419.out 1).trans rfl⟩ (fun hHeld => ?_)
       clear hK K
       refine norm_ (a' := ?_) ?_ ?_
       rotate_left
       ·show Act.put _ (some 61) _ = _
        simp only [Act.put, z1', z2', z3', i64_w, i32_w]
        rfl
       refine pure_ (i := 4) (N := some 62) (v := ?_) (a' := ?_) #[y', y', y', y', y'] rfl rfl (by kernel_rfl) (fun _ _ _ h => h) (Or.inl ⟨by rfl, ?_⟩) ?_ ?_
       rotate_left
       ·intro w'
        go_simp
        with_reducible rfl
       rotate_left
       ·simp only [Act.put, z1', z2', z3', i64_w, i32_w]
        rfl
       refine done_ (by kernel_rfl) ?_
       try go_wp2
       go_ret
       exact ⟨by first | rfl | (simp [errW_none, errW_some] <;> rfl) | (simp [*, errW_none, errW_some] <;> rfl), by repeat (first | (with_reducible first | exact HB.out | apply Z | apply T | apply Y | refine O ?_ GE419.out | refine O ?_ GE441.out) | exact HB.out)⟩

end Go.Proofs.Ytacijlpnpkhjaaa.HFr
