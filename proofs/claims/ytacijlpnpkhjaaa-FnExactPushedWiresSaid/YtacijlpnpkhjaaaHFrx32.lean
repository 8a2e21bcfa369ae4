-- Written by a program for this claim (the functions that the statement reaches, and that the program's code comes to them).
import Derived.Test.YtacijlpnpkhjaaaHFrx0
import Derived.Test.YtacijlpnpkhjaaaHFrx3
import Derived.Test.YtacijlpnpkhjaaaHFrx4
import Derived.Test.YtacijlpnpkhjaaaHFrx9
import Derived.Test.YtacijlpnpkhjaaaHFrx11
import Derived.Test.YtacijlpnpkhjaaaHFrx14
import Derived.Test.YtacijlpnpkhjaaaHFrx15
import Derived.Test.YtacijlpnpkhjaaaHFrx31
namespace Go.Proofs.Ytacijlpnpkhjaaa.HFr
open Go.RowKit Go.Proofs.YtacijlpnpkhjaaaW.PrintWords Go.Proofs.YtacijlpnpkhjaaaW.PrintLast Go.Proofs.YtacijlpnpkhjaaaW.PrintMore
attribute [local go_sem] max2_int min2_int max_two min_two max_three min_three max_four min_four   -- for this text's walks alone
set_option linter.unusedVariables false
set_option linter.unusedSimpArgs false

/-! ### laws_FnExactPushedWires: function 12 -/
mutual
def laws_FnExactPushedWires.j0 : Nat → List Int → Int → List Int → Int → Bool → List (S113) → List (S115) → List Int → Int → List (S82) → List (S84) → List Int → Int → Option (Bool)
 | 0, _, _, _, _, _, _, _, _, _, _, _, _, _ => none
 | k + 1, x6, x7, x10, x11, x53, x665000, x665001, x666000, x666001, x689000, x689001, x694000, x694001 => if x53 = true then (some false) else ((laws_toFrame.f k x665000 x665001).bind fun bt699 => ((laws_eqFrame.f k x689000 x689001 bt699.1 bt699.2).bind fun t705 => (if t705 = true then ((laws_toDensities.f k x666000 x666001).bind fun bt706 => ((laws_eqDensities.f k x694000 x694001 bt706.1 bt706.2).bind fun t710 => (if t710 = true then ((laws_markFrame.f k x689000 x689001 1).bind fun bt711 => ((laws_markDensities.f k x694000 x694001 bt711.1).bind fun bt714 => (if bt714.1 < 0 then (laws_FnExactPushedWires.j1 k x6 x7 x10 true x665000 x665001 x666000 x666001) else ((laws_eqInt64S.f k x10 x6).bind fun t716 => (if t716 = true then (laws_FnExactPushedWires.j1 k x6 x7 x10 (x11 != x7) x665000 x665001 x666000 x666001) else (laws_FnExactPushedWires.j1 k x6 x7 x10 true x665000 x665001 x666000 x666001)))))) else (some false)))) else (some false))))
def laws_FnExactPushedWires.j1 : Nat → List Int → Int → List Int → Bool → List (S113) → List (S115) → List Int → Int → Option (Bool)
 | 0, _, _, _, _, _, _, _, _ => none
 | k + 1, x6, x7, x10, x82, x665000, x665001, x666000, x666001 => if x82 = true then (some false) else ((laws_markInt64S.f k x10 1).bind fun bt717 => ((laws_heldInt64S.f k bt717.2 1).bind fun t719 => (if t719 < 0 then (some false) else (if t719 = bt717.1 then ((laws_toFrame.f k x665000 x665001).bind fun bt720 => ((laws_toDensities.f k x666000 x666001).bind fun bt726 => ((impl_PushedWires.f k bt720.1 bt720.2 bt726.1 bt726.2).bind fun bt730 => ((laws_eqInt64S.f k bt730.1 x6).bind fun t734 => (if t734 = true then (laws_FnExactPushedWires.j2 k bt717.2 bt717.1 (bt730.2 != x7)) else (laws_FnExactPushedWires.j2 k bt717.2 bt717.1 true)))))) else (some false)))))
def laws_FnExactPushedWires.j2 : Nat → List Int → Int → Bool → Option (Bool)
 | 0, _, _, _ => none
 | k + 1, x10, x13, x110 => if x110 = true then (some false) else ((laws_heldInt64S.f k x10 1).bind fun t735 => (if t735 < 0 then (some false) else (if t735 = x13 then (some true) else (some false))))
end
def laws_FnExactPushedWires.f (k : Nat) (l0_0 : List (S113)) (l0_1 : List (S115)) (l1_0 : List Int) (a1_1 : Int) : Option (Bool) := (laws_szFrame.f l0_0 l0_1 1048576).bind fun t666 => (if t666 < 0 then (some true) else ((laws_szDensities.f l1_0 a1_1 t666).bind fun t667 => (if t667 < 0 then (some true) else ((laws_toFrame.f k l0_0 l0_1).bind fun bt668 => ((laws_toDensities.f k l1_0 a1_1).bind fun bt674 => ((spec_PushedWires.f k bt668.1 bt668.2 bt674.1 bt674.2).bind fun bt678 => ((laws_toFrame.f k l0_0 l0_1).bind fun bt682 => ((laws_toDensities.f k l1_0 a1_1).bind fun bt689 => ((impl_PushedWires.f k bt682.1 bt682.2 bt689.1 bt689.2).bind fun bt694 => ((laws_eqInt64S.f k bt694.1 bt678.1).bind fun t698 => (if t698 = true then (laws_FnExactPushedWires.j0 k bt678.1 bt678.2 bt694.1 bt694.2 (bt694.2 != bt678.2) l0_0 l0_1 l1_0 a1_1 bt682.1 bt682.2 bt689.1 bt689.2) else (laws_FnExactPushedWires.j0 k bt678.1 bt678.2 bt694.1 bt694.2 true l0_0 l0_1 l1_0 a1_1 bt682.1 bt682.2 bt689.1 bt689.2))))))))))))
theorem laws_FnExactPushedWires.mono_l : ∀ k, (∀ y0 y1 y2 y3 y4 y5 y6 y7 y8 y9 y10 y11 y12, LeO (laws_FnExactPushedWires.j0 k y0 y1 y2 y3 y4 y5 y6 y7 y8 y9 y10 y11 y12) (laws_FnExactPushedWires.j0 (k + 1) y0 y1 y2 y3 y4 y5 y6 y7 y8 y9 y10 y11 y12)) ∧ (∀ y0 y1 y2 y3 y4 y5 y6 y7, LeO (laws_FnExactPushedWires.j1 k y0 y1 y2 y3 y4 y5 y6 y7) (laws_FnExactPushedWires.j1 (k + 1) y0 y1 y2 y3 y4 y5 y6 y7)) ∧ (∀ y0 y1 y2, LeO (laws_FnExactPushedWires.j2 k y0 y1 y2) (laws_FnExactPushedWires.j2 (k + 1) y0 y1 y2))
 | 0 => ⟨fun _ _ _ _ _ _ _ _ _ _ _ _ _ r h => by simp [laws_FnExactPushedWires.j0] at h, fun _ _ _ _ _ _ _ _ r h => by simp [laws_FnExactPushedWires.j1] at h, fun _ _ _ r h => by simp [laws_FnExactPushedWires.j2] at h⟩
 | k + 1 => by
  obtain ⟨ih0, ih1, ih2⟩ := laws_FnExactPushedWires.mono_l k
  refine ⟨?_, ?_, ?_⟩
  ·intro y0 y1 y2 y3 y4 y5 y6 y7 y8 y9 y10 y11 y12
   unfold laws_FnExactPushedWires.j0
   repeat' first
   | (with_reducible exact ih0 _ _ _ _ _ _ _ _ _ _ _ _ _)
   | (with_reducible exact ih1 _ _ _ _ _ _ _ _)
   | (with_reducible exact ih2 _ _ _)
   | (with_reducible exact impl_PushedWires.mono _ _ _ _ _)
   | (with_reducible exact laws_eqDensities.mono _ _ _ _ _)
   | (with_reducible exact laws_eqFrame.mono _ _ _ _ _)
   | (with_reducible exact laws_eqInt64S.mono _ _ _)
   | (with_reducible exact laws_heldInt64S.mono _ _ _)
   | (with_reducible exact laws_markDensities.mono _ _ _ _)
   | (with_reducible exact laws_markFrame.mono _ _ _ _)
   | (with_reducible exact laws_markInt64S.mono _ _ _)
   | (with_reducible exact laws_toDensities.mono _ _ _)
   | (with_reducible exact laws_toFrame.mono _ _ _)
   | (with_reducible exact spec_PushedWires.mono _ _ _ _ _)
   | (with_reducible exact LeO.refl _)
   | (with_reducible exact LeO.none _)
   | (with_reducible refine LeO.ite ?_ ?_)
   | (with_reducible refine LeO.bind ?_ (fun _ => ?_))
   | exact ih0 _ _ _ _ _ _ _ _ _ _ _ _ _
   | exact ih1 _ _ _ _ _ _ _ _
   | exact ih2 _ _ _
   | exact impl_PushedWires.mono _ _ _ _ _
   | exact laws_eqDensities.mono _ _ _ _ _
   | exact laws_eqFrame.mono _ _ _ _ _
   | exact laws_eqInt64S.mono _ _ _
   | exact laws_heldInt64S.mono _ _ _
   | exact laws_markDensities.mono _ _ _ _
   | exact laws_markFrame.mono _ _ _ _
   | exact laws_markInt64S.mono _ _ _
   | exact laws_toDensities.mono _ _ _
   | exact laws_toFrame.mono _ _ _
   | exact spec_PushedWires.mono _ _ _ _ _
   | exact LeO.none _
   | refine LeO.ite ?_ ?_
   | refine LeO.bind ?_ (fun _ => ?_)
  ·intro y0 y1 y2 y3 y4 y5 y6 y7
   unfold laws_FnExactPushedWires.j1
   repeat' first
   | (with_reducible exact ih0 _ _ _ _ _ _ _ _ _ _ _ _ _)
   | (with_reducible exact ih1 _ _ _ _ _ _ _ _)
   | (with_reducible exact ih2 _ _ _)
   | (with_reducible exact impl_PushedWires.mono _ _ _ _ _)
   | (with_reducible exact laws_eqDensities.mono _ _ _ _ _)
   | (with_reducible exact laws_eqFrame.mono _ _ _ _ _)
   | (with_reducible exact laws_eqInt64S.mono _ _ _)
   | (with_reducible exact laws_heldInt64S.mono _ _ _)
   | (with_reducible exact laws_markDensities.mono _ _ _ _)
   | (with_reducible exact laws_markFrame.mono _ _ _ _)
   | (with_reducible exact laws_markInt64S.mono _ _ _)
   | (with_reducible exact laws_toDensities.mono _ _ _)
   | (with_reducible exact laws_toFrame.mono _ _ _)
   | (with_reducible exact spec_PushedWires.mono _ _ _ _ _)
   | (with_reducible exact LeO.refl _)
   | (with_reducible exact LeO.none _)
   | (with_reducible refine LeO.ite ?_ ?_)
   | (with_reducible refine LeO.bind ?_ (fun _ => ?_))
   | exact ih0 _ _ _ _ _ _ _ _ _ _ _ _ _
   | exact ih1 _ _ _ _ _ _ _ _
   | exact ih2 _ _ _
   | exact impl_PushedWires.mono _ _ _ _ _
   | exact laws_eqDensities.mono _ _ _ _ _
   | exact laws_eqFrame.mono _ _ _ _ _
   | exact laws_eqInt64S.mono _ _ _
   | exact laws_heldInt64S.mono _ _ _
   | exact laws_markDensities.mono _ _ _ _
   | exact laws_markFrame.mono _ _ _ _
   | exact laws_markInt64S.mono _ _ _
   | exact laws_toDensities.mono _ _ _
   | exact laws_toFrame.mono _ _ _
   | exact spec_PushedWires.mono _ _ _ _ _
   | exact LeO.none _
   | refine LeO.ite ?_ ?_
   | refine LeO.bind ?_ (fun _ => ?_)
  ·intro y0 y1 y2
   unfold laws_FnExactPushedWires.j2
   repeat' first
   | (with_reducible exact ih0 _ _ _ _ _ _ _ _ _ _ _ _ _)
   | (with_reducible exact ih1 _ _ _ _ _ _ _ _)
   | (with_reducible exact ih2 _ _ _)
   | (with_reducible exact impl_PushedWires.mono _ _ _ _ _)
   | (with_reducible exact laws_eqDensities.mono _ _ _ _ _)
   | (with_reducible exact laws_eqFrame.mono _ _ _ _ _)
   | (with_reducible exact laws_eqInt64S.mono _ _ _)
   | (with_reducible exact laws_heldInt64S.mono _ _ _)
   | (with_reducible exact laws_markDensities.mono _ _ _ _)
   | (with_reducible exact laws_markFrame.mono _ _ _ _)
   | (with_reducible exact laws_markInt64S.mono _ _ _)
   | (with_reducible exact laws_toDensities.mono _ _ _)
   | (with_reducible exact laws_toFrame.mono _ _ _)
   | (with_reducible exact spec_PushedWires.mono _ _ _ _ _)
   | (with_reducible exact LeO.refl _)
   | (with_reducible exact LeO.none _)
   | (with_reducible refine LeO.ite ?_ ?_)
   | (with_reducible refine LeO.bind ?_ (fun _ => ?_))
   | exact ih0 _ _ _ _ _ _ _ _ _ _ _ _ _
   | exact ih1 _ _ _ _ _ _ _ _
   | exact ih2 _ _ _
   | exact impl_PushedWires.mono _ _ _ _ _
   | exact laws_eqDensities.mono _ _ _ _ _
   | exact laws_eqFrame.mono _ _ _ _ _
   | exact laws_eqInt64S.mono _ _ _
   | exact laws_heldInt64S.mono _ _ _
   | exact laws_markDensities.mono _ _ _ _
   | exact laws_markFrame.mono _ _ _ _
   | exact laws_markInt64S.mono _ _ _
   | exact laws_toDensities.mono _ _ _
   | exact laws_toFrame.mono _ _ _
   | exact spec_PushedWires.mono _ _ _ _ _
   | exact LeO.none _
   | refine LeO.ite ?_ ?_
   | refine LeO.bind ?_ (fun _ => ?_)
theorem laws_FnExactPushedWires.mono : ∀ a0 a1 a2 a3 k, LeO (laws_FnExactPushedWires.f k a0 a1 a2 a3) (laws_FnExactPushedWires.f (k + 1) a0 a1 a2 a3) := by
 intro a0 a1 a2 a3 k
 obtain ⟨ih0, ih1, ih2⟩ := laws_FnExactPushedWires.mono_l k
 unfold laws_FnExactPushedWires.f
 repeat' first
   | (with_reducible exact ih0 _ _ _ _ _ _ _ _ _ _ _ _ _)
   | (with_reducible exact ih1 _ _ _ _ _ _ _ _)
   | (with_reducible exact ih2 _ _ _)
   | (with_reducible exact impl_PushedWires.mono _ _ _ _ _)
   | (with_reducible exact laws_eqDensities.mono _ _ _ _ _)
   | (with_reducible exact laws_eqFrame.mono _ _ _ _ _)
   | (with_reducible exact laws_eqInt64S.mono _ _ _)
   | (with_reducible exact laws_heldInt64S.mono _ _ _)
   | (with_reducible exact laws_markDensities.mono _ _ _ _)
   | (with_reducible exact laws_markFrame.mono _ _ _ _)
   | (with_reducible exact laws_markInt64S.mono _ _ _)
   | (with_reducible exact laws_toDensities.mono _ _ _)
   | (with_reducible exact laws_toFrame.mono _ _ _)
   | (with_reducible exact spec_PushedWires.mono _ _ _ _ _)
   | (with_reducible exact LeO.refl _)
   | (with_reducible exact LeO.none _)
   | (with_reducible refine LeO.ite ?_ ?_)
   | (with_reducible refine LeO.bind ?_ (fun _ => ?_))
   | exact ih0 _ _ _ _ _ _ _ _ _ _ _ _ _
   | exact ih1 _ _ _ _ _ _ _ _
   | exact ih2 _ _ _
   | exact impl_PushedWires.mono _ _ _ _ _
   | exact laws_eqDensities.mono _ _ _ _ _
   | exact laws_eqFrame.mono _ _ _ _ _
   | exact laws_eqInt64S.mono _ _ _
   | exact laws_heldInt64S.mono _ _ _
   | exact laws_markDensities.mono _ _ _ _
   | exact laws_markFrame.mono _ _ _ _
   | exact laws_markInt64S.mono _ _ _
   | exact laws_toDensities.mono _ _ _
   | exact laws_toFrame.mono _ _ _
   | exact spec_PushedWires.mono _ _ _ _ _
   | exact LeO.none _
   | refine LeO.ite ?_ ?_
   | refine LeO.bind ?_ (fun _ => ?_)
def laws_FnExactPushedWires.T8 : Bool × List (List Nat × List Nat) := (true, [([], []), ([0], [0]), ([], []), ([2, 1], [2]), ([1, 3, 3], [1, 3]), ([4], [4]), ([5], [5]), ([5], [5]), ([6, 4, 0, 1, 2, 3, 4, 5, 6], [6]), ([7, 8, 0, 1, 2, 3, 4, 5, 6, 7, 8], [7])])
def laws_FnExactPushedWires.B8 : List Nat := [0, 1, 0, 7, 15, 31, 63, 63, 127, 511]
theorem laws_FnExactPushedWires.tab8 : rtab .any (opsOf Try.f12 8) = laws_FnExactPushedWires.T8 := by kernel_rfl
theorem laws_FnExactPushedWires.bits8 : waitsOk laws_FnExactPushedWires.T8.2 laws_FnExactPushedWires.B8 = true := by kernel_rfl
def laws_FnExactPushedWires.T31 : Bool × List (List Nat × List Nat) := (true, [([], []), ([0], [0]), ([], []), ([2, 1], [2]), ([1, 3, 3], [1, 3]), ([4], [4]), ([5], [5]), ([5], [5]), ([6, 4, 0, 1, 2, 3, 4, 5, 6], [6]), ([7, 8, 0, 1, 2, 3, 4, 5, 6, 7, 8], [7])])
def laws_FnExactPushedWires.B31 : List Nat := [0, 1, 0, 7, 15, 31, 63, 63, 127, 511]
theorem laws_FnExactPushedWires.tab31 : rtab .any (opsOf Try.f12 31) = laws_FnExactPushedWires.T31 := by kernel_rfl
theorem laws_FnExactPushedWires.bits31 : waitsOk laws_FnExactPushedWires.T31.2 laws_FnExactPushedWires.B31 = true := by kernel_rfl
@[reducible] def laws_FnExactPushedWires.y' : Bool := true
@[reducible] def laws_FnExactPushedWires.n' : Bool := false
theorem laws_FnExactPushedWires.z1' {α : Type} (l : List α) (i : Nat) (a : α) : l.toArray.setIfInBounds i a = (l.set i a).toArray := List.setIfInBounds_toArray ..
theorem laws_FnExactPushedWires.z2' {α : Type} (a b : α) (l : List α) : (a :: l).set 0 b = b :: l := rfl
theorem laws_FnExactPushedWires.z3' {α : Type} (a b : α) (l : List α) (n : Nat) : (a :: l).set (n + 1) b = a :: l.set n b := rfl
theorem laws_FnExactPushedWires.G : type_of% @Aside0.mk := @Aside0.mk
theorem laws_FnExactPushedWires.J : type_of% @Kd.R_alloc := @Kd.R_alloc
theorem laws_FnExactPushedWires.L : type_of% @Kd.R_drewN := @Kd.R_drewN
theorem laws_FnExactPushedWires.M : type_of% @Kd.R_drew := @Kd.R_drew
theorem laws_FnExactPushedWires.O : type_of% @below_set := @below_set
theorem laws_FnExactPushedWires.T : type_of% @pw_below_drewN := @pw_below_drewN
theorem laws_FnExactPushedWires.U : type_of% @blk_drewN := @blk_drewN
theorem laws_FnExactPushedWires.V : type_of% @blk_alloc := @blk_alloc
theorem laws_FnExactPushedWires.X : type_of% @blk_drew := @blk_drew
theorem laws_FnExactPushedWires.Y : type_of% @below_drew1 := @below_drew1
theorem laws_FnExactPushedWires.Z : type_of% @below_alloc := @below_alloc
theorem laws_FnExactPushedWires.B : type_of% @Kd.R_below := @Kd.R_below
theorem laws_FnExactPushedWires.D : type_of% @Kd.R_far := @Kd.R_far
theorem laws_FnExactPushedWires.E : type_of% @blk_cell := @blk_cell
theorem laws_FnExactPushedWires.F : type_of% @blk_below := @blk_below
theorem laws_FnExactPushedWires.I : type_of% @Kd.R_types := @Kd.R_types
theorem laws_FnExactPushedWires.P : type_of% @Kd.R_mono := @Kd.R_mono
theorem laws_FnExactPushedWires.GG : type_of% @Kd.C_alloc := @Kd.C_alloc
theorem laws_FnExactPushedWires.GJ : type_of% @Kd.C_drewN := @Kd.C_drewN
theorem laws_FnExactPushedWires.GL : type_of% @Kd.C_drew := @Kd.C_drew
theorem laws_FnExactPushedWires.GM : type_of% @Kd.R_new' := @Kd.R_new'
theorem laws_FnExactPushedWires.GN : type_of% @below_size := @below_size
theorem laws_FnExactPushedWires.GO : type_of% @below_step := @below_step
theorem laws_FnExactPushedWires.GT : type_of% @Kd.C_below := @Kd.C_below
theorem laws_FnExactPushedWires.GU : type_of% @blk_frozen := @blk_frozen
set_option maxHeartbeats 8000000 in
set_option maxRecDepth 100000 in
theorem laws_FnExactPushedWires.calls (k : Nat) (A0_0 : Option Addr) (c0_0 : Nat) (l0_0 : List (S113)) (A0_1 : Option Addr) (c0_1 : Nat) (l0_1 : List (S115)) (A1_0 : Option Addr) (c1_0 : Nat) (l1_0 : List Int) (a1_1 : Int) (r : Bool) (w : World) (hr0_0 : Kd.C k113 w A0_0 l0_0.length l0_0) (hc0_0 : l0_0.length ≤ c0_0) (hr0_1 : Kd.C k115 w A0_1 l0_1.length l0_1) (hc0_1 : l0_1.length ≤ c0_1) (hr1_0 : Kd.C (Kd.int .i64) w A1_0 l1_0.length l1_0) (hc1_0 : l1_0.length ≤ c1_0) (h : laws_FnExactPushedWires.f k l0_0 l0_1 l1_0 a1_1 = some r) :
  Calls Try.prog 12 #[.agg #[.slice A0_0 l0_0.length c0_0, .slice A0_1 l0_1.length c0_1], .agg #[.slice A1_0 l1_0.length c1_0, .int .i64 a1_1]] w fun e w' => e = .returned (.bool r) ∧ Below w.heap.size w w' := by
 have hu33 := Try.underlying33
 have hu24 := Try.underlying24
 have hu39 := Try.underlying39
 have hu27 := Try.underlying27
 have HR0_0 := G hr0_0
 have HC0_0 := G hc0_0
 clear hr0_0 hc0_0
 have HR0_1 := G hr0_1
 have HC0_1 := G hc0_1
 clear hr0_1 hc0_1
 have HR1_0 := G hr1_0
 have HC1_0 := G hc1_0
 clear hr1_0 hc1_0
 have HB := G (Below.refl w.heap.size w)
 have H : ((laws_szFrame.f l0_0 l0_1 1048576).bind fun t666 => (if t666 < 0 then (some true) else ((laws_szDensities.f l1_0 a1_1 t666).bind fun t667 => (if t667 < 0 then (some true) else ((laws_toFrame.f k l0_0 l0_1).bind fun bt668 => ((laws_toDensities.f k l1_0 a1_1).bind fun bt674 => ((spec_PushedWires.f k bt668.1 bt668.2 bt674.1 bt674.2).bind fun bt678 => ((laws_toFrame.f k l0_0 l0_1).bind fun bt682 => ((laws_toDensities.f k l1_0 a1_1).bind fun bt689 => ((impl_PushedWires.f k bt682.1 bt682.2 bt689.1 bt689.2).bind fun bt694 => ((laws_eqInt64S.f k bt694.1 bt678.1).bind fun t698 => (if t698 = true then (laws_FnExactPushedWires.j0 k bt678.1 bt678.2 bt694.1 bt694.2 (bt694.2 != bt678.2) l0_0 l0_1 l1_0 a1_1 bt682.1 bt682.2 bt689.1 bt689.2) else (laws_FnExactPushedWires.j0 k bt678.1 bt678.2 bt694.1 bt694.2 true l0_0 l0_1 l1_0 a1_1 bt682.1 bt682.2 bt689.1 bt689.2))))))))))))) = some r := h
 clear h
 replace H := Option.bind_eq_some_iff.mp H
 obtain ⟨t666, A30, H⟩ := H
 replace H : (if t666 < 0 then (some true) else ((laws_szDensities.f l1_0 a1_1 t666).bind fun t667 => (if t667 < 0 then (some true) else ((laws_toFrame.f k l0_0 l0_1).bind fun bt668 => ((laws_toDensities.f k l1_0 a1_1).bind fun bt674 => ((spec_PushedWires.f k bt668.1 bt668.2 bt674.1 bt674.2).bind fun bt678 => ((laws_toFrame.f k l0_0 l0_1).bind fun bt682 => ((laws_toDensities.f k l1_0 a1_1).bind fun bt689 => ((impl_PushedWires.f k bt682.1 bt682.2 bt689.1 bt689.2).bind fun bt694 => ((laws_eqInt64S.f k bt694.1 bt678.1).bind fun t698 => (if t698 = true then (laws_FnExactPushedWires.j0 k bt678.1 bt678.2 bt694.1 bt694.2 (bt694.2 != bt678.2) l0_0 l0_1 l1_0 a1_1 bt682.1 bt682.2 bt689.1 bt689.2) else (laws_FnExactPushedWires.j0 k bt678.1 bt678.2 bt694.1 bt694.2 true l0_0 l0_1 l1_0 a1_1 bt682.1 bt682.2 bt689.1 bt689.2)))))))))))) = some r := H
 have A3 := G A30
 clear A30
 by_cases c4 : t666 < 0
 ·rw [if_pos c4] at H
  have c4b0 : decide (t666 < 0) = true := decide_eq_true c4
  clear c4
  obtain rfl := Option.some.inj H
  go_enter Try.func12, Try.ntmps12
  go_wp2_with (first | ((with_reducible refine gate_dst (N := 2) rfl ?_); refine box_event ?hg (N := 2) ?hd (cs := #[.slice A0_0 l0_0.length c0_0, .slice A0_1 l0_1.length c0_1]) (t := 33) ?hr ?_; (case hd => rfl); (case hg => rfl); (case hr => first | (go_simp; done) | (go_simp; rfl)); intro gb664 hg w5 hbox hb; have n0_ := G (GO (by repeat (first | (with_reducible first | exact HB.out | apply Z | apply T | apply Y) | exact HB.out)) hb); have n1_ := G (hbox); have n2_ := G ((by rw [hg]; exact (GN (by repeat (first | (with_reducible first | exact HB.out | apply Z | apply T | apply Y) | exact HB.out))) : w.heap.size ≤ gb664)); have n3_ := G ((by rw [hg]; exact (GN (by repeat (first | (with_reducible first | exact HB.out | apply Z | apply T | apply Y) | exact HB.out))) : w.heap.size ≤ gb664)); clear HB; have HB := n0_; have BK664 := n1_; have GW664 := n2_; have GE664 := n3_; clear n0_ n1_ n2_ n3_; clear hb hbox hg) | ((with_reducible refine gate_dst (N := 3) rfl ?_); refine box_event ?hg (N := 3) ?hd (cs := #[.slice A1_0 l1_0.length c1_0, .int .i64 a1_1]) (t := 24) ?hr ?_; (case hd => rfl); (case hg => rfl); (case hr => first | (go_simp; done) | (go_simp; rfl)); intro gb665 hg w6 hbox hb; have n0_ := G (F (g := gb664) (o := .cells #[.slice A0_0 l0_0.length c0_0, .slice A0_1 l0_1.length c0_1] 33 (0, 0)) (by (with_reducible repeat (first | refine U ?_ _ | refine X ?_ | refine V ?_ _)); exact BK664.out) hb); have n1_ := G (GO (by repeat (first | (with_reducible first | exact HB.out | apply Z | apply T | apply Y | refine O ?_ GE664.out) | exact HB.out)) hb); have n2_ := G (hbox); have n3_ := G ((by rw [hg]; exact (GN (by repeat (first | (with_reducible first | exact HB.out | apply Z | apply T | apply Y | refine O ?_ GE664.out) | exact HB.out))) : w.heap.size ≤ gb665)); have n4_ := G ((by rw [hg]; exact (GN (by repeat (first | (with_reducible first | exact HB.out | apply Z | apply T | apply Y | refine O ?_ GE664.out) | exact HB.out))) : w.heap.size ≤ gb665)); have n5_ := G ((by rw [hg]; exact Nat.ne_of_lt (blk_lt (g := gb664) (o := .cells #[.slice A0_0 l0_0.length c0_0, .slice A0_1 l0_1.length c0_1] 33 (0, 0)) (by (with_reducible repeat (first | refine U ?_ _ | refine X ?_ | refine V ?_ _)); exact BK664.out)) : gb664 ≠ gb665)); have n6_ := G ((by rw [hg]; exact Nat.ne_of_gt (blk_lt (g := gb664) (o := .cells #[.slice A0_0 l0_0.length c0_0, .slice A0_1 l0_1.length c0_1] 33 (0, 0)) (by (with_reducible repeat (first | refine U ?_ _ | refine X ?_ | refine V ?_ _)); exact BK664.out)) : gb665 ≠ gb664)); clear BK664; clear HB; have BK664 := n0_; have HB := n1_; have BK665 := n2_; have GW665 := n3_; have GE665 := n4_; have NB664_665 := n5_; have NB665_664 := n6_; clear n0_ n1_ n2_ n3_ n4_ n5_ n6_; clear hb hbox hg; have hnb7 := NB664_665.out; have hnc7 := NB665_664.out; have hcz8_0 : w6.cell? ⟨gb664, 0, none⟩ = some (.slice A0_0 l0_0.length c0_0) := (E BK664.out 0).trans rfl; have hcz8_1 : w6.cell? ⟨gb664, 1, none⟩ = some (.slice A0_1 l0_1.length c0_1) := (E BK664.out 1).trans rfl; have hfz8_0 := GU BK664.out 0; have hfz8_1 := GU BK664.out 1) | ((with_reducible refine gate_callee (f := 19) rfl ?_); refine goesL_ (some 19) rfl rfl Try.func19 (by kernel_rfl) rfl #[.agg #[.slice A0_0 l0_0.length c0_0, .slice A0_1 l0_1.length c0_1], .int .i64 1048576] rfl (by (try simp only [List.map_toArray, List.map_cons, List.map_nil]); first | done | rfl | (simp only [List.length_drop, List.length_take]; rfl)) ?_; (with_reducible refine (laws_szFrame.calls _ _ l0_0 _ _ l0_1 1048576 t666 _ ?side1 ?side2 ?side3 ?side4 A3.out).mono ?_); (case side1 => repeat (first | exact (GT HR0_0.out HB.out) | (with_reducible refine GG ?_ _) | (with_reducible refine GJ ?_ _) | (with_reducible refine GL ?_))); (case side2 => exact HC0_0.out); (case side3 => repeat (first | exact (GT HR0_1.out HB.out) | (with_reducible refine GG ?_ _) | (with_reducible refine GJ ?_ _) | (with_reducible refine GL ?_))); (case side4 => exact HC0_1.out); rintro e w9 ⟨rfl, hb⟩; refine ⟨_, rfl, ?_⟩; have n0_ := G (F (g := gb664) (o := .cells #[.slice A0_0 l0_0.length c0_0, .slice A0_1 l0_1.length c0_1] 33 (0, 0)) (by (with_reducible repeat (first | refine U ?_ _ | refine X ?_ | refine V ?_ _)); exact BK664.out) hb); have n1_ := G (F (g := gb665) (o := .cells #[.slice A1_0 l1_0.length c1_0, .int .i64 a1_1] 24 (0, 0)) (by (with_reducible repeat (first | refine U ?_ _ | refine X ?_ | refine V ?_ _)); exact BK665.out) hb); have n2_ := G (GO (by repeat (first | (with_reducible first | exact HB.out | apply Z | apply T | apply Y | refine O ?_ GE664.out | refine O ?_ GE665.out) | exact HB.out)) hb); clear BK664; clear BK665; clear HB; have BK664 := n0_; have BK665 := n1_; have HB := n2_; clear n0_ n1_ n2_; (try clear hb); (try clear hb2); (try clear hk); (try clear hi)))
  go_ret
  exact ⟨by first | rfl | (simp [errW_none, errW_some] <;> rfl) | (simp [*, errW_none, errW_some] <;> rfl), by repeat (first | (with_reducible first | exact HB.out | apply Z | apply T | apply Y | refine O ?_ GE664.out | refine O ?_ GE665.out) | exact HB.out)⟩
 ·rw [if_neg c4] at H
  have c4b0 : decide (t666 < 0) = false := decide_eq_false c4
  clear c4
  replace H := Option.bind_eq_some_iff.mp H
  obtain ⟨t667, A100, H⟩ := H
  replace H : (if t667 < 0 then (some true) else ((laws_toFrame.f k l0_0 l0_1).bind fun bt668 => ((laws_toDensities.f k l1_0 a1_1).bind fun bt674 => ((spec_PushedWires.f k bt668.1 bt668.2 bt674.1 bt674.2).bind fun bt678 => ((laws_toFrame.f k l0_0 l0_1).bind fun bt682 => ((laws_toDensities.f k l1_0 a1_1).bind fun bt689 => ((impl_PushedWires.f k bt682.1 bt682.2 bt689.1 bt689.2).bind fun bt694 => ((laws_eqInt64S.f k bt694.1 bt678.1).bind fun t698 => (if t698 = true then (laws_FnExactPushedWires.j0 k bt678.1 bt678.2 bt694.1 bt694.2 (bt694.2 != bt678.2) l0_0 l0_1 l1_0 a1_1 bt682.1 bt682.2 bt689.1 bt689.2) else (laws_FnExactPushedWires.j0 k bt678.1 bt678.2 bt694.1 bt694.2 true l0_0 l0_1 l1_0 a1_1 bt682.1 bt682.2 bt689.1 bt689.2)))))))))) = some r := H
  have A10 := G A100
  clear A100
  by_cases c11 : t667 < 0
  ·rw [if_pos c11] at H
   have c11b0 : decide (t667 < 0) = true := decide_eq_true c11
   clear c11
   obtain rfl := Option.some.inj H
   go_enter Try.func12, Try.ntmps12
   go_wp2_with (first | ((with_reducible refine gate_dst (N := 2) rfl ?_); refine box_event ?hg (N := 2) ?hd (cs := #[.slice A0_0 l0_0.length c0_0, .slice A0_1 l0_1.length c0_1]) (t := 33) ?hr ?_; (case hd => rfl); (case hg => rfl); (case hr => first | (go_simp; done) | (go_simp; rfl)); intro gb664 hg w12 hbox hb; have n0_ := G (GO (by repeat (first | (with_reducible first | exact HB.out | apply Z | apply T | apply Y) | exact HB.out)) hb); have n1_ := G (hbox); have n2_ := G ((by rw [hg]; exact (GN (by repeat (first | (with_reducible first | exact HB.out | apply Z | apply T | apply Y) | exact HB.out))) : w.heap.size ≤ gb664)); have n3_ := G ((by rw [hg]; exact (GN (by repeat (first | (with_reducible first | exact HB.out | apply Z | apply T | apply Y) | exact HB.out))) : w.heap.size ≤ gb664)); clear HB; have HB := n0_; have BK664 := n1_; have GW664 := n2_; have GE664 := n3_; clear n0_ n1_ n2_ n3_; clear hb hbox hg) | ((with_reducible refine gate_dst (N := 3) rfl ?_); refine box_event ?hg (N := 3) ?hd (cs := #[.slice A1_0 l1_0.length c1_0, .int .i64 a1_1]) (t := 24) ?hr ?_; (case hd => rfl); (case hg => rfl); (case hr => first | (go_simp; done) | (go_simp; rfl)); intro gb665 hg w13 hbox hb; have n0_ := G (F (g := gb664) (o := .cells #[.slice A0_0 l0_0.length c0_0, .slice A0_1 l0_1.length c0_1] 33 (0, 0)) (by (with_reducible repeat (first | refine U ?_ _ | refine X ?_ | refine V ?_ _)); exact BK664.out) hb); have n1_ := G (GO (by repeat (first | (with_reducible first | exact HB.out | apply Z | apply T | apply Y | refine O ?_ GE664.out) | exact HB.out)) hb); have n2_ := G (hbox); have n3_ := G ((by rw [hg]; exact (GN (by repeat (first | (with_reducible first | exact HB.out | apply Z | apply T | apply Y | refine O ?_ GE664.out) | exact HB.out))) : w.heap.size ≤ gb665)); have n4_ := G ((by rw [hg]; exact (GN (by repeat (first | (with_reducible first | exact HB.out | apply Z | apply T | apply Y | refine O ?_ GE664.out) | exact HB.out))) : w.heap.size ≤ gb665)); have n5_ := G ((by rw [hg]; exact Nat.ne_of_lt (blk_lt (g := gb664) (o := .cells #[.slice A0_0 l0_0.length c0_0, .slice A0_1 l0_1.length c0_1] 33 (0, 0)) (by (with_reducible repeat (first | refine U ?_ _ | refine X ?_ | refine V ?_ _)); exact BK664.out)) : gb664 ≠ gb665)); have n6_ := G ((by rw [hg]; exact Nat.ne_of_gt (blk_lt (g := gb664) (o := .cells #[.slice A0_0 l0_0.length c0_0, .slice A0_1 l0_1.length c0_1] 33 (0, 0)) (by (with_reducible repeat (first | refine U ?_ _ | refine X ?_ | refine V ?_ _)); exact BK664.out)) : gb665 ≠ gb664)); clear BK664; clear HB; have BK664 := n0_; have HB := n1_; have BK665 := n2_; have GW665 := n3_; have GE665 := n4_; have NB664_665 := n5_; have NB665_664 := n6_; clear n0_ n1_ n2_ n3_ n4_ n5_ n6_; clear hb hbox hg; have hnb14 := NB664_665.out; have hnc14 := NB665_664.out; have hcz15_0 : w13.cell? ⟨gb664, 0, none⟩ = some (.slice A0_0 l0_0.length c0_0) := (E BK664.out 0).trans rfl; have hcz15_1 : w13.cell? ⟨gb664, 1, none⟩ = some (.slice A0_1 l0_1.length c0_1) := (E BK664.out 1).trans rfl; have hfz15_0 := GU BK664.out 0; have hfz15_1 := GU BK664.out 1) | ((with_reducible refine gate_callee (f := 19) rfl ?_); refine goesL_ (some 19) rfl rfl Try.func19 (by kernel_rfl) rfl #[.agg #[.slice A0_0 l0_0.length c0_0, .slice A0_1 l0_1.length c0_1], .int .i64 1048576] rfl (by (try simp only [List.map_toArray, List.map_cons, List.map_nil]); first | done | rfl | (simp only [List.length_drop, List.length_take]; rfl)) ?_; (with_reducible refine (laws_szFrame.calls _ _ l0_0 _ _ l0_1 1048576 t666 _ ?side1 ?side2 ?side3 ?side4 A3.out).mono ?_); (case side1 => repeat (first | exact (GT HR0_0.out HB.out) | (with_reducible refine GG ?_ _) | (with_reducible refine GJ ?_ _) | (with_reducible refine GL ?_))); (case side2 => exact HC0_0.out); (case side3 => repeat (first | exact (GT HR0_1.out HB.out) | (with_reducible refine GG ?_ _) | (with_reducible refine GJ ?_ _) | (with_reducible refine GL ?_))); (case side4 => exact HC0_1.out); rintro e w16 ⟨rfl, hb⟩; refine ⟨_, rfl, ?_⟩; have n0_ := G (F (g := gb664) (o := .cells #[.slice A0_0 l0_0.length c0_0, .slice A0_1 l0_1.length c0_1] 33 (0, 0)) (by (with_reducible repeat (first | refine U ?_ _ | refine X ?_ | refine V ?_ _)); exact BK664.out) hb); have n1_ := G (F (g := gb665) (o := .cells #[.slice A1_0 l1_0.length c1_0, .int .i64 a1_1] 24 (0, 0)) (by (with_reducible repeat (first | refine U ?_ _ | refine X ?_ | refine V ?_ _)); exact BK665.out) hb); have n2_ := G (GO (by repeat (first | (with_reducible first | exact HB.out | apply Z | apply T | apply Y | refine O ?_ GE664.out | refine O ?_ GE665.out) | exact HB.out)) hb); clear BK664; clear BK665; clear HB; have BK664 := n0_; have BK665 := n1_; have HB := n2_; clear n0_ n1_ n2_; (try clear hb); (try clear hb2); (try clear hk); (try clear hi); have hcz17_0 : w16.cell? ⟨gb665, 0, none⟩ = some (.slice A1_0 l1_0.length c1_0) := (E BK665.out 0).trans rfl; have hcz17_1 : w16.cell? ⟨gb665, 1, none⟩ = some (.int .i64 a1_1) := (E BK665.out 1).trans rfl; have hfz17_0 := GU BK665.out 0; have hfz17_1 := GU BK665.out 1) | ((with_reducible refine gate_callee (f := 14) rfl ?_); refine goesL_ (some 24) rfl rfl Try.func14 (by kernel_rfl) rfl #[.agg #[.slice A1_0 l1_0.length c1_0, .int .i64 a1_1], .int .i64 t666] rfl (by (try simp only [List.map_toArray, List.map_cons, List.map_nil]); first | done | rfl | (simp only [List.length_drop, List.length_take]; rfl)) ?_; (with_reducible refine (laws_szDensities.calls _ _ l1_0 a1_1 t666 t667 _ ?side1 ?side2 A10.out).mono ?_); (case side1 => repeat (first | exact (GT HR1_0.out HB.out) | (with_reducible refine GG ?_ _) | (with_reducible refine GJ ?_ _) | (with_reducible refine GL ?_))); (case side2 => exact HC1_0.out); rintro e w18 ⟨rfl, hb⟩; refine ⟨_, rfl, ?_⟩; have n0_ := G (F (g := gb664) (o := .cells #[.slice A0_0 l0_0.length c0_0, .slice A0_1 l0_1.length c0_1] 33 (0, 0)) (by (with_reducible repeat (first | refine U ?_ _ | refine X ?_ | refine V ?_ _)); exact BK664.out) hb); have n1_ := G (F (g := gb665) (o := .cells #[.slice A1_0 l1_0.length c1_0, .int .i64 a1_1] 24 (0, 0)) (by (with_reducible repeat (first | refine U ?_ _ | refine X ?_ | refine V ?_ _)); exact BK665.out) hb); have n2_ := G (GO (by repeat (first | (with_reducible first | exact HB.out | apply Z | apply T | apply Y | refine O ?_ GE664.out | refine O ?_ GE665.out) | exact HB.out)) hb); clear BK664; clear BK665; clear HB; have BK664 := n0_; have BK665 := n1_; have HB := n2_; clear n0_ n1_ n2_; (try clear hb); (try clear hb2); (try clear hk); (try clear hi)))
   go_ret
   exact ⟨by first | rfl | (simp [errW_none, errW_some] <;> rfl) | (simp [*, errW_none, errW_some] <;> rfl), by repeat (first | (with_reducible first | exact HB.out | apply Z | apply T | apply Y | refine O ?_ GE664.out | refine O ?_ GE665.out) | exact HB.out)⟩
  ·rw [if_neg c11] at H
   have c11b0 : decide (t667 < 0) = false := decide_eq_false c11
   clear c11
   replace H := Option.bind_eq_some_iff.mp H
   obtain ⟨⟨t668, t671⟩, A190, H⟩ := H
   replace H : ((laws_toDensities.f k l1_0 a1_1).bind fun bt674 => ((spec_PushedWires.f k t668 t671 bt674.1 bt674.2).bind fun bt678 => ((laws_toFrame.f k l0_0 l0_1).bind fun bt682 => ((laws_toDensities.f k l1_0 a1_1).bind fun bt689 => ((impl_PushedWires.f k bt682.1 bt682.2 bt689.1 bt689.2).bind fun bt694 => ((laws_eqInt64S.f k bt694.1 bt678.1).bind fun t698 => (if t698 = true then (laws_FnExactPushedWires.j0 k bt678.1 bt678.2 bt694.1 bt694.2 (bt694.2 != bt678.2) l0_0 l0_1 l1_0 a1_1 bt682.1 bt682.2 bt689.1 bt689.2) else (laws_FnExactPushedWires.j0 k bt678.1 bt678.2 bt694.1 bt694.2 true l0_0 l0_1 l1_0 a1_1 bt682.1 bt682.2 bt689.1 bt689.2)))))))) = some r := H
   have A19 := G A190
   clear A190
   replace H := Option.bind_eq_some_iff.mp H
   obtain ⟨⟨t674, t677⟩, A200, H⟩ := H
   replace H : ((spec_PushedWires.f k t668 t671 t674 t677).bind fun bt678 => ((laws_toFrame.f k l0_0 l0_1).bind fun bt682 => ((laws_toDensities.f k l1_0 a1_1).bind fun bt689 => ((impl_PushedWires.f k bt682.1 bt682.2 bt689.1 bt689.2).bind fun bt694 => ((laws_eqInt64S.f k bt694.1 bt678.1).bind fun t698 => (if t698 = true then (laws_FnExactPushedWires.j0 k bt678.1 bt678.2 bt694.1 bt694.2 (bt694.2 != bt678.2) l0_0 l0_1 l1_0 a1_1 bt682.1 bt682.2 bt689.1 bt689.2) else (laws_FnExactPushedWires.j0 k bt678.1 bt678.2 bt694.1 bt694.2 true l0_0 l0_1 l1_0 a1_1 bt682.1 bt682.2 bt689.1 bt689.2))))))) = some r := H
   have A20 := G A200
   clear A200
   replace H := Option.bind_eq_some_iff.mp H
   obtain ⟨⟨t678, t681⟩, A210, H⟩ := H
   replace H : ((laws_toFrame.f k l0_0 l0_1).bind fun bt682 => ((laws_toDensities.f k l1_0 a1_1).bind fun bt689 => ((impl_PushedWires.f k bt682.1 bt682.2 bt689.1 bt689.2).bind fun bt694 => ((laws_eqInt64S.f k bt694.1 t678).bind fun t698 => (if t698 = true then (laws_FnExactPushedWires.j0 k t678 t681 bt694.1 bt694.2 (bt694.2 != t681) l0_0 l0_1 l1_0 a1_1 bt682.1 bt682.2 bt689.1 bt689.2) else (laws_FnExactPushedWires.j0 k t678 t681 bt694.1 bt694.2 true l0_0 l0_1 l1_0 a1_1 bt682.1 bt682.2 bt689.1 bt689.2)))))) = some r := H
   have A21 := G A210
   clear A210
   replace H := Option.bind_eq_some_iff.mp H
   obtain ⟨⟨t682, t685⟩, A220, H⟩ := H
   replace H : ((laws_toDensities.f k l1_0 a1_1).bind fun bt689 => ((impl_PushedWires.f k t682 t685 bt689.1 bt689.2).bind fun bt694 => ((laws_eqInt64S.f k bt694.1 t678).bind fun t698 => (if t698 = true then (laws_FnExactPushedWires.j0 k t678 t681 bt694.1 bt694.2 (bt694.2 != t681) l0_0 l0_1 l1_0 a1_1 t682 t685 bt689.1 bt689.2) else (laws_FnExactPushedWires.j0 k t678 t681 bt694.1 bt694.2 true l0_0 l0_1 l1_0 a1_1 t682 t685 bt689.1 bt689.2))))) = some r := H
   have A22 := G A220
   clear A220
   replace H := Option.bind_eq_some_iff.mp H
   obtain ⟨⟨t689, t692⟩, A230, H⟩ := H
   replace H : ((impl_PushedWires.f k t682 t685 t689 t692).bind fun bt694 => ((laws_eqInt64S.f k bt694.1 t678).bind fun t698 => (if t698 = true then (laws_FnExactPushedWires.j0 k t678 t681 bt694.1 bt694.2 (bt694.2 != t681) l0_0 l0_1 l1_0 a1_1 t682 t685 t689 t692) else (laws_FnExactPushedWires.j0 k t678 t681 bt694.1 bt694.2 true l0_0 l0_1 l1_0 a1_1 t682 t685 t689 t692)))) = some r := H
   have A23 := G A230
   clear A230
   replace H := Option.bind_eq_some_iff.mp H
   obtain ⟨⟨t694, t697⟩, A240, H⟩ := H
   replace H : ((laws_eqInt64S.f k t694 t678).bind fun t698 => (if t698 = true then (laws_FnExactPushedWires.j0 k t678 t681 t694 t697 (t697 != t681) l0_0 l0_1 l1_0 a1_1 t682 t685 t689 t692) else (laws_FnExactPushedWires.j0 k t678 t681 t694 t697 true l0_0 l0_1 l1_0 a1_1 t682 t685 t689 t692))) = some r := H
   have A24 := G A240
   clear A240
   have HC25 := G H
   clear H
   go_enter Try.func12, Try.ntmps12
   try go_wp2_with (first | ((with_reducible refine gate_dst (N := 2) rfl ?_); refine box_event ?hg (N := 2) ?hd (cs := #[.slice A0_0 l0_0.length c0_0, .slice A0_1 l0_1.length c0_1]) (t := 33) ?hr ?_; (case hd => rfl); (case hg => rfl); (case hr => first | (go_simp; done) | (go_simp; rfl)); intro gb664 hg w26 hbox hb; have n0_ := G (GO (by repeat (first | (with_reducible first | exact HB.out | apply Z | apply T | apply Y) | exact HB.out)) hb); have n1_ := G (hbox); have n2_ := G ((by rw [hg]; exact (GN (by repeat (first | (with_reducible first | exact HB.out | apply Z | apply T | apply Y) | exact HB.out))) : w.heap.size ≤ gb664)); have n3_ := G ((by rw [hg]; exact (GN (by repeat (first | (with_reducible first | exact HB.out | apply Z | apply T | apply Y) | exact HB.out))) : w.heap.size ≤ gb664)); clear HB; have HB := n0_; have BK664 := n1_; have GW664 := n2_; have GE664 := n3_; clear n0_ n1_ n2_ n3_; clear hb hbox hg) | ((with_reducible refine gate_dst (N := 3) rfl ?_); refine box_event ?hg (N := 3) ?hd (cs := #[.slice A1_0 l1_0.length c1_0, .int .i64 a1_1]) (t := 24) ?hr ?_; (case hd => rfl); (case hg => rfl); (case hr => first | (go_simp; done) | (go_simp; rfl)); intro gb665 hg w27 hbox hb; have n0_ := G (F (g := gb664) (o := .cells #[.slice A0_0 l0_0.length c0_0, .slice A0_1 l0_1.length c0_1] 33 (0, 0)) (by (with_reducible repeat (first | refine U ?_ _ | refine X ?_ | refine V ?_ _)); exact BK664.out) hb); have n1_ := G (GO (by repeat (first | (with_reducible first | exact HB.out | apply Z | apply T | apply Y | refine O ?_ GE664.out) | exact HB.out)) hb); have n2_ := G (hbox); have n3_ := G ((by rw [hg]; exact (GN (by repeat (first | (with_reducible first | exact HB.out | apply Z | apply T | apply Y | refine O ?_ GE664.out) | exact HB.out))) : w.heap.size ≤ gb665)); have n4_ := G ((by rw [hg]; exact (GN (by repeat (first | (with_reducible first | exact HB.out | apply Z | apply T | apply Y | refine O ?_ GE664.out) | exact HB.out))) : w.heap.size ≤ gb665)); have n5_ := G ((by rw [hg]; exact Nat.ne_of_lt (blk_lt (g := gb664) (o := .cells #[.slice A0_0 l0_0.length c0_0, .slice A0_1 l0_1.length c0_1] 33 (0, 0)) (by (with_reducible repeat (first | refine U ?_ _ | refine X ?_ | refine V ?_ _)); exact BK664.out)) : gb664 ≠ gb665)); have n6_ := G ((by rw [hg]; exact Nat.ne_of_gt (blk_lt (g := gb664) (o := .cells #[.slice A0_0 l0_0.length c0_0, .slice A0_1 l0_1.length c0_1] 33 (0, 0)) (by (with_reducible repeat (first | refine U ?_ _ | refine X ?_ | refine V ?_ _)); exact BK664.out)) : gb665 ≠ gb664)); clear BK664; clear HB; have BK664 := n0_; have HB := n1_; have BK665 := n2_; have GW665 := n3_; have GE665 := n4_; have NB664_665 := n5_; have NB665_664 := n6_; clear n0_ n1_ n2_ n3_ n4_ n5_ n6_; clear hb hbox hg; have hnb28 := NB664_665.out; have hnc28 := NB665_664.out; have hcz29_0 : w27.cell? ⟨gb664, 0, none⟩ = some (.slice A0_0 l0_0.length c0_0) := (E BK664.out 0).trans rfl; have hcz29_1 : w27.cell? ⟨gb664, 1, none⟩ = some (.slice A0_1 l0_1.length c0_1) := (E BK664.out 1).trans rfl; have hfz29_0 := GU BK664.out 0; have hfz29_1 := GU BK664.out 1) | ((with_reducible refine gate_callee (f := 19) rfl ?_); refine goesL_ (some 19) rfl rfl Try.func19 (by kernel_rfl) rfl #[.agg #[.slice A0_0 l0_0.length c0_0, .slice A0_1 l0_1.length c0_1], .int .i64 1048576] rfl (by (try simp only [List.map_toArray, List.map_cons, List.map_nil]); first | done | rfl | (simp only [List.length_drop, List.length_take]; rfl)) ?_; (with_reducible refine (laws_szFrame.calls _ _ l0_0 _ _ l0_1 1048576 t666 _ ?side1 ?side2 ?side3 ?side4 A3.out).mono ?_); (case side1 => repeat (first | exact (GT HR0_0.out HB.out) | (with_reducible refine GG ?_ _) | (with_reducible refine GJ ?_ _) | (with_reducible refine GL ?_))); (case side2 => exact HC0_0.out); (case side3 => repeat (first | exact (GT HR0_1.out HB.out) | (with_reducible refine GG ?_ _) | (with_reducible refine GJ ?_ _) | (with_reducible refine GL ?_))); (case side4 => exact HC0_1.out); rintro e w30 ⟨rfl, hb⟩; refine ⟨_, rfl, ?_⟩; have n0_ := G (F (g := gb664) (o := .cells #[.slice A0_0 l0_0.length c0_0, .slice A0_1 l0_1.length c0_1] 33 (0, 0)) (by (with_reducible repeat (first | refine U ?_ _ | refine X ?_ | refine V ?_ _)); exact BK664.out) hb); have n1_ := G (F (g := gb665) (o := .cells #[.slice A1_0 l1_0.length c1_0, .int .i64 a1_1] 24 (0, 0)) (by (with_reducible repeat (first | refine U ?_ _ | refine X ?_ | refine V ?_ _)); exact BK665.out) hb); have n2_ := G (GO (by repeat (first | (with_reducible first | exact HB.out | apply Z | apply T | apply Y | refine O ?_ GE664.out | refine O ?_ GE665.out) | exact HB.out)) hb); clear BK664; clear BK665; clear HB; have BK664 := n0_; have BK665 := n1_; have HB := n2_; clear n0_ n1_ n2_; (try clear hb); (try clear hb2); (try clear hk); (try clear hi); have hcz31_0 : w30.cell? ⟨gb665, 0, none⟩ = some (.slice A1_0 l1_0.length c1_0) := (E BK665.out 0).trans rfl; have hcz31_1 : w30.cell? ⟨gb665, 1, none⟩ = some (.int .i64 a1_1) := (E BK665.out 1).trans rfl; have hfz31_0 := GU BK665.out 0; have hfz31_1 := GU BK665.out 1) | ((with_reducible refine gate_callee (f := 14) rfl ?_); refine goesL_ (some 24) rfl rfl Try.func14 (by kernel_rfl) rfl #[.agg #[.slice A1_0 l1_0.length c1_0, .int .i64 a1_1], .int .i64 t666] rfl (by (try simp only [List.map_toArray, List.map_cons, List.map_nil]); first | done | rfl | (simp only [List.length_drop, List.length_take]; rfl)) ?_; (with_reducible refine (laws_szDensities.calls _ _ l1_0 a1_1 t666 t667 _ ?side1 ?side2 A10.out).mono ?_); (case side1 => repeat (first | exact (GT HR1_0.out HB.out) | (with_reducible refine GG ?_ _) | (with_reducible refine GJ ?_ _) | (with_reducible refine GL ?_))); (case side2 => exact HC1_0.out); rintro e w32 ⟨rfl, hb⟩; refine ⟨_, rfl, ?_⟩; have n0_ := G (F (g := gb664) (o := .cells #[.slice A0_0 l0_0.length c0_0, .slice A0_1 l0_1.length c0_1] 33 (0, 0)) (by (with_reducible repeat (first | refine U ?_ _ | refine X ?_ | refine V ?_ _)); exact BK664.out) hb); have n1_ := G (F (g := gb665) (o := .cells #[.slice A1_0 l1_0.length c1_0, .int .i64 a1_1] 24 (0, 0)) (by (with_reducible repeat (first | refine U ?_ _ | refine X ?_ | refine V ?_ _)); exact BK665.out) hb); have n2_ := G (GO (by repeat (first | (with_reducible first | exact HB.out | apply Z | apply T | apply Y | refine O ?_ GE664.out | refine O ?_ GE665.out) | exact HB.out)) hb); clear BK664; clear BK665; clear HB; have BK664 := n0_; have BK665 := n1_; have HB := n2_; clear n0_ n1_ n2_; (try clear hb); (try clear hb2); (try clear hk); (try clear hi)))
   have n0_ := G (X BK664.out)
   have n1_ := G (X BK665.out)
   have n2_ := G (Y HB.out)
   clear BK664
   clear BK665
   clear HB
   have BK664 := n0_
   have BK665 := n1_
   have HB := n2_
   clear n0_ n1_ n2_
   refine start_ (n := 10) (S := fun w' => w'.cell? ⟨gb664, 0, none⟩ = some (.slice A0_0 l0_0.length c0_0) ∧ w'.cell? ⟨gb664, 1, none⟩ = some (.slice A0_1 l0_1.length c0_1) ∧ w'.cell? ⟨gb665, 0, none⟩ = some (.slice A1_0 l1_0.length c1_0) ∧ w'.cell? ⟨gb665, 1, none⟩ = some (.int .i64 a1_1)) (ds := []) #[n', n', n', n', n', n', n', n', n', n'] (by kernel_rfl) rfl rfl ⟨(E BK664.out 0).trans rfl, (E BK664.out 1).trans rfl, (E BK665.out 0).trans rfl, (E BK665.out 1).trans rfl⟩ (fun hHeld => ?_); refine with_tabW laws_FnExactPushedWires.tab8 laws_FnExactPushedWires.bits8 (fun HT_ HW_ => ?_)
   generalize w32.drew = w33 at BK664 BK665 HB hHeld ⊢
   refine take_ (i := 0) (N := some 28) (v := ?_) (a' := ?_) #[y', n', n', n', n', n', n', n', n', n'] rfl rfl (take_ofW HT_.out HW_.out (by kernel_rfl)) (fun _ _ _ h => h) (Or.inl ⟨by rfl, ?_⟩) hHeld ?_ ?_
   rotate_left
   ·rintro w' ⟨s0, s1, s2, s3⟩
    go_simp
    with_reducible rfl
   rotate_left
   ·simp only [Act.put, z1', z2', z3', i64_w, i32_w]
    rfl
   refine take_ (i := 2) (N := some 30) (v := ?_) (a' := ?_) #[y', n', y', n', n', n', n', n', n', n'] rfl rfl (take_ofW HT_.out HW_.out (by kernel_rfl)) (fun _ _ _ h => h) (Or.inl ⟨by rfl, ?_⟩) hHeld ?_ ?_
   rotate_left
   ·rintro w' ⟨s0, s1, s2, s3⟩
    go_simp
    with_reducible rfl
   rotate_left
   ·simp only [Act.put, z1', z2', z3', i64_w, i32_w]
    rfl
   refine one_ (i := 1) (N := some 29) #[y', y', y', n', n', n', n', n', n', n'] rfl rfl (one_of HT_.out (by kernel_rfl)) (by decide) (fun K hK => ?_)
   refine goes_ Try.func21 (by kernel_rfl) rfl #[.agg #[.slice A0_0 l0_0.length c0_0, .slice A0_1 l0_1.length c0_1]] (by rfl) rfl rfl (by (try simp only [List.map_toArray, List.map_cons, List.map_nil]); first | done | rfl | (simp only [List.length_drop, List.length_take]; rfl)) ?_
   with_reducible refine (laws_toFrame.calls k _ _ l0_0 _ _ l0_1 t668 t671 _ ?side1 ?side2 ?side3 ?side4 A19.out).mono ?_
   (case side1 => repeat (first | exact (GT HR0_0.out HB.out) | (with_reducible refine GG ?_ _) | (with_reducible refine GJ ?_ _) | (with_reducible refine GL ?_)))
   (case side2 => exact HC0_0.out)
   (case side3 => repeat (first | exact (GT HR0_1.out HB.out) | (with_reducible refine GG ?_ _) | (with_reducible refine GJ ?_ _) | (with_reducible refine GL ?_)))
   (case side4 => exact HC0_1.out)
   rintro e w34 ⟨v669, v672, rfl, ho0, ho1, hb⟩
   refine ⟨_, rfl, ?_⟩
   have n0_ := G (Kd.R_lower ho0 (GN (by repeat (first | (with_reducible first | exact HB.out | apply Z | apply T | apply Y | refine O ?_ GE664.out | refine O ?_ GE665.out) | exact HB.out))))
   have n1_ := G (Kd.R_lower ho1 (GN (by repeat (first | (with_reducible first | exact HB.out | apply Z | apply T | apply Y | refine O ?_ GE664.out | refine O ?_ GE665.out) | exact HB.out))))
   have n2_ := G (F (g := gb664) (o := .cells #[.slice A0_0 l0_0.length c0_0, .slice A0_1 l0_1.length c0_1] 33 (0, 0)) (by (with_reducible repeat (first | refine U ?_ _ | refine X ?_ | refine V ?_ _)); exact BK664.out) hb)
   have n3_ := G (F (g := gb665) (o := .cells #[.slice A1_0 l1_0.length c1_0, .int .i64 a1_1] 24 (0, 0)) (by (with_reducible repeat (first | refine U ?_ _ | refine X ?_ | refine V ?_ _)); exact BK665.out) hb)
   have n4_ := G (GO (by repeat (first | (with_reducible first | exact HB.out | apply Z | apply T | apply Y | refine O ?_ GE664.out | refine O ?_ GE665.out) | exact HB.out)) hb)
   clear BK664
   clear BK665
   clear HB
   have HO670 := n0_
   have HO673 := n1_
   have BK664 := n2_
   have BK665 := n3_
   have HB := n4_
   clear n0_ n1_ n2_ n3_ n4_
   (try clear hb)
   (try clear hb2)
   (try clear hk)
   (try clear hi)
   (try clear ho0)
   (try clear ho1)
   refine hK.out _ _ ⟨(E BK664.out 0).trans rfl, (E BK664.out 1).trans rfl, (E BK665.out 0).trans rfl, (E BK665.out 1).trans rfl⟩ (fun hHeld => ?_)
   clear hK K
   refine norm_ (a' := ?_) ?_ ?_
   rotate_left
   ·show Act.put _ (some 29) _ = _
    simp only [Act.put, z1', z2', z3', i64_w, i32_w]
    rfl
   refine one_ (i := 3) (N := some 31) #[y', y', y', y', n', n', n', n', n', n'] rfl rfl (one_of HT_.out (by kernel_rfl)) (by decide) (fun K hK => ?_)
   refine goes_ Try.func16 (by kernel_rfl) rfl #[.agg #[.slice A1_0 l1_0.length c1_0, .int .i64 a1_1]] (by rfl) rfl rfl (by (try simp only [List.map_toArray, List.map_cons, List.map_nil]); first | done | rfl | (simp only [List.length_drop, List.length_take]; rfl)) ?_
   with_reducible refine (laws_toDensities.calls k _ _ l1_0 a1_1 t674 t677 _ ?side1 ?side2 A20.out).mono ?_
   (case side1 => repeat (first | exact (GT HR1_0.out HB.out) | (with_reducible refine GG ?_ _) | (with_reducible refine GJ ?_ _) | (with_reducible refine GL ?_)))
   (case side2 => exact HC1_0.out)
   rintro e w35 ⟨v675, rfl, ho0, hb⟩
   refine ⟨_, rfl, ?_⟩
   have n0_ := G (B (by (with_reducible repeat (first | apply J | apply L | apply M)); exact HO670.out) hb)
   have n1_ := G (B (by (with_reducible repeat (first | apply J | apply L | apply M)); exact HO673.out) hb)
   have n2_ := G (Kd.R_lower ho0 (GN (by repeat (first | (with_reducible first | exact HB.out | apply Z | apply T | apply Y | refine O ?_ GE664.out | refine O ?_ GE665.out) | exact HB.out))))
   have n3_ := G (F (g := gb664) (o := .cells #[.slice A0_0 l0_0.length c0_0, .slice A0_1 l0_1.length c0_1] 33 (0, 0)) (by (with_reducible repeat (first | refine U ?_ _ | refine X ?_ | refine V ?_ _)); exact BK664.out) hb)
   have n4_ := G (F (g := gb665) (o := .cells #[.slice A1_0 l1_0.length c1_0, .int .i64 a1_1] 24 (0, 0)) (by (with_reducible repeat (first | refine U ?_ _ | refine X ?_ | refine V ?_ _)); exact BK665.out) hb)
   have n5_ := G (GO (by repeat (first | (with_reducible first | exact HB.out | apply Z | apply T | apply Y | refine O ?_ GE664.out | refine O ?_ GE665.out) | exact HB.out)) hb)
   clear HO670
   clear HO673
   clear BK664
   clear BK665
   clear HB
   have HO670 := n0_
   have HO673 := n1_
   have HO676 := n2_
   have BK664 := n3_
   have BK665 := n4_
   have HB := n5_
   clear n0_ n1_ n2_ n3_ n4_ n5_
   (try clear hb)
   (try clear hb2)
   (try clear hk)
   (try clear hi)
   (try clear ho0)
   obtain ⟨Ao36, co36, eo36⟩ := Kd.R_slice HO670.out
   (first | subst eo36 | (injection eo36 with f1_ f2_ f3_; have f4_ := f1_.symm; have f5_ := f3_.symm; clear f1_ f2_ f3_; subst f4_; subst f5_))
   obtain ⟨Ao37, co37, eo37⟩ := Kd.R_slice HO673.out
   (first | subst eo37 | (injection eo37 with f1_ f2_ f3_; have f4_ := f1_.symm; have f5_ := f3_.symm; clear f1_ f2_ f3_; subst f4_; subst f5_))
   obtain ⟨Ao38, co38, eo38⟩ := Kd.R_slice HO676.out
   (first | subst eo38 | (injection eo38 with f1_ f2_ f3_; have f4_ := f1_.symm; have f5_ := f3_.symm; clear f1_ f2_ f3_; subst f4_; subst f5_))
   refine hK.out _ _ ⟨(E BK664.out 0).trans rfl, (E BK664.out 1).trans rfl, (E BK665.out 0).trans rfl, (E BK665.out 1).trans rfl⟩ (fun hHeld => ?_)
   clear hK K
   refine norm_ (a' := ?_) ?_ ?_
   rotate_left
   ·show Act.put _ (some 31) _ = _
    simp only [Act.put, z1', z2', z3', i64_w, i32_w]
    rfl
   refine one_ (i := 4) (N := some 32) #[y', y', y', y', y', n', n', n', n', n'] rfl rfl (one_of HT_.out (by kernel_rfl)) (by decide) (fun K hK => ?_)
   refine goes_ Try.func49 (by kernel_rfl) rfl #[.agg #[.slice Ao36 t668.length co36, .slice Ao37 t671.length co37], .agg #[.slice Ao38 t674.length co38, .int .i64 t677]] (by rfl) rfl rfl (by (try simp only [List.map_toArray, List.map_cons, List.map_nil]); first | done | rfl | (simp only [List.length_drop, List.length_take]; rfl)) ?_
   with_reducible refine (spec_PushedWires.calls k _ _ t668 _ _ t671 _ _ t674 t677 t678 t681 _ ?side1 ?side2 ?side3 ?side4 ?side5 ?side6 A21.out).mono ?_
   (case side1 => repeat (first | exact (Kd.R_reads' HO670.out).2.2 | (with_reducible refine GG ?_ _) | (with_reducible refine GJ ?_ _) | (with_reducible refine GL ?_)))
   (case side2 => exact (Kd.R_reads' HO670.out).2.1)
   (case side3 => repeat (first | exact (Kd.R_reads' HO673.out).2.2 | (with_reducible refine GG ?_ _) | (with_reducible refine GJ ?_ _) | (with_reducible refine GL ?_)))
   (case side4 => exact (Kd.R_reads' HO673.out).2.1)
   (case side5 => repeat (first | exact (Kd.R_reads' HO676.out).2.2 | (with_reducible refine GG ?_ _) | (with_reducible refine GJ ?_ _) | (with_reducible refine GL ?_)))
   (case side6 => exact (Kd.R_reads' HO676.out).2.1)
   rintro e w39 ⟨v679, rfl, ho0, hb⟩
   refine ⟨_, rfl, ?_⟩
   have n0_ := G (B (by (with_reducible repeat (first | apply J | apply L | apply M)); exact HO670.out) hb)
   have n1_ := G (B (by (with_reducible repeat (first | apply J | apply L | apply M)); exact HO673.out) hb)
   have n2_ := G (Kd.R_elder' (by (with_reducible repeat (first | apply J | apply L | apply M)); exact HO676.out) (Kd.R_base ho0) hb)
   have n3_ := G (Kd.R_lower (GM ho0 (Kd.R_lt (by (with_reducible repeat (first | apply J | apply L | apply M)); exact HO676.out))) (GN (by repeat (first | (with_reducible first | exact HB.out | apply Z | apply T | apply Y | refine O ?_ GE664.out | refine O ?_ GE665.out) | exact HB.out))))
   have n4_ := G (F (g := gb664) (o := .cells #[.slice A0_0 l0_0.length c0_0, .slice A0_1 l0_1.length c0_1] 33 (0, 0)) (by (with_reducible repeat (first | refine U ?_ _ | refine X ?_ | refine V ?_ _)); exact BK664.out) hb)
   have n5_ := G (F (g := gb665) (o := .cells #[.slice A1_0 l1_0.length c1_0, .int .i64 a1_1] 24 (0, 0)) (by (with_reducible repeat (first | refine U ?_ _ | refine X ?_ | refine V ?_ _)); exact BK665.out) hb)
   have n6_ := G (GO (by repeat (first | (with_reducible first | exact HB.out | apply Z | apply T | apply Y | refine O ?_ GE664.out | refine O ?_ GE665.out) | exact HB.out)) hb)
   clear HO670
   clear HO673
   clear HO676
   clear BK664
   clear BK665
   clear HB
   have HO670 := n0_
   have HO673 := n1_
   have HO676 := n2_
   have HO680 := n3_
   have BK664 := n4_
   have BK665 := n5_
   have HB := n6_
   clear n0_ n1_ n2_ n3_ n4_ n5_ n6_
   (try clear hb)
   (try clear hb2)
   (try clear hk)
   (try clear hi)
   (try clear ho0)
   refine hK.out _ _ ⟨(E BK664.out 0).trans rfl, (E BK664.out 1).trans rfl, (E BK665.out 0).trans rfl, (E BK665.out 1).trans rfl⟩ (fun hHeld => ?_)
   clear hK K
   refine norm_ (a' := ?_) ?_ ?_
   rotate_left
   ·show Act.put _ (some 32) _ = _
    simp only [Act.put, z1', z2', z3', i64_w, i32_w]
    rfl
   refine pure_ (i := 5) (N := some 27) (v := ?_) (a' := ?_) #[y', y', y', y', y', y', n', n', n', n'] rfl rfl (any_of HT_.out (by kernel_rfl)) (fun _ _ _ h => h) (Or.inl ⟨by rfl, ?_⟩) ?_ ?_
   rotate_left
   ·intro w'
    go_simp
    with_reducible rfl
   rotate_left
   ·simp only [Act.put, z1', z2', z3', i64_w, i32_w]
    rfl
   refine pure_ (i := 6) (N := some 33) (v := ?_) (a' := ?_) #[y', y', y', y', y', y', y', n', n', n'] rfl rfl (any_of HT_.out (by kernel_rfl)) (fun _ _ _ h => h) (Or.inl ⟨by rfl, ?_⟩) ?_ ?_
   rotate_left
   ·intro w'
    go_simp
    with_reducible rfl
   rotate_left
   ·simp only [Act.put, z1', z2', z3', i64_w, i32_w]
    rfl
   refine pure_ (i := 7) (N := some 34) (v := ?_) (a' := ?_) #[y', y', y', y', y', y', y', y', n', n'] rfl rfl (any_of HT_.out (by kernel_rfl)) (fun _ _ _ h => h) (Or.inl ⟨by rfl, ?_⟩) ?_ ?_
   rotate_left
   ·intro w'
    go_simp
    with_reducible rfl
   rotate_left
   ·simp only [Act.put, z1', z2', z3', i64_w, i32_w]
    rfl
   refine pure_ (i := 8) (N := some 6) (v := ?_) (a' := ?_) #[y', y', y', y', y', y', y', y', y', n'] rfl rfl (any_of HT_.out (by kernel_rfl)) (fun _ _ _ h => h) (Or.inl ⟨by rfl, ?_⟩) ?_ ?_
   rotate_left
   ·intro w'
    go_simp
    with_reducible rfl
   rotate_left
   ·simp only [Act.put, z1', z2', z3', i64_w, i32_w]
    rfl
   refine pure_ (i := 9) (N := some 7) (v := ?_) (a' := ?_) #[y', y', y', y', y', y', y', y', y', y'] rfl rfl (any_of HT_.out (by kernel_rfl)) (fun _ _ _ h => h) (Or.inl ⟨by rfl, ?_⟩) ?_ ?_
   rotate_left
   ·intro w'
    go_simp
    with_reducible rfl
   rotate_left
   ·simp only [Act.put, z1', z2', z3', i64_w, i32_w]
    rfl
   refine done_ (done_of HT_.out (by kernel_rfl)) ?_
   have hcz40_0 : w39.cell? ⟨gb664, 0, none⟩ = some (.slice A0_0 l0_0.length c0_0) := (E BK664.out 0).trans rfl
   have hcz40_1 : w39.cell? ⟨gb664, 1, none⟩ = some (.slice A0_1 l0_1.length c0_1) := (E BK664.out 1).trans rfl
   have hfz40_0 := GU BK664.out 0
   have hfz40_1 := GU BK664.out 1
   go_upto_region 12 with (first | ((with_reducible refine gate_callee (f := 21) rfl ?_); refine goesL_ (some 36) rfl rfl Try.func21 (by kernel_rfl) rfl #[.agg #[.slice A0_0 l0_0.length c0_0, .slice A0_1 l0_1.length c0_1]] rfl (by (try simp only [List.map_toArray, List.map_cons, List.map_nil]); first | done | rfl | (simp only [List.length_drop, List.length_take]; rfl)) ?_; (with_reducible refine (laws_toFrame.calls k _ _ l0_0 _ _ l0_1 t682 t685 _ ?side1 ?side2 ?side3 ?side4 A22.out).mono ?_); (case side1 => repeat (first | exact (GT HR0_0.out HB.out) | (with_reducible refine GG ?_ _) | (with_reducible refine GJ ?_ _) | (with_reducible refine GL ?_))); (case side2 => exact HC0_0.out); (case side3 => repeat (first | exact (GT HR0_1.out HB.out) | (with_reducible refine GG ?_ _) | (with_reducible refine GJ ?_ _) | (with_reducible refine GL ?_))); (case side4 => exact HC0_1.out); rintro e w41 ⟨v683, v686, rfl, ho0, ho1, hb⟩; refine ⟨_, rfl, ?_⟩; have n0_ := G (Kd.R_elder' (by (with_reducible repeat (first | apply J | apply L | apply M)); exact HO670.out) (Kd.R_base ho0) hb); have n1_ := G (Kd.R_elder' (by (with_reducible repeat (first | apply J | apply L | apply M)); exact HO673.out) (Kd.R_base ho1) hb); have n2_ := G (B (by (with_reducible repeat (first | apply J | apply L | apply M)); exact HO676.out) hb); have n3_ := G (B (by (with_reducible repeat (first | apply J | apply L | apply M)); exact HO680.out) hb); have n4_ := G (Kd.R_lower (GM ho0 (Kd.R_lt (by (with_reducible repeat (first | apply J | apply L | apply M)); exact HO670.out))) (GN (by repeat (first | (with_reducible first | exact HB.out | apply Z | apply T | apply Y | refine O ?_ GE664.out | refine O ?_ GE665.out) | exact HB.out)))); have n5_ := G (Kd.R_lower (GM ho1 (Kd.R_lt (by (with_reducible repeat (first | apply J | apply L | apply M)); exact HO673.out))) (GN (by repeat (first | (with_reducible first | exact HB.out | apply Z | apply T | apply Y | refine O ?_ GE664.out | refine O ?_ GE665.out) | exact HB.out)))); have n6_ := G (F (g := gb664) (o := .cells #[.slice A0_0 l0_0.length c0_0, .slice A0_1 l0_1.length c0_1] 33 (0, 0)) (by (with_reducible repeat (first | refine U ?_ _ | refine X ?_ | refine V ?_ _)); exact BK664.out) hb); have n7_ := G (F (g := gb665) (o := .cells #[.slice A1_0 l1_0.length c1_0, .int .i64 a1_1] 24 (0, 0)) (by (with_reducible repeat (first | refine U ?_ _ | refine X ?_ | refine V ?_ _)); exact BK665.out) hb); have n8_ := G (GO (by repeat (first | (with_reducible first | exact HB.out | apply Z | apply T | apply Y | refine O ?_ GE664.out | refine O ?_ GE665.out) | exact HB.out)) hb); clear HO670; clear HO673; clear HO676; clear HO680; clear BK664; clear BK665; clear HB; have HO670 := n0_; have HO673 := n1_; have HO676 := n2_; have HO680 := n3_; have HO684 := n4_; have HO687 := n5_; have BK664 := n6_; have BK665 := n7_; have HB := n8_; clear n0_ n1_ n2_ n3_ n4_ n5_ n6_ n7_ n8_; (try clear hb); (try clear hb2); (try clear hk); (try clear hi); (try clear ho0); (try clear ho1)) | ((with_reducible refine gate_dst (N := 8) rfl ?_); refine box_event ?hg (N := 8) ?hd (cs := #[.slice none 0 0, .slice none 0 0]) (t := 39) ?hr ?_; (case hd => rfl); (case hg => rfl); (case hr => first | (go_simp; done) | (go_simp; rfl)); intro gb688 hg w42 hbox hb; have n0_ := G (B (by (with_reducible repeat (first | apply J | apply L | apply M)); exact HO670.out) hb); have n1_ := G (B (by (with_reducible repeat (first | apply J | apply L | apply M)); exact HO673.out) hb); have n2_ := G (B (by (with_reducible repeat (first | apply J | apply L | apply M)); exact HO676.out) hb); have n3_ := G (B (by (with_reducible repeat (first | apply J | apply L | apply M)); exact HO680.out) hb); have n4_ := G (B (by (with_reducible repeat (first | apply J | apply L | apply M)); exact HO684.out) hb); have n5_ := G (B (by (with_reducible repeat (first | apply J | apply L | apply M)); exact HO687.out) hb); have n6_ := G (F (g := gb664) (o := .cells #[.slice A0_0 l0_0.length c0_0, .slice A0_1 l0_1.length c0_1] 33 (0, 0)) (by (with_reducible repeat (first | refine U ?_ _ | refine X ?_ | refine V ?_ _)); exact BK664.out) hb); have n7_ := G (F (g := gb665) (o := .cells #[.slice A1_0 l1_0.length c1_0, .int .i64 a1_1] 24 (0, 0)) (by (with_reducible repeat (first | refine U ?_ _ | refine X ?_ | refine V ?_ _)); exact BK665.out) hb); have n8_ := G (GO (by repeat (first | (with_reducible first | exact HB.out | apply Z | apply T | apply Y | refine O ?_ GE664.out | refine O ?_ GE665.out) | exact HB.out)) hb); have n9_ := G (hbox); have n10_ := G ((by rw [hg]; exact (GN (by repeat (first | (with_reducible first | exact HB.out | apply Z | apply T | apply Y | refine O ?_ GE664.out | refine O ?_ GE665.out) | exact HB.out))) : w.heap.size ≤ gb688)); have n11_ := G ((by rw [hg]; exact (GN (by repeat (first | (with_reducible first | exact HB.out | apply Z | apply T | apply Y | refine O ?_ GE664.out | refine O ?_ GE665.out) | exact HB.out))) : w.heap.size ≤ gb688)); have n12_ := G ((by rw [hg]; exact Nat.ne_of_lt (blk_lt (g := gb664) (o := .cells #[.slice A0_0 l0_0.length c0_0, .slice A0_1 l0_1.length c0_1] 33 (0, 0)) (by (with_reducible repeat (first | refine U ?_ _ | refine X ?_ | refine V ?_ _)); exact BK664.out)) : gb664 ≠ gb688)); have n13_ := G ((by rw [hg]; exact Nat.ne_of_gt (blk_lt (g := gb664) (o := .cells #[.slice A0_0 l0_0.length c0_0, .slice A0_1 l0_1.length c0_1] 33 (0, 0)) (by (with_reducible repeat (first | refine U ?_ _ | refine X ?_ | refine V ?_ _)); exact BK664.out)) : gb688 ≠ gb664)); have n14_ := G ((by rw [hg]; exact Nat.ne_of_lt (blk_lt (g := gb665) (o := .cells #[.slice A1_0 l1_0.length c1_0, .int .i64 a1_1] 24 (0, 0)) (by (with_reducible repeat (first | refine U ?_ _ | refine X ?_ | refine V ?_ _)); exact BK665.out)) : gb665 ≠ gb688)); have n15_ := G ((by rw [hg]; exact Nat.ne_of_gt (blk_lt (g := gb665) (o := .cells #[.slice A1_0 l1_0.length c1_0, .int .i64 a1_1] 24 (0, 0)) (by (with_reducible repeat (first | refine U ?_ _ | refine X ?_ | refine V ?_ _)); exact BK665.out)) : gb688 ≠ gb665)); clear HO670; clear HO673; clear HO676; clear HO680; clear HO684; clear HO687; clear BK664; clear BK665; clear HB; have HO670 := n0_; have HO673 := n1_; have HO676 := n2_; have HO680 := n3_; have HO684 := n4_; have HO687 := n5_; have BK664 := n6_; have BK665 := n7_; have HB := n8_; have BK688 := n9_; have GW688 := n10_; have GE688 := n11_; have NB664_688 := n12_; have NB688_664 := n13_; have NB665_688 := n14_; have NB688_665 := n15_; clear n0_ n1_ n2_ n3_ n4_ n5_ n6_ n7_ n8_ n9_ n10_ n11_ n12_ n13_ n14_ n15_; clear hb hbox hg; obtain ⟨Ao43, co43, eo43⟩ := Kd.R_slice HO684.out; subst eo43; have hnb44 := NB688_664.out; have hnc44 := NB664_688.out; have hnb45 := NB688_665.out; have hnc45 := NB665_688.out; have hcz46_0 : w42.cell? ⟨gb688, 0, none⟩ = some (.slice none 0 0) := (E BK688.out 0).trans rfl; have hcz46_1 : w42.cell? ⟨gb688, 1, none⟩ = some (.slice none 0 0) := (E BK688.out 1).trans rfl; have hfz46_0 := GU BK688.out 0; have hfz46_1 := GU BK688.out 1; obtain ⟨Ao47, co47, eo47⟩ := Kd.R_slice HO687.out; subst eo47; have hcz48_0 : w42.cell? ⟨gb665, 0, none⟩ = some (.slice A1_0 l1_0.length c1_0) := (E BK665.out 0).trans rfl; have hcz48_1 : w42.cell? ⟨gb665, 1, none⟩ = some (.int .i64 a1_1) := (E BK665.out 1).trans rfl; have hfz48_0 := GU BK665.out 0; have hfz48_1 := GU BK665.out 1) | ((with_reducible refine gate_callee (f := 16) rfl ?_); refine goesL_ (some 38) rfl rfl Try.func16 (by kernel_rfl) rfl #[.agg #[.slice A1_0 l1_0.length c1_0, .int .i64 a1_1]] rfl (by (try simp only [List.map_toArray, List.map_cons, List.map_nil]); first | done | rfl | (simp only [List.length_drop, List.length_take]; rfl)) ?_; (with_reducible refine (laws_toDensities.calls k _ _ l1_0 a1_1 t689 t692 _ ?side1 ?side2 A23.out).mono ?_); (case side1 => exact GT HR1_0.out (by repeat (first | (with_reducible first | exact HB.out | apply Z | apply T | apply Y | refine O ?_ GE664.out | refine O ?_ GE665.out | refine O ?_ GE688.out) | exact HB.out))); (case side2 => exact HC1_0.out); rintro e w49 ⟨v690, rfl, ho0, hb⟩; refine ⟨_, rfl, ?_⟩; have n0_ := G (B (by (with_reducible repeat (first | apply J | apply L | apply M)); exact (P (D (p := ⟨gb688, 1, none⟩) (D (p := ⟨gb688, 0, none⟩) (I HO670.out BK688.out (by decide)) (fun _ hk => hk.2) (.slice Ao43 t682.length co43)) (fun _ hk => hk.2) (.slice Ao47 t685.length co47)) (fun _ h_ => h_.1))) hb); have n1_ := G (B (by (with_reducible repeat (first | apply J | apply L | apply M)); exact (P (D (p := ⟨gb688, 1, none⟩) (D (p := ⟨gb688, 0, none⟩) (I HO673.out BK688.out (by decide)) (fun _ hk => hk.2) (.slice Ao43 t682.length co43)) (fun _ hk => hk.2) (.slice Ao47 t685.length co47)) (fun _ h_ => h_.1))) hb); have n2_ := G (Kd.R_elder' (by (with_reducible repeat (first | apply J | apply L | apply M)); exact (P (D (p := ⟨gb688, 1, none⟩) (D (p := ⟨gb688, 0, none⟩) (I HO676.out BK688.out (by decide)) (fun _ hk => hk.2) (.slice Ao43 t682.length co43)) (fun _ hk => hk.2) (.slice Ao47 t685.length co47)) (fun _ h_ => h_.1))) (Kd.R_base ho0) hb); have n3_ := G (Kd.R_elder' (by (with_reducible repeat (first | apply J | apply L | apply M)); exact (P (D (p := ⟨gb688, 1, none⟩) (D (p := ⟨gb688, 0, none⟩) (I HO680.out BK688.out (by decide)) (fun _ hk => hk.2) (.slice Ao43 t682.length co43)) (fun _ hk => hk.2) (.slice Ao47 t685.length co47)) (fun _ h_ => h_.1))) (Kd.R_base ho0) hb); have n4_ := G (B (by (with_reducible repeat (first | apply J | apply L | apply M)); exact (P (D (p := ⟨gb688, 1, none⟩) (D (p := ⟨gb688, 0, none⟩) (I HO684.out BK688.out (by decide)) (fun _ hk => hk.2) (.slice Ao43 t682.length co43)) (fun _ hk => hk.2) (.slice Ao47 t685.length co47)) (fun _ h_ => h_.1))) hb); have n5_ := G (B (by (with_reducible repeat (first | apply J | apply L | apply M)); exact (P (D (p := ⟨gb688, 1, none⟩) (D (p := ⟨gb688, 0, none⟩) (I HO687.out BK688.out (by decide)) (fun _ hk => hk.2) (.slice Ao43 t682.length co43)) (fun _ hk => hk.2) (.slice Ao47 t685.length co47)) (fun _ h_ => h_.1))) hb); have n6_ := G (Kd.R_lower (GM (GM ho0 (Kd.R_lt (by (with_reducible repeat (first | apply J | apply L | apply M)); exact (P (D (p := ⟨gb688, 1, none⟩) (D (p := ⟨gb688, 0, none⟩) (I HO676.out BK688.out (by decide)) (fun _ hk => hk.2) (.slice Ao43 t682.length co43)) (fun _ hk => hk.2) (.slice Ao47 t685.length co47)) (fun _ h_ => h_.1))))) (Kd.R_lt (by (with_reducible repeat (first | apply J | apply L | apply M)); exact (P (D (p := ⟨gb688, 1, none⟩) (D (p := ⟨gb688, 0, none⟩) (I HO680.out BK688.out (by decide)) (fun _ hk => hk.2) (.slice Ao43 t682.length co43)) (fun _ hk => hk.2) (.slice Ao47 t685.length co47)) (fun _ h_ => h_.1))))) (GN (by repeat (first | (with_reducible first | exact HB.out | apply Z | apply T | apply Y | refine O ?_ GE664.out | refine O ?_ GE665.out | refine O ?_ GE688.out) | exact HB.out)))); have n7_ := G (F (g := gb664) (o := .cells #[.slice A0_0 l0_0.length c0_0, .slice A0_1 l0_1.length c0_1] 33 (0, 0)) (by (with_reducible repeat (first | refine U ?_ _ | refine X ?_ | refine V ?_ _)); refine blk_far ?_ NB664_688.out _; (with_reducible repeat (first | refine U ?_ _ | refine X ?_ | refine V ?_ _)); refine blk_far ?_ NB664_688.out _; (with_reducible repeat (first | refine U ?_ _ | refine X ?_ | refine V ?_ _)); exact BK664.out) hb); have n8_ := G (F (g := gb665) (o := .cells #[.slice A1_0 l1_0.length c1_0, .int .i64 a1_1] 24 (0, 0)) (by (with_reducible repeat (first | refine U ?_ _ | refine X ?_ | refine V ?_ _)); refine blk_far ?_ NB665_688.out _; (with_reducible repeat (first | refine U ?_ _ | refine X ?_ | refine V ?_ _)); refine blk_far ?_ NB665_688.out _; (with_reducible repeat (first | refine U ?_ _ | refine X ?_ | refine V ?_ _)); exact BK665.out) hb); have n9_ := G (F (g := gb688) (o := .cells #[.slice Ao43 t682.length co43, .slice Ao47 t685.length co47] 39 (0, 0)) (by (with_reducible repeat (first | refine U ?_ _ | refine X ?_ | refine V ?_ _)); refine blk_put (cs := #[.slice Ao43 t682.length co43, .slice none 0 0]) ?_ 1 _ rfl; (with_reducible repeat (first | refine U ?_ _ | refine X ?_ | refine V ?_ _)); refine blk_put (cs := #[.slice none 0 0, .slice none 0 0]) ?_ 0 _ rfl; (with_reducible repeat (first | refine U ?_ _ | refine X ?_ | refine V ?_ _)); exact BK688.out) hb); have n10_ := G (GO (by repeat (first | (with_reducible first | exact HB.out | apply Z | apply T | apply Y | refine O ?_ GE664.out | refine O ?_ GE665.out | refine O ?_ GE688.out) | exact HB.out)) hb); clear HO670; clear HO673; clear HO676; clear HO680; clear HO684; clear HO687; clear BK664; clear BK665; clear BK688; clear HB; have HO670 := n0_; have HO673 := n1_; have HO676 := n2_; have HO680 := n3_; have HO684 := n4_; have HO687 := n5_; have HO691 := n6_; have BK664 := n7_; have BK665 := n8_; have BK688 := n9_; have HB := n10_; clear n0_ n1_ n2_ n3_ n4_ n5_ n6_ n7_ n8_ n9_ n10_; (try clear hb); (try clear hb2); (try clear hk); (try clear hi); (try clear ho0)) | ((with_reducible refine gate_dst (N := 9) rfl ?_); refine box_event ?hg (N := 9) ?hd (cs := #[.slice none 0 0, .int .i64 0]) (t := 27) ?hr ?_; (case hd => rfl); (case hg => rfl); (case hr => first | (go_simp; done) | (go_simp; rfl)); intro gb693 hg w50 hbox hb; have n0_ := G (B (by (with_reducible repeat (first | apply J | apply L | apply M)); exact HO670.out) hb); have n1_ := G (B (by (with_reducible repeat (first | apply J | apply L | apply M)); exact HO673.out) hb); have n2_ := G (B (by (with_reducible repeat (first | apply J | apply L | apply M)); exact HO676.out) hb); have n3_ := G (B (by (with_reducible repeat (first | apply J | apply L | apply M)); exact HO680.out) hb); have n4_ := G (B (by (with_reducible repeat (first | apply J | apply L | apply M)); exact HO684.out) hb); have n5_ := G (B (by (with_reducible repeat (first | apply J | apply L | apply M)); exact HO687.out) hb); have n6_ := G (B (by (with_reducible repeat (first | apply J | apply L | apply M)); exact HO691.out) hb); have n7_ := G (F (g := gb664) (o := .cells #[.slice A0_0 l0_0.length c0_0, .slice A0_1 l0_1.length c0_1] 33 (0, 0)) (by (with_reducible repeat (first | refine U ?_ _ | refine X ?_ | refine V ?_ _)); exact BK664.out) hb); have n8_ := G (F (g := gb665) (o := .cells #[.slice A1_0 l1_0.length c1_0, .int .i64 a1_1] 24 (0, 0)) (by (with_reducible repeat (first | refine U ?_ _ | refine X ?_ | refine V ?_ _)); exact BK665.out) hb); have n9_ := G (F (g := gb688) (o := .cells #[.slice Ao43 t682.length co43, .slice Ao47 t685.length co47] 39 (0, 0)) (by (with_reducible repeat (first | refine U ?_ _ | refine X ?_ | refine V ?_ _)); exact BK688.out) hb); have n10_ := G (GO (by repeat (first | (with_reducible first | exact HB.out | apply Z | apply T | apply Y | refine O ?_ GE664.out | refine O ?_ GE665.out | refine O ?_ GE688.out) | exact HB.out)) hb); have n11_ := G (hbox); have n12_ := G ((by rw [hg]; exact (GN (by repeat (first | (with_reducible first | exact HB.out | apply Z | apply T | apply Y | refine O ?_ GE664.out | refine O ?_ GE665.out | refine O ?_ GE688.out) | exact HB.out))) : w.heap.size ≤ gb693)); have n13_ := G ((by rw [hg]; exact (GN (by repeat (first | (with_reducible first | exact HB.out | apply Z | apply T | apply Y | refine O ?_ GE664.out | refine O ?_ GE665.out | refine O ?_ GE688.out) | exact HB.out))) : w.heap.size ≤ gb693)); have n14_ := G ((by rw [hg]; exact Nat.ne_of_lt (blk_lt (g := gb664) (o := .cells #[.slice A0_0 l0_0.length c0_0, .slice A0_1 l0_1.length c0_1] 33 (0, 0)) (by (with_reducible repeat (first | refine U ?_ _ | refine X ?_ | refine V ?_ _)); exact BK664.out)) : gb664 ≠ gb693)); have n15_ := G ((by rw [hg]; exact Nat.ne_of_gt (blk_lt (g := gb664) (o := .cells #[.slice A0_0 l0_0.length c0_0, .slice A0_1 l0_1.length c0_1] 33 (0, 0)) (by (with_reducible repeat (first | refine U ?_ _ | refine X ?_ | refine V ?_ _)); exact BK664.out)) : gb693 ≠ gb664)); have n16_ := G ((by rw [hg]; exact Nat.ne_of_lt (blk_lt (g := gb665) (o := .cells #[.slice A1_0 l1_0.length c1_0, .int .i64 a1_1] 24 (0, 0)) (by (with_reducible repeat (first | refine U ?_ _ | refine X ?_ | refine V ?_ _)); exact BK665.out)) : gb665 ≠ gb693)); have n17_ := G ((by rw [hg]; exact Nat.ne_of_gt (blk_lt (g := gb665) (o := .cells #[.slice A1_0 l1_0.length c1_0, .int .i64 a1_1] 24 (0, 0)) (by (with_reducible repeat (first | refine U ?_ _ | refine X ?_ | refine V ?_ _)); exact BK665.out)) : gb693 ≠ gb665)); have n18_ := G ((by rw [hg]; exact Nat.ne_of_lt (blk_lt (g := gb688) (o := .cells #[.slice Ao43 t682.length co43, .slice Ao47 t685.length co47] 39 (0, 0)) (by (with_reducible repeat (first | refine U ?_ _ | refine X ?_ | refine V ?_ _)); exact BK688.out)) : gb688 ≠ gb693)); have n19_ := G ((by rw [hg]; exact Nat.ne_of_gt (blk_lt (g := gb688) (o := .cells #[.slice Ao43 t682.length co43, .slice Ao47 t685.length co47] 39 (0, 0)) (by (with_reducible repeat (first | refine U ?_ _ | refine X ?_ | refine V ?_ _)); exact BK688.out)) : gb693 ≠ gb688)); clear HO670; clear HO673; clear HO676; clear HO680; clear HO684; clear HO687; clear HO691; clear BK664; clear BK665; clear BK688; clear HB; have HO670 := n0_; have HO673 := n1_; have HO676 := n2_; have HO680 := n3_; have HO684 := n4_; have HO687 := n5_; have HO691 := n6_; have BK664 := n7_; have BK665 := n8_; have BK688 := n9_; have HB := n10_; have BK693 := n11_; have GW693 := n12_; have GE693 := n13_; have NB664_693 := n14_; have NB693_664 := n15_; have NB665_693 := n16_; have NB693_665 := n17_; have NB688_693 := n18_; have NB693_688 := n19_; clear n0_ n1_ n2_ n3_ n4_ n5_ n6_ n7_ n8_ n9_ n10_ n11_ n12_ n13_ n14_ n15_ n16_ n17_ n18_ n19_; clear hb hbox hg; obtain ⟨Ao51, co51, eo51⟩ := Kd.R_slice HO691.out; subst eo51; have hnb52 := NB693_664.out; have hnc52 := NB664_693.out; have hnb53 := NB693_665.out; have hnc53 := NB665_693.out; have hnb54 := NB693_688.out; have hnc54 := NB688_693.out; have hcz55_0 : w50.cell? ⟨gb693, 0, none⟩ = some (.slice none 0 0) := (E BK693.out 0).trans rfl; have hcz55_1 : w50.cell? ⟨gb693, 1, none⟩ = some (.int .i64 0) := (E BK693.out 1).trans rfl; have hfz55_0 := GU BK693.out 0; have hfz55_1 := GU BK693.out 1; have hcz56_0 : w50.cell? ⟨gb688, 0, none⟩ = some (.slice Ao43 t682.length co43) := (E BK688.out 0).trans rfl; have hcz56_1 : w50.cell? ⟨gb688, 1, none⟩ = some (.slice Ao47 t685.length co47) := (E BK688.out 1).trans rfl; have hfz56_0 := GU BK688.out 0; have hfz56_1 := GU BK688.out 1) | ((with_reducible refine gate_callee (f := 50) rfl ?_); refine goesL_ (some 42) rfl rfl Try.func50 (by kernel_rfl) rfl #[.agg #[.slice Ao43 t682.length co43, .slice Ao47 t685.length co47], .agg #[.slice Ao51 t689.length co51, .int .i64 t692]] rfl (by (try simp only [List.map_toArray, List.map_cons, List.map_nil]); first | done | rfl | (simp only [List.length_drop, List.length_take]; rfl)) ?_; (with_reducible refine (impl_PushedWires.calls k _ _ t682 _ _ t685 _ _ t689 t692 t694 t697 _ ?side1 ?side2 ?side3 ?side4 ?side5 ?side6 A24.out).mono ?_); (case side1 => refine (Kd.R_reads' (e := 82) (base := w.heap.size) (ok := fun k_ => (True ∧ some k_ ≠ (.slice Ao36 t668.length co36 : Value).ownBlock)) (n := t682.length) (c := co43) ?_).2.2; exact (by (with_reducible repeat (first | apply J | apply L | apply M)); exact (P (D (p := ⟨gb693, 1, none⟩) (D (p := ⟨gb693, 0, none⟩) (I HO684.out BK693.out (by decide)) (fun _ hk => hk.2) (.slice Ao51 t689.length co51)) (fun _ hk => hk.2) (.int .i64 t692)) (fun _ h_ => h_.1)))); (case side2 => exact (Kd.R_reads' HO684.out).2.1); (case side3 => refine (Kd.R_reads' (e := 84) (base := w.heap.size) (ok := fun k_ => (True ∧ some k_ ≠ (.slice Ao37 t671.length co37 : Value).ownBlock)) (n := t685.length) (c := co47) ?_).2.2; exact (by (with_reducible repeat (first | apply J | apply L | apply M)); exact (P (D (p := ⟨gb693, 1, none⟩) (D (p := ⟨gb693, 0, none⟩) (I HO687.out BK693.out (by decide)) (fun _ hk => hk.2) (.slice Ao51 t689.length co51)) (fun _ hk => hk.2) (.int .i64 t692)) (fun _ h_ => h_.1)))); (case side4 => exact (Kd.R_reads' HO687.out).2.1); (case side5 => refine (Kd.R_reads' (e := 2) (base := w.heap.size) (ok := fun k_ => ((True ∧ some k_ ≠ (.slice Ao38 t674.length co38 : Value).ownBlock) ∧ some k_ ≠ (v679 : Value).ownBlock)) (n := t689.length) (c := co51) ?_).2.2; exact (by (with_reducible repeat (first | apply J | apply L | apply M)); exact (P (D (p := ⟨gb693, 1, none⟩) (D (p := ⟨gb693, 0, none⟩) (I HO691.out BK693.out (by decide)) (fun _ hk => hk.2) (.slice Ao51 t689.length co51)) (fun _ hk => hk.2) (.int .i64 t692)) (fun _ h_ => h_.1)))); (case side6 => exact (Kd.R_reads' HO691.out).2.1); rintro e w57 ⟨v695, rfl, ho0, hb⟩; refine ⟨_, rfl, ?_⟩; have n0_ := G (B (by (with_reducible repeat (first | apply J | apply L | apply M)); exact (P (D (p := ⟨gb693, 1, none⟩) (D (p := ⟨gb693, 0, none⟩) (I HO670.out BK693.out (by decide)) (fun _ hk => hk.2) (.slice Ao51 t689.length co51)) (fun _ hk => hk.2) (.int .i64 t692)) (fun _ h_ => h_.1))) hb); have n1_ := G (B (by (with_reducible repeat (first | apply J | apply L | apply M)); exact (P (D (p := ⟨gb693, 1, none⟩) (D (p := ⟨gb693, 0, none⟩) (I HO673.out BK693.out (by decide)) (fun _ hk => hk.2) (.slice Ao51 t689.length co51)) (fun _ hk => hk.2) (.int .i64 t692)) (fun _ h_ => h_.1))) hb); have n2_ := G (Kd.R_elder' (by (with_reducible repeat (first | apply J | apply L | apply M)); exact (P (D (p := ⟨gb693, 1, none⟩) (D (p := ⟨gb693, 0, none⟩) (I HO676.out BK693.out (by decide)) (fun _ hk => hk.2) (.slice Ao51 t689.length co51)) (fun _ hk => hk.2) (.int .i64 t692)) (fun _ h_ => h_.1))) (Kd.R_base ho0) hb); have n3_ := G (Kd.R_elder' (by (with_reducible repeat (first | apply J | apply L | apply M)); exact (P (D (p := ⟨gb693, 1, none⟩) (D (p := ⟨gb693, 0, none⟩) (I HO680.out BK693.out (by decide)) (fun _ hk => hk.2) (.slice Ao51 t689.length co51)) (fun _ hk => hk.2) (.int .i64 t692)) (fun _ h_ => h_.1))) (Kd.R_base ho0) hb); have n4_ := G (B (by (with_reducible repeat (first | apply J | apply L | apply M)); exact (P (D (p := ⟨gb693, 1, none⟩) (D (p := ⟨gb693, 0, none⟩) (I HO684.out BK693.out (by decide)) (fun _ hk => hk.2) (.slice Ao51 t689.length co51)) (fun _ hk => hk.2) (.int .i64 t692)) (fun _ h_ => h_.1))) hb); have n5_ := G (B (by (with_reducible repeat (first | apply J | apply L | apply M)); exact (P (D (p := ⟨gb693, 1, none⟩) (D (p := ⟨gb693, 0, none⟩) (I HO687.out BK693.out (by decide)) (fun _ hk => hk.2) (.slice Ao51 t689.length co51)) (fun _ hk => hk.2) (.int .i64 t692)) (fun _ h_ => h_.1))) hb); have n6_ := G (Kd.R_elder' (by (with_reducible repeat (first | apply J | apply L | apply M)); exact (P (D (p := ⟨gb693, 1, none⟩) (D (p := ⟨gb693, 0, none⟩) (I HO691.out BK693.out (by decide)) (fun _ hk => hk.2) (.slice Ao51 t689.length co51)) (fun _ hk => hk.2) (.int .i64 t692)) (fun _ h_ => h_.1))) (Kd.R_base ho0) hb); have n7_ := G (Kd.R_lower (GM (GM (GM ho0 (Kd.R_lt (by (with_reducible repeat (first | apply J | apply L | apply M)); exact (P (D (p := ⟨gb693, 1, none⟩) (D (p := ⟨gb693, 0, none⟩) (I HO676.out BK693.out (by decide)) (fun _ hk => hk.2) (.slice Ao51 t689.length co51)) (fun _ hk => hk.2) (.int .i64 t692)) (fun _ h_ => h_.1))))) (Kd.R_lt (by (with_reducible repeat (first | apply J | apply L | apply M)); exact (P (D (p := ⟨gb693, 1, none⟩) (D (p := ⟨gb693, 0, none⟩) (I HO680.out BK693.out (by decide)) (fun _ hk => hk.2) (.slice Ao51 t689.length co51)) (fun _ hk => hk.2) (.int .i64 t692)) (fun _ h_ => h_.1))))) (Kd.R_lt (by (with_reducible repeat (first | apply J | apply L | apply M)); exact (P (D (p := ⟨gb693, 1, none⟩) (D (p := ⟨gb693, 0, none⟩) (I HO691.out BK693.out (by decide)) (fun _ hk => hk.2) (.slice Ao51 t689.length co51)) (fun _ hk => hk.2) (.int .i64 t692)) (fun _ h_ => h_.1))))) (GN (by repeat (first | (with_reducible first | exact HB.out | apply Z | apply T | apply Y | refine O ?_ GE664.out | refine O ?_ GE665.out | refine O ?_ GE688.out | refine O ?_ GE693.out) | exact HB.out)))); have n8_ := G (F (g := gb664) (o := .cells #[.slice A0_0 l0_0.length c0_0, .slice A0_1 l0_1.length c0_1] 33 (0, 0)) (by (with_reducible repeat (first | refine U ?_ _ | refine X ?_ | refine V ?_ _)); refine blk_far ?_ NB664_693.out _; (with_reducible repeat (first | refine U ?_ _ | refine X ?_ | refine V ?_ _)); refine blk_far ?_ NB664_693.out _; (with_reducible repeat (first | refine U ?_ _ | refine X ?_ | refine V ?_ _)); exact BK664.out) hb); have n9_ := G (F (g := gb665) (o := .cells #[.slice A1_0 l1_0.length c1_0, .int .i64 a1_1] 24 (0, 0)) (by (with_reducible repeat (first | refine U ?_ _ | refine X ?_ | refine V ?_ _)); refine blk_far ?_ NB665_693.out _; (with_reducible repeat (first | refine U ?_ _ | refine X ?_ | refine V ?_ _)); refine blk_far ?_ NB665_693.out _; (with_reducible repeat (first | refine U ?_ _ | refine X ?_ | refine V ?_ _)); exact BK665.out) hb); have n10_ := G (F (g := gb688) (o := .cells #[.slice Ao43 t682.length co43, .slice Ao47 t685.length co47] 39 (0, 0)) (by (with_reducible repeat (first | refine U ?_ _ | refine X ?_ | refine V ?_ _)); refine blk_far ?_ NB688_693.out _; (with_reducible repeat (first | refine U ?_ _ | refine X ?_ | refine V ?_ _)); refine blk_far ?_ NB688_693.out _; (with_reducible repeat (first | refine U ?_ _ | refine X ?_ | refine V ?_ _)); exact BK688.out) hb); have n11_ := G (F (g := gb693) (o := .cells #[.slice Ao51 t689.length co51, .int .i64 t692] 27 (0, 0)) (by (with_reducible repeat (first | refine U ?_ _ | refine X ?_ | refine V ?_ _)); refine blk_put (cs := #[.slice Ao51 t689.length co51, .int .i64 0]) ?_ 1 _ rfl; (with_reducible repeat (first | refine U ?_ _ | refine X ?_ | refine V ?_ _)); refine blk_put (cs := #[.slice none 0 0, .int .i64 0]) ?_ 0 _ rfl; (with_reducible repeat (first | refine U ?_ _ | refine X ?_ | refine V ?_ _)); exact BK693.out) hb); have n12_ := G (GO (by repeat (first | (with_reducible first | exact HB.out | apply Z | apply T | apply Y | refine O ?_ GE664.out | refine O ?_ GE665.out | refine O ?_ GE688.out | refine O ?_ GE693.out) | exact HB.out)) hb); clear HO670; clear HO673; clear HO676; clear HO680; clear HO684; clear HO687; clear HO691; clear BK664; clear BK665; clear BK688; clear BK693; clear HB; have HO670 := n0_; have HO673 := n1_; have HO676 := n2_; have HO680 := n3_; have HO684 := n4_; have HO687 := n5_; have HO691 := n6_; have HO696 := n7_; have BK664 := n8_; have BK665 := n9_; have BK688 := n10_; have BK693 := n11_; have HB := n12_; clear n0_ n1_ n2_ n3_ n4_ n5_ n6_ n7_ n8_ n9_ n10_ n11_ n12_; (try clear hb); (try clear hb2); (try clear hk); (try clear hi); (try clear ho0)))
   (try simp only [Act.put, List.setIfInBounds_toArray, List.set_cons_zero, List.set_cons_succ])
   go_cut [53] (fun v53 wc => ∃ (kq : Nat) (x53_24 : Bool), v53 = .bool x53_24 ∧ Aside0 (laws_FnExactPushedWires.j0 kq t678 t681 t694 t697 x53_24 l0_0 l0_1 l1_0 a1_1 t682 t685 t689 t692 = some r) ∧ Aside0 (kq ≤ k) ∧ Aside0 (Kd.R (Kd.int .i64) 2 wc w.heap.size (fun k_ => some k_ ≠ (v695 : Value).ownBlock ∧ some k_ ≠ ((.slice Ao51 t689.length co51) : Value).ownBlock) v679 t678) ∧ Aside0 (Kd.R (Kd.int .i64) 2 wc w.heap.size (fun k_ => some k_ ≠ (v679 : Value).ownBlock ∧ some k_ ≠ ((.slice Ao51 t689.length co51) : Value).ownBlock) v695 t694) ∧ Aside0 (Kd.R k82 82 wc w.heap.size (fun _ => True) (.slice Ao43 t682.length co43) t682) ∧ Aside0 (Kd.R k84 84 wc w.heap.size (fun _ => True) (.slice Ao47 t685.length co47) t685) ∧ Aside0 (Kd.R (Kd.int .i64) 2 wc w.heap.size (fun k_ => some k_ ≠ (v679 : Value).ownBlock ∧ some k_ ≠ (v695 : Value).ownBlock) (.slice Ao51 t689.length co51) t689) ∧ Aside0 (wc.heap[gb664]? = some (.cells #[(.slice A0_0 l0_0.length c0_0), (.slice A0_1 l0_1.length c0_1)] 33 (0, 0))) ∧ Aside0 (wc.heap[gb665]? = some (.cells #[(.slice A1_0 l1_0.length c1_0), .int .i64 a1_1] 24 (0, 0))) ∧ Aside0 (wc.heap[gb688]? = some (.cells #[(.slice Ao43 t682.length co43), (.slice Ao47 t685.length co47)] 39 (0, 0))) ∧ Aside0 (wc.heap[gb693]? = some (.cells #[(.slice Ao51 t689.length co51), .int .i64 t692] 27 (0, 0))) ∧ Aside0 (Below w.heap.size w wc))
   case first =>
    have H := HC25.out
    clear HC25
    replace H := Option.bind_eq_some_iff.mp H
    obtain ⟨t698, A580, H⟩ := H
    replace H : (if t698 = true then (laws_FnExactPushedWires.j0 k t678 t681 t694 t697 (t697 != t681) l0_0 l0_1 l1_0 a1_1 t682 t685 t689 t692) else (laws_FnExactPushedWires.j0 k t678 t681 t694 t697 true l0_0 l0_1 l1_0 a1_1 t682 t685 t689 t692)) = some r := H
    have A58 := G A580
    clear A580
    by_cases c59 : t698 = true
    ·subst c59
     have H1 : (laws_FnExactPushedWires.j0 k t678 t681 t694 t697 (t697 != t681) l0_0 l0_1 l1_0 a1_1 t682 t685 t689 t692) = some r := by rw [if_pos rfl] at H; exact H
     clear H
     have H := H1
     clear H1
     have H' := G H
     clear H
     obtain ⟨Ao60, co60, eo60⟩ := Kd.R_slice HO696.out
     subst eo60
     obtain ⟨Ao61, co61, eo61⟩ := Kd.R_slice HO680.out
     subst eo61
     go_wp2_with (first | ((with_reducible refine gate_callee (f := 35) rfl ?_); refine goesL_ (some 47) rfl rfl Try.func35 (by kernel_rfl) rfl #[.slice Ao60 t694.length co60, .slice Ao61 t678.length co61] rfl (by (try simp only [List.map_toArray, List.map_cons, List.map_nil]); first | done | rfl | (simp only [List.length_drop, List.length_take]; rfl)) ?_; (with_reducible refine (laws_eqInt64S.calls k _ _ t694 _ _ t678 true _ ?side1 ?side2 ?side3 ?side4 A58.out).mono ?_); (case side1 => repeat (first | exact (Kd.R_reads' HO696.out).2.2 | (with_reducible refine GG ?_ _) | (with_reducible refine GJ ?_ _) | (with_reducible refine GL ?_))); (case side2 => exact (Kd.R_reads' HO696.out).2.1); (case side3 => repeat (first | exact (Kd.R_reads' HO680.out).2.2 | (with_reducible refine GG ?_ _) | (with_reducible refine GJ ?_ _) | (with_reducible refine GL ?_))); (case side4 => exact (Kd.R_reads' HO680.out).2.1); rintro e w' ⟨rfl, ⟨nd, rfl⟩⟩; refine ⟨_, rfl, ?_⟩))
     go_meet
     case rel => exact ⟨_, ((t697 != t681)), (by first | rfl | (simp; done) | (simp [*]; done)), H', ⟨by first | omega | exact Nat.le_refl _⟩, ⟨by (with_reducible repeat (first | apply J | apply L | apply M)); exact P HO680.out (fun _ hk => ⟨hk.2, hk.1.2⟩)⟩, ⟨by (with_reducible repeat (first | apply J | apply L | apply M)); exact P HO696.out (fun _ hk => ⟨hk.1.2, hk.2⟩)⟩, ⟨by (with_reducible repeat (first | apply J | apply L | apply M)); exact P HO684.out (fun _ hk => trivial)⟩, ⟨by (with_reducible repeat (first | apply J | apply L | apply M)); exact P HO687.out (fun _ hk => trivial)⟩, ⟨by (with_reducible repeat (first | apply J | apply L | apply M)); exact P HO691.out (fun _ hk => ⟨hk.1.2, hk.2⟩)⟩, ⟨by (with_reducible repeat (first | refine U ?_ _ | refine X ?_ | refine V ?_ _)); exact BK664.out⟩, ⟨by (with_reducible repeat (first | refine U ?_ _ | refine X ?_ | refine V ?_ _)); exact BK665.out⟩, ⟨by (with_reducible repeat (first | refine U ?_ _ | refine X ?_ | refine V ?_ _)); exact BK688.out⟩, ⟨by (with_reducible repeat (first | refine U ?_ _ | refine X ?_ | refine V ?_ _)); exact BK693.out⟩, ⟨by repeat (first | (with_reducible first | exact HB.out | apply Z | apply T | apply Y | refine O ?_ GE664.out | refine O ?_ GE665.out | refine O ?_ GE688.out | refine O ?_ GE693.out) | exact HB.out)⟩⟩
    ·replace c59 := Bool.eq_false_iff.mpr c59
     subst c59
     have H1 : (laws_FnExactPushedWires.j0 k t678 t681 t694 t697 true l0_0 l0_1 l1_0 a1_1 t682 t685 t689 t692) = some r := by rw [if_neg (show ¬ (false = true) by decide)] at H; exact H
     clear H
     have H := H1
     clear H1
     have H' := G H
     clear H
     obtain ⟨Ao62, co62, eo62⟩ := Kd.R_slice HO696.out
     subst eo62
     obtain ⟨Ao63, co63, eo63⟩ := Kd.R_slice HO680.out
     subst eo63
     go_wp2_with (first | ((with_reducible refine gate_callee (f := 35) rfl ?_); refine goesL_ (some 47) rfl rfl Try.func35 (by kernel_rfl) rfl #[.slice Ao62 t694.length co62, .slice Ao63 t678.length co63] rfl (by (try simp only [List.map_toArray, List.map_cons, List.map_nil]); first | done | rfl | (simp only [List.length_drop, List.length_take]; rfl)) ?_; (with_reducible refine (laws_eqInt64S.calls k _ _ t694 _ _ t678 false _ ?side1 ?side2 ?side3 ?side4 A58.out).mono ?_); (case side1 => repeat (first | exact (Kd.R_reads' HO696.out).2.2 | (with_reducible refine GG ?_ _) | (with_reducible refine GJ ?_ _) | (with_reducible refine GL ?_))); (case side2 => exact (Kd.R_reads' HO696.out).2.1); (case side3 => repeat (first | exact (Kd.R_reads' HO680.out).2.2 | (with_reducible refine GG ?_ _) | (with_reducible refine GJ ?_ _) | (with_reducible refine GL ?_))); (case side4 => exact (Kd.R_reads' HO680.out).2.1); rintro e w' ⟨rfl, ⟨nd, rfl⟩⟩; refine ⟨_, rfl, ?_⟩))
     go_meet
     case rel => exact ⟨_, (true), (by first | rfl | (simp; done) | (simp [*]; done)), H', ⟨by first | omega | exact Nat.le_refl _⟩, ⟨by (with_reducible repeat (first | apply J | apply L | apply M)); exact P HO680.out (fun _ hk => ⟨hk.2, hk.1.2⟩)⟩, ⟨by (with_reducible repeat (first | apply J | apply L | apply M)); exact P HO696.out (fun _ hk => ⟨hk.1.2, hk.2⟩)⟩, ⟨by (with_reducible repeat (first | apply J | apply L | apply M)); exact P HO684.out (fun _ hk => trivial)⟩, ⟨by (with_reducible repeat (first | apply J | apply L | apply M)); exact P HO687.out (fun _ hk => trivial)⟩, ⟨by (with_reducible repeat (first | apply J | apply L | apply M)); exact P HO691.out (fun _ hk => ⟨hk.1.2, hk.2⟩)⟩, ⟨by (with_reducible repeat (first | refine U ?_ _ | refine X ?_ | refine V ?_ _)); exact BK664.out⟩, ⟨by (with_reducible repeat (first | refine U ?_ _ | refine X ?_ | refine V ?_ _)); exact BK665.out⟩, ⟨by (with_reducible repeat (first | refine U ?_ _ | refine X ?_ | refine V ?_ _)); exact BK688.out⟩, ⟨by (with_reducible repeat (first | refine U ?_ _ | refine X ?_ | refine V ?_ _)); exact BK693.out⟩, ⟨by repeat (first | (with_reducible first | exact HB.out | apply Z | apply T | apply Y | refine O ?_ GE664.out | refine O ?_ GE665.out | refine O ?_ GE688.out | refine O ?_ GE693.out) | exact HB.out)⟩⟩
   case rest =>
    clear HC25
    try clear c1
    try clear c2
    try clear p2
    try clear c3
    try clear c4
    try clear c4b0
    try clear c5
    try clear c7
    try clear c11
    try clear c11b0
    try clear c12
    try clear c14
    try clear c16
    try clear c19
    try clear c21
    try clear c28
    try clear c35
    try clear c44
    try clear c45
    try clear c49
    try clear c50
    try clear c52
    try clear c53
    try clear c54
    try clear c59
    try clear hcz15_0
    try clear hcz15_1
    try clear hcz17_0
    try clear hcz17_1
    try clear hcz29_0
    try clear hcz29_1
    try clear hcz31_0
    try clear hcz31_1
    try clear hcz40_0
    try clear hcz40_1
    try clear hcz46_0
    try clear hcz46_1
    try clear hcz48_0
    try clear hcz48_1
    try clear hcz55_0
    try clear hcz55_1
    try clear hcz56_0
    try clear hcz56_1
    try clear hcz8_0
    try clear hcz8_1
    try clear hfz15_0
    try clear hfz15_1
    try clear hfz17_0
    try clear hfz17_1
    try clear hfz29_0
    try clear hfz29_1
    try clear hfz31_0
    try clear hfz31_1
    try clear hfz40_0
    try clear hfz40_1
    try clear hfz46_0
    try clear hfz46_1
    try clear hfz48_0
    try clear hfz48_1
    try clear hfz55_0
    try clear hfz55_1
    try clear hfz56_0
    try clear hfz56_1
    try clear hfz8_0
    try clear hfz8_1
    obtain ⟨kq, x53_24, rfl, HA, HJ24, HO_6, HO_10, HO_689000, HO_689001, HO_694000, BK664, BK665, BK688, BK693, HB⟩ := hcut
    cases kq with
    | zero => exact absurd HA.out (by simp [laws_FnExactPushedWires.j0])
    | succ kj24 =>
     have H := HA.out
     clear HA
     simp only [laws_FnExactPushedWires.j0] at H
     by_cases c64 : x53_24 = true
     ·subst c64
      have H1 : (some false) = some r := by rw [if_pos rfl] at H; exact H
      clear H
      have H := H1
      clear H1
      obtain rfl := Option.some.inj H
      go_wp2
      go_ret
      exact ⟨by first | rfl | (simp [errW_none, errW_some] <;> rfl) | (simp [*, errW_none, errW_some] <;> rfl), by repeat (first | (with_reducible first | exact HB.out | apply Z | apply T | apply Y | refine O ?_ GE664.out | refine O ?_ GE665.out | refine O ?_ GE688.out | refine O ?_ GE693.out) | exact HB.out)⟩
     ·replace c64 := Bool.eq_false_iff.mpr c64
      subst c64
      have H1 : ((laws_toFrame.f kj24 l0_0 l0_1).bind fun bt699 => ((laws_eqFrame.f kj24 t682 t685 bt699.1 bt699.2).bind fun t705 => (if t705 = true then ((laws_toDensities.f kj24 l1_0 a1_1).bind fun bt706 => ((laws_eqDensities.f kj24 t689 t692 bt706.1 bt706.2).bind fun t710 => (if t710 = true then ((laws_markFrame.f kj24 t682 t685 1).bind fun bt711 => ((laws_markDensities.f kj24 t689 t692 bt711.1).bind fun bt714 => (if bt714.1 < 0 then (laws_FnExactPushedWires.j1 kj24 t678 t681 t694 true l0_0 l0_1 l1_0 a1_1) else ((laws_eqInt64S.f kj24 t694 t678).bind fun t716 => (if t716 = true then (laws_FnExactPushedWires.j1 kj24 t678 t681 t694 (t697 != t681) l0_0 l0_1 l1_0 a1_1) else (laws_FnExactPushedWires.j1 kj24 t678 t681 t694 true l0_0 l0_1 l1_0 a1_1)))))) else (some false)))) else (some false)))) = some r := by rw [if_neg (show ¬ (false = true) by decide)] at H; exact H
      clear H
      have H := H1
      clear H1
      replace H := Option.bind_eq_some_iff.mp H
      obtain ⟨⟨t699, t702⟩, A650, H⟩ := H
      replace H : ((laws_eqFrame.f kj24 t682 t685 t699 t702).bind fun t705 => (if t705 = true then ((laws_toDensities.f kj24 l1_0 a1_1).bind fun bt706 => ((laws_eqDensities.f kj24 t689 t692 bt706.1 bt706.2).bind fun t710 => (if t710 = true then ((laws_markFrame.f kj24 t682 t685 1).bind fun bt711 => ((laws_markDensities.f kj24 t689 t692 bt711.1).bind fun bt714 => (if bt714.1 < 0 then (laws_FnExactPushedWires.j1 kj24 t678 t681 t694 true l0_0 l0_1 l1_0 a1_1) else ((laws_eqInt64S.f kj24 t694 t678).bind fun t716 => (if t716 = true then (laws_FnExactPushedWires.j1 kj24 t678 t681 t694 (t697 != t681) l0_0 l0_1 l1_0 a1_1) else (laws_FnExactPushedWires.j1 kj24 t678 t681 t694 true l0_0 l0_1 l1_0 a1_1)))))) else (some false)))) else (some false))) = some r := H
      have A65 := G A650
      clear A650
      replace H := Option.bind_eq_some_iff.mp H
      obtain ⟨t705, A660, H⟩ := H
      replace H : (if t705 = true then ((laws_toDensities.f kj24 l1_0 a1_1).bind fun bt706 => ((laws_eqDensities.f kj24 t689 t692 bt706.1 bt706.2).bind fun t710 => (if t710 = true then ((laws_markFrame.f kj24 t682 t685 1).bind fun bt711 => ((laws_markDensities.f kj24 t689 t692 bt711.1).bind fun bt714 => (if bt714.1 < 0 then (laws_FnExactPushedWires.j1 kj24 t678 t681 t694 true l0_0 l0_1 l1_0 a1_1) else ((laws_eqInt64S.f kj24 t694 t678).bind fun t716 => (if t716 = true then (laws_FnExactPushedWires.j1 kj24 t678 t681 t694 (t697 != t681) l0_0 l0_1 l1_0 a1_1) else (laws_FnExactPushedWires.j1 kj24 t678 t681 t694 true l0_0 l0_1 l1_0 a1_1)))))) else (some false)))) else (some false)) = some r := H
      have A66 := G A660
      clear A660
      by_cases c67 : t705 = true
      ·subst c67
       have H1 : ((laws_toDensities.f kj24 l1_0 a1_1).bind fun bt706 => ((laws_eqDensities.f kj24 t689 t692 bt706.1 bt706.2).bind fun t710 => (if t710 = true then ((laws_markFrame.f kj24 t682 t685 1).bind fun bt711 => ((laws_markDensities.f kj24 t689 t692 bt711.1).bind fun bt714 => (if bt714.1 < 0 then (laws_FnExactPushedWires.j1 kj24 t678 t681 t694 true l0_0 l0_1 l1_0 a1_1) else ((laws_eqInt64S.f kj24 t694 t678).bind fun t716 => (if t716 = true then (laws_FnExactPushedWires.j1 kj24 t678 t681 t694 (t697 != t681) l0_0 l0_1 l1_0 a1_1) else (laws_FnExactPushedWires.j1 kj24 t678 t681 t694 true l0_0 l0_1 l1_0 a1_1)))))) else (some false)))) = some r := by rw [if_pos rfl] at H; exact H
       clear H
       have H := H1
       clear H1
       replace H := Option.bind_eq_some_iff.mp H
       obtain ⟨⟨t706, t709⟩, A680, H⟩ := H
       replace H : ((laws_eqDensities.f kj24 t689 t692 t706 t709).bind fun t710 => (if t710 = true then ((laws_markFrame.f kj24 t682 t685 1).bind fun bt711 => ((laws_markDensities.f kj24 t689 t692 bt711.1).bind fun bt714 => (if bt714.1 < 0 then (laws_FnExactPushedWires.j1 kj24 t678 t681 t694 true l0_0 l0_1 l1_0 a1_1) else ((laws_eqInt64S.f kj24 t694 t678).bind fun t716 => (if t716 = true then (laws_FnExactPushedWires.j1 kj24 t678 t681 t694 (t697 != t681) l0_0 l0_1 l1_0 a1_1) else (laws_FnExactPushedWires.j1 kj24 t678 t681 t694 true l0_0 l0_1 l1_0 a1_1)))))) else (some false))) = some r := H
       have A68 := G A680
       clear A680
       replace H := Option.bind_eq_some_iff.mp H
       obtain ⟨t710, A690, H⟩ := H
       replace H : (if t710 = true then ((laws_markFrame.f kj24 t682 t685 1).bind fun bt711 => ((laws_markDensities.f kj24 t689 t692 bt711.1).bind fun bt714 => (if bt714.1 < 0 then (laws_FnExactPushedWires.j1 kj24 t678 t681 t694 true l0_0 l0_1 l1_0 a1_1) else ((laws_eqInt64S.f kj24 t694 t678).bind fun t716 => (if t716 = true then (laws_FnExactPushedWires.j1 kj24 t678 t681 t694 (t697 != t681) l0_0 l0_1 l1_0 a1_1) else (laws_FnExactPushedWires.j1 kj24 t678 t681 t694 true l0_0 l0_1 l1_0 a1_1)))))) else (some false)) = some r := H
       have A69 := G A690
       clear A690
       by_cases c70 : t710 = true
       ·subst c70
        have H1 : ((laws_markFrame.f kj24 t682 t685 1).bind fun bt711 => ((laws_markDensities.f kj24 t689 t692 bt711.1).bind fun bt714 => (if bt714.1 < 0 then (laws_FnExactPushedWires.j1 kj24 t678 t681 t694 true l0_0 l0_1 l1_0 a1_1) else ((laws_eqInt64S.f kj24 t694 t678).bind fun t716 => (if t716 = true then (laws_FnExactPushedWires.j1 kj24 t678 t681 t694 (t697 != t681) l0_0 l0_1 l1_0 a1_1) else (laws_FnExactPushedWires.j1 kj24 t678 t681 t694 true l0_0 l0_1 l1_0 a1_1)))))) = some r := by rw [if_pos rfl] at H; exact H
        clear H
        have H := H1
        clear H1
        replace H := Option.bind_eq_some_iff.mp H
        obtain ⟨⟨t711, t712, t713⟩, A710, H⟩ := H
        replace H : ((laws_markDensities.f kj24 t689 t692 t711).bind fun bt714 => (if bt714.1 < 0 then (laws_FnExactPushedWires.j1 kj24 t678 t681 t694 true l0_0 l0_1 l1_0 a1_1) else ((laws_eqInt64S.f kj24 t694 t678).bind fun t716 => (if t716 = true then (laws_FnExactPushedWires.j1 kj24 t678 t681 t694 (t697 != t681) l0_0 l0_1 l1_0 a1_1) else (laws_FnExactPushedWires.j1 kj24 t678 t681 t694 true l0_0 l0_1 l1_0 a1_1))))) = some r := H
        have A71 := G A710
        clear A710
        replace H := Option.bind_eq_some_iff.mp H
        obtain ⟨⟨t714, t715⟩, A720, H⟩ := H
        replace H : (if t714 < 0 then (laws_FnExactPushedWires.j1 kj24 t678 t681 t694 true l0_0 l0_1 l1_0 a1_1) else ((laws_eqInt64S.f kj24 t694 t678).bind fun t716 => (if t716 = true then (laws_FnExactPushedWires.j1 kj24 t678 t681 t694 (t697 != t681) l0_0 l0_1 l1_0 a1_1) else (laws_FnExactPushedWires.j1 kj24 t678 t681 t694 true l0_0 l0_1 l1_0 a1_1)))) = some r := H
        have A72 := G A720
        clear A720
        have HC73 := G H
        clear H
        try go_wp2
        have n0_ := G (M HO_6.out)
        have n1_ := G (M HO_10.out)
        have n2_ := G (M HO_689000.out)
        have n3_ := G (M HO_689001.out)
        have n4_ := G (M HO_694000.out)
        have n5_ := G (X BK664.out)
        have n6_ := G (X BK665.out)
        have n7_ := G (X BK688.out)
        have n8_ := G (X BK693.out)
        have n9_ := G (Y HB.out)
        clear HO_6
        clear HO_10
        clear HO_689000
        clear HO_689001
        clear HO_694000
        clear BK664
        clear BK665
        clear BK688
        clear BK693
        clear HB
        have HO_6 := n0_
        have HO_10 := n1_
        have HO_689000 := n2_
        have HO_689001 := n3_
        have HO_694000 := n4_
        have BK664 := n5_
        have BK665 := n6_
        have BK688 := n7_
        have BK693 := n8_
        have HB := n9_
        clear n0_ n1_ n2_ n3_ n4_ n5_ n6_ n7_ n8_ n9_
        refine start_ (n := 5) (S := fun w' => w'.cell? ⟨gb688, 0, none⟩ = some (.slice Ao43 t682.length co43) ∧ w'.cell? ⟨gb688, 1, none⟩ = some (.slice Ao47 t685.length co47) ∧ w'.cell? ⟨gb664, 0, none⟩ = some (.slice A0_0 l0_0.length c0_0) ∧ w'.cell? ⟨gb664, 1, none⟩ = some (.slice A0_1 l0_1.length c0_1)) (ds := []) #[n', n', n', n', n'] (by kernel_rfl) rfl rfl ⟨(E BK688.out 0).trans rfl, (E BK688.out 1).trans rfl, (E BK664.out 0).trans rfl, (E BK664.out 1).trans rfl⟩ (fun hHeld => ?_)
        generalize wc.drew = w74 at HO_6 HO_10 HO_689000 HO_689001 HO_694000 BK664 BK665 BK688 BK693 HB hHeld ⊢
        refine take_ (i := 0) (N := some 54) (v := ?_) (a' := ?_) #[y', n', n', n', n'] rfl rfl (by kernel_rfl) (fun _ _ _ h => h) (Or.inl ⟨by rfl, ?_⟩) hHeld ?_ ?_
        rotate_left
        ·rintro w' ⟨s0, s1, s2, s3⟩
         go_simp
         with_reducible rfl
        rotate_left
        ·simp only [Act.put, z1', z2', z3', i64_w, i32_w]
         rfl
        refine take_ (i := 1) (N := some 55) (v := ?_) (a' := ?_) #[y', y', n', n', n'] rfl rfl (by kernel_rfl) (fun _ _ _ h => h) (Or.inl ⟨by rfl, ?_⟩) hHeld ?_ ?_
        rotate_left
        ·rintro w' ⟨s0, s1, s2, s3⟩
         go_simp
         with_reducible rfl
        rotate_left
        ·simp only [Act.put, z1', z2', z3', i64_w, i32_w]
         rfl
        refine one_ (i := 2) (N := some 56) #[y', y', y', n', n'] rfl rfl (by kernel_rfl) (by decide) (fun K hK => ?_)
        refine goes_ Try.func21 (by kernel_rfl) rfl #[.agg #[.slice A0_0 l0_0.length c0_0, .slice A0_1 l0_1.length c0_1]] (by rfl) rfl rfl (by (try simp only [List.map_toArray, List.map_cons, List.map_nil]); first | done | rfl | (simp only [List.length_drop, List.length_take]; rfl)) ?_
        with_reducible refine (laws_toFrame.calls kj24 _ _ l0_0 _ _ l0_1 t699 t702 _ ?side1 ?side2 ?side3 ?side4 A65.out).mono ?_
        (case side1 => repeat (first | exact (GT HR0_0.out HB.out) | (with_reducible refine GG ?_ _) | (with_reducible refine GJ ?_ _) | (with_reducible refine GL ?_)))
        (case side2 => exact HC0_0.out)
        (case side3 => repeat (first | exact (GT HR0_1.out HB.out) | (with_reducible refine GG ?_ _) | (with_reducible refine GJ ?_ _) | (with_reducible refine GL ?_)))
        (case side4 => exact HC0_1.out)
        rintro e w75 ⟨v700, v703, rfl, ho0, ho1, hb⟩
        refine ⟨_, rfl, ?_⟩
        have n0_ := G (B (by (with_reducible repeat (first | apply J | apply L | apply M)); exact HO_6.out) hb)
        have n1_ := G (B (by (with_reducible repeat (first | apply J | apply L | apply M)); exact HO_10.out) hb)
        have n2_ := G (Kd.R_elder' (by (with_reducible repeat (first | apply J | apply L | apply M)); exact HO_689000.out) (Kd.R_base ho0) hb)
        have n3_ := G (Kd.R_elder' (by (with_reducible repeat (first | apply J | apply L | apply M)); exact HO_689001.out) (Kd.R_base ho1) hb)
        have n4_ := G (B (by (with_reducible repeat (first | apply J | apply L | apply M)); exact HO_694000.out) hb)
        have n5_ := G (Kd.R_lower (GM ho0 (Kd.R_lt (by (with_reducible repeat (first | apply J | apply L | apply M)); exact HO_689000.out))) (GN (by repeat (first | (with_reducible first | exact HB.out | apply Z | apply T | apply Y | refine O ?_ GE664.out | refine O ?_ GE665.out | refine O ?_ GE688.out | refine O ?_ GE693.out) | exact HB.out))))
        have n6_ := G (Kd.R_lower (GM ho1 (Kd.R_lt (by (with_reducible repeat (first | apply J | apply L | apply M)); exact HO_689001.out))) (GN (by repeat (first | (with_reducible first | exact HB.out | apply Z | apply T | apply Y | refine O ?_ GE664.out | refine O ?_ GE665.out | refine O ?_ GE688.out | refine O ?_ GE693.out) | exact HB.out))))
        have n7_ := G (F (g := gb664) (o := .cells #[.slice A0_0 l0_0.length c0_0, .slice A0_1 l0_1.length c0_1] 33 (0, 0)) (by (with_reducible repeat (first | refine U ?_ _ | refine X ?_ | refine V ?_ _)); exact BK664.out) hb)
        have n8_ := G (F (g := gb665) (o := .cells #[.slice A1_0 l1_0.length c1_0, .int .i64 a1_1] 24 (0, 0)) (by (with_reducible repeat (first | refine U ?_ _ | refine X ?_ | refine V ?_ _)); exact BK665.out) hb)
        have n9_ := G (F (g := gb688) (o := .cells #[.slice Ao43 t682.length co43, .slice Ao47 t685.length co47] 39 (0, 0)) (by (with_reducible repeat (first | refine U ?_ _ | refine X ?_ | refine V ?_ _)); exact BK688.out) hb)
        have n10_ := G (F (g := gb693) (o := .cells #[.slice Ao51 t689.length co51, .int .i64 t692] 27 (0, 0)) (by (with_reducible repeat (first | refine U ?_ _ | refine X ?_ | refine V ?_ _)); exact BK693.out) hb)
        have n11_ := G (GO (by repeat (first | (with_reducible first | exact HB.out | apply Z | apply T | apply Y | refine O ?_ GE664.out | refine O ?_ GE665.out | refine O ?_ GE688.out | refine O ?_ GE693.out) | exact HB.out)) hb)
        clear HO_6
        clear HO_10
        clear HO_689000
        clear HO_689001
        clear HO_694000
        clear BK664
        clear BK665
        clear BK688
        clear BK693
        clear HB
        have HO_6 := n0_
        have HO_10 := n1_
        have HO_689000 := n2_
        have HO_689001 := n3_
        have HO_694000 := n4_
        have HO701 := n5_
        have HO704 := n6_
        have BK664 := n7_
        have BK665 := n8_
        have BK688 := n9_
        have BK693 := n10_
        have HB := n11_
        clear n0_ n1_ n2_ n3_ n4_ n5_ n6_ n7_ n8_ n9_ n10_ n11_
        (try clear hb)
        (try clear hb2)
        (try clear hk)
        (try clear hi)
        (try clear ho0)
        (try clear ho1)
        obtain ⟨Ao76, co76, eo76⟩ := Kd.R_slice HO701.out
        (first | subst eo76 | (injection eo76 with f1_ f2_ f3_; have f4_ := f1_.symm; have f5_ := f3_.symm; clear f1_ f2_ f3_; subst f4_; subst f5_))
        obtain ⟨Ao77, co77, eo77⟩ := Kd.R_slice HO704.out
        (first | subst eo77 | (injection eo77 with f1_ f2_ f3_; have f4_ := f1_.symm; have f5_ := f3_.symm; clear f1_ f2_ f3_; subst f4_; subst f5_))
        refine hK.out _ _ ⟨(E BK688.out 0).trans rfl, (E BK688.out 1).trans rfl, (E BK664.out 0).trans rfl, (E BK664.out 1).trans rfl⟩ (fun hHeld => ?_)
        clear hK K
        refine norm_ (a' := ?_) ?_ ?_
        rotate_left
        ·show Act.put _ (some 56) _ = _
         simp only [Act.put, z1', z2', z3', i64_w, i32_w]
         rfl
        refine one_ (i := 3) (N := some 57) #[y', y', y', y', n'] rfl rfl (by kernel_rfl) (by decide) (fun K hK => ?_)
        refine goes_ Try.func23 (by kernel_rfl) rfl #[.agg #[.slice Ao43 t682.length co43, .slice Ao47 t685.length co47], .agg #[.slice Ao76 t699.length co76, .slice Ao77 t702.length co77]] (by rfl) rfl rfl (by (try simp only [List.map_toArray, List.map_cons, List.map_nil]); first | done | rfl | (simp only [List.length_drop, List.length_take]; rfl)) ?_
        with_reducible refine (laws_eqFrame.calls kj24 _ _ t682 _ _ t685 _ _ t699 _ _ t702 true _ ?side1 ?side2 ?side3 ?side4 ?side5 ?side6 ?side7 ?side8 A66.out).mono ?_
        (case side1 => repeat (first | exact (Kd.R_reads' HO_689000.out).2.2 | (with_reducible refine GG ?_ _) | (with_reducible refine GJ ?_ _) | (with_reducible refine GL ?_)))
        (case side2 => exact (Kd.R_reads' HO_689000.out).2.1)
        (case side3 => repeat (first | exact (Kd.R_reads' HO_689001.out).2.2 | (with_reducible refine GG ?_ _) | (with_reducible refine GJ ?_ _) | (with_reducible refine GL ?_)))
        (case side4 => exact (Kd.R_reads' HO_689001.out).2.1)
        (case side5 => repeat (first | exact (Kd.R_reads' HO701.out).2.2 | (with_reducible refine GG ?_ _) | (with_reducible refine GJ ?_ _) | (with_reducible refine GL ?_)))
        (case side6 => exact (Kd.R_reads' HO701.out).2.1)
        (case side7 => repeat (first | exact (Kd.R_reads' HO704.out).2.2 | (with_reducible refine GG ?_ _) | (with_reducible refine GJ ?_ _) | (with_reducible refine GL ?_)))
        (case side8 => exact (Kd.R_reads' HO704.out).2.1)
        rintro e w78 ⟨rfl, hb⟩
        refine ⟨_, rfl, ?_⟩
        have n0_ := G (B (by (with_reducible repeat (first | apply J | apply L | apply M)); exact HO_6.out) hb)
        have n1_ := G (B (by (with_reducible repeat (first | apply J | apply L | apply M)); exact HO_10.out) hb)
        have n2_ := G (B (by (with_reducible repeat (first | apply J | apply L | apply M)); exact HO_689000.out) hb)
        have n3_ := G (B (by (with_reducible repeat (first | apply J | apply L | apply M)); exact HO_689001.out) hb)
        have n4_ := G (B (by (with_reducible repeat (first | apply J | apply L | apply M)); exact HO_694000.out) hb)
        have n5_ := G (B (by (with_reducible repeat (first | apply J | apply L | apply M)); exact HO701.out) hb)
        have n6_ := G (B (by (with_reducible repeat (first | apply J | apply L | apply M)); exact HO704.out) hb)
        have n7_ := G (F (g := gb664) (o := .cells #[.slice A0_0 l0_0.length c0_0, .slice A0_1 l0_1.length c0_1] 33 (0, 0)) (by (with_reducible repeat (first | refine U ?_ _ | refine X ?_ | refine V ?_ _)); exact BK664.out) hb)
        have n8_ := G (F (g := gb665) (o := .cells #[.slice A1_0 l1_0.length c1_0, .int .i64 a1_1] 24 (0, 0)) (by (with_reducible repeat (first | refine U ?_ _ | refine X ?_ | refine V ?_ _)); exact BK665.out) hb)
        have n9_ := G (F (g := gb688) (o := .cells #[.slice Ao43 t682.length co43, .slice Ao47 t685.length co47] 39 (0, 0)) (by (with_reducible repeat (first | refine U ?_ _ | refine X ?_ | refine V ?_ _)); exact BK688.out) hb)
        have n10_ := G (F (g := gb693) (o := .cells #[.slice Ao51 t689.length co51, .int .i64 t692] 27 (0, 0)) (by (with_reducible repeat (first | refine U ?_ _ | refine X ?_ | refine V ?_ _)); exact BK693.out) hb)
        have n11_ := G (GO (by repeat (first | (with_reducible first | exact HB.out | apply Z | apply T | apply Y | refine O ?_ GE664.out | refine O ?_ GE665.out | refine O ?_ GE688.out | refine O ?_ GE693.out) | exact HB.out)) hb)
        clear HO_6
        clear HO_10
        clear HO_689000
        clear HO_689001
        clear HO_694000
        clear HO701
        clear HO704
        clear BK664
        clear BK665
        clear BK688
        clear BK693
        clear HB
        have HO_6 := n0_
        have HO_10 := n1_
        have HO_689000 := n2_
        have HO_689001 := n3_
        have HO_694000 := n4_
        have HO701 := n5_
        have HO704 := n6_
        have BK664 := n7_
        have BK665 := n8_
        have BK688 := n9_
        have BK693 := n10_
        have HB := n11_
        clear n0_ n1_ n2_ n3_ n4_ n5_ n6_ n7_ n8_ n9_ n10_ n11_
        (try clear hb)
        (try clear hb2)
        (try clear hk)
        (try clear hi)
        refine hK.out _ _ ⟨(E BK688.out 0).trans rfl, (E BK688.out 1).trans rfl, (E BK664.out 0).trans rfl, (E BK664.out 1).trans rfl⟩ (fun hHeld => ?_)
        clear hK K
        refine norm_ (a' := ?_) ?_ ?_
        rotate_left
        ·show Act.put _ (some 57) _ = _
         simp only [Act.put, z1', z2', z3', i64_w, i32_w]
         rfl
        refine pure_ (i := 4) (N := some 58) (v := ?_) (a' := ?_) #[y', y', y', y', y'] rfl rfl (by kernel_rfl) (fun _ _ _ h => h) (Or.inl ⟨by rfl, ?_⟩) ?_ ?_
        rotate_left
        ·intro w'
         go_simp
         with_reducible rfl
        rotate_left
        ·simp only [Act.put, z1', z2', z3', i64_w, i32_w]
         rfl
        refine done_ (by kernel_rfl) ?_
        try go_wp2
        have n0_ := G (M HO_6.out)
        have n1_ := G (M HO_10.out)
        have n2_ := G (M HO_689000.out)
        have n3_ := G (M HO_689001.out)
        have n4_ := G (M HO_694000.out)
        have n5_ := G (M HO701.out)
        have n6_ := G (M HO704.out)
        have n7_ := G (X BK664.out)
        have n8_ := G (X BK665.out)
        have n9_ := G (X BK688.out)
        have n10_ := G (X BK693.out)
        have n11_ := G (Y HB.out)
        clear HO_6
        clear HO_10
        clear HO_689000
        clear HO_689001
        clear HO_694000
        clear HO701
        clear HO704
        clear BK664
        clear BK665
        clear BK688
        clear BK693
        clear HB
        have HO_6 := n0_
        have HO_10 := n1_
        have HO_689000 := n2_
        have HO_689001 := n3_
        have HO_694000 := n4_
        have HO701 := n5_
        have HO704 := n6_
        have BK664 := n7_
        have BK665 := n8_
        have BK688 := n9_
        have BK693 := n10_
        have HB := n11_
        clear n0_ n1_ n2_ n3_ n4_ n5_ n6_ n7_ n8_ n9_ n10_ n11_
        refine start_ (n := 5) (S := fun w' => w'.cell? ⟨gb693, 0, none⟩ = some (.slice Ao51 t689.length co51) ∧ w'.cell? ⟨gb693, 1, none⟩ = some (.int .i64 t692) ∧ w'.cell? ⟨gb665, 0, none⟩ = some (.slice A1_0 l1_0.length c1_0) ∧ w'.cell? ⟨gb665, 1, none⟩ = some (.int .i64 a1_1)) (ds := []) #[n', n', n', n', n'] (by kernel_rfl) rfl rfl ⟨(E BK693.out 0).trans rfl, (E BK693.out 1).trans rfl, (E BK665.out 0).trans rfl, (E BK665.out 1).trans rfl⟩ (fun hHeld => ?_)
        generalize w78.drew = w79 at HO_6 HO_10 HO_689000 HO_689001 HO_694000 HO701 HO704 BK664 BK665 BK688 BK693 HB hHeld ⊢
        refine take_ (i := 0) (N := some 59) (v := ?_) (a' := ?_) #[y', n', n', n', n'] rfl rfl (by kernel_rfl) (fun _ _ _ h => h) (Or.inl ⟨by rfl, ?_⟩) hHeld ?_ ?_
        rotate_left
        ·rintro w' ⟨s0, s1, s2, s3⟩
         go_simp
         with_reducible rfl
        rotate_left
        ·simp only [Act.put, z1', z2', z3', i64_w, i32_w]
         rfl
        refine take_ (i := 1) (N := some 60) (v := ?_) (a' := ?_) #[y', y', n', n', n'] rfl rfl (by kernel_rfl) (fun _ _ _ h => h) (Or.inl ⟨by rfl, ?_⟩) hHeld ?_ ?_
        rotate_left
        ·rintro w' ⟨s0, s1, s2, s3⟩
         go_simp
         with_reducible rfl
        rotate_left
        ·simp only [Act.put, z1', z2', z3', i64_w, i32_w]
         rfl
        refine one_ (i := 2) (N := some 61) #[y', y', y', n', n'] rfl rfl (by kernel_rfl) (by decide) (fun K hK => ?_)
        refine goes_ Try.func16 (by kernel_rfl) rfl #[.agg #[.slice A1_0 l1_0.length c1_0, .int .i64 a1_1]] (by rfl) rfl rfl (by (try simp only [List.map_toArray, List.map_cons, List.map_nil]); first | done | rfl | (simp only [List.length_drop, List.length_take]; rfl)) ?_
        with_reducible refine (laws_toDensities.calls kj24 _ _ l1_0 a1_1 t706 t709 _ ?side1 ?side2 A68.out).mono ?_
        (case side1 => repeat (first | exact (GT HR1_0.out HB.out) | (with_reducible refine GG ?_ _) | (with_reducible refine GJ ?_ _) | (with_reducible refine GL ?_)))
        (case side2 => exact HC1_0.out)
        rintro e w80 ⟨v707, rfl, ho0, hb⟩
        refine ⟨_, rfl, ?_⟩
        have n0_ := G (Kd.R_elder' (by (with_reducible repeat (first | apply J | apply L | apply M)); exact HO_6.out) (Kd.R_base ho0) hb)
        have n1_ := G (Kd.R_elder' (by (with_reducible repeat (first | apply J | apply L | apply M)); exact HO_10.out) (Kd.R_base ho0) hb)
        have n2_ := G (B (by (with_reducible repeat (first | apply J | apply L | apply M)); exact HO_689000.out) hb)
        have n3_ := G (B (by (with_reducible repeat (first | apply J | apply L | apply M)); exact HO_689001.out) hb)
        have n4_ := G (Kd.R_elder' (by (with_reducible repeat (first | apply J | apply L | apply M)); exact HO_694000.out) (Kd.R_base ho0) hb)
        have n5_ := G (B (by (with_reducible repeat (first | apply J | apply L | apply M)); exact HO701.out) hb)
        have n6_ := G (B (by (with_reducible repeat (first | apply J | apply L | apply M)); exact HO704.out) hb)
        have n7_ := G (Kd.R_lower (GM (GM (GM ho0 (Kd.R_lt (by (with_reducible repeat (first | apply J | apply L | apply M)); exact HO_6.out))) (Kd.R_lt (by (with_reducible repeat (first | apply J | apply L | apply M)); exact HO_10.out))) (Kd.R_lt (by (with_reducible repeat (first | apply J | apply L | apply M)); exact HO_694000.out))) (GN (by repeat (first | (with_reducible first | exact HB.out | apply Z | apply T | apply Y | refine O ?_ GE664.out | refine O ?_ GE665.out | refine O ?_ GE688.out | refine O ?_ GE693.out) | exact HB.out))))
        have n8_ := G (F (g := gb664) (o := .cells #[.slice A0_0 l0_0.length c0_0, .slice A0_1 l0_1.length c0_1] 33 (0, 0)) (by (with_reducible repeat (first | refine U ?_ _ | refine X ?_ | refine V ?_ _)); exact BK664.out) hb)
        have n9_ := G (F (g := gb665) (o := .cells #[.slice A1_0 l1_0.length c1_0, .int .i64 a1_1] 24 (0, 0)) (by (with_reducible repeat (first | refine U ?_ _ | refine X ?_ | refine V ?_ _)); exact BK665.out) hb)
        have n10_ := G (F (g := gb688) (o := .cells #[.slice Ao43 t682.length co43, .slice Ao47 t685.length co47] 39 (0, 0)) (by (with_reducible repeat (first | refine U ?_ _ | refine X ?_ | refine V ?_ _)); exact BK688.out) hb)
        have n11_ := G (F (g := gb693) (o := .cells #[.slice Ao51 t689.length co51, .int .i64 t692] 27 (0, 0)) (by (with_reducible repeat (first | refine U ?_ _ | refine X ?_ | refine V ?_ _)); exact BK693.out) hb)
        have n12_ := G (GO (by repeat (first | (with_reducible first | exact HB.out | apply Z | apply T | apply Y | refine O ?_ GE664.out | refine O ?_ GE665.out | refine O ?_ GE688.out | refine O ?_ GE693.out) | exact HB.out)) hb)
        clear HO_6
        clear HO_10
        clear HO_689000
        clear HO_689001
        clear HO_694000
        clear HO701
        clear HO704
        clear BK664
        clear BK665
        clear BK688
        clear BK693
        clear HB
        have HO_6 := n0_
        have HO_10 := n1_
        have HO_689000 := n2_
        have HO_689001 := n3_
        have HO_694000 := n4_
        have HO701 := n5_
        have HO704 := n6_
        have HO708 := n7_
        have BK664 := n8_
        have BK665 := n9_
        have BK688 := n10_
        have BK693 := n11_
        have HB := n12_
        clear n0_ n1_ n2_ n3_ n4_ n5_ n6_ n7_ n8_ n9_ n10_ n11_ n12_
        (try clear hb)
        (try clear hb2)
        (try clear hk)
        (try clear hi)
        (try clear ho0)
        obtain ⟨Ao81, co81, eo81⟩ := Kd.R_slice HO708.out
        (first | subst eo81 | (injection eo81 with f1_ f2_ f3_; have f4_ := f1_.symm; have f5_ := f3_.symm; clear f1_ f2_ f3_; subst f4_; subst f5_))
        refine hK.out _ _ ⟨(E BK693.out 0).trans rfl, (E BK693.out 1).trans rfl, (E BK665.out 0).trans rfl, (E BK665.out 1).trans rfl⟩ (fun hHeld => ?_)
        clear hK K
        refine norm_ (a' := ?_) ?_ ?_
        rotate_left
        ·show Act.put _ (some 61) _ = _
         simp only [Act.put, z1', z2', z3', i64_w, i32_w]
         rfl
        refine one_ (i := 3) (N := some 62) #[y', y', y', y', n'] rfl rfl (by kernel_rfl) (by decide) (fun K hK => ?_)
        refine goes_ Try.func18 (by kernel_rfl) rfl #[.agg #[.slice Ao51 t689.length co51, .int .i64 t692], .agg #[.slice Ao81 t706.length co81, .int .i64 t709]] (by rfl) rfl rfl (by (try simp only [List.map_toArray, List.map_cons, List.map_nil]); first | done | rfl | (simp only [List.length_drop, List.length_take]; rfl)) ?_
        with_reducible refine (laws_eqDensities.calls kj24 _ _ t689 t692 _ _ t706 t709 true _ ?side1 ?side2 ?side3 ?side4 A69.out).mono ?_
        (case side1 => repeat (first | exact (Kd.R_reads' HO_694000.out).2.2 | (with_reducible refine GG ?_ _) | (with_reducible refine GJ ?_ _) | (with_reducible refine GL ?_)))
        (case side2 => exact (Kd.R_reads' HO_694000.out).2.1)
        (case side3 => repeat (first | exact (Kd.R_reads' HO708.out).2.2 | (with_reducible refine GG ?_ _) | (with_reducible refine GJ ?_ _) | (with_reducible refine GL ?_)))
        (case side4 => exact (Kd.R_reads' HO708.out).2.1)
        rintro e w82 ⟨rfl, hb⟩
        refine ⟨_, rfl, ?_⟩
        have n0_ := G (B (by (with_reducible repeat (first | apply J | apply L | apply M)); exact HO_6.out) hb)
        have n1_ := G (B (by (with_reducible repeat (first | apply J | apply L | apply M)); exact HO_10.out) hb)
        have n2_ := G (B (by (with_reducible repeat (first | apply J | apply L | apply M)); exact HO_689000.out) hb)
        have n3_ := G (B (by (with_reducible repeat (first | apply J | apply L | apply M)); exact HO_689001.out) hb)
        have n4_ := G (B (by (with_reducible repeat (first | apply J | apply L | apply M)); exact HO_694000.out) hb)
        have n5_ := G (B (by (with_reducible repeat (first | apply J | apply L | apply M)); exact HO701.out) hb)
        have n6_ := G (B (by (with_reducible repeat (first | apply J | apply L | apply M)); exact HO704.out) hb)
        have n7_ := G (B (by (with_reducible repeat (first | apply J | apply L | apply M)); exact HO708.out) hb)
        have n8_ := G (F (g := gb664) (o := .cells #[.slice A0_0 l0_0.length c0_0, .slice A0_1 l0_1.length c0_1] 33 (0, 0)) (by (with_reducible repeat (first | refine U ?_ _ | refine X ?_ | refine V ?_ _)); exact BK664.out) hb)
        have n9_ := G (F (g := gb665) (o := .cells #[.slice A1_0 l1_0.length c1_0, .int .i64 a1_1] 24 (0, 0)) (by (with_reducible repeat (first | refine U ?_ _ | refine X ?_ | refine V ?_ _)); exact BK665.out) hb)
        have n10_ := G (F (g := gb688) (o := .cells #[.slice Ao43 t682.length co43, .slice Ao47 t685.length co47] 39 (0, 0)) (by (with_reducible repeat (first | refine U ?_ _ | refine X ?_ | refine V ?_ _)); exact BK688.out) hb)
        have n11_ := G (F (g := gb693) (o := .cells #[.slice Ao51 t689.length co51, .int .i64 t692] 27 (0, 0)) (by (with_reducible repeat (first | refine U ?_ _ | refine X ?_ | refine V ?_ _)); exact BK693.out) hb)
        have n12_ := G (GO (by repeat (first | (with_reducible first | exact HB.out | apply Z | apply T | apply Y | refine O ?_ GE664.out | refine O ?_ GE665.out | refine O ?_ GE688.out | refine O ?_ GE693.out) | exact HB.out)) hb)
        clear HO_6
        clear HO_10
        clear HO_689000
        clear HO_689001
        clear HO_694000
        clear HO701
        clear HO704
        clear HO708
        clear BK664
        clear BK665
        clear BK688
        clear BK693
        clear HB
        have HO_6 := n0_
        have HO_10 := n1_
        have HO_689000 := n2_
        have HO_689001 := n3_
        have HO_694000 := n4_
        have HO701 := n5_
        have HO704 := n6_
        have HO708 := n7_
        have BK664 := n8_
        have BK665 := n9_
        have BK688 := n10_
        have BK693 := n11_
        have HB := n12_
        clear n0_ n1_ n2_ n3_ n4_ n5_ n6_ n7_ n8_ n9_ n10_ n11_ n12_
        (try clear hb)
        (try clear hb2)
        (try clear hk)
        (try clear hi)
        refine hK.out _ _ ⟨(E BK693.out 0).trans rfl, (E BK693.out 1).trans rfl, (E BK665.out 0).trans rfl, (E BK665.out 1).trans rfl⟩ (fun hHeld => ?_)
        clear hK K
        refine norm_ (a' := ?_) ?_ ?_
        rotate_left
        ·show Act.put _ (some 62) _ = _
         simp only [Act.put, z1', z2', z3', i64_w, i32_w]
         rfl
        refine pure_ (i := 4) (N := some 63) (v := ?_) (a' := ?_) #[y', y', y', y', y'] rfl rfl (by kernel_rfl) (fun _ _ _ h => h) (Or.inl ⟨by rfl, ?_⟩) ?_ ?_
        rotate_left
        ·intro w'
         go_simp
         with_reducible rfl
        rotate_left
        ·simp only [Act.put, z1', z2', z3', i64_w, i32_w]
         rfl
        refine done_ (by kernel_rfl) ?_
        have hnb83 := NB688_664.out
        have hnc83 := NB664_688.out
        have hnb84 := NB688_665.out
        have hnc84 := NB665_688.out
        have hnb85 := NB688_693.out
        have hnc85 := NB693_688.out
        have hcz86_0 : w82.cell? ⟨gb688, 0, none⟩ = some (.slice Ao43 t682.length co43) := (E BK688.out 0).trans rfl
        have hcz86_1 : w82.cell? ⟨gb688, 1, none⟩ = some (.slice Ao47 t685.length co47) := (E BK688.out 1).trans rfl
        have hfz86_0 := GU BK688.out 0
        have hfz86_1 := GU BK688.out 1
        go_upto_region 21 with (first | ((with_reducible refine gate_callee (f := 36) rfl ?_); refine goesL_ (some 66) rfl rfl Try.func36 (by kernel_rfl) rfl #[.agg #[.slice Ao43 t682.length co43, .slice Ao47 t685.length co47], .int .i64 1] rfl (by (try simp only [List.map_toArray, List.map_cons, List.map_nil]); first | done | rfl | (simp only [List.length_drop, List.length_take]; rfl)) ?_; (with_reducible refine (laws_markFrame.calls kj24 (fun k_ => some k_ = (.slice Ao43 t682.length co43 : Value).ownBlock) (.slice Ao43 t682.length co43) t682 (fun k_ => some k_ = (.slice Ao47 t685.length co47 : Value).ownBlock) (.slice Ao47 t685.length co47) t685 1 t711 t712 t713 w _ ?side1 ?side2 ?side3 A71.out).mono ?_); (case side1 => repeat (first | (with_reducible first | exact HB.out | apply Z | apply T | apply Y | refine O ?_ GE664.out | refine O ?_ GE665.out | refine O ?_ GE688.out | refine O ?_ GE693.out) | exact HB.out)); (case side2 => exact Kd.R_tight rfl HO_689000.out); (case side3 => exact Kd.R_tight rfl HO_689001.out); rintro e w87 ⟨rfl, hy0, hy1, hb, hkp⟩; refine ⟨_, rfl, ?_⟩; have n0_ := G (P (ok' := fun k_ => some k_ ≠ (v695 : Value).ownBlock ∧ some k_ ≠ (.slice Ao51 t689.length co51 : Value).ownBlock ∧ some k_ ≠ (.slice Ao81 t706.length co81 : Value).ownBlock) (Kd.R_keptB ((Kd.R_apart' (Kd.R_apart' HO_6.out (Kd.R_typed HO_689000.out) (by decide)) (Kd.R_typed HO_689001.out) (by decide))) hkp (fun k_ hk_ hs_ => Or.elim hs_ (fun e_ => (hk_.1.2) e_) (fun e_ => (hk_.2) e_))) (fun k_ hk_ => ⟨hk_.1.1.1.1.1, hk_.1.1.1.1.2, hk_.1.1.1.2⟩)); have n1_ := G (P (ok' := fun k_ => some k_ ≠ (v679 : Value).ownBlock ∧ some k_ ≠ (.slice Ao51 t689.length co51 : Value).ownBlock ∧ some k_ ≠ (.slice Ao81 t706.length co81 : Value).ownBlock) (Kd.R_keptB ((Kd.R_apart' (Kd.R_apart' HO_10.out (Kd.R_typed HO_689000.out) (by decide)) (Kd.R_typed HO_689001.out) (by decide))) hkp (fun k_ hk_ hs_ => Or.elim hs_ (fun e_ => (hk_.1.2) e_) (fun e_ => (hk_.2) e_))) (fun k_ hk_ => ⟨hk_.1.1.1.1.1, hk_.1.1.1.1.2, hk_.1.1.1.2⟩)); have n2_ := G (Kd.R_reok rfl hy0 (fun k_ e_ => HO_689000.out.1 k_ e_)); have n3_ := G (Kd.R_reok rfl hy1 (fun k_ e_ => HO_689001.out.1 k_ e_)); have n4_ := G (P (ok' := fun k_ => some k_ ≠ (v679 : Value).ownBlock ∧ some k_ ≠ (v695 : Value).ownBlock ∧ some k_ ≠ (.slice Ao81 t706.length co81 : Value).ownBlock) (Kd.R_keptB ((Kd.R_apart' (Kd.R_apart' HO_694000.out (Kd.R_typed HO_689000.out) (by decide)) (Kd.R_typed HO_689001.out) (by decide))) hkp (fun k_ hk_ hs_ => Or.elim hs_ (fun e_ => (hk_.1.2) e_) (fun e_ => (hk_.2) e_))) (fun k_ hk_ => ⟨hk_.1.1.1.1.1, hk_.1.1.1.1.2, hk_.1.1.1.2⟩)); have n5_ := G (blk_kept (by (with_reducible repeat (first | refine U ?_ _ | refine X ?_ | refine V ?_ _)); exact BK664.out) hkp (fun hs_ => Or.elim hs_ (fun e_ => (fun e_ => (Kd.R_ne HO_689000.out BK664.out (by decide)) e_) e_) (fun e_ => (fun e_ => (Kd.R_ne HO_689001.out BK664.out (by decide)) e_) e_))); have n6_ := G (blk_kept (by (with_reducible repeat (first | refine U ?_ _ | refine X ?_ | refine V ?_ _)); exact BK665.out) hkp (fun hs_ => Or.elim hs_ (fun e_ => (fun e_ => (Kd.R_ne HO_689000.out BK665.out (by decide)) e_) e_) (fun e_ => (fun e_ => (Kd.R_ne HO_689001.out BK665.out (by decide)) e_) e_))); have n7_ := G (blk_kept (by (with_reducible repeat (first | refine U ?_ _ | refine X ?_ | refine V ?_ _)); exact BK688.out) hkp (fun hs_ => Or.elim hs_ (fun e_ => (fun e_ => (Kd.R_ne HO_689000.out BK688.out (by decide)) e_) e_) (fun e_ => (fun e_ => (Kd.R_ne HO_689001.out BK688.out (by decide)) e_) e_))); have n8_ := G (blk_kept (by (with_reducible repeat (first | refine U ?_ _ | refine X ?_ | refine V ?_ _)); exact BK693.out) hkp (fun hs_ => Or.elim hs_ (fun e_ => (fun e_ => (Kd.R_ne HO_689000.out BK693.out (by decide)) e_) e_) (fun e_ => (fun e_ => (Kd.R_ne HO_689001.out BK693.out (by decide)) e_) e_))); have n9_ := G (P (ok' := fun k_ => some k_ ≠ (.slice Ao43 t682.length co43 : Value).ownBlock) (Kd.R_keptB ((Kd.R_apart' HO701.out (Kd.R_typed HO_689001.out) (by decide))) hkp (fun k_ hk_ hs_ => Or.elim hs_ (fun e_ => (hk_.1.2) e_) (fun e_ => (hk_.2) e_))) (fun k_ hk_ => hk_.1.1.2)); have n10_ := G (P (ok' := fun k_ => some k_ ≠ (.slice Ao47 t685.length co47 : Value).ownBlock) (Kd.R_keptB ((Kd.R_apart' HO704.out (Kd.R_typed HO_689000.out) (by decide))) hkp (fun k_ hk_ hs_ => Or.elim hs_ (fun e_ => (hk_.2) e_) (fun e_ => (hk_.1.2) e_))) (fun k_ hk_ => hk_.1.1.2)); have n11_ := G (P (ok' := fun k_ => some k_ ≠ (v679 : Value).ownBlock ∧ some k_ ≠ (v695 : Value).ownBlock ∧ some k_ ≠ (.slice Ao51 t689.length co51 : Value).ownBlock) (Kd.R_keptB ((Kd.R_apart' (Kd.R_apart' HO708.out (Kd.R_typed HO_689000.out) (by decide)) (Kd.R_typed HO_689001.out) (by decide))) hkp (fun k_ hk_ hs_ => Or.elim hs_ (fun e_ => (hk_.1.2) e_) (fun e_ => (hk_.2) e_))) (fun k_ hk_ => ⟨hk_.1.1.1.1.1.2, hk_.1.1.1.1.2, hk_.1.1.1.2⟩)); have n12_ := G (hb); clear HO_6; clear HO_10; clear HO_689000; clear HO_689001; clear HO_694000; clear BK664; clear BK665; clear BK688; clear BK693; clear HO701; clear HO704; clear HO708; clear HB; have HO_6 := n0_; have HO_10 := n1_; have HO_689000 := n2_; have HO_689001 := n3_; have HO_694000 := n4_; have BK664 := n5_; have BK665 := n6_; have BK688 := n7_; have BK693 := n8_; have HO701 := n9_; have HO704 := n10_; have HO708 := n11_; have HB := n12_; clear n0_ n1_ n2_ n3_ n4_ n5_ n6_ n7_ n8_ n9_ n10_ n11_ n12_; (try clear hb); (try clear hkp); (try clear hy0); (try clear hy1); have hnb88 := NB693_664.out; have hnc88 := NB664_693.out; have hnb89 := NB693_665.out; have hnc89 := NB665_693.out; have hcz90_0 : w87.cell? ⟨gb693, 0, none⟩ = some (.slice Ao51 t689.length co51) := (E BK693.out 0).trans rfl; have hcz90_1 : w87.cell? ⟨gb693, 1, none⟩ = some (.int .i64 t692) := (E BK693.out 1).trans rfl; have hfz90_0 := GU BK693.out 0; have hfz90_1 := GU BK693.out 1) | ((with_reducible refine gate_callee (f := 51) rfl ?_); refine goesL_ (some 69) rfl rfl Try.func51 (by kernel_rfl) rfl #[.agg #[.slice Ao51 t689.length co51, .int .i64 t692], .int .i64 t711] rfl (by (try simp only [List.map_toArray, List.map_cons, List.map_nil]); first | done | rfl | (simp only [List.length_drop, List.length_take]; rfl)) ?_; (with_reducible refine (laws_markDensities.calls kj24 (fun k_ => some k_ = (.slice Ao51 t689.length co51 : Value).ownBlock) (.slice Ao51 t689.length co51) t689 t692 t711 t714 t715 w _ ?side1 ?side2 A72.out).mono ?_); (case side1 => repeat (first | (with_reducible first | exact HB.out | apply Z | apply T | apply Y | refine O ?_ GE664.out | refine O ?_ GE665.out | refine O ?_ GE688.out | refine O ?_ GE693.out) | exact HB.out)); (case side2 => exact Kd.R_tight rfl HO_694000.out); rintro e w91 ⟨rfl, hy0, hb, hkp⟩; refine ⟨_, rfl, ?_⟩; have n0_ := G (P (ok' := fun k_ => some k_ ≠ (v695 : Value).ownBlock ∧ some k_ ≠ (.slice Ao51 t689.length co51 : Value).ownBlock ∧ some k_ ≠ (.slice Ao81 t706.length co81 : Value).ownBlock) (Kd.R_keptB (HO_6.out) hkp (fun k_ hk_ hs_ => (hk_.2.1) hs_)) (fun k_ hk_ => ⟨hk_.1.1, hk_.1.2.1, hk_.1.2.2⟩)); have n1_ := G (P (ok' := fun k_ => some k_ ≠ (v679 : Value).ownBlock ∧ some k_ ≠ (.slice Ao51 t689.length co51 : Value).ownBlock ∧ some k_ ≠ (.slice Ao81 t706.length co81 : Value).ownBlock) (Kd.R_keptB (HO_10.out) hkp (fun k_ hk_ hs_ => (hk_.2.1) hs_)) (fun k_ hk_ => ⟨hk_.1.1, hk_.1.2.1, hk_.1.2.2⟩)); have n2_ := G (P (ok' := fun k_ => some k_ ≠ (.slice Ao76 t699.length co76 : Value).ownBlock) (Kd.R_keptB ((Kd.R_apart' HO_689000.out (Kd.R_typed HO_694000.out) (by decide))) hkp (fun k_ hk_ hs_ => (hk_.2) hs_)) (fun k_ hk_ => hk_.1.1.2)); have n3_ := G (P (ok' := fun k_ => some k_ ≠ (.slice Ao77 t702.length co77 : Value).ownBlock) (Kd.R_keptB ((Kd.R_apart' HO_689001.out (Kd.R_typed HO_694000.out) (by decide))) hkp (fun k_ hk_ hs_ => (hk_.2) hs_)) (fun k_ hk_ => hk_.1.1.2)); have n4_ := G (Kd.R_reok rfl hy0 (fun k_ e_ => HO_694000.out.1 k_ e_)); have n5_ := G (blk_kept (by (with_reducible repeat (first | refine U ?_ _ | refine X ?_ | refine V ?_ _)); exact BK664.out) hkp (fun hs_ => (fun e_ => (Kd.R_ne HO_694000.out BK664.out (by decide)) e_) hs_)); have n6_ := G (blk_kept (by (with_reducible repeat (first | refine U ?_ _ | refine X ?_ | refine V ?_ _)); exact BK665.out) hkp (fun hs_ => (fun e_ => (Kd.R_ne HO_694000.out BK665.out (by decide)) e_) hs_)); have n7_ := G (blk_kept (by (with_reducible repeat (first | refine U ?_ _ | refine X ?_ | refine V ?_ _)); exact BK688.out) hkp (fun hs_ => (fun e_ => (Kd.R_ne HO_694000.out BK688.out (by decide)) e_) hs_)); have n8_ := G (blk_kept (by (with_reducible repeat (first | refine U ?_ _ | refine X ?_ | refine V ?_ _)); exact BK693.out) hkp (fun hs_ => (fun e_ => (Kd.R_ne HO_694000.out BK693.out (by decide)) e_) hs_)); have n9_ := G (P (ok' := fun k_ => some k_ ≠ (.slice Ao43 t682.length co43 : Value).ownBlock) (Kd.R_keptB ((Kd.R_apart' HO701.out (Kd.R_typed HO_694000.out) (by decide))) hkp (fun k_ hk_ hs_ => (hk_.2) hs_)) (fun k_ hk_ => hk_.1.1)); have n10_ := G (P (ok' := fun k_ => some k_ ≠ (.slice Ao47 t685.length co47 : Value).ownBlock) (Kd.R_keptB ((Kd.R_apart' HO704.out (Kd.R_typed HO_694000.out) (by decide))) hkp (fun k_ hk_ hs_ => (hk_.2) hs_)) (fun k_ hk_ => hk_.1.1)); have n11_ := G (P (ok' := fun k_ => some k_ ≠ (v679 : Value).ownBlock ∧ some k_ ≠ (v695 : Value).ownBlock ∧ some k_ ≠ (.slice Ao51 t689.length co51 : Value).ownBlock) (Kd.R_keptB (HO708.out) hkp (fun k_ hk_ hs_ => (hk_.2.2) hs_)) (fun k_ hk_ => ⟨hk_.1.1, hk_.1.2.1, hk_.1.2.2⟩)); have n12_ := G (hb); clear HO_6; clear HO_10; clear HO_689000; clear HO_689001; clear HO_694000; clear BK664; clear BK665; clear BK688; clear BK693; clear HO701; clear HO704; clear HO708; clear HB; have HO_6 := n0_; have HO_10 := n1_; have HO_689000 := n2_; have HO_689001 := n3_; have HO_694000 := n4_; have BK664 := n5_; have BK665 := n6_; have BK688 := n7_; have BK693 := n8_; have HO701 := n9_; have HO704 := n10_; have HO708 := n11_; have HB := n12_; clear n0_ n1_ n2_ n3_ n4_ n5_ n6_ n7_ n8_ n9_ n10_ n11_ n12_; (try clear hb); (try clear hkp); (try clear hy0)))
        (try simp only [Act.put, List.setIfInBounds_toArray, List.set_cons_zero, List.set_cons_succ])
        go_cut [82] (fun v82 wc => ∃ (kq : Nat) (x82_72 : Bool), v82 = .bool x82_72 ∧ Aside0 (laws_FnExactPushedWires.j1 kq t678 t681 t694 x82_72 l0_0 l0_1 l1_0 a1_1 = some r) ∧ Aside0 (kq ≤ kj24) ∧ Aside0 (Kd.R (Kd.int .i64) 2 wc w.heap.size (fun k_ => some k_ ≠ (v695 : Value).ownBlock ∧ some k_ ≠ ((.slice Ao51 t689.length co51) : Value).ownBlock) v679 t678) ∧ Aside0 (Kd.R (Kd.int .i64) 2 wc w.heap.size (fun k_ => some k_ ≠ (v679 : Value).ownBlock ∧ some k_ ≠ ((.slice Ao51 t689.length co51) : Value).ownBlock) v695 t694) ∧ Aside0 (Kd.R k82 82 wc w.heap.size (fun _ => True) (.slice Ao43 t682.length co43) t712) ∧ Aside0 (Kd.R k84 84 wc w.heap.size (fun _ => True) (.slice Ao47 t685.length co47) t713) ∧ Aside0 (Kd.R (Kd.int .i64) 2 wc w.heap.size (fun k_ => some k_ ≠ (v679 : Value).ownBlock ∧ some k_ ≠ (v695 : Value).ownBlock) (.slice Ao51 t689.length co51) t715) ∧ Aside0 (wc.heap[gb664]? = some (.cells #[(.slice A0_0 l0_0.length c0_0), (.slice A0_1 l0_1.length c0_1)] 33 (0, 0))) ∧ Aside0 (wc.heap[gb665]? = some (.cells #[(.slice A1_0 l1_0.length c1_0), .int .i64 a1_1] 24 (0, 0))) ∧ Aside0 (wc.heap[gb688]? = some (.cells #[(.slice Ao43 t682.length co43), (.slice Ao47 t685.length co47)] 39 (0, 0))) ∧ Aside0 (wc.heap[gb693]? = some (.cells #[(.slice Ao51 t689.length co51), .int .i64 t692] 27 (0, 0))) ∧ Aside0 (Below w.heap.size w wc))
        case first =>
         have H := HC73.out
         clear HC73
         by_cases c92 : t714 < 0
         ·rw [if_pos c92] at H
          have c92b0 : decide (t714 < 0) = true := decide_eq_true c92
          clear c92
          (first | rw [c92b0] | (simp only [i64_w, i32_w]; rw [c92b0]) | skip)
          have H' := G H
          clear H
          go_wp2
          go_meet
          case rel => exact ⟨_, (true), (by first | rfl | (simp; done) | (simp [*]; done)), H', ⟨by have := HJ24.out; first | omega | exact Nat.le_refl _⟩, ⟨by (with_reducible repeat (first | apply J | apply L | apply M)); exact P HO_6.out (fun _ hk => ⟨hk.1, hk.2.1⟩)⟩, ⟨by (with_reducible repeat (first | apply J | apply L | apply M)); exact P HO_10.out (fun _ hk => ⟨hk.1, hk.2.1⟩)⟩, ⟨by (with_reducible repeat (first | apply J | apply L | apply M)); exact P HO_689000.out (fun _ hk => trivial)⟩, ⟨by (with_reducible repeat (first | apply J | apply L | apply M)); exact P HO_689001.out (fun _ hk => trivial)⟩, ⟨by (with_reducible repeat (first | apply J | apply L | apply M)); exact P HO_694000.out (fun _ hk => ⟨hk.1, hk.2.1⟩)⟩, ⟨by (with_reducible repeat (first | refine U ?_ _ | refine X ?_ | refine V ?_ _)); exact BK664.out⟩, ⟨by (with_reducible repeat (first | refine U ?_ _ | refine X ?_ | refine V ?_ _)); exact BK665.out⟩, ⟨by (with_reducible repeat (first | refine U ?_ _ | refine X ?_ | refine V ?_ _)); exact BK688.out⟩, ⟨by (with_reducible repeat (first | refine U ?_ _ | refine X ?_ | refine V ?_ _)); exact BK693.out⟩, ⟨by repeat (first | (with_reducible first | exact HB.out | apply Z | apply T | apply Y | refine O ?_ GE664.out | refine O ?_ GE665.out | refine O ?_ GE688.out | refine O ?_ GE693.out) | exact HB.out)⟩⟩
         ·rw [if_neg c92] at H
          have c92b0 : decide (t714 < 0) = false := decide_eq_false c92
          clear c92
          (first | rw [c92b0] | (simp only [i64_w, i32_w]; rw [c92b0]) | skip)
          replace H := Option.bind_eq_some_iff.mp H
          obtain ⟨t716, A930, H⟩ := H
          replace H : (if t716 = true then (laws_FnExactPushedWires.j1 kj24 t678 t681 t694 (t697 != t681) l0_0 l0_1 l1_0 a1_1) else (laws_FnExactPushedWires.j1 kj24 t678 t681 t694 true l0_0 l0_1 l1_0 a1_1)) = some r := H
          have A93 := G A930
          clear A930
          by_cases c94 : t716 = true
          ·subst c94
           have H1 : (laws_FnExactPushedWires.j1 kj24 t678 t681 t694 (t697 != t681) l0_0 l0_1 l1_0 a1_1) = some r := by rw [if_pos rfl] at H; exact H
           clear H
           have H := H1
           clear H1
           have H' := G H
           clear H
           obtain ⟨Ao95, co95, eo95⟩ := Kd.R_slice HO_10.out
           subst eo95
           obtain ⟨Ao96, co96, eo96⟩ := Kd.R_slice HO_6.out
           subst eo96
           go_wp2_with (first | (go_at_call 35; (with_reducible refine (laws_eqInt64S.calls kj24 _ _ t694 _ _ t678 true _ ?side1 ?side2 ?side3 ?side4 A93.out).mono ?_); (case side1 => repeat (first | exact (Kd.R_reads' HO_10.out).2.2 | (with_reducible refine GG ?_ _) | (with_reducible refine GJ ?_ _) | (with_reducible refine GL ?_))); (case side2 => exact (Kd.R_reads' HO_10.out).2.1); (case side3 => repeat (first | exact (Kd.R_reads' HO_6.out).2.2 | (with_reducible refine GG ?_ _) | (with_reducible refine GJ ?_ _) | (with_reducible refine GL ?_))); (case side4 => exact (Kd.R_reads' HO_6.out).2.1); rintro e w' ⟨rfl, ⟨nd, rfl⟩⟩))
           go_meet
           case rel => exact ⟨_, ((t697 != t681)), (by first | rfl | (simp; done) | (simp [*]; done)), H', ⟨by have := HJ24.out; first | omega | exact Nat.le_refl _⟩, ⟨by (with_reducible repeat (first | apply J | apply L | apply M)); exact P HO_6.out (fun _ hk => ⟨hk.1, hk.2.1⟩)⟩, ⟨by (with_reducible repeat (first | apply J | apply L | apply M)); exact P HO_10.out (fun _ hk => ⟨hk.1, hk.2.1⟩)⟩, ⟨by (with_reducible repeat (first | apply J | apply L | apply M)); exact P HO_689000.out (fun _ hk => trivial)⟩, ⟨by (with_reducible repeat (first | apply J | apply L | apply M)); exact P HO_689001.out (fun _ hk => trivial)⟩, ⟨by (with_reducible repeat (first | apply J | apply L | apply M)); exact P HO_694000.out (fun _ hk => ⟨hk.1, hk.2.1⟩)⟩, ⟨by (with_reducible repeat (first | refine U ?_ _ | refine X ?_ | refine V ?_ _)); exact BK664.out⟩, ⟨by (with_reducible repeat (first | refine U ?_ _ | refine X ?_ | refine V ?_ _)); exact BK665.out⟩, ⟨by (with_reducible repeat (first | refine U ?_ _ | refine X ?_ | refine V ?_ _)); exact BK688.out⟩, ⟨by (with_reducible repeat (first | refine U ?_ _ | refine X ?_ | refine V ?_ _)); exact BK693.out⟩, ⟨by repeat (first | (with_reducible first | exact HB.out | apply Z | apply T | apply Y | refine O ?_ GE664.out | refine O ?_ GE665.out | refine O ?_ GE688.out | refine O ?_ GE693.out) | exact HB.out)⟩⟩
          ·replace c94 := Bool.eq_false_iff.mpr c94
           subst c94
           have H1 : (laws_FnExactPushedWires.j1 kj24 t678 t681 t694 true l0_0 l0_1 l1_0 a1_1) = some r := by rw [if_neg (show ¬ (false = true) by decide)] at H; exact H
           clear H
           have H := H1
           clear H1
           have H' := G H
           clear H
           obtain ⟨Ao97, co97, eo97⟩ := Kd.R_slice HO_10.out
           subst eo97
           obtain ⟨Ao98, co98, eo98⟩ := Kd.R_slice HO_6.out
           subst eo98
           go_wp2_with (first | (go_at_call 35; (with_reducible refine (laws_eqInt64S.calls kj24 _ _ t694 _ _ t678 false _ ?side1 ?side2 ?side3 ?side4 A93.out).mono ?_); (case side1 => repeat (first | exact (Kd.R_reads' HO_10.out).2.2 | (with_reducible refine GG ?_ _) | (with_reducible refine GJ ?_ _) | (with_reducible refine GL ?_))); (case side2 => exact (Kd.R_reads' HO_10.out).2.1); (case side3 => repeat (first | exact (Kd.R_reads' HO_6.out).2.2 | (with_reducible refine GG ?_ _) | (with_reducible refine GJ ?_ _) | (with_reducible refine GL ?_))); (case side4 => exact (Kd.R_reads' HO_6.out).2.1); rintro e w' ⟨rfl, ⟨nd, rfl⟩⟩))
           go_meet
           case rel => exact ⟨_, (true), (by first | rfl | (simp; done) | (simp [*]; done)), H', ⟨by have := HJ24.out; first | omega | exact Nat.le_refl _⟩, ⟨by (with_reducible repeat (first | apply J | apply L | apply M)); exact P HO_6.out (fun _ hk => ⟨hk.1, hk.2.1⟩)⟩, ⟨by (with_reducible repeat (first | apply J | apply L | apply M)); exact P HO_10.out (fun _ hk => ⟨hk.1, hk.2.1⟩)⟩, ⟨by (with_reducible repeat (first | apply J | apply L | apply M)); exact P HO_689000.out (fun _ hk => trivial)⟩, ⟨by (with_reducible repeat (first | apply J | apply L | apply M)); exact P HO_689001.out (fun _ hk => trivial)⟩, ⟨by (with_reducible repeat (first | apply J | apply L | apply M)); exact P HO_694000.out (fun _ hk => ⟨hk.1, hk.2.1⟩)⟩, ⟨by (with_reducible repeat (first | refine U ?_ _ | refine X ?_ | refine V ?_ _)); exact BK664.out⟩, ⟨by (with_reducible repeat (first | refine U ?_ _ | refine X ?_ | refine V ?_ _)); exact BK665.out⟩, ⟨by (with_reducible repeat (first | refine U ?_ _ | refine X ?_ | refine V ?_ _)); exact BK688.out⟩, ⟨by (with_reducible repeat (first | refine U ?_ _ | refine X ?_ | refine V ?_ _)); exact BK693.out⟩, ⟨by repeat (first | (with_reducible first | exact HB.out | apply Z | apply T | apply Y | refine O ?_ GE664.out | refine O ?_ GE665.out | refine O ?_ GE688.out | refine O ?_ GE693.out) | exact HB.out)⟩⟩
        case rest =>
         clear HC73
         try clear c1
         try clear c2
         try clear p2
         try clear c3
         try clear c4
         try clear c4b0
         try clear c5
         try clear c6
         try clear c7
         try clear c8
         try clear c9
         try clear c11
         try clear c11b0
         try clear c12
         try clear c14
         try clear c16
         try clear c18
         try clear c19
         try clear c21
         try clear c23
         try clear c28
         try clear c35
         try clear c36
         try clear c44
         try clear c45
         try clear c49
         try clear c50
         try clear c51
         try clear c52
         try clear c53
         try clear c54
         try clear c59
         try clear c64
         try clear c67
         try clear c70
         try clear c83
         try clear c84
         try clear c85
         try clear c88
         try clear c89
         try clear c92
         try clear c92b0
         try clear c94
         try clear hcz15_0
         try clear hcz15_1
         try clear hcz17_0
         try clear hcz17_1
         try clear hcz29_0
         try clear hcz29_1
         try clear hcz31_0
         try clear hcz31_1
         try clear hcz40_0
         try clear hcz40_1
         try clear hcz46_0
         try clear hcz46_1
         try clear hcz48_0
         try clear hcz48_1
         try clear hcz55_0
         try clear hcz55_1
         try clear hcz56_0
         try clear hcz56_1
         try clear hcz86_0
         try clear hcz86_1
         try clear hcz8_0
         try clear hcz8_1
         try clear hcz90_0
         try clear hcz90_1
         try clear hfz15_0
         try clear hfz15_1
         try clear hfz17_0
         try clear hfz17_1
         try clear hfz29_0
         try clear hfz29_1
         try clear hfz31_0
         try clear hfz31_1
         try clear hfz40_0
         try clear hfz40_1
         try clear hfz46_0
         try clear hfz46_1
         try clear hfz48_0
         try clear hfz48_1
         try clear hfz55_0
         try clear hfz55_1
         try clear hfz56_0
         try clear hfz56_1
         try clear hfz86_0
         try clear hfz86_1
         try clear hfz8_0
         try clear hfz8_1
         try clear hfz90_0
         try clear hfz90_1
         try clear p2
         obtain ⟨kq, x82_72, rfl, HA, HJ72, HO_6, HO_10, HO_689000, HO_689001, HO_694000, BK664, BK665, BK688, BK693, HB⟩ := hcut
         have hl689000_72 := (Kd.R_reads' HO_689000.out).1
         rw [hl689000_72] at HO_689000
         (try simp only [hl689000_72])
         (try simp only [hl689000_72] at BK664)
         (try simp only [hl689000_72] at BK665)
         (try simp only [hl689000_72] at BK688)
         (try simp only [hl689000_72] at BK693)
         (try simp only [hl689000_72] at HO_6)
         (try simp only [hl689000_72] at HO_10)
         (try simp only [hl689000_72] at HO_689001)
         (try simp only [hl689000_72] at HO_694000)
         have hl689001_72 := (Kd.R_reads' HO_689001.out).1
         rw [hl689001_72] at HO_689001
         (try simp only [hl689001_72])
         (try simp only [hl689001_72] at BK664)
         (try simp only [hl689001_72] at BK665)
         (try simp only [hl689001_72] at BK688)
         (try simp only [hl689001_72] at BK693)
         (try simp only [hl689001_72] at HO_6)
         (try simp only [hl689001_72] at HO_10)
         (try simp only [hl689001_72] at HO_689000)
         (try simp only [hl689001_72] at HO_694000)
         have hl694000_72 := (Kd.R_reads' HO_694000.out).1
         rw [hl694000_72] at HO_694000
         (try simp only [hl694000_72])
         (try simp only [hl694000_72] at BK664)
         (try simp only [hl694000_72] at BK665)
         (try simp only [hl694000_72] at BK688)
         (try simp only [hl694000_72] at BK693)
         (try simp only [hl694000_72] at HO_6)
         (try simp only [hl694000_72] at HO_10)
         (try simp only [hl694000_72] at HO_689000)
         (try simp only [hl694000_72] at HO_689001)
         cases kq with
         | zero => exact absurd HA.out (by simp [laws_FnExactPushedWires.j1])
         | succ kj72 =>
          have H := HA.out
          clear HA
          simp only [laws_FnExactPushedWires.j1] at H
          by_cases c99 : x82_72 = true
          ·subst c99
           have H1 : (some false) = some r := by rw [if_pos rfl] at H; exact H
           clear H
           have H := H1
           clear H1
           obtain rfl := Option.some.inj H
           go_wp2
           go_ret
           exact ⟨by first | rfl | (simp [errW_none, errW_some] <;> rfl) | (simp [*, errW_none, errW_some] <;> rfl), by repeat (first | (with_reducible first | exact HB.out | apply Z | apply T | apply Y | refine O ?_ GE664.out | refine O ?_ GE665.out | refine O ?_ GE688.out | refine O ?_ GE693.out) | exact HB.out)⟩
          ·replace c99 := Bool.eq_false_iff.mpr c99
           subst c99
           have H1 : ((laws_markInt64S.f kj72 t694 1).bind fun bt717 => ((laws_heldInt64S.f kj72 bt717.2 1).bind fun t719 => (if t719 < 0 then (some false) else (if t719 = bt717.1 then ((laws_toFrame.f kj72 l0_0 l0_1).bind fun bt720 => ((laws_toDensities.f kj72 l1_0 a1_1).bind fun bt726 => ((impl_PushedWires.f kj72 bt720.1 bt720.2 bt726.1 bt726.2).bind fun bt730 => ((laws_eqInt64S.f kj72 bt730.1 t678).bind fun t734 => (if t734 = true then (laws_FnExactPushedWires.j2 kj72 bt717.2 bt717.1 (bt730.2 != t681)) else (laws_FnExactPushedWires.j2 kj72 bt717.2 bt717.1 true)))))) else (some false))))) = some r := by rw [if_neg (show ¬ (false = true) by decide)] at H; exact H
           clear H
           have H := H1
           clear H1
           replace H := Option.bind_eq_some_iff.mp H
           obtain ⟨⟨t717, t718⟩, A1000, H⟩ := H
           replace H : ((laws_heldInt64S.f kj72 t718 1).bind fun t719 => (if t719 < 0 then (some false) else (if t719 = t717 then ((laws_toFrame.f kj72 l0_0 l0_1).bind fun bt720 => ((laws_toDensities.f kj72 l1_0 a1_1).bind fun bt726 => ((impl_PushedWires.f kj72 bt720.1 bt720.2 bt726.1 bt726.2).bind fun bt730 => ((laws_eqInt64S.f kj72 bt730.1 t678).bind fun t734 => (if t734 = true then (laws_FnExactPushedWires.j2 kj72 t718 t717 (bt730.2 != t681)) else (laws_FnExactPushedWires.j2 kj72 t718 t717 true)))))) else (some false)))) = some r := H
           have A100 := G A1000
           clear A1000
           replace H := Option.bind_eq_some_iff.mp H
           obtain ⟨t719, A1010, H⟩ := H
           replace H : (if t719 < 0 then (some false) else (if t719 = t717 then ((laws_toFrame.f kj72 l0_0 l0_1).bind fun bt720 => ((laws_toDensities.f kj72 l1_0 a1_1).bind fun bt726 => ((impl_PushedWires.f kj72 bt720.1 bt720.2 bt726.1 bt726.2).bind fun bt730 => ((laws_eqInt64S.f kj72 bt730.1 t678).bind fun t734 => (if t734 = true then (laws_FnExactPushedWires.j2 kj72 t718 t717 (bt730.2 != t681)) else (laws_FnExactPushedWires.j2 kj72 t718 t717 true)))))) else (some false))) = some r := H
           have A101 := G A1010
           clear A1010
           by_cases c102 : t719 < 0
           ·rw [if_pos c102] at H
            have c102b0 : decide (t719 < 0) = true := decide_eq_true c102
            clear c102
            obtain rfl := Option.some.inj H
            obtain ⟨Ao103, co103, eo103⟩ := Kd.R_slice HO_10.out
            subst eo103
            go_wp2_with (first | ((with_reducible refine gate_callee (f := 37) rfl ?_); refine goesL_ (some 85) rfl rfl Try.func37 (by kernel_rfl) rfl #[.slice Ao103 t694.length co103, .int .i64 1] rfl (by (try simp only [List.map_toArray, List.map_cons, List.map_nil]); first | done | rfl | (simp only [List.length_drop, List.length_take]; rfl)) ?_; (with_reducible refine (laws_markInt64S.calls kj72 (fun k_ => some k_ = (.slice Ao103 t694.length co103 : Value).ownBlock) (.slice Ao103 t694.length co103) t694 1 t717 t718 w _ ?side1 ?side2 A100.out).mono ?_); (case side1 => repeat (first | (with_reducible first | exact HB.out | apply Z | apply T | apply Y | refine O ?_ GE664.out | refine O ?_ GE665.out | refine O ?_ GE688.out | refine O ?_ GE693.out) | exact HB.out)); (case side2 => exact Kd.R_tight rfl HO_10.out); rintro e w104 ⟨rfl, hy0, hb, hkp⟩; refine ⟨_, rfl, ?_⟩; have n0_ := G (P (ok' := fun k_ => some k_ ≠ (.slice Ao103 t694.length co103 : Value).ownBlock ∧ some k_ ≠ (.slice Ao51 t715.length co51 : Value).ownBlock) (Kd.R_keptB (HO_6.out) hkp (fun k_ hk_ hs_ => (hk_.1) hs_)) (fun k_ hk_ => ⟨hk_.1.1, hk_.1.2⟩)); have n1_ := G (Kd.R_reok rfl hy0 (fun k_ e_ => HO_10.out.1 k_ e_)); have n2_ := G (P (ok' := fun k_ => True) (Kd.R_keptB ((Kd.R_apart' HO_689000.out (Kd.R_typed HO_10.out) (by decide))) hkp (fun k_ hk_ hs_ => (hk_.2) hs_)) (fun k_ hk_ => trivial)); have n3_ := G (P (ok' := fun k_ => True) (Kd.R_keptB ((Kd.R_apart' HO_689001.out (Kd.R_typed HO_10.out) (by decide))) hkp (fun k_ hk_ hs_ => (hk_.2) hs_)) (fun k_ hk_ => trivial)); have n4_ := G (P (ok' := fun k_ => some k_ ≠ (v679 : Value).ownBlock ∧ some k_ ≠ (.slice Ao103 t694.length co103 : Value).ownBlock) (Kd.R_keptB (HO_694000.out) hkp (fun k_ hk_ hs_ => (hk_.2) hs_)) (fun k_ hk_ => ⟨hk_.1.1, hk_.1.2⟩)); have n5_ := G (blk_kept (by (with_reducible repeat (first | refine U ?_ _ | refine X ?_ | refine V ?_ _)); exact BK664.out) hkp (fun hs_ => (fun e_ => (Kd.R_ne HO_10.out BK664.out (by decide)) e_) hs_)); have n6_ := G (blk_kept (by (with_reducible repeat (first | refine U ?_ _ | refine X ?_ | refine V ?_ _)); exact BK665.out) hkp (fun hs_ => (fun e_ => (Kd.R_ne HO_10.out BK665.out (by decide)) e_) hs_)); have n7_ := G (blk_kept (by (with_reducible repeat (first | refine U ?_ _ | refine X ?_ | refine V ?_ _)); exact BK688.out) hkp (fun hs_ => (fun e_ => (Kd.R_ne HO_10.out BK688.out (by decide)) e_) hs_)); have n8_ := G (blk_kept (by (with_reducible repeat (first | refine U ?_ _ | refine X ?_ | refine V ?_ _)); exact BK693.out) hkp (fun hs_ => (fun e_ => (Kd.R_ne HO_10.out BK693.out (by decide)) e_) hs_)); have n9_ := G (hb); clear HO_6; clear HO_10; clear HO_689000; clear HO_689001; clear HO_694000; clear BK664; clear BK665; clear BK688; clear BK693; clear HB; have HO_6 := n0_; have HO_10 := n1_; have HO_689000 := n2_; have HO_689001 := n3_; have HO_694000 := n4_; have BK664 := n5_; have BK665 := n6_; have BK688 := n7_; have BK693 := n8_; have HB := n9_; clear n0_ n1_ n2_ n3_ n4_ n5_ n6_ n7_ n8_ n9_; (try clear hb); (try clear hkp); (try clear hy0)) | ((with_reducible refine gate_callee (f := 38) rfl ?_); refine goesL_ (some 88) rfl rfl Try.func38 (by kernel_rfl) rfl #[.slice Ao103 t718.length co103, .int .i64 1] rfl (by (try simp only [List.map_toArray, List.map_cons, List.map_nil]); first | done | (rw [show t718.length = t694.length from (Kd.R_reads' HO_10.out).1.symm] <;> rfl) | rfl | (simp only [List.length_drop, List.length_take]; rfl)) ?_; (with_reducible refine (laws_heldInt64S.calls kj72 _ _ t718 1 t719 _ ?side1 ?side2 A101.out).mono ?_); (case side1 => repeat (first | exact (Kd.R_reads' HO_10.out).2.2 | (with_reducible refine GG ?_ _) | (with_reducible refine GJ ?_ _) | (with_reducible refine GL ?_))); (case side2 => rw [show t718.length = t694.length from (Kd.R_reads' HO_10.out).1.symm]; exact (Kd.R_reads' HO_10.out).2.1); rintro e w' ⟨rfl, ⟨nd, rfl⟩⟩; refine ⟨_, rfl, ?_⟩))
            go_ret
            exact ⟨by first | rfl | (simp [errW_none, errW_some] <;> rfl) | (simp [*, errW_none, errW_some] <;> rfl), by repeat (first | (with_reducible first | exact HB.out | apply Z | apply T | apply Y | refine O ?_ GE664.out | refine O ?_ GE665.out | refine O ?_ GE688.out | refine O ?_ GE693.out) | exact HB.out)⟩
           ·rw [if_neg c102] at H
            have c102b0 : decide (t719 < 0) = false := decide_eq_false c102
            clear c102
            by_cases c105 : t719 = t717
            ·rw [if_pos c105] at H
             have c105b0 : (t719 == t717) = true := beq_iff_eq.mpr c105
             have c105b1 : (t719 != t717) = false := bne_eq_false_iff_eq.mpr c105
             clear c105
             replace H := Option.bind_eq_some_iff.mp H
             obtain ⟨⟨t720, t723⟩, A1060, H⟩ := H
             replace H : ((laws_toDensities.f kj72 l1_0 a1_1).bind fun bt726 => ((impl_PushedWires.f kj72 t720 t723 bt726.1 bt726.2).bind fun bt730 => ((laws_eqInt64S.f kj72 bt730.1 t678).bind fun t734 => (if t734 = true then (laws_FnExactPushedWires.j2 kj72 t718 t717 (bt730.2 != t681)) else (laws_FnExactPushedWires.j2 kj72 t718 t717 true))))) = some r := H
             have A106 := G A1060
             clear A1060
             replace H := Option.bind_eq_some_iff.mp H
             obtain ⟨⟨t726, t729⟩, A1070, H⟩ := H
             replace H : ((impl_PushedWires.f kj72 t720 t723 t726 t729).bind fun bt730 => ((laws_eqInt64S.f kj72 bt730.1 t678).bind fun t734 => (if t734 = true then (laws_FnExactPushedWires.j2 kj72 t718 t717 (bt730.2 != t681)) else (laws_FnExactPushedWires.j2 kj72 t718 t717 true)))) = some r := H
             have A107 := G A1070
             clear A1070
             replace H := Option.bind_eq_some_iff.mp H
             obtain ⟨⟨t730, t733⟩, A1080, H⟩ := H
             replace H : ((laws_eqInt64S.f kj72 t730 t678).bind fun t734 => (if t734 = true then (laws_FnExactPushedWires.j2 kj72 t718 t717 (t733 != t681)) else (laws_FnExactPushedWires.j2 kj72 t718 t717 true))) = some r := H
             have A108 := G A1080
             clear A1080
             have HC109 := G H
             clear H
             obtain ⟨Ao110, co110, eo110⟩ := Kd.R_slice HO_10.out
             subst eo110
             try go_wp2_with (first | ((with_reducible refine gate_callee (f := 37) rfl ?_); refine goesL_ (some 85) rfl rfl Try.func37 (by kernel_rfl) rfl #[.slice Ao110 t694.length co110, .int .i64 1] rfl (by (try simp only [List.map_toArray, List.map_cons, List.map_nil]); first | done | rfl | (simp only [List.length_drop, List.length_take]; rfl)) ?_; (with_reducible refine (laws_markInt64S.calls kj72 (fun k_ => some k_ = (.slice Ao110 t694.length co110 : Value).ownBlock) (.slice Ao110 t694.length co110) t694 1 t717 t718 w _ ?side1 ?side2 A100.out).mono ?_); (case side1 => repeat (first | (with_reducible first | exact HB.out | apply Z | apply T | apply Y | refine O ?_ GE664.out | refine O ?_ GE665.out | refine O ?_ GE688.out | refine O ?_ GE693.out) | exact HB.out)); (case side2 => exact Kd.R_tight rfl HO_10.out); rintro e w111 ⟨rfl, hy0, hb, hkp⟩; refine ⟨_, rfl, ?_⟩; have n0_ := G (P (ok' := fun k_ => some k_ ≠ (.slice Ao110 t694.length co110 : Value).ownBlock ∧ some k_ ≠ (.slice Ao51 t715.length co51 : Value).ownBlock) (Kd.R_keptB (HO_6.out) hkp (fun k_ hk_ hs_ => (hk_.1) hs_)) (fun k_ hk_ => ⟨hk_.1.1, hk_.1.2⟩)); have n1_ := G (Kd.R_reok rfl hy0 (fun k_ e_ => HO_10.out.1 k_ e_)); have n2_ := G (P (ok' := fun k_ => True) (Kd.R_keptB ((Kd.R_apart' HO_689000.out (Kd.R_typed HO_10.out) (by decide))) hkp (fun k_ hk_ hs_ => (hk_.2) hs_)) (fun k_ hk_ => trivial)); have n3_ := G (P (ok' := fun k_ => True) (Kd.R_keptB ((Kd.R_apart' HO_689001.out (Kd.R_typed HO_10.out) (by decide))) hkp (fun k_ hk_ hs_ => (hk_.2) hs_)) (fun k_ hk_ => trivial)); have n4_ := G (P (ok' := fun k_ => some k_ ≠ (v679 : Value).ownBlock ∧ some k_ ≠ (.slice Ao110 t694.length co110 : Value).ownBlock) (Kd.R_keptB (HO_694000.out) hkp (fun k_ hk_ hs_ => (hk_.2) hs_)) (fun k_ hk_ => ⟨hk_.1.1, hk_.1.2⟩)); have n5_ := G (blk_kept (by (with_reducible repeat (first | refine U ?_ _ | refine X ?_ | refine V ?_ _)); exact BK664.out) hkp (fun hs_ => (fun e_ => (Kd.R_ne HO_10.out BK664.out (by decide)) e_) hs_)); have n6_ := G (blk_kept (by (with_reducible repeat (first | refine U ?_ _ | refine X ?_ | refine V ?_ _)); exact BK665.out) hkp (fun hs_ => (fun e_ => (Kd.R_ne HO_10.out BK665.out (by decide)) e_) hs_)); have n7_ := G (blk_kept (by (with_reducible repeat (first | refine U ?_ _ | refine X ?_ | refine V ?_ _)); exact BK688.out) hkp (fun hs_ => (fun e_ => (Kd.R_ne HO_10.out BK688.out (by decide)) e_) hs_)); have n8_ := G (blk_kept (by (with_reducible repeat (first | refine U ?_ _ | refine X ?_ | refine V ?_ _)); exact BK693.out) hkp (fun hs_ => (fun e_ => (Kd.R_ne HO_10.out BK693.out (by decide)) e_) hs_)); have n9_ := G (hb); clear HO_6; clear HO_10; clear HO_689000; clear HO_689001; clear HO_694000; clear BK664; clear BK665; clear BK688; clear BK693; clear HB; have HO_6 := n0_; have HO_10 := n1_; have HO_689000 := n2_; have HO_689001 := n3_; have HO_694000 := n4_; have BK664 := n5_; have BK665 := n6_; have BK688 := n7_; have BK693 := n8_; have HB := n9_; clear n0_ n1_ n2_ n3_ n4_ n5_ n6_ n7_ n8_ n9_; (try clear hb); (try clear hkp); (try clear hy0)) | ((with_reducible refine gate_callee (f := 38) rfl ?_); refine goesL_ (some 88) rfl rfl Try.func38 (by kernel_rfl) rfl #[.slice Ao110 t718.length co110, .int .i64 1] rfl (by (try simp only [List.map_toArray, List.map_cons, List.map_nil]); first | done | (rw [show t718.length = t694.length from (Kd.R_reads' HO_10.out).1.symm] <;> rfl) | rfl | (simp only [List.length_drop, List.length_take]; rfl)) ?_; (with_reducible refine (laws_heldInt64S.calls kj72 _ _ t718 1 t719 _ ?side1 ?side2 A101.out).mono ?_); (case side1 => repeat (first | exact (Kd.R_reads' HO_10.out).2.2 | (with_reducible refine GG ?_ _) | (with_reducible refine GJ ?_ _) | (with_reducible refine GL ?_))); (case side2 => rw [show t718.length = t694.length from (Kd.R_reads' HO_10.out).1.symm]; exact (Kd.R_reads' HO_10.out).2.1); rintro e w' ⟨rfl, ⟨nd, rfl⟩⟩; refine ⟨_, rfl, ?_⟩))
             (try (rw [drewN_self w111]; generalize hq_ : World.drewN w111 _ = w111; have n0_ : Aside0 (Kd.R (Kd.int .i64) 2 w111 w.heap.size (fun k_ => some k_ ≠ (v679 : Value).ownBlock ∧ some k_ ≠ (.slice Ao51 t715.length co51 : Value).ownBlock) (.slice Ao110 t694.length co110) t718) := ⟨by rw [← hq_]; exact (by (with_reducible repeat (first | apply J | apply L | apply M)); exact HO_10.out)⟩; have n1_ : Aside0 (Kd.R (Kd.int .i64) 2 w111 w.heap.size (fun k_ => some k_ ≠ (.slice Ao110 t694.length co110 : Value).ownBlock ∧ some k_ ≠ (.slice Ao51 t715.length co51 : Value).ownBlock) v679 t678) := ⟨by rw [← hq_]; exact (by (with_reducible repeat (first | apply J | apply L | apply M)); exact HO_6.out)⟩; have n2_ : Aside0 (Kd.R k82 82 w111 w.heap.size (fun _ => True) (.slice Ao43 t712.length co43) t712) := ⟨by rw [← hq_]; exact (by (with_reducible repeat (first | apply J | apply L | apply M)); exact HO_689000.out)⟩; have n3_ : Aside0 (Kd.R k84 84 w111 w.heap.size (fun _ => True) (.slice Ao47 t713.length co47) t713) := ⟨by rw [← hq_]; exact (by (with_reducible repeat (first | apply J | apply L | apply M)); exact HO_689001.out)⟩; have n4_ : Aside0 (Kd.R (Kd.int .i64) 2 w111 w.heap.size (fun k_ => some k_ ≠ (.slice Ao110 t694.length co110 : Value).ownBlock ∧ some k_ ≠ (v679 : Value).ownBlock) (.slice Ao51 t715.length co51) t715) := ⟨by rw [← hq_]; exact (by (with_reducible repeat (first | apply J | apply L | apply M)); exact P HO_694000.out (fun _ hk => ⟨hk.2, hk.1⟩))⟩; have n5_ : Aside0 (w111.heap[gb664]? = some (.cells #[.slice A0_0 l0_0.length c0_0, .slice A0_1 l0_1.length c0_1] 33 (0, 0))) := ⟨by rw [← hq_]; exact (by (with_reducible repeat (first | refine U ?_ _ | refine X ?_ | refine V ?_ _)); exact BK664.out)⟩; have n6_ : Aside0 (w111.heap[gb665]? = some (.cells #[.slice A1_0 l1_0.length c1_0, .int .i64 a1_1] 24 (0, 0))) := ⟨by rw [← hq_]; exact (by (with_reducible repeat (first | refine U ?_ _ | refine X ?_ | refine V ?_ _)); exact BK665.out)⟩; have n7_ : Aside0 (w111.heap[gb688]? = some (.cells #[.slice Ao43 t712.length co43, .slice Ao47 t713.length co47] 39 (0, 0))) := ⟨by rw [← hq_]; exact (by (with_reducible repeat (first | refine U ?_ _ | refine X ?_ | refine V ?_ _)); exact BK688.out)⟩; have n8_ : Aside0 (w111.heap[gb693]? = some (.cells #[.slice Ao51 t715.length co51, .int .i64 t692] 27 (0, 0))) := ⟨by rw [← hq_]; exact (by (with_reducible repeat (first | refine U ?_ _ | refine X ?_ | refine V ?_ _)); exact BK693.out)⟩; have n9_ : Aside0 (Below w.heap.size w w111) := ⟨by rw [← hq_]; exact (by repeat (first | (with_reducible first | exact HB.out | apply Z | apply T | apply Y | refine O ?_ GE664.out | refine O ?_ GE665.out | refine O ?_ GE688.out | refine O ?_ GE693.out) | exact HB.out))⟩; clear HO_10 HO_6 HO_689000 HO_689001 HO_694000 BK664 BK665 BK688 BK693 HB hq_; have HO_10 := n0_; have HO_6 := n1_; have HO_689000 := n2_; have HO_689001 := n3_; have HO_694000 := n4_; have BK664 := n5_; have BK665 := n6_; have BK688 := n7_; have BK693 := n8_; have HB := n9_; clear n0_ n1_ n2_ n3_ n4_ n5_ n6_ n7_ n8_ n9_))
             have n0_ := G (M HO_6.out)
             have n1_ := G (M HO_10.out)
             have n2_ := G (M HO_689000.out)
             have n3_ := G (M HO_689001.out)
             have n4_ := G (M HO_694000.out)
             have n5_ := G (X BK664.out)
             have n6_ := G (X BK665.out)
             have n7_ := G (X BK688.out)
             have n8_ := G (X BK693.out)
             have n9_ := G (Y HB.out)
             clear HO_6
             clear HO_10
             clear HO_689000
             clear HO_689001
             clear HO_694000
             clear BK664
             clear BK665
             clear BK688
             clear BK693
             clear HB
             have HO_6 := n0_
             have HO_10 := n1_
             have HO_689000 := n2_
             have HO_689001 := n3_
             have HO_694000 := n4_
             have BK664 := n5_
             have BK665 := n6_
             have BK688 := n7_
             have BK693 := n8_
             have HB := n9_
             clear n0_ n1_ n2_ n3_ n4_ n5_ n6_ n7_ n8_ n9_
             refine start_ (n := 10) (S := fun w' => w'.cell? ⟨gb664, 0, none⟩ = some (.slice A0_0 l0_0.length c0_0) ∧ w'.cell? ⟨gb664, 1, none⟩ = some (.slice A0_1 l0_1.length c0_1) ∧ w'.cell? ⟨gb665, 0, none⟩ = some (.slice A1_0 l1_0.length c1_0) ∧ w'.cell? ⟨gb665, 1, none⟩ = some (.int .i64 a1_1)) (ds := []) #[n', n', n', n', n', n', n', n', n', n'] (by kernel_rfl) rfl rfl ⟨(E BK664.out 0).trans rfl, (E BK664.out 1).trans rfl, (E BK665.out 0).trans rfl, (E BK665.out 1).trans rfl⟩ (fun hHeld => ?_); refine with_tabW laws_FnExactPushedWires.tab31 laws_FnExactPushedWires.bits31 (fun HT_ HW_ => ?_)
             generalize w111.drew = w112 at HO_6 HO_10 HO_689000 HO_689001 HO_694000 BK664 BK665 BK688 BK693 HB hHeld ⊢
             refine take_ (i := 0) (N := some 95) (v := ?_) (a' := ?_) #[y', n', n', n', n', n', n', n', n', n'] rfl rfl (take_ofW HT_.out HW_.out (by kernel_rfl)) (fun _ _ _ h => h) (Or.inl ⟨by rfl, ?_⟩) hHeld ?_ ?_
             rotate_left
             ·rintro w' ⟨s0, s1, s2, s3⟩
              go_simp
              with_reducible rfl
             rotate_left
             ·simp only [Act.put, z1', z2', z3', i64_w, i32_w]
              rfl
             refine take_ (i := 2) (N := some 97) (v := ?_) (a' := ?_) #[y', n', y', n', n', n', n', n', n', n'] rfl rfl (take_ofW HT_.out HW_.out (by kernel_rfl)) (fun _ _ _ h => h) (Or.inl ⟨by rfl, ?_⟩) hHeld ?_ ?_
             rotate_left
             ·rintro w' ⟨s0, s1, s2, s3⟩
              go_simp
              with_reducible rfl
             rotate_left
             ·simp only [Act.put, z1', z2', z3', i64_w, i32_w]
              rfl
             refine one_ (i := 1) (N := some 96) #[y', y', y', n', n', n', n', n', n', n'] rfl rfl (one_of HT_.out (by kernel_rfl)) (by decide) (fun K hK => ?_)
             refine goes_ Try.func21 (by kernel_rfl) rfl #[.agg #[.slice A0_0 l0_0.length c0_0, .slice A0_1 l0_1.length c0_1]] (by rfl) rfl rfl (by (try simp only [List.map_toArray, List.map_cons, List.map_nil]); first | done | rfl | (simp only [List.length_drop, List.length_take]; rfl)) ?_
             with_reducible refine (laws_toFrame.calls kj72 _ _ l0_0 _ _ l0_1 t720 t723 _ ?side1 ?side2 ?side3 ?side4 A106.out).mono ?_
             (case side1 => repeat (first | exact (GT HR0_0.out HB.out) | (with_reducible refine GG ?_ _) | (with_reducible refine GJ ?_ _) | (with_reducible refine GL ?_)))
             (case side2 => exact HC0_0.out)
             (case side3 => repeat (first | exact (GT HR0_1.out HB.out) | (with_reducible refine GG ?_ _) | (with_reducible refine GJ ?_ _) | (with_reducible refine GL ?_)))
             (case side4 => exact HC0_1.out)
             rintro e w113 ⟨v721, v724, rfl, ho0, ho1, hb⟩
             refine ⟨_, rfl, ?_⟩
             have n0_ := G (B (by (with_reducible repeat (first | apply J | apply L | apply M)); exact HO_6.out) hb)
             have n1_ := G (B (by (with_reducible repeat (first | apply J | apply L | apply M)); exact HO_10.out) hb)
             have n2_ := G (Kd.R_elder' (by (with_reducible repeat (first | apply J | apply L | apply M)); exact HO_689000.out) (Kd.R_base ho0) hb)
             have n3_ := G (Kd.R_elder' (by (with_reducible repeat (first | apply J | apply L | apply M)); exact HO_689001.out) (Kd.R_base ho1) hb)
             have n4_ := G (B (by (with_reducible repeat (first | apply J | apply L | apply M)); exact HO_694000.out) hb)
             have n5_ := G (Kd.R_lower (GM ho0 (Kd.R_lt (by (with_reducible repeat (first | apply J | apply L | apply M)); exact HO_689000.out))) (GN (by repeat (first | (with_reducible first | exact HB.out | apply Z | apply T | apply Y | refine O ?_ GE664.out | refine O ?_ GE665.out | refine O ?_ GE688.out | refine O ?_ GE693.out) | exact HB.out))))
             have n6_ := G (Kd.R_lower (GM ho1 (Kd.R_lt (by (with_reducible repeat (first | apply J | apply L | apply M)); exact HO_689001.out))) (GN (by repeat (first | (with_reducible first | exact HB.out | apply Z | apply T | apply Y | refine O ?_ GE664.out | refine O ?_ GE665.out | refine O ?_ GE688.out | refine O ?_ GE693.out) | exact HB.out))))
             have n7_ := G (F (g := gb664) (o := .cells #[.slice A0_0 l0_0.length c0_0, .slice A0_1 l0_1.length c0_1] 33 (0, 0)) (by (with_reducible repeat (first | refine U ?_ _ | refine X ?_ | refine V ?_ _)); exact BK664.out) hb)
             have n8_ := G (F (g := gb665) (o := .cells #[.slice A1_0 l1_0.length c1_0, .int .i64 a1_1] 24 (0, 0)) (by (with_reducible repeat (first | refine U ?_ _ | refine X ?_ | refine V ?_ _)); exact BK665.out) hb)
             have n9_ := G (F (g := gb688) (o := .cells #[.slice Ao43 t712.length co43, .slice Ao47 t713.length co47] 39 (0, 0)) (by (with_reducible repeat (first | refine U ?_ _ | refine X ?_ | refine V ?_ _)); exact BK688.out) hb)
             have n10_ := G (F (g := gb693) (o := .cells #[.slice Ao51 t715.length co51, .int .i64 t692] 27 (0, 0)) (by (with_reducible repeat (first | refine U ?_ _ | refine X ?_ | refine V ?_ _)); exact BK693.out) hb)
             have n11_ := G (GO (by repeat (first | (with_reducible first | exact HB.out | apply Z | apply T | apply Y | refine O ?_ GE664.out | refine O ?_ GE665.out | refine O ?_ GE688.out | refine O ?_ GE693.out) | exact HB.out)) hb)
             clear HO_6
             clear HO_10
             clear HO_689000
             clear HO_689001
             clear HO_694000
             clear BK664
             clear BK665
             clear BK688
             clear BK693
             clear HB
             have HO_6 := n0_
             have HO_10 := n1_
             have HO_689000 := n2_
             have HO_689001 := n3_
             have HO_694000 := n4_
             have HO722 := n5_
             have HO725 := n6_
             have BK664 := n7_
             have BK665 := n8_
             have BK688 := n9_
             have BK693 := n10_
             have HB := n11_
             clear n0_ n1_ n2_ n3_ n4_ n5_ n6_ n7_ n8_ n9_ n10_ n11_
             (try clear hb)
             (try clear hb2)
             (try clear hk)
             (try clear hi)
             (try clear ho0)
             (try clear ho1)
             refine hK.out _ _ ⟨(E BK664.out 0).trans rfl, (E BK664.out 1).trans rfl, (E BK665.out 0).trans rfl, (E BK665.out 1).trans rfl⟩ (fun hHeld => ?_)
             clear hK K
             refine norm_ (a' := ?_) ?_ ?_
             rotate_left
             ·show Act.put _ (some 96) _ = _
              simp only [Act.put, z1', z2', z3', i64_w, i32_w]
              rfl
             refine one_ (i := 3) (N := some 98) #[y', y', y', y', n', n', n', n', n', n'] rfl rfl (one_of HT_.out (by kernel_rfl)) (by decide) (fun K hK => ?_)
             refine goes_ Try.func16 (by kernel_rfl) rfl #[.agg #[.slice A1_0 l1_0.length c1_0, .int .i64 a1_1]] (by rfl) rfl rfl (by (try simp only [List.map_toArray, List.map_cons, List.map_nil]); first | done | rfl | (simp only [List.length_drop, List.length_take]; rfl)) ?_
             with_reducible refine (laws_toDensities.calls kj72 _ _ l1_0 a1_1 t726 t729 _ ?side1 ?side2 A107.out).mono ?_
             (case side1 => repeat (first | exact (GT HR1_0.out HB.out) | (with_reducible refine GG ?_ _) | (with_reducible refine GJ ?_ _) | (with_reducible refine GL ?_)))
             (case side2 => exact HC1_0.out)
             rintro e w114 ⟨v727, rfl, ho0, hb⟩
             refine ⟨_, rfl, ?_⟩
             have n0_ := G (Kd.R_elder' (by (with_reducible repeat (first | apply J | apply L | apply M)); exact HO_6.out) (Kd.R_base ho0) hb)
             have n1_ := G (Kd.R_elder' (by (with_reducible repeat (first | apply J | apply L | apply M)); exact HO_10.out) (Kd.R_base ho0) hb)
             have n2_ := G (B (by (with_reducible repeat (first | apply J | apply L | apply M)); exact HO_689000.out) hb)
             have n3_ := G (B (by (with_reducible repeat (first | apply J | apply L | apply M)); exact HO_689001.out) hb)
             have n4_ := G (Kd.R_elder' (by (with_reducible repeat (first | apply J | apply L | apply M)); exact HO_694000.out) (Kd.R_base ho0) hb)
             have n5_ := G (B (by (with_reducible repeat (first | apply J | apply L | apply M)); exact HO722.out) hb)
             have n6_ := G (B (by (with_reducible repeat (first | apply J | apply L | apply M)); exact HO725.out) hb)
             have n7_ := G (Kd.R_lower (GM (GM (GM ho0 (Kd.R_lt (by (with_reducible repeat (first | apply J | apply L | apply M)); exact HO_6.out))) (Kd.R_lt (by (with_reducible repeat (first | apply J | apply L | apply M)); exact HO_10.out))) (Kd.R_lt (by (with_reducible repeat (first | apply J | apply L | apply M)); exact HO_694000.out))) (GN (by repeat (first | (with_reducible first | exact HB.out | apply Z | apply T | apply Y | refine O ?_ GE664.out | refine O ?_ GE665.out | refine O ?_ GE688.out | refine O ?_ GE693.out) | exact HB.out))))
             have n8_ := G (F (g := gb664) (o := .cells #[.slice A0_0 l0_0.length c0_0, .slice A0_1 l0_1.length c0_1] 33 (0, 0)) (by (with_reducible repeat (first | refine U ?_ _ | refine X ?_ | refine V ?_ _)); exact BK664.out) hb)
             have n9_ := G (F (g := gb665) (o := .cells #[.slice A1_0 l1_0.length c1_0, .int .i64 a1_1] 24 (0, 0)) (by (with_reducible repeat (first | refine U ?_ _ | refine X ?_ | refine V ?_ _)); exact BK665.out) hb)
             have n10_ := G (F (g := gb688) (o := .cells #[.slice Ao43 t712.length co43, .slice Ao47 t713.length co47] 39 (0, 0)) (by (with_reducible repeat (first | refine U ?_ _ | refine X ?_ | refine V ?_ _)); exact BK688.out) hb)
             have n11_ := G (F (g := gb693) (o := .cells #[.slice Ao51 t715.length co51, .int .i64 t692] 27 (0, 0)) (by (with_reducible repeat (first | refine U ?_ _ | refine X ?_ | refine V ?_ _)); exact BK693.out) hb)
             have n12_ := G (GO (by repeat (first | (with_reducible first | exact HB.out | apply Z | apply T | apply Y | refine O ?_ GE664.out | refine O ?_ GE665.out | refine O ?_ GE688.out | refine O ?_ GE693.out) | exact HB.out)) hb)
             clear HO_6
             clear HO_10
             clear HO_689000
             clear HO_689001
             clear HO_694000
             clear HO722
             clear HO725
             clear BK664
             clear BK665
             clear BK688
             clear BK693
             clear HB
             have HO_6 := n0_
             have HO_10 := n1_
             have HO_689000 := n2_
             have HO_689001 := n3_
             have HO_694000 := n4_
             have HO722 := n5_
             have HO725 := n6_
             have HO728 := n7_
             have BK664 := n8_
             have BK665 := n9_
             have BK688 := n10_
             have BK693 := n11_
             have HB := n12_
             clear n0_ n1_ n2_ n3_ n4_ n5_ n6_ n7_ n8_ n9_ n10_ n11_ n12_
             (try clear hb)
             (try clear hb2)
             (try clear hk)
             (try clear hi)
             (try clear ho0)
             obtain ⟨Ao115, co115, eo115⟩ := Kd.R_slice HO722.out
             (first | subst eo115 | (injection eo115 with f1_ f2_ f3_; have f4_ := f1_.symm; have f5_ := f3_.symm; clear f1_ f2_ f3_; subst f4_; subst f5_))
             obtain ⟨Ao116, co116, eo116⟩ := Kd.R_slice HO725.out
             (first | subst eo116 | (injection eo116 with f1_ f2_ f3_; have f4_ := f1_.symm; have f5_ := f3_.symm; clear f1_ f2_ f3_; subst f4_; subst f5_))
             obtain ⟨Ao117, co117, eo117⟩ := Kd.R_slice HO728.out
             (first | subst eo117 | (injection eo117 with f1_ f2_ f3_; have f4_ := f1_.symm; have f5_ := f3_.symm; clear f1_ f2_ f3_; subst f4_; subst f5_))
             refine hK.out _ _ ⟨(E BK664.out 0).trans rfl, (E BK664.out 1).trans rfl, (E BK665.out 0).trans rfl, (E BK665.out 1).trans rfl⟩ (fun hHeld => ?_)
             clear hK K
             refine norm_ (a' := ?_) ?_ ?_
             rotate_left
             ·show Act.put _ (some 98) _ = _
              simp only [Act.put, z1', z2', z3', i64_w, i32_w]
              rfl
             refine one_ (i := 4) (N := some 99) #[y', y', y', y', y', n', n', n', n', n'] rfl rfl (one_of HT_.out (by kernel_rfl)) (by decide) (fun K hK => ?_)
             refine goes_ Try.func50 (by kernel_rfl) rfl #[.agg #[.slice Ao115 t720.length co115, .slice Ao116 t723.length co116], .agg #[.slice Ao117 t726.length co117, .int .i64 t729]] (by rfl) rfl rfl (by (try simp only [List.map_toArray, List.map_cons, List.map_nil]); first | done | rfl | (simp only [List.length_drop, List.length_take]; rfl)) ?_
             with_reducible refine (impl_PushedWires.calls kj72 _ _ t720 _ _ t723 _ _ t726 t729 t730 t733 _ ?side1 ?side2 ?side3 ?side4 ?side5 ?side6 A108.out).mono ?_
             (case side1 => repeat (first | exact (Kd.R_reads' HO722.out).2.2 | (with_reducible refine GG ?_ _) | (with_reducible refine GJ ?_ _) | (with_reducible refine GL ?_)))
             (case side2 => exact (Kd.R_reads' HO722.out).2.1)
             (case side3 => repeat (first | exact (Kd.R_reads' HO725.out).2.2 | (with_reducible refine GG ?_ _) | (with_reducible refine GJ ?_ _) | (with_reducible refine GL ?_)))
             (case side4 => exact (Kd.R_reads' HO725.out).2.1)
             (case side5 => repeat (first | exact (Kd.R_reads' HO728.out).2.2 | (with_reducible refine GG ?_ _) | (with_reducible refine GJ ?_ _) | (with_reducible refine GL ?_)))
             (case side6 => exact (Kd.R_reads' HO728.out).2.1)
             rintro e w118 ⟨v731, rfl, ho0, hb⟩
             refine ⟨_, rfl, ?_⟩
             have n0_ := G (Kd.R_elder' (by (with_reducible repeat (first | apply J | apply L | apply M)); exact HO_6.out) (Kd.R_base ho0) hb)
             have n1_ := G (Kd.R_elder' (by (with_reducible repeat (first | apply J | apply L | apply M)); exact HO_10.out) (Kd.R_base ho0) hb)
             have n2_ := G (B (by (with_reducible repeat (first | apply J | apply L | apply M)); exact HO_689000.out) hb)
             have n3_ := G (B (by (with_reducible repeat (first | apply J | apply L | apply M)); exact HO_689001.out) hb)
             have n4_ := G (Kd.R_elder' (by (with_reducible repeat (first | apply J | apply L | apply M)); exact HO_694000.out) (Kd.R_base ho0) hb)
             have n5_ := G (B (by (with_reducible repeat (first | apply J | apply L | apply M)); exact HO722.out) hb)
             have n6_ := G (B (by (with_reducible repeat (first | apply J | apply L | apply M)); exact HO725.out) hb)
             have n7_ := G (Kd.R_elder' (by (with_reducible repeat (first | apply J | apply L | apply M)); exact HO728.out) (Kd.R_base ho0) hb)
             have n8_ := G (Kd.R_lower (GM (GM (GM (GM ho0 (Kd.R_lt (by (with_reducible repeat (first | apply J | apply L | apply M)); exact HO_6.out))) (Kd.R_lt (by (with_reducible repeat (first | apply J | apply L | apply M)); exact HO_10.out))) (Kd.R_lt (by (with_reducible repeat (first | apply J | apply L | apply M)); exact HO_694000.out))) (Kd.R_lt (by (with_reducible repeat (first | apply J | apply L | apply M)); exact HO728.out))) (GN (by repeat (first | (with_reducible first | exact HB.out | apply Z | apply T | apply Y | refine O ?_ GE664.out | refine O ?_ GE665.out | refine O ?_ GE688.out | refine O ?_ GE693.out) | exact HB.out))))
             have n9_ := G (F (g := gb664) (o := .cells #[.slice A0_0 l0_0.length c0_0, .slice A0_1 l0_1.length c0_1] 33 (0, 0)) (by (with_reducible repeat (first | refine U ?_ _ | refine X ?_ | refine V ?_ _)); exact BK664.out) hb)
             have n10_ := G (F (g := gb665) (o := .cells #[.slice A1_0 l1_0.length c1_0, .int .i64 a1_1] 24 (0, 0)) (by (with_reducible repeat (first | refine U ?_ _ | refine X ?_ | refine V ?_ _)); exact BK665.out) hb)
             have n11_ := G (F (g := gb688) (o := .cells #[.slice Ao43 t712.length co43, .slice Ao47 t713.length co47] 39 (0, 0)) (by (with_reducible repeat (first | refine U ?_ _ | refine X ?_ | refine V ?_ _)); exact BK688.out) hb)
             have n12_ := G (F (g := gb693) (o := .cells #[.slice Ao51 t715.length co51, .int .i64 t692] 27 (0, 0)) (by (with_reducible repeat (first | refine U ?_ _ | refine X ?_ | refine V ?_ _)); exact BK693.out) hb)
             have n13_ := G (GO (by repeat (first | (with_reducible first | exact HB.out | apply Z | apply T | apply Y | refine O ?_ GE664.out | refine O ?_ GE665.out | refine O ?_ GE688.out | refine O ?_ GE693.out) | exact HB.out)) hb)
             clear HO_6
             clear HO_10
             clear HO_689000
             clear HO_689001
             clear HO_694000
             clear HO722
             clear HO725
             clear HO728
             clear BK664
             clear BK665
             clear BK688
             clear BK693
             clear HB
             have HO_6 := n0_
             have HO_10 := n1_
             have HO_689000 := n2_
             have HO_689001 := n3_
             have HO_694000 := n4_
             have HO722 := n5_
             have HO725 := n6_
             have HO728 := n7_
             have HO732 := n8_
             have BK664 := n9_
             have BK665 := n10_
             have BK688 := n11_
             have BK693 := n12_
             have HB := n13_
             clear n0_ n1_ n2_ n3_ n4_ n5_ n6_ n7_ n8_ n9_ n10_ n11_ n12_ n13_
             (try clear hb)
             (try clear hb2)
             (try clear hk)
             (try clear hi)
             (try clear ho0)
             refine hK.out _ _ ⟨(E BK664.out 0).trans rfl, (E BK664.out 1).trans rfl, (E BK665.out 0).trans rfl, (E BK665.out 1).trans rfl⟩ (fun hHeld => ?_)
             clear hK K
             refine norm_ (a' := ?_) ?_ ?_
             rotate_left
             ·show Act.put _ (some 99) _ = _
              simp only [Act.put, z1', z2', z3', i64_w, i32_w]
              rfl
             refine pure_ (i := 5) (N := some 94) (v := ?_) (a' := ?_) #[y', y', y', y', y', y', n', n', n', n'] rfl rfl (any_of HT_.out (by kernel_rfl)) (fun _ _ _ h => h) (Or.inl ⟨by rfl, ?_⟩) ?_ ?_
             rotate_left
             ·intro w'
              go_simp
              with_reducible rfl
             rotate_left
             ·simp only [Act.put, z1', z2', z3', i64_w, i32_w]
              rfl
             refine pure_ (i := 6) (N := some 100) (v := ?_) (a' := ?_) #[y', y', y', y', y', y', y', n', n', n'] rfl rfl (any_of HT_.out (by kernel_rfl)) (fun _ _ _ h => h) (Or.inl ⟨by rfl, ?_⟩) ?_ ?_
             rotate_left
             ·intro w'
              go_simp
              with_reducible rfl
             rotate_left
             ·simp only [Act.put, z1', z2', z3', i64_w, i32_w]
              rfl
             refine pure_ (i := 7) (N := some 101) (v := ?_) (a' := ?_) #[y', y', y', y', y', y', y', y', n', n'] rfl rfl (any_of HT_.out (by kernel_rfl)) (fun _ _ _ h => h) (Or.inl ⟨by rfl, ?_⟩) ?_ ?_
             rotate_left
             ·intro w'
              go_simp
              with_reducible rfl
             rotate_left
             ·simp only [Act.put, z1', z2', z3', i64_w, i32_w]
              rfl
             refine pure_ (i := 8) (N := some 15) (v := ?_) (a' := ?_) #[y', y', y', y', y', y', y', y', y', n'] rfl rfl (any_of HT_.out (by kernel_rfl)) (fun _ _ _ h => h) (Or.inl ⟨by rfl, ?_⟩) ?_ ?_
             rotate_left
             ·intro w'
              go_simp
              with_reducible rfl
             rotate_left
             ·simp only [Act.put, z1', z2', z3', i64_w, i32_w]
              rfl
             refine pure_ (i := 9) (N := some 16) (v := ?_) (a' := ?_) #[y', y', y', y', y', y', y', y', y', y'] rfl rfl (any_of HT_.out (by kernel_rfl)) (fun _ _ _ h => h) (Or.inl ⟨by rfl, ?_⟩) ?_ ?_
             rotate_left
             ·intro w'
              go_simp
              with_reducible rfl
             rotate_left
             ·simp only [Act.put, z1', z2', z3', i64_w, i32_w]
              rfl
             refine done_ (done_of HT_.out (by kernel_rfl)) ?_
             go_upto_region 32 with (fail)
             go_cut [110] (fun v110 wc => ∃ (kq : Nat) (x110_108 : Bool), v110 = .bool x110_108 ∧ Aside0 (laws_FnExactPushedWires.j2 kq t718 t717 x110_108 = some r) ∧ Aside0 (kq ≤ kj72) ∧ Aside0 (Kd.R (Kd.int .i64) 2 wc w.heap.size (fun k_ => some k_ ≠ ((.slice Ao51 t715.length co51) : Value).ownBlock) (.slice Ao110 t694.length co110) t718) ∧ Aside0 (Kd.R k82 82 wc w.heap.size (fun _ => True) (.slice Ao43 t712.length co43) t712) ∧ Aside0 (Kd.R k84 84 wc w.heap.size (fun _ => True) (.slice Ao47 t713.length co47) t713) ∧ Aside0 (Kd.R (Kd.int .i64) 2 wc w.heap.size (fun k_ => some k_ ≠ ((.slice Ao110 t694.length co110) : Value).ownBlock) (.slice Ao51 t715.length co51) t715) ∧ Aside0 (wc.heap[gb664]? = some (.cells #[(.slice A0_0 l0_0.length c0_0), (.slice A0_1 l0_1.length c0_1)] 33 (0, 0))) ∧ Aside0 (wc.heap[gb665]? = some (.cells #[(.slice A1_0 l1_0.length c1_0), .int .i64 a1_1] 24 (0, 0))) ∧ Aside0 (wc.heap[gb688]? = some (.cells #[(.slice Ao43 t712.length co43), (.slice Ao47 t713.length co47)] 39 (0, 0))) ∧ Aside0 (wc.heap[gb693]? = some (.cells #[(.slice Ao51 t715.length co51), .int .i64 t692] 27 (0, 0))) ∧ Aside0 (Below w.heap.size w wc))
             case first =>
              have H := HC109.out
              clear HC109
              replace H := Option.bind_eq_some_iff.mp H
              obtain ⟨t734, A1190, H⟩ := H
              replace H : (if t734 = true then (laws_FnExactPushedWires.j2 kj72 t718 t717 (t733 != t681)) else (laws_FnExactPushedWires.j2 kj72 t718 t717 true)) = some r := H
              have A119 := G A1190
              clear A1190
              by_cases c120 : t734 = true
              ·subst c120
               have H1 : (laws_FnExactPushedWires.j2 kj72 t718 t717 (t733 != t681)) = some r := by rw [if_pos rfl] at H; exact H
               clear H
               have H := H1
               clear H1
               have H' := G H
               clear H
               obtain ⟨Ao121, co121, eo121⟩ := Kd.R_slice HO732.out
               subst eo121
               obtain ⟨Ao122, co122, eo122⟩ := Kd.R_slice HO_6.out
               subst eo122
               go_wp2_with (first | ((with_reducible refine gate_callee (f := 35) rfl ?_); refine goesL_ (some 104) rfl rfl Try.func35 (by kernel_rfl) rfl #[.slice Ao121 t730.length co121, .slice Ao122 t678.length co122] rfl (by (try simp only [List.map_toArray, List.map_cons, List.map_nil]); first | done | rfl | (simp only [List.length_drop, List.length_take]; rfl)) ?_; (with_reducible refine (laws_eqInt64S.calls kj72 _ _ t730 _ _ t678 true _ ?side1 ?side2 ?side3 ?side4 A119.out).mono ?_); (case side1 => repeat (first | exact (Kd.R_reads' HO732.out).2.2 | (with_reducible refine GG ?_ _) | (with_reducible refine GJ ?_ _) | (with_reducible refine GL ?_))); (case side2 => exact (Kd.R_reads' HO732.out).2.1); (case side3 => repeat (first | exact (Kd.R_reads' HO_6.out).2.2 | (with_reducible refine GG ?_ _) | (with_reducible refine GJ ?_ _) | (with_reducible refine GL ?_))); (case side4 => exact (Kd.R_reads' HO_6.out).2.1); rintro e w' ⟨rfl, ⟨nd, rfl⟩⟩; refine ⟨_, rfl, ?_⟩))
               go_meet
               case rel => exact ⟨_, ((t733 != t681)), (by first | rfl | (simp; done) | (simp [*]; done)), H', ⟨by have := HJ24.out; have := HJ72.out; first | omega | exact Nat.le_refl _⟩, ⟨by (try simp only [hl689000_72]); (try simp only [hl689001_72]); (try simp only [hl694000_72]); (with_reducible repeat (first | apply J | apply L | apply M)); exact P HO_10.out (fun _ hk => hk.1.1.2)⟩, ⟨by (try simp only [hl689000_72]); (try simp only [hl689001_72]); (try simp only [hl694000_72]); (with_reducible repeat (first | apply J | apply L | apply M)); exact P HO_689000.out (fun _ hk => trivial)⟩, ⟨by (try simp only [hl689000_72]); (try simp only [hl689001_72]); (try simp only [hl694000_72]); (with_reducible repeat (first | apply J | apply L | apply M)); exact P HO_689001.out (fun _ hk => trivial)⟩, ⟨by (try simp only [hl689000_72]); (try simp only [hl689001_72]); (try simp only [hl694000_72]); (with_reducible repeat (first | apply J | apply L | apply M)); exact P HO_694000.out (fun _ hk => by first | exact hk.1.1.2 | exact hk.1.1.1)⟩, ⟨by (try simp only [hl689000_72]); (try simp only [hl689001_72]); (try simp only [hl694000_72]); (with_reducible repeat (first | refine U ?_ _ | refine X ?_ | refine V ?_ _)); exact BK664.out⟩, ⟨by (try simp only [hl689000_72]); (try simp only [hl689001_72]); (try simp only [hl694000_72]); (with_reducible repeat (first | refine U ?_ _ | refine X ?_ | refine V ?_ _)); exact BK665.out⟩, ⟨by (try simp only [hl689000_72]); (try simp only [hl689001_72]); (try simp only [hl694000_72]); (with_reducible repeat (first | refine U ?_ _ | refine X ?_ | refine V ?_ _)); exact BK688.out⟩, ⟨by (try simp only [hl689000_72]); (try simp only [hl689001_72]); (try simp only [hl694000_72]); (with_reducible repeat (first | refine U ?_ _ | refine X ?_ | refine V ?_ _)); exact BK693.out⟩, ⟨by repeat (first | (with_reducible first | exact HB.out | apply Z | apply T | apply Y | refine O ?_ GE664.out | refine O ?_ GE665.out | refine O ?_ GE688.out | refine O ?_ GE693.out) | exact HB.out)⟩⟩
              ·replace c120 := Bool.eq_false_iff.mpr c120
               subst c120
               have H1 : (laws_FnExactPushedWires.j2 kj72 t718 t717 true) = some r := by rw [if_neg (show ¬ (false = true) by decide)] at H; exact H
               clear H
               have H := H1
               clear H1
               have H' := G H
               clear H
               obtain ⟨Ao123, co123, eo123⟩ := Kd.R_slice HO732.out
               subst eo123
               obtain ⟨Ao124, co124, eo124⟩ := Kd.R_slice HO_6.out
               subst eo124
               go_wp2_with (first | ((with_reducible refine gate_callee (f := 35) rfl ?_); refine goesL_ (some 104) rfl rfl Try.func35 (by kernel_rfl) rfl #[.slice Ao123 t730.length co123, .slice Ao124 t678.length co124] rfl (by (try simp only [List.map_toArray, List.map_cons, List.map_nil]); first | done | rfl | (simp only [List.length_drop, List.length_take]; rfl)) ?_; (with_reducible refine (laws_eqInt64S.calls kj72 _ _ t730 _ _ t678 false _ ?side1 ?side2 ?side3 ?side4 A119.out).mono ?_); (case side1 => repeat (first | exact (Kd.R_reads' HO732.out).2.2 | (with_reducible refine GG ?_ _) | (with_reducible refine GJ ?_ _) | (with_reducible refine GL ?_))); (case side2 => exact (Kd.R_reads' HO732.out).2.1); (case side3 => repeat (first | exact (Kd.R_reads' HO_6.out).2.2 | (with_reducible refine GG ?_ _) | (with_reducible refine GJ ?_ _) | (with_reducible refine GL ?_))); (case side4 => exact (Kd.R_reads' HO_6.out).2.1); rintro e w' ⟨rfl, ⟨nd, rfl⟩⟩; refine ⟨_, rfl, ?_⟩))
               go_meet
               case rel => exact ⟨_, (true), (by first | rfl | (simp; done) | (simp [*]; done)), H', ⟨by have := HJ24.out; have := HJ72.out; first | omega | exact Nat.le_refl _⟩, ⟨by (try simp only [hl689000_72]); (try simp only [hl689001_72]); (try simp only [hl694000_72]); (with_reducible repeat (first | apply J | apply L | apply M)); exact P HO_10.out (fun _ hk => hk.1.1.2)⟩, ⟨by (try simp only [hl689000_72]); (try simp only [hl689001_72]); (try simp only [hl694000_72]); (with_reducible repeat (first | apply J | apply L | apply M)); exact P HO_689000.out (fun _ hk => trivial)⟩, ⟨by (try simp only [hl689000_72]); (try simp only [hl689001_72]); (try simp only [hl694000_72]); (with_reducible repeat (first | apply J | apply L | apply M)); exact P HO_689001.out (fun _ hk => trivial)⟩, ⟨by (try simp only [hl689000_72]); (try simp only [hl689001_72]); (try simp only [hl694000_72]); (with_reducible repeat (first | apply J | apply L | apply M)); exact P HO_694000.out (fun _ hk => by first | exact hk.1.1.2 | exact hk.1.1.1)⟩, ⟨by (try simp only [hl689000_72]); (try simp only [hl689001_72]); (try simp only [hl694000_72]); (with_reducible repeat (first | refine U ?_ _ | refine X ?_ | refine V ?_ _)); exact BK664.out⟩, ⟨by (try simp only [hl689000_72]); (try simp only [hl689001_72]); (try simp only [hl694000_72]); (with_reducible repeat (first | refine U ?_ _ | refine X ?_ | refine V ?_ _)); exact BK665.out⟩, ⟨by (try simp only [hl689000_72]); (try simp only [hl689001_72]); (try simp only [hl694000_72]); (with_reducible repeat (first | refine U ?_ _ | refine X ?_ | refine V ?_ _)); exact BK688.out⟩, ⟨by (try simp only [hl689000_72]); (try simp only [hl689001_72]); (try simp only [hl694000_72]); (with_reducible repeat (first | refine U ?_ _ | refine X ?_ | refine V ?_ _)); exact BK693.out⟩, ⟨by repeat (first | (with_reducible first | exact HB.out | apply Z | apply T | apply Y | refine O ?_ GE664.out | refine O ?_ GE665.out | refine O ?_ GE688.out | refine O ?_ GE693.out) | exact HB.out)⟩⟩
             case rest =>
              clear HC109
              try clear c1
              try clear c2
              try clear p2
              try clear c3
              try clear c4
              try clear c4b0
              try clear c5
              try clear c6
              try clear c7
              try clear c8
              try clear c9
              try clear c10
              try clear c11
              try clear c11b0
              try clear c12
              try clear c14
              try clear c16
              try clear c18
              try clear c19
              try clear c21
              try clear c23
              try clear c28
              try clear c35
              try clear c36
              try clear c37
              try clear c38
              try clear c44
              try clear c45
              try clear c49
              try clear c50
              try clear c51
              try clear c52
              try clear c53
              try clear c54
              try clear c59
              try clear c64
              try clear c67
              try clear c70
              try clear c83
              try clear c84
              try clear c85
              try clear c88
              try clear c89
              try clear c92
              try clear c92b0
              try clear c94
              try clear c99
              try clear c102
              try clear c102b0
              try clear c105
              try clear c105b0
              try clear c105b1
              try clear c120
              try clear hcz15_0
              try clear hcz15_1
              try clear hcz17_0
              try clear hcz17_1
              try clear hcz29_0
              try clear hcz29_1
              try clear hcz31_0
              try clear hcz31_1
              try clear hcz40_0
              try clear hcz40_1
              try clear hcz46_0
              try clear hcz46_1
              try clear hcz48_0
              try clear hcz48_1
              try clear hcz55_0
              try clear hcz55_1
              try clear hcz56_0
              try clear hcz56_1
              try clear hcz86_0
              try clear hcz86_1
              try clear hcz8_0
              try clear hcz8_1
              try clear hcz90_0
              try clear hcz90_1
              try clear hfz15_0
              try clear hfz15_1
              try clear hfz17_0
              try clear hfz17_1
              try clear hfz29_0
              try clear hfz29_1
              try clear hfz31_0
              try clear hfz31_1
              try clear hfz40_0
              try clear hfz40_1
              try clear hfz46_0
              try clear hfz46_1
              try clear hfz48_0
              try clear hfz48_1
              try clear hfz55_0
              try clear hfz55_1
              try clear hfz56_0
              try clear hfz56_1
              try clear hfz86_0
              try clear hfz86_1
              try clear hfz8_0
              try clear hfz8_1
              try clear hfz90_0
              try clear hfz90_1
              try clear p2
              obtain ⟨kq, x110_108, rfl, HA, HJ108, HO_10, HO_689000, HO_689001, HO_694000, BK664, BK665, BK688, BK693, HB⟩ := hcut
              have hl10_108 := (Kd.R_reads' HO_10.out).1
              rw [hl10_108] at HO_10
              (try simp only [hl10_108])
              (try simp only [hl10_108] at BK664)
              (try simp only [hl10_108] at BK665)
              (try simp only [hl10_108] at BK688)
              (try simp only [hl10_108] at BK693)
              (try simp only [hl10_108] at HO_689000)
              (try simp only [hl10_108] at HO_689001)
              (try simp only [hl10_108] at HO_694000)
              cases kq with
              | zero => exact absurd HA.out (by simp [laws_FnExactPushedWires.j2])
              | succ kj108 =>
               have H := HA.out
               clear HA
               simp only [laws_FnExactPushedWires.j2] at H
               by_cases c125 : x110_108 = true
               ·subst c125
                have H1 : (some false) = some r := by rw [if_pos rfl] at H; exact H
                clear H
                have H := H1
                clear H1
                obtain rfl := Option.some.inj H
                go_wp2
                go_ret
                exact ⟨by first | rfl | (simp [errW_none, errW_some] <;> rfl) | (simp [*, errW_none, errW_some] <;> rfl), by repeat (first | (with_reducible first | exact HB.out | apply Z | apply T | apply Y | refine O ?_ GE664.out | refine O ?_ GE665.out | refine O ?_ GE688.out | refine O ?_ GE693.out) | exact HB.out)⟩
               ·replace c125 := Bool.eq_false_iff.mpr c125
                subst c125
                have H1 : ((laws_heldInt64S.f kj108 t718 1).bind fun t735 => (if t735 < 0 then (some false) else (if t735 = t717 then (some true) else (some false)))) = some r := by rw [if_neg (show ¬ (false = true) by decide)] at H; exact H
                clear H
                have H := H1
                clear H1
                replace H := Option.bind_eq_some_iff.mp H
                obtain ⟨t735, A1260, H⟩ := H
                replace H : (if t735 < 0 then (some false) else (if t735 = t717 then (some true) else (some false))) = some r := H
                have A126 := G A1260
                clear A1260
                by_cases c127 : t735 < 0
                ·rw [if_pos c127] at H
                 have c127b0 : decide (t735 < 0) = true := decide_eq_true c127
                 clear c127
                 obtain rfl := Option.some.inj H
                 go_wp2_with (first | ((with_reducible refine gate_callee (f := 38) rfl ?_); refine goesL_ (some 113) rfl rfl Try.func38 (by kernel_rfl) rfl #[.slice Ao110 t718.length co110, .int .i64 1] rfl (by (try simp only [List.map_toArray, List.map_cons, List.map_nil]); first | done | rfl | (simp only [List.length_drop, List.length_take]; rfl)) ?_; (with_reducible refine (laws_heldInt64S.calls kj108 _ _ t718 1 t735 _ ?side1 ?side2 A126.out).mono ?_); (case side1 => repeat (first | exact (Kd.R_reads' HO_10.out).2.2 | (with_reducible refine GG ?_ _) | (with_reducible refine GJ ?_ _) | (with_reducible refine GL ?_))); (case side2 => exact (Kd.R_reads' HO_10.out).2.1); rintro e w' ⟨rfl, ⟨nd, rfl⟩⟩; refine ⟨_, rfl, ?_⟩))
                 go_ret
                 exact ⟨by first | rfl | (simp [errW_none, errW_some] <;> rfl) | (simp [*, errW_none, errW_some] <;> rfl), by repeat (first | (with_reducible first | exact HB.out | apply Z | apply T | apply Y | refine O ?_ GE664.out | refine O ?_ GE665.out | refine O ?_ GE688.out | refine O ?_ GE693.out) | exact HB.out)⟩
                ·rw [if_neg c127] at H
                 have c127b0 : decide (t735 < 0) = false := decide_eq_false c127
                 clear c127
                 by_cases c128 : t735 = t717
                 ·rw [if_pos c128] at H
                  have c128b0 : (t735 == t717) = true := beq_iff_eq.mpr c128
                  have c128b1 : (t735 != t717) = false := bne_eq_false_iff_eq.mpr c128
                  clear c128
                  obtain rfl := Option.some.inj H
                  go_wp2_with (first | ((with_reducible refine gate_callee (f := 38) rfl ?_); refine goesL_ (some 113) rfl rfl Try.func38 (by kernel_rfl) rfl #[.slice Ao110 t718.length co110, .int .i64 1] rfl (by (try simp only [List.map_toArray, List.map_cons, List.map_nil]); first | done | rfl | (simp only [List.length_drop, List.length_take]; rfl)) ?_; (with_reducible refine (laws_heldInt64S.calls kj108 _ _ t718 1 t735 _ ?side1 ?side2 A126.out).mono ?_); (case side1 => repeat (first | exact (Kd.R_reads' HO_10.out).2.2 | (with_reducible refine GG ?_ _) | (with_reducible refine GJ ?_ _) | (with_reducible refine GL ?_))); (case side2 => exact (Kd.R_reads' HO_10.out).2.1); rintro e w' ⟨rfl, ⟨nd, rfl⟩⟩; refine ⟨_, rfl, ?_⟩))
                  go_ret
                  exact ⟨by first | rfl | (simp [errW_none, errW_some] <;> rfl) | (simp [*, errW_none, errW_some] <;> rfl), by repeat (first | (with_reducible first | exact HB.out | apply Z | apply T | apply Y | refine O ?_ GE664.out | refine O ?_ GE665.out | refine O ?_ GE688.out | refine O ?_ GE693.out) | exact HB.out)⟩
                 ·rw [if_neg c128] at H
                  have c128b0 : (t735 == t717) = false := beq_eq_false_iff_ne.mpr c128
                  have c128b1 : (t735 != t717) = true := bne_iff_ne.mpr c128
                  obtain rfl := Option.some.inj H
                  go_wp2_with (first | ((with_reducible refine gate_callee (f := 38) rfl ?_); refine goesL_ (some 113) rfl rfl Try.func38 (by kernel_rfl) rfl #[.slice Ao110 t718.length co110, .int .i64 1] rfl (by (try simp only [List.map_toArray, List.map_cons, List.map_nil]); first | done | rfl | (simp only [List.length_drop, List.length_take]; rfl)) ?_; (with_reducible refine (laws_heldInt64S.calls kj108 _ _ t718 1 t735 _ ?side1 ?side2 A126.out).mono ?_); (case side1 => repeat (first | exact (Kd.R_reads' HO_10.out).2.2 | (with_reducible refine GG ?_ _) | (with_reducible refine GJ ?_ _) | (with_reducible refine GL ?_))); (case side2 => exact (Kd.R_reads' HO_10.out).2.1); rintro e w' ⟨rfl, ⟨nd, rfl⟩⟩; refine ⟨_, rfl, ?_⟩))
                  go_ret
                  exact ⟨by first | rfl | (simp [errW_none, errW_some] <;> rfl) | (simp [*, errW_none, errW_some] <;> rfl), by repeat (first | (with_reducible first | exact HB.out | apply Z | apply T | apply Y | refine O ?_ GE664.out | refine O ?_ GE665.out | refine O ?_ GE688.out | refine O ?_ GE693.out) | exact HB.out)⟩
            ·rw [if_neg c105] at H
             have c105b0 : (t719 == t717) = false := beq_eq_false_iff_ne.mpr c105
             have c105b1 : (t719 != t717) = true := bne_iff_ne.mpr c105
             obtain rfl := Option.some.inj H
             obtain ⟨Ao129, co129, eo129⟩ := Kd.R_slice HO_10.out
             subst eo129
             go_wp2_with (first | ((with_reducible refine gate_callee (f := 37) rfl ?_); refine goesL_ (some 85) rfl rfl Try.func37 (by kernel_rfl) rfl #[.slice Ao129 t694.length co129, .int .i64 1] rfl (by (try simp only [List.map_toArray, List.map_cons, List.map_nil]); first | done | rfl | (simp only [List.length_drop, List.length_take]; rfl)) ?_; (with_reducible refine (laws_markInt64S.calls kj72 (fun k_ => some k_ = (.slice Ao129 t694.length co129 : Value).ownBlock) (.slice Ao129 t694.length co129) t694 1 t717 t718 w _ ?side1 ?side2 A100.out).mono ?_); (case side1 => repeat (first | (with_reducible first | exact HB.out | apply Z | apply T | apply Y | refine O ?_ GE664.out | refine O ?_ GE665.out | refine O ?_ GE688.out | refine O ?_ GE693.out) | exact HB.out)); (case side2 => exact Kd.R_tight rfl HO_10.out); rintro e w130 ⟨rfl, hy0, hb, hkp⟩; refine ⟨_, rfl, ?_⟩; have n0_ := G (P (ok' := fun k_ => some k_ ≠ (.slice Ao129 t694.length co129 : Value).ownBlock ∧ some k_ ≠ (.slice Ao51 t715.length co51 : Value).ownBlock) (Kd.R_keptB (HO_6.out) hkp (fun k_ hk_ hs_ => (hk_.1) hs_)) (fun k_ hk_ => ⟨hk_.1.1, hk_.1.2⟩)); have n1_ := G (Kd.R_reok rfl hy0 (fun k_ e_ => HO_10.out.1 k_ e_)); have n2_ := G (P (ok' := fun k_ => True) (Kd.R_keptB ((Kd.R_apart' HO_689000.out (Kd.R_typed HO_10.out) (by decide))) hkp (fun k_ hk_ hs_ => (hk_.2) hs_)) (fun k_ hk_ => trivial)); have n3_ := G (P (ok' := fun k_ => True) (Kd.R_keptB ((Kd.R_apart' HO_689001.out (Kd.R_typed HO_10.out) (by decide))) hkp (fun k_ hk_ hs_ => (hk_.2) hs_)) (fun k_ hk_ => trivial)); have n4_ := G (P (ok' := fun k_ => some k_ ≠ (v679 : Value).ownBlock ∧ some k_ ≠ (.slice Ao129 t694.length co129 : Value).ownBlock) (Kd.R_keptB (HO_694000.out) hkp (fun k_ hk_ hs_ => (hk_.2) hs_)) (fun k_ hk_ => ⟨hk_.1.1, hk_.1.2⟩)); have n5_ := G (blk_kept (by (with_reducible repeat (first | refine U ?_ _ | refine X ?_ | refine V ?_ _)); exact BK664.out) hkp (fun hs_ => (fun e_ => (Kd.R_ne HO_10.out BK664.out (by decide)) e_) hs_)); have n6_ := G (blk_kept (by (with_reducible repeat (first | refine U ?_ _ | refine X ?_ | refine V ?_ _)); exact BK665.out) hkp (fun hs_ => (fun e_ => (Kd.R_ne HO_10.out BK665.out (by decide)) e_) hs_)); have n7_ := G (blk_kept (by (with_reducible repeat (first | refine U ?_ _ | refine X ?_ | refine V ?_ _)); exact BK688.out) hkp (fun hs_ => (fun e_ => (Kd.R_ne HO_10.out BK688.out (by decide)) e_) hs_)); have n8_ := G (blk_kept (by (with_reducible repeat (first | refine U ?_ _ | refine X ?_ | refine V ?_ _)); exact BK693.out) hkp (fun hs_ => (fun e_ => (Kd.R_ne HO_10.out BK693.out (by decide)) e_) hs_)); have n9_ := G (hb); clear HO_6; clear HO_10; clear HO_689000; clear HO_689001; clear HO_694000; clear BK664; clear BK665; clear BK688; clear BK693; clear HB; have HO_6 := n0_; have HO_10 := n1_; have HO_689000 := n2_; have HO_689001 := n3_; have HO_694000 := n4_; have BK664 := n5_; have BK665 := n6_; have BK688 := n7_; have BK693 := n8_; have HB := n9_; clear n0_ n1_ n2_ n3_ n4_ n5_ n6_ n7_ n8_ n9_; (try clear hb); (try clear hkp); (try clear hy0)) | ((with_reducible refine gate_callee (f := 38) rfl ?_); refine goesL_ (some 88) rfl rfl Try.func38 (by kernel_rfl) rfl #[.slice Ao129 t718.length co129, .int .i64 1] rfl (by (try simp only [List.map_toArray, List.map_cons, List.map_nil]); first | done | (rw [show t718.length = t694.length from (Kd.R_reads' HO_10.out).1.symm] <;> rfl) | rfl | (simp only [List.length_drop, List.length_take]; rfl)) ?_; (with_reducible refine (laws_heldInt64S.calls kj72 _ _ t718 1 t719 _ ?side1 ?side2 A101.out).mono ?_); (case side1 => repeat (first | exact (Kd.R_reads' HO_10.out).2.2 | (with_reducible refine GG ?_ _) | (with_reducible refine GJ ?_ _) | (with_reducible refine GL ?_))); (case side2 => rw [show t718.length = t694.length from (Kd.R_reads' HO_10.out).1.symm]; exact (Kd.R_reads' HO_10.out).2.1); rintro e w' ⟨rfl, ⟨nd, rfl⟩⟩; refine ⟨_, rfl, ?_⟩))
             go_ret
             exact ⟨by first | rfl | (simp [errW_none, errW_some] <;> rfl) | (simp [*, errW_none, errW_some] <;> rfl), by repeat (first | (with_reducible first | exact HB.out | apply Z | apply T | apply Y | refine O ?_ GE664.out | refine O ?_ GE665.out | refine O ?_ GE688.out | refine O ?_ GE693.out) | exact HB.out)⟩
       ·replace c70 := Bool.eq_false_iff.mpr c70
        subst c70
        have H1 : (some false) = some r := by rw [if_neg (show ¬ (false = true) by decide)] at H; exact H
        clear H
        have H := H1
        clear H1
        obtain rfl := Option.some.inj H
        try go_wp2
        have n0_ := G (M HO_6.out)
        have n1_ := G (M HO_10.out)
        have n2_ := G (M HO_689000.out)
        have n3_ := G (M HO_689001.out)
        have n4_ := G (M HO_694000.out)
        have n5_ := G (X BK664.out)
        have n6_ := G (X BK665.out)
        have n7_ := G (X BK688.out)
        have n8_ := G (X BK693.out)
        have n9_ := G (Y HB.out)
        clear HO_6
        clear HO_10
        clear HO_689000
        clear HO_689001
        clear HO_694000
        clear BK664
        clear BK665
        clear BK688
        clear BK693
        clear HB
        have HO_6 := n0_
        have HO_10 := n1_
        have HO_689000 := n2_
        have HO_689001 := n3_
        have HO_694000 := n4_
        have BK664 := n5_
        have BK665 := n6_
        have BK688 := n7_
        have BK693 := n8_
        have HB := n9_
        clear n0_ n1_ n2_ n3_ n4_ n5_ n6_ n7_ n8_ n9_
        refine start_ (n := 5) (S := fun w' => w'.cell? ⟨gb688, 0, none⟩ = some (.slice Ao43 t682.length co43) ∧ w'.cell? ⟨gb688, 1, none⟩ = some (.slice Ao47 t685.length co47) ∧ w'.cell? ⟨gb664, 0, none⟩ = some (.slice A0_0 l0_0.length c0_0) ∧ w'.cell? ⟨gb664, 1, none⟩ = some (.slice A0_1 l0_1.length c0_1)) (ds := []) #[n', n', n', n', n'] (by kernel_rfl) rfl rfl ⟨(E BK688.out 0).trans rfl, (E BK688.out 1).trans rfl, (E BK664.out 0).trans rfl, (E BK664.out 1).trans rfl⟩ (fun hHeld => ?_)
        generalize wc.drew = w131 at HO_6 HO_10 HO_689000 HO_689001 HO_694000 BK664 BK665 BK688 BK693 HB hHeld ⊢
        refine take_ (i := 0) (N := some 54) (v := ?_) (a' := ?_) #[y', n', n', n', n'] rfl rfl (by kernel_rfl) (fun _ _ _ h => h) (Or.inl ⟨by rfl, ?_⟩) hHeld ?_ ?_
        rotate_left
        ·rintro w' ⟨s0, s1, s2, s3⟩
         go_simp
         with_reducible rfl
        rotate_left
        ·simp only [Act.put, z1', z2', z3', i64_w, i32_w]
         rfl
        refine take_ (i := 1) (N := some 55) (v := ?_) (a' := ?_) #[y', y', n', n', n'] rfl rfl (by kernel_rfl) (fun _ _ _ h => h) (Or.inl ⟨by rfl, ?_⟩) hHeld ?_ ?_
        rotate_left
        ·rintro w' ⟨s0, s1, s2, s3⟩
         go_simp
         with_reducible rfl
        rotate_left
        ·simp only [Act.put, z1', z2', z3', i64_w, i32_w]
         rfl
        refine one_ (i := 2) (N := some 56) #[y', y', y', n', n'] rfl rfl (by kernel_rfl) (by decide) (fun K hK => ?_)
        refine goes_ Try.func21 (by kernel_rfl) rfl #[.agg #[.slice A0_0 l0_0.length c0_0, .slice A0_1 l0_1.length c0_1]] (by rfl) rfl rfl (by (try simp only [List.map_toArray, List.map_cons, List.map_nil]); first | done | rfl | (simp only [List.length_drop, List.length_take]; rfl)) ?_
        with_reducible refine (laws_toFrame.calls kj24 _ _ l0_0 _ _ l0_1 t699 t702 _ ?side1 ?side2 ?side3 ?side4 A65.out).mono ?_
        (case side1 => repeat (first | exact (GT HR0_0.out HB.out) | (with_reducible refine GG ?_ _) | (with_reducible refine GJ ?_ _) | (with_reducible refine GL ?_)))
        (case side2 => exact HC0_0.out)
        (case side3 => repeat (first | exact (GT HR0_1.out HB.out) | (with_reducible refine GG ?_ _) | (with_reducible refine GJ ?_ _) | (with_reducible refine GL ?_)))
        (case side4 => exact HC0_1.out)
        rintro e w132 ⟨v700, v703, rfl, ho0, ho1, hb⟩
        refine ⟨_, rfl, ?_⟩
        have n0_ := G (B (by (with_reducible repeat (first | apply J | apply L | apply M)); exact HO_6.out) hb)
        have n1_ := G (B (by (with_reducible repeat (first | apply J | apply L | apply M)); exact HO_10.out) hb)
        have n2_ := G (Kd.R_elder' (by (with_reducible repeat (first | apply J | apply L | apply M)); exact HO_689000.out) (Kd.R_base ho0) hb)
        have n3_ := G (Kd.R_elder' (by (with_reducible repeat (first | apply J | apply L | apply M)); exact HO_689001.out) (Kd.R_base ho1) hb)
        have n4_ := G (B (by (with_reducible repeat (first | apply J | apply L | apply M)); exact HO_694000.out) hb)
        have n5_ := G (Kd.R_lower (GM ho0 (Kd.R_lt (by (with_reducible repeat (first | apply J | apply L | apply M)); exact HO_689000.out))) (GN (by repeat (first | (with_reducible first | exact HB.out | apply Z | apply T | apply Y | refine O ?_ GE664.out | refine O ?_ GE665.out | refine O ?_ GE688.out | refine O ?_ GE693.out) | exact HB.out))))
        have n6_ := G (Kd.R_lower (GM ho1 (Kd.R_lt (by (with_reducible repeat (first | apply J | apply L | apply M)); exact HO_689001.out))) (GN (by repeat (first | (with_reducible first | exact HB.out | apply Z | apply T | apply Y | refine O ?_ GE664.out | refine O ?_ GE665.out | refine O ?_ GE688.out | refine O ?_ GE693.out) | exact HB.out))))
        have n7_ := G (F (g := gb664) (o := .cells #[.slice A0_0 l0_0.length c0_0, .slice A0_1 l0_1.length c0_1] 33 (0, 0)) (by (with_reducible repeat (first | refine U ?_ _ | refine X ?_ | refine V ?_ _)); exact BK664.out) hb)
        have n8_ := G (F (g := gb665) (o := .cells #[.slice A1_0 l1_0.length c1_0, .int .i64 a1_1] 24 (0, 0)) (by (with_reducible repeat (first | refine U ?_ _ | refine X ?_ | refine V ?_ _)); exact BK665.out) hb)
        have n9_ := G (F (g := gb688) (o := .cells #[.slice Ao43 t682.length co43, .slice Ao47 t685.length co47] 39 (0, 0)) (by (with_reducible repeat (first | refine U ?_ _ | refine X ?_ | refine V ?_ _)); exact BK688.out) hb)
        have n10_ := G (F (g := gb693) (o := .cells #[.slice Ao51 t689.length co51, .int .i64 t692] 27 (0, 0)) (by (with_reducible repeat (first | refine U ?_ _ | refine X ?_ | refine V ?_ _)); exact BK693.out) hb)
        have n11_ := G (GO (by repeat (first | (with_reducible first | exact HB.out | apply Z | apply T | apply Y | refine O ?_ GE664.out | refine O ?_ GE665.out | refine O ?_ GE688.out | refine O ?_ GE693.out) | exact HB.out)) hb)
        clear HO_6
        clear HO_10
        clear HO_689000
        clear HO_689001
        clear HO_694000
        clear BK664
        clear BK665
        clear BK688
        clear BK693
        clear HB
        have HO_6 := n0_
        have HO_10 := n1_
        have HO_689000 := n2_
        have HO_689001 := n3_
        have HO_694000 := n4_
        have HO701 := n5_
        have HO704 := n6_
        have BK664 := n7_
        have BK665 := n8_
        have BK688 := n9_
        have BK693 := n10_
        have HB := n11_
        clear n0_ n1_ n2_ n3_ n4_ n5_ n6_ n7_ n8_ n9_ n10_ n11_
        (try clear hb)
        (try clear hb2)
        (try clear hk)
        (try clear hi)
        (try clear ho0)
        (try clear ho1)
        obtain ⟨Ao133, co133, eo133⟩ := Kd.R_slice HO701.out
        (first | subst eo133 | (injection eo133 with f1_ f2_ f3_; have f4_ := f1_.symm; have f5_ := f3_.symm; clear f1_ f2_ f3_; subst f4_; subst f5_))
        obtain ⟨Ao134, co134, eo134⟩ := Kd.R_slice HO704.out
        (first | subst eo134 | (injection eo134 with f1_ f2_ f3_; have f4_ := f1_.symm; have f5_ := f3_.symm; clear f1_ f2_ f3_; subst f4_; subst f5_))
        refine hK.out _ _ ⟨(E BK688.out 0).trans rfl, (E BK688.out 1).trans rfl, (E BK664.out 0).trans rfl, (E BK664.out 1).trans rfl⟩ (fun hHeld => ?_)
        clear hK K
        refine norm_ (a' := ?_) ?_ ?_
        rotate_left
        ·show Act.put _ (some 56) _ = _
         simp only [Act.put, z1', z2', z3', i64_w, i32_w]
         rfl
        refine one_ (i := 3) (N := some 57) #[y', y', y', y', n'] rfl rfl (by kernel_rfl) (by decide) (fun K hK => ?_)
        refine goes_ Try.func23 (by kernel_rfl) rfl #[.agg #[.slice Ao43 t682.length co43, .slice Ao47 t685.length co47], .agg #[.slice Ao133 t699.length co133, .slice Ao134 t702.length co134]] (by rfl) rfl rfl (by (try simp only [List.map_toArray, List.map_cons, List.map_nil]); first | done | rfl | (simp only [List.length_drop, List.length_take]; rfl)) ?_
        with_reducible refine (laws_eqFrame.calls kj24 _ _ t682 _ _ t685 _ _ t699 _ _ t702 true _ ?side1 ?side2 ?side3 ?side4 ?side5 ?side6 ?side7 ?side8 A66.out).mono ?_
        (case side1 => repeat (first | exact (Kd.R_reads' HO_689000.out).2.2 | (with_reducible refine GG ?_ _) | (with_reducible refine GJ ?_ _) | (with_reducible refine GL ?_)))
        (case side2 => exact (Kd.R_reads' HO_689000.out).2.1)
        (case side3 => repeat (first | exact (Kd.R_reads' HO_689001.out).2.2 | (with_reducible refine GG ?_ _) | (with_reducible refine GJ ?_ _) | (with_reducible refine GL ?_)))
        (case side4 => exact (Kd.R_reads' HO_689001.out).2.1)
        (case side5 => repeat (first | exact (Kd.R_reads' HO701.out).2.2 | (with_reducible refine GG ?_ _) | (with_reducible refine GJ ?_ _) | (with_reducible refine GL ?_)))
        (case side6 => exact (Kd.R_reads' HO701.out).2.1)
        (case side7 => repeat (first | exact (Kd.R_reads' HO704.out).2.2 | (with_reducible refine GG ?_ _) | (with_reducible refine GJ ?_ _) | (with_reducible refine GL ?_)))
        (case side8 => exact (Kd.R_reads' HO704.out).2.1)
        rintro e w135 ⟨rfl, hb⟩
        refine ⟨_, rfl, ?_⟩
        have n0_ := G (B (by (with_reducible repeat (first | apply J | apply L | apply M)); exact HO_6.out) hb)
        have n1_ := G (B (by (with_reducible repeat (first | apply J | apply L | apply M)); exact HO_10.out) hb)
        have n2_ := G (B (by (with_reducible repeat (first | apply J | apply L | apply M)); exact HO_689000.out) hb)
        have n3_ := G (B (by (with_reducible repeat (first | apply J | apply L | apply M)); exact HO_689001.out) hb)
        have n4_ := G (B (by (with_reducible repeat (first | apply J | apply L | apply M)); exact HO_694000.out) hb)
        have n5_ := G (B (by (with_reducible repeat (first | apply J | apply L | apply M)); exact HO701.out) hb)
        have n6_ := G (B (by (with_reducible repeat (first | apply J | apply L | apply M)); exact HO704.out) hb)
        have n7_ := G (F (g := gb664) (o := .cells #[.slice A0_0 l0_0.length c0_0, .slice A0_1 l0_1.length c0_1] 33 (0, 0)) (by (with_reducible repeat (first | refine U ?_ _ | refine X ?_ | refine V ?_ _)); exact BK664.out) hb)
        have n8_ := G (F (g := gb665) (o := .cells #[.slice A1_0 l1_0.length c1_0, .int .i64 a1_1] 24 (0, 0)) (by (with_reducible repeat (first | refine U ?_ _ | refine X ?_ | refine V ?_ _)); exact BK665.out) hb)
        have n9_ := G (F (g := gb688) (o := .cells #[.slice Ao43 t682.length co43, .slice Ao47 t685.length co47] 39 (0, 0)) (by (with_reducible repeat (first | refine U ?_ _ | refine X ?_ | refine V ?_ _)); exact BK688.out) hb)
        have n10_ := G (F (g := gb693) (o := .cells #[.slice Ao51 t689.length co51, .int .i64 t692] 27 (0, 0)) (by (with_reducible repeat (first | refine U ?_ _ | refine X ?_ | refine V ?_ _)); exact BK693.out) hb)
        have n11_ := G (GO (by repeat (first | (with_reducible first | exact HB.out | apply Z | apply T | apply Y | refine O ?_ GE664.out | refine O ?_ GE665.out | refine O ?_ GE688.out | refine O ?_ GE693.out) | exact HB.out)) hb)
        clear HO_6
        clear HO_10
        clear HO_689000
        clear HO_689001
        clear HO_694000
        clear HO701
        clear HO704
        clear BK664
        clear BK665
        clear BK688
        clear BK693
        clear HB
        have HO_6 := n0_
        have HO_10 := n1_
        have HO_689000 := n2_
        have HO_689001 := n3_
        have HO_694000 := n4_
        have HO701 := n5_
        have HO704 := n6_
        have BK664 := n7_
        have BK665 := n8_
        have BK688 := n9_
        have BK693 := n10_
        have HB := n11_
        clear n0_ n1_ n2_ n3_ n4_ n5_ n6_ n7_ n8_ n9_ n10_ n11_
        (try clear hb)
        (try clear hb2)
        (try clear hk)
        (try clear hi)
        refine hK.out _ _ ⟨(E BK688.out 0).trans rfl, (E BK688.out 1).trans rfl, (E BK664.out 0).trans rfl, (E BK664.out 1).trans rfl⟩ (fun hHeld => ?_)
        clear hK K
        refine norm_ (a' := ?_) ?_ ?_
        rotate_left
        ·show Act.put _ (some 57) _ = _
         simp only [Act.put, z1', z2', z3', i64_w, i32_w]
         rfl
        refine pure_ (i := 4) (N := some 58) (v := ?_) (a' := ?_) #[y', y', y', y', y'] rfl rfl (by kernel_rfl) (fun _ _ _ h => h) (Or.inl ⟨by rfl, ?_⟩) ?_ ?_
        rotate_left
        ·intro w'
         go_simp
         with_reducible rfl
        rotate_left
        ·simp only [Act.put, z1', z2', z3', i64_w, i32_w]
         rfl
        refine done_ (by kernel_rfl) ?_
        try go_wp2
        have n0_ := G (M HO_6.out)
        have n1_ := G (M HO_10.out)
        have n2_ := G (M HO_689000.out)
        have n3_ := G (M HO_689001.out)
        have n4_ := G (M HO_694000.out)
        have n5_ := G (M HO701.out)
        have n6_ := G (M HO704.out)
        have n7_ := G (X BK664.out)
        have n8_ := G (X BK665.out)
        have n9_ := G (X BK688.out)
        have n10_ := G (X BK693.out)
        have n11_ := G (Y HB.out)
        clear HO_6
        clear HO_10
        clear HO_689000
        clear HO_689001
        clear HO_694000
        clear HO701
        clear HO704
        clear BK664
        clear BK665
        clear BK688
        clear BK693
        clear HB
        have HO_6 := n0_
        have HO_10 := n1_
        have HO_689000 := n2_
        have HO_689001 := n3_
        have HO_694000 := n4_
        have HO701 := n5_
        have HO704 := n6_
        have BK664 := n7_
        have BK665 := n8_
        have BK688 := n9_
        have BK693 := n10_
        have HB := n11_
        clear n0_ n1_ n2_ n3_ n4_ n5_ n6_ n7_ n8_ n9_ n10_ n11_
        refine start_ (n := 5) (S := fun w' => w'.cell? ⟨gb693, 0, none⟩ = some (.slice Ao51 t689.length co51) ∧ w'.cell? ⟨gb693, 1, none⟩ = some (.int .i64 t692) ∧ w'.cell? ⟨gb665, 0, none⟩ = some (.slice A1_0 l1_0.length c1_0) ∧ w'.cell? ⟨gb665, 1, none⟩ = some (.int .i64 a1_1)) (ds := []) #[n', n', n', n', n'] (by kernel_rfl) rfl rfl ⟨(E BK693.out 0).trans rfl, (E BK693.out 1).trans rfl, (E BK665.out 0).trans rfl, (E BK665.out 1).trans rfl⟩ (fun hHeld => ?_)
        generalize w135.drew = w136 at HO_6 HO_10 HO_689000 HO_689001 HO_694000 HO701 HO704 BK664 BK665 BK688 BK693 HB hHeld ⊢
        refine take_ (i := 0) (N := some 59) (v := ?_) (a' := ?_) #[y', n', n', n', n'] rfl rfl (by kernel_rfl) (fun _ _ _ h => h) (Or.inl ⟨by rfl, ?_⟩) hHeld ?_ ?_
        rotate_left
        ·rintro w' ⟨s0, s1, s2, s3⟩
         go_simp
         with_reducible rfl
        rotate_left
        ·simp only [Act.put, z1', z2', z3', i64_w, i32_w]
         rfl
        refine take_ (i := 1) (N := some 60) (v := ?_) (a' := ?_) #[y', y', n', n', n'] rfl rfl (by kernel_rfl) (fun _ _ _ h => h) (Or.inl ⟨by rfl, ?_⟩) hHeld ?_ ?_
        rotate_left
        ·rintro w' ⟨s0, s1, s2, s3⟩
         go_simp
         with_reducible rfl
        rotate_left
        ·simp only [Act.put, z1', z2', z3', i64_w, i32_w]
         rfl
        refine one_ (i := 2) (N := some 61) #[y', y', y', n', n'] rfl rfl (by kernel_rfl) (by decide) (fun K hK => ?_)
        refine goes_ Try.func16 (by kernel_rfl) rfl #[.agg #[.slice A1_0 l1_0.length c1_0, .int .i64 a1_1]] (by rfl) rfl rfl (by (try simp only [List.map_toArray, List.map_cons, List.map_nil]); first | done | rfl | (simp only [List.length_drop, List.length_take]; rfl)) ?_
        with_reducible refine (laws_toDensities.calls kj24 _ _ l1_0 a1_1 t706 t709 _ ?side1 ?side2 A68.out).mono ?_
        (case side1 => repeat (first | exact (GT HR1_0.out HB.out) | (with_reducible refine GG ?_ _) | (with_reducible refine GJ ?_ _) | (with_reducible refine GL ?_)))
        (case side2 => exact HC1_0.out)
        rintro e w137 ⟨v707, rfl, ho0, hb⟩
        refine ⟨_, rfl, ?_⟩
        have n0_ := G (Kd.R_elder' (by (with_reducible repeat (first | apply J | apply L | apply M)); exact HO_6.out) (Kd.R_base ho0) hb)
        have n1_ := G (Kd.R_elder' (by (with_reducible repeat (first | apply J | apply L | apply M)); exact HO_10.out) (Kd.R_base ho0) hb)
        have n2_ := G (B (by (with_reducible repeat (first | apply J | apply L | apply M)); exact HO_689000.out) hb)
        have n3_ := G (B (by (with_reducible repeat (first | apply J | apply L | apply M)); exact HO_689001.out) hb)
        have n4_ := G (Kd.R_elder' (by (with_reducible repeat (first | apply J | apply L | apply M)); exact HO_694000.out) (Kd.R_base ho0) hb)
        have n5_ := G (B (by (with_reducible repeat (first | apply J | apply L | apply M)); exact HO701.out) hb)
        have n6_ := G (B (by (with_reducible repeat (first | apply J | apply L | apply M)); exact HO704.out) hb)
        have n7_ := G (Kd.R_lower (GM (GM (GM ho0 (Kd.R_lt (by (with_reducible repeat (first | apply J | apply L | apply M)); exact HO_6.out))) (Kd.R_lt (by (with_reducible repeat (first | apply J | apply L | apply M)); exact HO_10.out))) (Kd.R_lt (by (with_reducible repeat (first | apply J | apply L | apply M)); exact HO_694000.out))) (GN (by repeat (first | (with_reducible first | exact HB.out | apply Z | apply T | apply Y | refine O ?_ GE664.out | refine O ?_ GE665.out | refine O ?_ GE688.out | refine O ?_ GE693.out) | exact HB.out))))
        have n8_ := G (F (g := gb664) (o := .cells #[.slice A0_0 l0_0.length c0_0, .slice A0_1 l0_1.length c0_1] 33 (0, 0)) (by (with_reducible repeat (first | refine U ?_ _ | refine X ?_ | refine V ?_ _)); exact BK664.out) hb)
        have n9_ := G (F (g := gb665) (o := .cells #[.slice A1_0 l1_0.length c1_0, .int .i64 a1_1] 24 (0, 0)) (by (with_reducible repeat (first | refine U ?_ _ | refine X ?_ | refine V ?_ _)); exact BK665.out) hb)
        have n10_ := G (F (g := gb688) (o := .cells #[.slice Ao43 t682.length co43, .slice Ao47 t685.length co47] 39 (0, 0)) (by (with_reducible repeat (first | refine U ?_ _ | refine X ?_ | refine V ?_ _)); exact BK688.out) hb)
        have n11_ := G (F (g := gb693) (o := .cells #[.slice Ao51 t689.length co51, .int .i64 t692] 27 (0, 0)) (by (with_reducible repeat (first | refine U ?_ _ | refine X ?_ | refine V ?_ _)); exact BK693.out) hb)
        have n12_ := G (GO (by repeat (first | (with_reducible first | exact HB.out | apply Z | apply T | apply Y | refine O ?_ GE664.out | refine O ?_ GE665.out | refine O ?_ GE688.out | refine O ?_ GE693.out) | exact HB.out)) hb)
        clear HO_6
        clear HO_10
        clear HO_689000
        clear HO_689001
        clear HO_694000
        clear HO701
        clear HO704
        clear BK664
        clear BK665
        clear BK688
        clear BK693
        clear HB
        have HO_6 := n0_
        have HO_10 := n1_
        have HO_689000 := n2_
        have HO_689001 := n3_
        have HO_694000 := n4_
        have HO701 := n5_
        have HO704 := n6_
        have HO708 := n7_
        have BK664 := n8_
        have BK665 := n9_
        have BK688 := n10_
        have BK693 := n11_
        have HB := n12_
        clear n0_ n1_ n2_ n3_ n4_ n5_ n6_ n7_ n8_ n9_ n10_ n11_ n12_
        (try clear hb)
        (try clear hb2)
        (try clear hk)
        (try clear hi)
        (try clear ho0)
        obtain ⟨Ao138, co138, eo138⟩ := Kd.R_slice HO708.out
        (first | subst eo138 | (injection eo138 with f1_ f2_ f3_; have f4_ := f1_.symm; have f5_ := f3_.symm; clear f1_ f2_ f3_; subst f4_; subst f5_))
        refine hK.out _ _ ⟨(E BK693.out 0).trans rfl, (E BK693.out 1).trans rfl, (E BK665.out 0).trans rfl, (E BK665.out 1).trans rfl⟩ (fun hHeld => ?_)
        clear hK K
        refine norm_ (a' := ?_) ?_ ?_
        rotate_left
        ·show Act.put _ (some 61) _ = _
         simp only [Act.put, z1', z2', z3', i64_w, i32_w]
         rfl
        refine one_ (i := 3) (N := some 62) #[y', y', y', y', n'] rfl rfl (by kernel_rfl) (by decide) (fun K hK => ?_)
        refine goes_ Try.func18 (by kernel_rfl) rfl #[.agg #[.slice Ao51 t689.length co51, .int .i64 t692], .agg #[.slice Ao138 t706.length co138, .int .i64 t709]] (by rfl) rfl rfl (by (try simp only [List.map_toArray, List.map_cons, List.map_nil]); first | done | rfl | (simp only [List.length_drop, List.length_take]; rfl)) ?_
        with_reducible refine (laws_eqDensities.calls kj24 _ _ t689 t692 _ _ t706 t709 false _ ?side1 ?side2 ?side3 ?side4 A69.out).mono ?_
        (case side1 => repeat (first | exact (Kd.R_reads' HO_694000.out).2.2 | (with_reducible refine GG ?_ _) | (with_reducible refine GJ ?_ _) | (with_reducible refine GL ?_)))
        (case side2 => exact (Kd.R_reads' HO_694000.out).2.1)
        (case side3 => repeat (first | exact (Kd.R_reads' HO708.out).2.2 | (with_reducible refine GG ?_ _) | (with_reducible refine GJ ?_ _) | (with_reducible refine GL ?_)))
        (case side4 => exact (Kd.R_reads' HO708.out).2.1)
        rintro e w139 ⟨rfl, hb⟩
        refine ⟨_, rfl, ?_⟩
        have n0_ := G (B (by (with_reducible repeat (first | apply J | apply L | apply M)); exact HO_6.out) hb)
        have n1_ := G (B (by (with_reducible repeat (first | apply J | apply L | apply M)); exact HO_10.out) hb)
        have n2_ := G (B (by (with_reducible repeat (first | apply J | apply L | apply M)); exact HO_689000.out) hb)
        have n3_ := G (B (by (with_reducible repeat (first | apply J | apply L | apply M)); exact HO_689001.out) hb)
        have n4_ := G (B (by (with_reducible repeat (first | apply J | apply L | apply M)); exact HO_694000.out) hb)
        have n5_ := G (B (by (with_reducible repeat (first | apply J | apply L | apply M)); exact HO701.out) hb)
        have n6_ := G (B (by (with_reducible repeat (first | apply J | apply L | apply M)); exact HO704.out) hb)
        have n7_ := G (B (by (with_reducible repeat (first | apply J | apply L | apply M)); exact HO708.out) hb)
        have n8_ := G (F (g := gb664) (o := .cells #[.slice A0_0 l0_0.length c0_0, .slice A0_1 l0_1.length c0_1] 33 (0, 0)) (by (with_reducible repeat (first | refine U ?_ _ | refine X ?_ | refine V ?_ _)); exact BK664.out) hb)
        have n9_ := G (F (g := gb665) (o := .cells #[.slice A1_0 l1_0.length c1_0, .int .i64 a1_1] 24 (0, 0)) (by (with_reducible repeat (first | refine U ?_ _ | refine X ?_ | refine V ?_ _)); exact BK665.out) hb)
        have n10_ := G (F (g := gb688) (o := .cells #[.slice Ao43 t682.length co43, .slice Ao47 t685.length co47] 39 (0, 0)) (by (with_reducible repeat (first | refine U ?_ _ | refine X ?_ | refine V ?_ _)); exact BK688.out) hb)
        have n11_ := G (F (g := gb693) (o := .cells #[.slice Ao51 t689.length co51, .int .i64 t692] 27 (0, 0)) (by (with_reducible repeat (first | refine U ?_ _ | refine X ?_ | refine V ?_ _)); exact BK693.out) hb)
        have n12_ := G (GO (by repeat (first | (with_reducible first | exact HB.out | apply Z | apply T | apply Y | refine O ?_ GE664.out | refine O ?_ GE665.out | refine O ?_ GE688.out | refine O ?_ GE693.out) | exact HB.out)) hb)
        clear HO_6
        clear HO_10
        clear HO_689000
        clear HO_689001
        clear HO_694000
        clear HO701
        clear HO704
        clear HO708
        clear BK664
        clear BK665
        clear BK688
        clear BK693
        clear HB
        have HO_6 := n0_
        have HO_10 := n1_
        have HO_689000 := n2_
        have HO_689001 := n3_
        have HO_694000 := n4_
        have HO701 := n5_
        have HO704 := n6_
        have HO708 := n7_
        have BK664 := n8_
        have BK665 := n9_
        have BK688 := n10_
        have BK693 := n11_
        have HB := n12_
        clear n0_ n1_ n2_ n3_ n4_ n5_ n6_ n7_ n8_ n9_ n10_ n11_ n12_
        (try clear hb)
        (try clear hb2)
        (try clear hk)
        (try clear hi)
        refine hK.out _ _ ⟨(E BK693.out 0).trans rfl, (E BK693.out 1).trans rfl, (E BK665.out 0).trans rfl, (E BK665.out 1).trans rfl⟩ (fun hHeld => ?_)
        clear hK K
        refine norm_ (a' := ?_) ?_ ?_
        rotate_left
        ·show Act.put _ (some 62) _ = _
         simp only [Act.put, z1', z2', z3', i64_w, i32_w]
         rfl
        refine pure_ (i := 4) (N := some 63) (v := ?_) (a' := ?_) #[y', y', y', y', y'] rfl rfl (by kernel_rfl) (fun _ _ _ h => h) (Or.inl ⟨by rfl, ?_⟩) ?_ ?_
        rotate_left
        ·intro w'
         go_simp
         with_reducible rfl
        rotate_left
        ·simp only [Act.put, z1', z2', z3', i64_w, i32_w]
         rfl
        refine done_ (by kernel_rfl) ?_
        try go_wp2
        go_ret
        exact ⟨by first | rfl | (simp [errW_none, errW_some] <;> rfl) | (simp [*, errW_none, errW_some] <;> rfl), by repeat (first | (with_reducible first | exact HB.out | apply Z | apply T | apply Y | refine O ?_ GE664.out | refine O ?_ GE665.out | refine O ?_ GE688.out | refine O ?_ GE693.out) | exact HB.out)⟩
      ·replace c67 := Bool.eq_false_iff.mpr c67
       subst c67
       have H1 : (some false) = some r := by rw [if_neg (show ¬ (false = true) by decide)] at H; exact H
       clear H
       have H := H1
       clear H1
       obtain rfl := Option.some.inj H
       try go_wp2
       have n0_ := G (M HO_6.out)
       have n1_ := G (M HO_10.out)
       have n2_ := G (M HO_689000.out)
       have n3_ := G (M HO_689001.out)
       have n4_ := G (M HO_694000.out)
       have n5_ := G (X BK664.out)
       have n6_ := G (X BK665.out)
       have n7_ := G (X BK688.out)
       have n8_ := G (X BK693.out)
       have n9_ := G (Y HB.out)
       clear HO_6
       clear HO_10
       clear HO_689000
       clear HO_689001
       clear HO_694000
       clear BK664
       clear BK665
       clear BK688
       clear BK693
       clear HB
       have HO_6 := n0_
       have HO_10 := n1_
       have HO_689000 := n2_
       have HO_689001 := n3_
       have HO_694000 := n4_
       have BK664 := n5_
       have BK665 := n6_
       have BK688 := n7_
       have BK693 := n8_
       have HB := n9_
       clear n0_ n1_ n2_ n3_ n4_ n5_ n6_ n7_ n8_ n9_
       refine start_ (n := 5) (S := fun w' => w'.cell? ⟨gb688, 0, none⟩ = some (.slice Ao43 t682.length co43) ∧ w'.cell? ⟨gb688, 1, none⟩ = some (.slice Ao47 t685.length co47) ∧ w'.cell? ⟨gb664, 0, none⟩ = some (.slice A0_0 l0_0.length c0_0) ∧ w'.cell? ⟨gb664, 1, none⟩ = some (.slice A0_1 l0_1.length c0_1)) (ds := []) #[n', n', n', n', n'] (by kernel_rfl) rfl rfl ⟨(E BK688.out 0).trans rfl, (E BK688.out 1).trans rfl, (E BK664.out 0).trans rfl, (E BK664.out 1).trans rfl⟩ (fun hHeld => ?_)
       generalize wc.drew = w140 at HO_6 HO_10 HO_689000 HO_689001 HO_694000 BK664 BK665 BK688 BK693 HB hHeld ⊢
       refine take_ (i := 0) (N := some 54) (v := ?_) (a' := ?_) #[y', n', n', n', n'] rfl rfl (by kernel_rfl) (fun _ _ _ h => h) (Or.inl ⟨by rfl, ?_⟩) hHeld ?_ ?_
       rotate_left
       ·rintro w' ⟨s0, s1, s2, s3⟩
        go_simp
        with_reducible rfl
       rotate_left
       ·simp only [Act.put, z1', z2', z3', i64_w, i32_w]
        rfl
       refine take_ (i := 1) (N := some 55) (v := ?_) (a' := ?_) #[y', y', n', n', n'] rfl rfl (by kernel_rfl) (fun _ _ _ h => h) (Or.inl ⟨by rfl, ?_⟩) hHeld ?_ ?_
       rotate_left
       ·rintro w' ⟨s0, s1, s2, s3⟩
        go_simp
        with_reducible rfl
       rotate_left
       ·simp only [Act.put, z1', z2', z3', i64_w, i32_w]
        rfl
       refine one_ (i := 2) (N := some 56) #[y', y', y', n', n'] rfl rfl (by kernel_rfl) (by decide) (fun K hK => ?_)
       refine goes_ Try.func21 (by kernel_rfl) rfl #[.agg #[.slice A0_0 l0_0.length c0_0, .slice A0_1 l0_1.length c0_1]] (by rfl) rfl rfl (by (try simp only [List.map_toArray, List.map_cons, List.map_nil]); first | done | rfl | (simp only [List.length_drop, List.length_take]; rfl)) ?_
       with_reducible refine (laws_toFrame.calls kj24 _ _ l0_0 _ _ l0_1 t699 t702 _ ?side1 ?side2 ?side3 ?side4 A65.out).mono ?_
       (case side1 => repeat (first | exact (GT HR0_0.out HB.out) | (with_reducible refine GG ?_ _) | (with_reducible refine GJ ?_ _) | (with_reducible refine GL ?_)))
       (case side2 => exact HC0_0.out)
       (case side3 => repeat (first | exact (GT HR0_1.out HB.out) | (with_reducible refine GG ?_ _) | (with_reducible refine GJ ?_ _) | (with_reducible refine GL ?_)))
       (case side4 => exact HC0_1.out)
       rintro e w141 ⟨v700, v703, rfl, ho0, ho1, hb⟩
       refine ⟨_, rfl, ?_⟩
       have n0_ := G (B (by (with_reducible repeat (first | apply J | apply L | apply M)); exact HO_6.out) hb)
       have n1_ := G (B (by (with_reducible repeat (first | apply J | apply L | apply M)); exact HO_10.out) hb)
       have n2_ := G (Kd.R_elder' (by (with_reducible repeat (first | apply J | apply L | apply M)); exact HO_689000.out) (Kd.R_base ho0) hb)
       have n3_ := G (Kd.R_elder' (by (with_reducible repeat (first | apply J | apply L | apply M)); exact HO_689001.out) (Kd.R_base ho1) hb)
       have n4_ := G (B (by (with_reducible repeat (first | apply J | apply L | apply M)); exact HO_694000.out) hb)
       have n5_ := G (Kd.R_lower (GM ho0 (Kd.R_lt (by (with_reducible repeat (first | apply J | apply L | apply M)); exact HO_689000.out))) (GN (by repeat (first | (with_reducible first | exact HB.out | apply Z | apply T | apply Y | refine O ?_ GE664.out | refine O ?_ GE665.out | refine O ?_ GE688.out | refine O ?_ GE693.out) | exact HB.out))))
       have n6_ := G (Kd.R_lower (GM ho1 (Kd.R_lt (by (with_reducible repeat (first | apply J | apply L | apply M)); exact HO_689001.out))) (GN (by repeat (first | (with_reducible first | exact HB.out | apply Z | apply T | apply Y | refine O ?_ GE664.out | refine O ?_ GE665.out | refine O ?_ GE688.out | refine O ?_ GE693.out) | exact HB.out))))
       have n7_ := G (F (g := gb664) (o := .cells #[.slice A0_0 l0_0.length c0_0, .slice A0_1 l0_1.length c0_1] 33 (0, 0)) (by (with_reducible repeat (first | refine U ?_ _ | refine X ?_ | refine V ?_ _)); exact BK664.out) hb)
       have n8_ := G (F (g := gb665) (o := .cells #[.slice A1_0 l1_0.length c1_0, .int .i64 a1_1] 24 (0, 0)) (by (with_reducible repeat (first | refine U ?_ _ | refine X ?_ | refine V ?_ _)); exact BK665.out) hb)
       have n9_ := G (F (g := gb688) (o := .cells #[.slice Ao43 t682.length co43, .slice Ao47 t685.length co47] 39 (0, 0)) (by (with_reducible repeat (first | refine U ?_ _ | refine X ?_ | refine V ?_ _)); exact BK688.out) hb)
       have n10_ := G (F (g := gb693) (o := .cells #[.slice Ao51 t689.length co51, .int .i64 t692] 27 (0, 0)) (by (with_reducible repeat (first | refine U ?_ _ | refine X ?_ | refine V ?_ _)); exact BK693.out) hb)
       have n11_ := G (GO (by repeat (first | (with_reducible first | exact HB.out | apply Z | apply T | apply Y | refine O ?_ GE664.out | refine O ?_ GE665.out | refine O ?_ GE688.out | refine O ?_ GE693.out) | exact HB.out)) hb)
       clear HO_6
       clear HO_10
       clear HO_689000
       clear HO_689001
       clear HO_694000
       clear BK664
       clear BK665
       clear BK688
       clear BK693
       clear HB
       have HO_6 := n0_
       have HO_10 := n1_
       have HO_689000 := n2_
       have HO_689001 := n3_
       have HO_694000 := n4_
       have HO701 := n5_
       have HO704 := n6_
       have BK664 := n7_
       have BK665 := n8_
       have BK688 := n9_
       have BK693 := n10_
       have HB := n11_
       clear n0_ n1_ n2_ n3_ n4_ n5_ n6_ n7_ n8_ n9_ n10_ n11_
       (try clear hb)
       (try clear hb2)
       (try clear hk)
       (try clear hi)
       (try clear ho0)
       (try clear ho1)
       obtain ⟨Ao142, co142, eo142⟩ := Kd.R_slice HO701.out
       (first | subst eo142 | (injection eo142 with f1_ f2_ f3_; have f4_ := f1_.symm; have f5_ := f3_.symm; clear f1_ f2_ f3_; subst f4_; subst f5_))
       obtain ⟨Ao143, co143, eo143⟩ := Kd.R_slice HO704.out
       (first | subst eo143 | (injection eo143 with f1_ f2_ f3_; have f4_ := f1_.symm; have f5_ := f3_.symm; clear f1_ f2_ f3_; subst f4_; subst f5_))
       refine hK.out _ _ ⟨(E BK688.out 0).trans rfl, (E BK688.out 1).trans rfl, (E BK664.out 0).trans rfl, (E BK664.out 1).trans rfl⟩ (fun hHeld => ?_)
       clear hK K
       refine norm_ (a' := ?_) ?_ ?_
       rotate_left
       ·show Act.put _ (some 56) _ = _
        simp only [Act.put, z1', z2', z3', i64_w, i32_w]
        rfl
       refine one_ (i := 3) (N := some 57) #[y', y', y', y', n'] rfl rfl (by kernel_rfl) (by decide) (fun K hK => ?_)
       refine goes_ Try.func23 (by kernel_rfl) rfl #[.agg #[.slice Ao43 t682.length co43, .slice Ao47 t685.length co47], .agg #[.slice Ao142 t699.length co142, .slice Ao143 t702.length co143]] (by rfl) rfl rfl (by (try simp only [List.map_toArray, List.map_cons, List.map_nil]); first | done | rfl | (simp only [List.length_drop, List.length_take]; rfl)) ?_
       with_reducible refine (laws_eqFrame.calls kj24 _ _ t682 _ _ t685 _ _ t699 _ _ t702 false _ ?side1 ?side2 ?side3 ?side4 ?side5 ?side6 ?side7 ?side8 A66.out).mono ?_
       (case side1 => repeat (first | exact (Kd.R_reads' HO_689000.out).2.2 | (with_reducible refine GG ?_ _) | (with_reducible refine GJ ?_ _) | (with_reducible refine GL ?_)))
       (case side2 => exact (Kd.R_reads' HO_689000.out).2.1)
       (case side3 => repeat (first | exact (Kd.R_reads' HO_689001.out).2.2 | (with_reducible refine GG ?_ _) | (with_reducible refine GJ ?_ _) | (with_reducible refine GL ?_)))
       (case side4 => exact (Kd.R_reads' HO_689001.out).2.1)
       (case side5 => repeat (first | exact (Kd.R_reads' HO701.out).2.2 | (with_reducible refine GG ?_ _) | (with_reducible refine GJ ?_ _) | (with_reducible refine GL ?_)))
       (case side6 => exact (Kd.R_reads' HO701.out).2.1)
       (case side7 => repeat (first | exact (Kd.R_reads' HO704.out).2.2 | (with_reducible refine GG ?_ _) | (with_reducible refine GJ ?_ _) | (with_reducible refine GL ?_)))
       (case side8 => exact (Kd.R_reads' HO704.out).2.1)
       rintro e w144 ⟨rfl, hb⟩
       refine ⟨_, rfl, ?_⟩
       have n0_ := G (B (by (with_reducible repeat (first | apply J | apply L | apply M)); exact HO_6.out) hb)
       have n1_ := G (B (by (with_reducible repeat (first | apply J | apply L | apply M)); exact HO_10.out) hb)
       have n2_ := G (B (by (with_reducible repeat (first | apply J | apply L | apply M)); exact HO_689000.out) hb)
       have n3_ := G (B (by (with_reducible repeat (first | apply J | apply L | apply M)); exact HO_689001.out) hb)
       have n4_ := G (B (by (with_reducible repeat (first | apply J | apply L | apply M)); exact HO_694000.out) hb)
       have n5_ := G (B (by (with_reducible repeat (first | apply J | apply L | apply M)); exact HO701.out) hb)
       have n6_ := G (B (by (with_reducible repeat (first | apply J | apply L | apply M)); exact HO704.out) hb)
       have n7_ := G (F (g := gb664) (o := .cells #[.slice A0_0 l0_0.length c0_0, .slice A0_1 l0_1.length c0_1] 33 (0, 0)) (by (with_reducible repeat (first | refine U ?_ _ | refine X ?_ | refine V ?_ _)); exact BK664.out) hb)
       have n8_ := G (F (g := gb665) (o := .cells #[.slice A1_0 l1_0.length c1_0, .int .i64 a1_1] 24 (0, 0)) (by (with_reducible repeat (first | refine U ?_ _ | refine X ?_ | refine V ?_ _)); exact BK665.out) hb)
       have n9_ := G (F (g := gb688) (o := .cells #[.slice Ao43 t682.length co43, .slice Ao47 t685.length co47] 39 (0, 0)) (by (with_reducible repeat (first | refine U ?_ _ | refine X ?_ | refine V ?_ _)); exact BK688.out) hb)
       have n10_ := G (F (g := gb693) (o := .cells #[.slice Ao51 t689.length co51, .int .i64 t692] 27 (0, 0)) (by (with_reducible repeat (first | refine U ?_ _ | refine X ?_ | refine V ?_ _)); exact BK693.out) hb)
       have n11_ := G (GO (by repeat (first | (with_reducible first | exact HB.out | apply Z | apply T | apply Y | refine O ?_ GE664.out | refine O ?_ GE665.out | refine O ?_ GE688.out | refine O ?_ GE693.out) | exact HB.out)) hb)
       clear HO_6
       clear HO_10
       clear HO_689000
       clear HO_689001
       clear HO_694000
       clear HO701
       clear HO704
       clear BK664
       clear BK665
       clear BK688
       clear BK693
       clear HB
       have HO_6 := n0_
       have HO_10 := n1_
       have HO_689000 := n2_
       have HO_689001 := n3_
       have HO_694000 := n4_
       have HO701 := n5_
       have HO704 := n6_
       have BK664 := n7_
       have BK665 := n8_
       have BK688 := n9_
       have BK693 := n10_
       have HB := n11_
       clear n0_ n1_ n2_ n3_ n4_ n5_ n6_ n7_ n8_ n9_ n10_ n11_
       (try clear hb)
       (try clear hb2)
       (try clear hk)
       (try clear hi)
       refine hK.out _ _ ⟨(E BK688.out 0).trans rfl, (E BK688.out 1).trans rfl, (E BK664.out 0).trans rfl, (E BK664.out 1).trans rfl⟩ (fun hHeld => ?_)
       clear hK K
       refine norm_ (a' := ?_) ?_ ?_
       rotate_left
       ·show Act.put _ (some 57) _ = _
        simp only [Act.put, z1', z2', z3', i64_w, i32_w]
        rfl
       refine pure_ (i := 4) (N := some 58) (v := ?_) (a' := ?_) #[y', y', y', y', y'] rfl rfl (by kernel_rfl) (fun _ _ _ h => h) (Or.inl ⟨by rfl, ?_⟩) ?_ ?_
       rotate_left
       ·intro w'
        go_simp
        with_reducible rfl
       rotate_left
       ·simp only [Act.put, z1', z2', z3', i64_w, i32_w]
        rfl
       refine done_ (by kernel_rfl) ?_
       try go_wp2
       go_ret
       exact ⟨by first | rfl | (simp [errW_none, errW_some] <;> rfl) | (simp [*, errW_none, errW_some] <;> rfl), by repeat (first | (with_reducible first | exact HB.out | apply Z | apply T | apply Y | refine O ?_ GE664.out | refine O ?_ GE665.out | refine O ?_ GE688.out | refine O ?_ GE693.out) | exact HB.out)⟩

end Go.Proofs.Ytacijlpnpkhjaaa.HFr
