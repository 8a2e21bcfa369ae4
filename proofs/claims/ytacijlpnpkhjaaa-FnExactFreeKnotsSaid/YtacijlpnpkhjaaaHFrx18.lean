-- Written by a program for this claim (the functions that the statement reaches, and that the program's code comes to them).
import Derived.Test.YtacijlpnpkhjaaaHFrx0
import Derived.Test.YtacijlpnpkhjaaaHFrx3
import Derived.Test.YtacijlpnpkhjaaaHFrx4
import Derived.Test.YtacijlpnpkhjaaaHFrx9
import Derived.Test.YtacijlpnpkhjaaaHFrx11
import Derived.Test.YtacijlpnpkhjaaaHFrx15
import Derived.Test.YtacijlpnpkhjaaaHFrx17
namespace Go.Proofs.Ytacijlpnpkhjaaa.HFr
open Go.RowKit Go.Proofs.YtacijlpnpkhjaaaW.PrintWords Go.Proofs.YtacijlpnpkhjaaaW.PrintLast Go.Proofs.YtacijlpnpkhjaaaW.PrintMore
attribute [local go_sem] max2_int min2_int max_two min_two max_three min_three max_four min_four   -- for this text's walks alone
set_option linter.unusedVariables false
set_option linter.unusedSimpArgs false

/-! ### laws_FnExactFreeKnots: function 8 -/
mutual
def laws_FnExactFreeKnots.j0 : Nat → List Int → Int → List Int → Int → Bool → List (S113) → List (S115) → List (S82) → List (S84) → Option (Bool)
 | 0, _, _, _, _, _, _, _, _, _ => none
 | k + 1, x4, x5, x7, x8, x40, x226000, x226001, x244000, x244001 => if x40 = true then (some false) else ((laws_toFrame.f k x226000 x226001).bind fun bt249 => ((laws_eqFrame.f k x244000 x244001 bt249.1 bt249.2).bind fun t255 => (if t255 = true then ((laws_markFrame.f k x244000 x244001 1).bind fun bt256 => (if bt256.1 < 0 then (laws_FnExactFreeKnots.j1 k x4 x5 x7 true x226000 x226001) else ((laws_eqInt64S.f k x7 x4).bind fun t259 => (if t259 = true then (laws_FnExactFreeKnots.j1 k x4 x5 x7 (x8 != x5) x226000 x226001) else (laws_FnExactFreeKnots.j1 k x4 x5 x7 true x226000 x226001))))) else (some false))))
def laws_FnExactFreeKnots.j1 : Nat → List Int → Int → List Int → Bool → List (S113) → List (S115) → Option (Bool)
 | 0, _, _, _, _, _, _ => none
 | k + 1, x4, x5, x7, x61, x226000, x226001 => if x61 = true then (some false) else ((laws_markInt64S.f k x7 1).bind fun bt260 => ((laws_heldInt64S.f k bt260.2 1).bind fun t262 => (if t262 < 0 then (some false) else (if t262 = bt260.1 then ((laws_toFrame.f k x226000 x226001).bind fun bt263 => ((impl_FreeKnots.f k bt263.1 bt263.2).bind fun bt269 => ((laws_eqInt64S.f k bt269.1 x4).bind fun t273 => (if t273 = true then (laws_FnExactFreeKnots.j2 k bt260.2 bt260.1 (bt269.2 != x5)) else (laws_FnExactFreeKnots.j2 k bt260.2 bt260.1 true))))) else (some false)))))
def laws_FnExactFreeKnots.j2 : Nat → List Int → Int → Bool → Option (Bool)
 | 0, _, _, _ => none
 | k + 1, x7, x10, x87 => if x87 = true then (some false) else ((laws_heldInt64S.f k x7 1).bind fun t274 => (if t274 < 0 then (some false) else (if t274 = x10 then (some true) else (some false))))
end
def laws_FnExactFreeKnots.f (k : Nat) (l0_0 : List (S113)) (l0_1 : List (S115)) : Option (Bool) := (laws_szFrame.f l0_0 l0_1 1048576).bind fun t226 => (if t226 < 0 then (some true) else ((laws_toFrame.f k l0_0 l0_1).bind fun bt227 => ((spec_FreeKnots.f k bt227.1 bt227.2).bind fun bt233 => ((laws_toFrame.f k l0_0 l0_1).bind fun bt237 => ((impl_FreeKnots.f k bt237.1 bt237.2).bind fun bt244 => ((laws_eqInt64S.f k bt244.1 bt233.1).bind fun t248 => (if t248 = true then (laws_FnExactFreeKnots.j0 k bt233.1 bt233.2 bt244.1 bt244.2 (bt244.2 != bt233.2) l0_0 l0_1 bt237.1 bt237.2) else (laws_FnExactFreeKnots.j0 k bt233.1 bt233.2 bt244.1 bt244.2 true l0_0 l0_1 bt237.1 bt237.2))))))))
theorem laws_FnExactFreeKnots.mono_l : ∀ k, (∀ y0 y1 y2 y3 y4 y5 y6 y7 y8, LeO (laws_FnExactFreeKnots.j0 k y0 y1 y2 y3 y4 y5 y6 y7 y8) (laws_FnExactFreeKnots.j0 (k + 1) y0 y1 y2 y3 y4 y5 y6 y7 y8)) ∧ (∀ y0 y1 y2 y3 y4 y5, LeO (laws_FnExactFreeKnots.j1 k y0 y1 y2 y3 y4 y5) (laws_FnExactFreeKnots.j1 (k + 1) y0 y1 y2 y3 y4 y5)) ∧ (∀ y0 y1 y2, LeO (laws_FnExactFreeKnots.j2 k y0 y1 y2) (laws_FnExactFreeKnots.j2 (k + 1) y0 y1 y2))
 | 0 => ⟨fun _ _ _ _ _ _ _ _ _ r h => by simp [laws_FnExactFreeKnots.j0] at h, fun _ _ _ _ _ _ r h => by simp [laws_FnExactFreeKnots.j1] at h, fun _ _ _ r h => by simp [laws_FnExactFreeKnots.j2] at h⟩
 | k + 1 => by
  obtain ⟨ih0, ih1, ih2⟩ := laws_FnExactFreeKnots.mono_l k
  refine ⟨?_, ?_, ?_⟩
  ·intro y0 y1 y2 y3 y4 y5 y6 y7 y8
   unfold laws_FnExactFreeKnots.j0
   repeat' first
   | (with_reducible exact ih0 _ _ _ _ _ _ _ _ _)
   | (with_reducible exact ih1 _ _ _ _ _ _)
   | (with_reducible exact ih2 _ _ _)
   | (with_reducible exact impl_FreeKnots.mono _ _ _)
   | (with_reducible exact laws_eqFrame.mono _ _ _ _ _)
   | (with_reducible exact laws_eqInt64S.mono _ _ _)
   | (with_reducible exact laws_heldInt64S.mono _ _ _)
   | (with_reducible exact laws_markFrame.mono _ _ _ _)
   | (with_reducible exact laws_markInt64S.mono _ _ _)
   | (with_reducible exact laws_toFrame.mono _ _ _)
   | (with_reducible exact spec_FreeKnots.mono _ _ _)
   | (with_reducible exact LeO.refl _)
   | (with_reducible exact LeO.none _)
   | (with_reducible refine LeO.ite ?_ ?_)
   | (with_reducible refine LeO.bind ?_ (fun _ => ?_))
   | exact ih0 _ _ _ _ _ _ _ _ _
   | exact ih1 _ _ _ _ _ _
   | exact ih2 _ _ _
   | exact impl_FreeKnots.mono _ _ _
   | exact laws_eqFrame.mono _ _ _ _ _
   | exact laws_eqInt64S.mono _ _ _
   | exact laws_heldInt64S.mono _ _ _
   | exact laws_markFrame.mono _ _ _ _
   | exact laws_markInt64S.mono _ _ _
   | exact laws_toFrame.mono _ _ _
   | exact spec_FreeKnots.mono _ _ _
   | exact LeO.none _
   | refine LeO.ite ?_ ?_
   | refine LeO.bind ?_ (fun _ => ?_)
  ·intro y0 y1 y2 y3 y4 y5
   unfold laws_FnExactFreeKnots.j1
   repeat' first
   | (with_reducible exact ih0 _ _ _ _ _ _ _ _ _)
   | (with_reducible exact ih1 _ _ _ _ _ _)
   | (with_reducible exact ih2 _ _ _)
   | (with_reducible exact impl_FreeKnots.mono _ _ _)
   | (with_reducible exact laws_eqFrame.mono _ _ _ _ _)
   | (with_reducible exact laws_eqInt64S.mono _ _ _)
   | (with_reducible exact laws_heldInt64S.mono _ _ _)
   | (with_reducible exact laws_markFrame.mono _ _ _ _)
   | (with_reducible exact laws_markInt64S.mono _ _ _)
   | (with_reducible exact laws_toFrame.mono _ _ _)
   | (with_reducible exact spec_FreeKnots.mono _ _ _)
   | (with_reducible exact LeO.refl _)
   | (with_reducible exact LeO.none _)
   | (with_reducible refine LeO.ite ?_ ?_)
   | (with_reducible refine LeO.bind ?_ (fun _ => ?_))
   | exact ih0 _ _ _ _ _ _ _ _ _
   | exact ih1 _ _ _ _ _ _
   | exact ih2 _ _ _
   | exact impl_FreeKnots.mono _ _ _
   | exact laws_eqFrame.mono _ _ _ _ _
   | exact laws_eqInt64S.mono _ _ _
   | exact laws_heldInt64S.mono _ _ _
   | exact laws_markFrame.mono _ _ _ _
   | exact laws_markInt64S.mono _ _ _
   | exact laws_toFrame.mono _ _ _
   | exact spec_FreeKnots.mono _ _ _
   | exact LeO.none _
   | refine LeO.ite ?_ ?_
   | refine LeO.bind ?_ (fun _ => ?_)
  ·intro y0 y1 y2
   unfold laws_FnExactFreeKnots.j2
   repeat' first
   | (with_reducible exact ih0 _ _ _ _ _ _ _ _ _)
   | (with_reducible exact ih1 _ _ _ _ _ _)
   | (with_reducible exact ih2 _ _ _)
   | (with_reducible exact impl_FreeKnots.mono _ _ _)
   | (with_reducible exact laws_eqFrame.mono _ _ _ _ _)
   | (with_reducible exact laws_eqInt64S.mono _ _ _)
   | (with_reducible exact laws_heldInt64S.mono _ _ _)
   | (with_reducible exact laws_markFrame.mono _ _ _ _)
   | (with_reducible exact laws_markInt64S.mono _ _ _)
   | (with_reducible exact laws_toFrame.mono _ _ _)
   | (with_reducible exact spec_FreeKnots.mono _ _ _)
   | (with_reducible exact LeO.refl _)
   | (with_reducible exact LeO.none _)
   | (with_reducible refine LeO.ite ?_ ?_)
   | (with_reducible refine LeO.bind ?_ (fun _ => ?_))
   | exact ih0 _ _ _ _ _ _ _ _ _
   | exact ih1 _ _ _ _ _ _
   | exact ih2 _ _ _
   | exact impl_FreeKnots.mono _ _ _
   | exact laws_eqFrame.mono _ _ _ _ _
   | exact laws_eqInt64S.mono _ _ _
   | exact laws_heldInt64S.mono _ _ _
   | exact laws_markFrame.mono _ _ _ _
   | exact laws_markInt64S.mono _ _ _
   | exact laws_toFrame.mono _ _ _
   | exact spec_FreeKnots.mono _ _ _
   | exact LeO.none _
   | refine LeO.ite ?_ ?_
   | refine LeO.bind ?_ (fun _ => ?_)
theorem laws_FnExactFreeKnots.mono : ∀ a0 a1 k, LeO (laws_FnExactFreeKnots.f k a0 a1) (laws_FnExactFreeKnots.f (k + 1) a0 a1) := by
 intro a0 a1 k
 obtain ⟨ih0, ih1, ih2⟩ := laws_FnExactFreeKnots.mono_l k
 unfold laws_FnExactFreeKnots.f
 repeat' first
   | (with_reducible exact ih0 _ _ _ _ _ _ _ _ _)
   | (with_reducible exact ih1 _ _ _ _ _ _)
   | (with_reducible exact ih2 _ _ _)
   | (with_reducible exact impl_FreeKnots.mono _ _ _)
   | (with_reducible exact laws_eqFrame.mono _ _ _ _ _)
   | (with_reducible exact laws_eqInt64S.mono _ _ _)
   | (with_reducible exact laws_heldInt64S.mono _ _ _)
   | (with_reducible exact laws_markFrame.mono _ _ _ _)
   | (with_reducible exact laws_markInt64S.mono _ _ _)
   | (with_reducible exact laws_toFrame.mono _ _ _)
   | (with_reducible exact spec_FreeKnots.mono _ _ _)
   | (with_reducible exact LeO.refl _)
   | (with_reducible exact LeO.none _)
   | (with_reducible refine LeO.ite ?_ ?_)
   | (with_reducible refine LeO.bind ?_ (fun _ => ?_))
   | exact ih0 _ _ _ _ _ _ _ _ _
   | exact ih1 _ _ _ _ _ _
   | exact ih2 _ _ _
   | exact impl_FreeKnots.mono _ _ _
   | exact laws_eqFrame.mono _ _ _ _ _
   | exact laws_eqInt64S.mono _ _ _
   | exact laws_heldInt64S.mono _ _ _
   | exact laws_markFrame.mono _ _ _ _
   | exact laws_markInt64S.mono _ _ _
   | exact laws_toFrame.mono _ _ _
   | exact spec_FreeKnots.mono _ _ _
   | exact LeO.none _
   | refine LeO.ite ?_ ?_
   | refine LeO.bind ?_ (fun _ => ?_)
@[reducible] def laws_FnExactFreeKnots.y' : Bool := true
@[reducible] def laws_FnExactFreeKnots.n' : Bool := false
theorem laws_FnExactFreeKnots.z1' {α : Type} (l : List α) (i : Nat) (a : α) : l.toArray.setIfInBounds i a = (l.set i a).toArray := List.setIfInBounds_toArray ..
theorem laws_FnExactFreeKnots.z2' {α : Type} (a b : α) (l : List α) : (a :: l).set 0 b = b :: l := rfl
theorem laws_FnExactFreeKnots.z3' {α : Type} (a b : α) (l : List α) (n : Nat) : (a :: l).set (n + 1) b = a :: l.set n b := rfl
theorem laws_FnExactFreeKnots.G : type_of% @Aside0.mk := @Aside0.mk
theorem laws_FnExactFreeKnots.J : type_of% @Kd.R_alloc := @Kd.R_alloc
theorem laws_FnExactFreeKnots.L : type_of% @Kd.R_drewN := @Kd.R_drewN
theorem laws_FnExactFreeKnots.M : type_of% @Kd.R_drew := @Kd.R_drew
theorem laws_FnExactFreeKnots.O : type_of% @below_set := @below_set
theorem laws_FnExactFreeKnots.T : type_of% @pw_below_drewN := @pw_below_drewN
theorem laws_FnExactFreeKnots.U : type_of% @blk_drewN := @blk_drewN
theorem laws_FnExactFreeKnots.V : type_of% @blk_alloc := @blk_alloc
theorem laws_FnExactFreeKnots.X : type_of% @blk_drew := @blk_drew
theorem laws_FnExactFreeKnots.Y : type_of% @below_drew1 := @below_drew1
theorem laws_FnExactFreeKnots.Z : type_of% @below_alloc := @below_alloc
theorem laws_FnExactFreeKnots.B : type_of% @Kd.R_below := @Kd.R_below
theorem laws_FnExactFreeKnots.D : type_of% @Kd.R_far := @Kd.R_far
theorem laws_FnExactFreeKnots.E : type_of% @blk_cell := @blk_cell
theorem laws_FnExactFreeKnots.F : type_of% @blk_below := @blk_below
theorem laws_FnExactFreeKnots.I : type_of% @Kd.R_mono := @Kd.R_mono
theorem laws_FnExactFreeKnots.P : type_of% @Kd.C_alloc := @Kd.C_alloc
theorem laws_FnExactFreeKnots.GG : type_of% @Kd.C_drewN := @Kd.C_drewN
theorem laws_FnExactFreeKnots.GJ : type_of% @Kd.C_drew := @Kd.C_drew
theorem laws_FnExactFreeKnots.GL : type_of% @below_size := @below_size
theorem laws_FnExactFreeKnots.GM : type_of% @below_step := @below_step
theorem laws_FnExactFreeKnots.GN : type_of% @Kd.C_below := @Kd.C_below
theorem laws_FnExactFreeKnots.GO : type_of% @blk_frozen := @blk_frozen
set_option maxHeartbeats 8000000 in
set_option maxRecDepth 100000 in
theorem laws_FnExactFreeKnots.calls (k : Nat) (A0_0 : Option Addr) (c0_0 : Nat) (l0_0 : List (S113)) (A0_1 : Option Addr) (c0_1 : Nat) (l0_1 : List (S115)) (r : Bool) (w : World) (hr0_0 : Kd.C k113 w A0_0 l0_0.length l0_0) (hc0_0 : l0_0.length ≤ c0_0) (hr0_1 : Kd.C k115 w A0_1 l0_1.length l0_1) (hc0_1 : l0_1.length ≤ c0_1) (h : laws_FnExactFreeKnots.f k l0_0 l0_1 = some r) :
  Calls Try.prog 8 #[.agg #[.slice A0_0 l0_0.length c0_0, .slice A0_1 l0_1.length c0_1]] w fun e w' => e = .returned (.bool r) ∧ Below w.heap.size w w' := by
 have hu33 := Try.underlying33
 have hu39 := Try.underlying39
 have HR0_0 := G hr0_0
 have HC0_0 := G hc0_0
 clear hr0_0 hc0_0
 have HR0_1 := G hr0_1
 have HC0_1 := G hc0_1
 clear hr0_1 hc0_1
 have HB := G (Below.refl w.heap.size w)
 have H : ((laws_szFrame.f l0_0 l0_1 1048576).bind fun t226 => (if t226 < 0 then (some true) else ((laws_toFrame.f k l0_0 l0_1).bind fun bt227 => ((spec_FreeKnots.f k bt227.1 bt227.2).bind fun bt233 => ((laws_toFrame.f k l0_0 l0_1).bind fun bt237 => ((impl_FreeKnots.f k bt237.1 bt237.2).bind fun bt244 => ((laws_eqInt64S.f k bt244.1 bt233.1).bind fun t248 => (if t248 = true then (laws_FnExactFreeKnots.j0 k bt233.1 bt233.2 bt244.1 bt244.2 (bt244.2 != bt233.2) l0_0 l0_1 bt237.1 bt237.2) else (laws_FnExactFreeKnots.j0 k bt233.1 bt233.2 bt244.1 bt244.2 true l0_0 l0_1 bt237.1 bt237.2))))))))) = some r := h
 clear h
 replace H := Option.bind_eq_some_iff.mp H
 obtain ⟨t226, A20, H⟩ := H
 replace H : (if t226 < 0 then (some true) else ((laws_toFrame.f k l0_0 l0_1).bind fun bt227 => ((spec_FreeKnots.f k bt227.1 bt227.2).bind fun bt233 => ((laws_toFrame.f k l0_0 l0_1).bind fun bt237 => ((impl_FreeKnots.f k bt237.1 bt237.2).bind fun bt244 => ((laws_eqInt64S.f k bt244.1 bt233.1).bind fun t248 => (if t248 = true then (laws_FnExactFreeKnots.j0 k bt233.1 bt233.2 bt244.1 bt244.2 (bt244.2 != bt233.2) l0_0 l0_1 bt237.1 bt237.2) else (laws_FnExactFreeKnots.j0 k bt233.1 bt233.2 bt244.1 bt244.2 true l0_0 l0_1 bt237.1 bt237.2)))))))) = some r := H
 have A2 := G A20
 clear A20
 by_cases c3 : t226 < 0
 ·rw [if_pos c3] at H
  have c3b0 : decide (t226 < 0) = true := decide_eq_true c3
  clear c3
  obtain rfl := Option.some.inj H
  go_enter Try.func8, Try.ntmps8
  go_wp2_with (first | ((with_reducible refine gate_dst (N := 1) rfl ?_); refine box_event ?hg (N := 1) ?hd (cs := #[.slice A0_0 l0_0.length c0_0, .slice A0_1 l0_1.length c0_1]) (t := 33) ?hr ?_; (case hd => rfl); (case hg => rfl); (case hr => first | (go_simp; done) | (go_simp; rfl)); intro gb225 hg w4 hbox hb; have n0_ := G (GM (by repeat (first | (with_reducible first | exact HB.out | apply Z | apply T | apply Y) | exact HB.out)) hb); have n1_ := G (hbox); have n2_ := G ((by rw [hg]; exact (GL (by repeat (first | (with_reducible first | exact HB.out | apply Z | apply T | apply Y) | exact HB.out))) : w.heap.size ≤ gb225)); have n3_ := G ((by rw [hg]; exact (GL (by repeat (first | (with_reducible first | exact HB.out | apply Z | apply T | apply Y) | exact HB.out))) : w.heap.size ≤ gb225)); clear HB; have HB := n0_; have BK225 := n1_; have GW225 := n2_; have GE225 := n3_; clear n0_ n1_ n2_ n3_; clear hb hbox hg; have hcz5_0 : w4.cell? ⟨gb225, 0, none⟩ = some (.slice A0_0 l0_0.length c0_0) := (E BK225.out 0).trans rfl; have hcz5_1 : w4.cell? ⟨gb225, 1, none⟩ = some (.slice A0_1 l0_1.length c0_1) := (E BK225.out 1).trans rfl; have hfz5_0 := GO BK225.out 0; have hfz5_1 := GO BK225.out 1) | ((with_reducible refine gate_callee (f := 19) rfl ?_); refine goesL_ (some 16) rfl rfl Try.func19 (by kernel_rfl) rfl #[.agg #[.slice A0_0 l0_0.length c0_0, .slice A0_1 l0_1.length c0_1], .int .i64 1048576] rfl (by (try simp only [List.map_toArray, List.map_cons, List.map_nil]); first | done | rfl | (simp only [List.length_drop, List.length_take]; rfl)) ?_; (with_reducible refine (laws_szFrame.calls _ _ l0_0 _ _ l0_1 1048576 t226 _ ?side1 ?side2 ?side3 ?side4 A2.out).mono ?_); (case side1 => repeat (first | exact (GN HR0_0.out HB.out) | (with_reducible refine P ?_ _) | (with_reducible refine GG ?_ _) | (with_reducible refine GJ ?_))); (case side2 => exact HC0_0.out); (case side3 => repeat (first | exact (GN HR0_1.out HB.out) | (with_reducible refine P ?_ _) | (with_reducible refine GG ?_ _) | (with_reducible refine GJ ?_))); (case side4 => exact HC0_1.out); rintro e w6 ⟨rfl, hb⟩; refine ⟨_, rfl, ?_⟩; have n0_ := G (F (g := gb225) (o := .cells #[.slice A0_0 l0_0.length c0_0, .slice A0_1 l0_1.length c0_1] 33 (0, 0)) (by (with_reducible repeat (first | refine U ?_ _ | refine X ?_ | refine V ?_ _)); exact BK225.out) hb); have n1_ := G (GM (by repeat (first | (with_reducible first | exact HB.out | apply Z | apply T | apply Y | refine O ?_ GE225.out) | exact HB.out)) hb); clear BK225; clear HB; have BK225 := n0_; have HB := n1_; clear n0_ n1_; (try clear hb); (try clear hb2); (try clear hk); (try clear hi)))
  go_ret
  exact ⟨by first | rfl | (simp [errW_none, errW_some] <;> rfl) | (simp [*, errW_none, errW_some] <;> rfl), by repeat (first | (with_reducible first | exact HB.out | apply Z | apply T | apply Y | refine O ?_ GE225.out) | exact HB.out)⟩
 ·rw [if_neg c3] at H
  have c3b0 : decide (t226 < 0) = false := decide_eq_false c3
  clear c3
  replace H := Option.bind_eq_some_iff.mp H
  obtain ⟨⟨t227, t230⟩, A70, H⟩ := H
  replace H : ((spec_FreeKnots.f k t227 t230).bind fun bt233 => ((laws_toFrame.f k l0_0 l0_1).bind fun bt237 => ((impl_FreeKnots.f k bt237.1 bt237.2).bind fun bt244 => ((laws_eqInt64S.f k bt244.1 bt233.1).bind fun t248 => (if t248 = true then (laws_FnExactFreeKnots.j0 k bt233.1 bt233.2 bt244.1 bt244.2 (bt244.2 != bt233.2) l0_0 l0_1 bt237.1 bt237.2) else (laws_FnExactFreeKnots.j0 k bt233.1 bt233.2 bt244.1 bt244.2 true l0_0 l0_1 bt237.1 bt237.2)))))) = some r := H
  have A7 := G A70
  clear A70
  replace H := Option.bind_eq_some_iff.mp H
  obtain ⟨⟨t233, t236⟩, A80, H⟩ := H
  replace H : ((laws_toFrame.f k l0_0 l0_1).bind fun bt237 => ((impl_FreeKnots.f k bt237.1 bt237.2).bind fun bt244 => ((laws_eqInt64S.f k bt244.1 t233).bind fun t248 => (if t248 = true then (laws_FnExactFreeKnots.j0 k t233 t236 bt244.1 bt244.2 (bt244.2 != t236) l0_0 l0_1 bt237.1 bt237.2) else (laws_FnExactFreeKnots.j0 k t233 t236 bt244.1 bt244.2 true l0_0 l0_1 bt237.1 bt237.2))))) = some r := H
  have A8 := G A80
  clear A80
  replace H := Option.bind_eq_some_iff.mp H
  obtain ⟨⟨t237, t240⟩, A90, H⟩ := H
  replace H : ((impl_FreeKnots.f k t237 t240).bind fun bt244 => ((laws_eqInt64S.f k bt244.1 t233).bind fun t248 => (if t248 = true then (laws_FnExactFreeKnots.j0 k t233 t236 bt244.1 bt244.2 (bt244.2 != t236) l0_0 l0_1 t237 t240) else (laws_FnExactFreeKnots.j0 k t233 t236 bt244.1 bt244.2 true l0_0 l0_1 t237 t240)))) = some r := H
  have A9 := G A90
  clear A90
  replace H := Option.bind_eq_some_iff.mp H
  obtain ⟨⟨t244, t247⟩, A100, H⟩ := H
  replace H : ((laws_eqInt64S.f k t244 t233).bind fun t248 => (if t248 = true then (laws_FnExactFreeKnots.j0 k t233 t236 t244 t247 (t247 != t236) l0_0 l0_1 t237 t240) else (laws_FnExactFreeKnots.j0 k t233 t236 t244 t247 true l0_0 l0_1 t237 t240))) = some r := H
  have A10 := G A100
  clear A100
  have HC11 := G H
  clear H
  go_enter Try.func8, Try.ntmps8
  go_upto_region 8 with (first | ((with_reducible refine gate_dst (N := 1) rfl ?_); refine box_event ?hg (N := 1) ?hd (cs := #[.slice A0_0 l0_0.length c0_0, .slice A0_1 l0_1.length c0_1]) (t := 33) ?hr ?_; (case hd => rfl); (case hg => rfl); (case hr => first | (go_simp; done) | (go_simp; rfl)); intro gb225 hg w12 hbox hb; have n0_ := G (GM (by repeat (first | (with_reducible first | exact HB.out | apply Z | apply T | apply Y) | exact HB.out)) hb); have n1_ := G (hbox); have n2_ := G ((by rw [hg]; exact (GL (by repeat (first | (with_reducible first | exact HB.out | apply Z | apply T | apply Y) | exact HB.out))) : w.heap.size ≤ gb225)); have n3_ := G ((by rw [hg]; exact (GL (by repeat (first | (with_reducible first | exact HB.out | apply Z | apply T | apply Y) | exact HB.out))) : w.heap.size ≤ gb225)); clear HB; have HB := n0_; have BK225 := n1_; have GW225 := n2_; have GE225 := n3_; clear n0_ n1_ n2_ n3_; clear hb hbox hg; have hcz13_0 : w12.cell? ⟨gb225, 0, none⟩ = some (.slice A0_0 l0_0.length c0_0) := (E BK225.out 0).trans rfl; have hcz13_1 : w12.cell? ⟨gb225, 1, none⟩ = some (.slice A0_1 l0_1.length c0_1) := (E BK225.out 1).trans rfl; have hfz13_0 := GO BK225.out 0; have hfz13_1 := GO BK225.out 1) | ((with_reducible refine gate_callee (f := 19) rfl ?_); refine goesL_ (some 16) rfl rfl Try.func19 (by kernel_rfl) rfl #[.agg #[.slice A0_0 l0_0.length c0_0, .slice A0_1 l0_1.length c0_1], .int .i64 1048576] rfl (by (try simp only [List.map_toArray, List.map_cons, List.map_nil]); first | done | rfl | (simp only [List.length_drop, List.length_take]; rfl)) ?_; (with_reducible refine (laws_szFrame.calls _ _ l0_0 _ _ l0_1 1048576 t226 _ ?side1 ?side2 ?side3 ?side4 A2.out).mono ?_); (case side1 => repeat (first | exact (GN HR0_0.out HB.out) | (with_reducible refine P ?_ _) | (with_reducible refine GG ?_ _) | (with_reducible refine GJ ?_))); (case side2 => exact HC0_0.out); (case side3 => repeat (first | exact (GN HR0_1.out HB.out) | (with_reducible refine P ?_ _) | (with_reducible refine GG ?_ _) | (with_reducible refine GJ ?_))); (case side4 => exact HC0_1.out); rintro e w14 ⟨rfl, hb⟩; refine ⟨_, rfl, ?_⟩; have n0_ := G (F (g := gb225) (o := .cells #[.slice A0_0 l0_0.length c0_0, .slice A0_1 l0_1.length c0_1] 33 (0, 0)) (by (with_reducible repeat (first | refine U ?_ _ | refine X ?_ | refine V ?_ _)); exact BK225.out) hb); have n1_ := G (GM (by repeat (first | (with_reducible first | exact HB.out | apply Z | apply T | apply Y | refine O ?_ GE225.out) | exact HB.out)) hb); clear BK225; clear HB; have BK225 := n0_; have HB := n1_; clear n0_ n1_; (try clear hb); (try clear hb2); (try clear hk); (try clear hi); have hcz15_0 : w14.cell? ⟨gb225, 0, none⟩ = some (.slice A0_0 l0_0.length c0_0) := (E BK225.out 0).trans rfl; have hcz15_1 : w14.cell? ⟨gb225, 1, none⟩ = some (.slice A0_1 l0_1.length c0_1) := (E BK225.out 1).trans rfl; have hfz15_0 := GO BK225.out 0; have hfz15_1 := GO BK225.out 1) | ((with_reducible refine gate_callee (f := 21) rfl ?_); refine goesL_ (some 21) rfl rfl Try.func21 (by kernel_rfl) rfl #[.agg #[.slice A0_0 l0_0.length c0_0, .slice A0_1 l0_1.length c0_1]] rfl (by (try simp only [List.map_toArray, List.map_cons, List.map_nil]); first | done | rfl | (simp only [List.length_drop, List.length_take]; rfl)) ?_; (with_reducible refine (laws_toFrame.calls k _ _ l0_0 _ _ l0_1 t227 t230 _ ?side1 ?side2 ?side3 ?side4 A7.out).mono ?_); (case side1 => repeat (first | exact (GN HR0_0.out HB.out) | (with_reducible refine P ?_ _) | (with_reducible refine GG ?_ _) | (with_reducible refine GJ ?_))); (case side2 => exact HC0_0.out); (case side3 => repeat (first | exact (GN HR0_1.out HB.out) | (with_reducible refine P ?_ _) | (with_reducible refine GG ?_ _) | (with_reducible refine GJ ?_))); (case side4 => exact HC0_1.out); rintro e w16 ⟨v228, v231, rfl, ho0, ho1, hb⟩; refine ⟨_, rfl, ?_⟩; have n0_ := G (Kd.R_lower ho0 (GL (by repeat (first | (with_reducible first | exact HB.out | apply Z | apply T | apply Y | refine O ?_ GE225.out) | exact HB.out)))); have n1_ := G (Kd.R_lower ho1 (GL (by repeat (first | (with_reducible first | exact HB.out | apply Z | apply T | apply Y | refine O ?_ GE225.out) | exact HB.out)))); have n2_ := G (F (g := gb225) (o := .cells #[.slice A0_0 l0_0.length c0_0, .slice A0_1 l0_1.length c0_1] 33 (0, 0)) (by (with_reducible repeat (first | refine U ?_ _ | refine X ?_ | refine V ?_ _)); exact BK225.out) hb); have n3_ := G (GM (by repeat (first | (with_reducible first | exact HB.out | apply Z | apply T | apply Y | refine O ?_ GE225.out) | exact HB.out)) hb); clear BK225; clear HB; have HO229 := n0_; have HO232 := n1_; have BK225 := n2_; have HB := n3_; clear n0_ n1_ n2_ n3_; (try clear hb); (try clear hb2); (try clear hk); (try clear hi); (try clear ho0); (try clear ho1); obtain ⟨Ao17, co17, eo17⟩ := Kd.R_slice HO229.out; subst eo17; obtain ⟨Ao18, co18, eo18⟩ := Kd.R_slice HO232.out; subst eo18) | ((with_reducible refine gate_callee (f := 33) rfl ?_); refine goesL_ (some 22) rfl rfl Try.func33 (by kernel_rfl) rfl #[.agg #[.slice Ao17 t227.length co17, .slice Ao18 t230.length co18]] rfl (by (try simp only [List.map_toArray, List.map_cons, List.map_nil]); first | done | rfl | (simp only [List.length_drop, List.length_take]; rfl)) ?_; (with_reducible refine (spec_FreeKnots.calls k _ _ t227 _ _ t230 t233 t236 _ ?side1 ?side2 ?side3 ?side4 A8.out).mono ?_); (case side1 => repeat (first | exact (Kd.R_reads' HO229.out).2.2 | (with_reducible refine P ?_ _) | (with_reducible refine GG ?_ _) | (with_reducible refine GJ ?_))); (case side2 => exact (Kd.R_reads' HO229.out).2.1); (case side3 => repeat (first | exact (Kd.R_reads' HO232.out).2.2 | (with_reducible refine P ?_ _) | (with_reducible refine GG ?_ _) | (with_reducible refine GJ ?_))); (case side4 => exact (Kd.R_reads' HO232.out).2.1); rintro e w19 ⟨v234, rfl, ho0, hb⟩; refine ⟨_, rfl, ?_⟩; have n0_ := G (B (by (with_reducible repeat (first | apply J | apply L | apply M)); exact HO229.out) hb); have n1_ := G (B (by (with_reducible repeat (first | apply J | apply L | apply M)); exact HO232.out) hb); have n2_ := G (Kd.R_lower ho0 (GL (by repeat (first | (with_reducible first | exact HB.out | apply Z | apply T | apply Y | refine O ?_ GE225.out) | exact HB.out)))); have n3_ := G (F (g := gb225) (o := .cells #[.slice A0_0 l0_0.length c0_0, .slice A0_1 l0_1.length c0_1] 33 (0, 0)) (by (with_reducible repeat (first | refine U ?_ _ | refine X ?_ | refine V ?_ _)); exact BK225.out) hb); have n4_ := G (GM (by repeat (first | (with_reducible first | exact HB.out | apply Z | apply T | apply Y | refine O ?_ GE225.out) | exact HB.out)) hb); clear HO229; clear HO232; clear BK225; clear HB; have HO229 := n0_; have HO232 := n1_; have HO235 := n2_; have BK225 := n3_; have HB := n4_; clear n0_ n1_ n2_ n3_ n4_; (try clear hb); (try clear hb2); (try clear hk); (try clear hi); (try clear ho0); have hcz20_0 : w19.cell? ⟨gb225, 0, none⟩ = some (.slice A0_0 l0_0.length c0_0) := (E BK225.out 0).trans rfl; have hcz20_1 : w19.cell? ⟨gb225, 1, none⟩ = some (.slice A0_1 l0_1.length c0_1) := (E BK225.out 1).trans rfl; have hfz20_0 := GO BK225.out 0; have hfz20_1 := GO BK225.out 1) | ((with_reducible refine gate_callee (f := 21) rfl ?_); refine goesL_ (some 26) rfl rfl Try.func21 (by kernel_rfl) rfl #[.agg #[.slice A0_0 l0_0.length c0_0, .slice A0_1 l0_1.length c0_1]] rfl (by (try simp only [List.map_toArray, List.map_cons, List.map_nil]); first | done | rfl | (simp only [List.length_drop, List.length_take]; rfl)) ?_; (with_reducible refine (laws_toFrame.calls k _ _ l0_0 _ _ l0_1 t237 t240 _ ?side1 ?side2 ?side3 ?side4 A9.out).mono ?_); (case side1 => repeat (first | exact (GN HR0_0.out HB.out) | (with_reducible refine P ?_ _) | (with_reducible refine GG ?_ _) | (with_reducible refine GJ ?_))); (case side2 => exact HC0_0.out); (case side3 => repeat (first | exact (GN HR0_1.out HB.out) | (with_reducible refine P ?_ _) | (with_reducible refine GG ?_ _) | (with_reducible refine GJ ?_))); (case side4 => exact HC0_1.out); rintro e w21 ⟨v238, v241, rfl, ho0, ho1, hb⟩; refine ⟨_, rfl, ?_⟩; have n0_ := G (Kd.R_elder' (by (with_reducible repeat (first | apply J | apply L | apply M)); exact HO229.out) (Kd.R_base ho0) hb); have n1_ := G (Kd.R_elder' (by (with_reducible repeat (first | apply J | apply L | apply M)); exact HO232.out) (Kd.R_base ho1) hb); have n2_ := G (B (by (with_reducible repeat (first | apply J | apply L | apply M)); exact HO235.out) hb); have n3_ := G (Kd.R_lower (Kd.R_new' ho0 (Kd.R_lt (by (with_reducible repeat (first | apply J | apply L | apply M)); exact HO229.out))) (GL (by repeat (first | (with_reducible first | exact HB.out | apply Z | apply T | apply Y | refine O ?_ GE225.out) | exact HB.out)))); have n4_ := G (Kd.R_lower (Kd.R_new' ho1 (Kd.R_lt (by (with_reducible repeat (first | apply J | apply L | apply M)); exact HO232.out))) (GL (by repeat (first | (with_reducible first | exact HB.out | apply Z | apply T | apply Y | refine O ?_ GE225.out) | exact HB.out)))); have n5_ := G (F (g := gb225) (o := .cells #[.slice A0_0 l0_0.length c0_0, .slice A0_1 l0_1.length c0_1] 33 (0, 0)) (by (with_reducible repeat (first | refine U ?_ _ | refine X ?_ | refine V ?_ _)); exact BK225.out) hb); have n6_ := G (GM (by repeat (first | (with_reducible first | exact HB.out | apply Z | apply T | apply Y | refine O ?_ GE225.out) | exact HB.out)) hb); clear HO229; clear HO232; clear HO235; clear BK225; clear HB; have HO229 := n0_; have HO232 := n1_; have HO235 := n2_; have HO239 := n3_; have HO242 := n4_; have BK225 := n5_; have HB := n6_; clear n0_ n1_ n2_ n3_ n4_ n5_ n6_; (try clear hb); (try clear hb2); (try clear hk); (try clear hi); (try clear ho0); (try clear ho1)) | ((with_reducible refine gate_dst (N := 6) rfl ?_); refine box_event ?hg (N := 6) ?hd (cs := #[.slice none 0 0, .slice none 0 0]) (t := 39) ?hr ?_; (case hd => rfl); (case hg => rfl); (case hr => first | (go_simp; done) | (go_simp; rfl)); intro gb243 hg w22 hbox hb; have n0_ := G (B (by (with_reducible repeat (first | apply J | apply L | apply M)); exact HO229.out) hb); have n1_ := G (B (by (with_reducible repeat (first | apply J | apply L | apply M)); exact HO232.out) hb); have n2_ := G (B (by (with_reducible repeat (first | apply J | apply L | apply M)); exact HO235.out) hb); have n3_ := G (B (by (with_reducible repeat (first | apply J | apply L | apply M)); exact HO239.out) hb); have n4_ := G (B (by (with_reducible repeat (first | apply J | apply L | apply M)); exact HO242.out) hb); have n5_ := G (F (g := gb225) (o := .cells #[.slice A0_0 l0_0.length c0_0, .slice A0_1 l0_1.length c0_1] 33 (0, 0)) (by (with_reducible repeat (first | refine U ?_ _ | refine X ?_ | refine V ?_ _)); exact BK225.out) hb); have n6_ := G (GM (by repeat (first | (with_reducible first | exact HB.out | apply Z | apply T | apply Y | refine O ?_ GE225.out) | exact HB.out)) hb); have n7_ := G (hbox); have n8_ := G ((by rw [hg]; exact (GL (by repeat (first | (with_reducible first | exact HB.out | apply Z | apply T | apply Y | refine O ?_ GE225.out) | exact HB.out))) : w.heap.size ≤ gb243)); have n9_ := G ((by rw [hg]; exact (GL (by repeat (first | (with_reducible first | exact HB.out | apply Z | apply T | apply Y | refine O ?_ GE225.out) | exact HB.out))) : w.heap.size ≤ gb243)); have n10_ := G ((by rw [hg]; exact Nat.ne_of_lt (blk_lt (g := gb225) (o := .cells #[.slice A0_0 l0_0.length c0_0, .slice A0_1 l0_1.length c0_1] 33 (0, 0)) (by (with_reducible repeat (first | refine U ?_ _ | refine X ?_ | refine V ?_ _)); exact BK225.out)) : gb225 ≠ gb243)); have n11_ := G ((by rw [hg]; exact Nat.ne_of_gt (blk_lt (g := gb225) (o := .cells #[.slice A0_0 l0_0.length c0_0, .slice A0_1 l0_1.length c0_1] 33 (0, 0)) (by (with_reducible repeat (first | refine U ?_ _ | refine X ?_ | refine V ?_ _)); exact BK225.out)) : gb243 ≠ gb225)); clear HO229; clear HO232; clear HO235; clear HO239; clear HO242; clear BK225; clear HB; have HO229 := n0_; have HO232 := n1_; have HO235 := n2_; have HO239 := n3_; have HO242 := n4_; have BK225 := n5_; have HB := n6_; have BK243 := n7_; have GW243 := n8_; have GE243 := n9_; have NB225_243 := n10_; have NB243_225 := n11_; clear n0_ n1_ n2_ n3_ n4_ n5_ n6_ n7_ n8_ n9_ n10_ n11_; clear hb hbox hg; obtain ⟨Ao23, co23, eo23⟩ := Kd.R_slice HO239.out; subst eo23; have hnb24 := NB243_225.out; have hnc24 := NB225_243.out; have hcz25_0 : w22.cell? ⟨gb243, 0, none⟩ = some (.slice none 0 0) := (E BK243.out 0).trans rfl; have hcz25_1 : w22.cell? ⟨gb243, 1, none⟩ = some (.slice none 0 0) := (E BK243.out 1).trans rfl; have hfz25_0 := GO BK243.out 0; have hfz25_1 := GO BK243.out 1; obtain ⟨Ao26, co26, eo26⟩ := Kd.R_slice HO242.out; subst eo26) | ((with_reducible refine gate_callee (f := 34) rfl ?_); refine goesL_ (some 29) rfl rfl Try.func34 (by kernel_rfl) rfl #[.agg #[.slice Ao23 t237.length co23, .slice Ao26 t240.length co26]] rfl (by (try simp only [List.map_toArray, List.map_cons, List.map_nil]); first | done | rfl | (simp only [List.length_drop, List.length_take]; rfl)) ?_; (with_reducible refine (impl_FreeKnots.calls k _ _ t237 _ _ t240 t244 t247 _ ?side1 ?side2 ?side3 ?side4 A10.out).mono ?_); (case side1 => refine (Kd.R_reads' (e := 82) (base := w.heap.size) (ok := fun k_ => (True ∧ some k_ ≠ (.slice Ao17 t227.length co17 : Value).ownBlock)) (n := t237.length) (c := co23) ?_).2.2; exact (by (with_reducible repeat (first | apply J | apply L | apply M)); exact (I (D (p := ⟨gb243, 1, none⟩) (D (p := ⟨gb243, 0, none⟩) (Kd.R_types HO239.out BK243.out (by decide)) (fun _ hk => hk.2) (.slice Ao23 t237.length co23)) (fun _ hk => hk.2) (.slice Ao26 t240.length co26)) (fun _ h_ => h_.1)))); (case side2 => exact (Kd.R_reads' HO239.out).2.1); (case side3 => refine (Kd.R_reads' (e := 84) (base := w.heap.size) (ok := fun k_ => (True ∧ some k_ ≠ (.slice Ao18 t230.length co18 : Value).ownBlock)) (n := t240.length) (c := co26) ?_).2.2; exact (by (with_reducible repeat (first | apply J | apply L | apply M)); exact (I (D (p := ⟨gb243, 1, none⟩) (D (p := ⟨gb243, 0, none⟩) (Kd.R_types HO242.out BK243.out (by decide)) (fun _ hk => hk.2) (.slice Ao23 t237.length co23)) (fun _ hk => hk.2) (.slice Ao26 t240.length co26)) (fun _ h_ => h_.1)))); (case side4 => exact (Kd.R_reads' HO242.out).2.1); rintro e w27 ⟨v245, rfl, ho0, hb⟩; refine ⟨_, rfl, ?_⟩; have n0_ := G (B (by (with_reducible repeat (first | apply J | apply L | apply M)); exact (I (D (p := ⟨gb243, 1, none⟩) (D (p := ⟨gb243, 0, none⟩) (Kd.R_types HO229.out BK243.out (by decide)) (fun _ hk => hk.2) (.slice Ao23 t237.length co23)) (fun _ hk => hk.2) (.slice Ao26 t240.length co26)) (fun _ h_ => h_.1))) hb); have n1_ := G (B (by (with_reducible repeat (first | apply J | apply L | apply M)); exact (I (D (p := ⟨gb243, 1, none⟩) (D (p := ⟨gb243, 0, none⟩) (Kd.R_types HO232.out BK243.out (by decide)) (fun _ hk => hk.2) (.slice Ao23 t237.length co23)) (fun _ hk => hk.2) (.slice Ao26 t240.length co26)) (fun _ h_ => h_.1))) hb); have n2_ := G (Kd.R_elder' (by (with_reducible repeat (first | apply J | apply L | apply M)); exact (I (D (p := ⟨gb243, 1, none⟩) (D (p := ⟨gb243, 0, none⟩) (Kd.R_types HO235.out BK243.out (by decide)) (fun _ hk => hk.2) (.slice Ao23 t237.length co23)) (fun _ hk => hk.2) (.slice Ao26 t240.length co26)) (fun _ h_ => h_.1))) (Kd.R_base ho0) hb); have n3_ := G (B (by (with_reducible repeat (first | apply J | apply L | apply M)); exact (I (D (p := ⟨gb243, 1, none⟩) (D (p := ⟨gb243, 0, none⟩) (Kd.R_types HO239.out BK243.out (by decide)) (fun _ hk => hk.2) (.slice Ao23 t237.length co23)) (fun _ hk => hk.2) (.slice Ao26 t240.length co26)) (fun _ h_ => h_.1))) hb); have n4_ := G (B (by (with_reducible repeat (first | apply J | apply L | apply M)); exact (I (D (p := ⟨gb243, 1, none⟩) (D (p := ⟨gb243, 0, none⟩) (Kd.R_types HO242.out BK243.out (by decide)) (fun _ hk => hk.2) (.slice Ao23 t237.length co23)) (fun _ hk => hk.2) (.slice Ao26 t240.length co26)) (fun _ h_ => h_.1))) hb); have n5_ := G (Kd.R_lower (Kd.R_new' ho0 (Kd.R_lt (by (with_reducible repeat (first | apply J | apply L | apply M)); exact (I (D (p := ⟨gb243, 1, none⟩) (D (p := ⟨gb243, 0, none⟩) (Kd.R_types HO235.out BK243.out (by decide)) (fun _ hk => hk.2) (.slice Ao23 t237.length co23)) (fun _ hk => hk.2) (.slice Ao26 t240.length co26)) (fun _ h_ => h_.1))))) (GL (by repeat (first | (with_reducible first | exact HB.out | apply Z | apply T | apply Y | refine O ?_ GE225.out | refine O ?_ GE243.out) | exact HB.out)))); have n6_ := G (F (g := gb225) (o := .cells #[.slice A0_0 l0_0.length c0_0, .slice A0_1 l0_1.length c0_1] 33 (0, 0)) (by (with_reducible repeat (first | refine U ?_ _ | refine X ?_ | refine V ?_ _)); refine blk_far ?_ NB225_243.out _; (with_reducible repeat (first | refine U ?_ _ | refine X ?_ | refine V ?_ _)); refine blk_far ?_ NB225_243.out _; (with_reducible repeat (first | refine U ?_ _ | refine X ?_ | refine V ?_ _)); exact BK225.out) hb); have n7_ := G (F (g := gb243) (o := .cells #[.slice Ao23 t237.length co23, .slice Ao26 t240.length co26] 39 (0, 0)) (by (with_reducible repeat (first | refine U ?_ _ | refine X ?_ | refine V ?_ _)); refine blk_put (cs := #[.slice Ao23 t237.length co23, .slice none 0 0]) ?_ 1 _ rfl; (with_reducible repeat (first | refine U ?_ _ | refine X ?_ | refine V ?_ _)); refine blk_put (cs := #[.slice none 0 0, .slice none 0 0]) ?_ 0 _ rfl; (with_reducible repeat (first | refine U ?_ _ | refine X ?_ | refine V ?_ _)); exact BK243.out) hb); have n8_ := G (GM (by repeat (first | (with_reducible first | exact HB.out | apply Z | apply T | apply Y | refine O ?_ GE225.out | refine O ?_ GE243.out) | exact HB.out)) hb); clear HO229; clear HO232; clear HO235; clear HO239; clear HO242; clear BK225; clear BK243; clear HB; have HO229 := n0_; have HO232 := n1_; have HO235 := n2_; have HO239 := n3_; have HO242 := n4_; have HO246 := n5_; have BK225 := n6_; have BK243 := n7_; have HB := n8_; clear n0_ n1_ n2_ n3_ n4_ n5_ n6_ n7_ n8_; (try clear hb); (try clear hb2); (try clear hk); (try clear hi); (try clear ho0)))
  (try simp only [Act.put, List.setIfInBounds_toArray, List.set_cons_zero, List.set_cons_succ])
  go_cut [40] (fun v40 wc => ∃ (kq : Nat) (x40_10 : Bool), v40 = .bool x40_10 ∧ Aside0 (laws_FnExactFreeKnots.j0 kq t233 t236 t244 t247 x40_10 l0_0 l0_1 t237 t240 = some r) ∧ Aside0 (kq ≤ k) ∧ Aside0 (Kd.R (Kd.int .i64) 2 wc w.heap.size (fun k_ => some k_ ≠ (v245 : Value).ownBlock) v234 t233) ∧ Aside0 (Kd.R (Kd.int .i64) 2 wc w.heap.size (fun k_ => some k_ ≠ (v234 : Value).ownBlock) v245 t244) ∧ Aside0 (Kd.R k82 82 wc w.heap.size (fun _ => True) (.slice Ao23 t237.length co23) t237) ∧ Aside0 (Kd.R k84 84 wc w.heap.size (fun _ => True) (.slice Ao26 t240.length co26) t240) ∧ Aside0 (wc.heap[gb225]? = some (.cells #[(.slice A0_0 l0_0.length c0_0), (.slice A0_1 l0_1.length c0_1)] 33 (0, 0))) ∧ Aside0 (wc.heap[gb243]? = some (.cells #[(.slice Ao23 t237.length co23), (.slice Ao26 t240.length co26)] 39 (0, 0))) ∧ Aside0 (Below w.heap.size w wc))
  case first =>
   have H := HC11.out
   clear HC11
   replace H := Option.bind_eq_some_iff.mp H
   obtain ⟨t248, A280, H⟩ := H
   replace H : (if t248 = true then (laws_FnExactFreeKnots.j0 k t233 t236 t244 t247 (t247 != t236) l0_0 l0_1 t237 t240) else (laws_FnExactFreeKnots.j0 k t233 t236 t244 t247 true l0_0 l0_1 t237 t240)) = some r := H
   have A28 := G A280
   clear A280
   by_cases c29 : t248 = true
   ·subst c29
    have H1 : (laws_FnExactFreeKnots.j0 k t233 t236 t244 t247 (t247 != t236) l0_0 l0_1 t237 t240) = some r := by rw [if_pos rfl] at H; exact H
    clear H
    have H := H1
    clear H1
    have H' := G H
    clear H
    obtain ⟨Ao30, co30, eo30⟩ := Kd.R_slice HO246.out
    subst eo30
    obtain ⟨Ao31, co31, eo31⟩ := Kd.R_slice HO235.out
    subst eo31
    go_wp2_with (first | ((with_reducible refine gate_callee (f := 35) rfl ?_); refine goesL_ (some 34) rfl rfl Try.func35 (by kernel_rfl) rfl #[.slice Ao30 t244.length co30, .slice Ao31 t233.length co31] rfl (by (try simp only [List.map_toArray, List.map_cons, List.map_nil]); first | done | rfl | (simp only [List.length_drop, List.length_take]; rfl)) ?_; (with_reducible refine (laws_eqInt64S.calls k _ _ t244 _ _ t233 true _ ?side1 ?side2 ?side3 ?side4 A28.out).mono ?_); (case side1 => repeat (first | exact (Kd.R_reads' HO246.out).2.2 | (with_reducible refine P ?_ _) | (with_reducible refine GG ?_ _) | (with_reducible refine GJ ?_))); (case side2 => exact (Kd.R_reads' HO246.out).2.1); (case side3 => repeat (first | exact (Kd.R_reads' HO235.out).2.2 | (with_reducible refine P ?_ _) | (with_reducible refine GG ?_ _) | (with_reducible refine GJ ?_))); (case side4 => exact (Kd.R_reads' HO235.out).2.1); rintro e w' ⟨rfl, ⟨nd, rfl⟩⟩; refine ⟨_, rfl, ?_⟩))
    go_meet
    case rel => exact ⟨_, ((t247 != t236)), (by first | rfl | (simp; done) | (simp [*]; done)), H', ⟨by first | omega | exact Nat.le_refl _⟩, ⟨by (with_reducible repeat (first | apply J | apply L | apply M)); exact I HO235.out (fun _ hk => hk.2)⟩, ⟨by (with_reducible repeat (first | apply J | apply L | apply M)); exact I HO246.out (fun _ hk => hk.2)⟩, ⟨by (with_reducible repeat (first | apply J | apply L | apply M)); exact I HO239.out (fun _ hk => trivial)⟩, ⟨by (with_reducible repeat (first | apply J | apply L | apply M)); exact I HO242.out (fun _ hk => trivial)⟩, ⟨by (with_reducible repeat (first | refine U ?_ _ | refine X ?_ | refine V ?_ _)); exact BK225.out⟩, ⟨by (with_reducible repeat (first | refine U ?_ _ | refine X ?_ | refine V ?_ _)); exact BK243.out⟩, ⟨by repeat (first | (with_reducible first | exact HB.out | apply Z | apply T | apply Y | refine O ?_ GE225.out | refine O ?_ GE243.out) | exact HB.out)⟩⟩
   ·replace c29 := Bool.eq_false_iff.mpr c29
    subst c29
    have H1 : (laws_FnExactFreeKnots.j0 k t233 t236 t244 t247 true l0_0 l0_1 t237 t240) = some r := by rw [if_neg (show ¬ (false = true) by decide)] at H; exact H
    clear H
    have H := H1
    clear H1
    have H' := G H
    clear H
    obtain ⟨Ao32, co32, eo32⟩ := Kd.R_slice HO246.out
    subst eo32
    obtain ⟨Ao33, co33, eo33⟩ := Kd.R_slice HO235.out
    subst eo33
    go_wp2_with (first | ((with_reducible refine gate_callee (f := 35) rfl ?_); refine goesL_ (some 34) rfl rfl Try.func35 (by kernel_rfl) rfl #[.slice Ao32 t244.length co32, .slice Ao33 t233.length co33] rfl (by (try simp only [List.map_toArray, List.map_cons, List.map_nil]); first | done | rfl | (simp only [List.length_drop, List.length_take]; rfl)) ?_; (with_reducible refine (laws_eqInt64S.calls k _ _ t244 _ _ t233 false _ ?side1 ?side2 ?side3 ?side4 A28.out).mono ?_); (case side1 => repeat (first | exact (Kd.R_reads' HO246.out).2.2 | (with_reducible refine P ?_ _) | (with_reducible refine GG ?_ _) | (with_reducible refine GJ ?_))); (case side2 => exact (Kd.R_reads' HO246.out).2.1); (case side3 => repeat (first | exact (Kd.R_reads' HO235.out).2.2 | (with_reducible refine P ?_ _) | (with_reducible refine GG ?_ _) | (with_reducible refine GJ ?_))); (case side4 => exact (Kd.R_reads' HO235.out).2.1); rintro e w' ⟨rfl, ⟨nd, rfl⟩⟩; refine ⟨_, rfl, ?_⟩))
    go_meet
    case rel => exact ⟨_, (true), (by first | rfl | (simp; done) | (simp [*]; done)), H', ⟨by first | omega | exact Nat.le_refl _⟩, ⟨by (with_reducible repeat (first | apply J | apply L | apply M)); exact I HO235.out (fun _ hk => hk.2)⟩, ⟨by (with_reducible repeat (first | apply J | apply L | apply M)); exact I HO246.out (fun _ hk => hk.2)⟩, ⟨by (with_reducible repeat (first | apply J | apply L | apply M)); exact I HO239.out (fun _ hk => trivial)⟩, ⟨by (with_reducible repeat (first | apply J | apply L | apply M)); exact I HO242.out (fun _ hk => trivial)⟩, ⟨by (with_reducible repeat (first | refine U ?_ _ | refine X ?_ | refine V ?_ _)); exact BK225.out⟩, ⟨by (with_reducible repeat (first | refine U ?_ _ | refine X ?_ | refine V ?_ _)); exact BK243.out⟩, ⟨by repeat (first | (with_reducible first | exact HB.out | apply Z | apply T | apply Y | refine O ?_ GE225.out | refine O ?_ GE243.out) | exact HB.out)⟩⟩
  case rest =>
   clear HC11
   try clear c1
   try clear c2
   try clear p2
   try clear c3
   try clear c3b0
   try clear c8
   try clear c19
   try clear c21
   try clear c24
   try clear c29
   try clear c33
   try clear hcz13_0
   try clear hcz13_1
   try clear hcz15_0
   try clear hcz15_1
   try clear hcz20_0
   try clear hcz20_1
   try clear hcz25_0
   try clear hcz25_1
   try clear hcz5_0
   try clear hcz5_1
   try clear hfz13_0
   try clear hfz13_1
   try clear hfz15_0
   try clear hfz15_1
   try clear hfz20_0
   try clear hfz20_1
   try clear hfz25_0
   try clear hfz25_1
   try clear hfz5_0
   try clear hfz5_1
   obtain ⟨kq, x40_10, rfl, HA, HJ10, HO_4, HO_7, HO_244000, HO_244001, BK225, BK243, HB⟩ := hcut
   cases kq with
   | zero => exact absurd HA.out (by simp [laws_FnExactFreeKnots.j0])
   | succ kj10 =>
    have H := HA.out
    clear HA
    simp only [laws_FnExactFreeKnots.j0] at H
    by_cases c34 : x40_10 = true
    ·subst c34
     have H1 : (some false) = some r := by rw [if_pos rfl] at H; exact H
     clear H
     have H := H1
     clear H1
     obtain rfl := Option.some.inj H
     go_wp2
     go_ret
     exact ⟨by first | rfl | (simp [errW_none, errW_some] <;> rfl) | (simp [*, errW_none, errW_some] <;> rfl), by repeat (first | (with_reducible first | exact HB.out | apply Z | apply T | apply Y | refine O ?_ GE225.out | refine O ?_ GE243.out) | exact HB.out)⟩
    ·replace c34 := Bool.eq_false_iff.mpr c34
     subst c34
     have H1 : ((laws_toFrame.f kj10 l0_0 l0_1).bind fun bt249 => ((laws_eqFrame.f kj10 t237 t240 bt249.1 bt249.2).bind fun t255 => (if t255 = true then ((laws_markFrame.f kj10 t237 t240 1).bind fun bt256 => (if bt256.1 < 0 then (laws_FnExactFreeKnots.j1 kj10 t233 t236 t244 true l0_0 l0_1) else ((laws_eqInt64S.f kj10 t244 t233).bind fun t259 => (if t259 = true then (laws_FnExactFreeKnots.j1 kj10 t233 t236 t244 (t247 != t236) l0_0 l0_1) else (laws_FnExactFreeKnots.j1 kj10 t233 t236 t244 true l0_0 l0_1))))) else (some false)))) = some r := by rw [if_neg (show ¬ (false = true) by decide)] at H; exact H
     clear H
     have H := H1
     clear H1
     replace H := Option.bind_eq_some_iff.mp H
     obtain ⟨⟨t249, t252⟩, A350, H⟩ := H
     replace H : ((laws_eqFrame.f kj10 t237 t240 t249 t252).bind fun t255 => (if t255 = true then ((laws_markFrame.f kj10 t237 t240 1).bind fun bt256 => (if bt256.1 < 0 then (laws_FnExactFreeKnots.j1 kj10 t233 t236 t244 true l0_0 l0_1) else ((laws_eqInt64S.f kj10 t244 t233).bind fun t259 => (if t259 = true then (laws_FnExactFreeKnots.j1 kj10 t233 t236 t244 (t247 != t236) l0_0 l0_1) else (laws_FnExactFreeKnots.j1 kj10 t233 t236 t244 true l0_0 l0_1))))) else (some false))) = some r := H
     have A35 := G A350
     clear A350
     replace H := Option.bind_eq_some_iff.mp H
     obtain ⟨t255, A360, H⟩ := H
     replace H : (if t255 = true then ((laws_markFrame.f kj10 t237 t240 1).bind fun bt256 => (if bt256.1 < 0 then (laws_FnExactFreeKnots.j1 kj10 t233 t236 t244 true l0_0 l0_1) else ((laws_eqInt64S.f kj10 t244 t233).bind fun t259 => (if t259 = true then (laws_FnExactFreeKnots.j1 kj10 t233 t236 t244 (t247 != t236) l0_0 l0_1) else (laws_FnExactFreeKnots.j1 kj10 t233 t236 t244 true l0_0 l0_1))))) else (some false)) = some r := H
     have A36 := G A360
     clear A360
     by_cases c37 : t255 = true
     ·subst c37
      have H1 : ((laws_markFrame.f kj10 t237 t240 1).bind fun bt256 => (if bt256.1 < 0 then (laws_FnExactFreeKnots.j1 kj10 t233 t236 t244 true l0_0 l0_1) else ((laws_eqInt64S.f kj10 t244 t233).bind fun t259 => (if t259 = true then (laws_FnExactFreeKnots.j1 kj10 t233 t236 t244 (t247 != t236) l0_0 l0_1) else (laws_FnExactFreeKnots.j1 kj10 t233 t236 t244 true l0_0 l0_1))))) = some r := by rw [if_pos rfl] at H; exact H
      clear H
      have H := H1
      clear H1
      replace H := Option.bind_eq_some_iff.mp H
      obtain ⟨⟨t256, t257, t258⟩, A380, H⟩ := H
      replace H : (if t256 < 0 then (laws_FnExactFreeKnots.j1 kj10 t233 t236 t244 true l0_0 l0_1) else ((laws_eqInt64S.f kj10 t244 t233).bind fun t259 => (if t259 = true then (laws_FnExactFreeKnots.j1 kj10 t233 t236 t244 (t247 != t236) l0_0 l0_1) else (laws_FnExactFreeKnots.j1 kj10 t233 t236 t244 true l0_0 l0_1)))) = some r := H
      have A38 := G A380
      clear A380
      have HC39 := G H
      clear H
      try go_wp2
      have n0_ := G (M HO_4.out)
      have n1_ := G (M HO_7.out)
      have n2_ := G (M HO_244000.out)
      have n3_ := G (M HO_244001.out)
      have n4_ := G (X BK225.out)
      have n5_ := G (X BK243.out)
      have n6_ := G (Y HB.out)
      clear HO_4
      clear HO_7
      clear HO_244000
      clear HO_244001
      clear BK225
      clear BK243
      clear HB
      have HO_4 := n0_
      have HO_7 := n1_
      have HO_244000 := n2_
      have HO_244001 := n3_
      have BK225 := n4_
      have BK243 := n5_
      have HB := n6_
      clear n0_ n1_ n2_ n3_ n4_ n5_ n6_
      refine start_ (n := 5) (S := fun w' => w'.cell? ⟨gb243, 0, none⟩ = some (.slice Ao23 t237.length co23) ∧ w'.cell? ⟨gb243, 1, none⟩ = some (.slice Ao26 t240.length co26) ∧ w'.cell? ⟨gb225, 0, none⟩ = some (.slice A0_0 l0_0.length c0_0) ∧ w'.cell? ⟨gb225, 1, none⟩ = some (.slice A0_1 l0_1.length c0_1)) (ds := []) #[n', n', n', n', n'] (by kernel_rfl) rfl rfl ⟨(E BK243.out 0).trans rfl, (E BK243.out 1).trans rfl, (E BK225.out 0).trans rfl, (E BK225.out 1).trans rfl⟩ (fun hHeld => ?_)
      generalize wc.drew = w40 at HO_4 HO_7 HO_244000 HO_244001 BK225 BK243 HB hHeld ⊢
      refine take_ (i := 0) (N := some 41) (v := ?_) (a' := ?_) #[y', n', n', n', n'] rfl rfl (by kernel_rfl) (fun _ _ _ h => h) (Or.inl ⟨by rfl, ?_⟩) hHeld ?_ ?_
      rotate_left
      ·rintro w' ⟨s0, s1, s2, s3⟩
       go_simp
       with_reducible rfl
      rotate_left
      ·simp only [Act.put, z1', z2', z3', i64_w, i32_w]
       rfl
      refine take_ (i := 1) (N := some 42) (v := ?_) (a' := ?_) #[y', y', n', n', n'] rfl rfl (by kernel_rfl) (fun _ _ _ h => h) (Or.inl ⟨by rfl, ?_⟩) hHeld ?_ ?_
      rotate_left
      ·rintro w' ⟨s0, s1, s2, s3⟩
       go_simp
       with_reducible rfl
      rotate_left
      ·simp only [Act.put, z1', z2', z3', i64_w, i32_w]
       rfl
      refine one_ (i := 2) (N := some 43) #[y', y', y', n', n'] rfl rfl (by kernel_rfl) (by decide) (fun K hK => ?_)
      refine goes_ Try.func21 (by kernel_rfl) rfl #[.agg #[.slice A0_0 l0_0.length c0_0, .slice A0_1 l0_1.length c0_1]] (by rfl) rfl rfl (by (try simp only [List.map_toArray, List.map_cons, List.map_nil]); first | done | rfl | (simp only [List.length_drop, List.length_take]; rfl)) ?_
      with_reducible refine (laws_toFrame.calls kj10 _ _ l0_0 _ _ l0_1 t249 t252 _ ?side1 ?side2 ?side3 ?side4 A35.out).mono ?_
      (case side1 => repeat (first | exact (GN HR0_0.out HB.out) | (with_reducible refine P ?_ _) | (with_reducible refine GG ?_ _) | (with_reducible refine GJ ?_)))
      (case side2 => exact HC0_0.out)
      (case side3 => repeat (first | exact (GN HR0_1.out HB.out) | (with_reducible refine P ?_ _) | (with_reducible refine GG ?_ _) | (with_reducible refine GJ ?_)))
      (case side4 => exact HC0_1.out)
      rintro e w41 ⟨v250, v253, rfl, ho0, ho1, hb⟩
      refine ⟨_, rfl, ?_⟩
      have n0_ := G (B (by (with_reducible repeat (first | apply J | apply L | apply M)); exact HO_4.out) hb)
      have n1_ := G (B (by (with_reducible repeat (first | apply J | apply L | apply M)); exact HO_7.out) hb)
      have n2_ := G (Kd.R_elder' (by (with_reducible repeat (first | apply J | apply L | apply M)); exact HO_244000.out) (Kd.R_base ho0) hb)
      have n3_ := G (Kd.R_elder' (by (with_reducible repeat (first | apply J | apply L | apply M)); exact HO_244001.out) (Kd.R_base ho1) hb)
      have n4_ := G (Kd.R_lower (Kd.R_new' ho0 (Kd.R_lt (by (with_reducible repeat (first | apply J | apply L | apply M)); exact HO_244000.out))) (GL (by repeat (first | (with_reducible first | exact HB.out | apply Z | apply T | apply Y | refine O ?_ GE225.out | refine O ?_ GE243.out) | exact HB.out))))
      have n5_ := G (Kd.R_lower (Kd.R_new' ho1 (Kd.R_lt (by (with_reducible repeat (first | apply J | apply L | apply M)); exact HO_244001.out))) (GL (by repeat (first | (with_reducible first | exact HB.out | apply Z | apply T | apply Y | refine O ?_ GE225.out | refine O ?_ GE243.out) | exact HB.out))))
      have n6_ := G (F (g := gb225) (o := .cells #[.slice A0_0 l0_0.length c0_0, .slice A0_1 l0_1.length c0_1] 33 (0, 0)) (by (with_reducible repeat (first | refine U ?_ _ | refine X ?_ | refine V ?_ _)); exact BK225.out) hb)
      have n7_ := G (F (g := gb243) (o := .cells #[.slice Ao23 t237.length co23, .slice Ao26 t240.length co26] 39 (0, 0)) (by (with_reducible repeat (first | refine U ?_ _ | refine X ?_ | refine V ?_ _)); exact BK243.out) hb)
      have n8_ := G (GM (by repeat (first | (with_reducible first | exact HB.out | apply Z | apply T | apply Y | refine O ?_ GE225.out | refine O ?_ GE243.out) | exact HB.out)) hb)
      clear HO_4
      clear HO_7
      clear HO_244000
      clear HO_244001
      clear BK225
      clear BK243
      clear HB
      have HO_4 := n0_
      have HO_7 := n1_
      have HO_244000 := n2_
      have HO_244001 := n3_
      have HO251 := n4_
      have HO254 := n5_
      have BK225 := n6_
      have BK243 := n7_
      have HB := n8_
      clear n0_ n1_ n2_ n3_ n4_ n5_ n6_ n7_ n8_
      (try clear hb)
      (try clear hb2)
      (try clear hk)
      (try clear hi)
      (try clear ho0)
      (try clear ho1)
      obtain ⟨Ao42, co42, eo42⟩ := Kd.R_slice HO251.out
      (first | subst eo42 | (injection eo42 with f1_ f2_ f3_; have f4_ := f1_.symm; have f5_ := f3_.symm; clear f1_ f2_ f3_; subst f4_; subst f5_))
      obtain ⟨Ao43, co43, eo43⟩ := Kd.R_slice HO254.out
      (first | subst eo43 | (injection eo43 with f1_ f2_ f3_; have f4_ := f1_.symm; have f5_ := f3_.symm; clear f1_ f2_ f3_; subst f4_; subst f5_))
      refine hK.out _ _ ⟨(E BK243.out 0).trans rfl, (E BK243.out 1).trans rfl, (E BK225.out 0).trans rfl, (E BK225.out 1).trans rfl⟩ (fun hHeld => ?_)
      clear hK K
      refine norm_ (a' := ?_) ?_ ?_
      rotate_left
      ·show Act.put _ (some 43) _ = _
       simp only [Act.put, z1', z2', z3', i64_w, i32_w]
       rfl
      refine one_ (i := 3) (N := some 44) #[y', y', y', y', n'] rfl rfl (by kernel_rfl) (by decide) (fun K hK => ?_)
      refine goes_ Try.func23 (by kernel_rfl) rfl #[.agg #[.slice Ao23 t237.length co23, .slice Ao26 t240.length co26], .agg #[.slice Ao42 t249.length co42, .slice Ao43 t252.length co43]] (by rfl) rfl rfl (by (try simp only [List.map_toArray, List.map_cons, List.map_nil]); first | done | rfl | (simp only [List.length_drop, List.length_take]; rfl)) ?_
      with_reducible refine (laws_eqFrame.calls kj10 _ _ t237 _ _ t240 _ _ t249 _ _ t252 true _ ?side1 ?side2 ?side3 ?side4 ?side5 ?side6 ?side7 ?side8 A36.out).mono ?_
      (case side1 => repeat (first | exact (Kd.R_reads' HO_244000.out).2.2 | (with_reducible refine P ?_ _) | (with_reducible refine GG ?_ _) | (with_reducible refine GJ ?_)))
      (case side2 => exact (Kd.R_reads' HO_244000.out).2.1)
      (case side3 => repeat (first | exact (Kd.R_reads' HO_244001.out).2.2 | (with_reducible refine P ?_ _) | (with_reducible refine GG ?_ _) | (with_reducible refine GJ ?_)))
      (case side4 => exact (Kd.R_reads' HO_244001.out).2.1)
      (case side5 => repeat (first | exact (Kd.R_reads' HO251.out).2.2 | (with_reducible refine P ?_ _) | (with_reducible refine GG ?_ _) | (with_reducible refine GJ ?_)))
      (case side6 => exact (Kd.R_reads' HO251.out).2.1)
      (case side7 => repeat (first | exact (Kd.R_reads' HO254.out).2.2 | (with_reducible refine P ?_ _) | (with_reducible refine GG ?_ _) | (with_reducible refine GJ ?_)))
      (case side8 => exact (Kd.R_reads' HO254.out).2.1)
      rintro e w44 ⟨rfl, hb⟩
      refine ⟨_, rfl, ?_⟩
      have n0_ := G (B (by (with_reducible repeat (first | apply J | apply L | apply M)); exact HO_4.out) hb)
      have n1_ := G (B (by (with_reducible repeat (first | apply J | apply L | apply M)); exact HO_7.out) hb)
      have n2_ := G (B (by (with_reducible repeat (first | apply J | apply L | apply M)); exact HO_244000.out) hb)
      have n3_ := G (B (by (with_reducible repeat (first | apply J | apply L | apply M)); exact HO_244001.out) hb)
      have n4_ := G (B (by (with_reducible repeat (first | apply J | apply L | apply M)); exact HO251.out) hb)
      have n5_ := G (B (by (with_reducible repeat (first | apply J | apply L | apply M)); exact HO254.out) hb)
      have n6_ := G (F (g := gb225) (o := .cells #[.slice A0_0 l0_0.length c0_0, .slice A0_1 l0_1.length c0_1] 33 (0, 0)) (by (with_reducible repeat (first | refine U ?_ _ | refine X ?_ | refine V ?_ _)); exact BK225.out) hb)
      have n7_ := G (F (g := gb243) (o := .cells #[.slice Ao23 t237.length co23, .slice Ao26 t240.length co26] 39 (0, 0)) (by (with_reducible repeat (first | refine U ?_ _ | refine X ?_ | refine V ?_ _)); exact BK243.out) hb)
      have n8_ := G (GM (by repeat (first | (with_reducible first | exact HB.out | apply Z | apply T | apply Y | refine O ?_ GE225.out | refine O ?_ GE243.out) | exact HB.out)) hb)
      clear HO_4
      clear HO_7
      clear HO_244000
      clear HO_244001
      clear HO251
      clear HO254
      clear BK225
      clear BK243
      clear HB
      have HO_4 := n0_
      have HO_7 := n1_
      have HO_244000 := n2_
      have HO_244001 := n3_
      have HO251 := n4_
      have HO254 := n5_
      have BK225 := n6_
      have BK243 := n7_
      have HB := n8_
      clear n0_ n1_ n2_ n3_ n4_ n5_ n6_ n7_ n8_
      (try clear hb)
      (try clear hb2)
      (try clear hk)
      (try clear hi)
      refine hK.out _ _ ⟨(E BK243.out 0).trans rfl, (E BK243.out 1).trans rfl, (E BK225.out 0).trans rfl, (E BK225.out 1).trans rfl⟩ (fun hHeld => ?_)
      clear hK K
      refine norm_ (a' := ?_) ?_ ?_
      rotate_left
      ·show Act.put _ (some 44) _ = _
       simp only [Act.put, z1', z2', z3', i64_w, i32_w]
       rfl
      refine pure_ (i := 4) (N := some 45) (v := ?_) (a' := ?_) #[y', y', y', y', y'] rfl rfl (by kernel_rfl) (fun _ _ _ h => h) (Or.inl ⟨by rfl, ?_⟩) ?_ ?_
      rotate_left
      ·intro w'
       go_simp
       with_reducible rfl
      rotate_left
      ·simp only [Act.put, z1', z2', z3', i64_w, i32_w]
       rfl
      refine done_ (by kernel_rfl) ?_
      have hnb45 := NB243_225.out
      have hnc45 := NB225_243.out
      have hcz46_0 : w44.cell? ⟨gb243, 0, none⟩ = some (.slice Ao23 t237.length co23) := (E BK243.out 0).trans rfl
      have hcz46_1 : w44.cell? ⟨gb243, 1, none⟩ = some (.slice Ao26 t240.length co26) := (E BK243.out 1).trans rfl
      have hfz46_0 := GO BK243.out 0
      have hfz46_1 := GO BK243.out 1
      go_upto_region 14 with (first | ((with_reducible refine gate_callee (f := 36) rfl ?_); refine goesL_ (some 48) rfl rfl Try.func36 (by kernel_rfl) rfl #[.agg #[.slice Ao23 t237.length co23, .slice Ao26 t240.length co26], .int .i64 1] rfl (by (try simp only [List.map_toArray, List.map_cons, List.map_nil]); first | done | rfl | (simp only [List.length_drop, List.length_take]; rfl)) ?_; (with_reducible refine (laws_markFrame.calls kj10 (fun k_ => some k_ = (.slice Ao23 t237.length co23 : Value).ownBlock) (.slice Ao23 t237.length co23) t237 (fun k_ => some k_ = (.slice Ao26 t240.length co26 : Value).ownBlock) (.slice Ao26 t240.length co26) t240 1 t256 t257 t258 w _ ?side1 ?side2 ?side3 A38.out).mono ?_); (case side1 => repeat (first | (with_reducible first | exact HB.out | apply Z | apply T | apply Y | refine O ?_ GE225.out | refine O ?_ GE243.out) | exact HB.out)); (case side2 => exact Kd.R_tight rfl HO_244000.out); (case side3 => exact Kd.R_tight rfl HO_244001.out); rintro e w47 ⟨rfl, hy0, hy1, hb, hkp⟩; refine ⟨_, rfl, ?_⟩; have n0_ := G (I (ok' := fun k_ => some k_ ≠ (v245 : Value).ownBlock) (Kd.R_keptB ((Kd.R_apart' (Kd.R_apart' HO_4.out (Kd.R_typed HO_244000.out) (by decide)) (Kd.R_typed HO_244001.out) (by decide))) hkp (fun k_ hk_ hs_ => Or.elim hs_ (fun e_ => (hk_.1.2) e_) (fun e_ => (hk_.2) e_))) (fun k_ hk_ => hk_.1.1.1)); have n1_ := G (I (ok' := fun k_ => some k_ ≠ (v234 : Value).ownBlock) (Kd.R_keptB ((Kd.R_apart' (Kd.R_apart' HO_7.out (Kd.R_typed HO_244000.out) (by decide)) (Kd.R_typed HO_244001.out) (by decide))) hkp (fun k_ hk_ hs_ => Or.elim hs_ (fun e_ => (hk_.1.2) e_) (fun e_ => (hk_.2) e_))) (fun k_ hk_ => hk_.1.1.1)); have n2_ := G (Kd.R_reok rfl hy0 (fun k_ e_ => HO_244000.out.1 k_ e_)); have n3_ := G (Kd.R_reok rfl hy1 (fun k_ e_ => HO_244001.out.1 k_ e_)); have n4_ := G (blk_kept (by (with_reducible repeat (first | refine U ?_ _ | refine X ?_ | refine V ?_ _)); exact BK225.out) hkp (fun hs_ => Or.elim hs_ (fun e_ => (fun e_ => (Kd.R_ne HO_244000.out BK225.out (by decide)) e_) e_) (fun e_ => (fun e_ => (Kd.R_ne HO_244001.out BK225.out (by decide)) e_) e_))); have n5_ := G (blk_kept (by (with_reducible repeat (first | refine U ?_ _ | refine X ?_ | refine V ?_ _)); exact BK243.out) hkp (fun hs_ => Or.elim hs_ (fun e_ => (fun e_ => (Kd.R_ne HO_244000.out BK243.out (by decide)) e_) e_) (fun e_ => (fun e_ => (Kd.R_ne HO_244001.out BK243.out (by decide)) e_) e_))); have n6_ := G (I (ok' := fun k_ => some k_ ≠ (.slice Ao23 t237.length co23 : Value).ownBlock) (Kd.R_keptB ((Kd.R_apart' HO251.out (Kd.R_typed HO_244001.out) (by decide))) hkp (fun k_ hk_ hs_ => Or.elim hs_ (fun e_ => (hk_.1.2) e_) (fun e_ => (hk_.2) e_))) (fun k_ hk_ => hk_.1.1.2)); have n7_ := G (I (ok' := fun k_ => some k_ ≠ (.slice Ao26 t240.length co26 : Value).ownBlock) (Kd.R_keptB ((Kd.R_apart' HO254.out (Kd.R_typed HO_244000.out) (by decide))) hkp (fun k_ hk_ hs_ => Or.elim hs_ (fun e_ => (hk_.2) e_) (fun e_ => (hk_.1.2) e_))) (fun k_ hk_ => hk_.1.1.2)); have n8_ := G (hb); clear HO_4; clear HO_7; clear HO_244000; clear HO_244001; clear BK225; clear BK243; clear HO251; clear HO254; clear HB; have HO_4 := n0_; have HO_7 := n1_; have HO_244000 := n2_; have HO_244001 := n3_; have BK225 := n4_; have BK243 := n5_; have HO251 := n6_; have HO254 := n7_; have HB := n8_; clear n0_ n1_ n2_ n3_ n4_ n5_ n6_ n7_ n8_; (try clear hb); (try clear hkp); (try clear hy0); (try clear hy1)))
      (try simp only [Act.put, List.setIfInBounds_toArray, List.set_cons_zero, List.set_cons_succ])
      go_cut [61] (fun v61 wc => ∃ (kq : Nat) (x61_38 : Bool), v61 = .bool x61_38 ∧ Aside0 (laws_FnExactFreeKnots.j1 kq t233 t236 t244 x61_38 l0_0 l0_1 = some r) ∧ Aside0 (kq ≤ kj10) ∧ Aside0 (Kd.R (Kd.int .i64) 2 wc w.heap.size (fun k_ => some k_ ≠ (v245 : Value).ownBlock) v234 t233) ∧ Aside0 (Kd.R (Kd.int .i64) 2 wc w.heap.size (fun k_ => some k_ ≠ (v234 : Value).ownBlock) v245 t244) ∧ Aside0 (Kd.R k82 82 wc w.heap.size (fun _ => True) (.slice Ao23 t237.length co23) t257) ∧ Aside0 (Kd.R k84 84 wc w.heap.size (fun _ => True) (.slice Ao26 t240.length co26) t258) ∧ Aside0 (wc.heap[gb225]? = some (.cells #[(.slice A0_0 l0_0.length c0_0), (.slice A0_1 l0_1.length c0_1)] 33 (0, 0))) ∧ Aside0 (wc.heap[gb243]? = some (.cells #[(.slice Ao23 t237.length co23), (.slice Ao26 t240.length co26)] 39 (0, 0))) ∧ Aside0 (Below w.heap.size w wc))
      case first =>
       have H := HC39.out
       clear HC39
       by_cases c48 : t256 < 0
       ·rw [if_pos c48] at H
        have c48b0 : decide (t256 < 0) = true := decide_eq_true c48
        clear c48
        (first | rw [c48b0] | (simp only [i64_w, i32_w]; rw [c48b0]) | skip)
        have H' := G H
        clear H
        go_wp2
        go_meet
        case rel => exact ⟨_, (true), (by first | rfl | (simp; done) | (simp [*]; done)), H', ⟨by have := HJ10.out; first | omega | exact Nat.le_refl _⟩, ⟨by (with_reducible repeat (first | apply J | apply L | apply M)); exact HO_4.out⟩, ⟨by (with_reducible repeat (first | apply J | apply L | apply M)); exact HO_7.out⟩, ⟨by (with_reducible repeat (first | apply J | apply L | apply M)); exact I HO_244000.out (fun _ hk => trivial)⟩, ⟨by (with_reducible repeat (first | apply J | apply L | apply M)); exact I HO_244001.out (fun _ hk => trivial)⟩, ⟨by (with_reducible repeat (first | refine U ?_ _ | refine X ?_ | refine V ?_ _)); exact BK225.out⟩, ⟨by (with_reducible repeat (first | refine U ?_ _ | refine X ?_ | refine V ?_ _)); exact BK243.out⟩, ⟨by repeat (first | (with_reducible first | exact HB.out | apply Z | apply T | apply Y | refine O ?_ GE225.out | refine O ?_ GE243.out) | exact HB.out)⟩⟩
       ·rw [if_neg c48] at H
        have c48b0 : decide (t256 < 0) = false := decide_eq_false c48
        clear c48
        (first | rw [c48b0] | (simp only [i64_w, i32_w]; rw [c48b0]) | skip)
        replace H := Option.bind_eq_some_iff.mp H
        obtain ⟨t259, A490, H⟩ := H
        replace H : (if t259 = true then (laws_FnExactFreeKnots.j1 kj10 t233 t236 t244 (t247 != t236) l0_0 l0_1) else (laws_FnExactFreeKnots.j1 kj10 t233 t236 t244 true l0_0 l0_1)) = some r := H
        have A49 := G A490
        clear A490
        by_cases c50 : t259 = true
        ·subst c50
         have H1 : (laws_FnExactFreeKnots.j1 kj10 t233 t236 t244 (t247 != t236) l0_0 l0_1) = some r := by rw [if_pos rfl] at H; exact H
         clear H
         have H := H1
         clear H1
         have H' := G H
         clear H
         obtain ⟨Ao51, co51, eo51⟩ := Kd.R_slice HO_7.out
         subst eo51
         obtain ⟨Ao52, co52, eo52⟩ := Kd.R_slice HO_4.out
         subst eo52
         go_wp2_with (first | (go_at_call 35; (with_reducible refine (laws_eqInt64S.calls kj10 _ _ t244 _ _ t233 true _ ?side1 ?side2 ?side3 ?side4 A49.out).mono ?_); (case side1 => repeat (first | exact (Kd.R_reads' HO_7.out).2.2 | (with_reducible refine P ?_ _) | (with_reducible refine GG ?_ _) | (with_reducible refine GJ ?_))); (case side2 => exact (Kd.R_reads' HO_7.out).2.1); (case side3 => repeat (first | exact (Kd.R_reads' HO_4.out).2.2 | (with_reducible refine P ?_ _) | (with_reducible refine GG ?_ _) | (with_reducible refine GJ ?_))); (case side4 => exact (Kd.R_reads' HO_4.out).2.1); rintro e w' ⟨rfl, ⟨nd, rfl⟩⟩))
         go_meet
         case rel => exact ⟨_, ((t247 != t236)), (by first | rfl | (simp; done) | (simp [*]; done)), H', ⟨by have := HJ10.out; first | omega | exact Nat.le_refl _⟩, ⟨by (with_reducible repeat (first | apply J | apply L | apply M)); exact HO_4.out⟩, ⟨by (with_reducible repeat (first | apply J | apply L | apply M)); exact HO_7.out⟩, ⟨by (with_reducible repeat (first | apply J | apply L | apply M)); exact I HO_244000.out (fun _ hk => trivial)⟩, ⟨by (with_reducible repeat (first | apply J | apply L | apply M)); exact I HO_244001.out (fun _ hk => trivial)⟩, ⟨by (with_reducible repeat (first | refine U ?_ _ | refine X ?_ | refine V ?_ _)); exact BK225.out⟩, ⟨by (with_reducible repeat (first | refine U ?_ _ | refine X ?_ | refine V ?_ _)); exact BK243.out⟩, ⟨by repeat (first | (with_reducible first | exact HB.out | apply Z | apply T | apply Y | refine O ?_ GE225.out | refine O ?_ GE243.out) | exact HB.out)⟩⟩
        ·replace c50 := Bool.eq_false_iff.mpr c50
         subst c50
         have H1 : (laws_FnExactFreeKnots.j1 kj10 t233 t236 t244 true l0_0 l0_1) = some r := by rw [if_neg (show ¬ (false = true) by decide)] at H; exact H
         clear H
         have H := H1
         clear H1
         have H' := G H
         clear H
         obtain ⟨Ao53, co53, eo53⟩ := Kd.R_slice HO_7.out
         subst eo53
         obtain ⟨Ao54, co54, eo54⟩ := Kd.R_slice HO_4.out
         subst eo54
         go_wp2_with (first | (go_at_call 35; (with_reducible refine (laws_eqInt64S.calls kj10 _ _ t244 _ _ t233 false _ ?side1 ?side2 ?side3 ?side4 A49.out).mono ?_); (case side1 => repeat (first | exact (Kd.R_reads' HO_7.out).2.2 | (with_reducible refine P ?_ _) | (with_reducible refine GG ?_ _) | (with_reducible refine GJ ?_))); (case side2 => exact (Kd.R_reads' HO_7.out).2.1); (case side3 => repeat (first | exact (Kd.R_reads' HO_4.out).2.2 | (with_reducible refine P ?_ _) | (with_reducible refine GG ?_ _) | (with_reducible refine GJ ?_))); (case side4 => exact (Kd.R_reads' HO_4.out).2.1); rintro e w' ⟨rfl, ⟨nd, rfl⟩⟩))
         go_meet
         case rel => exact ⟨_, (true), (by first | rfl | (simp; done) | (simp [*]; done)), H', ⟨by have := HJ10.out; first | omega | exact Nat.le_refl _⟩, ⟨by (with_reducible repeat (first | apply J | apply L | apply M)); exact HO_4.out⟩, ⟨by (with_reducible repeat (first | apply J | apply L | apply M)); exact HO_7.out⟩, ⟨by (with_reducible repeat (first | apply J | apply L | apply M)); exact I HO_244000.out (fun _ hk => trivial)⟩, ⟨by (with_reducible repeat (first | apply J | apply L | apply M)); exact I HO_244001.out (fun _ hk => trivial)⟩, ⟨by (with_reducible repeat (first | refine U ?_ _ | refine X ?_ | refine V ?_ _)); exact BK225.out⟩, ⟨by (with_reducible repeat (first | refine U ?_ _ | refine X ?_ | refine V ?_ _)); exact BK243.out⟩, ⟨by repeat (first | (with_reducible first | exact HB.out | apply Z | apply T | apply Y | refine O ?_ GE225.out | refine O ?_ GE243.out) | exact HB.out)⟩⟩
      case rest =>
       clear HC39
       try clear c1
       try clear c2
       try clear p2
       try clear c3
       try clear c3b0
       try clear c4
       try clear c5
       try clear c8
       try clear c19
       try clear c21
       try clear c23
       try clear c24
       try clear c29
       try clear c33
       try clear c34
       try clear c35
       try clear c36
       try clear c37
       try clear c45
       try clear c48
       try clear c48b0
       try clear c50
       try clear hcz13_0
       try clear hcz13_1
       try clear hcz15_0
       try clear hcz15_1
       try clear hcz20_0
       try clear hcz20_1
       try clear hcz25_0
       try clear hcz25_1
       try clear hcz46_0
       try clear hcz46_1
       try clear hcz5_0
       try clear hcz5_1
       try clear hfz13_0
       try clear hfz13_1
       try clear hfz15_0
       try clear hfz15_1
       try clear hfz20_0
       try clear hfz20_1
       try clear hfz25_0
       try clear hfz25_1
       try clear hfz46_0
       try clear hfz46_1
       try clear hfz5_0
       try clear hfz5_1
       try clear p2
       obtain ⟨kq, x61_38, rfl, HA, HJ38, HO_4, HO_7, HO_244000, HO_244001, BK225, BK243, HB⟩ := hcut
       have hl244000_38 := (Kd.R_reads' HO_244000.out).1
       rw [hl244000_38] at HO_244000
       (try simp only [hl244000_38])
       (try simp only [hl244000_38] at BK225)
       (try simp only [hl244000_38] at BK243)
       (try simp only [hl244000_38] at HO_4)
       (try simp only [hl244000_38] at HO_7)
       (try simp only [hl244000_38] at HO_244001)
       have hl244001_38 := (Kd.R_reads' HO_244001.out).1
       rw [hl244001_38] at HO_244001
       (try simp only [hl244001_38])
       (try simp only [hl244001_38] at BK225)
       (try simp only [hl244001_38] at BK243)
       (try simp only [hl244001_38] at HO_4)
       (try simp only [hl244001_38] at HO_7)
       (try simp only [hl244001_38] at HO_244000)
       cases kq with
       | zero => exact absurd HA.out (by simp [laws_FnExactFreeKnots.j1])
       | succ kj38 =>
        have H := HA.out
        clear HA
        simp only [laws_FnExactFreeKnots.j1] at H
        by_cases c55 : x61_38 = true
        ·subst c55
         have H1 : (some false) = some r := by rw [if_pos rfl] at H; exact H
         clear H
         have H := H1
         clear H1
         obtain rfl := Option.some.inj H
         go_wp2
         go_ret
         exact ⟨by first | rfl | (simp [errW_none, errW_some] <;> rfl) | (simp [*, errW_none, errW_some] <;> rfl), by repeat (first | (with_reducible first | exact HB.out | apply Z | apply T | apply Y | refine O ?_ GE225.out | refine O ?_ GE243.out) | exact HB.out)⟩
        ·replace c55 := Bool.eq_false_iff.mpr c55
         subst c55
         have H1 : ((laws_markInt64S.f kj38 t244 1).bind fun bt260 => ((laws_heldInt64S.f kj38 bt260.2 1).bind fun t262 => (if t262 < 0 then (some false) else (if t262 = bt260.1 then ((laws_toFrame.f kj38 l0_0 l0_1).bind fun bt263 => ((impl_FreeKnots.f kj38 bt263.1 bt263.2).bind fun bt269 => ((laws_eqInt64S.f kj38 bt269.1 t233).bind fun t273 => (if t273 = true then (laws_FnExactFreeKnots.j2 kj38 bt260.2 bt260.1 (bt269.2 != t236)) else (laws_FnExactFreeKnots.j2 kj38 bt260.2 bt260.1 true))))) else (some false))))) = some r := by rw [if_neg (show ¬ (false = true) by decide)] at H; exact H
         clear H
         have H := H1
         clear H1
         replace H := Option.bind_eq_some_iff.mp H
         obtain ⟨⟨t260, t261⟩, A560, H⟩ := H
         replace H : ((laws_heldInt64S.f kj38 t261 1).bind fun t262 => (if t262 < 0 then (some false) else (if t262 = t260 then ((laws_toFrame.f kj38 l0_0 l0_1).bind fun bt263 => ((impl_FreeKnots.f kj38 bt263.1 bt263.2).bind fun bt269 => ((laws_eqInt64S.f kj38 bt269.1 t233).bind fun t273 => (if t273 = true then (laws_FnExactFreeKnots.j2 kj38 t261 t260 (bt269.2 != t236)) else (laws_FnExactFreeKnots.j2 kj38 t261 t260 true))))) else (some false)))) = some r := H
         have A56 := G A560
         clear A560
         replace H := Option.bind_eq_some_iff.mp H
         obtain ⟨t262, A570, H⟩ := H
         replace H : (if t262 < 0 then (some false) else (if t262 = t260 then ((laws_toFrame.f kj38 l0_0 l0_1).bind fun bt263 => ((impl_FreeKnots.f kj38 bt263.1 bt263.2).bind fun bt269 => ((laws_eqInt64S.f kj38 bt269.1 t233).bind fun t273 => (if t273 = true then (laws_FnExactFreeKnots.j2 kj38 t261 t260 (bt269.2 != t236)) else (laws_FnExactFreeKnots.j2 kj38 t261 t260 true))))) else (some false))) = some r := H
         have A57 := G A570
         clear A570
         by_cases c58 : t262 < 0
         ·rw [if_pos c58] at H
          have c58b0 : decide (t262 < 0) = true := decide_eq_true c58
          clear c58
          obtain rfl := Option.some.inj H
          obtain ⟨Ao59, co59, eo59⟩ := Kd.R_slice HO_7.out
          subst eo59
          go_wp2_with (first | ((with_reducible refine gate_callee (f := 37) rfl ?_); refine goesL_ (some 64) rfl rfl Try.func37 (by kernel_rfl) rfl #[.slice Ao59 t244.length co59, .int .i64 1] rfl (by (try simp only [List.map_toArray, List.map_cons, List.map_nil]); first | done | rfl | (simp only [List.length_drop, List.length_take]; rfl)) ?_; (with_reducible refine (laws_markInt64S.calls kj38 (fun k_ => some k_ = (.slice Ao59 t244.length co59 : Value).ownBlock) (.slice Ao59 t244.length co59) t244 1 t260 t261 w _ ?side1 ?side2 A56.out).mono ?_); (case side1 => repeat (first | (with_reducible first | exact HB.out | apply Z | apply T | apply Y | refine O ?_ GE225.out | refine O ?_ GE243.out) | exact HB.out)); (case side2 => exact Kd.R_tight rfl HO_7.out); rintro e w60 ⟨rfl, hy0, hb, hkp⟩; refine ⟨_, rfl, ?_⟩; have n0_ := G (I (ok' := fun k_ => some k_ ≠ (.slice Ao59 t244.length co59 : Value).ownBlock) (Kd.R_keptB (HO_4.out) hkp (fun k_ hk_ hs_ => (hk_) hs_)) (fun k_ hk_ => hk_.1)); have n1_ := G (Kd.R_reok rfl hy0 (fun k_ e_ => HO_7.out.1 k_ e_)); have n2_ := G (I (ok' := fun k_ => True) (Kd.R_keptB ((Kd.R_apart' HO_244000.out (Kd.R_typed HO_7.out) (by decide))) hkp (fun k_ hk_ hs_ => (hk_.2) hs_)) (fun k_ hk_ => trivial)); have n3_ := G (I (ok' := fun k_ => True) (Kd.R_keptB ((Kd.R_apart' HO_244001.out (Kd.R_typed HO_7.out) (by decide))) hkp (fun k_ hk_ hs_ => (hk_.2) hs_)) (fun k_ hk_ => trivial)); have n4_ := G (blk_kept (by (with_reducible repeat (first | refine U ?_ _ | refine X ?_ | refine V ?_ _)); exact BK225.out) hkp (fun hs_ => (fun e_ => (Kd.R_ne HO_7.out BK225.out (by decide)) e_) hs_)); have n5_ := G (blk_kept (by (with_reducible repeat (first | refine U ?_ _ | refine X ?_ | refine V ?_ _)); exact BK243.out) hkp (fun hs_ => (fun e_ => (Kd.R_ne HO_7.out BK243.out (by decide)) e_) hs_)); have n6_ := G (hb); clear HO_4; clear HO_7; clear HO_244000; clear HO_244001; clear BK225; clear BK243; clear HB; have HO_4 := n0_; have HO_7 := n1_; have HO_244000 := n2_; have HO_244001 := n3_; have BK225 := n4_; have BK243 := n5_; have HB := n6_; clear n0_ n1_ n2_ n3_ n4_ n5_ n6_; (try clear hb); (try clear hkp); (try clear hy0)) | ((with_reducible refine gate_callee (f := 38) rfl ?_); refine goesL_ (some 67) rfl rfl Try.func38 (by kernel_rfl) rfl #[.slice Ao59 t261.length co59, .int .i64 1] rfl (by (try simp only [List.map_toArray, List.map_cons, List.map_nil]); first | done | (rw [show t261.length = t244.length from (Kd.R_reads' HO_7.out).1.symm] <;> rfl) | rfl | (simp only [List.length_drop, List.length_take]; rfl)) ?_; (with_reducible refine (laws_heldInt64S.calls kj38 _ _ t261 1 t262 _ ?side1 ?side2 A57.out).mono ?_); (case side1 => repeat (first | exact (Kd.R_reads' HO_7.out).2.2 | (with_reducible refine P ?_ _) | (with_reducible refine GG ?_ _) | (with_reducible refine GJ ?_))); (case side2 => rw [show t261.length = t244.length from (Kd.R_reads' HO_7.out).1.symm]; exact (Kd.R_reads' HO_7.out).2.1); rintro e w' ⟨rfl, ⟨nd, rfl⟩⟩; refine ⟨_, rfl, ?_⟩))
          go_ret
          exact ⟨by first | rfl | (simp [errW_none, errW_some] <;> rfl) | (simp [*, errW_none, errW_some] <;> rfl), by repeat (first | (with_reducible first | exact HB.out | apply Z | apply T | apply Y | refine O ?_ GE225.out | refine O ?_ GE243.out) | exact HB.out)⟩
         ·rw [if_neg c58] at H
          have c58b0 : decide (t262 < 0) = false := decide_eq_false c58
          clear c58
          by_cases c61 : t262 = t260
          ·rw [if_pos c61] at H
           have c61b0 : (t262 == t260) = true := beq_iff_eq.mpr c61
           have c61b1 : (t262 != t260) = false := bne_eq_false_iff_eq.mpr c61
           clear c61
           replace H := Option.bind_eq_some_iff.mp H
           obtain ⟨⟨t263, t266⟩, A620, H⟩ := H
           replace H : ((impl_FreeKnots.f kj38 t263 t266).bind fun bt269 => ((laws_eqInt64S.f kj38 bt269.1 t233).bind fun t273 => (if t273 = true then (laws_FnExactFreeKnots.j2 kj38 t261 t260 (bt269.2 != t236)) else (laws_FnExactFreeKnots.j2 kj38 t261 t260 true)))) = some r := H
           have A62 := G A620
           clear A620
           replace H := Option.bind_eq_some_iff.mp H
           obtain ⟨⟨t269, t272⟩, A630, H⟩ := H
           replace H : ((laws_eqInt64S.f kj38 t269 t233).bind fun t273 => (if t273 = true then (laws_FnExactFreeKnots.j2 kj38 t261 t260 (t272 != t236)) else (laws_FnExactFreeKnots.j2 kj38 t261 t260 true))) = some r := H
           have A63 := G A630
           clear A630
           have HC64 := G H
           clear H
           obtain ⟨Ao65, co65, eo65⟩ := Kd.R_slice HO_7.out
           subst eo65
           go_upto_region 25 with (first | ((with_reducible refine gate_callee (f := 37) rfl ?_); refine goesL_ (some 64) rfl rfl Try.func37 (by kernel_rfl) rfl #[.slice Ao65 t244.length co65, .int .i64 1] rfl (by (try simp only [List.map_toArray, List.map_cons, List.map_nil]); first | done | rfl | (simp only [List.length_drop, List.length_take]; rfl)) ?_; (with_reducible refine (laws_markInt64S.calls kj38 (fun k_ => some k_ = (.slice Ao65 t244.length co65 : Value).ownBlock) (.slice Ao65 t244.length co65) t244 1 t260 t261 w _ ?side1 ?side2 A56.out).mono ?_); (case side1 => repeat (first | (with_reducible first | exact HB.out | apply Z | apply T | apply Y | refine O ?_ GE225.out | refine O ?_ GE243.out) | exact HB.out)); (case side2 => exact Kd.R_tight rfl HO_7.out); rintro e w66 ⟨rfl, hy0, hb, hkp⟩; refine ⟨_, rfl, ?_⟩; have n0_ := G (I (ok' := fun k_ => some k_ ≠ (.slice Ao65 t244.length co65 : Value).ownBlock) (Kd.R_keptB (HO_4.out) hkp (fun k_ hk_ hs_ => (hk_) hs_)) (fun k_ hk_ => hk_.1)); have n1_ := G (Kd.R_reok rfl hy0 (fun k_ e_ => HO_7.out.1 k_ e_)); have n2_ := G (I (ok' := fun k_ => True) (Kd.R_keptB ((Kd.R_apart' HO_244000.out (Kd.R_typed HO_7.out) (by decide))) hkp (fun k_ hk_ hs_ => (hk_.2) hs_)) (fun k_ hk_ => trivial)); have n3_ := G (I (ok' := fun k_ => True) (Kd.R_keptB ((Kd.R_apart' HO_244001.out (Kd.R_typed HO_7.out) (by decide))) hkp (fun k_ hk_ hs_ => (hk_.2) hs_)) (fun k_ hk_ => trivial)); have n4_ := G (blk_kept (by (with_reducible repeat (first | refine U ?_ _ | refine X ?_ | refine V ?_ _)); exact BK225.out) hkp (fun hs_ => (fun e_ => (Kd.R_ne HO_7.out BK225.out (by decide)) e_) hs_)); have n5_ := G (blk_kept (by (with_reducible repeat (first | refine U ?_ _ | refine X ?_ | refine V ?_ _)); exact BK243.out) hkp (fun hs_ => (fun e_ => (Kd.R_ne HO_7.out BK243.out (by decide)) e_) hs_)); have n6_ := G (hb); clear HO_4; clear HO_7; clear HO_244000; clear HO_244001; clear BK225; clear BK243; clear HB; have HO_4 := n0_; have HO_7 := n1_; have HO_244000 := n2_; have HO_244001 := n3_; have BK225 := n4_; have BK243 := n5_; have HB := n6_; clear n0_ n1_ n2_ n3_ n4_ n5_ n6_; (try clear hb); (try clear hkp); (try clear hy0)) | ((with_reducible refine gate_callee (f := 38) rfl ?_); refine goesL_ (some 67) rfl rfl Try.func38 (by kernel_rfl) rfl #[.slice Ao65 t261.length co65, .int .i64 1] rfl (by (try simp only [List.map_toArray, List.map_cons, List.map_nil]); first | done | (rw [show t261.length = t244.length from (Kd.R_reads' HO_7.out).1.symm] <;> rfl) | rfl | (simp only [List.length_drop, List.length_take]; rfl)) ?_; (with_reducible refine (laws_heldInt64S.calls kj38 _ _ t261 1 t262 _ ?side1 ?side2 A57.out).mono ?_); (case side1 => repeat (first | exact (Kd.R_reads' HO_7.out).2.2 | (with_reducible refine P ?_ _) | (with_reducible refine GG ?_ _) | (with_reducible refine GJ ?_))); (case side2 => rw [show t261.length = t244.length from (Kd.R_reads' HO_7.out).1.symm]; exact (Kd.R_reads' HO_7.out).2.1); rintro e w' ⟨rfl, ⟨nd, rfl⟩⟩; refine ⟨_, rfl, ?_⟩; have hnb67 := NB225_243.out; have hnc67 := NB243_225.out; have hcz68_0 : w66.cell? ⟨gb225, 0, none⟩ = some (.slice A0_0 l0_0.length c0_0) := (E BK225.out 0).trans rfl; have hcz68_1 : w66.cell? ⟨gb225, 1, none⟩ = some (.slice A0_1 l0_1.length c0_1) := (E BK225.out 1).trans rfl; have hfz68_0 := GO BK225.out 0; have hfz68_1 := GO BK225.out 1) | ((with_reducible refine gate_callee (f := 21) rfl ?_); refine goesL_ (some 75) rfl rfl Try.func21 (by kernel_rfl) rfl #[.agg #[.slice A0_0 l0_0.length c0_0, .slice A0_1 l0_1.length c0_1]] rfl (by (try simp only [List.map_toArray, List.map_cons, List.map_nil]); first | done | rfl | (simp only [List.length_drop, List.length_take]; rfl)) ?_; (with_reducible refine (laws_toFrame.calls kj38 _ _ l0_0 _ _ l0_1 t263 t266 _ ?side1 ?side2 ?side3 ?side4 A62.out).mono ?_); (case side1 => repeat (first | exact (GN HR0_0.out (by repeat (first | (with_reducible first | exact HB.out | apply Z | apply T | apply Y | refine O ?_ GE225.out | refine O ?_ GE243.out) | exact HB.out))) | (with_reducible refine P ?_ _) | (with_reducible refine GG ?_ _) | (with_reducible refine GJ ?_))); (case side2 => exact HC0_0.out); (case side3 => repeat (first | exact (GN HR0_1.out (by repeat (first | (with_reducible first | exact HB.out | apply Z | apply T | apply Y | refine O ?_ GE225.out | refine O ?_ GE243.out) | exact HB.out))) | (with_reducible refine P ?_ _) | (with_reducible refine GG ?_ _) | (with_reducible refine GJ ?_))); (case side4 => exact HC0_1.out); rintro e w69 ⟨v264, v267, rfl, ho0, ho1, hb⟩; refine ⟨_, rfl, ?_⟩; have n0_ := G (B (by (with_reducible repeat (first | apply J | apply L | apply M)); exact HO_4.out) hb); have n1_ := G (B (by (with_reducible repeat (first | apply J | apply L | apply M)); exact HO_7.out) hb); have n2_ := G (Kd.R_elder' (by (with_reducible repeat (first | apply J | apply L | apply M)); exact HO_244000.out) (Kd.R_base ho0) hb); have n3_ := G (Kd.R_elder' (by (with_reducible repeat (first | apply J | apply L | apply M)); exact HO_244001.out) (Kd.R_base ho1) hb); have n4_ := G (Kd.R_lower (Kd.R_new' ho0 (Kd.R_lt (by (with_reducible repeat (first | apply J | apply L | apply M)); exact HO_244000.out))) (GL (by repeat (first | (with_reducible first | exact HB.out | apply Z | apply T | apply Y | refine O ?_ GE225.out | refine O ?_ GE243.out) | exact HB.out)))); have n5_ := G (Kd.R_lower (Kd.R_new' ho1 (Kd.R_lt (by (with_reducible repeat (first | apply J | apply L | apply M)); exact HO_244001.out))) (GL (by repeat (first | (with_reducible first | exact HB.out | apply Z | apply T | apply Y | refine O ?_ GE225.out | refine O ?_ GE243.out) | exact HB.out)))); have n6_ := G (F (g := gb225) (o := .cells #[.slice A0_0 l0_0.length c0_0, .slice A0_1 l0_1.length c0_1] 33 (0, 0)) (by (with_reducible repeat (first | refine U ?_ _ | refine X ?_ | refine V ?_ _)); exact BK225.out) hb); have n7_ := G (F (g := gb243) (o := .cells #[.slice Ao23 t257.length co23, .slice Ao26 t258.length co26] 39 (0, 0)) (by (with_reducible repeat (first | refine U ?_ _ | refine X ?_ | refine V ?_ _)); exact BK243.out) hb); have n8_ := G (GM (by repeat (first | (with_reducible first | exact HB.out | apply Z | apply T | apply Y | refine O ?_ GE225.out | refine O ?_ GE243.out) | exact HB.out)) hb); clear HO_4; clear HO_7; clear HO_244000; clear HO_244001; clear BK225; clear BK243; clear HB; have HO_4 := n0_; have HO_7 := n1_; have HO_244000 := n2_; have HO_244001 := n3_; have HO265 := n4_; have HO268 := n5_; have BK225 := n6_; have BK243 := n7_; have HB := n8_; clear n0_ n1_ n2_ n3_ n4_ n5_ n6_ n7_ n8_; (try clear hb); (try clear hb2); (try clear hk); (try clear hi); (try clear ho0); (try clear ho1); obtain ⟨Ao70, co70, eo70⟩ := Kd.R_slice HO265.out; subst eo70; obtain ⟨Ao71, co71, eo71⟩ := Kd.R_slice HO268.out; subst eo71) | ((with_reducible refine gate_callee (f := 34) rfl ?_); refine goesL_ (some 76) rfl rfl Try.func34 (by kernel_rfl) rfl #[.agg #[.slice Ao70 t263.length co70, .slice Ao71 t266.length co71]] rfl (by (try simp only [List.map_toArray, List.map_cons, List.map_nil]); first | done | rfl | (simp only [List.length_drop, List.length_take]; rfl)) ?_; (with_reducible refine (impl_FreeKnots.calls kj38 _ _ t263 _ _ t266 t269 t272 _ ?side1 ?side2 ?side3 ?side4 A63.out).mono ?_); (case side1 => repeat (first | exact (Kd.R_reads' HO265.out).2.2 | (with_reducible refine P ?_ _) | (with_reducible refine GG ?_ _) | (with_reducible refine GJ ?_))); (case side2 => exact (Kd.R_reads' HO265.out).2.1); (case side3 => repeat (first | exact (Kd.R_reads' HO268.out).2.2 | (with_reducible refine P ?_ _) | (with_reducible refine GG ?_ _) | (with_reducible refine GJ ?_))); (case side4 => exact (Kd.R_reads' HO268.out).2.1); rintro e w72 ⟨v270, rfl, ho0, hb⟩; refine ⟨_, rfl, ?_⟩; have n0_ := G (Kd.R_elder' (by (with_reducible repeat (first | apply J | apply L | apply M)); exact HO_4.out) (Kd.R_base ho0) hb); have n1_ := G (Kd.R_elder' (by (with_reducible repeat (first | apply J | apply L | apply M)); exact HO_7.out) (Kd.R_base ho0) hb); have n2_ := G (B (by (with_reducible repeat (first | apply J | apply L | apply M)); exact HO_244000.out) hb); have n3_ := G (B (by (with_reducible repeat (first | apply J | apply L | apply M)); exact HO_244001.out) hb); have n4_ := G (B (by (with_reducible repeat (first | apply J | apply L | apply M)); exact HO265.out) hb); have n5_ := G (B (by (with_reducible repeat (first | apply J | apply L | apply M)); exact HO268.out) hb); have n6_ := G (Kd.R_lower (Kd.R_new' (Kd.R_new' ho0 (Kd.R_lt (by (with_reducible repeat (first | apply J | apply L | apply M)); exact HO_4.out))) (Kd.R_lt (by (with_reducible repeat (first | apply J | apply L | apply M)); exact HO_7.out))) (GL (by repeat (first | (with_reducible first | exact HB.out | apply Z | apply T | apply Y | refine O ?_ GE225.out | refine O ?_ GE243.out) | exact HB.out)))); have n7_ := G (F (g := gb225) (o := .cells #[.slice A0_0 l0_0.length c0_0, .slice A0_1 l0_1.length c0_1] 33 (0, 0)) (by (with_reducible repeat (first | refine U ?_ _ | refine X ?_ | refine V ?_ _)); exact BK225.out) hb); have n8_ := G (F (g := gb243) (o := .cells #[.slice Ao23 t257.length co23, .slice Ao26 t258.length co26] 39 (0, 0)) (by (with_reducible repeat (first | refine U ?_ _ | refine X ?_ | refine V ?_ _)); exact BK243.out) hb); have n9_ := G (GM (by repeat (first | (with_reducible first | exact HB.out | apply Z | apply T | apply Y | refine O ?_ GE225.out | refine O ?_ GE243.out) | exact HB.out)) hb); clear HO_4; clear HO_7; clear HO_244000; clear HO_244001; clear HO265; clear HO268; clear BK225; clear BK243; clear HB; have HO_4 := n0_; have HO_7 := n1_; have HO_244000 := n2_; have HO_244001 := n3_; have HO265 := n4_; have HO268 := n5_; have HO271 := n6_; have BK225 := n7_; have BK243 := n8_; have HB := n9_; clear n0_ n1_ n2_ n3_ n4_ n5_ n6_ n7_ n8_ n9_; (try clear hb); (try clear hb2); (try clear hk); (try clear hi); (try clear ho0)))
           (try simp only [Act.put, List.setIfInBounds_toArray, List.set_cons_zero, List.set_cons_succ])
           go_cut [87] (fun v87 wc => ∃ (kq : Nat) (x87_63 : Bool), v87 = .bool x87_63 ∧ Aside0 (laws_FnExactFreeKnots.j2 kq t261 t260 x87_63 = some r) ∧ Aside0 (kq ≤ kj38) ∧ Aside0 (Kd.R (Kd.int .i64) 2 wc w.heap.size (fun _ => True) (.slice Ao65 t244.length co65) t261) ∧ Aside0 (Kd.R k82 82 wc w.heap.size (fun _ => True) (.slice Ao23 t257.length co23) t257) ∧ Aside0 (Kd.R k84 84 wc w.heap.size (fun _ => True) (.slice Ao26 t258.length co26) t258) ∧ Aside0 (wc.heap[gb225]? = some (.cells #[(.slice A0_0 l0_0.length c0_0), (.slice A0_1 l0_1.length c0_1)] 33 (0, 0))) ∧ Aside0 (wc.heap[gb243]? = some (.cells #[(.slice Ao23 t257.length co23), (.slice Ao26 t258.length co26)] 39 (0, 0))) ∧ Aside0 (Below w.heap.size w wc))
           case first =>
            have H := HC64.out
            clear HC64
            replace H := Option.bind_eq_some_iff.mp H
            obtain ⟨t273, A730, H⟩ := H
            replace H : (if t273 = true then (laws_FnExactFreeKnots.j2 kj38 t261 t260 (t272 != t236)) else (laws_FnExactFreeKnots.j2 kj38 t261 t260 true)) = some r := H
            have A73 := G A730
            clear A730
            by_cases c74 : t273 = true
            ·subst c74
             have H1 : (laws_FnExactFreeKnots.j2 kj38 t261 t260 (t272 != t236)) = some r := by rw [if_pos rfl] at H; exact H
             clear H
             have H := H1
             clear H1
             have H' := G H
             clear H
             obtain ⟨Ao75, co75, eo75⟩ := Kd.R_slice HO271.out
             subst eo75
             obtain ⟨Ao76, co76, eo76⟩ := Kd.R_slice HO_4.out
             subst eo76
             go_wp2_with (first | ((with_reducible refine gate_callee (f := 35) rfl ?_); refine goesL_ (some 81) rfl rfl Try.func35 (by kernel_rfl) rfl #[.slice Ao75 t269.length co75, .slice Ao76 t233.length co76] rfl (by (try simp only [List.map_toArray, List.map_cons, List.map_nil]); first | done | rfl | (simp only [List.length_drop, List.length_take]; rfl)) ?_; (with_reducible refine (laws_eqInt64S.calls kj38 _ _ t269 _ _ t233 true _ ?side1 ?side2 ?side3 ?side4 A73.out).mono ?_); (case side1 => repeat (first | exact (Kd.R_reads' HO271.out).2.2 | (with_reducible refine P ?_ _) | (with_reducible refine GG ?_ _) | (with_reducible refine GJ ?_))); (case side2 => exact (Kd.R_reads' HO271.out).2.1); (case side3 => repeat (first | exact (Kd.R_reads' HO_4.out).2.2 | (with_reducible refine P ?_ _) | (with_reducible refine GG ?_ _) | (with_reducible refine GJ ?_))); (case side4 => exact (Kd.R_reads' HO_4.out).2.1); rintro e w' ⟨rfl, ⟨nd, rfl⟩⟩; refine ⟨_, rfl, ?_⟩))
             go_meet
             case rel => exact ⟨_, ((t272 != t236)), (by first | rfl | (simp; done) | (simp [*]; done)), H', ⟨by have := HJ10.out; have := HJ38.out; first | omega | exact Nat.le_refl _⟩, ⟨by (try simp only [hl244000_38]); (try simp only [hl244001_38]); (with_reducible repeat (first | apply J | apply L | apply M)); exact I HO_7.out (fun _ hk => trivial)⟩, ⟨by (try simp only [hl244000_38]); (try simp only [hl244001_38]); (with_reducible repeat (first | apply J | apply L | apply M)); exact I HO_244000.out (fun _ hk => trivial)⟩, ⟨by (try simp only [hl244000_38]); (try simp only [hl244001_38]); (with_reducible repeat (first | apply J | apply L | apply M)); exact I HO_244001.out (fun _ hk => trivial)⟩, ⟨by (try simp only [hl244000_38]); (try simp only [hl244001_38]); (with_reducible repeat (first | refine U ?_ _ | refine X ?_ | refine V ?_ _)); exact BK225.out⟩, ⟨by (try simp only [hl244000_38]); (try simp only [hl244001_38]); (with_reducible repeat (first | refine U ?_ _ | refine X ?_ | refine V ?_ _)); exact BK243.out⟩, ⟨by repeat (first | (with_reducible first | exact HB.out | apply Z | apply T | apply Y | refine O ?_ GE225.out | refine O ?_ GE243.out) | exact HB.out)⟩⟩
            ·replace c74 := Bool.eq_false_iff.mpr c74
             subst c74
             have H1 : (laws_FnExactFreeKnots.j2 kj38 t261 t260 true) = some r := by rw [if_neg (show ¬ (false = true) by decide)] at H; exact H
             clear H
             have H := H1
             clear H1
             have H' := G H
             clear H
             obtain ⟨Ao77, co77, eo77⟩ := Kd.R_slice HO271.out
             subst eo77
             obtain ⟨Ao78, co78, eo78⟩ := Kd.R_slice HO_4.out
             subst eo78
             go_wp2_with (first | ((with_reducible refine gate_callee (f := 35) rfl ?_); refine goesL_ (some 81) rfl rfl Try.func35 (by kernel_rfl) rfl #[.slice Ao77 t269.length co77, .slice Ao78 t233.length co78] rfl (by (try simp only [List.map_toArray, List.map_cons, List.map_nil]); first | done | rfl | (simp only [List.length_drop, List.length_take]; rfl)) ?_; (with_reducible refine (laws_eqInt64S.calls kj38 _ _ t269 _ _ t233 false _ ?side1 ?side2 ?side3 ?side4 A73.out).mono ?_); (case side1 => repeat (first | exact (Kd.R_reads' HO271.out).2.2 | (with_reducible refine P ?_ _) | (with_reducible refine GG ?_ _) | (with_reducible refine GJ ?_))); (case side2 => exact (Kd.R_reads' HO271.out).2.1); (case side3 => repeat (first | exact (Kd.R_reads' HO_4.out).2.2 | (with_reducible refine P ?_ _) | (with_reducible refine GG ?_ _) | (with_reducible refine GJ ?_))); (case side4 => exact (Kd.R_reads' HO_4.out).2.1); rintro e w' ⟨rfl, ⟨nd, rfl⟩⟩; refine ⟨_, rfl, ?_⟩))
             go_meet
             case rel => exact ⟨_, (true), (by first | rfl | (simp; done) | (simp [*]; done)), H', ⟨by have := HJ10.out; have := HJ38.out; first | omega | exact Nat.le_refl _⟩, ⟨by (try simp only [hl244000_38]); (try simp only [hl244001_38]); (with_reducible repeat (first | apply J | apply L | apply M)); exact I HO_7.out (fun _ hk => trivial)⟩, ⟨by (try simp only [hl244000_38]); (try simp only [hl244001_38]); (with_reducible repeat (first | apply J | apply L | apply M)); exact I HO_244000.out (fun _ hk => trivial)⟩, ⟨by (try simp only [hl244000_38]); (try simp only [hl244001_38]); (with_reducible repeat (first | apply J | apply L | apply M)); exact I HO_244001.out (fun _ hk => trivial)⟩, ⟨by (try simp only [hl244000_38]); (try simp only [hl244001_38]); (with_reducible repeat (first | refine U ?_ _ | refine X ?_ | refine V ?_ _)); exact BK225.out⟩, ⟨by (try simp only [hl244000_38]); (try simp only [hl244001_38]); (with_reducible repeat (first | refine U ?_ _ | refine X ?_ | refine V ?_ _)); exact BK243.out⟩, ⟨by repeat (first | (with_reducible first | exact HB.out | apply Z | apply T | apply Y | refine O ?_ GE225.out | refine O ?_ GE243.out) | exact HB.out)⟩⟩
           case rest =>
            clear HC64
            try clear c1
            try clear c2
            try clear p2
            try clear c3
            try clear c3b0
            try clear c4
            try clear c5
            try clear c6
            try clear c7
            try clear c8
            try clear c19
            try clear c21
            try clear c23
            try clear c24
            try clear c29
            try clear c33
            try clear c34
            try clear c35
            try clear c36
            try clear c37
            try clear c38
            try clear c45
            try clear c48
            try clear c48b0
            try clear c50
            try clear c55
            try clear c58
            try clear c58b0
            try clear c61
            try clear c61b0
            try clear c61b1
            try clear c67
            try clear c74
            try clear hcz13_0
            try clear hcz13_1
            try clear hcz15_0
            try clear hcz15_1
            try clear hcz20_0
            try clear hcz20_1
            try clear hcz25_0
            try clear hcz25_1
            try clear hcz46_0
            try clear hcz46_1
            try clear hcz5_0
            try clear hcz5_1
            try clear hcz68_0
            try clear hcz68_1
            try clear hfz13_0
            try clear hfz13_1
            try clear hfz15_0
            try clear hfz15_1
            try clear hfz20_0
            try clear hfz20_1
            try clear hfz25_0
            try clear hfz25_1
            try clear hfz46_0
            try clear hfz46_1
            try clear hfz5_0
            try clear hfz5_1
            try clear hfz68_0
            try clear hfz68_1
            try clear p2
            obtain ⟨kq, x87_63, rfl, HA, HJ63, HO_7, HO_244000, HO_244001, BK225, BK243, HB⟩ := hcut
            have hl7_63 := (Kd.R_reads' HO_7.out).1
            rw [hl7_63] at HO_7
            (try simp only [hl7_63])
            (try simp only [hl7_63] at BK225)
            (try simp only [hl7_63] at BK243)
            (try simp only [hl7_63] at HO_244000)
            (try simp only [hl7_63] at HO_244001)
            cases kq with
            | zero => exact absurd HA.out (by simp [laws_FnExactFreeKnots.j2])
            | succ kj63 =>
             have H := HA.out
             clear HA
             simp only [laws_FnExactFreeKnots.j2] at H
             by_cases c79 : x87_63 = true
             ·subst c79
              have H1 : (some false) = some r := by rw [if_pos rfl] at H; exact H
              clear H
              have H := H1
              clear H1
              obtain rfl := Option.some.inj H
              go_wp2
              go_ret
              exact ⟨by first | rfl | (simp [errW_none, errW_some] <;> rfl) | (simp [*, errW_none, errW_some] <;> rfl), by repeat (first | (with_reducible first | exact HB.out | apply Z | apply T | apply Y | refine O ?_ GE225.out | refine O ?_ GE243.out) | exact HB.out)⟩
             ·replace c79 := Bool.eq_false_iff.mpr c79
              subst c79
              have H1 : ((laws_heldInt64S.f kj63 t261 1).bind fun t274 => (if t274 < 0 then (some false) else (if t274 = t260 then (some true) else (some false)))) = some r := by rw [if_neg (show ¬ (false = true) by decide)] at H; exact H
              clear H
              have H := H1
              clear H1
              replace H := Option.bind_eq_some_iff.mp H
              obtain ⟨t274, A800, H⟩ := H
              replace H : (if t274 < 0 then (some false) else (if t274 = t260 then (some true) else (some false))) = some r := H
              have A80 := G A800
              clear A800
              by_cases c81 : t274 < 0
              ·rw [if_pos c81] at H
               have c81b0 : decide (t274 < 0) = true := decide_eq_true c81
               clear c81
               obtain rfl := Option.some.inj H
               go_wp2_with (first | ((with_reducible refine gate_callee (f := 38) rfl ?_); refine goesL_ (some 90) rfl rfl Try.func38 (by kernel_rfl) rfl #[.slice Ao65 t261.length co65, .int .i64 1] rfl (by (try simp only [List.map_toArray, List.map_cons, List.map_nil]); first | done | rfl | (simp only [List.length_drop, List.length_take]; rfl)) ?_; (with_reducible refine (laws_heldInt64S.calls kj63 _ _ t261 1 t274 _ ?side1 ?side2 A80.out).mono ?_); (case side1 => repeat (first | exact (Kd.R_reads' HO_7.out).2.2 | (with_reducible refine P ?_ _) | (with_reducible refine GG ?_ _) | (with_reducible refine GJ ?_))); (case side2 => exact (Kd.R_reads' HO_7.out).2.1); rintro e w' ⟨rfl, ⟨nd, rfl⟩⟩; refine ⟨_, rfl, ?_⟩))
               go_ret
               exact ⟨by first | rfl | (simp [errW_none, errW_some] <;> rfl) | (simp [*, errW_none, errW_some] <;> rfl), by repeat (first | (with_reducible first | exact HB.out | apply Z | apply T | apply Y | refine O ?_ GE225.out | refine O ?_ GE243.out) | exact HB.out)⟩
              ·rw [if_neg c81] at H
               have c81b0 : decide (t274 < 0) = false := decide_eq_false c81
               clear c81
               by_cases c82 : t274 = t260
               ·rw [if_pos c82] at H
                have c82b0 : (t274 == t260) = true := beq_iff_eq.mpr c82
                have c82b1 : (t274 != t260) = false := bne_eq_false_iff_eq.mpr c82
                clear c82
                obtain rfl := Option.some.inj H
                go_wp2_with (first | ((with_reducible refine gate_callee (f := 38) rfl ?_); refine goesL_ (some 90) rfl rfl Try.func38 (by kernel_rfl) rfl #[.slice Ao65 t261.length co65, .int .i64 1] rfl (by (try simp only [List.map_toArray, List.map_cons, List.map_nil]); first | done | rfl | (simp only [List.length_drop, List.length_take]; rfl)) ?_; (with_reducible refine (laws_heldInt64S.calls kj63 _ _ t261 1 t274 _ ?side1 ?side2 A80.out).mono ?_); (case side1 => repeat (first | exact (Kd.R_reads' HO_7.out).2.2 | (with_reducible refine P ?_ _) | (with_reducible refine GG ?_ _) | (with_reducible refine GJ ?_))); (case side2 => exact (Kd.R_reads' HO_7.out).2.1); rintro e w' ⟨rfl, ⟨nd, rfl⟩⟩; refine ⟨_, rfl, ?_⟩))
                go_ret
                exact ⟨by first | rfl | (simp [errW_none, errW_some] <;> rfl) | (simp [*, errW_none, errW_some] <;> rfl), by repeat (first | (with_reducible first | exact HB.out | apply Z | apply T | apply Y | refine O ?_ GE225.out | refine O ?_ GE243.out) | exact HB.out)⟩
               ·rw [if_neg c82] at H
                have c82b0 : (t274 == t260) = false := beq_eq_false_iff_ne.mpr c82
                have c82b1 : (t274 != t260) = true := bne_iff_ne.mpr c82
                obtain rfl := Option.some.inj H
                go_wp2_with (first | ((with_reducible refine gate_callee (f := 38) rfl ?_); refine goesL_ (some 90) rfl rfl Try.func38 (by kernel_rfl) rfl #[.slice Ao65 t261.length co65, .int .i64 1] rfl (by (try simp only [List.map_toArray, List.map_cons, List.map_nil]); first | done | rfl | (simp only [List.length_drop, List.length_take]; rfl)) ?_; (with_reducible refine (laws_heldInt64S.calls kj63 _ _ t261 1 t274 _ ?side1 ?side2 A80.out).mono ?_); (case side1 => repeat (first | exact (Kd.R_reads' HO_7.out).2.2 | (with_reducible refine P ?_ _) | (with_reducible refine GG ?_ _) | (with_reducible refine GJ ?_))); (case side2 => exact (Kd.R_reads' HO_7.out).2.1); rintro e w' ⟨rfl, ⟨nd, rfl⟩⟩; refine ⟨_, rfl, ?_⟩))
                go_ret
                exact ⟨by first | rfl | (simp [errW_none, errW_some] <;> rfl) | (simp [*, errW_none, errW_some] <;> rfl), by repeat (first | (with_reducible first | exact HB.out | apply Z | apply T | apply Y | refine O ?_ GE225.out | refine O ?_ GE243.out) | exact HB.out)⟩
          ·rw [if_neg c61] at H
           have c61b0 : (t262 == t260) = false := beq_eq_false_iff_ne.mpr c61
           have c61b1 : (t262 != t260) = true := bne_iff_ne.mpr c61
           obtain rfl := Option.some.inj H
           obtain ⟨Ao83, co83, eo83⟩ := Kd.R_slice HO_7.out
           subst eo83
           go_wp2_with (first | ((with_reducible refine gate_callee (f := 37) rfl ?_); refine goesL_ (some 64) rfl rfl Try.func37 (by kernel_rfl) rfl #[.slice Ao83 t244.length co83, .int .i64 1] rfl (by (try simp only [List.map_toArray, List.map_cons, List.map_nil]); first | done | rfl | (simp only [List.length_drop, List.length_take]; rfl)) ?_; (with_reducible refine (laws_markInt64S.calls kj38 (fun k_ => some k_ = (.slice Ao83 t244.length co83 : Value).ownBlock) (.slice Ao83 t244.length co83) t244 1 t260 t261 w _ ?side1 ?side2 A56.out).mono ?_); (case side1 => repeat (first | (with_reducible first | exact HB.out | apply Z | apply T | apply Y | refine O ?_ GE225.out | refine O ?_ GE243.out) | exact HB.out)); (case side2 => exact Kd.R_tight rfl HO_7.out); rintro e w84 ⟨rfl, hy0, hb, hkp⟩; refine ⟨_, rfl, ?_⟩; have n0_ := G (I (ok' := fun k_ => some k_ ≠ (.slice Ao83 t244.length co83 : Value).ownBlock) (Kd.R_keptB (HO_4.out) hkp (fun k_ hk_ hs_ => (hk_) hs_)) (fun k_ hk_ => hk_.1)); have n1_ := G (Kd.R_reok rfl hy0 (fun k_ e_ => HO_7.out.1 k_ e_)); have n2_ := G (I (ok' := fun k_ => True) (Kd.R_keptB ((Kd.R_apart' HO_244000.out (Kd.R_typed HO_7.out) (by decide))) hkp (fun k_ hk_ hs_ => (hk_.2) hs_)) (fun k_ hk_ => trivial)); have n3_ := G (I (ok' := fun k_ => True) (Kd.R_keptB ((Kd.R_apart' HO_244001.out (Kd.R_typed HO_7.out) (by decide))) hkp (fun k_ hk_ hs_ => (hk_.2) hs_)) (fun k_ hk_ => trivial)); have n4_ := G (blk_kept (by (with_reducible repeat (first | refine U ?_ _ | refine X ?_ | refine V ?_ _)); exact BK225.out) hkp (fun hs_ => (fun e_ => (Kd.R_ne HO_7.out BK225.out (by decide)) e_) hs_)); have n5_ := G (blk_kept (by (with_reducible repeat (first | refine U ?_ _ | refine X ?_ | refine V ?_ _)); exact BK243.out) hkp (fun hs_ => (fun e_ => (Kd.R_ne HO_7.out BK243.out (by decide)) e_) hs_)); have n6_ := G (hb); clear HO_4; clear HO_7; clear HO_244000; clear HO_244001; clear BK225; clear BK243; clear HB; have HO_4 := n0_; have HO_7 := n1_; have HO_244000 := n2_; have HO_244001 := n3_; have BK225 := n4_; have BK243 := n5_; have HB := n6_; clear n0_ n1_ n2_ n3_ n4_ n5_ n6_; (try clear hb); (try clear hkp); (try clear hy0)) | ((with_reducible refine gate_callee (f := 38) rfl ?_); refine goesL_ (some 67) rfl rfl Try.func38 (by kernel_rfl) rfl #[.slice Ao83 t261.length co83, .int .i64 1] rfl (by (try simp only [List.map_toArray, List.map_cons, List.map_nil]); first | done | (rw [show t261.length = t244.length from (Kd.R_reads' HO_7.out).1.symm] <;> rfl) | rfl | (simp only [List.length_drop, List.length_take]; rfl)) ?_; (with_reducible refine (laws_heldInt64S.calls kj38 _ _ t261 1 t262 _ ?side1 ?side2 A57.out).mono ?_); (case side1 => repeat (first | exact (Kd.R_reads' HO_7.out).2.2 | (with_reducible refine P ?_ _) | (with_reducible refine GG ?_ _) | (with_reducible refine GJ ?_))); (case side2 => rw [show t261.length = t244.length from (Kd.R_reads' HO_7.out).1.symm]; exact (Kd.R_reads' HO_7.out).2.1); rintro e w' ⟨rfl, ⟨nd, rfl⟩⟩; refine ⟨_, rfl, ?_⟩))
           go_ret
           exact ⟨by first | rfl | (simp [errW_none, errW_some] <;> rfl) | (simp [*, errW_none, errW_some] <;> rfl), by repeat (first | (with_reducible first | exact HB.out | apply Z | apply T | apply Y | refine O ?_ GE225.out | refine O ?_ GE243.out) | exact HB.out)⟩
     ·replace c37 := Bool.eq_false_iff.mpr c37
      subst c37
      have H1 : (some false) = some r := by rw [if_neg (show ¬ (false = true) by decide)] at H; exact H
      clear H
      have H := H1
      clear H1
      obtain rfl := Option.some.inj H
      try go_wp2
      have n0_ := G (M HO_4.out)
      have n1_ := G (M HO_7.out)
      have n2_ := G (M HO_244000.out)
      have n3_ := G (M HO_244001.out)
      have n4_ := G (X BK225.out)
      have n5_ := G (X BK243.out)
      have n6_ := G (Y HB.out)
      clear HO_4
      clear HO_7
      clear HO_244000
      clear HO_244001
      clear BK225
      clear BK243
      clear HB
      have HO_4 := n0_
      have HO_7 := n1_
      have HO_244000 := n2_
      have HO_244001 := n3_
      have BK225 := n4_
      have BK243 := n5_
      have HB := n6_
      clear n0_ n1_ n2_ n3_ n4_ n5_ n6_
      refine start_ (n := 5) (S := fun w' => w'.cell? ⟨gb243, 0, none⟩ = some (.slice Ao23 t237.length co23) ∧ w'.cell? ⟨gb243, 1, none⟩ = some (.slice Ao26 t240.length co26) ∧ w'.cell? ⟨gb225, 0, none⟩ = some (.slice A0_0 l0_0.length c0_0) ∧ w'.cell? ⟨gb225, 1, none⟩ = some (.slice A0_1 l0_1.length c0_1)) (ds := []) #[n', n', n', n', n'] (by kernel_rfl) rfl rfl ⟨(E BK243.out 0).trans rfl, (E BK243.out 1).trans rfl, (E BK225.out 0).trans rfl, (E BK225.out 1).trans rfl⟩ (fun hHeld => ?_)
      generalize wc.drew = w85 at HO_4 HO_7 HO_244000 HO_244001 BK225 BK243 HB hHeld ⊢
      refine take_ (i := 0) (N := some 41) (v := ?_) (a' := ?_) #[y', n', n', n', n'] rfl rfl (by kernel_rfl) (fun _ _ _ h => h) (Or.inl ⟨by rfl, ?_⟩) hHeld ?_ ?_
      rotate_left
      ·rintro w' ⟨s0, s1, s2, s3⟩
       go_simp
       with_reducible rfl
      rotate_left
      ·simp only [Act.put, z1', z2', z3', i64_w, i32_w]
       rfl
      refine take_ (i := 1) (N := some 42) (v := ?_) (a' := ?_) #[y', y', n', n', n'] rfl rfl (by kernel_rfl) (fun _ _ _ h => h) (Or.inl ⟨by rfl, ?_⟩) hHeld ?_ ?_
      rotate_left
      ·rintro w' ⟨s0, s1, s2, s3⟩
       go_simp
       with_reducible rfl
      rotate_left
      ·simp only [Act.put, z1', z2', z3', i64_w, i32_w]
       rfl
      refine one_ (i := 2) (N := some 43) #[y', y', y', n', n'] rfl rfl (by kernel_rfl) (by decide) (fun K hK => ?_)
      refine goes_ Try.func21 (by kernel_rfl) rfl #[.agg #[.slice A0_0 l0_0.length c0_0, .slice A0_1 l0_1.length c0_1]] (by rfl) rfl rfl (by (try simp only [List.map_toArray, List.map_cons, List.map_nil]); first | done | rfl | (simp only [List.length_drop, List.length_take]; rfl)) ?_
      with_reducible refine (laws_toFrame.calls kj10 _ _ l0_0 _ _ l0_1 t249 t252 _ ?side1 ?side2 ?side3 ?side4 A35.out).mono ?_
      (case side1 => repeat (first | exact (GN HR0_0.out HB.out) | (with_reducible refine P ?_ _) | (with_reducible refine GG ?_ _) | (with_reducible refine GJ ?_)))
      (case side2 => exact HC0_0.out)
      (case side3 => repeat (first | exact (GN HR0_1.out HB.out) | (with_reducible refine P ?_ _) | (with_reducible refine GG ?_ _) | (with_reducible refine GJ ?_)))
      (case side4 => exact HC0_1.out)
      rintro e w86 ⟨v250, v253, rfl, ho0, ho1, hb⟩
      refine ⟨_, rfl, ?_⟩
      have n0_ := G (B (by (with_reducible repeat (first | apply J | apply L | apply M)); exact HO_4.out) hb)
      have n1_ := G (B (by (with_reducible repeat (first | apply J | apply L | apply M)); exact HO_7.out) hb)
      have n2_ := G (Kd.R_elder' (by (with_reducible repeat (first | apply J | apply L | apply M)); exact HO_244000.out) (Kd.R_base ho0) hb)
      have n3_ := G (Kd.R_elder' (by (with_reducible repeat (first | apply J | apply L | apply M)); exact HO_244001.out) (Kd.R_base ho1) hb)
      have n4_ := G (Kd.R_lower (Kd.R_new' ho0 (Kd.R_lt (by (with_reducible repeat (first | apply J | apply L | apply M)); exact HO_244000.out))) (GL (by repeat (first | (with_reducible first | exact HB.out | apply Z | apply T | apply Y | refine O ?_ GE225.out | refine O ?_ GE243.out) | exact HB.out))))
      have n5_ := G (Kd.R_lower (Kd.R_new' ho1 (Kd.R_lt (by (with_reducible repeat (first | apply J | apply L | apply M)); exact HO_244001.out))) (GL (by repeat (first | (with_reducible first | exact HB.out | apply Z | apply T | apply Y | refine O ?_ GE225.out | refine O ?_ GE243.out) | exact HB.out))))
      have n6_ := G (F (g := gb225) (o := .cells #[.slice A0_0 l0_0.length c0_0, .slice A0_1 l0_1.length c0_1] 33 (0, 0)) (by (with_reducible repeat (first | refine U ?_ _ | refine X ?_ | refine V ?_ _)); exact BK225.out) hb)
      have n7_ := G (F (g := gb243) (o := .cells #[.slice Ao23 t237.length co23, .slice Ao26 t240.length co26] 39 (0, 0)) (by (with_reducible repeat (first | refine U ?_ _ | refine X ?_ | refine V ?_ _)); exact BK243.out) hb)
      have n8_ := G (GM (by repeat (first | (with_reducible first | exact HB.out | apply Z | apply T | apply Y | refine O ?_ GE225.out | refine O ?_ GE243.out) | exact HB.out)) hb)
      clear HO_4
      clear HO_7
      clear HO_244000
      clear HO_244001
      clear BK225
      clear BK243
      clear HB
      have HO_4 := n0_
      have HO_7 := n1_
      have HO_244000 := n2_
      have HO_244001 := n3_
      have HO251 := n4_
      have HO254 := n5_
      have BK225 := n6_
      have BK243 := n7_
      have HB := n8_
      clear n0_ n1_ n2_ n3_ n4_ n5_ n6_ n7_ n8_
      (try clear hb)
      (try clear hb2)
      (try clear hk)
      (try clear hi)
      (try clear ho0)
      (try clear ho1)
      obtain ⟨Ao87, co87, eo87⟩ := Kd.R_slice HO251.out
      (first | subst eo87 | (injection eo87 with f1_ f2_ f3_; have f4_ := f1_.symm; have f5_ := f3_.symm; clear f1_ f2_ f3_; subst f4_; subst f5_))
      obtain ⟨Ao88, co88, eo88⟩ := Kd.R_slice HO254.out
      (first | subst eo88 | (injection eo88 with f1_ f2_ f3_; have f4_ := f1_.symm; have f5_ := f3_.symm; clear f1_ f2_ f3_; subst f4_; subst f5_))
      refine hK.out _ _ ⟨(E BK243.out 0).trans rfl, (E BK243.out 1).trans rfl, (E BK225.out 0).trans rfl, (E BK225.out 1).trans rfl⟩ (fun hHeld => ?_)
      clear hK K
      refine norm_ (a' := ?_) ?_ ?_
      rotate_left
      ·show Act.put _ (some 43) _ = _
       simp only [Act.put, z1', z2', z3', i64_w, i32_w]
       rfl
      refine one_ (i := 3) (N := some 44) #[y', y', y', y', n'] rfl rfl (by kernel_rfl) (by decide) (fun K hK => ?_)
      refine goes_ Try.func23 (by kernel_rfl) rfl #[.agg #[.slice Ao23 t237.length co23, .slice Ao26 t240.length co26], .agg #[.slice Ao87 t249.length co87, .slice Ao88 t252.length co88]] (by rfl) rfl rfl (by (try simp only [List.map_toArray, List.map_cons, List.map_nil]); first | done | rfl | (simp only [List.length_drop, List.length_take]; rfl)) ?_
      with_reducible refine (laws_eqFrame.calls kj10 _ _ t237 _ _ t240 _ _ t249 _ _ t252 false _ ?side1 ?side2 ?side3 ?side4 ?side5 ?side6 ?side7 ?side8 A36.out).mono ?_
      (case side1 => repeat (first | exact (Kd.R_reads' HO_244000.out).2.2 | (with_reducible refine P ?_ _) | (with_reducible refine GG ?_ _) | (with_reducible refine GJ ?_)))
      (case side2 => exact (Kd.R_reads' HO_244000.out).2.1)
      (case side3 => repeat (first | exact (Kd.R_reads' HO_244001.out).2.2 | (with_reducible refine P ?_ _) | (with_reducible refine GG ?_ _) | (with_reducible refine GJ ?_)))
      (case side4 => exact (Kd.R_reads' HO_244001.out).2.1)
      (case side5 => repeat (first | exact (Kd.R_reads' HO251.out).2.2 | (with_reducible refine P ?_ _) | (with_reducible refine GG ?_ _) | (with_reducible refine GJ ?_)))
      (case side6 => exact (Kd.R_reads' HO251.out).2.1)
      (case side7 => repeat (first | exact (Kd.R_reads' HO254.out).2.2 | (with_reducible refine P ?_ _) | (with_reducible refine GG ?_ _) | (with_reducible refine GJ ?_)))
      (case side8 => exact (Kd.R_reads' HO254.out).2.1)
      rintro e w89 ⟨rfl, hb⟩
      refine ⟨_, rfl, ?_⟩
      have n0_ := G (B (by (with_reducible repeat (first | apply J | apply L | apply M)); exact HO_4.out) hb)
      have n1_ := G (B (by (with_reducible repeat (first | apply J | apply L | apply M)); exact HO_7.out) hb)
      have n2_ := G (B (by (with_reducible repeat (first | apply J | apply L | apply M)); exact HO_244000.out) hb)
      have n3_ := G (B (by (with_reducible repeat (first | apply J | apply L | apply M)); exact HO_244001.out) hb)
      have n4_ := G (B (by (with_reducible repeat (first | apply J | apply L | apply M)); exact HO251.out) hb)
      have n5_ := G (B (by (with_reducible repeat (first | apply J | apply L | apply M)); exact HO254.out) hb)
      have n6_ := G (F (g := gb225) (o := .cells #[.slice A0_0 l0_0.length c0_0, .slice A0_1 l0_1.length c0_1] 33 (0, 0)) (by (with_reducible repeat (first | refine U ?_ _ | refine X ?_ | refine V ?_ _)); exact BK225.out) hb)
      have n7_ := G (F (g := gb243) (o := .cells #[.slice Ao23 t237.length co23, .slice Ao26 t240.length co26] 39 (0, 0)) (by (with_reducible repeat (first | refine U ?_ _ | refine X ?_ | refine V ?_ _)); exact BK243.out) hb)
      have n8_ := G (GM (by repeat (first | (with_reducible first | exact HB.out | apply Z | apply T | apply Y | refine O ?_ GE225.out | refine O ?_ GE243.out) | exact HB.out)) hb)
      clear HO_4
      clear HO_7
      clear HO_244000
      clear HO_244001
      clear HO251
      clear HO254
      clear BK225
      clear BK243
      clear HB
      have HO_4 := n0_
      have HO_7 := n1_
      have HO_244000 := n2_
      have HO_244001 := n3_
      have HO251 := n4_
      have HO254 := n5_
      have BK225 := n6_
      have BK243 := n7_
      have HB := n8_
      clear n0_ n1_ n2_ n3_ n4_ n5_ n6_ n7_ n8_
      (try clear hb)
      (try clear hb2)
      (try clear hk)
      (try clear hi)
      refine hK.out _ _ ⟨(E BK243.out 0).trans rfl, (E BK243.out 1).trans rfl, (E BK225.out 0).trans rfl, (E BK225.out 1).trans rfl⟩ (fun hHeld => ?_)
      clear hK K
      refine norm_ (a' := ?_) ?_ ?_
      rotate_left
      ·show Act.put _ (some 44) _ = _
       simp only [Act.put, z1', z2', z3', i64_w, i32_w]
       rfl
      refine pure_ (i := 4) (N := some 45) (v := ?_) (a' := ?_) #[y', y', y', y', y'] rfl rfl (by kernel_rfl) (fun _ _ _ h => h) (Or.inl ⟨by rfl, ?_⟩) ?_ ?_
      rotate_left
      ·intro w'
       go_simp
       with_reducible rfl
      rotate_left
      ·simp only [Act.put, z1', z2', z3', i64_w, i32_w]
       rfl
      refine done_ (by kernel_rfl) ?_
      try go_wp2
      go_ret
      exact ⟨by first | rfl | (simp [errW_none, errW_some] <;> rfl) | (simp [*, errW_none, errW_some] <;> rfl), by repeat (first | (with_reducible first | exact HB.out | apply Z | apply T | apply Y | refine O ?_ GE225.out | refine O ?_ GE243.out) | exact HB.out)⟩

/-- THE ONE PURE STATEMENT of laws_FnExactFreeKnots. -/
def laws_FnExactFreeKnots.Pure : Prop := ∀ (l0_0 : List (S113)) (l0_1 : List (S115)), l0_0.length ≤ maxLen → (∀ x ∈ l0_0, ((Lit.int .i64 x.f0).wf = true) ∧ ((Lit.int .i64 x.f1).wf = true) ∧ (True)) → l0_1.length ≤ maxLen → (∀ x ∈ l0_1, ((Lit.int .i64 x.f0).wf = true) ∧ ((Lit.int .i64 x.f1).wf = true) ∧ (True)) → ∃ k, laws_FnExactFreeKnots.f k l0_0 l0_1 = some true

end Go.Proofs.Ytacijlpnpkhjaaa.HFr
