-- Written by a program for this claim (the functions that the statement reaches, and that the program's code comes to them).
import Derived.Test.YtacijlpnpkhjaaaHFrx0
import Derived.Test.YtacijlpnpkhjaaaHFrx5
import Derived.Test.YtacijlpnpkhjaaaHFrx6
import Derived.Test.YtacijlpnpkhjaaaHFrx7
import Derived.Test.YtacijlpnpkhjaaaHFrx13
namespace Go.Proofs.Ytacijlpnpkhjaaa.HFr
open Go.RowKit Go.Proofs.YtacijlpnpkhjaaaW.PrintWords Go.Proofs.YtacijlpnpkhjaaaW.PrintLast Go.Proofs.YtacijlpnpkhjaaaW.PrintMore
attribute [local go_sem] max2_int min2_int max_two min_two max_three min_three max_four min_four   -- for this text's walks alone
set_option linter.unusedVariables false
set_option linter.unusedSimpArgs false

/-! ### spec_ScaleLoads: function 45 -/
mutual
def spec_ScaleLoads.j0 : Nat → List (S97) → Int → Bool → List (S82) → List (S84) → Option ((List (S97)) × Int)
 | 0, _, _, _, _, _ => none
 | k + 1, x1, x2, x16, x391000, x391001 => if x16 = true then (some (([] : List (S97)), 1)) else ((spec_l00In.f x2 0 100).bind fun t393 => (if t393 = true then (spec_ScaleLoads.l0 k x1 x2 (([] : List (S97))) 0 x391000 x391001) else (some (([] : List (S97)), 2))))
def spec_ScaleLoads.l0 : Nat → List (S97) → Int → List (S97) → Int → List (S82) → List (S84) → Option ((List (S97)) × Int)
 | 0, _, _, _, _, _, _ => none
 | k + 1, x1, x2, x8, x9, x391000, x391001 => if x9 < (x1.length : Int) then (if 0 ≤ x9 then (if x8.length < 8796093022208 then (spec_ScaleLoads.l0 k x1 x2 (x8 ++ [(⟨wrap64 (x2 * ((rd_T97 x1 x9).f0)), wrap64 (x2 * ((rd_T97 x1 x9).f1))⟩ : S97)]) (wrap64 (x9 + 1)) x391000 x391001) else (none)) else (none)) else ((spec_l09Loads.f k x391000 x391001 x8).bind fun t402 => (if t402 = true then (some (x8, 0)) else (some (([] : List (S97)), 5))))
end
def spec_ScaleLoads.f (k : Nat) (l0_0 : List (S82)) (l0_1 : List (S84)) (l1 : List (S97)) (a2 : Int) : Option ((List (S97)) × Int) := (spec_l09Ok.f k l0_0 l0_1).bind fun t391 => (if t391 = true then ((spec_l09Loads.f k l0_0 l0_1 l1).bind fun t392 => (spec_ScaleLoads.j0 k l1 a2 (!t392) l0_0 l0_1)) else (spec_ScaleLoads.j0 k l1 a2 true l0_0 l0_1))
theorem spec_ScaleLoads.mono_l : ∀ k, (∀ y0 y1 y2 y3 y4, LeO (spec_ScaleLoads.j0 k y0 y1 y2 y3 y4) (spec_ScaleLoads.j0 (k + 1) y0 y1 y2 y3 y4)) ∧ (∀ y0 y1 y2 y3 y4 y5, LeO (spec_ScaleLoads.l0 k y0 y1 y2 y3 y4 y5) (spec_ScaleLoads.l0 (k + 1) y0 y1 y2 y3 y4 y5))
 | 0 => ⟨fun _ _ _ _ _ r h => by simp [spec_ScaleLoads.j0] at h, fun _ _ _ _ _ _ r h => by simp [spec_ScaleLoads.l0] at h⟩
 | k + 1 => by
  obtain ⟨ih0, ih1⟩ := spec_ScaleLoads.mono_l k
  refine ⟨?_, ?_⟩
  ·intro y0 y1 y2 y3 y4
   unfold spec_ScaleLoads.j0
   repeat' first
   | (with_reducible exact ih0 _ _ _ _ _)
   | (with_reducible exact ih1 _ _ _ _ _ _)
   | (with_reducible exact spec_l09Loads.mono _ _ _ _)
   | (with_reducible exact spec_l09Ok.mono _ _ _)
   | (with_reducible exact LeO.refl _)
   | (with_reducible exact LeO.none _)
   | (with_reducible refine LeO.ite ?_ ?_)
   | (with_reducible refine LeO.bind ?_ (fun _ => ?_))
   | exact ih0 _ _ _ _ _
   | exact ih1 _ _ _ _ _ _
   | exact spec_l09Loads.mono _ _ _ _
   | exact spec_l09Ok.mono _ _ _
   | exact LeO.none _
   | refine LeO.ite ?_ ?_
   | refine LeO.bind ?_ (fun _ => ?_)
  ·intro y0 y1 y2 y3 y4 y5
   unfold spec_ScaleLoads.l0
   repeat' first
   | (with_reducible exact ih0 _ _ _ _ _)
   | (with_reducible exact ih1 _ _ _ _ _ _)
   | (with_reducible exact spec_l09Loads.mono _ _ _ _)
   | (with_reducible exact spec_l09Ok.mono _ _ _)
   | (with_reducible exact LeO.refl _)
   | (with_reducible exact LeO.none _)
   | (with_reducible refine LeO.ite ?_ ?_)
   | (with_reducible refine LeO.bind ?_ (fun _ => ?_))
   | exact ih0 _ _ _ _ _
   | exact ih1 _ _ _ _ _ _
   | exact spec_l09Loads.mono _ _ _ _
   | exact spec_l09Ok.mono _ _ _
   | exact LeO.none _
   | refine LeO.ite ?_ ?_
   | refine LeO.bind ?_ (fun _ => ?_)
theorem spec_ScaleLoads.mono : ∀ a0 a1 a2 a3 k, LeO (spec_ScaleLoads.f k a0 a1 a2 a3) (spec_ScaleLoads.f (k + 1) a0 a1 a2 a3) := by
 intro a0 a1 a2 a3 k
 obtain ⟨ih0, ih1⟩ := spec_ScaleLoads.mono_l k
 unfold spec_ScaleLoads.f
 repeat' first
   | (with_reducible exact ih0 _ _ _ _ _)
   | (with_reducible exact ih1 _ _ _ _ _ _)
   | (with_reducible exact spec_l09Loads.mono _ _ _ _)
   | (with_reducible exact spec_l09Ok.mono _ _ _)
   | (with_reducible exact LeO.refl _)
   | (with_reducible exact LeO.none _)
   | (with_reducible refine LeO.ite ?_ ?_)
   | (with_reducible refine LeO.bind ?_ (fun _ => ?_))
   | exact ih0 _ _ _ _ _
   | exact ih1 _ _ _ _ _ _
   | exact spec_l09Loads.mono _ _ _ _
   | exact spec_l09Ok.mono _ _ _
   | exact LeO.none _
   | refine LeO.ite ?_ ?_
   | refine LeO.bind ?_ (fun _ => ?_)
def spec_ScaleLoads.T9 : Bool × List (List Nat × List Nat) := (true, [([], []), ([], []), ([], []), ([], []), ([2, 3], [2, 3]), ([4], [4]), ([5], [5]), ([1, 6], [1, 6]), ([], []), ([], []), ([], []), ([9, 10], [9, 10]), ([11], [11]), ([12], [12]), ([8, 13], [8, 13]), ([7, 14], [7, 14]), ([15], [15]), ([0, 16], [0, 16]), ([17, 17, 0, 1, 2, 3, 4, 5, 6, 7, 8, 9, 10, 11, 12, 13, 14, 15, 16, 17], [0, 17])])
def spec_ScaleLoads.B9 : List Nat := [0, 0, 0, 0, 12, 28, 60, 126, 0, 0, 0, 1536, 3584, 7680, 16128, 32766, 65534, 131071, 262143]
theorem spec_ScaleLoads.tab9 : rtab .any (opsOf Try.f45 9) = spec_ScaleLoads.T9 := by kernel_rfl
theorem spec_ScaleLoads.bits9 : waitsOk spec_ScaleLoads.T9.2 spec_ScaleLoads.B9 = true := by kernel_rfl
@[reducible] def spec_ScaleLoads.y' : Bool := true
@[reducible] def spec_ScaleLoads.n' : Bool := false
theorem spec_ScaleLoads.z1' {α : Type} (l : List α) (i : Nat) (a : α) : l.toArray.setIfInBounds i a = (l.set i a).toArray := List.setIfInBounds_toArray ..
theorem spec_ScaleLoads.z2' {α : Type} (a b : α) (l : List α) : (a :: l).set 0 b = b :: l := rfl
theorem spec_ScaleLoads.z3' {α : Type} (a b : α) (l : List α) (n : Nat) : (a :: l).set (n + 1) b = a :: l.set n b := rfl
theorem spec_ScaleLoads.G : type_of% @Aside0.mk := @Aside0.mk
theorem spec_ScaleLoads.J : type_of% @below_set := @below_set
theorem spec_ScaleLoads.L : type_of% @pw_below_drewN := @pw_below_drewN
theorem spec_ScaleLoads.M : type_of% @blk_drewN := @blk_drewN
theorem spec_ScaleLoads.O : type_of% @blk_alloc := @blk_alloc
theorem spec_ScaleLoads.T : type_of% @blk_drew := @blk_drew
theorem spec_ScaleLoads.U : type_of% @below_drew1 := @below_drew1
theorem spec_ScaleLoads.V : type_of% @below_alloc := @below_alloc
theorem spec_ScaleLoads.X : type_of% @Kd.C_alloc := @Kd.C_alloc
theorem spec_ScaleLoads.Y : type_of% @Kd.C_drewN := @Kd.C_drewN
theorem spec_ScaleLoads.Z : type_of% @Kd.C_drew := @Kd.C_drew
theorem spec_ScaleLoads.B : type_of% @Kd.C_below := @Kd.C_below
set_option maxHeartbeats 8000000 in
set_option maxRecDepth 100000 in
theorem spec_ScaleLoads.calls (k : Nat) (A0_0 : Option Addr) (c0_0 : Nat) (l0_0 : List (S82)) (A0_1 : Option Addr) (c0_1 : Nat) (l0_1 : List (S84)) (A1 : Option Addr) (c1 : Nat) (l1 : List (S97)) (a2 : Int) (r1 : List (S97)) (r2 : Int) (w : World) (hr0_0 : Kd.C k82 w A0_0 l0_0.length l0_0) (hc0_0 : l0_0.length ≤ c0_0) (hr0_1 : Kd.C k84 w A0_1 l0_1.length l0_1) (hc0_1 : l0_1.length ≤ c0_1) (hr1 : Kd.C k97 w A1 l1.length l1) (hc1 : l1.length ≤ c1) (h : spec_ScaleLoads.f k l0_0 l0_1 l1 a2 = some (r1, r2)) :
  Calls Try.prog 45 #[.agg #[.slice A0_0 l0_0.length c0_0, .slice A0_1 l0_1.length c0_1], .slice A1 l1.length c1, .int .i64 a2] w fun e w' => ∃ v0_ : Value, e = .returned (.tuple #[v0_, .int .i64 r2]) ∧ Kd.R k97 97 w' w.heap.size (fun _ => True) v0_ r1 ∧ Below w.heap.size w w' := by
 have hu39 := Try.underlying39
 have hu97 := Try.underlying97
 have HR0_0 := G hr0_0
 have HC0_0 := G hc0_0
 clear hr0_0 hc0_0
 have HR0_1 := G hr0_1
 have HC0_1 := G hc0_1
 clear hr0_1 hc0_1
 have HR1 := G hr1
 have HC1 := G hc1
 clear hr1 hc1
 have HB := G (Below.refl w.heap.size w)
 have H : ((spec_l09Ok.f k l0_0 l0_1).bind fun t391 => (if t391 = true then ((spec_l09Loads.f k l0_0 l0_1 l1).bind fun t392 => (spec_ScaleLoads.j0 k l1 a2 (!t392) l0_0 l0_1)) else (spec_ScaleLoads.j0 k l1 a2 true l0_0 l0_1))) = some (r1, r2) := h
 clear h
 have HC4 := G H
 clear H
 go_enter Try.func45, Try.ntmps45
 go_upto_region 1 with (first | ((with_reducible refine gate_dst (N := 3) rfl ?_); refine box_event ?hg (N := 3) ?hd (cs := #[.slice A0_0 l0_0.length c0_0, .slice A0_1 l0_1.length c0_1]) (t := 39) ?hr ?_; (case hd => rfl); (case hg => rfl); (case hr => first | (go_simp; done) | (go_simp; rfl)); intro gb390 hg w5 hbox hb; have n0_ := G (below_step (by repeat (first | (with_reducible first | exact HB.out | apply V | apply L | apply U) | exact HB.out)) hb); have n1_ := G (hbox); have n2_ := G ((by rw [hg]; exact (below_size (by repeat (first | (with_reducible first | exact HB.out | apply V | apply L | apply U) | exact HB.out))) : w.heap.size ≤ gb390)); have n3_ := G ((by rw [hg]; exact (below_size (by repeat (first | (with_reducible first | exact HB.out | apply V | apply L | apply U) | exact HB.out))) : w.heap.size ≤ gb390)); clear HB; have HB := n0_; have BK390 := n1_; have GW390 := n2_; have GE390 := n3_; clear n0_ n1_ n2_ n3_; clear hb hbox hg))
 (try simp only [Act.put, List.setIfInBounds_toArray, List.set_cons_zero, List.set_cons_succ])
 go_cut [16] (fun v16 wc => ∃ (kq : Nat) (x16_3 : Bool), v16 = .bool x16_3 ∧ Aside0 (spec_ScaleLoads.j0 kq l1 a2 x16_3 l0_0 l0_1 = some (r1, r2)) ∧ Aside0 (kq ≤ k) ∧ Aside0 (wc.heap[gb390]? = some (.cells #[(.slice A0_0 l0_0.length c0_0), (.slice A0_1 l0_1.length c0_1)] 39 (0, 0))) ∧ Aside0 (Below w.heap.size w wc))
 case first =>
  have H := HC4.out
  clear HC4
  replace H := Option.bind_eq_some_iff.mp H
  obtain ⟨t391, A60, H⟩ := H
  replace H : (if t391 = true then ((spec_l09Loads.f k l0_0 l0_1 l1).bind fun t392 => (spec_ScaleLoads.j0 k l1 a2 (!t392) l0_0 l0_1)) else (spec_ScaleLoads.j0 k l1 a2 true l0_0 l0_1)) = some (r1, r2) := H
  have A6 := G A60
  clear A60
  by_cases c7 : t391 = true
  ·subst c7
   have H1 : ((spec_l09Loads.f k l0_0 l0_1 l1).bind fun t392 => (spec_ScaleLoads.j0 k l1 a2 (!t392) l0_0 l0_1)) = some (r1, r2) := by rw [if_pos rfl] at H; exact H
   clear H
   have H := H1
   clear H1
   replace H := Option.bind_eq_some_iff.mp H
   obtain ⟨t392, A80, H⟩ := H
   replace H : (spec_ScaleLoads.j0 k l1 a2 (!t392) l0_0 l0_1) = some (r1, r2) := H
   have A8 := G A80
   clear A80
   have H' := G H
   clear H
   go_wp2_with (first | ((with_reducible refine gate_callee (f := 66) rfl ?_); refine goesL_ (some 10) rfl rfl Try.func66 (by kernel_rfl) rfl #[.pointer (some ⟨gb390, 0, none⟩)] rfl (by (try simp only [List.map_toArray, List.map_cons, List.map_nil]); first | done | rfl | (simp only [List.length_drop, List.length_take]; rfl)) ?_; (with_reducible refine (spec_l09Ok.calls k gb390 A0_0 c0_0 l0_0 A0_1 c0_1 l0_1 true _ ?side5 ?side1 ?side2 ?side3 ?side4 A6.out).mono ?_); (case side1 => repeat (first | exact (B HR0_0.out HB.out) | (with_reducible refine X ?_ _) | (with_reducible refine Y ?_ _) | (with_reducible refine Z ?_))); (case side2 => exact HC0_0.out); (case side3 => repeat (first | exact (B HR0_1.out HB.out) | (with_reducible refine X ?_ _) | (with_reducible refine Y ?_ _) | (with_reducible refine Z ?_))); (case side4 => exact HC0_1.out); (case side5 => (with_reducible repeat (first | refine M ?_ _ | refine T ?_ | refine O ?_ _)); exact BK390.out); rintro e w9 ⟨rfl, hb⟩; refine ⟨_, rfl, ?_⟩; have n0_ := G (blk_below (g := gb390) (o := .cells #[.slice A0_0 l0_0.length c0_0, .slice A0_1 l0_1.length c0_1] 39 (0, 0)) (by (with_reducible repeat (first | refine M ?_ _ | refine T ?_ | refine O ?_ _)); exact BK390.out) hb); have n1_ := G (below_step (by repeat (first | (with_reducible first | exact HB.out | apply V | apply L | apply U | refine J ?_ GE390.out) | exact HB.out)) hb); clear BK390; clear HB; have BK390 := n0_; have HB := n1_; clear n0_ n1_; (try clear hb); (try clear hb2); (try clear hk); (try clear hi)) | (go_at_call 72; (with_reducible refine (spec_l09Loads.calls k gb390 A0_0 c0_0 l0_0 A0_1 c0_1 l0_1 _ _ l1 t392 _ ?side7 ?side1 ?side2 ?side3 ?side4 ?side5 ?side6 A8.out).mono ?_); (case side1 => repeat (first | exact (B HR0_0.out HB.out) | (with_reducible refine X ?_ _) | (with_reducible refine Y ?_ _) | (with_reducible refine Z ?_))); (case side2 => exact HC0_0.out); (case side3 => repeat (first | exact (B HR0_1.out HB.out) | (with_reducible refine X ?_ _) | (with_reducible refine Y ?_ _) | (with_reducible refine Z ?_))); (case side4 => exact HC0_1.out); (case side5 => repeat (first | exact (B HR1.out HB.out) | (with_reducible refine X ?_ _) | (with_reducible refine Y ?_ _) | (with_reducible refine Z ?_))); (case side6 => exact HC1.out); (case side7 => (with_reducible repeat (first | refine M ?_ _ | refine T ?_ | refine O ?_ _)); exact BK390.out); rintro e w10 ⟨rfl, hb⟩; have n0_ := G (blk_below (g := gb390) (o := .cells #[.slice A0_0 l0_0.length c0_0, .slice A0_1 l0_1.length c0_1] 39 (0, 0)) (by (with_reducible repeat (first | refine M ?_ _ | refine T ?_ | refine O ?_ _)); exact BK390.out) hb); have n1_ := G (below_step (by repeat (first | (with_reducible first | exact HB.out | apply V | apply L | apply U | refine J ?_ GE390.out) | exact HB.out)) hb); clear BK390; clear HB; have BK390 := n0_; have HB := n1_; clear n0_ n1_; (try clear hb); (try clear hb2); (try clear hk); (try clear hi)))
   go_meet
   case rel => exact ⟨_, (!t392), (by first | rfl | (simp; done) | (simp [*]; done)), H', ⟨by first | omega | exact Nat.le_refl _⟩, ⟨by (with_reducible repeat (first | refine M ?_ _ | refine T ?_ | refine O ?_ _)); exact BK390.out⟩, ⟨by repeat (first | (with_reducible first | exact HB.out | apply V | apply L | apply U | refine J ?_ GE390.out) | exact HB.out)⟩⟩
  ·replace c7 := Bool.eq_false_iff.mpr c7
   subst c7
   have H1 : (spec_ScaleLoads.j0 k l1 a2 true l0_0 l0_1) = some (r1, r2) := by rw [if_neg (show ¬ (false = true) by decide)] at H; exact H
   clear H
   have H := H1
   clear H1
   have H' := G H
   clear H
   go_wp2_with (first | ((with_reducible refine gate_callee (f := 66) rfl ?_); refine goesL_ (some 10) rfl rfl Try.func66 (by kernel_rfl) rfl #[.pointer (some ⟨gb390, 0, none⟩)] rfl (by (try simp only [List.map_toArray, List.map_cons, List.map_nil]); first | done | rfl | (simp only [List.length_drop, List.length_take]; rfl)) ?_; (with_reducible refine (spec_l09Ok.calls k gb390 A0_0 c0_0 l0_0 A0_1 c0_1 l0_1 false _ ?side5 ?side1 ?side2 ?side3 ?side4 A6.out).mono ?_); (case side1 => repeat (first | exact (B HR0_0.out HB.out) | (with_reducible refine X ?_ _) | (with_reducible refine Y ?_ _) | (with_reducible refine Z ?_))); (case side2 => exact HC0_0.out); (case side3 => repeat (first | exact (B HR0_1.out HB.out) | (with_reducible refine X ?_ _) | (with_reducible refine Y ?_ _) | (with_reducible refine Z ?_))); (case side4 => exact HC0_1.out); (case side5 => (with_reducible repeat (first | refine M ?_ _ | refine T ?_ | refine O ?_ _)); exact BK390.out); rintro e w11 ⟨rfl, hb⟩; refine ⟨_, rfl, ?_⟩; have n0_ := G (blk_below (g := gb390) (o := .cells #[.slice A0_0 l0_0.length c0_0, .slice A0_1 l0_1.length c0_1] 39 (0, 0)) (by (with_reducible repeat (first | refine M ?_ _ | refine T ?_ | refine O ?_ _)); exact BK390.out) hb); have n1_ := G (below_step (by repeat (first | (with_reducible first | exact HB.out | apply V | apply L | apply U | refine J ?_ GE390.out) | exact HB.out)) hb); clear BK390; clear HB; have BK390 := n0_; have HB := n1_; clear n0_ n1_; (try clear hb); (try clear hb2); (try clear hk); (try clear hi)))
   go_meet
   case rel => exact ⟨_, (true), (by first | rfl | (simp; done) | (simp [*]; done)), H', ⟨by first | omega | exact Nat.le_refl _⟩, ⟨by (with_reducible repeat (first | refine M ?_ _ | refine T ?_ | refine O ?_ _)); exact BK390.out⟩, ⟨by repeat (first | (with_reducible first | exact HB.out | apply V | apply L | apply U | refine J ?_ GE390.out) | exact HB.out)⟩⟩
 case rest =>
  clear HC4
  try clear c1
  try clear p2
  try clear c4
  try clear c6
  try clear c7
  obtain ⟨kq, x16_3, rfl, HA, HJ3, BK390, HB⟩ := hcut
  cases kq with
  | zero => exact absurd HA.out (by simp [spec_ScaleLoads.j0])
  | succ kj3 =>
   have H := HA.out
   clear HA
   simp only [spec_ScaleLoads.j0] at H
   by_cases c12 : x16_3 = true
   ·subst c12
    have H1 : (some (([] : List (S97)), 1)) = some (r1, r2) := by rw [if_pos rfl] at H; exact H
    clear H
    have H := H1
    clear H1
    simp only [Option.some.injEq, Prod.mk.injEq] at H
    obtain ⟨rfl, rfl⟩ := H
    go_wp2
    go_ret2
    exact ⟨_, by first | rfl | (simp [errW_none, errW_some] <;> rfl) | (simp [*, errW_none, errW_some] <;> rfl), by first | exact Kd.R_nil _ _ _ _ _ | exact Kd.N_nil _ _ _ _ _ | exact Kd.V_nil _ _ _ _ _ | exact Kd.Q_nil _ _ _ _ _ | exact Kd.S_nil _ _ _ _ _, by repeat (first | (with_reducible first | exact HB.out | apply V | apply L | apply U | refine J ?_ GE390.out) | exact HB.out)⟩
   ·replace c12 := Bool.eq_false_iff.mpr c12
    subst c12
    have H1 : ((spec_l00In.f a2 0 100).bind fun t393 => (if t393 = true then (spec_ScaleLoads.l0 kj3 l1 a2 (([] : List (S97))) 0 l0_0 l0_1) else (some (([] : List (S97)), 2)))) = some (r1, r2) := by rw [if_neg (show ¬ (false = true) by decide)] at H; exact H
    clear H
    have H := H1
    clear H1
    replace H := Option.bind_eq_some_iff.mp H
    obtain ⟨t393, A130, H⟩ := H
    replace H : (if t393 = true then (spec_ScaleLoads.l0 kj3 l1 a2 (([] : List (S97))) 0 l0_0 l0_1) else (some (([] : List (S97)), 2))) = some (r1, r2) := H
    have A13 := G A130
    clear A130
    by_cases c14 : t393 = true
    ·subst c14
     have H1 : (spec_ScaleLoads.l0 kj3 l1 a2 (([] : List (S97))) 0 l0_0 l0_1) = some (r1, r2) := by rw [if_pos rfl] at H; exact H
     clear H
     have H := H1
     clear H1
     obtain ⟨y394, hy394⟩ : ∃ y_ : List (S97), y_ = (([] : List (S97))) := ⟨_, rfl⟩
     replace H : (spec_ScaleLoads.l0 kj3 l1 a2 y394 0 l0_0 l0_1) = some (r1, r2) := by first | (rw [hy394]; with_reducible exact H) | (have H2_ := (Option.bind_some _ _).symm.trans H; rw [hy394]; with_reducible exact H2_) | (have H2_ := (Option.bind_some _ _).symm.trans H; with_reducible exact H2_) | with_reducible exact H | (rw [hy394]; exact H) | exact H
     have Ny394 := G hy394
     clear hy394
     have H' := G H
     clear H
     go_wp2_with (first | ((with_reducible refine gate_callee (f := 82) rfl ?_); refine goesL_ (some 18) rfl rfl Try.func82 (by kernel_rfl) rfl #[.int .i64 a2, .int .i64 0, .int .i64 100] rfl (by (try simp only [List.map_toArray, List.map_cons, List.map_nil]); first | done | rfl | (simp only [List.length_drop, List.length_take]; rfl)) ?_; (with_reducible refine (spec_l00In.calls a2 0 100 true _ A13.out).mono ?_); rintro e w' ⟨rfl, ⟨nd, rfl⟩⟩; refine ⟨_, rfl, ?_⟩) | ((with_reducible refine gate_dst (N := 20) rfl ?_); refine Kd.R_lit k97 _ 97 ?hg (N := 20) ?hd (xs := ([] : List (S97))) (inner := []) (ok := fun _ => True) (okp := fun _ => True) ?hr ?hp (fun _ hk => hk) trivial (Below.refl _ _) (Nat.le_refl _) (by simp) ?_; (case hd => rfl); (case hg => rfl); (case hr => first | (go_simp; done) | (go_simp; rfl)); (case hp => exact (Reps.none _ _)); intro v395 w15 ho16 hb hg_ hnew_; clear hg_ hnew_; (first | rw [← Ny394.out] at ho16 | (simp only [Int.reduceToNat] at ho16; rw [← Ny394.out] at ho16)); have n0_ := G (Kd.R_lower ho16 (below_size (by repeat (first | (with_reducible first | exact HB.out | apply V | apply L | apply U | refine J ?_ GE390.out) | exact HB.out)))); have n1_ := G (blk_below (g := gb390) (o := .cells #[.slice A0_0 l0_0.length c0_0, .slice A0_1 l0_1.length c0_1] 39 (0, 0)) (by (with_reducible repeat (first | refine M ?_ _ | refine T ?_ | refine O ?_ _)); exact BK390.out) hb); have n2_ := G (below_step (by repeat (first | (with_reducible first | exact HB.out | apply V | apply L | apply U | refine J ?_ GE390.out) | exact HB.out)) hb); clear BK390; clear HB; have HO396 := n0_; have BK390 := n1_; have HB := n2_; clear n0_ n1_ n2_; clear hb ho16))
     go_loopg [8, 9] kj3 (fun kq v8 v9 w' => ∃ (x8_2 : List (S97)) (x9_2 : Int), v9 = .int .i64 x9_2 ∧ Aside0 (spec_ScaleLoads.l0 kq l1 a2 x8_2 x9_2 l0_0 l0_1 = some (r1, r2)) ∧ Aside0 (kq ≤ kj3) ∧ Aside0 (Kd.R k97 97 w' w.heap.size (fun _ => True) v8 x8_2) ∧ Aside0 (w'.heap[gb390]? = some (.cells #[(.slice A0_0 l0_0.length c0_0), (.slice A0_1 l0_1.length c0_1)] 39 (0, 0))) ∧ Aside0 (Below w.heap.size w w'))
     case atStart => exact ⟨(y394), (0), (by first | rfl | (simp; done) | (simp [*]; done)), H', ⟨Nat.le_refl _⟩, ⟨by (with_reducible repeat (first | apply Kd.R_alloc | apply Kd.R_drewN | apply Kd.R_drew)); exact HO396.out⟩, ⟨by (with_reducible repeat (first | refine M ?_ _ | refine T ?_ | refine O ?_ _)); exact BK390.out⟩, ⟨by repeat (first | (with_reducible first | exact HB.out | apply V | apply L | apply U | refine J ?_ GE390.out) | exact HB.out)⟩⟩
     case round =>
      clear H'
      try clear c1
      try clear p2
      try clear c4
      try clear c6
      try clear c7
      try clear c8
      try clear c12
      try clear c14
      try clear p2
      obtain ⟨x8_2, x9_2, rfl, HA, HK2, HO_8, BK390, HB⟩ := hrel
      cases gk with
      | zero => exact absurd HA.out (by simp [spec_ScaleLoads.l0])
      | succ k2 =>
       have H := HA.out
       clear HA
       simp only [spec_ScaleLoads.l0] at H
       by_cases c17 : x9_2 < (l1.length : Int)
       ·rw [if_pos c17] at H
        have c17b0 : decide (x9_2 < (l1.length : Int)) = true := decide_eq_true c17
        clear c17
        by_cases c18 : 0 ≤ x9_2
        ·rw [if_pos c18] at H
         have c18b0 : decide (0 ≤ x9_2) = true := decide_eq_true c18
         clear c18
         by_cases c19 : x8_2.length < 8796093022208
         ·rw [if_pos c19] at H
          have LMc19 := G c19
          clear c19
          obtain ⟨y399, hy399⟩ : ∃ y_ : List (S97), y_ = (x8_2 ++ [(⟨wrap64 (a2 * ((rd_T97 l1 x9_2).f0)), wrap64 (a2 * ((rd_T97 l1 x9_2).f1))⟩ : S97)]) := ⟨_, rfl⟩
          replace H : (spec_ScaleLoads.l0 k2 l1 a2 y399 (wrap64 (x9_2 + 1)) l0_0 l0_1) = some (r1, r2) := by first | (rw [hy399]; with_reducible exact H) | (have H2_ := (Option.bind_some _ _).symm.trans H; rw [hy399]; with_reducible exact H2_) | (have H2_ := (Option.bind_some _ _).symm.trans H; with_reducible exact H2_) | with_reducible exact H | (rw [hy399]; exact H) | exact H
          have Ny399 := G hy399
          clear hy399
          have H' := G H
          clear H
          try go_wp2
          have n0_ := G (Kd.R_drew HO_8.out)
          have n1_ := G (T BK390.out)
          have n2_ := G (U HB.out)
          clear HO_8
          clear BK390
          clear HB
          have HO_8 := n0_
          have BK390 := n1_
          have HB := n2_
          clear n0_ n1_ n2_
          have p397 : 0 ≤ (x9_2 : Int) := of_decide_eq_true (by first | (with_reducible assumption) | assumption)
          have q397 : x9_2 < (l1.length : Int) := of_decide_eq_true (by first | (with_reducible assumption) | assumption)
          obtain ⟨ad397, e397, hx397_0, hx397_1⟩ := at_T97 HR1.out x9_2 p397 q397
          have hw397_1 := hx397_1
          have hw397_0 := hx397_0
          cases e397
          (first | (replace hx397_0 := (HB.out.cell (World.block_lt_of_cell? w _ hx397_0)).trans hx397_0) | skip)
          (first | (replace hx397_1 := (HB.out.cell (World.block_lt_of_cell? w _ hx397_1)).trans hx397_1) | skip)
          replace p397 := eq_true p397
          replace q397 := eq_true q397
          have p398 : 0 ≤ (x9_2 : Int) := of_decide_eq_true (by first | (with_reducible assumption) | assumption)
          have q398 : x9_2 < (l1.length : Int) := of_decide_eq_true (by first | (with_reducible assumption) | assumption)
          obtain ⟨ad398, e398, hx398_0, hx398_1⟩ := at_T97 HR1.out x9_2 p398 q398
          have hw398_1 := hx398_1
          have hw398_0 := hx398_0
          obtain rfl : ad397 = ad398 := (by injection e398)
          (first | (replace hx398_0 := (HB.out.cell (World.block_lt_of_cell? w _ hx398_0)).trans hx398_0) | skip)
          (first | (replace hx398_1 := (HB.out.cell (World.block_lt_of_cell? w _ hx398_1)).trans hx398_1) | skip)
          replace p398 := eq_true p398
          replace q398 := eq_true q398
          refine start_ (n := 19) (S := fun w' => w'.cell? (ad397.add ((x9_2).toNat * 2)) = some (.int .i64 ((rd_T97 l1 x9_2).f0)) ∧ w'.cell? ⟨(ad397.add ((x9_2).toNat * 2)).block, (ad397.add ((x9_2).toNat * 2)).off + 1, none⟩ = some (.int .i64 ((rd_T97 l1 x9_2).f1)) ∧ w'.cell? (ad397.add ((x9_2).toNat * 2)) = some (.int .i64 ((rd_T97 l1 x9_2).f0)) ∧ w'.cell? ⟨(ad397.add ((x9_2).toNat * 2)).block, (ad397.add ((x9_2).toNat * 2)).off + 1, none⟩ = some (.int .i64 ((rd_T97 l1 x9_2).f1))) (ds := []) #[n', n', n', n', n', n', n', n', n', n', n', n', n', n', n', n', n', n', n'] (by kernel_rfl) rfl rfl ⟨((HB.out.cell (World.block_lt_of_cell? w _ hw397_0)).trans hw397_0), ((HB.out.cell (World.block_lt_of_cell? w _ hw397_1)).trans hw397_1), ((HB.out.cell (World.block_lt_of_cell? w _ hw398_0)).trans hw398_0), ((HB.out.cell (World.block_lt_of_cell? w _ hw398_1)).trans hw398_1)⟩ (fun hHeld => ?_); refine with_tabW spec_ScaleLoads.tab9 spec_ScaleLoads.bits9 (fun HT_ HW_ => ?_)
          generalize wr.drew = w20 at HO_8 BK390 HB hx397_0 hx397_1 hx398_0 hx398_1 hHeld ⊢
          refine pure_ (i := 0) (N := some 27) (v := ?_) (a' := ?_) #[y', n', n', n', n', n', n', n', n', n', n', n', n', n', n', n', n', n', n'] rfl rfl (any_of HT_.out (by kernel_rfl)) (fun _ _ _ h => h) (Or.inl ⟨by rfl, ?_⟩) ?_ ?_
          rotate_left
          ·intro w'
           go_simp
           with_reducible rfl
          rotate_left
          ·simp only [Act.put, z1', z2', z3', i64_w, i32_w]
           rfl
          refine pure_ (i := 1) (N := some 28) (v := ?_) (a' := ?_) #[y', y', n', n', n', n', n', n', n', n', n', n', n', n', n', n', n', n', n'] rfl rfl (any_of HT_.out (by kernel_rfl)) (fun _ _ _ h => h) (Or.inl ⟨by rfl, ?_⟩) ?_ ?_
          rotate_left
          ·intro w'
           go_simp
           with_reducible rfl
          rotate_left
          ·simp only [Act.put, z1', z2', z3', i64_w, i32_w]
           rfl
          refine pure_ (i := 2) (N := some 29) (v := ?_) (a' := ?_) #[y', y', y', n', n', n', n', n', n', n', n', n', n', n', n', n', n', n', n'] rfl rfl (any_of HT_.out (by kernel_rfl)) (fun _ _ _ h => h) (Or.inl ⟨by rfl, ?_⟩) ?_ ?_
          rotate_left
          ·intro w'
           go_simp
           with_reducible rfl
          rotate_left
          ·simp only [Act.put, z1', z2', z3', i64_w, i32_w]
           rfl
          refine pure_ (i := 3) (N := some 30) (v := ?_) (a' := ?_) #[y', y', y', y', n', n', n', n', n', n', n', n', n', n', n', n', n', n', n'] rfl rfl (any_of HT_.out (by kernel_rfl)) (fun _ _ _ h => h) (Or.inl ⟨by rfl, ?_⟩) ?_ ?_
          rotate_left
          ·intro w'
           go_simp
           with_reducible rfl
          rotate_left
          ·simp only [Act.put, z1', z2', z3', i64_w, i32_w]
           rfl
          refine pure_ (i := 4) (N := some 31) (v := ?_) (a' := ?_) #[y', y', y', y', y', n', n', n', n', n', n', n', n', n', n', n', n', n', n'] rfl rfl (any_of HT_.out (by kernel_rfl)) (fun _ _ _ h => h) (Or.inl ⟨by rfl, ?_⟩) ?_ ?_
          rotate_left
          ·intro w'
           go_simp
           with_reducible rfl
          rotate_left
          ·simp only [Act.put, z1', z2', z3', i64_w, i32_w]
           rfl
          refine pure_ (i := 5) (N := some 32) (v := ?_) (a' := ?_) #[y', y', y', y', y', y', n', n', n', n', n', n', n', n', n', n', n', n', n'] rfl rfl (any_of HT_.out (by kernel_rfl)) (fun _ _ _ h => h) (Or.inl ⟨by rfl, ?_⟩) ?_ ?_
          rotate_left
          ·intro w'
           go_simp
           with_reducible rfl
          rotate_left
          ·simp only [Act.put, z1', z2', z3', i64_w, i32_w]
           rfl
          refine pure_ (i := 8) (N := some 35) (v := ?_) (a' := ?_) #[y', y', y', y', y', y', n', n', y', n', n', n', n', n', n', n', n', n', n'] rfl rfl (any_of HT_.out (by kernel_rfl)) (fun _ _ _ h => h) (Or.inl ⟨by rfl, ?_⟩) ?_ ?_
          rotate_left
          ·intro w'
           go_simp
           with_reducible rfl
          rotate_left
          ·simp only [Act.put, z1', z2', z3', i64_w, i32_w]
           rfl
          refine pure_ (i := 9) (N := some 36) (v := ?_) (a' := ?_) #[y', y', y', y', y', y', n', n', y', y', n', n', n', n', n', n', n', n', n'] rfl rfl (any_of HT_.out (by kernel_rfl)) (fun _ _ _ h => h) (Or.inl ⟨by rfl, ?_⟩) ?_ ?_
          rotate_left
          ·intro w'
           go_simp
           with_reducible rfl
          rotate_left
          ·simp only [Act.put, z1', z2', z3', i64_w, i32_w]
           rfl
          refine pure_ (i := 10) (N := some 37) (v := ?_) (a' := ?_) #[y', y', y', y', y', y', n', n', y', y', y', n', n', n', n', n', n', n', n'] rfl rfl (any_of HT_.out (by kernel_rfl)) (fun _ _ _ h => h) (Or.inl ⟨by rfl, ?_⟩) ?_ ?_
          rotate_left
          ·intro w'
           go_simp
           with_reducible rfl
          rotate_left
          ·simp only [Act.put, z1', z2', z3', i64_w, i32_w]
           rfl
          refine pure_ (i := 11) (N := some 38) (v := ?_) (a' := ?_) #[y', y', y', y', y', y', n', n', y', y', y', y', n', n', n', n', n', n', n'] rfl rfl (any_of HT_.out (by kernel_rfl)) (fun _ _ _ h => h) (Or.inl ⟨by rfl, ?_⟩) ?_ ?_
          rotate_left
          ·intro w'
           go_simp
           with_reducible rfl
          rotate_left
          ·simp only [Act.put, z1', z2', z3', i64_w, i32_w]
           rfl
          refine pure_ (i := 12) (N := some 39) (v := ?_) (a' := ?_) #[y', y', y', y', y', y', n', n', y', y', y', y', y', n', n', n', n', n', n'] rfl rfl (any_of HT_.out (by kernel_rfl)) (fun _ _ _ h => h) (Or.inl ⟨by rfl, ?_⟩) ?_ ?_
          rotate_left
          ·intro w'
           go_simp
           with_reducible rfl
          rotate_left
          ·simp only [Act.put, z1', z2', z3', i64_w, i32_w]
           rfl
          refine take_ (i := 6) (N := some 33) (v := ?_) (a' := ?_) #[y', y', y', y', y', y', y', n', y', y', y', y', y', n', n', n', n', n', n'] rfl rfl (take_ofW HT_.out HW_.out (by kernel_rfl)) (fun _ _ _ h => h) (Or.inl ⟨by rfl, ?_⟩) hHeld ?_ ?_
          rotate_left
          ·rintro w' ⟨s0, s1, s2, s3⟩
           go_simp
           with_reducible rfl
          rotate_left
          ·simp only [Act.put, z1', z2', z3', i64_w, i32_w]
           rfl
          refine pure_ (i := 7) (N := some 34) (v := ?_) (a' := ?_) #[y', y', y', y', y', y', y', y', y', y', y', y', y', n', n', n', n', n', n'] rfl rfl (any_of HT_.out (by kernel_rfl)) (fun _ _ _ h => h) (Or.inl ⟨by rfl, ?_⟩) ?_ ?_
          rotate_left
          ·intro w'
           go_simp
           with_reducible rfl
          rotate_left
          ·simp only [Act.put, z1', z2', z3', i64_w, i32_w]
           rfl
          refine take_ (i := 13) (N := some 40) (v := ?_) (a' := ?_) #[y', y', y', y', y', y', y', y', y', y', y', y', y', y', n', n', n', n', n'] rfl rfl (take_ofW HT_.out HW_.out (by kernel_rfl)) (fun _ _ _ h => h) (Or.inl ⟨by rfl, ?_⟩) hHeld ?_ ?_
          rotate_left
          ·rintro w' ⟨s0, s1, s2, s3⟩
           go_simp
           with_reducible rfl
          rotate_left
          ·simp only [Act.put, z1', z2', z3', i64_w, i32_w]
           rfl
          refine pure_ (i := 14) (N := some 41) (v := ?_) (a' := ?_) #[y', y', y', y', y', y', y', y', y', y', y', y', y', y', y', n', n', n', n'] rfl rfl (any_of HT_.out (by kernel_rfl)) (fun _ _ _ h => h) (Or.inl ⟨by rfl, ?_⟩) ?_ ?_
          rotate_left
          ·intro w'
           go_simp
           with_reducible rfl
          rotate_left
          ·simp only [Act.put, z1', z2', z3', i64_w, i32_w]
           rfl
          refine pure_ (i := 15) (N := some 42) (v := ?_) (a' := ?_) #[y', y', y', y', y', y', y', y', y', y', y', y', y', y', y', y', n', n', n'] rfl rfl (any_of HT_.out (by kernel_rfl)) (fun _ _ _ h => h) (Or.inl ⟨by rfl, ?_⟩) ?_ ?_
          rotate_left
          ·intro w'
           go_simp
           with_reducible rfl
          rotate_left
          ·simp only [Act.put, z1', z2', z3', i64_w, i32_w]
           rfl
          refine one_ (i := 16) (N := some 43) #[y', y', y', y', y', y', y', y', y', y', y', y', y', y', y', y', y', n', n'] rfl rfl (one_of HT_.out (by kernel_rfl)) (by decide) (fun K hK => ?_)
          refine value_ (w1 := ?_) (v := ?_) (by rfl) rfl ?_ ?_
          rotate_left 2
          ·go_simp
           constructor
           ·rfl
           ·rfl
          refine hK.out _ _ ⟨(World.cell?_alloc_lt _ _ _ (World.block_lt_of_cell? _ _ (((HB.out.cell (World.block_lt_of_cell? w _ hw397_0)).trans hw397_0)))).trans (((HB.out.cell (World.block_lt_of_cell? w _ hw397_0)).trans hw397_0)), (World.cell?_alloc_lt _ _ _ (World.block_lt_of_cell? _ _ (((HB.out.cell (World.block_lt_of_cell? w _ hw397_1)).trans hw397_1)))).trans (((HB.out.cell (World.block_lt_of_cell? w _ hw397_1)).trans hw397_1)), (World.cell?_alloc_lt _ _ _ (World.block_lt_of_cell? _ _ (((HB.out.cell (World.block_lt_of_cell? w _ hw398_0)).trans hw398_0)))).trans (((HB.out.cell (World.block_lt_of_cell? w _ hw398_0)).trans hw398_0)), (World.cell?_alloc_lt _ _ _ (World.block_lt_of_cell? _ _ (((HB.out.cell (World.block_lt_of_cell? w _ hw398_1)).trans hw398_1)))).trans (((HB.out.cell (World.block_lt_of_cell? w _ hw398_1)).trans hw398_1))⟩ (fun hHeld => ?_)
          clear hK K
          refine norm_ (a' := ?_) ?_ ?_
          rotate_left
          ·show Act.put _ (some 43) _ = _
           simp only [Act.put, z1', z2', z3', i64_w, i32_w]
           rfl
          refine one_ (i := 17) (N := some 44) #[y', y', y', y', y', y', y', y', y', y', y', y', y', y', y', y', y', y', n'] rfl rfl (one_of HT_.out (by kernel_rfl)) (by decide) (fun K hK => ?_)
          refine Kd.R_append_step k97 (w0 := w) w.heap.size (by rfl) (.tmp 27) (.tmp 43) 50 97 (.agg #[(.int .i64 0), (.int .i64 0)]) 16 rfl Try.underlying50 info97 rfl (by decide) (by omega) u8 x8_2 (⟨wrap64 (a2 * ((rd_T97 l1 x9_2).f0)), wrap64 (a2 * ((rd_T97 l1 x9_2).f1))⟩ : S97) [.int .i64 (wrap64 (a2 * ((rd_T97 l1 x9_2).f0))), .int .i64 (wrap64 (a2 * ((rd_T97 l1 x9_2).f1)))] (fun _ => True) (fun _ => False) rfl rfl ?aP (fun _ hk => hk.elim) ?aF ?aO ?aB ?aS ?aL ?_
          (case aP => exact k97_mkM _ _ _ (⟨wrap64 (a2 * ((rd_T97 l1 x9_2).f0)), wrap64 (a2 * ((rd_T97 l1 x9_2).f1))⟩ : S97))
          (case aB => exact (by repeat (first | (with_reducible first | exact HB.out | apply V | apply L | apply U | refine J ?_ GE390.out) | exact HB.out)))
          (case aF => exact (fun _ _ => trivial))
          (case aO => exact (by (with_reducible repeat (first | apply Kd.R_alloc | apply Kd.R_drewN | apply Kd.R_drew)); exact HO_8.out))
          (case aS => exact (below_size (by repeat (first | (with_reducible first | exact HB.out | apply V | apply L | apply U | refine J ?_ GE390.out) | exact HB.out))))
          (case aL => have := LMc19.out; omega)
          intro v400 w21 ho hb hg hat
          rw [← Ny399.out] at ho
          have n0_ := G (blk_grown (g := gb390) (o := .cells #[.slice A0_0 l0_0.length c0_0, .slice A0_1 l0_1.length c0_1] 39 (0, 0)) (by (with_reducible repeat (first | refine M ?_ _ | refine T ?_ | refine O ?_ _)); exact BK390.out) hg (Kd.R_ne HO_8.out BK390.out (by decide)))
          have n1_ := G (hb)
          have n2_ := G (ho)
          clear BK390
          clear HB
          clear HO_8
          have BK390 := n0_
          have HB := n1_
          have HO401 := n2_
          clear n0_ n1_ n2_
          clear ho hb hg hat
          refine hK.out _ _ ⟨((HB.out.cell (World.block_lt_of_cell? w _ hw397_0)).trans hw397_0), ((HB.out.cell (World.block_lt_of_cell? w _ hw397_1)).trans hw397_1), ((HB.out.cell (World.block_lt_of_cell? w _ hw398_0)).trans hw398_0), ((HB.out.cell (World.block_lt_of_cell? w _ hw398_1)).trans hw398_1)⟩ (fun hHeld => ?_)
          clear hK K
          refine norm_ (a' := ?_) ?_ ?_
          rotate_left
          ·show Act.put _ (some 44) _ = _
           simp only [Act.put, z1', z2', z3', i64_w, i32_w]
           rfl
          refine pure_ (i := 18) (N := some 8) (v := ?_) (a' := ?_) #[y', y', y', y', y', y', y', y', y', y', y', y', y', y', y', y', y', y', y'] rfl rfl (any_of HT_.out (by kernel_rfl)) (fun _ _ _ h => h) (Or.inl ⟨by rfl, ?_⟩) ?_ ?_
          rotate_left
          ·intro w'
           go_simp
           with_reducible rfl
          rotate_left
          ·simp only [Act.put, z1', z2', z3', i64_w, i32_w]
           rfl
          refine done_ (done_of HT_.out (by kernel_rfl)) ?_
          try go_wp2
          go_roundg k2
          case measure => have := HJ3.out; have := HK2.out; omega
          case rel => exact ⟨(y399), (wrap64 (x9_2 + 1)), (by first | rfl | (simp; done) | (simp [*]; done)), H', ⟨by have := HJ3.out; have := HK2.out; omega⟩, ⟨by (with_reducible repeat (first | apply Kd.R_alloc | apply Kd.R_drewN | apply Kd.R_drew)); exact HO401.out⟩, ⟨by (with_reducible repeat (first | refine M ?_ _ | refine T ?_ | refine O ?_ _)); exact BK390.out⟩, ⟨by repeat (first | (with_reducible first | exact HB.out | apply V | apply L | apply U | refine J ?_ GE390.out) | exact HB.out)⟩⟩
         ·rw [if_neg c19] at H
          exact absurd H (by simp)
        ·rw [if_neg c18] at H
         exact absurd H (by simp)
       ·rw [if_neg c17] at H
        have c17b0 : decide (x9_2 < (l1.length : Int)) = false := decide_eq_false c17
        clear c17
        replace H := Option.bind_eq_some_iff.mp H
        obtain ⟨t402, A220, H⟩ := H
        replace H : (if t402 = true then (some (x8_2, 0)) else (some (([] : List (S97)), 5))) = some (r1, r2) := H
        have A22 := G A220
        clear A220
        by_cases c23 : t402 = true
        ·subst c23
         have H1 : (some (x8_2, 0)) = some (r1, r2) := by rw [if_pos rfl] at H; exact H
         clear H
         have H := H1
         clear H1
         simp only [Option.some.injEq, Prod.mk.injEq] at H
         obtain ⟨rfl, rfl⟩ := H
         obtain ⟨Ao24, co24, eo24⟩ := Kd.R_slice HO_8.out
         subst eo24
         go_wp2_with (first | ((with_reducible refine gate_callee (f := 72) rfl ?_); refine goesL_ (some 46) rfl rfl Try.func72 (by kernel_rfl) rfl #[.pointer (some ⟨gb390, 0, none⟩), .slice Ao24 x8_2.length co24] rfl (by (try simp only [List.map_toArray, List.map_cons, List.map_nil]); first | done | rfl | (simp only [List.length_drop, List.length_take]; rfl)) ?_; (with_reducible refine (spec_l09Loads.calls k2 gb390 A0_0 c0_0 l0_0 A0_1 c0_1 l0_1 _ _ x8_2 true _ ?side7 ?side1 ?side2 ?side3 ?side4 ?side5 ?side6 A22.out).mono ?_); (case side1 => repeat (first | exact (B HR0_0.out HB.out) | (with_reducible refine X ?_ _) | (with_reducible refine Y ?_ _) | (with_reducible refine Z ?_))); (case side2 => exact HC0_0.out); (case side3 => repeat (first | exact (B HR0_1.out HB.out) | (with_reducible refine X ?_ _) | (with_reducible refine Y ?_ _) | (with_reducible refine Z ?_))); (case side4 => exact HC0_1.out); (case side5 => repeat (first | exact (Kd.R_reads' HO_8.out).2.2 | (with_reducible refine X ?_ _) | (with_reducible refine Y ?_ _) | (with_reducible refine Z ?_))); (case side6 => exact (Kd.R_reads' HO_8.out).2.1); (case side7 => (with_reducible repeat (first | refine M ?_ _ | refine T ?_ | refine O ?_ _)); exact BK390.out); rintro e w25 ⟨rfl, hb⟩; refine ⟨_, rfl, ?_⟩; have n0_ := G (Kd.R_below (by (with_reducible repeat (first | apply Kd.R_alloc | apply Kd.R_drewN | apply Kd.R_drew)); exact HO_8.out) hb); have n1_ := G (blk_below (g := gb390) (o := .cells #[.slice A0_0 l0_0.length c0_0, .slice A0_1 l0_1.length c0_1] 39 (0, 0)) (by (with_reducible repeat (first | refine M ?_ _ | refine T ?_ | refine O ?_ _)); exact BK390.out) hb); have n2_ := G (below_step (by repeat (first | (with_reducible first | exact HB.out | apply V | apply L | apply U | refine J ?_ GE390.out) | exact HB.out)) hb); clear HO_8; clear BK390; clear HB; have HO_8 := n0_; have BK390 := n1_; have HB := n2_; clear n0_ n1_ n2_; (try clear hb); (try clear hb2); (try clear hk); (try clear hi)))
         go_ret2
         exact ⟨_, by first | rfl | (simp [errW_none, errW_some] <;> rfl) | (simp [*, errW_none, errW_some] <;> rfl), by (with_reducible repeat (first | apply Kd.R_alloc | apply Kd.R_drewN | apply Kd.R_drew)); exact HO_8.out, by repeat (first | (with_reducible first | exact HB.out | apply V | apply L | apply U | refine J ?_ GE390.out) | exact HB.out)⟩
        ·replace c23 := Bool.eq_false_iff.mpr c23
         subst c23
         have H1 : (some (([] : List (S97)), 5)) = some (r1, r2) := by rw [if_neg (show ¬ (false = true) by decide)] at H; exact H
         clear H
         have H := H1
         clear H1
         simp only [Option.some.injEq, Prod.mk.injEq] at H
         obtain ⟨rfl, rfl⟩ := H
         obtain ⟨Ao26, co26, eo26⟩ := Kd.R_slice HO_8.out
         subst eo26
         go_wp2_with (first | ((with_reducible refine gate_callee (f := 72) rfl ?_); refine goesL_ (some 46) rfl rfl Try.func72 (by kernel_rfl) rfl #[.pointer (some ⟨gb390, 0, none⟩), .slice Ao26 x8_2.length co26] rfl (by (try simp only [List.map_toArray, List.map_cons, List.map_nil]); first | done | rfl | (simp only [List.length_drop, List.length_take]; rfl)) ?_; (with_reducible refine (spec_l09Loads.calls k2 gb390 A0_0 c0_0 l0_0 A0_1 c0_1 l0_1 _ _ x8_2 false _ ?side7 ?side1 ?side2 ?side3 ?side4 ?side5 ?side6 A22.out).mono ?_); (case side1 => repeat (first | exact (B HR0_0.out HB.out) | (with_reducible refine X ?_ _) | (with_reducible refine Y ?_ _) | (with_reducible refine Z ?_))); (case side2 => exact HC0_0.out); (case side3 => repeat (first | exact (B HR0_1.out HB.out) | (with_reducible refine X ?_ _) | (with_reducible refine Y ?_ _) | (with_reducible refine Z ?_))); (case side4 => exact HC0_1.out); (case side5 => repeat (first | exact (Kd.R_reads' HO_8.out).2.2 | (with_reducible refine X ?_ _) | (with_reducible refine Y ?_ _) | (with_reducible refine Z ?_))); (case side6 => exact (Kd.R_reads' HO_8.out).2.1); (case side7 => (with_reducible repeat (first | refine M ?_ _ | refine T ?_ | refine O ?_ _)); exact BK390.out); rintro e w27 ⟨rfl, hb⟩; refine ⟨_, rfl, ?_⟩; have n0_ := G (Kd.R_below (by (with_reducible repeat (first | apply Kd.R_alloc | apply Kd.R_drewN | apply Kd.R_drew)); exact HO_8.out) hb); have n1_ := G (blk_below (g := gb390) (o := .cells #[.slice A0_0 l0_0.length c0_0, .slice A0_1 l0_1.length c0_1] 39 (0, 0)) (by (with_reducible repeat (first | refine M ?_ _ | refine T ?_ | refine O ?_ _)); exact BK390.out) hb); have n2_ := G (below_step (by repeat (first | (with_reducible first | exact HB.out | apply V | apply L | apply U | refine J ?_ GE390.out) | exact HB.out)) hb); clear HO_8; clear BK390; clear HB; have HO_8 := n0_; have BK390 := n1_; have HB := n2_; clear n0_ n1_ n2_; (try clear hb); (try clear hb2); (try clear hk); (try clear hi)))
         go_ret2
         exact ⟨_, by first | rfl | (simp [errW_none, errW_some] <;> rfl) | (simp [*, errW_none, errW_some] <;> rfl), by first | exact Kd.R_nil _ _ _ _ _ | exact Kd.N_nil _ _ _ _ _ | exact Kd.V_nil _ _ _ _ _ | exact Kd.Q_nil _ _ _ _ _ | exact Kd.S_nil _ _ _ _ _, by repeat (first | (with_reducible first | exact HB.out | apply V | apply L | apply U | refine J ?_ GE390.out) | exact HB.out)⟩
    ·replace c14 := Bool.eq_false_iff.mpr c14
     subst c14
     have H1 : (some (([] : List (S97)), 2)) = some (r1, r2) := by rw [if_neg (show ¬ (false = true) by decide)] at H; exact H
     clear H
     have H := H1
     clear H1
     simp only [Option.some.injEq, Prod.mk.injEq] at H
     obtain ⟨rfl, rfl⟩ := H
     go_wp2_with (first | ((with_reducible refine gate_callee (f := 82) rfl ?_); refine goesL_ (some 18) rfl rfl Try.func82 (by kernel_rfl) rfl #[.int .i64 a2, .int .i64 0, .int .i64 100] rfl (by (try simp only [List.map_toArray, List.map_cons, List.map_nil]); first | done | rfl | (simp only [List.length_drop, List.length_take]; rfl)) ?_; (with_reducible refine (spec_l00In.calls a2 0 100 false _ A13.out).mono ?_); rintro e w' ⟨rfl, ⟨nd, rfl⟩⟩; refine ⟨_, rfl, ?_⟩))
     go_ret2
     exact ⟨_, by first | rfl | (simp [errW_none, errW_some] <;> rfl) | (simp [*, errW_none, errW_some] <;> rfl), by first | exact Kd.R_nil _ _ _ _ _ | exact Kd.N_nil _ _ _ _ _ | exact Kd.V_nil _ _ _ _ _ | exact Kd.Q_nil _ _ _ _ _ | exact Kd.S_nil _ _ _ _ _, by repeat (first | (with_reducible first | exact HB.out | apply V | apply L | apply U | refine J ?_ GE390.out) | exact HB.out)⟩

/-! ### impl_ScaleLoads: function 46 -/
def impl_ScaleLoads.l0 : Nat → Int → List (S97) → List (S97) → Int → Int → List (S82) → List (S84) → Option ((List (S97)) × Int)
 | 0, _, _, _, _, _, _, _ => none
 | k + 1, x2, x8, x19, x20, x21, x404000, x404001 => if x21 < x20 then (if 0 ≤ x21 then (if x21 < (x19.length : Int) then (if x8.length < 8796093022208 then (impl_ScaleLoads.l0 k x2 (x8 ++ [(⟨wrap64 (((rd_T97 x19 x21).f0) * x2), wrap64 (((rd_T97 x19 x21).f1) * x2)⟩ : S97)]) x19 x20 (wrap64 (x21 + 1)) x404000 x404001) else (none)) else (none)) else (none)) else ((impl_ValidLoads.f k x404000 x404001 x8).bind fun t414 => (if t414 = true then (some (x8, 0)) else (some (([] : List (S97)), 5))))
def impl_ScaleLoads.f (k : Nat) (l0_0 : List (S82)) (l0_1 : List (S84)) (l1 : List (S97)) (a2 : Int) : Option ((List (S97)) × Int) := (impl_ValidLoads.f k l0_0 l0_1 l1).bind fun t404 => (if t404 = true then ((impl_within.f a2 0 100).bind fun t405 => (if t405 = true then (impl_ScaleLoads.l0 k a2 (([] : List (S97))) l1 (l1.length : Int) 0 l0_0 l0_1) else (some (([] : List (S97)), 2)))) else (some (([] : List (S97)), 1)))
theorem impl_ScaleLoads.mono_l : ∀ k, (∀ y0 y1 y2 y3 y4 y5 y6, LeO (impl_ScaleLoads.l0 k y0 y1 y2 y3 y4 y5 y6) (impl_ScaleLoads.l0 (k + 1) y0 y1 y2 y3 y4 y5 y6))
 | 0 => fun _ _ _ _ _ _ _ r h => by simp [impl_ScaleLoads.l0] at h
 | k + 1 => by
  have ih0 := impl_ScaleLoads.mono_l k
  ·intro y0 y1 y2 y3 y4 y5 y6
   unfold impl_ScaleLoads.l0
   repeat' first
   | (with_reducible exact ih0 _ _ _ _ _ _ _)
   | (with_reducible exact impl_ValidLoads.mono _ _ _ _)
   | (with_reducible exact LeO.refl _)
   | (with_reducible exact LeO.none _)
   | (with_reducible refine LeO.ite ?_ ?_)
   | (with_reducible refine LeO.bind ?_ (fun _ => ?_))
   | exact ih0 _ _ _ _ _ _ _
   | exact impl_ValidLoads.mono _ _ _ _
   | exact LeO.none _
   | refine LeO.ite ?_ ?_
   | refine LeO.bind ?_ (fun _ => ?_)
theorem impl_ScaleLoads.mono : ∀ a0 a1 a2 a3 k, LeO (impl_ScaleLoads.f k a0 a1 a2 a3) (impl_ScaleLoads.f (k + 1) a0 a1 a2 a3) := by
 intro a0 a1 a2 a3 k
 have ih0 := impl_ScaleLoads.mono_l k
 unfold impl_ScaleLoads.f
 repeat' first
   | (with_reducible exact ih0 _ _ _ _ _ _ _)
   | (with_reducible exact impl_ValidLoads.mono _ _ _ _)
   | (with_reducible exact LeO.refl _)
   | (with_reducible exact LeO.none _)
   | (with_reducible refine LeO.ite ?_ ?_)
   | (with_reducible refine LeO.bind ?_ (fun _ => ?_))
   | exact ih0 _ _ _ _ _ _ _
   | exact impl_ValidLoads.mono _ _ _ _
   | exact LeO.none _
   | refine LeO.ite ?_ ?_
   | refine LeO.bind ?_ (fun _ => ?_)
@[reducible] def impl_ScaleLoads.y' : Bool := true
@[reducible] def impl_ScaleLoads.n' : Bool := false
theorem impl_ScaleLoads.z1' {α : Type} (l : List α) (i : Nat) (a : α) : l.toArray.setIfInBounds i a = (l.set i a).toArray := List.setIfInBounds_toArray ..
theorem impl_ScaleLoads.z2' {α : Type} (a b : α) (l : List α) : (a :: l).set 0 b = b :: l := rfl
theorem impl_ScaleLoads.z3' {α : Type} (a b : α) (l : List α) (n : Nat) : (a :: l).set (n + 1) b = a :: l.set n b := rfl
theorem impl_ScaleLoads.G : type_of% @Aside0.mk := @Aside0.mk
theorem impl_ScaleLoads.J : type_of% @below_set := @below_set
theorem impl_ScaleLoads.L : type_of% @pw_below_drewN := @pw_below_drewN
theorem impl_ScaleLoads.M : type_of% @blk_drewN := @blk_drewN
theorem impl_ScaleLoads.O : type_of% @blk_alloc := @blk_alloc
theorem impl_ScaleLoads.T : type_of% @blk_drew := @blk_drew
theorem impl_ScaleLoads.U : type_of% @below_drew1 := @below_drew1
theorem impl_ScaleLoads.V : type_of% @below_alloc := @below_alloc
theorem impl_ScaleLoads.X : type_of% @Kd.C_alloc := @Kd.C_alloc
theorem impl_ScaleLoads.Y : type_of% @Kd.C_drewN := @Kd.C_drewN
theorem impl_ScaleLoads.Z : type_of% @Kd.C_drew := @Kd.C_drew
theorem impl_ScaleLoads.B : type_of% @below_size := @below_size
theorem impl_ScaleLoads.D : type_of% @below_step := @below_step
theorem impl_ScaleLoads.E : type_of% @Kd.C_below := @Kd.C_below
theorem impl_ScaleLoads.F : type_of% @blk_frozen := @blk_frozen
set_option maxHeartbeats 8000000 in
set_option maxRecDepth 100000 in
theorem impl_ScaleLoads.calls (k : Nat) (A0_0 : Option Addr) (c0_0 : Nat) (l0_0 : List (S82)) (A0_1 : Option Addr) (c0_1 : Nat) (l0_1 : List (S84)) (A1 : Option Addr) (c1 : Nat) (l1 : List (S97)) (a2 : Int) (r1 : List (S97)) (r2 : Int) (w : World) (hr0_0 : Kd.C k82 w A0_0 l0_0.length l0_0) (hc0_0 : l0_0.length ≤ c0_0) (hr0_1 : Kd.C k84 w A0_1 l0_1.length l0_1) (hc0_1 : l0_1.length ≤ c0_1) (hr1 : Kd.C k97 w A1 l1.length l1) (hc1 : l1.length ≤ c1) (h : impl_ScaleLoads.f k l0_0 l0_1 l1 a2 = some (r1, r2)) :
  Calls Try.prog 46 #[.agg #[.slice A0_0 l0_0.length c0_0, .slice A0_1 l0_1.length c0_1], .slice A1 l1.length c1, .int .i64 a2] w fun e w' => ∃ v0_ : Value, e = .returned (.tuple #[v0_, .int .i64 r2]) ∧ Kd.R k97 97 w' w.heap.size (fun _ => True) v0_ r1 ∧ Below w.heap.size w w' := by
 have hu39 := Try.underlying39
 have hu97 := Try.underlying97
 have HR0_0 := G hr0_0
 have HC0_0 := G hc0_0
 clear hr0_0 hc0_0
 have HR0_1 := G hr0_1
 have HC0_1 := G hc0_1
 clear hr0_1 hc0_1
 have HR1 := G hr1
 have HC1 := G hc1
 clear hr1 hc1
 have HB := G (Below.refl w.heap.size w)
 have H : ((impl_ValidLoads.f k l0_0 l0_1 l1).bind fun t404 => (if t404 = true then ((impl_within.f a2 0 100).bind fun t405 => (if t405 = true then (impl_ScaleLoads.l0 k a2 (([] : List (S97))) l1 (l1.length : Int) 0 l0_0 l0_1) else (some (([] : List (S97)), 2)))) else (some (([] : List (S97)), 1)))) = some (r1, r2) := h
 clear h
 replace H := Option.bind_eq_some_iff.mp H
 obtain ⟨t404, A40, H⟩ := H
 replace H : (if t404 = true then ((impl_within.f a2 0 100).bind fun t405 => (if t405 = true then (impl_ScaleLoads.l0 k a2 (([] : List (S97))) l1 (l1.length : Int) 0 l0_0 l0_1) else (some (([] : List (S97)), 2)))) else (some (([] : List (S97)), 1))) = some (r1, r2) := H
 have A4 := G A40
 clear A40
 by_cases c5 : t404 = true
 ·subst c5
  have H1 : ((impl_within.f a2 0 100).bind fun t405 => (if t405 = true then (impl_ScaleLoads.l0 k a2 (([] : List (S97))) l1 (l1.length : Int) 0 l0_0 l0_1) else (some (([] : List (S97)), 2)))) = some (r1, r2) := by rw [if_pos rfl] at H; exact H
  clear H
  have H := H1
  clear H1
  replace H := Option.bind_eq_some_iff.mp H
  obtain ⟨t405, A60, H⟩ := H
  replace H : (if t405 = true then (impl_ScaleLoads.l0 k a2 (([] : List (S97))) l1 (l1.length : Int) 0 l0_0 l0_1) else (some (([] : List (S97)), 2))) = some (r1, r2) := H
  have A6 := G A60
  clear A60
  by_cases c7 : t405 = true
  ·subst c7
   have H1 : (impl_ScaleLoads.l0 k a2 (([] : List (S97))) l1 (l1.length : Int) 0 l0_0 l0_1) = some (r1, r2) := by rw [if_pos rfl] at H; exact H
   clear H
   have H := H1
   clear H1
   obtain ⟨y406, hy406⟩ : ∃ y_ : List (S97), y_ = (([] : List (S97))) := ⟨_, rfl⟩
   replace H : (impl_ScaleLoads.l0 k a2 y406 l1 (l1.length : Int) 0 l0_0 l0_1) = some (r1, r2) := by first | (rw [hy406]; with_reducible exact H) | (have H2_ := (Option.bind_some _ _).symm.trans H; rw [hy406]; with_reducible exact H2_) | (have H2_ := (Option.bind_some _ _).symm.trans H; with_reducible exact H2_) | with_reducible exact H | (rw [hy406]; exact H) | exact H
   have Ny406 := G hy406
   clear hy406
   have H' := G H
   clear H
   go_enter Try.func46, Try.ntmps46
   go_wp2_with (first | ((with_reducible refine gate_dst (N := 3) rfl ?_); refine box_event ?hg (N := 3) ?hd (cs := #[.slice A0_0 l0_0.length c0_0, .slice A0_1 l0_1.length c0_1]) (t := 39) ?hr ?_; (case hd => rfl); (case hg => rfl); (case hr => first | (go_simp; done) | (go_simp; rfl)); intro gb403 hg w8 hbox hb; have n0_ := G (D (by repeat (first | (with_reducible first | exact HB.out | apply V | apply L | apply U) | exact HB.out)) hb); have n1_ := G (hbox); have n2_ := G ((by rw [hg]; exact (B (by repeat (first | (with_reducible first | exact HB.out | apply V | apply L | apply U) | exact HB.out))) : w.heap.size ≤ gb403)); have n3_ := G ((by rw [hg]; exact (B (by repeat (first | (with_reducible first | exact HB.out | apply V | apply L | apply U) | exact HB.out))) : w.heap.size ≤ gb403)); clear HB; have HB := n0_; have BK403 := n1_; have GW403 := n2_; have GE403 := n3_; clear n0_ n1_ n2_ n3_; clear hb hbox hg; have hcz9_0 : w8.cell? ⟨gb403, 0, none⟩ = some (.slice A0_0 l0_0.length c0_0) := (blk_cell BK403.out 0).trans rfl; have hcz9_1 : w8.cell? ⟨gb403, 1, none⟩ = some (.slice A0_1 l0_1.length c0_1) := (blk_cell BK403.out 1).trans rfl; have hfz9_0 := F BK403.out 0; have hfz9_1 := F BK403.out 1) | ((with_reducible refine gate_callee (f := 31) rfl ?_); refine goesL_ (some 13) rfl rfl Try.func31 (by kernel_rfl) rfl #[.agg #[.slice A0_0 l0_0.length c0_0, .slice A0_1 l0_1.length c0_1], .slice A1 l1.length c1] rfl (by (try simp only [List.map_toArray, List.map_cons, List.map_nil]); first | done | rfl | (simp only [List.length_drop, List.length_take]; rfl)) ?_; (with_reducible refine (impl_ValidLoads.calls k _ _ l0_0 _ _ l0_1 _ _ l1 true _ ?side1 ?side2 ?side3 ?side4 ?side5 ?side6 A4.out).mono ?_); (case side1 => repeat (first | exact (E HR0_0.out HB.out) | (with_reducible refine X ?_ _) | (with_reducible refine Y ?_ _) | (with_reducible refine Z ?_))); (case side2 => exact HC0_0.out); (case side3 => repeat (first | exact (E HR0_1.out HB.out) | (with_reducible refine X ?_ _) | (with_reducible refine Y ?_ _) | (with_reducible refine Z ?_))); (case side4 => exact HC0_1.out); (case side5 => repeat (first | exact (E HR1.out HB.out) | (with_reducible refine X ?_ _) | (with_reducible refine Y ?_ _) | (with_reducible refine Z ?_))); (case side6 => exact HC1.out); rintro e w10 ⟨rfl, hb⟩; refine ⟨_, rfl, ?_⟩; have n0_ := G (blk_below (g := gb403) (o := .cells #[.slice A0_0 l0_0.length c0_0, .slice A0_1 l0_1.length c0_1] 39 (0, 0)) (by (with_reducible repeat (first | refine M ?_ _ | refine T ?_ | refine O ?_ _)); exact BK403.out) hb); have n1_ := G (D (by repeat (first | (with_reducible first | exact HB.out | apply V | apply L | apply U | refine J ?_ GE403.out) | exact HB.out)) hb); clear BK403; clear HB; have BK403 := n0_; have HB := n1_; clear n0_ n1_; (try clear hb); (try clear hb2); (try clear hk); (try clear hi)) | ((with_reducible refine gate_callee (f := 68) rfl ?_); refine goesL_ (some 16) rfl rfl Try.func68 (by kernel_rfl) rfl #[.int .i64 a2, .int .i64 0, .int .i64 100] rfl (by (try simp only [List.map_toArray, List.map_cons, List.map_nil]); first | done | rfl | (simp only [List.length_drop, List.length_take]; rfl)) ?_; (with_reducible refine (impl_within.calls a2 0 100 true _ A6.out).mono ?_); rintro e w' ⟨rfl, ⟨nd, rfl⟩⟩; refine ⟨_, rfl, ?_⟩) | ((with_reducible refine gate_dst (N := 18) rfl ?_); refine Kd.R_lit k97 _ 97 ?hg (N := 18) ?hd (xs := ([] : List (S97))) (inner := []) (ok := fun _ => True) (okp := fun _ => True) ?hr ?hp (fun _ hk => hk) trivial (Below.refl _ _) (Nat.le_refl _) (by simp) ?_; (case hd => rfl); (case hg => rfl); (case hr => first | (go_simp; done) | (go_simp; rfl)); (case hp => exact (Reps.none _ _)); intro v407 w11 ho12 hb hg_ hnew_; clear hg_ hnew_; (first | rw [← Ny406.out] at ho12 | (simp only [Int.reduceToNat] at ho12; rw [← Ny406.out] at ho12)); have n0_ := G (Kd.R_lower ho12 (B (by repeat (first | (with_reducible first | exact HB.out | apply V | apply L | apply U | refine J ?_ GE403.out) | exact HB.out)))); have n1_ := G (blk_below (g := gb403) (o := .cells #[.slice A0_0 l0_0.length c0_0, .slice A0_1 l0_1.length c0_1] 39 (0, 0)) (by (with_reducible repeat (first | refine M ?_ _ | refine T ?_ | refine O ?_ _)); exact BK403.out) hb); have n2_ := G (D (by repeat (first | (with_reducible first | exact HB.out | apply V | apply L | apply U | refine J ?_ GE403.out) | exact HB.out)) hb); clear BK403; clear HB; have HO408 := n0_; have BK403 := n1_; have HB := n2_; clear n0_ n1_ n2_; clear hb ho12))
   go_loopg [8, 21] k (fun kq v8 v21 w' => ∃ (x8_1 : List (S97)) (x21_1 : Int), v21 = .int .i64 x21_1 ∧ Aside0 (impl_ScaleLoads.l0 kq a2 x8_1 l1 (l1.length : Int) x21_1 l0_0 l0_1 = some (r1, r2)) ∧ Aside0 (kq ≤ k) ∧ Aside0 (Kd.R k97 97 w' w.heap.size (fun _ => True) v8 x8_1) ∧ Aside0 (w'.heap[gb403]? = some (.cells #[(.slice A0_0 l0_0.length c0_0), (.slice A0_1 l0_1.length c0_1)] 39 (0, 0))) ∧ Aside0 (Below w.heap.size w w'))
   case atStart => exact ⟨(y406), (0), (by first | rfl | (simp; done) | (simp [*]; done)), H', ⟨Nat.le_refl _⟩, ⟨by (with_reducible repeat (first | apply Kd.R_alloc | apply Kd.R_drewN | apply Kd.R_drew)); exact HO408.out⟩, ⟨by (with_reducible repeat (first | refine M ?_ _ | refine T ?_ | refine O ?_ _)); exact BK403.out⟩, ⟨by repeat (first | (with_reducible first | exact HB.out | apply V | apply L | apply U | refine J ?_ GE403.out) | exact HB.out)⟩⟩
   case round =>
    clear H'
    try clear c1
    try clear p2
    try clear c3
    try clear c4
    try clear c5
    try clear c6
    try clear c7
    try clear hcz9_0
    try clear hcz9_1
    try clear hfz9_0
    try clear hfz9_1
    obtain ⟨x8_1, x21_1, rfl, HA, HK1, HO_8, BK403, HB⟩ := hrel
    cases gk with
    | zero => exact absurd HA.out (by simp [impl_ScaleLoads.l0])
    | succ k1 =>
     have H := HA.out
     clear HA
     simp only [impl_ScaleLoads.l0] at H
     by_cases c13 : x21_1 < (l1.length : Int)
     ·rw [if_pos c13] at H
      have c13b0 : decide (x21_1 < (l1.length : Int)) = true := decide_eq_true c13
      clear c13
      by_cases c14 : 0 ≤ x21_1
      ·rw [if_pos c14] at H
       have c14b0 : decide (0 ≤ x21_1) = true := decide_eq_true c14
       clear c14
       by_cases c15 : x21_1 < (l1.length : Int)
       ·rw [if_pos c15] at H
        have c15b0 : decide (x21_1 < (l1.length : Int)) = true := decide_eq_true c15
        clear c15
        by_cases c16 : x8_1.length < 8796093022208
        ·rw [if_pos c16] at H
         have LMc16 := G c16
         clear c16
         obtain ⟨y411, hy411⟩ : ∃ y_ : List (S97), y_ = (x8_1 ++ [(⟨wrap64 (((rd_T97 l1 x21_1).f0) * a2), wrap64 (((rd_T97 l1 x21_1).f1) * a2)⟩ : S97)]) := ⟨_, rfl⟩
         replace H : (impl_ScaleLoads.l0 k1 a2 y411 l1 (l1.length : Int) (wrap64 (x21_1 + 1)) l0_0 l0_1) = some (r1, r2) := by first | (rw [hy411]; with_reducible exact H) | (have H2_ := (Option.bind_some _ _).symm.trans H; rw [hy411]; with_reducible exact H2_) | (have H2_ := (Option.bind_some _ _).symm.trans H; with_reducible exact H2_) | with_reducible exact H | (rw [hy411]; exact H) | exact H
         have Ny411 := G hy411
         clear hy411
         have H' := G H
         clear H
         have p409 : 0 ≤ (x21_1 : Int) := of_decide_eq_true (by first | (with_reducible assumption) | assumption)
         have q409 : x21_1 < (l1.length : Int) := of_decide_eq_true (by first | (with_reducible assumption) | assumption)
         obtain ⟨ad409, e409, hx409_0, hx409_1⟩ := at_T97 HR1.out x21_1 p409 q409
         cases e409
         (first | (replace hx409_0 := (HB.out.cell (World.block_lt_of_cell? w _ hx409_0)).trans hx409_0) | skip)
         (first | (replace hx409_1 := (HB.out.cell (World.block_lt_of_cell? w _ hx409_1)).trans hx409_1) | skip)
         replace p409 := eq_true p409
         replace q409 := eq_true q409
         go_wp2_with (first | ((with_reducible refine gate_dst (N := 10) rfl ?_); refine box_event ?hg (N := 10) ?hd (cs := #[.int .i64 0, .int .i64 0]) (t := 97) ?hr ?_; (case hd => rfl); (case hg => rfl); (case hr => first | (go_simp; done) | (go_simp; rfl)); intro gb410 hg w17 hbox hb; have n0_ := G (Kd.R_below (Kd.R_elderB (by (with_reducible repeat (first | apply Kd.R_alloc | apply Kd.R_drewN | apply Kd.R_drew)); exact HO_8.out) gb410 (Nat.le_of_eq hg.symm)) hb); have n1_ := G (blk_below (g := gb403) (o := .cells #[.slice A0_0 l0_0.length c0_0, .slice A0_1 l0_1.length c0_1] 39 (0, 0)) (by (with_reducible repeat (first | refine M ?_ _ | refine T ?_ | refine O ?_ _)); exact BK403.out) hb); have n2_ := G (D (by repeat (first | (with_reducible first | exact HB.out | apply V | apply L | apply U | refine J ?_ GE403.out) | exact HB.out)) hb); have n3_ := G (hbox); have n4_ := G ((by rw [hg]; exact (B (by repeat (first | (with_reducible first | exact HB.out | apply V | apply L | apply U | refine J ?_ GE403.out) | exact HB.out))) : w.heap.size ≤ gb410)); have n5_ := G ((by rw [hg]; exact (B (by repeat (first | (with_reducible first | exact HB.out | apply V | apply L | apply U | refine J ?_ GE403.out) | exact HB.out))) : w.heap.size ≤ gb410)); have n6_ := G ((by rw [hg]; exact Nat.ne_of_lt (blk_lt (g := gb403) (o := .cells #[.slice A0_0 l0_0.length c0_0, .slice A0_1 l0_1.length c0_1] 39 (0, 0)) (by (with_reducible repeat (first | refine M ?_ _ | refine T ?_ | refine O ?_ _)); exact BK403.out)) : gb403 ≠ gb410)); have n7_ := G ((by rw [hg]; exact Nat.ne_of_gt (blk_lt (g := gb403) (o := .cells #[.slice A0_0 l0_0.length c0_0, .slice A0_1 l0_1.length c0_1] 39 (0, 0)) (by (with_reducible repeat (first | refine M ?_ _ | refine T ?_ | refine O ?_ _)); exact BK403.out)) : gb410 ≠ gb403)); clear HO_8; clear BK403; clear HB; have HO_8 := n0_; have BK403 := n1_; have HB := n2_; have BK410 := n3_; have GW410 := n4_; have GE410 := n5_; have NB403_410 := n6_; have NB410_403 := n7_; clear n0_ n1_ n2_ n3_ n4_ n5_ n6_ n7_; clear hb hbox hg; have hnb18 := NB410_403.out; have hnc18 := NB403_410.out; have hcz19_0 : w17.cell? ⟨gb410, 0, none⟩ = some (.int .i64 0) := (blk_cell BK410.out 0).trans rfl; have hcz19_1 : w17.cell? ⟨gb410, 1, none⟩ = some (.int .i64 0) := (blk_cell BK410.out 1).trans rfl; have hfz19_0 := F BK410.out 0; have hfz19_1 := F BK410.out 1) | ((with_reducible refine gate_builtin (b := .append) (xs := #[.tmp 25, .tmp 35]) rfl ?_); at_builtin; refine Kd.R_append k97 (w0 := w) w.heap.size rfl (.tmp 25) (.tmp 35) 50 97 (.agg #[(.int .i64 0), (.int .i64 0)]) 16 rfl Try.underlying50 info97 rfl (by decide) (by omega) u8 x8_1 (⟨wrap64 (((rd_T97 l1 x21_1).f0) * a2), wrap64 (((rd_T97 l1 x21_1).f1) * a2)⟩ : S97) [.int .i64 (wrap64 (((rd_T97 l1 x21_1).f0) * a2)), .int .i64 (wrap64 (((rd_T97 l1 x21_1).f1) * a2))] (fun k_ => k_ ≠ gb410) (fun _ => False) rfl (by first | (go_simp; done) | (go_simp; rfl)) ?aP (fun _ hk => hk.elim) ?aF ?aO ?aB ?aS ?aL ?_; (case aP => exact k97_mkM _ _ _ (⟨wrap64 (((rd_T97 l1 x21_1).f0) * a2), wrap64 (((rd_T97 l1 x21_1).f1) * a2)⟩ : S97)); (case aB => exact (by repeat (first | (with_reducible first | exact HB.out | apply V | apply L | apply U | refine J ?_ GE403.out | refine J ?_ GE410.out) | exact HB.out))); (case aF => exact (fun k_ hk => Kd.freshB (g := gb410) (o := .cells #[.int .i64 ((rd_T97 l1 x21_1).f0), .int .i64 ((rd_T97 l1 x21_1).f1)] 97 (0, 0)) (by (with_reducible repeat (first | refine M ?_ _ | refine T ?_ | refine O ?_ _)); refine blk_put (cs := #[.int .i64 ((rd_T97 l1 x21_1).f0), .int .i64 0]) ?_ 1 _ rfl; (with_reducible repeat (first | refine M ?_ _ | refine T ?_ | refine O ?_ _)); refine blk_put (cs := #[.int .i64 0, .int .i64 0]) ?_ 0 _ rfl; (with_reducible repeat (first | refine M ?_ _ | refine T ?_ | refine O ?_ _)); exact BK410.out) k_ hk)); (case aO => exact (by (with_reducible repeat (first | apply Kd.R_alloc | apply Kd.R_drewN | apply Kd.R_drew)); exact Kd.R_mono (Kd.R_far (p := ⟨gb410, 1, none⟩) (Kd.R_far (p := ⟨gb410, 0, none⟩) (Kd.R_mono HO_8.out (fun k_ hk => (⟨hk, hk.2⟩ : _ ∧ k_ ≠ gb410))) (fun _ hk => hk.2) (.int .i64 ((rd_T97 l1 x21_1).f0))) (fun _ hk => hk.2) (.int .i64 ((rd_T97 l1 x21_1).f1))) (fun _ hk => hk.1.2))); (case aS => exact (B (by repeat (first | (with_reducible first | exact HB.out | apply V | apply L | apply U | refine J ?_ GE403.out | refine J ?_ GE410.out) | exact HB.out)))); (case aL => have := LMc16.out; omega); intro v412 w20 ho hb hg hat; rw [← Ny411.out] at ho; have n0_ := G (blk_grown (g := gb403) (o := .cells #[.slice A0_0 l0_0.length c0_0, .slice A0_1 l0_1.length c0_1] 39 (0, 0)) (by (with_reducible repeat (first | refine M ?_ _ | refine T ?_ | refine O ?_ _)); refine blk_far ?_ NB403_410.out _; (with_reducible repeat (first | refine M ?_ _ | refine T ?_ | refine O ?_ _)); refine blk_far ?_ NB403_410.out _; (with_reducible repeat (first | refine M ?_ _ | refine T ?_ | refine O ?_ _)); exact BK403.out) hg (Kd.R_ne HO_8.out BK403.out (by decide))); have n1_ := G (blk_grown (g := gb410) (o := .cells #[.int .i64 ((rd_T97 l1 x21_1).f0), .int .i64 ((rd_T97 l1 x21_1).f1)] 97 (0, 0)) (by (with_reducible repeat (first | refine M ?_ _ | refine T ?_ | refine O ?_ _)); refine blk_put (cs := #[.int .i64 ((rd_T97 l1 x21_1).f0), .int .i64 0]) ?_ 1 _ rfl; (with_reducible repeat (first | refine M ?_ _ | refine T ?_ | refine O ?_ _)); refine blk_put (cs := #[.int .i64 0, .int .i64 0]) ?_ 0 _ rfl; (with_reducible repeat (first | refine M ?_ _ | refine T ?_ | refine O ?_ _)); exact BK410.out) hg (Kd.R_away HO_8.out (fun _ hk => hk.2))); have n2_ := G (hb); have n3_ := G (ho); clear BK403; clear BK410; clear HB; clear HO_8; have BK403 := n0_; have BK410 := n1_; have HB := n2_; have HO413 := n3_; clear n0_ n1_ n2_ n3_; clear ho hb hg hat))
         go_roundg k1
         case measure => have := HK1.out; omega
         case rel => exact ⟨(y411), (wrap64 (x21_1 + 1)), (by first | rfl | (simp; done) | (simp [*]; done)), H', ⟨by have := HK1.out; omega⟩, ⟨by (with_reducible repeat (first | apply Kd.R_alloc | apply Kd.R_drewN | apply Kd.R_drew)); exact Kd.R_mono HO413.out (fun _ hk => trivial)⟩, ⟨by (with_reducible repeat (first | refine M ?_ _ | refine T ?_ | refine O ?_ _)); exact BK403.out⟩, ⟨by repeat (first | (with_reducible first | exact HB.out | apply V | apply L | apply U | refine J ?_ GE403.out | refine J ?_ GE410.out) | exact HB.out)⟩⟩
        ·rw [if_neg c16] at H
         exact absurd H (by simp)
       ·rw [if_neg c15] at H
        exact absurd H (by simp)
      ·rw [if_neg c14] at H
       exact absurd H (by simp)
     ·rw [if_neg c13] at H
      have c13b0 : decide (x21_1 < (l1.length : Int)) = false := decide_eq_false c13
      clear c13
      replace H := Option.bind_eq_some_iff.mp H
      obtain ⟨t414, A210, H⟩ := H
      replace H : (if t414 = true then (some (x8_1, 0)) else (some (([] : List (S97)), 5))) = some (r1, r2) := H
      have A21 := G A210
      clear A210
      by_cases c22 : t414 = true
      ·subst c22
       have H1 : (some (x8_1, 0)) = some (r1, r2) := by rw [if_pos rfl] at H; exact H
       clear H
       have H := H1
       clear H1
       simp only [Option.some.injEq, Prod.mk.injEq] at H
       obtain ⟨rfl, rfl⟩ := H
       have hcz23_0 : wr.cell? ⟨gb403, 0, none⟩ = some (.slice A0_0 l0_0.length c0_0) := (blk_cell BK403.out 0).trans rfl
       have hcz23_1 : wr.cell? ⟨gb403, 1, none⟩ = some (.slice A0_1 l0_1.length c0_1) := (blk_cell BK403.out 1).trans rfl
       have hfz23_0 := F BK403.out 0
       have hfz23_1 := F BK403.out 1
       obtain ⟨Ao24, co24, eo24⟩ := Kd.R_slice HO_8.out
       subst eo24
       go_wp2_with (first | ((with_reducible refine gate_callee (f := 31) rfl ?_); refine goesL_ (some 40) rfl rfl Try.func31 (by kernel_rfl) rfl #[.agg #[.slice A0_0 l0_0.length c0_0, .slice A0_1 l0_1.length c0_1], .slice Ao24 x8_1.length co24] rfl (by (try simp only [List.map_toArray, List.map_cons, List.map_nil]); first | done | rfl | (simp only [List.length_drop, List.length_take]; rfl)) ?_; (with_reducible refine (impl_ValidLoads.calls k1 _ _ l0_0 _ _ l0_1 _ _ x8_1 true _ ?side1 ?side2 ?side3 ?side4 ?side5 ?side6 A21.out).mono ?_); (case side1 => repeat (first | exact (E HR0_0.out HB.out) | (with_reducible refine X ?_ _) | (with_reducible refine Y ?_ _) | (with_reducible refine Z ?_))); (case side2 => exact HC0_0.out); (case side3 => repeat (first | exact (E HR0_1.out HB.out) | (with_reducible refine X ?_ _) | (with_reducible refine Y ?_ _) | (with_reducible refine Z ?_))); (case side4 => exact HC0_1.out); (case side5 => repeat (first | exact (Kd.R_reads' HO_8.out).2.2 | (with_reducible refine X ?_ _) | (with_reducible refine Y ?_ _) | (with_reducible refine Z ?_))); (case side6 => exact (Kd.R_reads' HO_8.out).2.1); rintro e w25 ⟨rfl, hb⟩; refine ⟨_, rfl, ?_⟩; have n0_ := G (Kd.R_below (by (with_reducible repeat (first | apply Kd.R_alloc | apply Kd.R_drewN | apply Kd.R_drew)); exact HO_8.out) hb); have n1_ := G (blk_below (g := gb403) (o := .cells #[.slice A0_0 l0_0.length c0_0, .slice A0_1 l0_1.length c0_1] 39 (0, 0)) (by (with_reducible repeat (first | refine M ?_ _ | refine T ?_ | refine O ?_ _)); exact BK403.out) hb); have n2_ := G (D (by repeat (first | (with_reducible first | exact HB.out | apply V | apply L | apply U | refine J ?_ GE403.out) | exact HB.out)) hb); clear HO_8; clear BK403; clear HB; have HO_8 := n0_; have BK403 := n1_; have HB := n2_; clear n0_ n1_ n2_; (try clear hb); (try clear hb2); (try clear hk); (try clear hi)))
       go_ret2
       exact ⟨_, by first | rfl | (simp [errW_none, errW_some] <;> rfl) | (simp [*, errW_none, errW_some] <;> rfl), by (with_reducible repeat (first | apply Kd.R_alloc | apply Kd.R_drewN | apply Kd.R_drew)); exact HO_8.out, by repeat (first | (with_reducible first | exact HB.out | apply V | apply L | apply U | refine J ?_ GE403.out) | exact HB.out)⟩
      ·replace c22 := Bool.eq_false_iff.mpr c22
       subst c22
       have H1 : (some (([] : List (S97)), 5)) = some (r1, r2) := by rw [if_neg (show ¬ (false = true) by decide)] at H; exact H
       clear H
       have H := H1
       clear H1
       simp only [Option.some.injEq, Prod.mk.injEq] at H
       obtain ⟨rfl, rfl⟩ := H
       have hcz26_0 : wr.cell? ⟨gb403, 0, none⟩ = some (.slice A0_0 l0_0.length c0_0) := (blk_cell BK403.out 0).trans rfl
       have hcz26_1 : wr.cell? ⟨gb403, 1, none⟩ = some (.slice A0_1 l0_1.length c0_1) := (blk_cell BK403.out 1).trans rfl
       have hfz26_0 := F BK403.out 0
       have hfz26_1 := F BK403.out 1
       obtain ⟨Ao27, co27, eo27⟩ := Kd.R_slice HO_8.out
       subst eo27
       go_wp2_with (first | ((with_reducible refine gate_callee (f := 31) rfl ?_); refine goesL_ (some 40) rfl rfl Try.func31 (by kernel_rfl) rfl #[.agg #[.slice A0_0 l0_0.length c0_0, .slice A0_1 l0_1.length c0_1], .slice Ao27 x8_1.length co27] rfl (by (try simp only [List.map_toArray, List.map_cons, List.map_nil]); first | done | rfl | (simp only [List.length_drop, List.length_take]; rfl)) ?_; (with_reducible refine (impl_ValidLoads.calls k1 _ _ l0_0 _ _ l0_1 _ _ x8_1 false _ ?side1 ?side2 ?side3 ?side4 ?side5 ?side6 A21.out).mono ?_); (case side1 => repeat (first | exact (E HR0_0.out HB.out) | (with_reducible refine X ?_ _) | (with_reducible refine Y ?_ _) | (with_reducible refine Z ?_))); (case side2 => exact HC0_0.out); (case side3 => repeat (first | exact (E HR0_1.out HB.out) | (with_reducible refine X ?_ _) | (with_reducible refine Y ?_ _) | (with_reducible refine Z ?_))); (case side4 => exact HC0_1.out); (case side5 => repeat (first | exact (Kd.R_reads' HO_8.out).2.2 | (with_reducible refine X ?_ _) | (with_reducible refine Y ?_ _) | (with_reducible refine Z ?_))); (case side6 => exact (Kd.R_reads' HO_8.out).2.1); rintro e w28 ⟨rfl, hb⟩; refine ⟨_, rfl, ?_⟩; have n0_ := G (Kd.R_below (by (with_reducible repeat (first | apply Kd.R_alloc | apply Kd.R_drewN | apply Kd.R_drew)); exact HO_8.out) hb); have n1_ := G (blk_below (g := gb403) (o := .cells #[.slice A0_0 l0_0.length c0_0, .slice A0_1 l0_1.length c0_1] 39 (0, 0)) (by (with_reducible repeat (first | refine M ?_ _ | refine T ?_ | refine O ?_ _)); exact BK403.out) hb); have n2_ := G (D (by repeat (first | (with_reducible first | exact HB.out | apply V | apply L | apply U | refine J ?_ GE403.out) | exact HB.out)) hb); clear HO_8; clear BK403; clear HB; have HO_8 := n0_; have BK403 := n1_; have HB := n2_; clear n0_ n1_ n2_; (try clear hb); (try clear hb2); (try clear hk); (try clear hi)))
       go_ret2
       exact ⟨_, by first | rfl | (simp [errW_none, errW_some] <;> rfl) | (simp [*, errW_none, errW_some] <;> rfl), by first | exact Kd.R_nil _ _ _ _ _ | exact Kd.N_nil _ _ _ _ _ | exact Kd.V_nil _ _ _ _ _ | exact Kd.Q_nil _ _ _ _ _ | exact Kd.S_nil _ _ _ _ _, by repeat (first | (with_reducible first | exact HB.out | apply V | apply L | apply U | refine J ?_ GE403.out) | exact HB.out)⟩
  ·replace c7 := Bool.eq_false_iff.mpr c7
   subst c7
   have H1 : (some (([] : List (S97)), 2)) = some (r1, r2) := by rw [if_neg (show ¬ (false = true) by decide)] at H; exact H
   clear H
   have H := H1
   clear H1
   simp only [Option.some.injEq, Prod.mk.injEq] at H
   obtain ⟨rfl, rfl⟩ := H
   go_enter Try.func46, Try.ntmps46
   go_wp2_with (first | ((with_reducible refine gate_dst (N := 3) rfl ?_); refine box_event ?hg (N := 3) ?hd (cs := #[.slice A0_0 l0_0.length c0_0, .slice A0_1 l0_1.length c0_1]) (t := 39) ?hr ?_; (case hd => rfl); (case hg => rfl); (case hr => first | (go_simp; done) | (go_simp; rfl)); intro gb403 hg w29 hbox hb; have n0_ := G (D (by repeat (first | (with_reducible first | exact HB.out | apply V | apply L | apply U) | exact HB.out)) hb); have n1_ := G (hbox); have n2_ := G ((by rw [hg]; exact (B (by repeat (first | (with_reducible first | exact HB.out | apply V | apply L | apply U) | exact HB.out))) : w.heap.size ≤ gb403)); have n3_ := G ((by rw [hg]; exact (B (by repeat (first | (with_reducible first | exact HB.out | apply V | apply L | apply U) | exact HB.out))) : w.heap.size ≤ gb403)); clear HB; have HB := n0_; have BK403 := n1_; have GW403 := n2_; have GE403 := n3_; clear n0_ n1_ n2_ n3_; clear hb hbox hg; have hcz30_0 : w29.cell? ⟨gb403, 0, none⟩ = some (.slice A0_0 l0_0.length c0_0) := (blk_cell BK403.out 0).trans rfl; have hcz30_1 : w29.cell? ⟨gb403, 1, none⟩ = some (.slice A0_1 l0_1.length c0_1) := (blk_cell BK403.out 1).trans rfl; have hfz30_0 := F BK403.out 0; have hfz30_1 := F BK403.out 1) | ((with_reducible refine gate_callee (f := 31) rfl ?_); refine goesL_ (some 13) rfl rfl Try.func31 (by kernel_rfl) rfl #[.agg #[.slice A0_0 l0_0.length c0_0, .slice A0_1 l0_1.length c0_1], .slice A1 l1.length c1] rfl (by (try simp only [List.map_toArray, List.map_cons, List.map_nil]); first | done | rfl | (simp only [List.length_drop, List.length_take]; rfl)) ?_; (with_reducible refine (impl_ValidLoads.calls k _ _ l0_0 _ _ l0_1 _ _ l1 true _ ?side1 ?side2 ?side3 ?side4 ?side5 ?side6 A4.out).mono ?_); (case side1 => repeat (first | exact (E HR0_0.out HB.out) | (with_reducible refine X ?_ _) | (with_reducible refine Y ?_ _) | (with_reducible refine Z ?_))); (case side2 => exact HC0_0.out); (case side3 => repeat (first | exact (E HR0_1.out HB.out) | (with_reducible refine X ?_ _) | (with_reducible refine Y ?_ _) | (with_reducible refine Z ?_))); (case side4 => exact HC0_1.out); (case side5 => repeat (first | exact (E HR1.out HB.out) | (with_reducible refine X ?_ _) | (with_reducible refine Y ?_ _) | (with_reducible refine Z ?_))); (case side6 => exact HC1.out); rintro e w31 ⟨rfl, hb⟩; refine ⟨_, rfl, ?_⟩; have n0_ := G (blk_below (g := gb403) (o := .cells #[.slice A0_0 l0_0.length c0_0, .slice A0_1 l0_1.length c0_1] 39 (0, 0)) (by (with_reducible repeat (first | refine M ?_ _ | refine T ?_ | refine O ?_ _)); exact BK403.out) hb); have n1_ := G (D (by repeat (first | (with_reducible first | exact HB.out | apply V | apply L | apply U | refine J ?_ GE403.out) | exact HB.out)) hb); clear BK403; clear HB; have BK403 := n0_; have HB := n1_; clear n0_ n1_; (try clear hb); (try clear hb2); (try clear hk); (try clear hi)) | ((with_reducible refine gate_callee (f := 68) rfl ?_); refine goesL_ (some 16) rfl rfl Try.func68 (by kernel_rfl) rfl #[.int .i64 a2, .int .i64 0, .int .i64 100] rfl (by (try simp only [List.map_toArray, List.map_cons, List.map_nil]); first | done | rfl | (simp only [List.length_drop, List.length_take]; rfl)) ?_; (with_reducible refine (impl_within.calls a2 0 100 false _ A6.out).mono ?_); rintro e w' ⟨rfl, ⟨nd, rfl⟩⟩; refine ⟨_, rfl, ?_⟩))
   go_ret2
   exact ⟨_, by first | rfl | (simp [errW_none, errW_some] <;> rfl) | (simp [*, errW_none, errW_some] <;> rfl), by first | exact Kd.R_nil _ _ _ _ _ | exact Kd.N_nil _ _ _ _ _ | exact Kd.V_nil _ _ _ _ _ | exact Kd.Q_nil _ _ _ _ _ | exact Kd.S_nil _ _ _ _ _, by repeat (first | (with_reducible first | exact HB.out | apply V | apply L | apply U | refine J ?_ GE403.out) | exact HB.out)⟩
 ·replace c5 := Bool.eq_false_iff.mpr c5
  subst c5
  have H1 : (some (([] : List (S97)), 1)) = some (r1, r2) := by rw [if_neg (show ¬ (false = true) by decide)] at H; exact H
  clear H
  have H := H1
  clear H1
  simp only [Option.some.injEq, Prod.mk.injEq] at H
  obtain ⟨rfl, rfl⟩ := H
  go_enter Try.func46, Try.ntmps46
  go_wp2_with (first | ((with_reducible refine gate_dst (N := 3) rfl ?_); refine box_event ?hg (N := 3) ?hd (cs := #[.slice A0_0 l0_0.length c0_0, .slice A0_1 l0_1.length c0_1]) (t := 39) ?hr ?_; (case hd => rfl); (case hg => rfl); (case hr => first | (go_simp; done) | (go_simp; rfl)); intro gb403 hg w32 hbox hb; have n0_ := G (D (by repeat (first | (with_reducible first | exact HB.out | apply V | apply L | apply U) | exact HB.out)) hb); have n1_ := G (hbox); have n2_ := G ((by rw [hg]; exact (B (by repeat (first | (with_reducible first | exact HB.out | apply V | apply L | apply U) | exact HB.out))) : w.heap.size ≤ gb403)); have n3_ := G ((by rw [hg]; exact (B (by repeat (first | (with_reducible first | exact HB.out | apply V | apply L | apply U) | exact HB.out))) : w.heap.size ≤ gb403)); clear HB; have HB := n0_; have BK403 := n1_; have GW403 := n2_; have GE403 := n3_; clear n0_ n1_ n2_ n3_; clear hb hbox hg; have hcz33_0 : w32.cell? ⟨gb403, 0, none⟩ = some (.slice A0_0 l0_0.length c0_0) := (blk_cell BK403.out 0).trans rfl; have hcz33_1 : w32.cell? ⟨gb403, 1, none⟩ = some (.slice A0_1 l0_1.length c0_1) := (blk_cell BK403.out 1).trans rfl; have hfz33_0 := F BK403.out 0; have hfz33_1 := F BK403.out 1) | ((with_reducible refine gate_callee (f := 31) rfl ?_); refine goesL_ (some 13) rfl rfl Try.func31 (by kernel_rfl) rfl #[.agg #[.slice A0_0 l0_0.length c0_0, .slice A0_1 l0_1.length c0_1], .slice A1 l1.length c1] rfl (by (try simp only [List.map_toArray, List.map_cons, List.map_nil]); first | done | rfl | (simp only [List.length_drop, List.length_take]; rfl)) ?_; (with_reducible refine (impl_ValidLoads.calls k _ _ l0_0 _ _ l0_1 _ _ l1 false _ ?side1 ?side2 ?side3 ?side4 ?side5 ?side6 A4.out).mono ?_); (case side1 => repeat (first | exact (E HR0_0.out HB.out) | (with_reducible refine X ?_ _) | (with_reducible refine Y ?_ _) | (with_reducible refine Z ?_))); (case side2 => exact HC0_0.out); (case side3 => repeat (first | exact (E HR0_1.out HB.out) | (with_reducible refine X ?_ _) | (with_reducible refine Y ?_ _) | (with_reducible refine Z ?_))); (case side4 => exact HC0_1.out); (case side5 => repeat (first | exact (E HR1.out HB.out) | (with_reducible refine X ?_ _) | (with_reducible refine Y ?_ _) | (with_reducible refine Z ?_))); (case side6 => exact HC1.out); rintro e w34 ⟨rfl, hb⟩; refine ⟨_, rfl, ?_⟩; have n0_ := G (blk_below (g := gb403) (o := .cells #[.slice A0_0 l0_0.length c0_0, .slice A0_1 l0_1.length c0_1] 39 (0, 0)) (by (with_reducible repeat (first | refine M ?_ _ | refine T ?_ | refine O ?_ _)); exact BK403.out) hb); have n1_ := G (D (by repeat (first | (with_reducible first | exact HB.out | apply V | apply L | apply U | refine J ?_ GE403.out) | exact HB.out)) hb); clear BK403; clear HB; have BK403 := n0_; have HB := n1_; clear n0_ n1_; (try clear hb); (try clear hb2); (try clear hk); (try clear hi)))
  go_ret2
  exact ⟨_, by first | rfl | (simp [errW_none, errW_some] <;> rfl) | (simp [*, errW_none, errW_some] <;> rfl), by first | exact Kd.R_nil _ _ _ _ _ | exact Kd.N_nil _ _ _ _ _ | exact Kd.V_nil _ _ _ _ _ | exact Kd.Q_nil _ _ _ _ _ | exact Kd.S_nil _ _ _ _ _, by repeat (first | (with_reducible first | exact HB.out | apply V | apply L | apply U | refine J ?_ GE403.out) | exact HB.out)⟩

/-! ### laws_markPullS: function 47 -/
def laws_markPullS.l0 : Nat → List (S97) → Int → Int → Option (Int × (List (S97)))
 | 0, _, _, _ => none
 | k + 1, x0, x1, x5 => if x5 < (x0.length : Int) then (if 0 ≤ x5 then ((some (x0.set (x5 : Int).toNat (⟨x1, (rd_T97 x0 x5).f1⟩ : S97) : List (S97))).bind fun y415 => (laws_markPullS.l0 k (y415.set (x5 : Int).toNat (⟨(rd_T97 y415 x5).f0, wrap64 (x1 + 1)⟩ : S97)) (wrap64 ((wrap64 (x1 + 1)) + 1)) (wrap64 (x5 + 1)))) else (none)) else (some (x1, x0))
def laws_markPullS.f (k : Nat) (l0 : List (S97)) (a1 : Int) : Option (Int × (List (S97))) := laws_markPullS.l0 k l0 a1 0
theorem laws_markPullS.mono_l : ∀ k, (∀ y0 y1 y2, LeO (laws_markPullS.l0 k y0 y1 y2) (laws_markPullS.l0 (k + 1) y0 y1 y2))
 | 0 => fun _ _ _ r h => by simp [laws_markPullS.l0] at h
 | k + 1 => by
  have ih0 := laws_markPullS.mono_l k
  ·intro y0 y1 y2
   unfold laws_markPullS.l0
   repeat' first
   | (with_reducible exact ih0 _ _ _)
   | (with_reducible exact LeO.refl _)
   | (with_reducible exact LeO.none _)
   | (with_reducible refine LeO.ite ?_ ?_)
   | (with_reducible refine LeO.bind ?_ (fun _ => ?_))
   | exact ih0 _ _ _
   | exact LeO.none _
   | refine LeO.ite ?_ ?_
   | refine LeO.bind ?_ (fun _ => ?_)
theorem laws_markPullS.mono : ∀ a0 a1 k, LeO (laws_markPullS.f k a0 a1) (laws_markPullS.f (k + 1) a0 a1) := by
 intro a0 a1 k
 have ih0 := laws_markPullS.mono_l k
 unfold laws_markPullS.f
 repeat' first
   | (with_reducible exact ih0 _ _ _)
   | (with_reducible exact LeO.refl _)
   | (with_reducible exact LeO.none _)
   | (with_reducible refine LeO.ite ?_ ?_)
   | (with_reducible refine LeO.bind ?_ (fun _ => ?_))
   | exact ih0 _ _ _
   | exact LeO.none _
   | refine LeO.ite ?_ ?_
   | refine LeO.bind ?_ (fun _ => ?_)
set_option maxHeartbeats 8000000 in
set_option maxRecDepth 100000 in
theorem laws_markPullS.calls (k : Nat) (P0_ : Nat → Prop) (u9000_ : Value) (l0 : List (S97)) (a1 : Int) (r1 : Int) (r2 : List (S97)) (w0 w : World) (hB : Below w0.heap.size w0 w) (ho0 : Kd.R k97 97 w w0.heap.size P0_ u9000_ l0) (h : laws_markPullS.f k l0 a1 = some (r1, r2)) :
  Calls Try.prog 47 #[u9000_, .int .i64 a1] w fun e w' => e = .returned (.int .i64 r1) ∧ Kd.R k97 97 w' w0.heap.size (fun k_ => (P0_ k_ ∨ w.heap.size ≤ k_)) u9000_ r2 ∧ Below w0.heap.size w0 w' ∧ Kept w w' (fun k_ => P0_ k_) := by
 have HO0 := Aside0.mk (show Kd.R k97 97 w w0.heap.size (fun k_ => (P0_ k_ ∨ w.heap.size ≤ k_)) u9000_ l0 from Kd.R_mono ho0 (fun k_ hk => (.inl hk)))
 have HK := Aside0.mk (Kept.refl w (fun k_ => P0_ k_))
 have HW0 := Aside0.mk hB.size
 have HB := Aside0.mk hB
 clear hB
 have H : (laws_markPullS.l0 k l0 a1 0) = some (r1, r2) := h
 clear h
 have H' := Aside0.mk H
 clear H
 go_enter Try.func47, Try.ntmps47
 go_wp2
 go_loopg [1, 5] k (fun kq v1 v5 w' => ∃ (x0_1 : List (S97)) (x1_1 : Int) (x5_1 : Int), v1 = .int .i64 x1_1 ∧ v5 = .int .i64 x5_1 ∧ Aside0 (laws_markPullS.l0 kq x0_1 x1_1 x5_1 = some (r1, r2)) ∧ Aside0 (kq ≤ k) ∧ Aside0 (Kd.R k97 97 w' w0.heap.size (fun k_ => (P0_ k_ ∨ w.heap.size ≤ k_)) u9000_ x0_1) ∧ Aside0 (Kept w w' (fun k_ => P0_ k_)) ∧ Aside0 (Below w0.heap.size w0 w'))
 case atStart => exact ⟨(l0), (a1), (0), (by first | rfl | (simp; done) | (simp [*]; done)), (by first | rfl | (simp; done) | (simp [*]; done)), H', ⟨Nat.le_refl _⟩, ⟨by (with_reducible repeat (first | apply Kd.R_alloc | apply Kd.R_drewN | apply Kd.R_drew)); exact HO0.out⟩, ⟨by repeat (first | (with_reducible first | exact HK.out | apply Kept.alloc | apply Kept.drewN | apply Kept.drew) | exact HK.out)⟩, ⟨by repeat (first | (with_reducible first | exact HB.out | apply below_alloc | apply pw_below_drewN | apply below_drew1) | exact HB.out)⟩⟩
 case round =>
  clear H'
  try clear p2
  obtain ⟨x0_1, x1_1, x5_1, rfl, rfl, HA, HK1, HO_0, HK, HB⟩ := hrel
  cases gk with
  | zero => exact absurd HA.out (by simp [laws_markPullS.l0])
  | succ k1 =>
   have H := HA.out
   clear HA
   simp only [laws_markPullS.l0] at H
   by_cases c3 : x5_1 < (x0_1.length : Int)
   ·rw [if_pos c3] at H
    have c3b0 : decide (x5_1 < (x0_1.length : Int)) = true := decide_eq_true c3
    clear c3
    by_cases c4 : 0 ≤ x5_1
    ·rw [if_pos c4] at H
     have c4b0 : decide (0 ≤ x5_1) = true := decide_eq_true c4
     clear c4
     obtain ⟨y415, hy415⟩ : ∃ y_ : List (S97), y_ = (x0_1.set (x5_1 : Int).toNat (⟨x1_1, (rd_T97 x0_1 x5_1).f1⟩ : S97)) := ⟨_, rfl⟩
     replace H : (laws_markPullS.l0 k1 (y415.set (x5_1 : Int).toNat (⟨(rd_T97 y415 x5_1).f0, wrap64 (x1_1 + 1)⟩ : S97)) (wrap64 ((wrap64 (x1_1 + 1)) + 1)) (wrap64 (x5_1 + 1))) = some (r1, r2) := by first | (rw [hy415]; with_reducible exact H) | (have H2_ := (Option.bind_some _ _).symm.trans H; rw [hy415]; with_reducible exact H2_) | (have H2_ := (Option.bind_some _ _).symm.trans H; with_reducible exact H2_) | with_reducible exact H | (rw [hy415]; exact H) | exact H
     have Ny415 := Aside0.mk hy415
     clear hy415
     obtain ⟨y416, hy416⟩ : ∃ y_ : List (S97), y_ = (y415.set (x5_1 : Int).toNat (⟨(rd_T97 y415 x5_1).f0, wrap64 (x1_1 + 1)⟩ : S97)) := ⟨_, rfl⟩
     replace H : (laws_markPullS.l0 k1 y416 (wrap64 ((wrap64 (x1_1 + 1)) + 1)) (wrap64 (x5_1 + 1))) = some (r1, r2) := by first | (rw [hy416]; with_reducible exact H) | (have H2_ := (Option.bind_some _ _).symm.trans H; rw [hy416]; with_reducible exact H2_) | (have H2_ := (Option.bind_some _ _).symm.trans H; with_reducible exact H2_) | with_reducible exact H | (rw [hy416]; exact H) | exact H
     have Ny416 := Aside0.mk hy416
     clear hy416
     have H' := Aside0.mk H
     clear H
     obtain ⟨Ao7, co7, eo7⟩ := Kd.R_slice HO_0.out
     subst eo7
     have p5 : 0 ≤ (x5_1 : Int) := of_decide_eq_true (by first | (with_reducible assumption) | assumption)
     have q5 : (x5_1 : Int) < ((x0_1.length : Int) : Int) := of_decide_eq_true (by first | (with_reducible assumption) | assumption)
     obtain ⟨go5, co5, eo5, gb5, gl5, cl5, HG5⟩ := Kd.R_form HO_0.out (by omega)
     (first | cases eo5 | (injection eo5 with ea_ en_ ec_; (first | subst ea_ | (injection ea_ with ea_; subst ea_)); subst ec_; clear en_))
     have GB5 := Aside0.mk gb5
     have GG5 := Aside0.mk HG5
     clear gb5 gl5 HG5
     have HMgo5 := Aside0.mk (show (P0_ go5 ∨ w.heap.size ≤ go5) from (HO_0.out.1 _ rfl))
     obtain ⟨ce5, hcl5, hM5, hcc5, hfr5⟩ := Kd.R_elem HO_0.out z97 (x5_1 : Int) p5 q5
     obtain rfl := k97_openM hM5
     have hx5_0 : wr.cell? ⟨go5, (x5_1 : Int).toNat * 2, none⟩ = some (.int .i64 ((rd_T97 x0_1 x5_1).f0)) := hcc5 0 _ rfl
     have hx5_1 : wr.cell? ⟨go5, (x5_1 : Int).toNat * 2 + 1, none⟩ = some (.int .i64 ((rd_T97 x0_1 x5_1).f1)) := hcc5 1 _ rfl
     have hf5_0 : wr.frozen? ⟨go5, (x5_1 : Int).toNat * 2, none⟩ = false := hfr5 0
     have hf5_1 : wr.frozen? ⟨go5, (x5_1 : Int).toNat * 2 + 1, none⟩ = false := hfr5 1
     clear hcl5 hcc5 hfr5 hM5
     replace p5 := eq_true p5
     replace q5 := eq_true q5
     have HX8 := Aside0.mk (show Kd.R k97 97 wr w0.heap.size (fun k_ => (P0_ k_ ∨ w.heap.size ≤ k_)) (.slice (some ⟨go5, 0, none⟩) x0_1.length co7) x0_1 from (by (with_reducible repeat (first | apply Kd.R_alloc | apply Kd.R_drewN | apply Kd.R_drew)); exact HO_0.out))
     obtain ⟨ce8, hcl8, hM8, hcc8, hfr8⟩ := Kd.R_elem HX8.out z97 (x5_1 : Int) (of_decide_eq_true (by first | (with_reducible assumption) | assumption)) (by have h_ : (x5_1 : Int) < ((x0_1.length : Int) : Int) := of_decide_eq_true (by first | (with_reducible assumption) | assumption); first | exact h_ | (have e_ := (Kd.R_reads' HO_0.out).1; omega) | simpa using h_)
     obtain rfl := k97_openM hM8
     have HP8 := Kd.R_seg HX8.out (x5_1 : Int) (of_decide_eq_true (by first | (with_reducible assumption) | assumption)) (by have h_ : (x5_1 : Int) < ((x0_1.length : Int) : Int) := of_decide_eq_true (by first | (with_reducible assumption) | assumption); first | exact h_ | (have e_ := (Kd.R_reads' HO_0.out).1; omega) | simpa using h_) (seg := [.int .i64 x1_1]) (j := 0) hcl8 hcc8 (show 1 ≤ 2 from by decide) (x' := (⟨x1_1, (rd_T97 x0_1 x5_1).f1⟩ : S97)) (k97_mkM _ _ _ (⟨x1_1, (rd_T97 x0_1 x5_1).f1⟩ : S97) ) (fun _ hk => hk)
     have hx8_0 := hcc8 0 _ rfl
     (try simp only [show (k97).sz = 2 from rfl, Nat.mul_one, Nat.add_zero] at hx8_0)
     have hf8_0 := hfr8 0
     (try simp only [show (k97).sz = 2 from rfl, Nat.mul_one, Nat.add_zero] at hf8_0)
     clear hcl8 hcc8 hfr8 hM8
     go_wp2_with (first | ((with_reducible refine gate_store (t := 2) (p := 16) rfl ?_); refine store_event (t := 2) (p := 16) (v := ?vo_w9) (w1 := (wr.setCell ⟨go5, (x5_1 : Int).toNat * 2, none⟩ (.int .i64 x1_1))) ?hg ?ho ?hn ?hr ?_; (case ho => rfl); (case hg => rfl); (case hn => rfl); (case hr => first | (go_simp; done) | (go_simp; rfl)); intro w9 hw; have hg : wr.grownBy w9 (some go5) := (by rw [hw]; exact HP8.2); have hp_ : Kd.R k97 97 w9 w0.heap.size (fun k_ => (P0_ k_ ∨ w.heap.size ≤ k_)) (.slice (some ⟨go5, 0, none⟩) x0_1.length co7) y415 := (by rw [hw, Ny415.out]; exact HP8.1); clear HP8; have n0_ := Aside0.mk (hp_); have n1_ := Aside0.mk ((by rw [hw]; exact below_set (HB.out) GB5.out : Below w0.heap.size w0 w9)); have n2_ := Aside0.mk (Kept.of_grown (S := (fun k_ => P0_ k_)) hg (by repeat (first | (with_reducible first | exact HK.out | apply Kept.alloc | apply Kept.drewN | apply Kept.drew) | exact HK.out)) (fun k_ e_ => (HO_0.out.1 k_ e_))); clear HO_0; clear HB; clear HK; have HO_0 := n0_; have HB := n1_; have HK := n2_; clear n0_ n1_ n2_; clear hg hw hp_; have p6 : 0 ≤ (x5_1 : Int) := of_decide_eq_true (by first | (with_reducible assumption) | assumption); have q6 : (x5_1 : Int) < ((x0_1.length : Int) : Int) := of_decide_eq_true (by first | (with_reducible assumption) | assumption); obtain ⟨ce6, hcl6, hM6, hcc6, hfr6⟩ := Kd.R_elem HO_0.out z97 (x5_1 : Int) p6 q6; obtain rfl := k97_openM hM6; have hx6_0 : w9.cell? ⟨go5, (x5_1 : Int).toNat * 2, none⟩ = some (.int .i64 ((rd_T97 y415 x5_1).f0)) := hcc6 0 _ rfl; have hx6_1 : w9.cell? ⟨go5, (x5_1 : Int).toNat * 2 + 1, none⟩ = some (.int .i64 ((rd_T97 y415 x5_1).f1)) := hcc6 1 _ rfl; have hf6_0 : w9.frozen? ⟨go5, (x5_1 : Int).toNat * 2, none⟩ = false := hfr6 0; have hf6_1 : w9.frozen? ⟨go5, (x5_1 : Int).toNat * 2 + 1, none⟩ = false := hfr6 1; clear hcl6 hcc6 hfr6 hM6; replace p6 := eq_true p6; replace q6 := eq_true q6; have HX10 := Aside0.mk (show Kd.R k97 97 w9 w0.heap.size (fun k_ => (P0_ k_ ∨ w.heap.size ≤ k_)) (.slice (some ⟨go5, 0, none⟩) x0_1.length co7) y415 from (by (with_reducible repeat (first | apply Kd.R_alloc | apply Kd.R_drewN | apply Kd.R_drew)); exact HO_0.out)); obtain ⟨ce10, hcl10, hM10, hcc10, hfr10⟩ := Kd.R_elem HX10.out z97 (x5_1 : Int) (of_decide_eq_true (by first | (with_reducible assumption) | assumption)) (by have h_ : (x5_1 : Int) < ((x0_1.length : Int) : Int) := of_decide_eq_true (by first | (with_reducible assumption) | assumption); first | exact h_ | (have e_ := (Kd.R_reads' HO_0.out).1; omega) | simpa using h_); obtain rfl := k97_openM hM10; have HP10 := Kd.R_seg HX10.out (x5_1 : Int) (of_decide_eq_true (by first | (with_reducible assumption) | assumption)) (by have h_ : (x5_1 : Int) < ((x0_1.length : Int) : Int) := of_decide_eq_true (by first | (with_reducible assumption) | assumption); first | exact h_ | (have e_ := (Kd.R_reads' HO_0.out).1; omega) | simpa using h_) (seg := [.int .i64 (wrap64 (x1_1 + 1))]) (j := 1) hcl10 hcc10 (show 2 ≤ 2 from by decide) (x' := (⟨(rd_T97 y415 x5_1).f0, wrap64 (x1_1 + 1)⟩ : S97)) (k97_mkM _ _ _ (⟨(rd_T97 y415 x5_1).f0, wrap64 (x1_1 + 1)⟩ : S97) ) (fun _ hk => hk); have hx10_1 := hcc10 1 _ rfl; (try simp only [show (k97).sz = 2 from rfl, Nat.mul_one, Nat.add_zero] at hx10_1); have hf10_1 := hfr10 1; (try simp only [show (k97).sz = 2 from rfl, Nat.mul_one, Nat.add_zero] at hf10_1); clear hcl10 hcc10 hfr10 hM10) | ((with_reducible refine gate_store (t := 2) (p := 23) rfl ?_); refine store_event (t := 2) (p := 23) (v := ?vo_w11) (w1 := (w9.setCell ⟨go5, (x5_1 : Int).toNat * 2 + 1, none⟩ (.int .i64 (wrap64 (x1_1 + 1))))) ?hg ?ho ?hn ?hr ?_; (case ho => rfl); (case hg => rfl); (case hn => rfl); (case hr => first | (go_simp; done) | (go_simp; rfl)); intro w11 hw; have hg : w9.grownBy w11 (some go5) := (by rw [hw]; exact HP10.2); have hp_ : Kd.R k97 97 w11 w0.heap.size (fun k_ => (P0_ k_ ∨ w.heap.size ≤ k_)) (.slice (some ⟨go5, 0, none⟩) x0_1.length co7) y416 := (by rw [hw, Ny416.out]; exact HP10.1); clear HP10; have n0_ := Aside0.mk (hp_); have n1_ := Aside0.mk ((by rw [hw]; exact below_set (HB.out) GB5.out : Below w0.heap.size w0 w11)); have n2_ := Aside0.mk (Kept.of_grown (S := (fun k_ => P0_ k_)) hg (by repeat (first | (with_reducible first | exact HK.out | apply Kept.alloc | apply Kept.drewN | apply Kept.drew) | exact HK.out)) (fun k_ e_ => (HO_0.out.1 k_ e_))); clear HO_0; clear HB; clear HK; have HO_0 := n0_; have HB := n1_; have HK := n2_; clear n0_ n1_ n2_; clear hg hw hp_))
     go_roundg k1
     case measure => have := HK1.out; omega
     case rel => exact ⟨(y416), (wrap64 ((wrap64 (x1_1 + 1)) + 1)), (wrap64 (x5_1 + 1)), (by first | rfl | (simp; done) | (simp [*]; done)), (by first | rfl | (simp; done) | (simp [*]; done)), H', ⟨by have := HK1.out; omega⟩, ⟨by (with_reducible repeat (first | apply Kd.R_alloc | apply Kd.R_drewN | apply Kd.R_drew)); exact HO_0.out⟩, ⟨by repeat (first | (with_reducible first | exact HK.out | apply Kept.alloc | apply Kept.drewN | apply Kept.drew) | exact HK.out)⟩, ⟨by repeat (first | (with_reducible first | exact HB.out | apply below_alloc | apply pw_below_drewN | apply below_drew1) | exact HB.out)⟩⟩
    ·rw [if_neg c4] at H
     exact absurd H (by simp)
   ·rw [if_neg c3] at H
    have c3b0 : decide (x5_1 < (x0_1.length : Int)) = false := decide_eq_false c3
    clear c3
    simp only [Option.some.injEq, Prod.mk.injEq] at H
    obtain ⟨rfl, rfl⟩ := H
    obtain ⟨Ao12, co12, eo12⟩ := Kd.R_slice HO_0.out
    subst eo12
    go_wp2
    go_ret
    exact ⟨by first | rfl | (simp [errW_none, errW_some] <;> rfl) | (simp [*, errW_none, errW_some] <;> rfl), by (with_reducible repeat (first | apply Kd.R_alloc | apply Kd.R_drewN | apply Kd.R_drew)); exact HO_0.out, by repeat (first | (with_reducible first | exact HB.out | apply below_alloc | apply pw_below_drewN | apply below_drew1) | exact HB.out), by repeat (first | (with_reducible first | exact HK.out | apply Kept.alloc | apply Kept.drewN | apply Kept.drew) | exact HK.out)⟩

/-! ### laws_heldPullS: function 48 -/
def laws_heldPullS.l0 : Nat → List (S97) → Int → Int → Option (Int)
 | 0, _, _, _ => none
 | k + 1, x0, x1, x5 => if x5 < (x0.length : Int) then (if 0 ≤ x5 then (if ((rd_T97 x0 x5).f0) = x1 then (if ((rd_T97 x0 x5).f1) = (wrap64 (x1 + 1)) then (laws_heldPullS.l0 k x0 (wrap64 ((wrap64 (x1 + 1)) + 1)) (wrap64 (x5 + 1))) else (some (-1))) else (some (-1))) else (none)) else (some x1)
def laws_heldPullS.f (k : Nat) (l0 : List (S97)) (a1 : Int) : Option (Int) := laws_heldPullS.l0 k l0 a1 0
theorem laws_heldPullS.mono_l : ∀ k, (∀ y0 y1 y2, LeO (laws_heldPullS.l0 k y0 y1 y2) (laws_heldPullS.l0 (k + 1) y0 y1 y2))
 | 0 => fun _ _ _ r h => by simp [laws_heldPullS.l0] at h
 | k + 1 => by
  have ih0 := laws_heldPullS.mono_l k
  ·intro y0 y1 y2
   unfold laws_heldPullS.l0
   repeat' first
   | (with_reducible exact ih0 _ _ _)
   | (with_reducible exact LeO.refl _)
   | (with_reducible exact LeO.none _)
   | (with_reducible refine LeO.ite ?_ ?_)
   | (with_reducible refine LeO.bind ?_ (fun _ => ?_))
   | exact ih0 _ _ _
   | exact LeO.none _
   | refine LeO.ite ?_ ?_
   | refine LeO.bind ?_ (fun _ => ?_)
theorem laws_heldPullS.mono : ∀ a0 a1 k, LeO (laws_heldPullS.f k a0 a1) (laws_heldPullS.f (k + 1) a0 a1) := by
 intro a0 a1 k
 have ih0 := laws_heldPullS.mono_l k
 unfold laws_heldPullS.f
 repeat' first
   | (with_reducible exact ih0 _ _ _)
   | (with_reducible exact LeO.refl _)
   | (with_reducible exact LeO.none _)
   | (with_reducible refine LeO.ite ?_ ?_)
   | (with_reducible refine LeO.bind ?_ (fun _ => ?_))
   | exact ih0 _ _ _
   | exact LeO.none _
   | refine LeO.ite ?_ ?_
   | refine LeO.bind ?_ (fun _ => ?_)
set_option maxHeartbeats 8000000 in
set_option maxRecDepth 100000 in
theorem laws_heldPullS.calls (k : Nat) (A0 : Option Addr) (c0 : Nat) (l0 : List (S97)) (a1 : Int) (r : Int) (w : World) (hr0 : Kd.C k97 w A0 l0.length l0) (hc0 : l0.length ≤ c0) (h : laws_heldPullS.f k l0 a1 = some r) :
  Calls Try.prog 48 #[.slice A0 l0.length c0, .int .i64 a1] w fun e w' => e = .returned (.int .i64 r) ∧ Drawn0 w w' := by
 have HR0 := Aside0.mk hr0
 have HC0 := Aside0.mk hc0
 clear hr0 hc0
 have H : (laws_heldPullS.l0 k l0 a1 0) = some r := h
 clear h
 have H' := Aside0.mk H
 clear H
 go_enter Try.func48, Try.ntmps48
 go_wp2
 go_loopg [1, 5] k (fun kq v1 v5 w' => ∃ (x1_1 : Int) (x5_1 : Int), v1 = .int .i64 x1_1 ∧ v5 = .int .i64 x5_1 ∧ Aside0 (laws_heldPullS.l0 kq l0 x1_1 x5_1 = some r) ∧ Aside0 (kq ≤ k) ∧ Drawn0 w w')
 case atStart => exact ⟨(a1), (0), (by first | rfl | (simp; done) | (simp [*]; done)), (by first | rfl | (simp; done) | (simp [*]; done)), H', ⟨Nat.le_refl _⟩, by repeat (first | exact Drawn0.refl _ | apply Drawn0.step)⟩
 case round =>
  clear H'
  try clear p2
  obtain ⟨x1_1, x5_1, rfl, rfl, HA, HK1, ⟨m1, rfl⟩⟩ := hrel
  cases gk with
  | zero => exact absurd HA.out (by simp [laws_heldPullS.l0])
  | succ k1 =>
   have H := HA.out
   clear HA
   simp only [laws_heldPullS.l0] at H
   by_cases c3 : x5_1 < (l0.length : Int)
   ·rw [if_pos c3] at H
    have c3b0 : decide (x5_1 < (l0.length : Int)) = true := decide_eq_true c3
    clear c3
    by_cases c4 : 0 ≤ x5_1
    ·rw [if_pos c4] at H
     have c4b0 : decide (0 ≤ x5_1) = true := decide_eq_true c4
     clear c4
     by_cases c5 : ((rd_T97 l0 x5_1).f0) = x1_1
     ·rw [if_pos c5] at H
      have c5b0 : (((rd_T97 l0 x5_1).f0) == x1_1) = true := beq_iff_eq.mpr c5
      have c5b1 : (((rd_T97 l0 x5_1).f0) != x1_1) = false := bne_eq_false_iff_eq.mpr c5
      clear c5
      by_cases c6 : ((rd_T97 l0 x5_1).f1) = (wrap64 (x1_1 + 1))
      ·rw [if_pos c6] at H
       have c6b0 : (((rd_T97 l0 x5_1).f1) == (wrap64 (x1_1 + 1))) = true := beq_iff_eq.mpr c6
       have c6b1 : (((rd_T97 l0 x5_1).f1) != (wrap64 (x1_1 + 1))) = false := bne_eq_false_iff_eq.mpr c6
       clear c6
       have H' := Aside0.mk H
       clear H
       have p417 : 0 ≤ (x5_1 : Int) := of_decide_eq_true (by first | (with_reducible assumption) | assumption)
       have q417 : x5_1 < (l0.length : Int) := of_decide_eq_true (by first | (with_reducible assumption) | assumption)
       obtain ⟨ad417, e417, hx417_0, hx417_1⟩ := at_T97 HR0.out x5_1 p417 q417
       cases e417
       replace p417 := eq_true p417
       replace q417 := eq_true q417
       have p418 : 0 ≤ (x5_1 : Int) := of_decide_eq_true (by first | (with_reducible assumption) | assumption)
       have q418 : x5_1 < (l0.length : Int) := of_decide_eq_true (by first | (with_reducible assumption) | assumption)
       obtain ⟨ad418, e418, hx418_0, hx418_1⟩ := at_T97 HR0.out x5_1 p418 q418
       obtain rfl : ad417 = ad418 := (by injection e418)
       replace p418 := eq_true p418
       replace q418 := eq_true q418
       go_wp2
       go_roundg k1
       case measure => have := HK1.out; omega
       case rel => exact ⟨(wrap64 ((wrap64 (x1_1 + 1)) + 1)), (wrap64 (x5_1 + 1)), (by first | rfl | (simp; done) | (simp [*]; done)), (by first | rfl | (simp; done) | (simp [*]; done)), H', ⟨by have := HK1.out; omega⟩, by repeat (first | exact Drawn0.refl _ | apply Drawn0.step)⟩
      ·rw [if_neg c6] at H
       have c6b0 : (((rd_T97 l0 x5_1).f1) == (wrap64 (x1_1 + 1))) = false := beq_eq_false_iff_ne.mpr c6
       have c6b1 : (((rd_T97 l0 x5_1).f1) != (wrap64 (x1_1 + 1))) = true := bne_iff_ne.mpr c6
       obtain rfl := Option.some.inj H
       have p417 : 0 ≤ (x5_1 : Int) := of_decide_eq_true (by first | (with_reducible assumption) | assumption)
       have q417 : x5_1 < (l0.length : Int) := of_decide_eq_true (by first | (with_reducible assumption) | assumption)
       obtain ⟨ad417, e417, hx417_0, hx417_1⟩ := at_T97 HR0.out x5_1 p417 q417
       cases e417
       replace p417 := eq_true p417
       replace q417 := eq_true q417
       have p418 : 0 ≤ (x5_1 : Int) := of_decide_eq_true (by first | (with_reducible assumption) | assumption)
       have q418 : x5_1 < (l0.length : Int) := of_decide_eq_true (by first | (with_reducible assumption) | assumption)
       obtain ⟨ad418, e418, hx418_0, hx418_1⟩ := at_T97 HR0.out x5_1 p418 q418
       obtain rfl : ad417 = ad418 := (by injection e418)
       replace p418 := eq_true p418
       replace q418 := eq_true q418
       go_wp2
       go_ret
       exact ⟨by first | rfl | (simp; done) | (simp [*]; done), by repeat (first | exact Drawn0.refl _ | apply Drawn0.step)⟩
     ·rw [if_neg c5] at H
      have c5b0 : (((rd_T97 l0 x5_1).f0) == x1_1) = false := beq_eq_false_iff_ne.mpr c5
      have c5b1 : (((rd_T97 l0 x5_1).f0) != x1_1) = true := bne_iff_ne.mpr c5
      obtain rfl := Option.some.inj H
      have p417 : 0 ≤ (x5_1 : Int) := of_decide_eq_true (by first | (with_reducible assumption) | assumption)
      have q417 : x5_1 < (l0.length : Int) := of_decide_eq_true (by first | (with_reducible assumption) | assumption)
      obtain ⟨ad417, e417, hx417_0, hx417_1⟩ := at_T97 HR0.out x5_1 p417 q417
      cases e417
      replace p417 := eq_true p417
      replace q417 := eq_true q417
      go_wp2
      go_ret
      exact ⟨by first | rfl | (simp; done) | (simp [*]; done), by repeat (first | exact Drawn0.refl _ | apply Drawn0.step)⟩
    ·rw [if_neg c4] at H
     exact absurd H (by simp)
   ·rw [if_neg c3] at H
    have c3b0 : decide (x5_1 < (l0.length : Int)) = false := decide_eq_false c3
    clear c3
    obtain rfl := Option.some.inj H
    go_wp2
    go_ret
    exact ⟨by first | rfl | (simp; done) | (simp [*]; done), by repeat (first | exact Drawn0.refl _ | apply Drawn0.step)⟩

end Go.Proofs.Ytacijlpnpkhjaaa.HFr
