-- Written by a program for this claim (the functions that the statement reaches, and that the program's code comes to them).
import Derived.Test.YtacijlpnpkhjaaaHFrx0
import Derived.Test.YtacijlpnpkhjaaaHFrx7
import Derived.Test.YtacijlpnpkhjaaaHFrx8
import Derived.Test.YtacijlpnpkhjaaaHFrx10
import Derived.Test.YtacijlpnpkhjaaaHFrx16
import Derived.Test.YtacijlpnpkhjaaaHFrx24
namespace Go.Proofs.Ytacijlpnpkhjaaa.HFr
open Go.RowKit Go.Proofs.YtacijlpnpkhjaaaW.PrintWords Go.Proofs.YtacijlpnpkhjaaaW.PrintLast Go.Proofs.YtacijlpnpkhjaaaW.PrintMore
attribute [local go_sem] max2_int min2_int max_two min_two max_three min_three max_four min_four   -- for this text's walks alone
set_option linter.unusedVariables false
set_option linter.unusedSimpArgs false

/-! ### impl_SquareOfTension: function 43 -/
mutual
def impl_SquareOfTension.j0 : Nat → Int → Bool → List (S82) → List (S84) → Int → Int → Option (Int × Int × Int)
 | 0, _, _, _, _, _, _ => none
 | k + 1, x1, x8, x508000, x508001, x509000, x509001 => (impl_within.f x1 0 (wrap64 ((x508001.length : Int) - 1))).bind fun t514 => (if t514 = true then (impl_SquareOfTension.j1 k x1 (!x8) x508000 x508001 x509000 x509001) else (impl_SquareOfTension.j1 k x1 true x508000 x508001 x509000 x509001))
def impl_SquareOfTension.j1 : Nat → Int → Bool → List (S82) → List (S84) → Int → Int → Option (Int × Int × Int)
 | 0, _, _, _, _, _, _ => none
 | k + 1, x1, x39, x508000, x508001, x509000, x509001 => if x39 = true then (some (0, 0, 2)) else ((impl_squareOfBar.f x508000 x508001 x1).bind fun t515 => ((impl_fraction.f k (wrap64 ((wrap64 (t515 * x509000)) * x509000)) (wrap64 (x509001 * x509001))).bind fun bt516 => (some (bt516.1, bt516.2, 0))))
end
def impl_SquareOfTension.f (k : Nat) (l0_0 : List (S82)) (l0_1 : List (S84)) (a1 : Int) (a2_0 : Int) (a2_1 : Int) : Option (Int × Int × Int) := (impl_ValidFrame.f k l0_0 l0_1).bind fun t510 => (if t510 = true then ((impl_within.f a2_0 (-1000000) 1000000).bind fun t511 => (if t511 = true then ((impl_within.f a2_1 1 1000000).bind fun t512 => (if t512 = true then ((impl_gcd.f k a2_0 a2_1).bind fun t513 => (impl_SquareOfTension.j0 k a1 (t513 == 1) l0_0 l0_1 a2_0 a2_1)) else (impl_SquareOfTension.j0 k a1 false l0_0 l0_1 a2_0 a2_1))) else (impl_SquareOfTension.j0 k a1 false l0_0 l0_1 a2_0 a2_1))) else (some (0, 0, 1)))
theorem impl_SquareOfTension.mono_l : ∀ k, (∀ y0 y1 y2 y3 y4 y5, LeO (impl_SquareOfTension.j0 k y0 y1 y2 y3 y4 y5) (impl_SquareOfTension.j0 (k + 1) y0 y1 y2 y3 y4 y5)) ∧ (∀ y0 y1 y2 y3 y4 y5, LeO (impl_SquareOfTension.j1 k y0 y1 y2 y3 y4 y5) (impl_SquareOfTension.j1 (k + 1) y0 y1 y2 y3 y4 y5))
 | 0 => ⟨fun _ _ _ _ _ _ r h => by simp [impl_SquareOfTension.j0] at h, fun _ _ _ _ _ _ r h => by simp [impl_SquareOfTension.j1] at h⟩
 | k + 1 => by
  obtain ⟨ih0, ih1⟩ := impl_SquareOfTension.mono_l k
  refine ⟨?_, ?_⟩
  ·intro y0 y1 y2 y3 y4 y5
   unfold impl_SquareOfTension.j0
   repeat' first
   | (with_reducible exact ih0 _ _ _ _ _ _)
   | (with_reducible exact ih1 _ _ _ _ _ _)
   | (with_reducible exact impl_ValidFrame.mono _ _ _)
   | (with_reducible exact impl_fraction.mono _ _ _)
   | (with_reducible exact impl_gcd.mono _ _ _)
   | (with_reducible exact LeO.refl _)
   | (with_reducible exact LeO.none _)
   | (with_reducible refine LeO.ite ?_ ?_)
   | (with_reducible refine LeO.bind ?_ (fun _ => ?_))
   | exact ih0 _ _ _ _ _ _
   | exact ih1 _ _ _ _ _ _
   | exact impl_ValidFrame.mono _ _ _
   | exact impl_fraction.mono _ _ _
   | exact impl_gcd.mono _ _ _
   | exact LeO.none _
   | refine LeO.ite ?_ ?_
   | refine LeO.bind ?_ (fun _ => ?_)
  ·intro y0 y1 y2 y3 y4 y5
   unfold impl_SquareOfTension.j1
   repeat' first
   | (with_reducible exact ih0 _ _ _ _ _ _)
   | (with_reducible exact ih1 _ _ _ _ _ _)
   | (with_reducible exact impl_ValidFrame.mono _ _ _)
   | (with_reducible exact impl_fraction.mono _ _ _)
   | (with_reducible exact impl_gcd.mono _ _ _)
   | (with_reducible exact LeO.refl _)
   | (with_reducible exact LeO.none _)
   | (with_reducible refine LeO.ite ?_ ?_)
   | (with_reducible refine LeO.bind ?_ (fun _ => ?_))
   | exact ih0 _ _ _ _ _ _
   | exact ih1 _ _ _ _ _ _
   | exact impl_ValidFrame.mono _ _ _
   | exact impl_fraction.mono _ _ _
   | exact impl_gcd.mono _ _ _
   | exact LeO.none _
   | refine LeO.ite ?_ ?_
   | refine LeO.bind ?_ (fun _ => ?_)
theorem impl_SquareOfTension.mono : ∀ a0 a1 a2 a3 a4 k, LeO (impl_SquareOfTension.f k a0 a1 a2 a3 a4) (impl_SquareOfTension.f (k + 1) a0 a1 a2 a3 a4) := by
 intro a0 a1 a2 a3 a4 k
 obtain ⟨ih0, ih1⟩ := impl_SquareOfTension.mono_l k
 unfold impl_SquareOfTension.f
 repeat' first
   | (with_reducible exact ih0 _ _ _ _ _ _)
   | (with_reducible exact ih1 _ _ _ _ _ _)
   | (with_reducible exact impl_ValidFrame.mono _ _ _)
   | (with_reducible exact impl_fraction.mono _ _ _)
   | (with_reducible exact impl_gcd.mono _ _ _)
   | (with_reducible exact LeO.refl _)
   | (with_reducible exact LeO.none _)
   | (with_reducible refine LeO.ite ?_ ?_)
   | (with_reducible refine LeO.bind ?_ (fun _ => ?_))
   | exact ih0 _ _ _ _ _ _
   | exact ih1 _ _ _ _ _ _
   | exact impl_ValidFrame.mono _ _ _
   | exact impl_fraction.mono _ _ _
   | exact impl_gcd.mono _ _ _
   | exact LeO.none _
   | refine LeO.ite ?_ ?_
   | refine LeO.bind ?_ (fun _ => ?_)
def impl_SquareOfTension.T6 : Bool × List (List Nat × List Nat) := (true, [([], []), ([], []), ([0, 1], [0, 1]), ([], []), ([3], [3]), ([2, 4], [2, 4]), ([], []), ([6], [6]), ([5, 7], [5, 7]), ([], []), ([9], [9]), ([], []), ([11], [11]), ([10, 12], [10, 12]), ([8, 13, 2], [8, 13]), ([14, 14, 0, 1, 2, 3, 4, 5, 6, 7, 8, 9, 10, 11, 12, 13, 14], [14]), ([15, 0, 1, 2, 3, 4, 5, 6, 7, 8, 9, 10, 11, 12, 13, 14, 15], [])])
def impl_SquareOfTension.B6 : List Nat := [0, 0, 3, 0, 8, 31, 0, 64, 255, 0, 512, 0, 2048, 7680, 16383, 32767, 65535]
theorem impl_SquareOfTension.tab6 : rtab .any (opsOf Try.f43 6) = impl_SquareOfTension.T6 := by kernel_rfl
theorem impl_SquareOfTension.bits6 : waitsOk impl_SquareOfTension.T6.2 impl_SquareOfTension.B6 = true := by kernel_rfl
@[reducible] def impl_SquareOfTension.y' : Bool := true
@[reducible] def impl_SquareOfTension.n' : Bool := false
theorem impl_SquareOfTension.z1' {α : Type} (l : List α) (i : Nat) (a : α) : l.toArray.setIfInBounds i a = (l.set i a).toArray := List.setIfInBounds_toArray ..
theorem impl_SquareOfTension.z2' {α : Type} (a b : α) (l : List α) : (a :: l).set 0 b = b :: l := rfl
theorem impl_SquareOfTension.z3' {α : Type} (a b : α) (l : List α) (n : Nat) : (a :: l).set (n + 1) b = a :: l.set n b := rfl
theorem impl_SquareOfTension.G : type_of% @Aside0.mk := @Aside0.mk
theorem impl_SquareOfTension.J : type_of% @below_set := @below_set
theorem impl_SquareOfTension.L : type_of% @pw_below_drewN := @pw_below_drewN
theorem impl_SquareOfTension.M : type_of% @blk_drewN := @blk_drewN
theorem impl_SquareOfTension.O : type_of% @blk_alloc := @blk_alloc
theorem impl_SquareOfTension.T : type_of% @blk_drew := @blk_drew
theorem impl_SquareOfTension.U : type_of% @below_drew1 := @below_drew1
theorem impl_SquareOfTension.V : type_of% @below_alloc := @below_alloc
theorem impl_SquareOfTension.X : type_of% @blk_cell := @blk_cell
theorem impl_SquareOfTension.Y : type_of% @blk_below := @blk_below
theorem impl_SquareOfTension.Z : type_of% @below_size := @below_size
theorem impl_SquareOfTension.B : type_of% @blk_frozen := @blk_frozen
set_option maxHeartbeats 8000000 in
set_option maxRecDepth 100000 in
theorem impl_SquareOfTension.calls (k : Nat) (A0_0 : Option Addr) (c0_0 : Nat) (l0_0 : List (S82)) (A0_1 : Option Addr) (c0_1 : Nat) (l0_1 : List (S84)) (a1 : Int) (a2_0 : Int) (a2_1 : Int) (r1 : Int) (r2 : Int) (r3 : Int) (w : World) (hr0_0 : Kd.C k82 w A0_0 l0_0.length l0_0) (hc0_0 : l0_0.length ≤ c0_0) (hr0_1 : Kd.C k84 w A0_1 l0_1.length l0_1) (hc0_1 : l0_1.length ≤ c0_1) (h : impl_SquareOfTension.f k l0_0 l0_1 a1 a2_0 a2_1 = some (r1, r2, r3)) :
  Calls Try.prog 43 #[.agg #[.slice A0_0 l0_0.length c0_0, .slice A0_1 l0_1.length c0_1], .int .i64 a1, .agg #[.int .i64 a2_0, .int .i64 a2_1]] w fun e w' => e = .returned (.tuple #[.agg #[.int .i64 r1, .int .i64 r2], .int .i64 r3]) ∧ Below w.heap.size w w' := by
 have hu39 := Try.underlying39
 have hu63 := Try.underlying63
 have HR0_0 := G hr0_0
 have HC0_0 := G hc0_0
 clear hr0_0 hc0_0
 have HR0_1 := G hr0_1
 have HC0_1 := G hc0_1
 clear hr0_1 hc0_1
 have HB := G (Below.refl w.heap.size w)
 have H : ((impl_ValidFrame.f k l0_0 l0_1).bind fun t510 => (if t510 = true then ((impl_within.f a2_0 (-1000000) 1000000).bind fun t511 => (if t511 = true then ((impl_within.f a2_1 1 1000000).bind fun t512 => (if t512 = true then ((impl_gcd.f k a2_0 a2_1).bind fun t513 => (impl_SquareOfTension.j0 k a1 (t513 == 1) l0_0 l0_1 a2_0 a2_1)) else (impl_SquareOfTension.j0 k a1 false l0_0 l0_1 a2_0 a2_1))) else (impl_SquareOfTension.j0 k a1 false l0_0 l0_1 a2_0 a2_1))) else (some (0, 0, 1)))) = some (r1, r2, r3) := h
 clear h
 replace H := Option.bind_eq_some_iff.mp H
 obtain ⟨t510, A40, H⟩ := H
 replace H : (if t510 = true then ((impl_within.f a2_0 (-1000000) 1000000).bind fun t511 => (if t511 = true then ((impl_within.f a2_1 1 1000000).bind fun t512 => (if t512 = true then ((impl_gcd.f k a2_0 a2_1).bind fun t513 => (impl_SquareOfTension.j0 k a1 (t513 == 1) l0_0 l0_1 a2_0 a2_1)) else (impl_SquareOfTension.j0 k a1 false l0_0 l0_1 a2_0 a2_1))) else (impl_SquareOfTension.j0 k a1 false l0_0 l0_1 a2_0 a2_1))) else (some (0, 0, 1))) = some (r1, r2, r3) := H
 have A4 := G A40
 clear A40
 by_cases c5 : t510 = true
 ·subst c5
  have H1 : ((impl_within.f a2_0 (-1000000) 1000000).bind fun t511 => (if t511 = true then ((impl_within.f a2_1 1 1000000).bind fun t512 => (if t512 = true then ((impl_gcd.f k a2_0 a2_1).bind fun t513 => (impl_SquareOfTension.j0 k a1 (t513 == 1) l0_0 l0_1 a2_0 a2_1)) else (impl_SquareOfTension.j0 k a1 false l0_0 l0_1 a2_0 a2_1))) else (impl_SquareOfTension.j0 k a1 false l0_0 l0_1 a2_0 a2_1))) = some (r1, r2, r3) := by rw [if_pos rfl] at H; exact H
  clear H
  have H := H1
  clear H1
  have HC6 := G H
  clear H
  go_enter Try.func43, Try.ntmps43
  go_upto_region 3 with (first | ((with_reducible refine gate_dst (N := 3) rfl ?_); refine box_event ?hg (N := 3) ?hd (cs := #[.slice A0_0 l0_0.length c0_0, .slice A0_1 l0_1.length c0_1]) (t := 39) ?hr ?_; (case hd => rfl); (case hg => rfl); (case hr => first | (go_simp; done) | (go_simp; rfl)); intro gb507 hg w7 hbox hb; have n0_ := G (below_step (by repeat (first | (with_reducible first | exact HB.out | apply V | apply L | apply U) | exact HB.out)) hb); have n1_ := G (hbox); have n2_ := G ((by rw [hg]; exact (Z (by repeat (first | (with_reducible first | exact HB.out | apply V | apply L | apply U) | exact HB.out))) : w.heap.size ≤ gb507)); have n3_ := G ((by rw [hg]; exact (Z (by repeat (first | (with_reducible first | exact HB.out | apply V | apply L | apply U) | exact HB.out))) : w.heap.size ≤ gb507)); clear HB; have HB := n0_; have BK507 := n1_; have GW507 := n2_; have GE507 := n3_; clear n0_ n1_ n2_ n3_; clear hb hbox hg) | ((with_reducible refine gate_dst (N := 5) rfl ?_); refine box_event ?hg (N := 5) ?hd (cs := #[.int .i64 a2_0, .int .i64 a2_1]) (t := 63) ?hr ?_; (case hd => rfl); (case hg => rfl); (case hr => first | (go_simp; done) | (go_simp; rfl)); intro gb508 hg w8 hbox hb; have n0_ := G (Y (g := gb507) (o := .cells #[.slice A0_0 l0_0.length c0_0, .slice A0_1 l0_1.length c0_1] 39 (0, 0)) (by (with_reducible repeat (first | refine M ?_ _ | refine T ?_ | refine O ?_ _)); exact BK507.out) hb); have n1_ := G (below_step (by repeat (first | (with_reducible first | exact HB.out | apply V | apply L | apply U | refine J ?_ GE507.out) | exact HB.out)) hb); have n2_ := G (hbox); have n3_ := G ((by rw [hg]; exact (Z (by repeat (first | (with_reducible first | exact HB.out | apply V | apply L | apply U | refine J ?_ GE507.out) | exact HB.out))) : w.heap.size ≤ gb508)); have n4_ := G ((by rw [hg]; exact (Z (by repeat (first | (with_reducible first | exact HB.out | apply V | apply L | apply U | refine J ?_ GE507.out) | exact HB.out))) : w.heap.size ≤ gb508)); have n5_ := G ((by rw [hg]; exact Nat.ne_of_lt (blk_lt (g := gb507) (o := .cells #[.slice A0_0 l0_0.length c0_0, .slice A0_1 l0_1.length c0_1] 39 (0, 0)) (by (with_reducible repeat (first | refine M ?_ _ | refine T ?_ | refine O ?_ _)); exact BK507.out)) : gb507 ≠ gb508)); have n6_ := G ((by rw [hg]; exact Nat.ne_of_gt (blk_lt (g := gb507) (o := .cells #[.slice A0_0 l0_0.length c0_0, .slice A0_1 l0_1.length c0_1] 39 (0, 0)) (by (with_reducible repeat (first | refine M ?_ _ | refine T ?_ | refine O ?_ _)); exact BK507.out)) : gb508 ≠ gb507)); clear BK507; clear HB; have BK507 := n0_; have HB := n1_; have BK508 := n2_; have GW508 := n3_; have GE508 := n4_; have NB507_508 := n5_; have NB508_507 := n6_; clear n0_ n1_ n2_ n3_ n4_ n5_ n6_; clear hb hbox hg) | ((with_reducible refine gate_dst (N := 6) rfl ?_); refine box_event ?hg (N := 6) ?hd (cs := #[.int .i64 0, .int .i64 0]) (t := 63) ?hr ?_; (case hd => rfl); (case hg => rfl); (case hr => first | (go_simp; done) | (go_simp; rfl)); intro gb509 hg w9 hbox hb; have n0_ := G (Y (g := gb507) (o := .cells #[.slice A0_0 l0_0.length c0_0, .slice A0_1 l0_1.length c0_1] 39 (0, 0)) (by (with_reducible repeat (first | refine M ?_ _ | refine T ?_ | refine O ?_ _)); exact BK507.out) hb); have n1_ := G (Y (g := gb508) (o := .cells #[.int .i64 a2_0, .int .i64 a2_1] 63 (0, 0)) (by (with_reducible repeat (first | refine M ?_ _ | refine T ?_ | refine O ?_ _)); exact BK508.out) hb); have n2_ := G (below_step (by repeat (first | (with_reducible first | exact HB.out | apply V | apply L | apply U | refine J ?_ GE507.out | refine J ?_ GE508.out) | exact HB.out)) hb); have n3_ := G (hbox); have n4_ := G ((by rw [hg]; exact (Z (by repeat (first | (with_reducible first | exact HB.out | apply V | apply L | apply U | refine J ?_ GE507.out | refine J ?_ GE508.out) | exact HB.out))) : w.heap.size ≤ gb509)); have n5_ := G ((by rw [hg]; exact (Z (by repeat (first | (with_reducible first | exact HB.out | apply V | apply L | apply U | refine J ?_ GE507.out | refine J ?_ GE508.out) | exact HB.out))) : w.heap.size ≤ gb509)); have n6_ := G ((by rw [hg]; exact Nat.ne_of_lt (blk_lt (g := gb507) (o := .cells #[.slice A0_0 l0_0.length c0_0, .slice A0_1 l0_1.length c0_1] 39 (0, 0)) (by (with_reducible repeat (first | refine M ?_ _ | refine T ?_ | refine O ?_ _)); exact BK507.out)) : gb507 ≠ gb509)); have n7_ := G ((by rw [hg]; exact Nat.ne_of_gt (blk_lt (g := gb507) (o := .cells #[.slice A0_0 l0_0.length c0_0, .slice A0_1 l0_1.length c0_1] 39 (0, 0)) (by (with_reducible repeat (first | refine M ?_ _ | refine T ?_ | refine O ?_ _)); exact BK507.out)) : gb509 ≠ gb507)); have n8_ := G ((by rw [hg]; exact Nat.ne_of_lt (blk_lt (g := gb508) (o := .cells #[.int .i64 a2_0, .int .i64 a2_1] 63 (0, 0)) (by (with_reducible repeat (first | refine M ?_ _ | refine T ?_ | refine O ?_ _)); exact BK508.out)) : gb508 ≠ gb509)); have n9_ := G ((by rw [hg]; exact Nat.ne_of_gt (blk_lt (g := gb508) (o := .cells #[.int .i64 a2_0, .int .i64 a2_1] 63 (0, 0)) (by (with_reducible repeat (first | refine M ?_ _ | refine T ?_ | refine O ?_ _)); exact BK508.out)) : gb509 ≠ gb508)); clear BK507; clear BK508; clear HB; have BK507 := n0_; have BK508 := n1_; have HB := n2_; have BK509 := n3_; have GW509 := n4_; have GE509 := n5_; have NB507_509 := n6_; have NB509_507 := n7_; have NB508_509 := n8_; have NB509_508 := n9_; clear n0_ n1_ n2_ n3_ n4_ n5_ n6_ n7_ n8_ n9_; clear hb hbox hg; have hnb10 := NB507_508.out; have hnc10 := NB508_507.out; have hnb11 := NB507_509.out; have hnc11 := NB509_507.out; have hcz12_0 : w9.cell? ⟨gb507, 0, none⟩ = some (.slice A0_0 l0_0.length c0_0) := (X BK507.out 0).trans rfl; have hcz12_1 : w9.cell? ⟨gb507, 1, none⟩ = some (.slice A0_1 l0_1.length c0_1) := (X BK507.out 1).trans rfl; have hfz12_0 := B BK507.out 0; have hfz12_1 := B BK507.out 1) | ((with_reducible refine gate_callee (f := 25) rfl ?_); refine goesL_ (some 10) rfl rfl Try.func25 (by kernel_rfl) rfl #[.agg #[.slice A0_0 l0_0.length c0_0, .slice A0_1 l0_1.length c0_1]] rfl (by (try simp only [List.map_toArray, List.map_cons, List.map_nil]); first | done | rfl | (simp only [List.length_drop, List.length_take]; rfl)) ?_; (with_reducible refine (impl_ValidFrame.calls k _ _ l0_0 _ _ l0_1 true _ ?side1 ?side2 ?side3 ?side4 A4.out).mono ?_); (case side1 => repeat (first | exact (Kd.C_below HR0_0.out HB.out) | (with_reducible refine Kd.C_alloc ?_ _) | (with_reducible refine Kd.C_drewN ?_ _) | (with_reducible refine Kd.C_drew ?_))); (case side2 => exact HC0_0.out); (case side3 => repeat (first | exact (Kd.C_below HR0_1.out HB.out) | (with_reducible refine Kd.C_alloc ?_ _) | (with_reducible refine Kd.C_drewN ?_ _) | (with_reducible refine Kd.C_drew ?_))); (case side4 => exact HC0_1.out); rintro e w13 ⟨rfl, hb⟩; refine ⟨_, rfl, ?_⟩; have n0_ := G (Y (g := gb507) (o := .cells #[.slice A0_0 l0_0.length c0_0, .slice A0_1 l0_1.length c0_1] 39 (0, 0)) (by (with_reducible repeat (first | refine M ?_ _ | refine T ?_ | refine O ?_ _)); exact BK507.out) hb); have n1_ := G (Y (g := gb508) (o := .cells #[.int .i64 a2_0, .int .i64 a2_1] 63 (0, 0)) (by (with_reducible repeat (first | refine M ?_ _ | refine T ?_ | refine O ?_ _)); exact BK508.out) hb); have n2_ := G (Y (g := gb509) (o := .cells #[.int .i64 0, .int .i64 0] 63 (0, 0)) (by (with_reducible repeat (first | refine M ?_ _ | refine T ?_ | refine O ?_ _)); exact BK509.out) hb); have n3_ := G (below_step (by repeat (first | (with_reducible first | exact HB.out | apply V | apply L | apply U | refine J ?_ GE507.out | refine J ?_ GE508.out | refine J ?_ GE509.out) | exact HB.out)) hb); clear BK507; clear BK508; clear BK509; clear HB; have BK507 := n0_; have BK508 := n1_; have BK509 := n2_; have HB := n3_; clear n0_ n1_ n2_ n3_; (try clear hb); (try clear hb2); (try clear hk); (try clear hi)))
  (try simp only [Act.put, List.setIfInBounds_toArray, List.set_cons_zero, List.set_cons_succ])
  go_cut [8] (fun v8 wc => ∃ (kq : Nat) (x8_5 : Bool), v8 = .bool x8_5 ∧ Aside0 (impl_SquareOfTension.j0 kq a1 x8_5 l0_0 l0_1 a2_0 a2_1 = some (r1, r2, r3)) ∧ Aside0 (kq ≤ k) ∧ Aside0 (wc.heap[gb507]? = some (.cells #[(.slice A0_0 l0_0.length c0_0), (.slice A0_1 l0_1.length c0_1)] 39 (0, 0))) ∧ Aside0 (wc.heap[gb508]? = some (.cells #[.int .i64 a2_0, .int .i64 a2_1] 63 (0, 0))) ∧ Aside0 (wc.heap[gb509]? = some (.cells #[.int .i64 0, .int .i64 0] 63 (0, 0))) ∧ Aside0 (Below w.heap.size w wc))
  case first =>
   have H := HC6.out
   clear HC6
   replace H := Option.bind_eq_some_iff.mp H
   obtain ⟨t511, A140, H⟩ := H
   replace H : (if t511 = true then ((impl_within.f a2_1 1 1000000).bind fun t512 => (if t512 = true then ((impl_gcd.f k a2_0 a2_1).bind fun t513 => (impl_SquareOfTension.j0 k a1 (t513 == 1) l0_0 l0_1 a2_0 a2_1)) else (impl_SquareOfTension.j0 k a1 false l0_0 l0_1 a2_0 a2_1))) else (impl_SquareOfTension.j0 k a1 false l0_0 l0_1 a2_0 a2_1)) = some (r1, r2, r3) := H
   have A14 := G A140
   clear A140
   by_cases c15 : t511 = true
   ·subst c15
    have H1 : ((impl_within.f a2_1 1 1000000).bind fun t512 => (if t512 = true then ((impl_gcd.f k a2_0 a2_1).bind fun t513 => (impl_SquareOfTension.j0 k a1 (t513 == 1) l0_0 l0_1 a2_0 a2_1)) else (impl_SquareOfTension.j0 k a1 false l0_0 l0_1 a2_0 a2_1))) = some (r1, r2, r3) := by rw [if_pos rfl] at H; exact H
    clear H
    have H := H1
    clear H1
    replace H := Option.bind_eq_some_iff.mp H
    obtain ⟨t512, A160, H⟩ := H
    replace H : (if t512 = true then ((impl_gcd.f k a2_0 a2_1).bind fun t513 => (impl_SquareOfTension.j0 k a1 (t513 == 1) l0_0 l0_1 a2_0 a2_1)) else (impl_SquareOfTension.j0 k a1 false l0_0 l0_1 a2_0 a2_1)) = some (r1, r2, r3) := H
    have A16 := G A160
    clear A160
    by_cases c17 : t512 = true
    ·subst c17
     have H1 : ((impl_gcd.f k a2_0 a2_1).bind fun t513 => (impl_SquareOfTension.j0 k a1 (t513 == 1) l0_0 l0_1 a2_0 a2_1)) = some (r1, r2, r3) := by rw [if_pos rfl] at H; exact H
     clear H
     have H := H1
     clear H1
     replace H := Option.bind_eq_some_iff.mp H
     obtain ⟨t513, A180, H⟩ := H
     replace H : (impl_SquareOfTension.j0 k a1 (t513 == 1) l0_0 l0_1 a2_0 a2_1) = some (r1, r2, r3) := H
     have A18 := G A180
     clear A180
     have H' := G H
     clear H
     have hnb19 := NB508_507.out
     have hnc19 := NB507_508.out
     have hnb20 := NB508_509.out
     have hnc20 := NB509_508.out
     have hcz21_0 : w13.cell? ⟨gb508, 0, none⟩ = some (.int .i64 a2_0) := (X BK508.out 0).trans rfl
     have hcz21_1 : w13.cell? ⟨gb508, 1, none⟩ = some (.int .i64 a2_1) := (X BK508.out 1).trans rfl
     have hfz21_0 := B BK508.out 0
     have hfz21_1 := B BK508.out 1
     go_wp2_with (first | ((with_reducible refine gate_callee (f := 68) rfl ?_); refine goesL_ (some 15) rfl rfl Try.func68 (by kernel_rfl) rfl #[.int .i64 a2_0, .int .i64 (-1000000), .int .i64 1000000] rfl (by (try simp only [List.map_toArray, List.map_cons, List.map_nil]); first | done | rfl | (simp only [List.length_drop, List.length_take]; rfl)) ?_; (with_reducible refine (impl_within.calls a2_0 (-1000000) 1000000 true _ A14.out).mono ?_); rintro e w' ⟨rfl, ⟨nd, rfl⟩⟩; refine ⟨_, rfl, ?_⟩) | (go_at_call 68; (with_reducible refine (impl_within.calls a2_1 1 1000000 true _ A16.out).mono ?_); rintro e w' ⟨rfl, ⟨nd, rfl⟩⟩) | (go_at_call 78; (with_reducible refine (impl_gcd.calls k a2_0 a2_1 t513 _ A18.out).mono ?_); rintro e w' ⟨rfl, ⟨nd, rfl⟩⟩))
     go_meet
     case rel => exact ⟨_, ((t513 == 1)), (by first | rfl | (simp; done) | (simp [*]; done)), H', ⟨by first | omega | exact Nat.le_refl _⟩, ⟨by (with_reducible repeat (first | refine M ?_ _ | refine T ?_ | refine O ?_ _)); exact BK507.out⟩, ⟨by (with_reducible repeat (first | refine M ?_ _ | refine T ?_ | refine O ?_ _)); exact BK508.out⟩, ⟨by (with_reducible repeat (first | refine M ?_ _ | refine T ?_ | refine O ?_ _)); exact BK509.out⟩, ⟨by repeat (first | (with_reducible first | exact HB.out | apply V | apply L | apply U | refine J ?_ GE507.out | refine J ?_ GE508.out | refine J ?_ GE509.out) | exact HB.out)⟩⟩
    ·replace c17 := Bool.eq_false_iff.mpr c17
     subst c17
     have H1 : (impl_SquareOfTension.j0 k a1 false l0_0 l0_1 a2_0 a2_1) = some (r1, r2, r3) := by rw [if_neg (show ¬ (false = true) by decide)] at H; exact H
     clear H
     have H := H1
     clear H1
     have H' := G H
     clear H
     have hnb22 := NB508_507.out
     have hnc22 := NB507_508.out
     have hnb23 := NB508_509.out
     have hnc23 := NB509_508.out
     have hcz24_0 : w13.cell? ⟨gb508, 0, none⟩ = some (.int .i64 a2_0) := (X BK508.out 0).trans rfl
     have hcz24_1 : w13.cell? ⟨gb508, 1, none⟩ = some (.int .i64 a2_1) := (X BK508.out 1).trans rfl
     have hfz24_0 := B BK508.out 0
     have hfz24_1 := B BK508.out 1
     go_wp2_with (first | ((with_reducible refine gate_callee (f := 68) rfl ?_); refine goesL_ (some 15) rfl rfl Try.func68 (by kernel_rfl) rfl #[.int .i64 a2_0, .int .i64 (-1000000), .int .i64 1000000] rfl (by (try simp only [List.map_toArray, List.map_cons, List.map_nil]); first | done | rfl | (simp only [List.length_drop, List.length_take]; rfl)) ?_; (with_reducible refine (impl_within.calls a2_0 (-1000000) 1000000 true _ A14.out).mono ?_); rintro e w' ⟨rfl, ⟨nd, rfl⟩⟩; refine ⟨_, rfl, ?_⟩) | (go_at_call 68; (with_reducible refine (impl_within.calls a2_1 1 1000000 false _ A16.out).mono ?_); rintro e w' ⟨rfl, ⟨nd, rfl⟩⟩))
     go_meet
     case rel => exact ⟨_, (false), (by first | rfl | (simp; done) | (simp [*]; done)), H', ⟨by first | omega | exact Nat.le_refl _⟩, ⟨by (with_reducible repeat (first | refine M ?_ _ | refine T ?_ | refine O ?_ _)); exact BK507.out⟩, ⟨by (with_reducible repeat (first | refine M ?_ _ | refine T ?_ | refine O ?_ _)); exact BK508.out⟩, ⟨by (with_reducible repeat (first | refine M ?_ _ | refine T ?_ | refine O ?_ _)); exact BK509.out⟩, ⟨by repeat (first | (with_reducible first | exact HB.out | apply V | apply L | apply U | refine J ?_ GE507.out | refine J ?_ GE508.out | refine J ?_ GE509.out) | exact HB.out)⟩⟩
   ·replace c15 := Bool.eq_false_iff.mpr c15
    subst c15
    have H1 : (impl_SquareOfTension.j0 k a1 false l0_0 l0_1 a2_0 a2_1) = some (r1, r2, r3) := by rw [if_neg (show ¬ (false = true) by decide)] at H; exact H
    clear H
    have H := H1
    clear H1
    have H' := G H
    clear H
    have hnb25 := NB508_507.out
    have hnc25 := NB507_508.out
    have hnb26 := NB508_509.out
    have hnc26 := NB509_508.out
    have hcz27_0 : w13.cell? ⟨gb508, 0, none⟩ = some (.int .i64 a2_0) := (X BK508.out 0).trans rfl
    have hcz27_1 : w13.cell? ⟨gb508, 1, none⟩ = some (.int .i64 a2_1) := (X BK508.out 1).trans rfl
    have hfz27_0 := B BK508.out 0
    have hfz27_1 := B BK508.out 1
    go_wp2_with (first | ((with_reducible refine gate_callee (f := 68) rfl ?_); refine goesL_ (some 15) rfl rfl Try.func68 (by kernel_rfl) rfl #[.int .i64 a2_0, .int .i64 (-1000000), .int .i64 1000000] rfl (by (try simp only [List.map_toArray, List.map_cons, List.map_nil]); first | done | rfl | (simp only [List.length_drop, List.length_take]; rfl)) ?_; (with_reducible refine (impl_within.calls a2_0 (-1000000) 1000000 false _ A14.out).mono ?_); rintro e w' ⟨rfl, ⟨nd, rfl⟩⟩; refine ⟨_, rfl, ?_⟩))
    go_meet
    case rel => exact ⟨_, (false), (by first | rfl | (simp; done) | (simp [*]; done)), H', ⟨by first | omega | exact Nat.le_refl _⟩, ⟨by (with_reducible repeat (first | refine M ?_ _ | refine T ?_ | refine O ?_ _)); exact BK507.out⟩, ⟨by (with_reducible repeat (first | refine M ?_ _ | refine T ?_ | refine O ?_ _)); exact BK508.out⟩, ⟨by (with_reducible repeat (first | refine M ?_ _ | refine T ?_ | refine O ?_ _)); exact BK509.out⟩, ⟨by repeat (first | (with_reducible first | exact HB.out | apply V | apply L | apply U | refine J ?_ GE507.out | refine J ?_ GE508.out | refine J ?_ GE509.out) | exact HB.out)⟩⟩
  case rest =>
   clear HC6
   try clear c1
   try clear c2
   try clear p2
   try clear c4
   try clear c5
   try clear c6
   try clear c10
   try clear c11
   try clear c15
   try clear c17
   try clear c19
   try clear c20
   try clear c22
   try clear c23
   try clear c25
   try clear c26
   try clear hcz12_0
   try clear hcz12_1
   try clear hcz21_0
   try clear hcz21_1
   try clear hcz24_0
   try clear hcz24_1
   try clear hcz27_0
   try clear hcz27_1
   try clear hfz12_0
   try clear hfz12_1
   try clear hfz21_0
   try clear hfz21_1
   try clear hfz24_0
   try clear hfz24_1
   try clear hfz27_0
   try clear hfz27_1
   obtain ⟨kq, x8_5, rfl, HA, HJ5, BK507, BK508, BK509, HB⟩ := hcut
   cases kq with
   | zero => exact absurd HA.out (by simp [impl_SquareOfTension.j0])
   | succ kj5 =>
    have H := HA.out
    clear HA
    simp only [impl_SquareOfTension.j0] at H
    have HC28 := G H
    clear H
    go_upto_region 4 with (fail)
    go_cut [39] (fun v39 wc => ∃ (kq : Nat) (x39_27 : Bool), v39 = .bool x39_27 ∧ Aside0 (impl_SquareOfTension.j1 kq a1 x39_27 l0_0 l0_1 a2_0 a2_1 = some (r1, r2, r3)) ∧ Aside0 (kq ≤ kj5) ∧ Aside0 (wc.heap[gb507]? = some (.cells #[(.slice A0_0 l0_0.length c0_0), (.slice A0_1 l0_1.length c0_1)] 39 (0, 0))) ∧ Aside0 (wc.heap[gb508]? = some (.cells #[.int .i64 a2_0, .int .i64 a2_1] 63 (0, 0))) ∧ Aside0 (wc.heap[gb509]? = some (.cells #[.int .i64 0, .int .i64 0] 63 (0, 0))) ∧ Aside0 (Below w.heap.size w wc))
    case first =>
     have H := HC28.out
     clear HC28
     replace H := Option.bind_eq_some_iff.mp H
     obtain ⟨t514, A290, H⟩ := H
     replace H : (if t514 = true then (impl_SquareOfTension.j1 kj5 a1 (!x8_5) l0_0 l0_1 a2_0 a2_1) else (impl_SquareOfTension.j1 kj5 a1 true l0_0 l0_1 a2_0 a2_1)) = some (r1, r2, r3) := H
     have A29 := G A290
     clear A290
     by_cases c30 : t514 = true
     ·subst c30
      have H1 : (impl_SquareOfTension.j1 kj5 a1 (!x8_5) l0_0 l0_1 a2_0 a2_1) = some (r1, r2, r3) := by rw [if_pos rfl] at H; exact H
      clear H
      have H := H1
      clear H1
      have H' := G H
      clear H
      have hnb31 := NB507_508.out
      have hnc31 := NB508_507.out
      have hnb32 := NB507_509.out
      have hnc32 := NB509_507.out
      have hcz33_0 : wc.cell? ⟨gb507, 0, none⟩ = some (.slice A0_0 l0_0.length c0_0) := (X BK507.out 0).trans rfl
      have hcz33_1 : wc.cell? ⟨gb507, 1, none⟩ = some (.slice A0_1 l0_1.length c0_1) := (X BK507.out 1).trans rfl
      have hfz33_0 := B BK507.out 0
      have hfz33_1 := B BK507.out 1
      go_wp2_with (first | ((with_reducible refine gate_callee (f := 68) rfl ?_); refine goesL_ (some 34) rfl rfl Try.func68 (by kernel_rfl) rfl #[.int .i64 a1, .int .i64 0, .int .i64 (wrap64 ((l0_1.length : Int) - 1))] rfl (by (try simp only [List.map_toArray, List.map_cons, List.map_nil]); first | done | rfl | (simp only [List.length_drop, List.length_take]; rfl)) ?_; (with_reducible refine (impl_within.calls a1 0 (wrap64 ((l0_1.length : Int) - 1)) true _ A29.out).mono ?_); rintro e w' ⟨rfl, ⟨nd, rfl⟩⟩; refine ⟨_, rfl, ?_⟩))
      go_meet
      case rel => exact ⟨_, (!x8_5), (by first | rfl | (simp; done) | (simp [*]; done)), H', ⟨by have := HJ5.out; first | omega | exact Nat.le_refl _⟩, ⟨by (with_reducible repeat (first | refine M ?_ _ | refine T ?_ | refine O ?_ _)); exact BK507.out⟩, ⟨by (with_reducible repeat (first | refine M ?_ _ | refine T ?_ | refine O ?_ _)); exact BK508.out⟩, ⟨by (with_reducible repeat (first | refine M ?_ _ | refine T ?_ | refine O ?_ _)); exact BK509.out⟩, ⟨by repeat (first | (with_reducible first | exact HB.out | apply V | apply L | apply U | refine J ?_ GE507.out | refine J ?_ GE508.out | refine J ?_ GE509.out) | exact HB.out)⟩⟩
     ·replace c30 := Bool.eq_false_iff.mpr c30
      subst c30
      have H1 : (impl_SquareOfTension.j1 kj5 a1 true l0_0 l0_1 a2_0 a2_1) = some (r1, r2, r3) := by rw [if_neg (show ¬ (false = true) by decide)] at H; exact H
      clear H
      have H := H1
      clear H1
      have H' := G H
      clear H
      have hnb34 := NB507_508.out
      have hnc34 := NB508_507.out
      have hnb35 := NB507_509.out
      have hnc35 := NB509_507.out
      have hcz36_0 : wc.cell? ⟨gb507, 0, none⟩ = some (.slice A0_0 l0_0.length c0_0) := (X BK507.out 0).trans rfl
      have hcz36_1 : wc.cell? ⟨gb507, 1, none⟩ = some (.slice A0_1 l0_1.length c0_1) := (X BK507.out 1).trans rfl
      have hfz36_0 := B BK507.out 0
      have hfz36_1 := B BK507.out 1
      go_wp2_with (first | ((with_reducible refine gate_callee (f := 68) rfl ?_); refine goesL_ (some 34) rfl rfl Try.func68 (by kernel_rfl) rfl #[.int .i64 a1, .int .i64 0, .int .i64 (wrap64 ((l0_1.length : Int) - 1))] rfl (by (try simp only [List.map_toArray, List.map_cons, List.map_nil]); first | done | rfl | (simp only [List.length_drop, List.length_take]; rfl)) ?_; (with_reducible refine (impl_within.calls a1 0 (wrap64 ((l0_1.length : Int) - 1)) false _ A29.out).mono ?_); rintro e w' ⟨rfl, ⟨nd, rfl⟩⟩; refine ⟨_, rfl, ?_⟩))
      go_meet
      case rel => exact ⟨_, (true), (by first | rfl | (simp; done) | (simp [*]; done)), H', ⟨by have := HJ5.out; first | omega | exact Nat.le_refl _⟩, ⟨by (with_reducible repeat (first | refine M ?_ _ | refine T ?_ | refine O ?_ _)); exact BK507.out⟩, ⟨by (with_reducible repeat (first | refine M ?_ _ | refine T ?_ | refine O ?_ _)); exact BK508.out⟩, ⟨by (with_reducible repeat (first | refine M ?_ _ | refine T ?_ | refine O ?_ _)); exact BK509.out⟩, ⟨by repeat (first | (with_reducible first | exact HB.out | apply V | apply L | apply U | refine J ?_ GE507.out | refine J ?_ GE508.out | refine J ?_ GE509.out) | exact HB.out)⟩⟩
    case rest =>
     clear HC28
     try clear c1
     try clear c2
     try clear p2
     try clear c3
     try clear c4
     try clear c5
     try clear c6
     try clear p6
     try clear c10
     try clear c11
     try clear c15
     try clear c17
     try clear c19
     try clear c20
     try clear c22
     try clear c23
     try clear c25
     try clear c26
     try clear c30
     try clear c31
     try clear c32
     try clear c34
     try clear c35
     try clear hcz12_0
     try clear hcz12_1
     try clear hcz21_0
     try clear hcz21_1
     try clear hcz24_0
     try clear hcz24_1
     try clear hcz27_0
     try clear hcz27_1
     try clear hcz33_0
     try clear hcz33_1
     try clear hcz36_0
     try clear hcz36_1
     try clear hfz12_0
     try clear hfz12_1
     try clear hfz21_0
     try clear hfz21_1
     try clear hfz24_0
     try clear hfz24_1
     try clear hfz27_0
     try clear hfz27_1
     try clear hfz33_0
     try clear hfz33_1
     try clear hfz36_0
     try clear hfz36_1
     try clear p2
     obtain ⟨kq, x39_27, rfl, HA, HJ27, BK507, BK508, BK509, HB⟩ := hcut
     cases kq with
     | zero => exact absurd HA.out (by simp [impl_SquareOfTension.j1])
     | succ kj27 =>
      have H := HA.out
      clear HA
      simp only [impl_SquareOfTension.j1] at H
      by_cases c37 : x39_27 = true
      ·subst c37
       have H1 : (some (0, 0, 2)) = some (r1, r2, r3) := by rw [if_pos rfl] at H; exact H
       clear H
       have H := H1
       clear H1
       simp only [Option.some.injEq, Prod.mk.injEq] at H
       obtain ⟨rfl, rfl, rfl⟩ := H
       have hnb38 := NB509_507.out
       have hnc38 := NB507_509.out
       have hnb39 := NB509_508.out
       have hnc39 := NB508_509.out
       have hcz40_0 : wc.cell? ⟨gb509, 0, none⟩ = some (.int .i64 0) := (X BK509.out 0).trans rfl
       have hcz40_1 : wc.cell? ⟨gb509, 1, none⟩ = some (.int .i64 0) := (X BK509.out 1).trans rfl
       have hfz40_0 := B BK509.out 0
       have hfz40_1 := B BK509.out 1
       go_wp2
       refine bodyPost_ret (results_ct rfl _ _ gb509 63 #[.int .i64 0, .int .i64 0] (0, 0) _ rfl (by (with_reducible repeat (first | refine M ?_ _ | refine T ?_ | refine O ?_ _)); refine blk_put (cs := #[.int .i64 0, .int .i64 0]) ?_ 1 _ rfl; (with_reducible repeat (first | refine M ?_ _ | refine T ?_ | refine O ?_ _)); refine blk_put (cs := #[.int .i64 0, .int .i64 0]) ?_ 0 _ rfl; (with_reducible repeat (first | refine M ?_ _ | refine T ?_ | refine O ?_ _)); exact BK509.out) Try.underlying63 rfl (by kernel_rfl)) rfl ?_
       exact ⟨by first | rfl | (simp [errW_none, errW_some] <;> rfl) | (simp [*, errW_none, errW_some] <;> rfl), by repeat (first | (with_reducible first | exact HB.out | apply V | apply L | apply U | refine J ?_ GE507.out | refine J ?_ GE508.out | refine J ?_ GE509.out) | exact HB.out)⟩
      ·replace c37 := Bool.eq_false_iff.mpr c37
       subst c37
       have H1 : ((impl_squareOfBar.f l0_0 l0_1 a1).bind fun t515 => ((impl_fraction.f kj27 (wrap64 ((wrap64 (t515 * a2_0)) * a2_0)) (wrap64 (a2_1 * a2_1))).bind fun bt516 => (some (bt516.1, bt516.2, 0)))) = some (r1, r2, r3) := by rw [if_neg (show ¬ (false = true) by decide)] at H; exact H
       clear H
       have H := H1
       clear H1
       replace H := Option.bind_eq_some_iff.mp H
       obtain ⟨t515, A410, H⟩ := H
       replace H : ((impl_fraction.f kj27 (wrap64 ((wrap64 (t515 * a2_0)) * a2_0)) (wrap64 (a2_1 * a2_1))).bind fun bt516 => (some (bt516.1, bt516.2, 0))) = some (r1, r2, r3) := H
       have A41 := G A410
       clear A410
       replace H := Option.bind_eq_some_iff.mp H
       obtain ⟨⟨t516, t517⟩, A420, H⟩ := H
       replace H : (some (t516, t517, 0)) = some (r1, r2, r3) := H
       have A42 := G A420
       clear A420
       simp only [Option.some.injEq, Prod.mk.injEq] at H
       obtain ⟨rfl, rfl, rfl⟩ := H
       try go_wp2
       have n0_ := G (T BK507.out)
       have n1_ := G (T BK508.out)
       have n2_ := G (T BK509.out)
       have n3_ := G (U HB.out)
       clear BK507
       clear BK508
       clear BK509
       clear HB
       have BK507 := n0_
       have BK508 := n1_
       have BK509 := n2_
       have HB := n3_
       clear n0_ n1_ n2_ n3_
       refine start_ (n := 17) (S := fun w' => w'.cell? ⟨gb507, 0, none⟩ = some (.slice A0_0 l0_0.length c0_0) ∧ w'.cell? ⟨gb507, 1, none⟩ = some (.slice A0_1 l0_1.length c0_1) ∧ w'.cell? ⟨gb508, 0, none⟩ = some (.int .i64 a2_0) ∧ w'.cell? ⟨gb508, 1, none⟩ = some (.int .i64 a2_1)) (ds := []) #[n', n', n', n', n', n', n', n', n', n', n', n', n', n', n', n', n'] (by kernel_rfl) rfl rfl ⟨(X BK507.out 0).trans rfl, (X BK507.out 1).trans rfl, (X BK508.out 0).trans rfl, (X BK508.out 1).trans rfl⟩ (fun hHeld => ?_); refine with_tabW impl_SquareOfTension.tab6 impl_SquareOfTension.bits6 (fun HT_ HW_ => ?_)
       generalize wc.drew = w43 at BK507 BK508 BK509 HB hHeld ⊢
       refine pure_ (i := 1) (N := some 42) (v := ?_) (a' := ?_) #[n', y', n', n', n', n', n', n', n', n', n', n', n', n', n', n', n'] rfl rfl (any_of HT_.out (by kernel_rfl)) (fun _ _ _ h => h) (Or.inl ⟨by rfl, ?_⟩) ?_ ?_
       rotate_left
       ·intro w'
        go_simp
        with_reducible rfl
       rotate_left
       ·simp only [Act.put, z1', z2', z3', i64_w, i32_w]
        rfl
       refine pure_ (i := 3) (N := some 44) (v := ?_) (a' := ?_) #[n', y', n', y', n', n', n', n', n', n', n', n', n', n', n', n', n'] rfl rfl (any_of HT_.out (by kernel_rfl)) (fun _ _ _ h => h) (Or.inl ⟨by rfl, ?_⟩) ?_ ?_
       rotate_left
       ·intro w'
        go_simp
        with_reducible rfl
       rotate_left
       ·simp only [Act.put, z1', z2', z3', i64_w, i32_w]
        rfl
       refine pure_ (i := 6) (N := some 47) (v := ?_) (a' := ?_) #[n', y', n', y', n', n', y', n', n', n', n', n', n', n', n', n', n'] rfl rfl (any_of HT_.out (by kernel_rfl)) (fun _ _ _ h => h) (Or.inl ⟨by rfl, ?_⟩) ?_ ?_
       rotate_left
       ·intro w'
        go_simp
        with_reducible rfl
       rotate_left
       ·simp only [Act.put, z1', z2', z3', i64_w, i32_w]
        rfl
       refine pure_ (i := 9) (N := some 50) (v := ?_) (a' := ?_) #[n', y', n', y', n', n', y', n', n', y', n', n', n', n', n', n', n'] rfl rfl (any_of HT_.out (by kernel_rfl)) (fun _ _ _ h => h) (Or.inl ⟨by rfl, ?_⟩) ?_ ?_
       rotate_left
       ·intro w'
        go_simp
        with_reducible rfl
       rotate_left
       ·simp only [Act.put, z1', z2', z3', i64_w, i32_w]
        rfl
       refine pure_ (i := 11) (N := some 52) (v := ?_) (a' := ?_) #[n', y', n', y', n', n', y', n', n', y', n', y', n', n', n', n', n'] rfl rfl (any_of HT_.out (by kernel_rfl)) (fun _ _ _ h => h) (Or.inl ⟨by rfl, ?_⟩) ?_ ?_
       rotate_left
       ·intro w'
        go_simp
        with_reducible rfl
       rotate_left
       ·simp only [Act.put, z1', z2', z3', i64_w, i32_w]
        rfl
       refine take_ (i := 0) (N := some 41) (v := ?_) (a' := ?_) #[y', y', n', y', n', n', y', n', n', y', n', y', n', n', n', n', n'] rfl rfl (take_ofW HT_.out HW_.out (by kernel_rfl)) (fun _ _ _ h => h) (Or.inl ⟨by rfl, ?_⟩) hHeld ?_ ?_
       rotate_left
       ·rintro w' ⟨s0, s1, s2, s3⟩
        go_simp
        with_reducible rfl
       rotate_left
       ·simp only [Act.put, z1', z2', z3', i64_w, i32_w]
        rfl
       refine take_ (i := 4) (N := some 45) (v := ?_) (a' := ?_) #[y', y', n', y', y', n', y', n', n', y', n', y', n', n', n', n', n'] rfl rfl (take_ofW HT_.out HW_.out (by kernel_rfl)) (fun _ _ _ h => h) (Or.inl ⟨by rfl, ?_⟩) hHeld ?_ ?_
       rotate_left
       ·rintro w' ⟨s0, s1, s2, s3⟩
        go_simp
        with_reducible rfl
       rotate_left
       ·simp only [Act.put, z1', z2', z3', i64_w, i32_w]
        rfl
       refine take_ (i := 7) (N := some 48) (v := ?_) (a' := ?_) #[y', y', n', y', y', n', y', y', n', y', n', y', n', n', n', n', n'] rfl rfl (take_ofW HT_.out HW_.out (by kernel_rfl)) (fun _ _ _ h => h) (Or.inl ⟨by rfl, ?_⟩) hHeld ?_ ?_
       rotate_left
       ·rintro w' ⟨s0, s1, s2, s3⟩
        go_simp
        with_reducible rfl
       rotate_left
       ·simp only [Act.put, z1', z2', z3', i64_w, i32_w]
        rfl
       refine take_ (i := 10) (N := some 51) (v := ?_) (a' := ?_) #[y', y', n', y', y', n', y', y', n', y', y', y', n', n', n', n', n'] rfl rfl (take_ofW HT_.out HW_.out (by kernel_rfl)) (fun _ _ _ h => h) (Or.inl ⟨by rfl, ?_⟩) hHeld ?_ ?_
       rotate_left
       ·rintro w' ⟨s0, s1, s2, s3⟩
        go_simp
        with_reducible rfl
       rotate_left
       ·simp only [Act.put, z1', z2', z3', i64_w, i32_w]
        rfl
       refine take_ (i := 12) (N := some 53) (v := ?_) (a' := ?_) #[y', y', n', y', y', n', y', y', n', y', y', y', y', n', n', n', n'] rfl rfl (take_ofW HT_.out HW_.out (by kernel_rfl)) (fun _ _ _ h => h) (Or.inl ⟨by rfl, ?_⟩) hHeld ?_ ?_
       rotate_left
       ·rintro w' ⟨s0, s1, s2, s3⟩
        go_simp
        with_reducible rfl
       rotate_left
       ·simp only [Act.put, z1', z2', z3', i64_w, i32_w]
        rfl
       refine pure_ (i := 13) (N := some 54) (v := ?_) (a' := ?_) #[y', y', n', y', y', n', y', y', n', y', y', y', y', y', n', n', n'] rfl rfl (any_of HT_.out (by kernel_rfl)) (fun _ _ _ h => h) (Or.inl ⟨by rfl, ?_⟩) ?_ ?_
       rotate_left
       ·intro w'
        go_simp
        with_reducible rfl
       rotate_left
       ·simp only [Act.put, z1', z2', z3', i64_w, i32_w]
        rfl
       refine one_ (i := 2) (N := some 43) #[y', y', y', y', y', n', y', y', n', y', y', y', y', y', n', n', n'] rfl rfl (one_of HT_.out (by kernel_rfl)) (by decide) (fun K hK => ?_)
       refine goes_ Try.func71 (by kernel_rfl) rfl #[.agg #[.slice A0_0 l0_0.length c0_0, .slice A0_1 l0_1.length c0_1], .int .i64 a1] (by rfl) rfl rfl (by (try simp only [List.map_toArray, List.map_cons, List.map_nil]); first | done | rfl | (simp only [List.length_drop, List.length_take]; rfl)) ?_
       with_reducible refine (impl_squareOfBar.calls _ _ l0_0 _ _ l0_1 a1 t515 _ ?side1 ?side2 ?side3 ?side4 A41.out).mono ?_
       (case side1 => repeat (first | exact (Kd.C_below HR0_0.out HB.out) | (with_reducible refine Kd.C_alloc ?_ _) | (with_reducible refine Kd.C_drewN ?_ _) | (with_reducible refine Kd.C_drew ?_)))
       (case side2 => exact HC0_0.out)
       (case side3 => repeat (first | exact (Kd.C_below HR0_1.out HB.out) | (with_reducible refine Kd.C_alloc ?_ _) | (with_reducible refine Kd.C_drewN ?_ _) | (with_reducible refine Kd.C_drew ?_)))
       (case side4 => exact HC0_1.out)
       rintro e w44 ⟨rfl, hb⟩
       refine ⟨_, rfl, ?_⟩
       have n0_ := G (Y (g := gb507) (o := .cells #[.slice A0_0 l0_0.length c0_0, .slice A0_1 l0_1.length c0_1] 39 (0, 0)) (by (with_reducible repeat (first | refine M ?_ _ | refine T ?_ | refine O ?_ _)); exact BK507.out) hb)
       have n1_ := G (Y (g := gb508) (o := .cells #[.int .i64 a2_0, .int .i64 a2_1] 63 (0, 0)) (by (with_reducible repeat (first | refine M ?_ _ | refine T ?_ | refine O ?_ _)); exact BK508.out) hb)
       have n2_ := G (Y (g := gb509) (o := .cells #[.int .i64 0, .int .i64 0] 63 (0, 0)) (by (with_reducible repeat (first | refine M ?_ _ | refine T ?_ | refine O ?_ _)); exact BK509.out) hb)
       have n3_ := G (below_step (by repeat (first | (with_reducible first | exact HB.out | apply V | apply L | apply U | refine J ?_ GE507.out | refine J ?_ GE508.out | refine J ?_ GE509.out) | exact HB.out)) hb)
       clear BK507
       clear BK508
       clear BK509
       clear HB
       have BK507 := n0_
       have BK508 := n1_
       have BK509 := n2_
       have HB := n3_
       clear n0_ n1_ n2_ n3_
       (try clear hb)
       (try clear hb2)
       (try clear hk)
       (try clear hi)
       refine hK.out _ _ ⟨(X BK507.out 0).trans rfl, (X BK507.out 1).trans rfl, (X BK508.out 0).trans rfl, (X BK508.out 1).trans rfl⟩ (fun hHeld => ?_)
       clear hK K
       refine norm_ (a' := ?_) ?_ ?_
       rotate_left
       ·show Act.put _ (some 43) _ = _
        simp only [Act.put, z1', z2', z3', i64_w, i32_w]
        rfl
       refine pure_ (i := 5) (N := some 46) (v := ?_) (a' := ?_) #[y', y', y', y', y', y', y', y', n', y', y', y', y', y', n', n', n'] rfl rfl (any_of HT_.out (by kernel_rfl)) (fun _ _ _ h => h) (Or.inl ⟨by rfl, ?_⟩) ?_ ?_
       rotate_left
       ·intro w'
        go_simp
        with_reducible rfl
       rotate_left
       ·simp only [Act.put, z1', z2', z3', i64_w, i32_w]
        rfl
       refine pure_ (i := 8) (N := some 49) (v := ?_) (a' := ?_) #[y', y', y', y', y', y', y', y', y', y', y', y', y', y', n', n', n'] rfl rfl (any_of HT_.out (by kernel_rfl)) (fun _ _ _ h => h) (Or.inl ⟨by rfl, ?_⟩) ?_ ?_
       rotate_left
       ·intro w'
        go_simp
        with_reducible rfl
       rotate_left
       ·simp only [Act.put, z1', z2', z3', i64_w, i32_w]
        rfl
       refine one_ (i := 14) (N := some 55) #[y', y', y', y', y', y', y', y', y', y', y', y', y', y', y', n', n'] rfl rfl (one_of HT_.out (by kernel_rfl)) (by decide) (fun K hK => ?_)
       refine goes_ Try.func81 (by kernel_rfl) rfl #[.int .i64 (wrap64 ((wrap64 (t515 * a2_0)) * a2_0)), .int .i64 (wrap64 (a2_1 * a2_1))] (by rfl) rfl rfl (by (try simp only [List.map_toArray, List.map_cons, List.map_nil]); first | done | rfl | (simp only [List.length_drop, List.length_take]; rfl)) ?_
       with_reducible refine (impl_fraction.calls kj27 (wrap64 ((wrap64 (t515 * a2_0)) * a2_0)) (wrap64 (a2_1 * a2_1)) t516 t517 _ A42.out).mono ?_
       rintro e w45 ⟨rfl, hb⟩
       refine ⟨_, rfl, ?_⟩
       have n0_ := G (Y (g := gb507) (o := .cells #[.slice A0_0 l0_0.length c0_0, .slice A0_1 l0_1.length c0_1] 39 (0, 0)) (by (with_reducible repeat (first | refine M ?_ _ | refine T ?_ | refine O ?_ _)); exact BK507.out) hb)
       have n1_ := G (Y (g := gb508) (o := .cells #[.int .i64 a2_0, .int .i64 a2_1] 63 (0, 0)) (by (with_reducible repeat (first | refine M ?_ _ | refine T ?_ | refine O ?_ _)); exact BK508.out) hb)
       have n2_ := G (Y (g := gb509) (o := .cells #[.int .i64 0, .int .i64 0] 63 (0, 0)) (by (with_reducible repeat (first | refine M ?_ _ | refine T ?_ | refine O ?_ _)); exact BK509.out) hb)
       have n3_ := G (below_step (by repeat (first | (with_reducible first | exact HB.out | apply V | apply L | apply U | refine J ?_ GE507.out | refine J ?_ GE508.out | refine J ?_ GE509.out) | exact HB.out)) hb)
       clear BK507
       clear BK508
       clear BK509
       clear HB
       have BK507 := n0_
       have BK508 := n1_
       have BK509 := n2_
       have HB := n3_
       clear n0_ n1_ n2_ n3_
       (try clear hb)
       (try clear hb2)
       (try clear hk)
       (try clear hi)
       refine hK.out _ _ ⟨(X BK507.out 0).trans rfl, (X BK507.out 1).trans rfl, (X BK508.out 0).trans rfl, (X BK508.out 1).trans rfl⟩ (fun hHeld => ?_)
       clear hK K
       refine norm_ (a' := ?_) ?_ ?_
       rotate_left
       ·show Act.put _ (some 55) _ = _
        simp only [Act.put, z1', z2', z3', i64_w, i32_w]
        rfl
       refine one_ (i := 15) (N := none) #[y', y', y', y', y', y', y', y', y', y', y', y', y', y', y', y', n'] rfl rfl (one_of HT_.out (by kernel_rfl)) (by decide) (fun K hK => ?_)
       have hs46 : w45.cell? ⟨gb509, 0, none⟩ = some (.int .i64 0) := (X BK509.out 0).trans rfl
       have hfs46 := B BK509.out 0
       have hns46_0 := NB507_509.out
       have hns46_1 := NB508_509.out
       have hms46_0 := NB509_507.out
       have hms46_1 := NB509_508.out
       have hs47 : w45.cell? ⟨gb509, 1, none⟩ = some (.int .i64 0) := (X BK509.out 1).trans rfl
       have hfs47 := B BK509.out 1
       have hns47_0 := NB507_509.out
       have hns47_1 := NB508_509.out
       have hms47_0 := NB509_507.out
       have hms47_1 := NB509_508.out
       refine skip_ (w1 := ?_) (by rfl) rfl ?_ ?_
       rotate_left
       ·go_simp
        rfl
       refine hK.out _ _ ⟨((cell_far (p := ⟨gb509, _, none⟩) NB507_509.out _).trans (((cell_far (p := ⟨gb509, _, none⟩) NB507_509.out _).trans (hHeld.1)))), ((cell_far (p := ⟨gb509, _, none⟩) NB507_509.out _).trans (((cell_far (p := ⟨gb509, _, none⟩) NB507_509.out _).trans (hHeld.2.1)))), ((cell_far (p := ⟨gb509, _, none⟩) NB508_509.out _).trans (((cell_far (p := ⟨gb509, _, none⟩) NB508_509.out _).trans (hHeld.2.2.1)))), ((cell_far (p := ⟨gb509, _, none⟩) NB508_509.out _).trans (((cell_far (p := ⟨gb509, _, none⟩) NB508_509.out _).trans (hHeld.2.2.2))))⟩ (fun hHeld => ?_)
       clear hK K
       refine pure_ (i := 16) (N := some 7) (v := ?_) (a' := ?_) #[y', y', y', y', y', y', y', y', y', y', y', y', y', y', y', y', y'] rfl rfl (any_of HT_.out (by kernel_rfl)) (fun _ _ _ h => h) (Or.inl ⟨by rfl, ?_⟩) ?_ ?_
       rotate_left
       ·intro w'
        go_simp
        with_reducible rfl
       rotate_left
       ·simp only [Act.put, z1', z2', z3', i64_w, i32_w]
        rfl
       refine done_ (done_of HT_.out (by kernel_rfl)) ?_
       try go_wp2
       refine bodyPost_ret (results_ct rfl _ _ gb509 63 #[.int .i64 t516, .int .i64 t517] (0, 0) _ rfl (by (with_reducible repeat (first | refine M ?_ _ | refine T ?_ | refine O ?_ _)); refine blk_put (cs := #[.int .i64 t516, .int .i64 0]) ?_ 1 _ rfl; (with_reducible repeat (first | refine M ?_ _ | refine T ?_ | refine O ?_ _)); refine blk_put (cs := #[.int .i64 0, .int .i64 0]) ?_ 0 _ rfl; (with_reducible repeat (first | refine M ?_ _ | refine T ?_ | refine O ?_ _)); exact BK509.out) Try.underlying63 rfl (by kernel_rfl)) rfl ?_
       exact ⟨by first | rfl | (simp [errW_none, errW_some] <;> rfl) | (simp [*, errW_none, errW_some] <;> rfl), by repeat (first | (with_reducible first | exact HB.out | apply V | apply L | apply U | refine J ?_ GE507.out | refine J ?_ GE508.out | refine J ?_ GE509.out) | exact HB.out)⟩
 ·replace c5 := Bool.eq_false_iff.mpr c5
  subst c5
  have H1 : (some (0, 0, 1)) = some (r1, r2, r3) := by rw [if_neg (show ¬ (false = true) by decide)] at H; exact H
  clear H
  have H := H1
  clear H1
  simp only [Option.some.injEq, Prod.mk.injEq] at H
  obtain ⟨rfl, rfl, rfl⟩ := H
  go_enter Try.func43, Try.ntmps43
  go_wp2_with (first | ((with_reducible refine gate_dst (N := 3) rfl ?_); refine box_event ?hg (N := 3) ?hd (cs := #[.slice A0_0 l0_0.length c0_0, .slice A0_1 l0_1.length c0_1]) (t := 39) ?hr ?_; (case hd => rfl); (case hg => rfl); (case hr => first | (go_simp; done) | (go_simp; rfl)); intro gb507 hg w48 hbox hb; have n0_ := G (below_step (by repeat (first | (with_reducible first | exact HB.out | apply V | apply L | apply U) | exact HB.out)) hb); have n1_ := G (hbox); have n2_ := G ((by rw [hg]; exact (Z (by repeat (first | (with_reducible first | exact HB.out | apply V | apply L | apply U) | exact HB.out))) : w.heap.size ≤ gb507)); have n3_ := G ((by rw [hg]; exact (Z (by repeat (first | (with_reducible first | exact HB.out | apply V | apply L | apply U) | exact HB.out))) : w.heap.size ≤ gb507)); clear HB; have HB := n0_; have BK507 := n1_; have GW507 := n2_; have GE507 := n3_; clear n0_ n1_ n2_ n3_; clear hb hbox hg) | ((with_reducible refine gate_dst (N := 5) rfl ?_); refine box_event ?hg (N := 5) ?hd (cs := #[.int .i64 a2_0, .int .i64 a2_1]) (t := 63) ?hr ?_; (case hd => rfl); (case hg => rfl); (case hr => first | (go_simp; done) | (go_simp; rfl)); intro gb508 hg w49 hbox hb; have n0_ := G (Y (g := gb507) (o := .cells #[.slice A0_0 l0_0.length c0_0, .slice A0_1 l0_1.length c0_1] 39 (0, 0)) (by (with_reducible repeat (first | refine M ?_ _ | refine T ?_ | refine O ?_ _)); exact BK507.out) hb); have n1_ := G (below_step (by repeat (first | (with_reducible first | exact HB.out | apply V | apply L | apply U | refine J ?_ GE507.out) | exact HB.out)) hb); have n2_ := G (hbox); have n3_ := G ((by rw [hg]; exact (Z (by repeat (first | (with_reducible first | exact HB.out | apply V | apply L | apply U | refine J ?_ GE507.out) | exact HB.out))) : w.heap.size ≤ gb508)); have n4_ := G ((by rw [hg]; exact (Z (by repeat (first | (with_reducible first | exact HB.out | apply V | apply L | apply U | refine J ?_ GE507.out) | exact HB.out))) : w.heap.size ≤ gb508)); have n5_ := G ((by rw [hg]; exact Nat.ne_of_lt (blk_lt (g := gb507) (o := .cells #[.slice A0_0 l0_0.length c0_0, .slice A0_1 l0_1.length c0_1] 39 (0, 0)) (by (with_reducible repeat (first | refine M ?_ _ | refine T ?_ | refine O ?_ _)); exact BK507.out)) : gb507 ≠ gb508)); have n6_ := G ((by rw [hg]; exact Nat.ne_of_gt (blk_lt (g := gb507) (o := .cells #[.slice A0_0 l0_0.length c0_0, .slice A0_1 l0_1.length c0_1] 39 (0, 0)) (by (with_reducible repeat (first | refine M ?_ _ | refine T ?_ | refine O ?_ _)); exact BK507.out)) : gb508 ≠ gb507)); clear BK507; clear HB; have BK507 := n0_; have HB := n1_; have BK508 := n2_; have GW508 := n3_; have GE508 := n4_; have NB507_508 := n5_; have NB508_507 := n6_; clear n0_ n1_ n2_ n3_ n4_ n5_ n6_; clear hb hbox hg) | ((with_reducible refine gate_dst (N := 6) rfl ?_); refine box_event ?hg (N := 6) ?hd (cs := #[.int .i64 0, .int .i64 0]) (t := 63) ?hr ?_; (case hd => rfl); (case hg => rfl); (case hr => first | (go_simp; done) | (go_simp; rfl)); intro gb509 hg w50 hbox hb; have n0_ := G (Y (g := gb507) (o := .cells #[.slice A0_0 l0_0.length c0_0, .slice A0_1 l0_1.length c0_1] 39 (0, 0)) (by (with_reducible repeat (first | refine M ?_ _ | refine T ?_ | refine O ?_ _)); exact BK507.out) hb); have n1_ := G (Y (g := gb508) (o := .cells #[.int .i64 a2_0, .int .i64 a2_1] 63 (0, 0)) (by (with_reducible repeat (first | refine M ?_ _ | refine T ?_ | refine O ?_ _)); exact BK508.out) hb); have n2_ := G (below_step (by repeat (first | (with_reducible first | exact HB.out | apply V | apply L | apply U | refine J ?_ GE507.out | refine J ?_ GE508.out) | exact HB.out)) hb); have n3_ := G (hbox); have n4_ := G ((by rw [hg]; exact (Z (by repeat (first | (with_reducible first | exact HB.out | apply V | apply L | apply U | refine J ?_ GE507.out | refine J ?_ GE508.out) | exact HB.out))) : w.heap.size ≤ gb509)); have n5_ := G ((by rw [hg]; exact (Z (by repeat (first | (with_reducible first | exact HB.out | apply V | apply L | apply U | refine J ?_ GE507.out | refine J ?_ GE508.out) | exact HB.out))) : w.heap.size ≤ gb509)); have n6_ := G ((by rw [hg]; exact Nat.ne_of_lt (blk_lt (g := gb507) (o := .cells #[.slice A0_0 l0_0.length c0_0, .slice A0_1 l0_1.length c0_1] 39 (0, 0)) (by (with_reducible repeat (first | refine M ?_ _ | refine T ?_ | refine O ?_ _)); exact BK507.out)) : gb507 ≠ gb509)); have n7_ := G ((by rw [hg]; exact Nat.ne_of_gt (blk_lt (g := gb507) (o := .cells #[.slice A0_0 l0_0.length c0_0, .slice A0_1 l0_1.length c0_1] 39 (0, 0)) (by (with_reducible repeat (first | refine M ?_ _ | refine T ?_ | refine O ?_ _)); exact BK507.out)) : gb509 ≠ gb507)); have n8_ := G ((by rw [hg]; exact Nat.ne_of_lt (blk_lt (g := gb508) (o := .cells #[.int .i64 a2_0, .int .i64 a2_1] 63 (0, 0)) (by (with_reducible repeat (first | refine M ?_ _ | refine T ?_ | refine O ?_ _)); exact BK508.out)) : gb508 ≠ gb509)); have n9_ := G ((by rw [hg]; exact Nat.ne_of_gt (blk_lt (g := gb508) (o := .cells #[.int .i64 a2_0, .int .i64 a2_1] 63 (0, 0)) (by (with_reducible repeat (first | refine M ?_ _ | refine T ?_ | refine O ?_ _)); exact BK508.out)) : gb509 ≠ gb508)); clear BK507; clear BK508; clear HB; have BK507 := n0_; have BK508 := n1_; have HB := n2_; have BK509 := n3_; have GW509 := n4_; have GE509 := n5_; have NB507_509 := n6_; have NB509_507 := n7_; have NB508_509 := n8_; have NB509_508 := n9_; clear n0_ n1_ n2_ n3_ n4_ n5_ n6_ n7_ n8_ n9_; clear hb hbox hg; have hnb51 := NB507_508.out; have hnc51 := NB508_507.out; have hnb52 := NB507_509.out; have hnc52 := NB509_507.out; have hcz53_0 : w50.cell? ⟨gb507, 0, none⟩ = some (.slice A0_0 l0_0.length c0_0) := (X BK507.out 0).trans rfl; have hcz53_1 : w50.cell? ⟨gb507, 1, none⟩ = some (.slice A0_1 l0_1.length c0_1) := (X BK507.out 1).trans rfl; have hfz53_0 := B BK507.out 0; have hfz53_1 := B BK507.out 1) | ((with_reducible refine gate_callee (f := 25) rfl ?_); refine goesL_ (some 10) rfl rfl Try.func25 (by kernel_rfl) rfl #[.agg #[.slice A0_0 l0_0.length c0_0, .slice A0_1 l0_1.length c0_1]] rfl (by (try simp only [List.map_toArray, List.map_cons, List.map_nil]); first | done | rfl | (simp only [List.length_drop, List.length_take]; rfl)) ?_; (with_reducible refine (impl_ValidFrame.calls k _ _ l0_0 _ _ l0_1 false _ ?side1 ?side2 ?side3 ?side4 A4.out).mono ?_); (case side1 => repeat (first | exact (Kd.C_below HR0_0.out HB.out) | (with_reducible refine Kd.C_alloc ?_ _) | (with_reducible refine Kd.C_drewN ?_ _) | (with_reducible refine Kd.C_drew ?_))); (case side2 => exact HC0_0.out); (case side3 => repeat (first | exact (Kd.C_below HR0_1.out HB.out) | (with_reducible refine Kd.C_alloc ?_ _) | (with_reducible refine Kd.C_drewN ?_ _) | (with_reducible refine Kd.C_drew ?_))); (case side4 => exact HC0_1.out); rintro e w54 ⟨rfl, hb⟩; refine ⟨_, rfl, ?_⟩; have n0_ := G (Y (g := gb507) (o := .cells #[.slice A0_0 l0_0.length c0_0, .slice A0_1 l0_1.length c0_1] 39 (0, 0)) (by (with_reducible repeat (first | refine M ?_ _ | refine T ?_ | refine O ?_ _)); exact BK507.out) hb); have n1_ := G (Y (g := gb508) (o := .cells #[.int .i64 a2_0, .int .i64 a2_1] 63 (0, 0)) (by (with_reducible repeat (first | refine M ?_ _ | refine T ?_ | refine O ?_ _)); exact BK508.out) hb); have n2_ := G (Y (g := gb509) (o := .cells #[.int .i64 0, .int .i64 0] 63 (0, 0)) (by (with_reducible repeat (first | refine M ?_ _ | refine T ?_ | refine O ?_ _)); exact BK509.out) hb); have n3_ := G (below_step (by repeat (first | (with_reducible first | exact HB.out | apply V | apply L | apply U | refine J ?_ GE507.out | refine J ?_ GE508.out | refine J ?_ GE509.out) | exact HB.out)) hb); clear BK507; clear BK508; clear BK509; clear HB; have BK507 := n0_; have BK508 := n1_; have BK509 := n2_; have HB := n3_; clear n0_ n1_ n2_ n3_; (try clear hb); (try clear hb2); (try clear hk); (try clear hi); have hnb55 := NB509_508.out; have hnc55 := NB508_509.out; have hcz56_0 : w54.cell? ⟨gb509, 0, none⟩ = some (.int .i64 0) := (X BK509.out 0).trans rfl; have hcz56_1 : w54.cell? ⟨gb509, 1, none⟩ = some (.int .i64 0) := (X BK509.out 1).trans rfl; have hfz56_0 := B BK509.out 0; have hfz56_1 := B BK509.out 1))
  refine bodyPost_ret (results_ct rfl _ _ gb509 63 #[.int .i64 0, .int .i64 0] (0, 0) _ rfl (by (with_reducible repeat (first | refine M ?_ _ | refine T ?_ | refine O ?_ _)); refine blk_put (cs := #[.int .i64 0, .int .i64 0]) ?_ 1 _ rfl; (with_reducible repeat (first | refine M ?_ _ | refine T ?_ | refine O ?_ _)); refine blk_put (cs := #[.int .i64 0, .int .i64 0]) ?_ 0 _ rfl; (with_reducible repeat (first | refine M ?_ _ | refine T ?_ | refine O ?_ _)); exact BK509.out) Try.underlying63 rfl (by kernel_rfl)) rfl ?_
  exact ⟨by first | rfl | (simp [errW_none, errW_some] <;> rfl) | (simp [*, errW_none, errW_some] <;> rfl), by repeat (first | (with_reducible first | exact HB.out | apply V | apply L | apply U | refine J ?_ GE507.out | refine J ?_ GE508.out | refine J ?_ GE509.out) | exact HB.out)⟩

/-! ### laws_eqFraction: function 44 -/
def laws_eqFraction.f (a0_0 : Int) (a0_1 : Int) (a1_0 : Int) (a1_1 : Int) : Option (Bool) := if a0_0 = a1_0 then (if a0_1 = a1_1 then (some true) else (some false)) else (some false)
set_option maxHeartbeats 8000000 in
set_option maxRecDepth 100000 in
theorem laws_eqFraction.calls (a0_0 : Int) (a0_1 : Int) (a1_0 : Int) (a1_1 : Int) (r : Bool) (w : World) (h : laws_eqFraction.f a0_0 a0_1 a1_0 a1_1 = some r) :
  Calls Try.prog 44 #[.agg #[.int .i64 a0_0, .int .i64 a0_1], .agg #[.int .i64 a1_0, .int .i64 a1_1]] w fun e w' => e = .returned (.bool r) ∧ Below w.heap.size w w' := by
 have hu63 := Try.underlying63
 have HB := Aside0.mk (Below.refl w.heap.size w)
 have H : (if a0_0 = a1_0 then (if a0_1 = a1_1 then (some true) else (some false)) else (some false)) = some r := h
 clear h
 by_cases c3 : a0_0 = a1_0
 ·rw [if_pos c3] at H
  have c3b0 : (a0_0 == a1_0) = true := beq_iff_eq.mpr c3
  have c3b1 : (a0_0 != a1_0) = false := bne_eq_false_iff_eq.mpr c3
  clear c3
  by_cases c4 : a0_1 = a1_1
  ·rw [if_pos c4] at H
   have c4b0 : (a0_1 == a1_1) = true := beq_iff_eq.mpr c4
   have c4b1 : (a0_1 != a1_1) = false := bne_eq_false_iff_eq.mpr c4
   clear c4
   obtain rfl := Option.some.inj H
   go_enter Try.func44, Try.ntmps44
   go_wp2_with (first | ((with_reducible refine gate_dst (N := 2) rfl ?_); refine box_event ?hg (N := 2) ?hd (cs := #[.int .i64 a0_0, .int .i64 a0_1]) (t := 63) ?hr ?_; (case hd => rfl); (case hg => rfl); (case hr => first | (go_simp; done) | (go_simp; rfl)); intro gb518 hg w5 hbox hb; have n0_ := Aside0.mk (below_step (by repeat (first | (with_reducible first | exact HB.out | apply below_alloc | apply pw_below_drewN | apply below_drew1) | exact HB.out)) hb); have n1_ := Aside0.mk (hbox); have n2_ := Aside0.mk ((by rw [hg]; exact (below_size (by repeat (first | (with_reducible first | exact HB.out | apply below_alloc | apply pw_below_drewN | apply below_drew1) | exact HB.out))) : w.heap.size ≤ gb518)); have n3_ := Aside0.mk ((by rw [hg]; exact (below_size (by repeat (first | (with_reducible first | exact HB.out | apply below_alloc | apply pw_below_drewN | apply below_drew1) | exact HB.out))) : w.heap.size ≤ gb518)); clear HB; have HB := n0_; have BK518 := n1_; have GW518 := n2_; have GE518 := n3_; clear n0_ n1_ n2_ n3_; clear hb hbox hg) | ((with_reducible refine gate_dst (N := 3) rfl ?_); refine box_event ?hg (N := 3) ?hd (cs := #[.int .i64 a1_0, .int .i64 a1_1]) (t := 63) ?hr ?_; (case hd => rfl); (case hg => rfl); (case hr => first | (go_simp; done) | (go_simp; rfl)); intro gb519 hg w6 hbox hb; have n0_ := Aside0.mk (blk_below (g := gb518) (o := .cells #[.int .i64 a0_0, .int .i64 a0_1] 63 (0, 0)) (by (with_reducible repeat (first | refine blk_drewN ?_ _ | refine blk_drew ?_ | refine blk_alloc ?_ _)); exact BK518.out) hb); have n1_ := Aside0.mk (below_step (by repeat (first | (with_reducible first | exact HB.out | apply below_alloc | apply pw_below_drewN | apply below_drew1 | refine below_set ?_ GE518.out) | exact HB.out)) hb); have n2_ := Aside0.mk (hbox); have n3_ := Aside0.mk ((by rw [hg]; exact (below_size (by repeat (first | (with_reducible first | exact HB.out | apply below_alloc | apply pw_below_drewN | apply below_drew1 | refine below_set ?_ GE518.out) | exact HB.out))) : w.heap.size ≤ gb519)); have n4_ := Aside0.mk ((by rw [hg]; exact (below_size (by repeat (first | (with_reducible first | exact HB.out | apply below_alloc | apply pw_below_drewN | apply below_drew1 | refine below_set ?_ GE518.out) | exact HB.out))) : w.heap.size ≤ gb519)); have n5_ := Aside0.mk ((by rw [hg]; exact Nat.ne_of_lt (blk_lt (g := gb518) (o := .cells #[.int .i64 a0_0, .int .i64 a0_1] 63 (0, 0)) (by (with_reducible repeat (first | refine blk_drewN ?_ _ | refine blk_drew ?_ | refine blk_alloc ?_ _)); exact BK518.out)) : gb518 ≠ gb519)); have n6_ := Aside0.mk ((by rw [hg]; exact Nat.ne_of_gt (blk_lt (g := gb518) (o := .cells #[.int .i64 a0_0, .int .i64 a0_1] 63 (0, 0)) (by (with_reducible repeat (first | refine blk_drewN ?_ _ | refine blk_drew ?_ | refine blk_alloc ?_ _)); exact BK518.out)) : gb519 ≠ gb518)); clear BK518; clear HB; have BK518 := n0_; have HB := n1_; have BK519 := n2_; have GW519 := n3_; have GE519 := n4_; have NB518_519 := n5_; have NB519_518 := n6_; clear n0_ n1_ n2_ n3_ n4_ n5_ n6_; clear hb hbox hg; have hnb7 := NB518_519.out; have hnc7 := NB519_518.out; have hcz8_0 : w6.cell? ⟨gb518, 0, none⟩ = some (.int .i64 a0_0) := (blk_cell BK518.out 0).trans rfl; have hcz8_1 : w6.cell? ⟨gb518, 1, none⟩ = some (.int .i64 a0_1) := (blk_cell BK518.out 1).trans rfl; have hfz8_0 := blk_frozen BK518.out 0; have hfz8_1 := blk_frozen BK518.out 1; have hcz9_0 : w6.cell? ⟨gb519, 0, none⟩ = some (.int .i64 a1_0) := (blk_cell BK519.out 0).trans rfl; have hcz9_1 : w6.cell? ⟨gb519, 1, none⟩ = some (.int .i64 a1_1) := (blk_cell BK519.out 1).trans rfl; have hfz9_0 := blk_frozen BK519.out 0; have hfz9_1 := blk_frozen BK519.out 1))
   go_ret
   exact ⟨by first | rfl | (simp [errW_none, errW_some] <;> rfl) | (simp [*, errW_none, errW_some] <;> rfl), by repeat (first | (with_reducible first | exact HB.out | apply below_alloc | apply pw_below_drewN | apply below_drew1 | refine below_set ?_ GE518.out | refine below_set ?_ GE519.out) | exact HB.out)⟩
  ·rw [if_neg c4] at H
   have c4b0 : (a0_1 == a1_1) = false := beq_eq_false_iff_ne.mpr c4
   have c4b1 : (a0_1 != a1_1) = true := bne_iff_ne.mpr c4
   obtain rfl := Option.some.inj H
   go_enter Try.func44, Try.ntmps44
   go_wp2_with (first | ((with_reducible refine gate_dst (N := 2) rfl ?_); refine box_event ?hg (N := 2) ?hd (cs := #[.int .i64 a0_0, .int .i64 a0_1]) (t := 63) ?hr ?_; (case hd => rfl); (case hg => rfl); (case hr => first | (go_simp; done) | (go_simp; rfl)); intro gb518 hg w10 hbox hb; have n0_ := Aside0.mk (below_step (by repeat (first | (with_reducible first | exact HB.out | apply below_alloc | apply pw_below_drewN | apply below_drew1) | exact HB.out)) hb); have n1_ := Aside0.mk (hbox); have n2_ := Aside0.mk ((by rw [hg]; exact (below_size (by repeat (first | (with_reducible first | exact HB.out | apply below_alloc | apply pw_below_drewN | apply below_drew1) | exact HB.out))) : w.heap.size ≤ gb518)); have n3_ := Aside0.mk ((by rw [hg]; exact (below_size (by repeat (first | (with_reducible first | exact HB.out | apply below_alloc | apply pw_below_drewN | apply below_drew1) | exact HB.out))) : w.heap.size ≤ gb518)); clear HB; have HB := n0_; have BK518 := n1_; have GW518 := n2_; have GE518 := n3_; clear n0_ n1_ n2_ n3_; clear hb hbox hg) | ((with_reducible refine gate_dst (N := 3) rfl ?_); refine box_event ?hg (N := 3) ?hd (cs := #[.int .i64 a1_0, .int .i64 a1_1]) (t := 63) ?hr ?_; (case hd => rfl); (case hg => rfl); (case hr => first | (go_simp; done) | (go_simp; rfl)); intro gb519 hg w11 hbox hb; have n0_ := Aside0.mk (blk_below (g := gb518) (o := .cells #[.int .i64 a0_0, .int .i64 a0_1] 63 (0, 0)) (by (with_reducible repeat (first | refine blk_drewN ?_ _ | refine blk_drew ?_ | refine blk_alloc ?_ _)); exact BK518.out) hb); have n1_ := Aside0.mk (below_step (by repeat (first | (with_reducible first | exact HB.out | apply below_alloc | apply pw_below_drewN | apply below_drew1 | refine below_set ?_ GE518.out) | exact HB.out)) hb); have n2_ := Aside0.mk (hbox); have n3_ := Aside0.mk ((by rw [hg]; exact (below_size (by repeat (first | (with_reducible first | exact HB.out | apply below_alloc | apply pw_below_drewN | apply below_drew1 | refine below_set ?_ GE518.out) | exact HB.out))) : w.heap.size ≤ gb519)); have n4_ := Aside0.mk ((by rw [hg]; exact (below_size (by repeat (first | (with_reducible first | exact HB.out | apply below_alloc | apply pw_below_drewN | apply below_drew1 | refine below_set ?_ GE518.out) | exact HB.out))) : w.heap.size ≤ gb519)); have n5_ := Aside0.mk ((by rw [hg]; exact Nat.ne_of_lt (blk_lt (g := gb518) (o := .cells #[.int .i64 a0_0, .int .i64 a0_1] 63 (0, 0)) (by (with_reducible repeat (first | refine blk_drewN ?_ _ | refine blk_drew ?_ | refine blk_alloc ?_ _)); exact BK518.out)) : gb518 ≠ gb519)); have n6_ := Aside0.mk ((by rw [hg]; exact Nat.ne_of_gt (blk_lt (g := gb518) (o := .cells #[.int .i64 a0_0, .int .i64 a0_1] 63 (0, 0)) (by (with_reducible repeat (first | refine blk_drewN ?_ _ | refine blk_drew ?_ | refine blk_alloc ?_ _)); exact BK518.out)) : gb519 ≠ gb518)); clear BK518; clear HB; have BK518 := n0_; have HB := n1_; have BK519 := n2_; have GW519 := n3_; have GE519 := n4_; have NB518_519 := n5_; have NB519_518 := n6_; clear n0_ n1_ n2_ n3_ n4_ n5_ n6_; clear hb hbox hg; have hnb12 := NB518_519.out; have hnc12 := NB519_518.out; have hcz13_0 : w11.cell? ⟨gb518, 0, none⟩ = some (.int .i64 a0_0) := (blk_cell BK518.out 0).trans rfl; have hcz13_1 : w11.cell? ⟨gb518, 1, none⟩ = some (.int .i64 a0_1) := (blk_cell BK518.out 1).trans rfl; have hfz13_0 := blk_frozen BK518.out 0; have hfz13_1 := blk_frozen BK518.out 1; have hcz14_0 : w11.cell? ⟨gb519, 0, none⟩ = some (.int .i64 a1_0) := (blk_cell BK519.out 0).trans rfl; have hcz14_1 : w11.cell? ⟨gb519, 1, none⟩ = some (.int .i64 a1_1) := (blk_cell BK519.out 1).trans rfl; have hfz14_0 := blk_frozen BK519.out 0; have hfz14_1 := blk_frozen BK519.out 1))
   go_ret
   exact ⟨by first | rfl | (simp [errW_none, errW_some] <;> rfl) | (simp [*, errW_none, errW_some] <;> rfl), by repeat (first | (with_reducible first | exact HB.out | apply below_alloc | apply pw_below_drewN | apply below_drew1 | refine below_set ?_ GE518.out | refine below_set ?_ GE519.out) | exact HB.out)⟩
 ·rw [if_neg c3] at H
  have c3b0 : (a0_0 == a1_0) = false := beq_eq_false_iff_ne.mpr c3
  have c3b1 : (a0_0 != a1_0) = true := bne_iff_ne.mpr c3
  obtain rfl := Option.some.inj H
  go_enter Try.func44, Try.ntmps44
  go_wp2_with (first | ((with_reducible refine gate_dst (N := 2) rfl ?_); refine box_event ?hg (N := 2) ?hd (cs := #[.int .i64 a0_0, .int .i64 a0_1]) (t := 63) ?hr ?_; (case hd => rfl); (case hg => rfl); (case hr => first | (go_simp; done) | (go_simp; rfl)); intro gb518 hg w15 hbox hb; have n0_ := Aside0.mk (below_step (by repeat (first | (with_reducible first | exact HB.out | apply below_alloc | apply pw_below_drewN | apply below_drew1) | exact HB.out)) hb); have n1_ := Aside0.mk (hbox); have n2_ := Aside0.mk ((by rw [hg]; exact (below_size (by repeat (first | (with_reducible first | exact HB.out | apply below_alloc | apply pw_below_drewN | apply below_drew1) | exact HB.out))) : w.heap.size ≤ gb518)); have n3_ := Aside0.mk ((by rw [hg]; exact (below_size (by repeat (first | (with_reducible first | exact HB.out | apply below_alloc | apply pw_below_drewN | apply below_drew1) | exact HB.out))) : w.heap.size ≤ gb518)); clear HB; have HB := n0_; have BK518 := n1_; have GW518 := n2_; have GE518 := n3_; clear n0_ n1_ n2_ n3_; clear hb hbox hg) | ((with_reducible refine gate_dst (N := 3) rfl ?_); refine box_event ?hg (N := 3) ?hd (cs := #[.int .i64 a1_0, .int .i64 a1_1]) (t := 63) ?hr ?_; (case hd => rfl); (case hg => rfl); (case hr => first | (go_simp; done) | (go_simp; rfl)); intro gb519 hg w16 hbox hb; have n0_ := Aside0.mk (blk_below (g := gb518) (o := .cells #[.int .i64 a0_0, .int .i64 a0_1] 63 (0, 0)) (by (with_reducible repeat (first | refine blk_drewN ?_ _ | refine blk_drew ?_ | refine blk_alloc ?_ _)); exact BK518.out) hb); have n1_ := Aside0.mk (below_step (by repeat (first | (with_reducible first | exact HB.out | apply below_alloc | apply pw_below_drewN | apply below_drew1 | refine below_set ?_ GE518.out) | exact HB.out)) hb); have n2_ := Aside0.mk (hbox); have n3_ := Aside0.mk ((by rw [hg]; exact (below_size (by repeat (first | (with_reducible first | exact HB.out | apply below_alloc | apply pw_below_drewN | apply below_drew1 | refine below_set ?_ GE518.out) | exact HB.out))) : w.heap.size ≤ gb519)); have n4_ := Aside0.mk ((by rw [hg]; exact (below_size (by repeat (first | (with_reducible first | exact HB.out | apply below_alloc | apply pw_below_drewN | apply below_drew1 | refine below_set ?_ GE518.out) | exact HB.out))) : w.heap.size ≤ gb519)); have n5_ := Aside0.mk ((by rw [hg]; exact Nat.ne_of_lt (blk_lt (g := gb518) (o := .cells #[.int .i64 a0_0, .int .i64 a0_1] 63 (0, 0)) (by (with_reducible repeat (first | refine blk_drewN ?_ _ | refine blk_drew ?_ | refine blk_alloc ?_ _)); exact BK518.out)) : gb518 ≠ gb519)); have n6_ := Aside0.mk ((by rw [hg]; exact Nat.ne_of_gt (blk_lt (g := gb518) (o := .cells #[.int .i64 a0_0, .int .i64 a0_1] 63 (0, 0)) (by (with_reducible repeat (first | refine blk_drewN ?_ _ | refine blk_drew ?_ | refine blk_alloc ?_ _)); exact BK518.out)) : gb519 ≠ gb518)); clear BK518; clear HB; have BK518 := n0_; have HB := n1_; have BK519 := n2_; have GW519 := n3_; have GE519 := n4_; have NB518_519 := n5_; have NB519_518 := n6_; clear n0_ n1_ n2_ n3_ n4_ n5_ n6_; clear hb hbox hg; have hnb17 := NB518_519.out; have hnc17 := NB519_518.out; have hcz18_0 : w16.cell? ⟨gb518, 0, none⟩ = some (.int .i64 a0_0) := (blk_cell BK518.out 0).trans rfl; have hcz18_1 : w16.cell? ⟨gb518, 1, none⟩ = some (.int .i64 a0_1) := (blk_cell BK518.out 1).trans rfl; have hfz18_0 := blk_frozen BK518.out 0; have hfz18_1 := blk_frozen BK518.out 1; have hcz19_0 : w16.cell? ⟨gb519, 0, none⟩ = some (.int .i64 a1_0) := (blk_cell BK519.out 0).trans rfl; have hcz19_1 : w16.cell? ⟨gb519, 1, none⟩ = some (.int .i64 a1_1) := (blk_cell BK519.out 1).trans rfl; have hfz19_0 := blk_frozen BK519.out 0; have hfz19_1 := blk_frozen BK519.out 1))
  go_ret
  exact ⟨by first | rfl | (simp [errW_none, errW_some] <;> rfl) | (simp [*, errW_none, errW_some] <;> rfl), by repeat (first | (with_reducible first | exact HB.out | apply below_alloc | apply pw_below_drewN | apply below_drew1 | refine below_set ?_ GE518.out | refine below_set ?_ GE519.out) | exact HB.out)⟩

end Go.Proofs.Ytacijlpnpkhjaaa.HFr
