-- Written by a program for this claim (the functions that the statement reaches, and that the program's code comes to them).
import Derived.Test.YtebbdadpgapobaaHElx0
import Derived.Test.YtebbdadpgapobaaHElx5
namespace Go.Proofs.Ytebbdadpgapobaa.HEl
open Go.RowKit Go.Proofs.YtebbdadpgapobaaW.PrintWords Go.Proofs.YtebbdadpgapobaaW.PrintLast Go.Proofs.YtebbdadpgapobaaW.PrintMore
attribute [local go_sem] max2_int min2_int max_two min_two max_three min_three max_four min_four   -- for this text's walks alone
set_option linter.unusedVariables false
set_option linter.unusedSimpArgs false

/-! ### impl_ValidFrame: function 53 -/
mutual
def impl_ValidFrame.j0 : Nat → Bool → List (S90) → List (S104) → Option (Bool)
 | 0, _, _, _ => none
 | k + 1, x26, x174000, x174001 => if x26 = true then (some false) else (impl_ValidFrame.l0 k x174000 (x174000.length : Int) 0 x174000 x174001)
def impl_ValidFrame.l0 : Nat → List (S90) → Int → Int → List (S90) → List (S104) → Option (Bool)
 | 0, _, _, _, _, _ => none
 | k + 1, x28, x29, x30, x174000, x174001 => if x30 < x29 then (if 0 ≤ x30 then (if x30 < (x28.length : Int) then ((impl_within.f ((rd_T90 x28 x30).f0) 0 12).bind fun t179 => (if t179 = true then ((impl_within.f ((rd_T90 x28 x30).f1) 0 12).bind fun t180 => (impl_ValidFrame.j2 k x30 x28 x29 x30 (!t180) x174000 x174001 ((rd_T90 x28 x30).f0) ((rd_T90 x28 x30).f1) ((rd_T90 x28 x30).f2))) else (impl_ValidFrame.j2 k x30 x28 x29 x30 true x174000 x174001 ((rd_T90 x28 x30).f0) ((rd_T90 x28 x30).f1) ((rd_T90 x28 x30).f2)))) else (none)) else (none)) else (impl_ValidFrame.l2 k x174001 (x174001.length : Int) 0 x174000 x174001)
def impl_ValidFrame.j2 : Nat → Int → List (S90) → Int → Int → Bool → List (S90) → List (S104) → Int → Int → Bool → Option (Bool)
 | 0, _, _, _, _, _, _, _, _, _, _ => none
 | k + 1, x3, x28, x29, x30, x44, x174000, x174001, x179000, x179001, x179002 => if x44 = true then (some false) else (if 0 ≤ x3 then (if x3 ≤ (x174000.length : Int) then ((some (x174000.take (x3 : Int).toNat : List (S90))).bind fun y181 => (impl_ValidFrame.l1 k x28 x29 x30 y181 (y181.length : Int) 0 x174000 x174001 x179000 x179001 x179002)) else (none)) else (none))
def impl_ValidFrame.l1 : Nat → List (S90) → Int → Int → List (S90) → Int → Int → List (S90) → List (S104) → Int → Int → Bool → Option (Bool)
 | 0, _, _, _, _, _, _, _, _, _, _, _ => none
 | k + 1, x28, x29, x30, x48, x49, x50, x174000, x174001, x179000, x179001, x179002 => if x50 < x49 then (if 0 ≤ x50 then (if x50 < (x48.length : Int) then (if ((rd_T90 x48 x50).f0) = x179000 then (if ((rd_T90 x48 x50).f1) = x179001 then (some false) else (impl_ValidFrame.l1 k x28 x29 x30 x48 x49 (wrap64 (x50 + 1)) x174000 x174001 x179000 x179001 x179002)) else (impl_ValidFrame.l1 k x28 x29 x30 x48 x49 (wrap64 (x50 + 1)) x174000 x174001 x179000 x179001 x179002)) else (none)) else (none)) else (impl_ValidFrame.l0 k x28 x29 (wrap64 (x30 + 1)) x174000 x174001)
def impl_ValidFrame.l2 : Nat → List (S104) → Int → Int → List (S90) → List (S104) → Option (Bool)
 | 0, _, _, _, _, _ => none
 | k + 1, x69, x70, x71, x174000, x174001 => if x71 < x70 then (if 0 ≤ x71 then (if x71 < (x69.length : Int) then (if ((rd_T104 x69 x71).f0) < 0 then (impl_ValidFrame.j5 k x71 x69 x70 x71 true x174000 x174001 ((rd_T104 x69 x71).f0) ((rd_T104 x69 x71).f1) ((rd_T104 x69 x71).f2)) else (if ((rd_T104 x69 x71).f0) ≥ ((rd_T104 x69 x71).f1) then (impl_ValidFrame.j5 k x71 x69 x70 x71 true x174000 x174001 ((rd_T104 x69 x71).f0) ((rd_T104 x69 x71).f1) ((rd_T104 x69 x71).f2)) else (if ((rd_T104 x69 x71).f1) ≥ (x174000.length : Int) then (impl_ValidFrame.j5 k x71 x69 x70 x71 true x174000 x174001 ((rd_T104 x69 x71).f0) ((rd_T104 x69 x71).f1) ((rd_T104 x69 x71).f2)) else (if 0 ≤ ((rd_T104 x69 x71).f0) then (if ((rd_T104 x69 x71).f0) < (x174000.length : Int) then (if (rd_T90 x174000 ((rd_T104 x69 x71).f0)).f2 = true then (if 0 ≤ ((rd_T104 x69 x71).f1) then (if ((rd_T104 x69 x71).f1) < (x174000.length : Int) then (impl_ValidFrame.j5 k x71 x69 x70 x71 ((rd_T90 x174000 ((rd_T104 x69 x71).f1)).f2) x174000 x174001 ((rd_T104 x69 x71).f0) ((rd_T104 x69 x71).f1) ((rd_T104 x69 x71).f2)) else (none)) else (none)) else (impl_ValidFrame.j5 k x71 x69 x70 x71 false x174000 x174001 ((rd_T104 x69 x71).f0) ((rd_T104 x69 x71).f1) ((rd_T104 x69 x71).f2))) else (none)) else (none))))) else (none)) else (none)) else (some true)
def impl_ValidFrame.j5 : Nat → Int → List (S104) → Int → Int → Bool → List (S90) → List (S104) → Int → Int → Bool → Option (Bool)
 | 0, _, _, _, _, _, _, _, _, _, _ => none
 | k + 1, x7, x69, x70, x71, x111, x174000, x174001, x189000, x189001, x189002 => if x111 = true then (some false) else (if 0 ≤ x7 then (if x7 ≤ (x174001.length : Int) then ((some (x174001.take (x7 : Int).toNat : List (S104))).bind fun y191 => (impl_ValidFrame.l3 k x69 x70 x71 y191 (y191.length : Int) 0 x174000 x174001 x189000 x189001 x189002)) else (none)) else (none))
def impl_ValidFrame.l3 : Nat → List (S104) → Int → Int → List (S104) → Int → Int → List (S90) → List (S104) → Int → Int → Bool → Option (Bool)
 | 0, _, _, _, _, _, _, _, _, _, _, _ => none
 | k + 1, x69, x70, x71, x115, x116, x117, x174000, x174001, x189000, x189001, x189002 => if x117 < x116 then (if 0 ≤ x117 then (if x117 < (x115.length : Int) then (if ((rd_T104 x115 x117).f0) = x189000 then (if ((rd_T104 x115 x117).f1) = x189001 then (some false) else (impl_ValidFrame.l3 k x69 x70 x71 x115 x116 (wrap64 (x117 + 1)) x174000 x174001 x189000 x189001 x189002)) else (impl_ValidFrame.l3 k x69 x70 x71 x115 x116 (wrap64 (x117 + 1)) x174000 x174001 x189000 x189001 x189002)) else (none)) else (none)) else (impl_ValidFrame.l2 k x69 x70 (wrap64 (x71 + 1)) x174000 x174001)
end
def impl_ValidFrame.f (k : Nat) (l0_0 : List (S90)) (l0_1 : List (S104)) : Option (Bool) := if (l0_0.length : Int) > 8 then (impl_ValidFrame.j0 k true l0_0 l0_1) else (if (l0_1.length : Int) > 8 then (impl_ValidFrame.j0 k true l0_0 l0_1) else ((impl_freeKnots.f k l0_0 l0_1).bind fun t174 => (impl_ValidFrame.j0 k (decide ((t174.length : Int) > 3)) l0_0 l0_1)))
theorem impl_ValidFrame.mono_l : ∀ k, (∀ y0 y1 y2, LeO (impl_ValidFrame.j0 k y0 y1 y2) (impl_ValidFrame.j0 (k + 1) y0 y1 y2)) ∧ (∀ y0 y1 y2 y3 y4, LeO (impl_ValidFrame.l0 k y0 y1 y2 y3 y4) (impl_ValidFrame.l0 (k + 1) y0 y1 y2 y3 y4)) ∧ (∀ y0 y1 y2 y3 y4 y5 y6 y7 y8 y9, LeO (impl_ValidFrame.j2 k y0 y1 y2 y3 y4 y5 y6 y7 y8 y9) (impl_ValidFrame.j2 (k + 1) y0 y1 y2 y3 y4 y5 y6 y7 y8 y9)) ∧ (∀ y0 y1 y2 y3 y4 y5 y6 y7 y8 y9 y10, LeO (impl_ValidFrame.l1 k y0 y1 y2 y3 y4 y5 y6 y7 y8 y9 y10) (impl_ValidFrame.l1 (k + 1) y0 y1 y2 y3 y4 y5 y6 y7 y8 y9 y10)) ∧ (∀ y0 y1 y2 y3 y4, LeO (impl_ValidFrame.l2 k y0 y1 y2 y3 y4) (impl_ValidFrame.l2 (k + 1) y0 y1 y2 y3 y4)) ∧ (∀ y0 y1 y2 y3 y4 y5 y6 y7 y8 y9, LeO (impl_ValidFrame.j5 k y0 y1 y2 y3 y4 y5 y6 y7 y8 y9) (impl_ValidFrame.j5 (k + 1) y0 y1 y2 y3 y4 y5 y6 y7 y8 y9)) ∧ (∀ y0 y1 y2 y3 y4 y5 y6 y7 y8 y9 y10, LeO (impl_ValidFrame.l3 k y0 y1 y2 y3 y4 y5 y6 y7 y8 y9 y10) (impl_ValidFrame.l3 (k + 1) y0 y1 y2 y3 y4 y5 y6 y7 y8 y9 y10))
 | 0 => ⟨fun _ _ _ r h => by simp [impl_ValidFrame.j0] at h, fun _ _ _ _ _ r h => by simp [impl_ValidFrame.l0] at h, fun _ _ _ _ _ _ _ _ _ _ r h => by simp [impl_ValidFrame.j2] at h, fun _ _ _ _ _ _ _ _ _ _ _ r h => by simp [impl_ValidFrame.l1] at h, fun _ _ _ _ _ r h => by simp [impl_ValidFrame.l2] at h, fun _ _ _ _ _ _ _ _ _ _ r h => by simp [impl_ValidFrame.j5] at h, fun _ _ _ _ _ _ _ _ _ _ _ r h => by simp [impl_ValidFrame.l3] at h⟩
 | k + 1 => by
  obtain ⟨ih0, ih1, ih2, ih3, ih4, ih5, ih6⟩ := impl_ValidFrame.mono_l k
  refine ⟨?_, ?_, ?_, ?_, ?_, ?_, ?_⟩
  ·intro y0 y1 y2
   unfold impl_ValidFrame.j0
   repeat' first
   | (with_reducible exact ih0 _ _ _)
   | (with_reducible exact ih1 _ _ _ _ _)
   | (with_reducible exact ih2 _ _ _ _ _ _ _ _ _ _)
   | (with_reducible exact ih3 _ _ _ _ _ _ _ _ _ _ _)
   | (with_reducible exact ih4 _ _ _ _ _)
   | (with_reducible exact ih5 _ _ _ _ _ _ _ _ _ _)
   | (with_reducible exact ih6 _ _ _ _ _ _ _ _ _ _ _)
   | (with_reducible exact impl_freeKnots.mono _ _ _)
   | (with_reducible exact LeO.refl _)
   | (with_reducible exact LeO.none _)
   | (with_reducible refine LeO.ite ?_ ?_)
   | (with_reducible refine LeO.bind ?_ (fun _ => ?_))
   | exact ih0 _ _ _
   | exact ih1 _ _ _ _ _
   | exact ih2 _ _ _ _ _ _ _ _ _ _
   | exact ih3 _ _ _ _ _ _ _ _ _ _ _
   | exact ih4 _ _ _ _ _
   | exact ih5 _ _ _ _ _ _ _ _ _ _
   | exact ih6 _ _ _ _ _ _ _ _ _ _ _
   | exact impl_freeKnots.mono _ _ _
   | exact LeO.none _
   | refine LeO.ite ?_ ?_
   | refine LeO.bind ?_ (fun _ => ?_)
  ·intro y0 y1 y2 y3 y4
   unfold impl_ValidFrame.l0
   repeat' first
   | (with_reducible exact ih0 _ _ _)
   | (with_reducible exact ih1 _ _ _ _ _)
   | (with_reducible exact ih2 _ _ _ _ _ _ _ _ _ _)
   | (with_reducible exact ih3 _ _ _ _ _ _ _ _ _ _ _)
   | (with_reducible exact ih4 _ _ _ _ _)
   | (with_reducible exact ih5 _ _ _ _ _ _ _ _ _ _)
   | (with_reducible exact ih6 _ _ _ _ _ _ _ _ _ _ _)
   | (with_reducible exact impl_freeKnots.mono _ _ _)
   | (with_reducible exact LeO.refl _)
   | (with_reducible exact LeO.none _)
   | (with_reducible refine LeO.ite ?_ ?_)
   | (with_reducible refine LeO.bind ?_ (fun _ => ?_))
   | exact ih0 _ _ _
   | exact ih1 _ _ _ _ _
   | exact ih2 _ _ _ _ _ _ _ _ _ _
   | exact ih3 _ _ _ _ _ _ _ _ _ _ _
   | exact ih4 _ _ _ _ _
   | exact ih5 _ _ _ _ _ _ _ _ _ _
   | exact ih6 _ _ _ _ _ _ _ _ _ _ _
   | exact impl_freeKnots.mono _ _ _
   | exact LeO.none _
   | refine LeO.ite ?_ ?_
   | refine LeO.bind ?_ (fun _ => ?_)
  ·intro y0 y1 y2 y3 y4 y5 y6 y7 y8 y9
   unfold impl_ValidFrame.j2
   repeat' first
   | (with_reducible exact ih0 _ _ _)
   | (with_reducible exact ih1 _ _ _ _ _)
   | (with_reducible exact ih2 _ _ _ _ _ _ _ _ _ _)
   | (with_reducible exact ih3 _ _ _ _ _ _ _ _ _ _ _)
   | (with_reducible exact ih4 _ _ _ _ _)
   | (with_reducible exact ih5 _ _ _ _ _ _ _ _ _ _)
   | (with_reducible exact ih6 _ _ _ _ _ _ _ _ _ _ _)
   | (with_reducible exact impl_freeKnots.mono _ _ _)
   | (with_reducible exact LeO.refl _)
   | (with_reducible exact LeO.none _)
   | (with_reducible refine LeO.ite ?_ ?_)
   | (with_reducible refine LeO.bind ?_ (fun _ => ?_))
   | exact ih0 _ _ _
   | exact ih1 _ _ _ _ _
   | exact ih2 _ _ _ _ _ _ _ _ _ _
   | exact ih3 _ _ _ _ _ _ _ _ _ _ _
   | exact ih4 _ _ _ _ _
   | exact ih5 _ _ _ _ _ _ _ _ _ _
   | exact ih6 _ _ _ _ _ _ _ _ _ _ _
   | exact impl_freeKnots.mono _ _ _
   | exact LeO.none _
   | refine LeO.ite ?_ ?_
   | refine LeO.bind ?_ (fun _ => ?_)
  ·intro y0 y1 y2 y3 y4 y5 y6 y7 y8 y9 y10
   unfold impl_ValidFrame.l1
   repeat' first
   | (with_reducible exact ih0 _ _ _)
   | (with_reducible exact ih1 _ _ _ _ _)
   | (with_reducible exact ih2 _ _ _ _ _ _ _ _ _ _)
   | (with_reducible exact ih3 _ _ _ _ _ _ _ _ _ _ _)
   | (with_reducible exact ih4 _ _ _ _ _)
   | (with_reducible exact ih5 _ _ _ _ _ _ _ _ _ _)
   | (with_reducible exact ih6 _ _ _ _ _ _ _ _ _ _ _)
   | (with_reducible exact impl_freeKnots.mono _ _ _)
   | (with_reducible exact LeO.refl _)
   | (with_reducible exact LeO.none _)
   | (with_reducible refine LeO.ite ?_ ?_)
   | (with_reducible refine LeO.bind ?_ (fun _ => ?_))
   | exact ih0 _ _ _
   | exact ih1 _ _ _ _ _
   | exact ih2 _ _ _ _ _ _ _ _ _ _
   | exact ih3 _ _ _ _ _ _ _ _ _ _ _
   | exact ih4 _ _ _ _ _
   | exact ih5 _ _ _ _ _ _ _ _ _ _
   | exact ih6 _ _ _ _ _ _ _ _ _ _ _
   | exact impl_freeKnots.mono _ _ _
   | exact LeO.none _
   | refine LeO.ite ?_ ?_
   | refine LeO.bind ?_ (fun _ => ?_)
  ·intro y0 y1 y2 y3 y4
   unfold impl_ValidFrame.l2
   repeat' first
   | (with_reducible exact ih0 _ _ _)
   | (with_reducible exact ih1 _ _ _ _ _)
   | (with_reducible exact ih2 _ _ _ _ _ _ _ _ _ _)
   | (with_reducible exact ih3 _ _ _ _ _ _ _ _ _ _ _)
   | (with_reducible exact ih4 _ _ _ _ _)
   | (with_reducible exact ih5 _ _ _ _ _ _ _ _ _ _)
   | (with_reducible exact ih6 _ _ _ _ _ _ _ _ _ _ _)
   | (with_reducible exact impl_freeKnots.mono _ _ _)
   | (with_reducible exact LeO.refl _)
   | (with_reducible exact LeO.none _)
   | (with_reducible refine LeO.ite ?_ ?_)
   | (with_reducible refine LeO.bind ?_ (fun _ => ?_))
   | exact ih0 _ _ _
   | exact ih1 _ _ _ _ _
   | exact ih2 _ _ _ _ _ _ _ _ _ _
   | exact ih3 _ _ _ _ _ _ _ _ _ _ _
   | exact ih4 _ _ _ _ _
   | exact ih5 _ _ _ _ _ _ _ _ _ _
   | exact ih6 _ _ _ _ _ _ _ _ _ _ _
   | exact impl_freeKnots.mono _ _ _
   | exact LeO.none _
   | refine LeO.ite ?_ ?_
   | refine LeO.bind ?_ (fun _ => ?_)
  ·intro y0 y1 y2 y3 y4 y5 y6 y7 y8 y9
   unfold impl_ValidFrame.j5
   repeat' first
   | (with_reducible exact ih0 _ _ _)
   | (with_reducible exact ih1 _ _ _ _ _)
   | (with_reducible exact ih2 _ _ _ _ _ _ _ _ _ _)
   | (with_reducible exact ih3 _ _ _ _ _ _ _ _ _ _ _)
   | (with_reducible exact ih4 _ _ _ _ _)
   | (with_reducible exact ih5 _ _ _ _ _ _ _ _ _ _)
   | (with_reducible exact ih6 _ _ _ _ _ _ _ _ _ _ _)
   | (with_reducible exact impl_freeKnots.mono _ _ _)
   | (with_reducible exact LeO.refl _)
   | (with_reducible exact LeO.none _)
   | (with_reducible refine LeO.ite ?_ ?_)
   | (with_reducible refine LeO.bind ?_ (fun _ => ?_))
   | exact ih0 _ _ _
   | exact ih1 _ _ _ _ _
   | exact ih2 _ _ _ _ _ _ _ _ _ _
   | exact ih3 _ _ _ _ _ _ _ _ _ _ _
   | exact ih4 _ _ _ _ _
   | exact ih5 _ _ _ _ _ _ _ _ _ _
   | exact ih6 _ _ _ _ _ _ _ _ _ _ _
   | exact impl_freeKnots.mono _ _ _
   | exact LeO.none _
   | refine LeO.ite ?_ ?_
   | refine LeO.bind ?_ (fun _ => ?_)
  ·intro y0 y1 y2 y3 y4 y5 y6 y7 y8 y9 y10
   unfold impl_ValidFrame.l3
   repeat' first
   | (with_reducible exact ih0 _ _ _)
   | (with_reducible exact ih1 _ _ _ _ _)
   | (with_reducible exact ih2 _ _ _ _ _ _ _ _ _ _)
   | (with_reducible exact ih3 _ _ _ _ _ _ _ _ _ _ _)
   | (with_reducible exact ih4 _ _ _ _ _)
   | (with_reducible exact ih5 _ _ _ _ _ _ _ _ _ _)
   | (with_reducible exact ih6 _ _ _ _ _ _ _ _ _ _ _)
   | (with_reducible exact impl_freeKnots.mono _ _ _)
   | (with_reducible exact LeO.refl _)
   | (with_reducible exact LeO.none _)
   | (with_reducible refine LeO.ite ?_ ?_)
   | (with_reducible refine LeO.bind ?_ (fun _ => ?_))
   | exact ih0 _ _ _
   | exact ih1 _ _ _ _ _
   | exact ih2 _ _ _ _ _ _ _ _ _ _
   | exact ih3 _ _ _ _ _ _ _ _ _ _ _
   | exact ih4 _ _ _ _ _
   | exact ih5 _ _ _ _ _ _ _ _ _ _
   | exact ih6 _ _ _ _ _ _ _ _ _ _ _
   | exact impl_freeKnots.mono _ _ _
   | exact LeO.none _
   | refine LeO.ite ?_ ?_
   | refine LeO.bind ?_ (fun _ => ?_)
theorem impl_ValidFrame.mono : ∀ a0 a1 k, LeO (impl_ValidFrame.f k a0 a1) (impl_ValidFrame.f (k + 1) a0 a1) := by
 intro a0 a1 k
 obtain ⟨ih0, ih1, ih2, ih3, ih4, ih5, ih6⟩ := impl_ValidFrame.mono_l k
 unfold impl_ValidFrame.f
 repeat' first
   | (with_reducible exact ih0 _ _ _)
   | (with_reducible exact ih1 _ _ _ _ _)
   | (with_reducible exact ih2 _ _ _ _ _ _ _ _ _ _)
   | (with_reducible exact ih3 _ _ _ _ _ _ _ _ _ _ _)
   | (with_reducible exact ih4 _ _ _ _ _)
   | (with_reducible exact ih5 _ _ _ _ _ _ _ _ _ _)
   | (with_reducible exact ih6 _ _ _ _ _ _ _ _ _ _ _)
   | (with_reducible exact impl_freeKnots.mono _ _ _)
   | (with_reducible exact LeO.refl _)
   | (with_reducible exact LeO.none _)
   | (with_reducible refine LeO.ite ?_ ?_)
   | (with_reducible refine LeO.bind ?_ (fun _ => ?_))
   | exact ih0 _ _ _
   | exact ih1 _ _ _ _ _
   | exact ih2 _ _ _ _ _ _ _ _ _ _
   | exact ih3 _ _ _ _ _ _ _ _ _ _ _
   | exact ih4 _ _ _ _ _
   | exact ih5 _ _ _ _ _ _ _ _ _ _
   | exact ih6 _ _ _ _ _ _ _ _ _ _ _
   | exact impl_freeKnots.mono _ _ _
   | exact LeO.none _
   | refine LeO.ite ?_ ?_
   | refine LeO.bind ?_ (fun _ => ?_)
set_option maxHeartbeats 8000000 in
set_option maxRecDepth 100000 in
theorem impl_ValidFrame.calls (k : Nat) (A0_0 : Option Addr) (c0_0 : Nat) (l0_0 : List (S90)) (A0_1 : Option Addr) (c0_1 : Nat) (l0_1 : List (S104)) (r : Bool) (w : World) (hr0_0 : Kd.C k90 w A0_0 l0_0.length l0_0) (hc0_0 : l0_0.length ≤ c0_0) (hr0_1 : Kd.C k104 w A0_1 l0_1.length l0_1) (hc0_1 : l0_1.length ≤ c0_1) (h : impl_ValidFrame.f k l0_0 l0_1 = some r) :
  Calls Try.prog 53 #[.agg #[.slice A0_0 l0_0.length c0_0, .slice A0_1 l0_1.length c0_1]] w fun e w' => e = .returned (.bool r) ∧ Below w.heap.size w w' := by
 have hu33 := Try.underlying33; have hu90 := Try.underlying90; have hu104 := Try.underlying104; have HR0_0 := A' hr0_0; have HC0_0 := A' hc0_0; clear hr0_0 hc0_0; have HR0_1 := A' hr0_1; have HC0_1 := A' hc0_1; clear hr0_1 hc0_1; have HB := A' (Below.refl w.heap.size w); have H : (if (l0_0.length : Int) > 8 then (impl_ValidFrame.j0 k true l0_0 l0_1) else (if (l0_1.length : Int) > 8 then (impl_ValidFrame.j0 k true l0_0 l0_1) else ((impl_freeKnots.f k l0_0 l0_1).bind fun t174 => (impl_ValidFrame.j0 k (decide ((t174.length : Int) > 3)) l0_0 l0_1)))) = some r := h; clear h; have HC2 := A' H; clear H; go_enter Try.func53, Try.ntmps53; go_upto_region 1 with (first | ((with_reducible refine gate_dst (N := 1) rfl ?_); (try (refine gate_guard (by rfl) ?_; dsimp only)); refine box_event ?hg (N := 1) ?hd (cs := #[.slice A0_0 l0_0.length c0_0, .slice A0_1 l0_1.length c0_1]) (t := 33) ?hr ?_; (case hd => rfl); (case hg => rfl); (case hr => first | (go_simp; done) | (go_simp; rfl)); intro gb173 hg w3 hbox hb; have n0_ := A' (W' (qK0 HB.out) hb); have n1_ := A' (hbox); have n2_ := A' ((by rw [hg]; exact (V' (qK0 HB.out)) : w.heap.size ≤ gb173)); have n3_ := A' ((by rw [hg]; exact (V' (qK0 HB.out)) : w.heap.size ≤ gb173)); clear HB; have HB := n0_; have BK173 := n1_; have GW173 := n2_; have GE173 := n3_; clear n0_ n1_ n2_ n3_; clear hb hbox hg))
 (try simp only [Act.put, List.setIfInBounds_toArray, List.set_cons_zero, List.set_cons_succ])
 go_cut [26] (fun v26 wc => ∃ (kq : Nat) (x26_1 : Bool), v26 = .bool x26_1 ∧ Aside0 (impl_ValidFrame.j0 kq x26_1 l0_0 l0_1 = some r) ∧ Aside0 (kq ≤ k) ∧ Aside0 (wc.heap[gb173]? = some (.cells #[(.slice A0_0 l0_0.length c0_0), (.slice A0_1 l0_1.length c0_1)] 33 (0, 0))) ∧ Aside0 (Below w.heap.size w wc))
 case first =>
  have H := HC2.out; clear HC2
  by_cases c4 : (l0_0.length : Int) > 8
  ·rw [if_pos c4] at H; have c4b0 : decide (8 < (l0_0.length : Int)) = true := dT' c4; have c4b1 : decide (8 < l0_0.length) = true := dT' (by omega); clear c4; (first | rw [c4b0] | (simp only [i64_w, i32_w]; rw [c4b0]) | skip); have H' := A' H; clear H; have hcz5_0 : w3.cell? ⟨gb173, 0, none⟩ = some (.slice A0_0 l0_0.length c0_0) := (N' BK173.out 0).trans rfl; have hcz5_1 : w3.cell? ⟨gb173, 1, none⟩ = some (.slice A0_1 l0_1.length c0_1) := (N' BK173.out 1).trans rfl; have hfz5_0 := Y' BK173.out 0; have hfz5_1 := Y' BK173.out 1; go_wp2
   go_meet
   case rel => exact ⟨_, (true), qS, H', ⟨by first | omega | exact Nat.le_refl _⟩, ⟨qB BK173.out⟩, ⟨qK1 HB.out GE173.out⟩⟩
  ·rw [if_neg c4] at H; have c4b0 : decide (8 < (l0_0.length : Int)) = false := dF' c4; have c4b1 : decide (8 < l0_0.length) = false := dF' (by omega); clear c4; (first | rw [c4b0] | (simp only [i64_w, i32_w]; rw [c4b0]) | skip)
   by_cases c6 : (l0_1.length : Int) > 8
   ·rw [if_pos c6] at H; have c6b0 : decide (8 < (l0_1.length : Int)) = true := dT' c6; have c6b1 : decide (8 < l0_1.length) = true := dT' (by omega); clear c6; have H' := A' H; clear H; have hcz7_0 : w3.cell? ⟨gb173, 0, none⟩ = some (.slice A0_0 l0_0.length c0_0) := (N' BK173.out 0).trans rfl; have hcz7_1 : w3.cell? ⟨gb173, 1, none⟩ = some (.slice A0_1 l0_1.length c0_1) := (N' BK173.out 1).trans rfl; have hfz7_0 := Y' BK173.out 0; have hfz7_1 := Y' BK173.out 1; go_wp2
    go_meet
    case rel => exact ⟨_, (true), qS, H', ⟨by first | omega | exact Nat.le_refl _⟩, ⟨qB BK173.out⟩, ⟨qK1 HB.out GE173.out⟩⟩
   ·rw [if_neg c6] at H; have c6b0 : decide (8 < (l0_1.length : Int)) = false := dF' c6; have c6b1 : decide (8 < l0_1.length) = false := dF' (by omega); clear c6; replace H := Option.bind_eq_some_iff.mp H; obtain ⟨t174, A80, H⟩ := H; replace H : (impl_ValidFrame.j0 k (decide ((t174.length : Int) > 3)) l0_0 l0_1) = some r := H; have A8 := A' A80; clear A80; have H' := A' H; clear H; have hcz9_0 : w3.cell? ⟨gb173, 0, none⟩ = some (.slice A0_0 l0_0.length c0_0) := (N' BK173.out 0).trans rfl; have hcz9_1 : w3.cell? ⟨gb173, 1, none⟩ = some (.slice A0_1 l0_1.length c0_1) := (N' BK173.out 1).trans rfl; have hfz9_0 := Y' BK173.out 0; have hfz9_1 := Y' BK173.out 1; go_wp2_with (first | (go_at_call 58; (with_reducible refine (impl_freeKnots.calls k _ _ l0_0 _ _ l0_1 t174 _ ?side1 ?side2 ?side3 ?side4 A8.out).mono ?_); (case side1 => exact qT (X' HR0_0.out HB.out)); (case side2 => exact HC0_0.out); (case side3 => exact qT (X' HR0_1.out HB.out)); (case side4 => exact HC0_1.out); rintro e w10 ⟨v175, rfl, ho0, hb⟩; have n0_ := A' (Kd.R_lower ho0 (V' (qK1 HB.out GE173.out))); have n1_ := A' (O' (g := gb173) (qB BK173.out) hb); have n2_ := A' (W' (qK1 HB.out GE173.out) hb); clear BK173; clear HB; have HO176 := n0_; have BK173 := n1_; have HB := n2_; clear n0_ n1_ n2_; (try clear hb); (try clear hb2); (try clear hk); (try clear hi); (try clear ho0); obtain ⟨Ao11, co11, eo11⟩ := Kd.R_slice HO176.out; subst eo11))
    go_meet
    case rel => exact ⟨_, (decide ((t174.length : Int) > 3)), qS, H', ⟨by first | omega | exact Nat.le_refl _⟩, ⟨qB BK173.out⟩, ⟨qK1 HB.out GE173.out⟩⟩
 case rest =>
  clear HC2; try clear p2
  try clear c4
  try clear c4b0
  try clear c4b1
  try clear c5
  try clear c6
  try clear c6b0
  try clear c6b1
  try clear hcz5_0
  try clear hcz5_1
  try clear hcz7_0
  try clear hcz7_1
  try clear hcz9_0
  try clear hcz9_1
  try clear hfz5_0
  try clear hfz5_1
  try clear hfz7_0
  try clear hfz7_1
  try clear hfz9_0
  try clear hfz9_1
  obtain ⟨kq, x26_1, rfl, HA, HJ1, BK173, HB⟩ := hcut
  cases kq with
  | zero => exact absurd HA.out (by simp [impl_ValidFrame.j0])
  | succ kj1 =>
   have H := HA.out; clear HA; simp only [impl_ValidFrame.j0] at H
   by_cases c12 : x26_1 = true
   ·subst c12; have H1 : (some false) = some r := by rw [if_pos rfl] at H; exact H
    clear H; have H := H1; clear H1; obtain rfl := Option.some.inj H; go_wp2; go_ret; exact ⟨qE, qK1 HB.out GE173.out⟩
   ·replace c12 := Bool.eq_false_iff.mpr c12; subst c12; have H1 : (impl_ValidFrame.l0 kj1 l0_0 (l0_0.length : Int) 0 l0_0 l0_1) = some r := by rw [if_neg (show ¬ (false = true) by decide)] at H; exact H
    clear H; have H := H1; clear H1; have H' := A' H; clear H; have hcz13_0 : wc.cell? ⟨gb173, 0, none⟩ = some (.slice A0_0 l0_0.length c0_0) := (N' BK173.out 0).trans rfl; have hcz13_1 : wc.cell? ⟨gb173, 1, none⟩ = some (.slice A0_1 l0_1.length c0_1) := (N' BK173.out 1).trans rfl; have hfz13_0 := Y' BK173.out 0; have hfz13_1 := Y' BK173.out 1; go_wp2
    go_loopg [30] kj1 (fun kq v30 w' => ∃ (x30_2 : Int), v30 = .int .i64 x30_2 ∧ Aside0 (impl_ValidFrame.l0 kq l0_0 (l0_0.length : Int) x30_2 l0_0 l0_1 = some r) ∧ Aside0 (kq ≤ kj1) ∧ Aside0 (w'.heap[gb173]? = some (.cells #[(.slice A0_0 l0_0.length c0_0), (.slice A0_1 l0_1.length c0_1)] 33 (0, 0))) ∧ Aside0 (Below w.heap.size w w'))
    case atStart => exact ⟨(0), qS, H', ⟨Nat.le_refl _⟩, ⟨qB BK173.out⟩, ⟨qK1 HB.out GE173.out⟩⟩
    case round =>
     clear H'; try clear c1
     try clear p2
     try clear c4
     try clear c4b0
     try clear c4b1
     try clear c5
     try clear c6
     try clear c6b0
     try clear c6b1
     try clear c12
     try clear hcz13_0
     try clear hcz13_1
     try clear hcz5_0
     try clear hcz5_1
     try clear hcz7_0
     try clear hcz7_1
     try clear hcz9_0
     try clear hcz9_1
     try clear hfz13_0
     try clear hfz13_1
     try clear hfz5_0
     try clear hfz5_1
     try clear hfz7_0
     try clear hfz7_1
     try clear hfz9_0
     try clear hfz9_1
     try clear p2
     obtain ⟨x30_2, rfl, HA, HK2, BK173, HB⟩ := hrel
     cases gk with
     | zero => exact absurd HA.out (by simp [impl_ValidFrame.l0])
     | succ k2 =>
      have H := HA.out; clear HA; simp only [impl_ValidFrame.l0] at H
      by_cases c14 : x30_2 < (l0_0.length : Int)
      ·rw [if_pos c14] at H; have c14b0 : decide (x30_2 < (l0_0.length : Int)) = true := dT' c14; clear c14
       by_cases c15 : 0 ≤ x30_2
       ·rw [if_pos c15] at H; have c15b0 : decide (0 ≤ x30_2) = true := dT' c15; clear c15
        by_cases c16 : x30_2 < (l0_0.length : Int)
        ·rw [if_pos c16] at H; have c16b0 : decide (x30_2 < (l0_0.length : Int)) = true := dT' c16; clear c16; have HC17 := A' H; clear H; have p177 : 0 ≤ (x30_2 : Int) := oD' qA; have q177 : x30_2 < (l0_0.length : Int) := oD' qA; obtain ⟨ad177, e177, hx177_0, hx177_1, hx177_2⟩ := at_T90 HR0_0.out x30_2 p177 q177
         cases e177
         try replace hx177_0 := qC HB.out hx177_0
         try replace hx177_1 := qC HB.out hx177_1
         try replace hx177_2 := qC HB.out hx177_2
         replace p177 := eq_true p177; replace q177 := eq_true q177; go_upto_region 6 with (first | ((with_reducible refine gate_dst (N := 4) rfl ?_); (try (refine gate_guard (by rfl) ?_; dsimp only)); refine box_event ?hg (N := 4) ?hd (cs := #[.int .i64 0, .int .i64 0, .bool false]) (t := 90) ?hr ?_; (case hd => rfl); (case hg => rfl); (case hr => first | (go_simp; done) | (go_simp; rfl)); intro gb178 hg w18 hbox hb; have n0_ := A' (O' (g := gb173) (qB BK173.out) hb); have n1_ := A' (W' (qK1 HB.out GE173.out) hb); have n2_ := A' (hbox); have n3_ := A' ((by rw [hg]; exact (V' (qK1 HB.out GE173.out)) : w.heap.size ≤ gb178)); have n4_ := A' ((by rw [hg]; exact (V' (qK1 HB.out GE173.out)) : w.heap.size ≤ gb178)); have n5_ := A' ((by rw [hg]; exact Nat.ne_of_lt (bL' (g := gb173) (qB BK173.out)) : gb173 ≠ gb178)); have n6_ := A' ((by rw [hg]; exact Nat.ne_of_gt (bL' (g := gb173) (qB BK173.out)) : gb178 ≠ gb173)); clear BK173; clear HB; have BK173 := n0_; have HB := n1_; have BK178 := n2_; have GW178 := n3_; have GE178 := n4_; have NB173_178 := n5_; have NB178_173 := n6_; clear n0_ n1_ n2_ n3_ n4_ n5_ n6_; clear hb hbox hg; have hnb19 := NB178_173.out; have hnc19 := NB173_178.out; have hcz20_0 : w18.cell? ⟨gb178, 0, none⟩ = some (.int .i64 0) := (N' BK178.out 0).trans rfl; have hcz20_1 : w18.cell? ⟨gb178, 1, none⟩ = some (.int .i64 0) := (N' BK178.out 1).trans rfl; have hcz20_2 : w18.cell? ⟨gb178, 2, none⟩ = some (.bool false) := (N' BK178.out 2).trans rfl; have hfz20_0 := Y' BK178.out 0; have hfz20_1 := Y' BK178.out 1; have hfz20_2 := Y' BK178.out 2))
         (try simp only [Act.put, List.setIfInBounds_toArray, List.set_cons_zero, List.set_cons_succ])
         go_cut [44] (fun v44 wc => ∃ (kq : Nat) (x44_16 : Bool), v44 = .bool x44_16 ∧ Aside0 (impl_ValidFrame.j2 kq x30_2 l0_0 (l0_0.length : Int) x30_2 x44_16 l0_0 l0_1 ((rd_T90 l0_0 x30_2).f0) ((rd_T90 l0_0 x30_2).f1) ((rd_T90 l0_0 x30_2).f2) = some r) ∧ Aside0 (kq ≤ k2) ∧ Aside0 (wc.heap[gb173]? = some (.cells #[(.slice (some ad177) l0_0.length c0_0), (.slice A0_1 l0_1.length c0_1)] 33 (0, 0))) ∧ Aside0 (wc.heap[gb178]? = some (.cells #[.int .i64 ((rd_T90 l0_0 x30_2).f0), .int .i64 ((rd_T90 l0_0 x30_2).f1), .bool ((rd_T90 l0_0 x30_2).f2)] 90 (0, 0))) ∧ Aside0 (Below w.heap.size w wc))
         case first =>
          have H := HC17.out; clear HC17; replace H := Option.bind_eq_some_iff.mp H; obtain ⟨t179, A210, H⟩ := H; replace H : (if t179 = true then ((impl_within.f ((rd_T90 l0_0 x30_2).f1) 0 12).bind fun t180 => (impl_ValidFrame.j2 k2 x30_2 l0_0 (l0_0.length : Int) x30_2 (!t180) l0_0 l0_1 ((rd_T90 l0_0 x30_2).f0) ((rd_T90 l0_0 x30_2).f1) ((rd_T90 l0_0 x30_2).f2))) else (impl_ValidFrame.j2 k2 x30_2 l0_0 (l0_0.length : Int) x30_2 true l0_0 l0_1 ((rd_T90 l0_0 x30_2).f0) ((rd_T90 l0_0 x30_2).f1) ((rd_T90 l0_0 x30_2).f2))) = some r := H; have A21 := A' A210; clear A210
          by_cases c22 : t179 = true
          ·subst c22; have H1 : ((impl_within.f ((rd_T90 l0_0 x30_2).f1) 0 12).bind fun t180 => (impl_ValidFrame.j2 k2 x30_2 l0_0 (l0_0.length : Int) x30_2 (!t180) l0_0 l0_1 ((rd_T90 l0_0 x30_2).f0) ((rd_T90 l0_0 x30_2).f1) ((rd_T90 l0_0 x30_2).f2))) = some r := by rw [if_pos rfl] at H; exact H
           clear H; have H := H1; clear H1; replace H := Option.bind_eq_some_iff.mp H; obtain ⟨t180, A230, H⟩ := H; replace H : (impl_ValidFrame.j2 k2 x30_2 l0_0 (l0_0.length : Int) x30_2 (!t180) l0_0 l0_1 ((rd_T90 l0_0 x30_2).f0) ((rd_T90 l0_0 x30_2).f1) ((rd_T90 l0_0 x30_2).f2)) = some r := H; have A23 := A' A230; clear A230; have H' := A' H; clear H; have hnb24 := NB178_173.out; have hnc24 := NB173_178.out; have hcz25_0 : w18.cell? ⟨gb178, 0, none⟩ = some (.int .i64 0) := (N' BK178.out 0).trans rfl; have hcz25_1 : w18.cell? ⟨gb178, 1, none⟩ = some (.int .i64 0) := (N' BK178.out 1).trans rfl; have hcz25_2 : w18.cell? ⟨gb178, 2, none⟩ = some (.bool false) := (N' BK178.out 2).trans rfl; have hfz25_0 := Y' BK178.out 0; have hfz25_1 := Y' BK178.out 1; have hfz25_2 := Y' BK178.out 2; go_wp2_with (first | ((with_reducible refine gate_callee (f := 81) rfl ?_); refine goesL_ (some 37) rfl rfl Try.func81 (by kernel_rfl) rfl #[.int .i64 ((rd_T90 l0_0 x30_2).f0), .int .i64 0, .int .i64 12] rfl (by (try simp only [List.map_toArray, List.map_cons, List.map_nil]); first | done | rfl | (simp only [List.length_drop, List.length_take]; rfl)) ?_; (with_reducible refine (impl_within.calls ((rd_T90 l0_0 x30_2).f0) 0 12 true _ A21.out).mono ?_); rintro e w' ⟨rfl, ⟨nd, rfl⟩⟩; refine ⟨_, rfl, ?_⟩) | (go_at_call 81; (with_reducible refine (impl_within.calls ((rd_T90 l0_0 x30_2).f1) 0 12 t180 _ A23.out).mono ?_); rintro e w' ⟨rfl, ⟨nd, rfl⟩⟩))
           go_meet
           case rel => exact ⟨_, (!t180), qS, H', ⟨by have := HJ1.out; have := HK2.out; first | omega | exact Nat.le_refl _⟩, ⟨qG3 BK173.out NB173_178.out NB173_178.out NB173_178.out⟩, ⟨by (with_reducible repeat (first | refine G' ?_ _ | refine I' ?_ | refine hA' ?_ _)); refine blk_put (cs := #[.int .i64 ((rd_T90 l0_0 x30_2).f0), .int .i64 ((rd_T90 l0_0 x30_2).f1), .bool false]) ?_ 2 _ rfl; (with_reducible repeat (first | refine G' ?_ _ | refine I' ?_ | refine hA' ?_ _)); refine blk_put (cs := #[.int .i64 ((rd_T90 l0_0 x30_2).f0), .int .i64 0, .bool false]) ?_ 1 _ rfl; (with_reducible repeat (first | refine G' ?_ _ | refine I' ?_ | refine hA' ?_ _)); refine blk_put (cs := #[.int .i64 0, .int .i64 0, .bool false]) ?_ 0 _ rfl; (with_reducible repeat (first | refine G' ?_ _ | refine I' ?_ | refine hA' ?_ _)); exact BK178.out⟩, ⟨qK2 HB.out GE173.out GE178.out⟩⟩
          ·replace c22 := Bool.eq_false_iff.mpr c22; subst c22; have H1 : (impl_ValidFrame.j2 k2 x30_2 l0_0 (l0_0.length : Int) x30_2 true l0_0 l0_1 ((rd_T90 l0_0 x30_2).f0) ((rd_T90 l0_0 x30_2).f1) ((rd_T90 l0_0 x30_2).f2)) = some r := by rw [if_neg (show ¬ (false = true) by decide)] at H; exact H
           clear H; have H := H1; clear H1; have H' := A' H; clear H; have hnb26 := NB178_173.out; have hnc26 := NB173_178.out; have hcz27_0 : w18.cell? ⟨gb178, 0, none⟩ = some (.int .i64 0) := (N' BK178.out 0).trans rfl; have hcz27_1 : w18.cell? ⟨gb178, 1, none⟩ = some (.int .i64 0) := (N' BK178.out 1).trans rfl; have hcz27_2 : w18.cell? ⟨gb178, 2, none⟩ = some (.bool false) := (N' BK178.out 2).trans rfl; have hfz27_0 := Y' BK178.out 0; have hfz27_1 := Y' BK178.out 1; have hfz27_2 := Y' BK178.out 2; go_wp2_with (first | ((with_reducible refine gate_callee (f := 81) rfl ?_); refine goesL_ (some 37) rfl rfl Try.func81 (by kernel_rfl) rfl #[.int .i64 ((rd_T90 l0_0 x30_2).f0), .int .i64 0, .int .i64 12] rfl (by (try simp only [List.map_toArray, List.map_cons, List.map_nil]); first | done | rfl | (simp only [List.length_drop, List.length_take]; rfl)) ?_; (with_reducible refine (impl_within.calls ((rd_T90 l0_0 x30_2).f0) 0 12 false _ A21.out).mono ?_); rintro e w' ⟨rfl, ⟨nd, rfl⟩⟩; refine ⟨_, rfl, ?_⟩))
           go_meet
           case rel => exact ⟨_, (true), qS, H', ⟨by have := HJ1.out; have := HK2.out; first | omega | exact Nat.le_refl _⟩, ⟨qG3 BK173.out NB173_178.out NB173_178.out NB173_178.out⟩, ⟨by (with_reducible repeat (first | refine G' ?_ _ | refine I' ?_ | refine hA' ?_ _)); refine blk_put (cs := #[.int .i64 ((rd_T90 l0_0 x30_2).f0), .int .i64 ((rd_T90 l0_0 x30_2).f1), .bool false]) ?_ 2 _ rfl; (with_reducible repeat (first | refine G' ?_ _ | refine I' ?_ | refine hA' ?_ _)); refine blk_put (cs := #[.int .i64 ((rd_T90 l0_0 x30_2).f0), .int .i64 0, .bool false]) ?_ 1 _ rfl; (with_reducible repeat (first | refine G' ?_ _ | refine I' ?_ | refine hA' ?_ _)); refine blk_put (cs := #[.int .i64 0, .int .i64 0, .bool false]) ?_ 0 _ rfl; (with_reducible repeat (first | refine G' ?_ _ | refine I' ?_ | refine hA' ?_ _)); exact BK178.out⟩, ⟨qK2 HB.out GE173.out GE178.out⟩⟩
         case rest =>
          clear HC17; try clear c1
          try clear p1
          try clear q1
          try clear hx1
          try clear c2
          try clear p2
          try clear c4
          try clear c4b0
          try clear c4b1
          try clear c5
          try clear c6
          try clear c6b0
          try clear c6b1
          try clear c8
          try clear c12
          try clear c14
          try clear c14b0
          try clear c15
          try clear c15b0
          try clear c16
          try clear c16b0
          try clear p17
          try clear q17
          try clear hx17
          try clear c19
          try clear c22
          try clear c24
          try clear c26
          try clear hcz13_0
          try clear hcz13_1
          try clear hcz20_0
          try clear hcz20_1
          try clear hcz20_2
          try clear hcz25_0
          try clear hcz25_1
          try clear hcz25_2
          try clear hcz27_0
          try clear hcz27_1
          try clear hcz27_2
          try clear hcz5_0
          try clear hcz5_1
          try clear hcz7_0
          try clear hcz7_1
          try clear hcz9_0
          try clear hcz9_1
          try clear hfz13_0
          try clear hfz13_1
          try clear hfz20_0
          try clear hfz20_1
          try clear hfz20_2
          try clear hfz25_0
          try clear hfz25_1
          try clear hfz25_2
          try clear hfz27_0
          try clear hfz27_1
          try clear hfz27_2
          try clear hfz5_0
          try clear hfz5_1
          try clear hfz7_0
          try clear hfz7_1
          try clear hfz9_0
          try clear hfz9_1
          try clear hx177_0
          try clear hx177_1
          try clear hx177_2
          try clear p177
          try clear p2
          try clear q177
          obtain ⟨kq, x44_16, rfl, HA, HJ16, BK173, BK178, HB⟩ := hcut
          cases kq with
          | zero => exact absurd HA.out (by simp [impl_ValidFrame.j2])
          | succ kj16 =>
           have H := HA.out; clear HA; simp only [impl_ValidFrame.j2] at H
           by_cases c28 : x44_16 = true
           ·subst c28; have H1 : (some false) = some r := by rw [if_pos rfl] at H; exact H
            clear H; have H := H1; clear H1; obtain rfl := Option.some.inj H; go_wp2; go_ret; exact ⟨qE, qK2 HB.out GE173.out GE178.out⟩
           ·replace c28 := Bool.eq_false_iff.mpr c28; subst c28; have H1 : (if 0 ≤ x30_2 then (if x30_2 ≤ (l0_0.length : Int) then ((some (l0_0.take (x30_2 : Int).toNat : List (S90))).bind fun y181 => (impl_ValidFrame.l1 kj16 l0_0 (l0_0.length : Int) x30_2 y181 (y181.length : Int) 0 l0_0 l0_1 ((rd_T90 l0_0 x30_2).f0) ((rd_T90 l0_0 x30_2).f1) ((rd_T90 l0_0 x30_2).f2))) else (none)) else (none)) = some r := by rw [if_neg (show ¬ (false = true) by decide)] at H; exact H
            clear H; have H := H1; clear H1
            by_cases c29 : 0 ≤ x30_2
            ·rw [if_pos c29] at H; have c29b0 := eq_true c29; have c29b1 : decide (0 ≤ x30_2) = true := dT' c29; clear c29
             by_cases c30 : x30_2 ≤ (l0_0.length : Int)
             ·rw [if_pos c30] at H; have c30b0 := eq_true c30; have c30b1 : decide (x30_2 ≤ (l0_0.length : Int)) = true := dT' c30; clear c30; obtain ⟨y181, hy181⟩ : ∃ y_ : List (S90), y_ = (l0_0.take (x30_2 : Int).toNat) := ⟨_, rfl⟩
              replace H : (impl_ValidFrame.l1 kj16 l0_0 (l0_0.length : Int) x30_2 y181 (y181.length : Int) 0 l0_0 l0_1 ((rd_T90 l0_0 x30_2).f0) ((rd_T90 l0_0 x30_2).f1) ((rd_T90 l0_0 x30_2).f2)) = some r := by first | (rw [hy181]; with_reducible exact H) | (have H2_ := (Option.bind_some _ _).symm.trans H; rw [hy181]; with_reducible exact H2_) | (have H2_ := (Option.bind_some _ _).symm.trans H; with_reducible exact H2_) | with_reducible exact H | (rw [hy181]; exact H) | exact H
              have Ny181 := A' hy181; clear hy181; have H' := A' H; clear H; have hnb31 := NB173_178.out; have hnc31 := NB178_173.out; have hcz32_0 : wc.cell? ⟨gb173, 0, none⟩ = some (.slice (some ad177) l0_0.length c0_0) := (N' BK173.out 0).trans rfl; have hcz32_1 : wc.cell? ⟨gb173, 1, none⟩ = some (.slice A0_1 l0_1.length c0_1) := (N' BK173.out 1).trans rfl; have hfz32_0 := Y' BK173.out 0; have hfz32_1 := Y' BK173.out 1; have q33 : (x30_2 : Int) ≤ ((l0_0.length : Int) : Int) := oD' qA; obtain ⟨i033, hi033, _, hsz33, _⟩ := info_parts info90; have hroom33 : l0_0.length ≤ c0_0 := HC0_0.out; have hC33 : Kd.C k90 _ (some ad177) l0_0.length l0_0 := HR0_0.out; have hcut33 := cut_to (P := Try.prog) 30 90 .i64 Try.underlying30 hi033 (some ad177) l0_0.length c0_0 x30_2 (oD' qA) q33 hroom33; have hr33 := Kd.C_take (m := (x30_2 : Int).toNat) hC33 (by omega); have hy33 : y181.length = (x30_2 : Int).toNat := (by rw [Ny181.out, List.length_take]; omega)
              rw [← Ny181.out] at hr33; rw [← hy33] at hcut33; have HR184 := A' hr33; have HC184 := A' (show y181.length ≤ c0_0 from by omega); clear hr33 hC33 hroom33 hi033 hsz33; have KY33 := A' hy33; clear hy33; replace q33 := eq_true q33; go_wp2
              go_loopg [50] kj16 (fun kq v50 w' => ∃ (x50_4 : Int), v50 = .int .i64 x50_4 ∧ Aside0 (impl_ValidFrame.l1 kq l0_0 (l0_0.length : Int) x30_2 y181 (y181.length : Int) x50_4 l0_0 l0_1 ((rd_T90 l0_0 x30_2).f0) ((rd_T90 l0_0 x30_2).f1) ((rd_T90 l0_0 x30_2).f2) = some r) ∧ Aside0 (kq ≤ kj16) ∧ Aside0 (w'.heap[gb173]? = some (.cells #[(.slice (some ad177) l0_0.length c0_0), (.slice A0_1 l0_1.length c0_1)] 33 (0, 0))) ∧ Aside0 (w'.heap[gb178]? = some (.cells #[.int .i64 ((rd_T90 l0_0 x30_2).f0), .int .i64 ((rd_T90 l0_0 x30_2).f1), .bool ((rd_T90 l0_0 x30_2).f2)] 90 (0, 0))) ∧ Aside0 (Below w.heap.size w w'))
              case atStart => exact ⟨(0), qS, H', ⟨Nat.le_refl _⟩, ⟨qB BK173.out⟩, ⟨qB BK178.out⟩, ⟨qK2 HB.out GE173.out GE178.out⟩⟩
              case round =>
               clear H'; try clear c1
               try clear p1
               try clear q1
               try clear hx1
               try clear c2
               try clear p2
               try clear c3
               try clear q3
               try clear c4
               try clear c4b0
               try clear c4b1
               try clear c5
               try clear c6
               try clear c6b0
               try clear c6b1
               try clear c8
               try clear c12
               try clear c14
               try clear c14b0
               try clear c15
               try clear c15b0
               try clear c16
               try clear c16b0
               try clear p17
               try clear q17
               try clear hx17
               try clear c19
               try clear c22
               try clear c24
               try clear c26
               try clear c28
               try clear c29
               try clear c29b0
               try clear c29b1
               try clear c30
               try clear c30b0
               try clear c30b1
               try clear c31
               try clear q33
               try clear hcz13_0
               try clear hcz13_1
               try clear hcz20_0
               try clear hcz20_1
               try clear hcz20_2
               try clear hcz25_0
               try clear hcz25_1
               try clear hcz25_2
               try clear hcz27_0
               try clear hcz27_1
               try clear hcz27_2
               try clear hcz32_0
               try clear hcz32_1
               try clear hcz5_0
               try clear hcz5_1
               try clear hcz7_0
               try clear hcz7_1
               try clear hcz9_0
               try clear hcz9_1
               try clear hfz13_0
               try clear hfz13_1
               try clear hfz20_0
               try clear hfz20_1
               try clear hfz20_2
               try clear hfz25_0
               try clear hfz25_1
               try clear hfz25_2
               try clear hfz27_0
               try clear hfz27_1
               try clear hfz27_2
               try clear hfz32_0
               try clear hfz32_1
               try clear hfz5_0
               try clear hfz5_1
               try clear hfz7_0
               try clear hfz7_1
               try clear hfz9_0
               try clear hfz9_1
               try clear hx177_0
               try clear hx177_1
               try clear hx177_2
               try clear p1
               try clear p17
               try clear p177
               try clear p2
               try clear q1
               try clear q17
               try clear q177
               try clear q33
               obtain ⟨x50_4, rfl, HA, HK4, BK173, BK178, HB⟩ := hrel
               cases gk with
               | zero => exact absurd HA.out (by simp [impl_ValidFrame.l1])
               | succ k4 =>
                have H := HA.out; clear HA; simp only [impl_ValidFrame.l1] at H
                by_cases c34 : x50_4 < (y181.length : Int)
                ·rw [if_pos c34] at H; have c34b0 : decide (x50_4 < (y181.length : Int)) = true := dT' c34; clear c34
                 by_cases c35 : 0 ≤ x50_4
                 ·rw [if_pos c35] at H; have c35b0 : decide (0 ≤ x50_4) = true := dT' c35; clear c35
                  by_cases c36 : x50_4 < (y181.length : Int)
                  ·rw [if_pos c36] at H; have c36b0 : decide (x50_4 < (y181.length : Int)) = true := dT' c36; clear c36
                   by_cases c37 : ((rd_T90 y181 x50_4).f0) = ((rd_T90 l0_0 x30_2).f0)
                   ·rw [if_pos c37] at H; have c37b0 : (((rd_T90 y181 x50_4).f0) == ((rd_T90 l0_0 x30_2).f0)) = true := beq_iff_eq.mpr c37; have c37b1 : (((rd_T90 y181 x50_4).f0) != ((rd_T90 l0_0 x30_2).f0)) = false := bne_eq_false_iff_eq.mpr c37; clear c37
                    by_cases c38 : ((rd_T90 y181 x50_4).f1) = ((rd_T90 l0_0 x30_2).f1)
                    ·rw [if_pos c38] at H; have c38b0 : (((rd_T90 y181 x50_4).f1) == ((rd_T90 l0_0 x30_2).f1)) = true := beq_iff_eq.mpr c38; have c38b1 : (((rd_T90 y181 x50_4).f1) != ((rd_T90 l0_0 x30_2).f1)) = false := bne_eq_false_iff_eq.mpr c38; clear c38; obtain rfl := Option.some.inj H; have p185 : 0 ≤ (x50_4 : Int) := oD' qA; have q185 : x50_4 < (y181.length : Int) := oD' qA; obtain ⟨ad185, e185, hx185_0, hx185_1, hx185_2⟩ := at_T90 HR184.out x50_4 p185 q185; obtain rfl : ad177 = ad185 := (by injection e185)
                     try replace hx185_0 := qC HB.out hx185_0
                     try replace hx185_1 := qC HB.out hx185_1
                     try replace hx185_2 := qC HB.out hx185_2
                     replace p185 := eq_true p185; replace q185 := eq_true q185; go_wp2_with (first | ((with_reducible refine gate_dst (N := 6) rfl ?_); (try (refine gate_guard (by rfl) ?_; dsimp only)); refine box_event ?hg (N := 6) ?hd (cs := #[.int .i64 0, .int .i64 0, .bool false]) (t := 90) ?hr ?_; (case hd => rfl); (case hg => rfl); (case hr => first | (go_simp; done) | (go_simp; rfl)); intro gb186 hg w39 hbox hb; have n0_ := A' (O' (g := gb173) (qB BK173.out) hb); have n1_ := A' (O' (g := gb178) (qB BK178.out) hb); have n2_ := A' (W' (qK2 HB.out GE173.out GE178.out) hb); have n3_ := A' (hbox); have n4_ := A' ((by rw [hg]; exact (V' (qK2 HB.out GE173.out GE178.out)) : w.heap.size ≤ gb186)); have n5_ := A' ((by rw [hg]; exact (V' (qK2 HB.out GE173.out GE178.out)) : w.heap.size ≤ gb186)); have n6_ := A' ((by rw [hg]; exact Nat.ne_of_lt (bL' (g := gb173) (qB BK173.out)) : gb173 ≠ gb186)); have n7_ := A' ((by rw [hg]; exact Nat.ne_of_gt (bL' (g := gb173) (qB BK173.out)) : gb186 ≠ gb173)); have n8_ := A' ((by rw [hg]; exact Nat.ne_of_lt (bL' (g := gb178) (qB BK178.out)) : gb178 ≠ gb186)); have n9_ := A' ((by rw [hg]; exact Nat.ne_of_gt (bL' (g := gb178) (qB BK178.out)) : gb186 ≠ gb178)); clear BK173; clear BK178; clear HB; have BK173 := n0_; have BK178 := n1_; have HB := n2_; have BK186 := n3_; have GW186 := n4_; have GE186 := n5_; have NB173_186 := n6_; have NB186_173 := n7_; have NB178_186 := n8_; have NB186_178 := n9_; clear n0_ n1_ n2_ n3_ n4_ n5_ n6_ n7_ n8_ n9_; clear hb hbox hg; have hnb40 := NB186_173.out; have hnc40 := NB173_186.out; have hnb41 := NB186_178.out; have hnc41 := NB178_186.out; have hcz42_0 : w39.cell? ⟨gb186, 0, none⟩ = some (.int .i64 0) := (N' BK186.out 0).trans rfl; have hcz42_1 : w39.cell? ⟨gb186, 1, none⟩ = some (.int .i64 0) := (N' BK186.out 1).trans rfl; have hcz42_2 : w39.cell? ⟨gb186, 2, none⟩ = some (.bool false) := (N' BK186.out 2).trans rfl; have hfz42_0 := Y' BK186.out 0; have hfz42_1 := Y' BK186.out 1; have hfz42_2 := Y' BK186.out 2; have hnb43 := NB178_173.out; have hnc43 := NB173_178.out; have hcz44_0 : w39.cell? ⟨gb178, 0, none⟩ = some (.int .i64 ((rd_T90 l0_0 x30_2).f0)) := (N' BK178.out 0).trans rfl; have hcz44_1 : w39.cell? ⟨gb178, 1, none⟩ = some (.int .i64 ((rd_T90 l0_0 x30_2).f1)) := (N' BK178.out 1).trans rfl; have hcz44_2 : w39.cell? ⟨gb178, 2, none⟩ = some (.bool ((rd_T90 l0_0 x30_2).f2)) := (N' BK178.out 2).trans rfl; have hfz44_0 := Y' BK178.out 0; have hfz44_1 := Y' BK178.out 1; have hfz44_2 := Y' BK178.out 2)); go_ret; exact ⟨qE, qK3 HB.out GE173.out GE178.out GE186.out⟩
                    ·rw [if_neg c38] at H; have c38b0 : (((rd_T90 y181 x50_4).f1) == ((rd_T90 l0_0 x30_2).f1)) = false := beq_eq_false_iff_ne.mpr c38; have c38b1 : (((rd_T90 y181 x50_4).f1) != ((rd_T90 l0_0 x30_2).f1)) = true := bne_iff_ne.mpr c38; have H' := A' H; clear H; have p185 : 0 ≤ (x50_4 : Int) := oD' qA; have q185 : x50_4 < (y181.length : Int) := oD' qA; obtain ⟨ad185, e185, hx185_0, hx185_1, hx185_2⟩ := at_T90 HR184.out x50_4 p185 q185; obtain rfl : ad177 = ad185 := (by injection e185)
                     try replace hx185_0 := qC HB.out hx185_0
                     try replace hx185_1 := qC HB.out hx185_1
                     try replace hx185_2 := qC HB.out hx185_2
                     replace p185 := eq_true p185; replace q185 := eq_true q185; go_wp2_with (first | ((with_reducible refine gate_dst (N := 6) rfl ?_); (try (refine gate_guard (by rfl) ?_; dsimp only)); refine box_event ?hg (N := 6) ?hd (cs := #[.int .i64 0, .int .i64 0, .bool false]) (t := 90) ?hr ?_; (case hd => rfl); (case hg => rfl); (case hr => first | (go_simp; done) | (go_simp; rfl)); intro gb186 hg w45 hbox hb; have n0_ := A' (O' (g := gb173) (qB BK173.out) hb); have n1_ := A' (O' (g := gb178) (qB BK178.out) hb); have n2_ := A' (W' (qK2 HB.out GE173.out GE178.out) hb); have n3_ := A' (hbox); have n4_ := A' ((by rw [hg]; exact (V' (qK2 HB.out GE173.out GE178.out)) : w.heap.size ≤ gb186)); have n5_ := A' ((by rw [hg]; exact (V' (qK2 HB.out GE173.out GE178.out)) : w.heap.size ≤ gb186)); have n6_ := A' ((by rw [hg]; exact Nat.ne_of_lt (bL' (g := gb173) (qB BK173.out)) : gb173 ≠ gb186)); have n7_ := A' ((by rw [hg]; exact Nat.ne_of_gt (bL' (g := gb173) (qB BK173.out)) : gb186 ≠ gb173)); have n8_ := A' ((by rw [hg]; exact Nat.ne_of_lt (bL' (g := gb178) (qB BK178.out)) : gb178 ≠ gb186)); have n9_ := A' ((by rw [hg]; exact Nat.ne_of_gt (bL' (g := gb178) (qB BK178.out)) : gb186 ≠ gb178)); clear BK173; clear BK178; clear HB; have BK173 := n0_; have BK178 := n1_; have HB := n2_; have BK186 := n3_; have GW186 := n4_; have GE186 := n5_; have NB173_186 := n6_; have NB186_173 := n7_; have NB178_186 := n8_; have NB186_178 := n9_; clear n0_ n1_ n2_ n3_ n4_ n5_ n6_ n7_ n8_ n9_; clear hb hbox hg; have hnb46 := NB186_173.out; have hnc46 := NB173_186.out; have hnb47 := NB186_178.out; have hnc47 := NB178_186.out; have hcz48_0 : w45.cell? ⟨gb186, 0, none⟩ = some (.int .i64 0) := (N' BK186.out 0).trans rfl; have hcz48_1 : w45.cell? ⟨gb186, 1, none⟩ = some (.int .i64 0) := (N' BK186.out 1).trans rfl; have hcz48_2 : w45.cell? ⟨gb186, 2, none⟩ = some (.bool false) := (N' BK186.out 2).trans rfl; have hfz48_0 := Y' BK186.out 0; have hfz48_1 := Y' BK186.out 1; have hfz48_2 := Y' BK186.out 2; have hnb49 := NB178_173.out; have hnc49 := NB173_178.out; have hcz50_0 : w45.cell? ⟨gb178, 0, none⟩ = some (.int .i64 ((rd_T90 l0_0 x30_2).f0)) := (N' BK178.out 0).trans rfl; have hcz50_1 : w45.cell? ⟨gb178, 1, none⟩ = some (.int .i64 ((rd_T90 l0_0 x30_2).f1)) := (N' BK178.out 1).trans rfl; have hcz50_2 : w45.cell? ⟨gb178, 2, none⟩ = some (.bool ((rd_T90 l0_0 x30_2).f2)) := (N' BK178.out 2).trans rfl; have hfz50_0 := Y' BK178.out 0; have hfz50_1 := Y' BK178.out 1; have hfz50_2 := Y' BK178.out 2))
                     go_roundg k4
                     case measure => have := HJ1.out; have := HK2.out; have := HJ16.out; have := HK4.out; omega
                     case rel => exact ⟨(wrap64 (x50_4 + 1)), qS, H', ⟨by have := HJ1.out; have := HK2.out; have := HJ16.out; have := HK4.out; omega⟩, ⟨qG3 BK173.out NB173_186.out NB173_186.out NB173_186.out⟩, ⟨qG3 BK178.out NB178_186.out NB178_186.out NB178_186.out⟩, ⟨qK3 HB.out GE173.out GE178.out GE186.out⟩⟩
                   ·rw [if_neg c37] at H; have c37b0 : (((rd_T90 y181 x50_4).f0) == ((rd_T90 l0_0 x30_2).f0)) = false := beq_eq_false_iff_ne.mpr c37; have c37b1 : (((rd_T90 y181 x50_4).f0) != ((rd_T90 l0_0 x30_2).f0)) = true := bne_iff_ne.mpr c37; have H' := A' H; clear H; have p185 : 0 ≤ (x50_4 : Int) := oD' qA; have q185 : x50_4 < (y181.length : Int) := oD' qA; obtain ⟨ad185, e185, hx185_0, hx185_1, hx185_2⟩ := at_T90 HR184.out x50_4 p185 q185; obtain rfl : ad177 = ad185 := (by injection e185)
                    try replace hx185_0 := qC HB.out hx185_0
                    try replace hx185_1 := qC HB.out hx185_1
                    try replace hx185_2 := qC HB.out hx185_2
                    replace p185 := eq_true p185; replace q185 := eq_true q185; go_wp2_with (first | ((with_reducible refine gate_dst (N := 6) rfl ?_); (try (refine gate_guard (by rfl) ?_; dsimp only)); refine box_event ?hg (N := 6) ?hd (cs := #[.int .i64 0, .int .i64 0, .bool false]) (t := 90) ?hr ?_; (case hd => rfl); (case hg => rfl); (case hr => first | (go_simp; done) | (go_simp; rfl)); intro gb186 hg w51 hbox hb; have n0_ := A' (O' (g := gb173) (qB BK173.out) hb); have n1_ := A' (O' (g := gb178) (qB BK178.out) hb); have n2_ := A' (W' (qK2 HB.out GE173.out GE178.out) hb); have n3_ := A' (hbox); have n4_ := A' ((by rw [hg]; exact (V' (qK2 HB.out GE173.out GE178.out)) : w.heap.size ≤ gb186)); have n5_ := A' ((by rw [hg]; exact (V' (qK2 HB.out GE173.out GE178.out)) : w.heap.size ≤ gb186)); have n6_ := A' ((by rw [hg]; exact Nat.ne_of_lt (bL' (g := gb173) (qB BK173.out)) : gb173 ≠ gb186)); have n7_ := A' ((by rw [hg]; exact Nat.ne_of_gt (bL' (g := gb173) (qB BK173.out)) : gb186 ≠ gb173)); have n8_ := A' ((by rw [hg]; exact Nat.ne_of_lt (bL' (g := gb178) (qB BK178.out)) : gb178 ≠ gb186)); have n9_ := A' ((by rw [hg]; exact Nat.ne_of_gt (bL' (g := gb178) (qB BK178.out)) : gb186 ≠ gb178)); clear BK173; clear BK178; clear HB; have BK173 := n0_; have BK178 := n1_; have HB := n2_; have BK186 := n3_; have GW186 := n4_; have GE186 := n5_; have NB173_186 := n6_; have NB186_173 := n7_; have NB178_186 := n8_; have NB186_178 := n9_; clear n0_ n1_ n2_ n3_ n4_ n5_ n6_ n7_ n8_ n9_; clear hb hbox hg; have hnb52 := NB186_173.out; have hnc52 := NB173_186.out; have hnb53 := NB186_178.out; have hnc53 := NB178_186.out; have hcz54_0 : w51.cell? ⟨gb186, 0, none⟩ = some (.int .i64 0) := (N' BK186.out 0).trans rfl; have hcz54_1 : w51.cell? ⟨gb186, 1, none⟩ = some (.int .i64 0) := (N' BK186.out 1).trans rfl; have hcz54_2 : w51.cell? ⟨gb186, 2, none⟩ = some (.bool false) := (N' BK186.out 2).trans rfl; have hfz54_0 := Y' BK186.out 0; have hfz54_1 := Y' BK186.out 1; have hfz54_2 := Y' BK186.out 2; have hnb55 := NB178_173.out; have hnc55 := NB173_178.out; have hcz56_0 : w51.cell? ⟨gb178, 0, none⟩ = some (.int .i64 ((rd_T90 l0_0 x30_2).f0)) := (N' BK178.out 0).trans rfl; have hcz56_1 : w51.cell? ⟨gb178, 1, none⟩ = some (.int .i64 ((rd_T90 l0_0 x30_2).f1)) := (N' BK178.out 1).trans rfl; have hcz56_2 : w51.cell? ⟨gb178, 2, none⟩ = some (.bool ((rd_T90 l0_0 x30_2).f2)) := (N' BK178.out 2).trans rfl; have hfz56_0 := Y' BK178.out 0; have hfz56_1 := Y' BK178.out 1; have hfz56_2 := Y' BK178.out 2))
                    go_roundg k4
                    case measure => have := HJ1.out; have := HK2.out; have := HJ16.out; have := HK4.out; omega
                    case rel => exact ⟨(wrap64 (x50_4 + 1)), qS, H', ⟨by have := HJ1.out; have := HK2.out; have := HJ16.out; have := HK4.out; omega⟩, ⟨qG3 BK173.out NB173_186.out NB173_186.out NB173_186.out⟩, ⟨qG3 BK178.out NB178_186.out NB178_186.out NB178_186.out⟩, ⟨qK3 HB.out GE173.out GE178.out GE186.out⟩⟩
                  ·rw [if_neg c36] at H; exact absurd H (by simp)
                 ·rw [if_neg c35] at H; exact absurd H (by simp)
                ·rw [if_neg c34] at H; have c34b0 : decide (x50_4 < (y181.length : Int)) = false := dF' c34; clear c34; have H' := A' H; clear H; go_wp2
                 go_roundg k4
                 case measure => have := HJ1.out; have := HK2.out; have := HJ16.out; have := HK4.out; omega
                 case rel => exact ⟨(wrap64 (x30_2 + 1)), qS, H', ⟨by have := HJ1.out; have := HK2.out; have := HJ16.out; have := HK4.out; omega⟩, ⟨qB BK173.out⟩, ⟨qK2 HB.out GE173.out GE178.out⟩⟩
             ·rw [if_neg c30] at H; exact absurd H (by simp)
            ·rw [if_neg c29] at H; exact absurd H (by simp)
        ·rw [if_neg c16] at H; exact absurd H (by simp)
       ·rw [if_neg c15] at H; exact absurd H (by simp)
      ·rw [if_neg c14] at H; have c14b0 : decide (x30_2 < (l0_0.length : Int)) = false := dF' c14; clear c14; have H' := A' H; clear H; have hcz57_0 : wr.cell? ⟨gb173, 0, none⟩ = some (.slice A0_0 l0_0.length c0_0) := (N' BK173.out 0).trans rfl; have hcz57_1 : wr.cell? ⟨gb173, 1, none⟩ = some (.slice A0_1 l0_1.length c0_1) := (N' BK173.out 1).trans rfl; have hfz57_0 := Y' BK173.out 0; have hfz57_1 := Y' BK173.out 1; go_wp2
       go_loopg [71] k2 (fun kq v71 w' => ∃ (x71_3 : Int), v71 = .int .i64 x71_3 ∧ Aside0 (impl_ValidFrame.l2 kq l0_1 (l0_1.length : Int) x71_3 l0_0 l0_1 = some r) ∧ Aside0 (kq ≤ k2) ∧ Aside0 (w'.heap[gb173]? = some (.cells #[(.slice A0_0 l0_0.length c0_0), (.slice A0_1 l0_1.length c0_1)] 33 (0, 0))) ∧ Aside0 (Below w.heap.size w w'))
       case atStart => exact ⟨(0), qS, H', ⟨Nat.le_refl _⟩, ⟨qB BK173.out⟩, ⟨qK1 HB.out GE173.out⟩⟩
       case round =>
        clear H'; try clear c1
        try clear p1
        try clear q1
        try clear hx1
        try clear c2
        try clear p2
        try clear c3
        try clear q3
        try clear c4
        try clear c4b0
        try clear c4b1
        try clear c5
        try clear c6
        try clear c6b0
        try clear c6b1
        try clear p6
        try clear c8
        try clear c12
        try clear c14
        try clear c14b0
        try clear c15
        try clear c15b0
        try clear c16
        try clear c16b0
        try clear p17
        try clear q17
        try clear hx17
        try clear p18
        try clear q18
        try clear hx18
        try clear c19
        try clear c22
        try clear c24
        try clear c26
        try clear c28
        try clear c29
        try clear c29b0
        try clear c29b1
        try clear c30
        try clear c30b0
        try clear c30b1
        try clear c31
        try clear q33
        try clear c34
        try clear c34b0
        try clear c35
        try clear c35b0
        try clear c36
        try clear c36b0
        try clear c37
        try clear c37b0
        try clear c37b1
        try clear c38
        try clear c38b0
        try clear c38b1
        try clear c40
        try clear c41
        try clear c43
        try clear c46
        try clear c47
        try clear c49
        try clear c52
        try clear c53
        try clear c55
        try clear hcz13_0
        try clear hcz13_1
        try clear hcz20_0
        try clear hcz20_1
        try clear hcz20_2
        try clear hcz25_0
        try clear hcz25_1
        try clear hcz25_2
        try clear hcz27_0
        try clear hcz27_1
        try clear hcz27_2
        try clear hcz32_0
        try clear hcz32_1
        try clear hcz42_0
        try clear hcz42_1
        try clear hcz42_2
        try clear hcz44_0
        try clear hcz44_1
        try clear hcz44_2
        try clear hcz48_0
        try clear hcz48_1
        try clear hcz48_2
        try clear hcz50_0
        try clear hcz50_1
        try clear hcz50_2
        try clear hcz54_0
        try clear hcz54_1
        try clear hcz54_2
        try clear hcz56_0
        try clear hcz56_1
        try clear hcz56_2
        try clear hcz57_0
        try clear hcz57_1
        try clear hcz5_0
        try clear hcz5_1
        try clear hcz7_0
        try clear hcz7_1
        try clear hcz9_0
        try clear hcz9_1
        try clear hfz13_0
        try clear hfz13_1
        try clear hfz20_0
        try clear hfz20_1
        try clear hfz20_2
        try clear hfz25_0
        try clear hfz25_1
        try clear hfz25_2
        try clear hfz27_0
        try clear hfz27_1
        try clear hfz27_2
        try clear hfz32_0
        try clear hfz32_1
        try clear hfz42_0
        try clear hfz42_1
        try clear hfz42_2
        try clear hfz44_0
        try clear hfz44_1
        try clear hfz44_2
        try clear hfz48_0
        try clear hfz48_1
        try clear hfz48_2
        try clear hfz50_0
        try clear hfz50_1
        try clear hfz50_2
        try clear hfz54_0
        try clear hfz54_1
        try clear hfz54_2
        try clear hfz56_0
        try clear hfz56_1
        try clear hfz56_2
        try clear hfz57_0
        try clear hfz57_1
        try clear hfz5_0
        try clear hfz5_1
        try clear hfz7_0
        try clear hfz7_1
        try clear hfz9_0
        try clear hfz9_1
        try clear hx177_0
        try clear hx177_1
        try clear hx177_2
        try clear hx185_0
        try clear hx185_1
        try clear hx185_2
        try clear p1
        try clear p17
        try clear p177
        try clear p185
        try clear p2
        try clear q1
        try clear q17
        try clear q177
        try clear q185
        try clear q3
        try clear q33
        obtain ⟨x71_3, rfl, HA, HK3, BK173, HB⟩ := hrel
        cases gk with
        | zero => exact absurd HA.out (by simp [impl_ValidFrame.l2])
        | succ k3 =>
         have H := HA.out; clear HA; simp only [impl_ValidFrame.l2] at H
         by_cases c58 : x71_3 < (l0_1.length : Int)
         ·rw [if_pos c58] at H; have c58b0 : decide (x71_3 < (l0_1.length : Int)) = true := dT' c58; clear c58
          by_cases c59 : 0 ≤ x71_3
          ·rw [if_pos c59] at H; have c59b0 : decide (0 ≤ x71_3) = true := dT' c59; clear c59
           by_cases c60 : x71_3 < (l0_1.length : Int)
           ·rw [if_pos c60] at H; have c60b0 : decide (x71_3 < (l0_1.length : Int)) = true := dT' c60; clear c60; have HC61 := A' H; clear H; have p187 : 0 ≤ (x71_3 : Int) := oD' qA; have q187 : x71_3 < (l0_1.length : Int) := oD' qA; obtain ⟨ad187, e187, hx187_0, hx187_1, hx187_2⟩ := at_T104 HR0_1.out x71_3 p187 q187
            cases e187
            try replace hx187_0 := qC HB.out hx187_0
            try replace hx187_1 := qC HB.out hx187_1
            try replace hx187_2 := qC HB.out hx187_2
            replace p187 := eq_true p187; replace q187 := eq_true q187; go_upto_region 18 with (first | ((with_reducible refine gate_dst (N := 8) rfl ?_); (try (refine gate_guard (by rfl) ?_; dsimp only)); refine box_event ?hg (N := 8) ?hd (cs := #[.int .i64 0, .int .i64 0, .bool false]) (t := 104) ?hr ?_; (case hd => rfl); (case hg => rfl); (case hr => first | (go_simp; done) | (go_simp; rfl)); intro gb188 hg w62 hbox hb; have n0_ := A' (O' (g := gb173) (qB BK173.out) hb); have n1_ := A' (W' (qK1 HB.out GE173.out) hb); have n2_ := A' (hbox); have n3_ := A' ((by rw [hg]; exact (V' (qK1 HB.out GE173.out)) : w.heap.size ≤ gb188)); have n4_ := A' ((by rw [hg]; exact (V' (qK1 HB.out GE173.out)) : w.heap.size ≤ gb188)); have n5_ := A' ((by rw [hg]; exact Nat.ne_of_lt (bL' (g := gb173) (qB BK173.out)) : gb173 ≠ gb188)); have n6_ := A' ((by rw [hg]; exact Nat.ne_of_gt (bL' (g := gb173) (qB BK173.out)) : gb188 ≠ gb173)); clear BK173; clear HB; have BK173 := n0_; have HB := n1_; have BK188 := n2_; have GW188 := n3_; have GE188 := n4_; have NB173_188 := n5_; have NB188_173 := n6_; clear n0_ n1_ n2_ n3_ n4_ n5_ n6_; clear hb hbox hg; have hnb63 := NB188_173.out; have hnc63 := NB173_188.out; have hcz64_0 : w62.cell? ⟨gb188, 0, none⟩ = some (.int .i64 0) := (N' BK188.out 0).trans rfl; have hcz64_1 : w62.cell? ⟨gb188, 1, none⟩ = some (.int .i64 0) := (N' BK188.out 1).trans rfl; have hcz64_2 : w62.cell? ⟨gb188, 2, none⟩ = some (.bool false) := (N' BK188.out 2).trans rfl; have hfz64_0 := Y' BK188.out 0; have hfz64_1 := Y' BK188.out 1; have hfz64_2 := Y' BK188.out 2))
            (try simp only [Act.put, List.setIfInBounds_toArray, List.set_cons_zero, List.set_cons_succ])
            go_cut [111] (fun v111 wc => ∃ (kq : Nat) (x111_60 : Bool), v111 = .bool x111_60 ∧ Aside0 (impl_ValidFrame.j5 kq x71_3 l0_1 (l0_1.length : Int) x71_3 x111_60 l0_0 l0_1 ((rd_T104 l0_1 x71_3).f0) ((rd_T104 l0_1 x71_3).f1) ((rd_T104 l0_1 x71_3).f2) = some r) ∧ Aside0 (kq ≤ k3) ∧ Aside0 (wc.heap[gb173]? = some (.cells #[(.slice A0_0 l0_0.length c0_0), (.slice (some ad187) l0_1.length c0_1)] 33 (0, 0))) ∧ Aside0 (wc.heap[gb188]? = some (.cells #[.int .i64 ((rd_T104 l0_1 x71_3).f0), .int .i64 ((rd_T104 l0_1 x71_3).f1), .bool ((rd_T104 l0_1 x71_3).f2)] 104 (0, 0))) ∧ Aside0 (Below w.heap.size w wc))
            case first =>
             have H := HC61.out; clear HC61
             by_cases c65 : ((rd_T104 l0_1 x71_3).f0) < 0
             ·rw [if_pos c65] at H; have c65b0 : decide (((rd_T104 l0_1 x71_3).f0) < 0) = true := dT' c65; clear c65; (first | rw [c65b0] | (simp only [i64_w, i32_w]; rw [c65b0]) | skip); have H' := A' H; clear H; have hnb66 := NB188_173.out; have hnc66 := NB173_188.out; have hcz67_0 : w62.cell? ⟨gb188, 0, none⟩ = some (.int .i64 0) := (N' BK188.out 0).trans rfl; have hcz67_1 : w62.cell? ⟨gb188, 1, none⟩ = some (.int .i64 0) := (N' BK188.out 1).trans rfl; have hcz67_2 : w62.cell? ⟨gb188, 2, none⟩ = some (.bool false) := (N' BK188.out 2).trans rfl; have hfz67_0 := Y' BK188.out 0; have hfz67_1 := Y' BK188.out 1; have hfz67_2 := Y' BK188.out 2; go_wp2
              go_meet
              case rel => exact ⟨_, (true), qS, H', ⟨by have := HJ1.out; have := HK2.out; have := HK3.out; first | omega | exact Nat.le_refl _⟩, ⟨qG3 BK173.out NB173_188.out NB173_188.out NB173_188.out⟩, ⟨by (with_reducible repeat (first | refine G' ?_ _ | refine I' ?_ | refine hA' ?_ _)); refine blk_put (cs := #[.int .i64 ((rd_T104 l0_1 x71_3).f0), .int .i64 ((rd_T104 l0_1 x71_3).f1), .bool false]) ?_ 2 _ rfl; (with_reducible repeat (first | refine G' ?_ _ | refine I' ?_ | refine hA' ?_ _)); refine blk_put (cs := #[.int .i64 ((rd_T104 l0_1 x71_3).f0), .int .i64 0, .bool false]) ?_ 1 _ rfl; (with_reducible repeat (first | refine G' ?_ _ | refine I' ?_ | refine hA' ?_ _)); refine blk_put (cs := #[.int .i64 0, .int .i64 0, .bool false]) ?_ 0 _ rfl; (with_reducible repeat (first | refine G' ?_ _ | refine I' ?_ | refine hA' ?_ _)); exact BK188.out⟩, ⟨qK2 HB.out GE173.out GE188.out⟩⟩
             ·rw [if_neg c65] at H; have c65b0 : decide (((rd_T104 l0_1 x71_3).f0) < 0) = false := dF' c65; clear c65; (first | rw [c65b0] | (simp only [i64_w, i32_w]; rw [c65b0]) | skip)
              by_cases c68 : ((rd_T104 l0_1 x71_3).f0) ≥ ((rd_T104 l0_1 x71_3).f1)
              ·rw [if_pos c68] at H; have c68b0 : decide (((rd_T104 l0_1 x71_3).f1) ≤ ((rd_T104 l0_1 x71_3).f0)) = true := dT' c68; clear c68; have H' := A' H; clear H; have hnb69 := NB188_173.out; have hnc69 := NB173_188.out; have hcz70_0 : w62.cell? ⟨gb188, 0, none⟩ = some (.int .i64 0) := (N' BK188.out 0).trans rfl; have hcz70_1 : w62.cell? ⟨gb188, 1, none⟩ = some (.int .i64 0) := (N' BK188.out 1).trans rfl; have hcz70_2 : w62.cell? ⟨gb188, 2, none⟩ = some (.bool false) := (N' BK188.out 2).trans rfl; have hfz70_0 := Y' BK188.out 0; have hfz70_1 := Y' BK188.out 1; have hfz70_2 := Y' BK188.out 2; go_wp2
               go_meet
               case rel => exact ⟨_, (true), qS, H', ⟨by have := HJ1.out; have := HK2.out; have := HK3.out; first | omega | exact Nat.le_refl _⟩, ⟨qG3 BK173.out NB173_188.out NB173_188.out NB173_188.out⟩, ⟨by (with_reducible repeat (first | refine G' ?_ _ | refine I' ?_ | refine hA' ?_ _)); refine blk_put (cs := #[.int .i64 ((rd_T104 l0_1 x71_3).f0), .int .i64 ((rd_T104 l0_1 x71_3).f1), .bool false]) ?_ 2 _ rfl; (with_reducible repeat (first | refine G' ?_ _ | refine I' ?_ | refine hA' ?_ _)); refine blk_put (cs := #[.int .i64 ((rd_T104 l0_1 x71_3).f0), .int .i64 0, .bool false]) ?_ 1 _ rfl; (with_reducible repeat (first | refine G' ?_ _ | refine I' ?_ | refine hA' ?_ _)); refine blk_put (cs := #[.int .i64 0, .int .i64 0, .bool false]) ?_ 0 _ rfl; (with_reducible repeat (first | refine G' ?_ _ | refine I' ?_ | refine hA' ?_ _)); exact BK188.out⟩, ⟨qK2 HB.out GE173.out GE188.out⟩⟩
              ·rw [if_neg c68] at H; have c68b0 : decide (((rd_T104 l0_1 x71_3).f1) ≤ ((rd_T104 l0_1 x71_3).f0)) = false := dF' c68; clear c68
               by_cases c71 : ((rd_T104 l0_1 x71_3).f1) ≥ (l0_0.length : Int)
               ·rw [if_pos c71] at H; have c71b0 : decide ((l0_0.length : Int) ≤ ((rd_T104 l0_1 x71_3).f1)) = true := dT' c71; clear c71; have H' := A' H; clear H; have hnb72 := NB188_173.out; have hnc72 := NB173_188.out; have hcz73_0 : w62.cell? ⟨gb188, 0, none⟩ = some (.int .i64 0) := (N' BK188.out 0).trans rfl; have hcz73_1 : w62.cell? ⟨gb188, 1, none⟩ = some (.int .i64 0) := (N' BK188.out 1).trans rfl; have hcz73_2 : w62.cell? ⟨gb188, 2, none⟩ = some (.bool false) := (N' BK188.out 2).trans rfl; have hfz73_0 := Y' BK188.out 0; have hfz73_1 := Y' BK188.out 1; have hfz73_2 := Y' BK188.out 2; have hcz74_0 : w62.cell? ⟨gb173, 0, none⟩ = some (.slice A0_0 l0_0.length c0_0) := (N' BK173.out 0).trans rfl; have hcz74_1 : w62.cell? ⟨gb173, 1, none⟩ = some (.slice (some ad187) l0_1.length c0_1) := (N' BK173.out 1).trans rfl; have hfz74_0 := Y' BK173.out 0; have hfz74_1 := Y' BK173.out 1; go_wp2
                go_meet
                case rel => exact ⟨_, (true), qS, H', ⟨by have := HJ1.out; have := HK2.out; have := HK3.out; first | omega | exact Nat.le_refl _⟩, ⟨qG3 BK173.out NB173_188.out NB173_188.out NB173_188.out⟩, ⟨by (with_reducible repeat (first | refine G' ?_ _ | refine I' ?_ | refine hA' ?_ _)); refine blk_put (cs := #[.int .i64 ((rd_T104 l0_1 x71_3).f0), .int .i64 ((rd_T104 l0_1 x71_3).f1), .bool false]) ?_ 2 _ rfl; (with_reducible repeat (first | refine G' ?_ _ | refine I' ?_ | refine hA' ?_ _)); refine blk_put (cs := #[.int .i64 ((rd_T104 l0_1 x71_3).f0), .int .i64 0, .bool false]) ?_ 1 _ rfl; (with_reducible repeat (first | refine G' ?_ _ | refine I' ?_ | refine hA' ?_ _)); refine blk_put (cs := #[.int .i64 0, .int .i64 0, .bool false]) ?_ 0 _ rfl; (with_reducible repeat (first | refine G' ?_ _ | refine I' ?_ | refine hA' ?_ _)); exact BK188.out⟩, ⟨qK2 HB.out GE173.out GE188.out⟩⟩
               ·rw [if_neg c71] at H; have c71b0 : decide ((l0_0.length : Int) ≤ ((rd_T104 l0_1 x71_3).f1)) = false := dF' c71; clear c71
                by_cases c75 : 0 ≤ ((rd_T104 l0_1 x71_3).f0)
                ·rw [if_pos c75] at H; have c75b0 : decide (0 ≤ ((rd_T104 l0_1 x71_3).f0)) = true := dT' c75; clear c75
                 by_cases c76 : ((rd_T104 l0_1 x71_3).f0) < (l0_0.length : Int)
                 ·rw [if_pos c76] at H; have c76b0 : decide (((rd_T104 l0_1 x71_3).f0) < (l0_0.length : Int)) = true := dT' c76; clear c76; obtain ⟨bq77, hbq77⟩ : ∃ b_ : Bool, b_ = ((rd_T90 l0_0 ((rd_T104 l0_1 x71_3).f0)).f2) := ⟨_, rfl⟩
                  replace H : (if bq77 = true then (if 0 ≤ ((rd_T104 l0_1 x71_3).f1) then (if ((rd_T104 l0_1 x71_3).f1) < (l0_0.length : Int) then (impl_ValidFrame.j5 k3 x71_3 l0_1 (l0_1.length : Int) x71_3 ((rd_T90 l0_0 ((rd_T104 l0_1 x71_3).f1)).f2) l0_0 l0_1 ((rd_T104 l0_1 x71_3).f0) ((rd_T104 l0_1 x71_3).f1) ((rd_T104 l0_1 x71_3).f2)) else (none)) else (none)) else (impl_ValidFrame.j5 k3 x71_3 l0_1 (l0_1.length : Int) x71_3 false l0_0 l0_1 ((rd_T104 l0_1 x71_3).f0) ((rd_T104 l0_1 x71_3).f1) ((rd_T104 l0_1 x71_3).f2))) = some r := by rw [← hbq77] at H; exact H
                  have Nbq77 := A' hbq77; clear hbq77
                  by_cases c78 : bq77 = true
                  ·subst c78; have H1 : (if 0 ≤ ((rd_T104 l0_1 x71_3).f1) then (if ((rd_T104 l0_1 x71_3).f1) < (l0_0.length : Int) then (impl_ValidFrame.j5 k3 x71_3 l0_1 (l0_1.length : Int) x71_3 ((rd_T90 l0_0 ((rd_T104 l0_1 x71_3).f1)).f2) l0_0 l0_1 ((rd_T104 l0_1 x71_3).f0) ((rd_T104 l0_1 x71_3).f1) ((rd_T104 l0_1 x71_3).f2)) else (none)) else (none)) = some r := by rw [if_pos rfl] at H; exact H
                   clear H; have H := H1; clear H1
                   by_cases c79 : 0 ≤ ((rd_T104 l0_1 x71_3).f1)
                   ·rw [if_pos c79] at H; have c79b0 : decide (0 ≤ ((rd_T104 l0_1 x71_3).f1)) = true := dT' c79; clear c79
                    by_cases c80 : ((rd_T104 l0_1 x71_3).f1) < (l0_0.length : Int)
                    ·rw [if_pos c80] at H; have c80b0 : decide (((rd_T104 l0_1 x71_3).f1) < (l0_0.length : Int)) = true := dT' c80; clear c80; have H' := A' H; clear H; have hnb81 := NB188_173.out; have hnc81 := NB173_188.out; have hcz82_0 : w62.cell? ⟨gb188, 0, none⟩ = some (.int .i64 0) := (N' BK188.out 0).trans rfl; have hcz82_1 : w62.cell? ⟨gb188, 1, none⟩ = some (.int .i64 0) := (N' BK188.out 1).trans rfl; have hcz82_2 : w62.cell? ⟨gb188, 2, none⟩ = some (.bool false) := (N' BK188.out 2).trans rfl; have hfz82_0 := Y' BK188.out 0; have hfz82_1 := Y' BK188.out 1; have hfz82_2 := Y' BK188.out 2; have hcz83_0 : w62.cell? ⟨gb173, 0, none⟩ = some (.slice A0_0 l0_0.length c0_0) := (N' BK173.out 0).trans rfl; have hcz83_1 : w62.cell? ⟨gb173, 1, none⟩ = some (.slice (some ad187) l0_1.length c0_1) := (N' BK173.out 1).trans rfl; have hfz83_0 := Y' BK173.out 0; have hfz83_1 := Y' BK173.out 1; have p189 : 0 ≤ (((rd_T104 l0_1 x71_3).f0) : Int) := oD' qA; have q189 : ((rd_T104 l0_1 x71_3).f0) < (l0_0.length : Int) := oD' qA; obtain ⟨ad189, e189, hx189_0, hx189_1, hx189_2⟩ := at_T90 HR0_0.out ((rd_T104 l0_1 x71_3).f0) p189 q189; (try rw [← Nbq77.out] at hx189_2); (try rw [← Nbq77.out] at hw189_2)
                     cases e189
                     have hn189_0 : ad189.block ≠ gb188 := Nat.ne_of_lt (Nat.lt_of_lt_of_le (by have := World.block_lt_of_cell? _ _ hx189_0; first | rwa [add_block] at this | exact this) GW188.out); have hn189_1 : ad189.block ≠ gb188 := Nat.ne_of_lt (Nat.lt_of_lt_of_le (by have := World.block_lt_of_cell? _ _ hx189_0; first | rwa [add_block] at this | exact this) GW188.out); have hn189_2 : ad189.block ≠ gb188 := Nat.ne_of_lt (Nat.lt_of_lt_of_le (by have := World.block_lt_of_cell? _ _ hx189_0; first | rwa [add_block] at this | exact this) GW188.out); try replace hx189_0 := qC HB.out hx189_0
                     try replace hx189_1 := qC HB.out hx189_1
                     try replace hx189_2 := qC HB.out hx189_2
                     replace hx189_0 := (Z' (p := ⟨gb188, 0, none⟩) (by first | (rw [add_block]; exact hn189_0) | (show (Addr.add _ _).block ≠ _; rw [add_block]; exact hn189_0) | exact hn189_0 | (dsimp only; exact hn189_0)) (.int .i64 ((rd_T104 l0_1 x71_3).f0))).trans hx189_0; replace hx189_1 := (Z' (p := ⟨gb188, 0, none⟩) (by first | (rw [add_block]; exact hn189_0) | (show (Addr.add _ _).block ≠ _; rw [add_block]; exact hn189_0) | exact hn189_0 | (dsimp only; exact hn189_0)) (.int .i64 ((rd_T104 l0_1 x71_3).f0))).trans hx189_1; replace hx189_2 := (Z' (p := ⟨gb188, 0, none⟩) (by first | (rw [add_block]; exact hn189_0) | (show (Addr.add _ _).block ≠ _; rw [add_block]; exact hn189_0) | exact hn189_0 | (dsimp only; exact hn189_0)) (.int .i64 ((rd_T104 l0_1 x71_3).f0))).trans hx189_2; replace hx189_0 := (Z' (p := ⟨gb188, 1, none⟩) (by first | (rw [add_block]; exact hn189_1) | (show (Addr.add _ _).block ≠ _; rw [add_block]; exact hn189_1) | exact hn189_1 | (dsimp only; exact hn189_1)) (.int .i64 ((rd_T104 l0_1 x71_3).f1))).trans hx189_0; replace hx189_1 := (Z' (p := ⟨gb188, 1, none⟩) (by first | (rw [add_block]; exact hn189_1) | (show (Addr.add _ _).block ≠ _; rw [add_block]; exact hn189_1) | exact hn189_1 | (dsimp only; exact hn189_1)) (.int .i64 ((rd_T104 l0_1 x71_3).f1))).trans hx189_1; replace hx189_2 := (Z' (p := ⟨gb188, 1, none⟩) (by first | (rw [add_block]; exact hn189_1) | (show (Addr.add _ _).block ≠ _; rw [add_block]; exact hn189_1) | exact hn189_1 | (dsimp only; exact hn189_1)) (.int .i64 ((rd_T104 l0_1 x71_3).f1))).trans hx189_2; replace hx189_0 := (Z' (p := ⟨gb188, 2, none⟩) (by first | (rw [add_block]; exact hn189_2) | (show (Addr.add _ _).block ≠ _; rw [add_block]; exact hn189_2) | exact hn189_2 | (dsimp only; exact hn189_2)) (.bool ((rd_T104 l0_1 x71_3).f2))).trans hx189_0; replace hx189_1 := (Z' (p := ⟨gb188, 2, none⟩) (by first | (rw [add_block]; exact hn189_2) | (show (Addr.add _ _).block ≠ _; rw [add_block]; exact hn189_2) | exact hn189_2 | (dsimp only; exact hn189_2)) (.bool ((rd_T104 l0_1 x71_3).f2))).trans hx189_1; replace hx189_2 := (Z' (p := ⟨gb188, 2, none⟩) (by first | (rw [add_block]; exact hn189_2) | (show (Addr.add _ _).block ≠ _; rw [add_block]; exact hn189_2) | exact hn189_2 | (dsimp only; exact hn189_2)) (.bool ((rd_T104 l0_1 x71_3).f2))).trans hx189_2; clear hn189_0; clear hn189_1; clear hn189_2; replace p189 := eq_true p189; replace q189 := eq_true q189; have p190 : 0 ≤ (((rd_T104 l0_1 x71_3).f1) : Int) := oD' qA; have q190 : ((rd_T104 l0_1 x71_3).f1) < (l0_0.length : Int) := oD' qA; obtain ⟨ad190, e190, hx190_0, hx190_1, hx190_2⟩ := at_T90 HR0_0.out ((rd_T104 l0_1 x71_3).f1) p190 q190; (try rw [← Nbq77.out] at hx190_2); (try rw [← Nbq77.out] at hw190_2); obtain rfl : ad189 = ad190 := (by injection e190)
                     have hn190_0 : ad189.block ≠ gb188 := Nat.ne_of_lt (Nat.lt_of_lt_of_le (by have := World.block_lt_of_cell? _ _ hx190_0; first | rwa [add_block] at this | exact this) GW188.out); have hn190_1 : ad189.block ≠ gb188 := Nat.ne_of_lt (Nat.lt_of_lt_of_le (by have := World.block_lt_of_cell? _ _ hx190_0; first | rwa [add_block] at this | exact this) GW188.out); have hn190_2 : ad189.block ≠ gb188 := Nat.ne_of_lt (Nat.lt_of_lt_of_le (by have := World.block_lt_of_cell? _ _ hx190_0; first | rwa [add_block] at this | exact this) GW188.out); try replace hx190_0 := qC HB.out hx190_0
                     try replace hx190_1 := qC HB.out hx190_1
                     try replace hx190_2 := qC HB.out hx190_2
                     replace hx190_0 := (Z' (p := ⟨gb188, 0, none⟩) (by first | (rw [add_block]; exact hn190_0) | (show (Addr.add _ _).block ≠ _; rw [add_block]; exact hn190_0) | exact hn190_0 | (dsimp only; exact hn190_0)) (.int .i64 ((rd_T104 l0_1 x71_3).f0))).trans hx190_0; replace hx190_1 := (Z' (p := ⟨gb188, 0, none⟩) (by first | (rw [add_block]; exact hn190_0) | (show (Addr.add _ _).block ≠ _; rw [add_block]; exact hn190_0) | exact hn190_0 | (dsimp only; exact hn190_0)) (.int .i64 ((rd_T104 l0_1 x71_3).f0))).trans hx190_1; replace hx190_2 := (Z' (p := ⟨gb188, 0, none⟩) (by first | (rw [add_block]; exact hn190_0) | (show (Addr.add _ _).block ≠ _; rw [add_block]; exact hn190_0) | exact hn190_0 | (dsimp only; exact hn190_0)) (.int .i64 ((rd_T104 l0_1 x71_3).f0))).trans hx190_2; replace hx190_0 := (Z' (p := ⟨gb188, 1, none⟩) (by first | (rw [add_block]; exact hn190_1) | (show (Addr.add _ _).block ≠ _; rw [add_block]; exact hn190_1) | exact hn190_1 | (dsimp only; exact hn190_1)) (.int .i64 ((rd_T104 l0_1 x71_3).f1))).trans hx190_0; replace hx190_1 := (Z' (p := ⟨gb188, 1, none⟩) (by first | (rw [add_block]; exact hn190_1) | (show (Addr.add _ _).block ≠ _; rw [add_block]; exact hn190_1) | exact hn190_1 | (dsimp only; exact hn190_1)) (.int .i64 ((rd_T104 l0_1 x71_3).f1))).trans hx190_1; replace hx190_2 := (Z' (p := ⟨gb188, 1, none⟩) (by first | (rw [add_block]; exact hn190_1) | (show (Addr.add _ _).block ≠ _; rw [add_block]; exact hn190_1) | exact hn190_1 | (dsimp only; exact hn190_1)) (.int .i64 ((rd_T104 l0_1 x71_3).f1))).trans hx190_2; replace hx190_0 := (Z' (p := ⟨gb188, 2, none⟩) (by first | (rw [add_block]; exact hn190_2) | (show (Addr.add _ _).block ≠ _; rw [add_block]; exact hn190_2) | exact hn190_2 | (dsimp only; exact hn190_2)) (.bool ((rd_T104 l0_1 x71_3).f2))).trans hx190_0; replace hx190_1 := (Z' (p := ⟨gb188, 2, none⟩) (by first | (rw [add_block]; exact hn190_2) | (show (Addr.add _ _).block ≠ _; rw [add_block]; exact hn190_2) | exact hn190_2 | (dsimp only; exact hn190_2)) (.bool ((rd_T104 l0_1 x71_3).f2))).trans hx190_1; replace hx190_2 := (Z' (p := ⟨gb188, 2, none⟩) (by first | (rw [add_block]; exact hn190_2) | (show (Addr.add _ _).block ≠ _; rw [add_block]; exact hn190_2) | exact hn190_2 | (dsimp only; exact hn190_2)) (.bool ((rd_T104 l0_1 x71_3).f2))).trans hx190_2; clear hn190_0; clear hn190_1; clear hn190_2; replace p190 := eq_true p190; replace q190 := eq_true q190; go_wp2
                     go_meet
                     case rel => exact ⟨_, ((rd_T90 l0_0 ((rd_T104 l0_1 x71_3).f1)).f2), qS, H', ⟨by have := HJ1.out; have := HK2.out; have := HK3.out; first | omega | exact Nat.le_refl _⟩, ⟨qG3 BK173.out NB173_188.out NB173_188.out NB173_188.out⟩, ⟨by (with_reducible repeat (first | refine G' ?_ _ | refine I' ?_ | refine hA' ?_ _)); refine blk_put (cs := #[.int .i64 ((rd_T104 l0_1 x71_3).f0), .int .i64 ((rd_T104 l0_1 x71_3).f1), .bool false]) ?_ 2 _ rfl; (with_reducible repeat (first | refine G' ?_ _ | refine I' ?_ | refine hA' ?_ _)); refine blk_put (cs := #[.int .i64 ((rd_T104 l0_1 x71_3).f0), .int .i64 0, .bool false]) ?_ 1 _ rfl; (with_reducible repeat (first | refine G' ?_ _ | refine I' ?_ | refine hA' ?_ _)); refine blk_put (cs := #[.int .i64 0, .int .i64 0, .bool false]) ?_ 0 _ rfl; (with_reducible repeat (first | refine G' ?_ _ | refine I' ?_ | refine hA' ?_ _)); exact BK188.out⟩, ⟨qK2 HB.out GE173.out GE188.out⟩⟩
                    ·rw [if_neg c80] at H; exact absurd H (by simp)
                   ·rw [if_neg c79] at H; exact absurd H (by simp)
                  ·replace c78 := Bool.eq_false_iff.mpr c78; subst c78; have H1 : (impl_ValidFrame.j5 k3 x71_3 l0_1 (l0_1.length : Int) x71_3 false l0_0 l0_1 ((rd_T104 l0_1 x71_3).f0) ((rd_T104 l0_1 x71_3).f1) ((rd_T104 l0_1 x71_3).f2)) = some r := by rw [if_neg (show ¬ (false = true) by decide)] at H; exact H
                   clear H; have H := H1; clear H1; have H' := A' H; clear H; have hnb84 := NB188_173.out; have hnc84 := NB173_188.out; have hcz85_0 : w62.cell? ⟨gb188, 0, none⟩ = some (.int .i64 0) := (N' BK188.out 0).trans rfl; have hcz85_1 : w62.cell? ⟨gb188, 1, none⟩ = some (.int .i64 0) := (N' BK188.out 1).trans rfl; have hcz85_2 : w62.cell? ⟨gb188, 2, none⟩ = some (.bool false) := (N' BK188.out 2).trans rfl; have hfz85_0 := Y' BK188.out 0; have hfz85_1 := Y' BK188.out 1; have hfz85_2 := Y' BK188.out 2; have hcz86_0 : w62.cell? ⟨gb173, 0, none⟩ = some (.slice A0_0 l0_0.length c0_0) := (N' BK173.out 0).trans rfl; have hcz86_1 : w62.cell? ⟨gb173, 1, none⟩ = some (.slice (some ad187) l0_1.length c0_1) := (N' BK173.out 1).trans rfl; have hfz86_0 := Y' BK173.out 0; have hfz86_1 := Y' BK173.out 1; have p189 : 0 ≤ (((rd_T104 l0_1 x71_3).f0) : Int) := oD' qA; have q189 : ((rd_T104 l0_1 x71_3).f0) < (l0_0.length : Int) := oD' qA; obtain ⟨ad189, e189, hx189_0, hx189_1, hx189_2⟩ := at_T90 HR0_0.out ((rd_T104 l0_1 x71_3).f0) p189 q189; (try rw [← Nbq77.out] at hx189_2); (try rw [← Nbq77.out] at hw189_2)
                   cases e189
                   have hn189_0 : ad189.block ≠ gb188 := Nat.ne_of_lt (Nat.lt_of_lt_of_le (by have := World.block_lt_of_cell? _ _ hx189_0; first | rwa [add_block] at this | exact this) GW188.out); have hn189_1 : ad189.block ≠ gb188 := Nat.ne_of_lt (Nat.lt_of_lt_of_le (by have := World.block_lt_of_cell? _ _ hx189_0; first | rwa [add_block] at this | exact this) GW188.out); have hn189_2 : ad189.block ≠ gb188 := Nat.ne_of_lt (Nat.lt_of_lt_of_le (by have := World.block_lt_of_cell? _ _ hx189_0; first | rwa [add_block] at this | exact this) GW188.out); try replace hx189_0 := qC HB.out hx189_0
                   try replace hx189_1 := qC HB.out hx189_1
                   try replace hx189_2 := qC HB.out hx189_2
                   replace hx189_0 := (Z' (p := ⟨gb188, 0, none⟩) (by first | (rw [add_block]; exact hn189_0) | (show (Addr.add _ _).block ≠ _; rw [add_block]; exact hn189_0) | exact hn189_0 | (dsimp only; exact hn189_0)) (.int .i64 ((rd_T104 l0_1 x71_3).f0))).trans hx189_0; replace hx189_1 := (Z' (p := ⟨gb188, 0, none⟩) (by first | (rw [add_block]; exact hn189_0) | (show (Addr.add _ _).block ≠ _; rw [add_block]; exact hn189_0) | exact hn189_0 | (dsimp only; exact hn189_0)) (.int .i64 ((rd_T104 l0_1 x71_3).f0))).trans hx189_1; replace hx189_2 := (Z' (p := ⟨gb188, 0, none⟩) (by first | (rw [add_block]; exact hn189_0) | (show (Addr.add _ _).block ≠ _; rw [add_block]; exact hn189_0) | exact hn189_0 | (dsimp only; exact hn189_0)) (.int .i64 ((rd_T104 l0_1 x71_3).f0))).trans hx189_2; replace hx189_0 := (Z' (p := ⟨gb188, 1, none⟩) (by first | (rw [add_block]; exact hn189_1) | (show (Addr.add _ _).block ≠ _; rw [add_block]; exact hn189_1) | exact hn189_1 | (dsimp only; exact hn189_1)) (.int .i64 ((rd_T104 l0_1 x71_3).f1))).trans hx189_0; replace hx189_1 := (Z' (p := ⟨gb188, 1, none⟩) (by first | (rw [add_block]; exact hn189_1) | (show (Addr.add _ _).block ≠ _; rw [add_block]; exact hn189_1) | exact hn189_1 | (dsimp only; exact hn189_1)) (.int .i64 ((rd_T104 l0_1 x71_3).f1))).trans hx189_1; replace hx189_2 := (Z' (p := ⟨gb188, 1, none⟩) (by first | (rw [add_block]; exact hn189_1) | (show (Addr.add _ _).block ≠ _; rw [add_block]; exact hn189_1) | exact hn189_1 | (dsimp only; exact hn189_1)) (.int .i64 ((rd_T104 l0_1 x71_3).f1))).trans hx189_2; replace hx189_0 := (Z' (p := ⟨gb188, 2, none⟩) (by first | (rw [add_block]; exact hn189_2) | (show (Addr.add _ _).block ≠ _; rw [add_block]; exact hn189_2) | exact hn189_2 | (dsimp only; exact hn189_2)) (.bool ((rd_T104 l0_1 x71_3).f2))).trans hx189_0; replace hx189_1 := (Z' (p := ⟨gb188, 2, none⟩) (by first | (rw [add_block]; exact hn189_2) | (show (Addr.add _ _).block ≠ _; rw [add_block]; exact hn189_2) | exact hn189_2 | (dsimp only; exact hn189_2)) (.bool ((rd_T104 l0_1 x71_3).f2))).trans hx189_1; replace hx189_2 := (Z' (p := ⟨gb188, 2, none⟩) (by first | (rw [add_block]; exact hn189_2) | (show (Addr.add _ _).block ≠ _; rw [add_block]; exact hn189_2) | exact hn189_2 | (dsimp only; exact hn189_2)) (.bool ((rd_T104 l0_1 x71_3).f2))).trans hx189_2; clear hn189_0; clear hn189_1; clear hn189_2; replace p189 := eq_true p189; replace q189 := eq_true q189; go_wp2
                   go_meet
                   case rel => exact ⟨_, (false), qS, H', ⟨by have := HJ1.out; have := HK2.out; have := HK3.out; first | omega | exact Nat.le_refl _⟩, ⟨qG3 BK173.out NB173_188.out NB173_188.out NB173_188.out⟩, ⟨by (with_reducible repeat (first | refine G' ?_ _ | refine I' ?_ | refine hA' ?_ _)); refine blk_put (cs := #[.int .i64 ((rd_T104 l0_1 x71_3).f0), .int .i64 ((rd_T104 l0_1 x71_3).f1), .bool false]) ?_ 2 _ rfl; (with_reducible repeat (first | refine G' ?_ _ | refine I' ?_ | refine hA' ?_ _)); refine blk_put (cs := #[.int .i64 ((rd_T104 l0_1 x71_3).f0), .int .i64 0, .bool false]) ?_ 1 _ rfl; (with_reducible repeat (first | refine G' ?_ _ | refine I' ?_ | refine hA' ?_ _)); refine blk_put (cs := #[.int .i64 0, .int .i64 0, .bool false]) ?_ 0 _ rfl; (with_reducible repeat (first | refine G' ?_ _ | refine I' ?_ | refine hA' ?_ _)); exact BK188.out⟩, ⟨qK2 HB.out GE173.out GE188.out⟩⟩
                 ·rw [if_neg c76] at H; exact absurd H (by simp)
                ·rw [if_neg c75] at H; exact absurd H (by simp)
            case rest =>
             clear HC61; try clear c1
             try clear p1
             try clear q1
             try clear hx1
             try clear c2
             try clear p2
             try clear c3
             try clear q3
             try clear c4
             try clear c4b0
             try clear c4b1
             try clear c5
             try clear c6
             try clear c6b0
             try clear c6b1
             try clear p6
             try clear c7
             try clear q7
             try clear c8
             try clear c12
             try clear c14
             try clear c14b0
             try clear c15
             try clear c15b0
             try clear c16
             try clear c16b0
             try clear p17
             try clear q17
             try clear hx17
             try clear p18
             try clear q18
             try clear hx18
             try clear c19
             try clear p19
             try clear q19
             try clear hx19
             try clear c22
             try clear c24
             try clear c26
             try clear c28
             try clear c29
             try clear c29b0
             try clear c29b1
             try clear c30
             try clear c30b0
             try clear c30b1
             try clear c31
             try clear q33
             try clear c34
             try clear c34b0
             try clear c35
             try clear c35b0
             try clear c36
             try clear c36b0
             try clear c37
             try clear c37b0
             try clear c37b1
             try clear c38
             try clear c38b0
             try clear c38b1
             try clear c40
             try clear c41
             try clear c43
             try clear c46
             try clear c47
             try clear c49
             try clear c52
             try clear c53
             try clear c55
             try clear c58
             try clear c58b0
             try clear c59
             try clear c59b0
             try clear c60
             try clear c60b0
             try clear c63
             try clear p64
             try clear c65
             try clear c65b0
             try clear c66
             try clear c68
             try clear c68b0
             try clear c69
             try clear c71
             try clear c71b0
             try clear c72
             try clear c75
             try clear c75b0
             try clear c76
             try clear c76b0
             try clear q77
             try clear c78
             try clear c79
             try clear c79b0
             try clear c80
             try clear c80b0
             try clear c81
             try clear c84
             try clear hcz13_0
             try clear hcz13_1
             try clear hcz20_0
             try clear hcz20_1
             try clear hcz20_2
             try clear hcz25_0
             try clear hcz25_1
             try clear hcz25_2
             try clear hcz27_0
             try clear hcz27_1
             try clear hcz27_2
             try clear hcz32_0
             try clear hcz32_1
             try clear hcz42_0
             try clear hcz42_1
             try clear hcz42_2
             try clear hcz44_0
             try clear hcz44_1
             try clear hcz44_2
             try clear hcz48_0
             try clear hcz48_1
             try clear hcz48_2
             try clear hcz50_0
             try clear hcz50_1
             try clear hcz50_2
             try clear hcz54_0
             try clear hcz54_1
             try clear hcz54_2
             try clear hcz56_0
             try clear hcz56_1
             try clear hcz56_2
             try clear hcz57_0
             try clear hcz57_1
             try clear hcz5_0
             try clear hcz5_1
             try clear hcz64_0
             try clear hcz64_1
             try clear hcz64_2
             try clear hcz67_0
             try clear hcz67_1
             try clear hcz67_2
             try clear hcz70_0
             try clear hcz70_1
             try clear hcz70_2
             try clear hcz73_0
             try clear hcz73_1
             try clear hcz73_2
             try clear hcz74_0
             try clear hcz74_1
             try clear hcz7_0
             try clear hcz7_1
             try clear hcz82_0
             try clear hcz82_1
             try clear hcz82_2
             try clear hcz83_0
             try clear hcz83_1
             try clear hcz85_0
             try clear hcz85_1
             try clear hcz85_2
             try clear hcz86_0
             try clear hcz86_1
             try clear hcz9_0
             try clear hcz9_1
             try clear hfz13_0
             try clear hfz13_1
             try clear hfz20_0
             try clear hfz20_1
             try clear hfz20_2
             try clear hfz25_0
             try clear hfz25_1
             try clear hfz25_2
             try clear hfz27_0
             try clear hfz27_1
             try clear hfz27_2
             try clear hfz32_0
             try clear hfz32_1
             try clear hfz42_0
             try clear hfz42_1
             try clear hfz42_2
             try clear hfz44_0
             try clear hfz44_1
             try clear hfz44_2
             try clear hfz48_0
             try clear hfz48_1
             try clear hfz48_2
             try clear hfz50_0
             try clear hfz50_1
             try clear hfz50_2
             try clear hfz54_0
             try clear hfz54_1
             try clear hfz54_2
             try clear hfz56_0
             try clear hfz56_1
             try clear hfz56_2
             try clear hfz57_0
             try clear hfz57_1
             try clear hfz5_0
             try clear hfz5_1
             try clear hfz64_0
             try clear hfz64_1
             try clear hfz64_2
             try clear hfz67_0
             try clear hfz67_1
             try clear hfz67_2
             try clear hfz70_0
             try clear hfz70_1
             try clear hfz70_2
             try clear hfz73_0
             try clear hfz73_1
             try clear hfz73_2
             try clear hfz74_0
             try clear hfz74_1
             try clear hfz7_0
             try clear hfz7_1
             try clear hfz82_0
             try clear hfz82_1
             try clear hfz82_2
             try clear hfz83_0
             try clear hfz83_1
             try clear hfz85_0
             try clear hfz85_1
             try clear hfz85_2
             try clear hfz86_0
             try clear hfz86_1
             try clear hfz9_0
             try clear hfz9_1
             try clear hx177_0
             try clear hx177_1
             try clear hx177_2
             try clear hx185_0
             try clear hx185_1
             try clear hx185_2
             try clear hx187_0
             try clear hx187_1
             try clear hx187_2
             try clear hx189_0
             try clear hx189_1
             try clear hx189_2
             try clear hx190_0
             try clear hx190_1
             try clear hx190_2
             try clear p1
             try clear p17
             try clear p177
             try clear p18
             try clear p185
             try clear p187
             try clear p189
             try clear p190
             try clear p2
             try clear p6
             try clear q1
             try clear q17
             try clear q177
             try clear q18
             try clear q185
             try clear q187
             try clear q189
             try clear q190
             try clear q3
             try clear q33
             obtain ⟨kq, x111_60, rfl, HA, HJ60, BK173, BK188, HB⟩ := hcut
             cases kq with
             | zero => exact absurd HA.out (by simp [impl_ValidFrame.j5])
             | succ kj60 =>
              have H := HA.out; clear HA; simp only [impl_ValidFrame.j5] at H
              by_cases c87 : x111_60 = true
              ·subst c87; have H1 : (some false) = some r := by rw [if_pos rfl] at H; exact H
               clear H; have H := H1; clear H1; obtain rfl := Option.some.inj H; go_wp2; go_ret; exact ⟨qE, qK2 HB.out GE173.out GE188.out⟩
              ·replace c87 := Bool.eq_false_iff.mpr c87; subst c87; have H1 : (if 0 ≤ x71_3 then (if x71_3 ≤ (l0_1.length : Int) then ((some (l0_1.take (x71_3 : Int).toNat : List (S104))).bind fun y191 => (impl_ValidFrame.l3 kj60 l0_1 (l0_1.length : Int) x71_3 y191 (y191.length : Int) 0 l0_0 l0_1 ((rd_T104 l0_1 x71_3).f0) ((rd_T104 l0_1 x71_3).f1) ((rd_T104 l0_1 x71_3).f2))) else (none)) else (none)) = some r := by rw [if_neg (show ¬ (false = true) by decide)] at H; exact H
               clear H; have H := H1; clear H1
               by_cases c88 : 0 ≤ x71_3
               ·rw [if_pos c88] at H; have c88b0 := eq_true c88; have c88b1 : decide (0 ≤ x71_3) = true := dT' c88; clear c88
                by_cases c89 : x71_3 ≤ (l0_1.length : Int)
                ·rw [if_pos c89] at H; have c89b0 := eq_true c89; have c89b1 : decide (x71_3 ≤ (l0_1.length : Int)) = true := dT' c89; clear c89; obtain ⟨y191, hy191⟩ : ∃ y_ : List (S104), y_ = (l0_1.take (x71_3 : Int).toNat) := ⟨_, rfl⟩
                 replace H : (impl_ValidFrame.l3 kj60 l0_1 (l0_1.length : Int) x71_3 y191 (y191.length : Int) 0 l0_0 l0_1 ((rd_T104 l0_1 x71_3).f0) ((rd_T104 l0_1 x71_3).f1) ((rd_T104 l0_1 x71_3).f2)) = some r := by first | (rw [hy191]; with_reducible exact H) | (have H2_ := (Option.bind_some _ _).symm.trans H; rw [hy191]; with_reducible exact H2_) | (have H2_ := (Option.bind_some _ _).symm.trans H; with_reducible exact H2_) | with_reducible exact H | (rw [hy191]; exact H) | exact H
                 have Ny191 := A' hy191; clear hy191; have H' := A' H; clear H; have hnb90 := NB173_188.out; have hnc90 := NB188_173.out; have hcz91_0 : wc.cell? ⟨gb173, 0, none⟩ = some (.slice A0_0 l0_0.length c0_0) := (N' BK173.out 0).trans rfl; have hcz91_1 : wc.cell? ⟨gb173, 1, none⟩ = some (.slice (some ad187) l0_1.length c0_1) := (N' BK173.out 1).trans rfl; have hfz91_0 := Y' BK173.out 0; have hfz91_1 := Y' BK173.out 1; have q92 : (x71_3 : Int) ≤ ((l0_1.length : Int) : Int) := oD' qA; obtain ⟨i092, hi092, _, hsz92, _⟩ := info_parts info104; have hroom92 : l0_1.length ≤ c0_1 := HC0_1.out; have hC92 : Kd.C k104 _ (some ad187) l0_1.length l0_1 := HR0_1.out; have hcut92 := cut_to (P := Try.prog) 31 104 .i64 Try.underlying31 hi092 (some ad187) l0_1.length c0_1 x71_3 (oD' qA) q92 hroom92; have hr92 := Kd.C_take (m := (x71_3 : Int).toNat) hC92 (by omega); have hy92 : y191.length = (x71_3 : Int).toNat := (by rw [Ny191.out, List.length_take]; omega)
                 rw [← Ny191.out] at hr92; rw [← hy92] at hcut92; have HR194 := A' hr92; have HC194 := A' (show y191.length ≤ c0_1 from by omega); clear hr92 hC92 hroom92 hi092 hsz92; have KY92 := A' hy92; clear hy92; replace q92 := eq_true q92; go_wp2
                 go_loopg [117] kj60 (fun kq v117 w' => ∃ (x117_5 : Int), v117 = .int .i64 x117_5 ∧ Aside0 (impl_ValidFrame.l3 kq l0_1 (l0_1.length : Int) x71_3 y191 (y191.length : Int) x117_5 l0_0 l0_1 ((rd_T104 l0_1 x71_3).f0) ((rd_T104 l0_1 x71_3).f1) ((rd_T104 l0_1 x71_3).f2) = some r) ∧ Aside0 (kq ≤ kj60) ∧ Aside0 (w'.heap[gb173]? = some (.cells #[(.slice A0_0 l0_0.length c0_0), (.slice (some ad187) l0_1.length c0_1)] 33 (0, 0))) ∧ Aside0 (w'.heap[gb188]? = some (.cells #[.int .i64 ((rd_T104 l0_1 x71_3).f0), .int .i64 ((rd_T104 l0_1 x71_3).f1), .bool ((rd_T104 l0_1 x71_3).f2)] 104 (0, 0))) ∧ Aside0 (Below w.heap.size w w'))
                 case atStart => exact ⟨(0), qS, H', ⟨Nat.le_refl _⟩, ⟨qB BK173.out⟩, ⟨qB BK188.out⟩, ⟨qK2 HB.out GE173.out GE188.out⟩⟩
                 case round =>
                  clear H'; try clear c1
                  try clear p1
                  try clear q1
                  try clear hx1
                  try clear c2
                  try clear p2
                  try clear c3
                  try clear q3
                  try clear c4
                  try clear c4b0
                  try clear c4b1
                  try clear c5
                  try clear c6
                  try clear c6b0
                  try clear c6b1
                  try clear p6
                  try clear c7
                  try clear q7
                  try clear c8
                  try clear c9
                  try clear q9
                  try clear c12
                  try clear c14
                  try clear c14b0
                  try clear c15
                  try clear c15b0
                  try clear c16
                  try clear c16b0
                  try clear p17
                  try clear q17
                  try clear hx17
                  try clear p18
                  try clear q18
                  try clear hx18
                  try clear c19
                  try clear p19
                  try clear q19
                  try clear hx19
                  try clear c22
                  try clear c24
                  try clear c26
                  try clear c28
                  try clear c29
                  try clear c29b0
                  try clear c29b1
                  try clear c30
                  try clear c30b0
                  try clear c30b1
                  try clear c31
                  try clear q33
                  try clear c34
                  try clear c34b0
                  try clear c35
                  try clear c35b0
                  try clear c36
                  try clear c36b0
                  try clear c37
                  try clear c37b0
                  try clear c37b1
                  try clear c38
                  try clear c38b0
                  try clear c38b1
                  try clear c40
                  try clear c41
                  try clear c43
                  try clear c46
                  try clear c47
                  try clear c49
                  try clear c52
                  try clear c53
                  try clear c55
                  try clear c58
                  try clear c58b0
                  try clear c59
                  try clear c59b0
                  try clear c60
                  try clear c60b0
                  try clear c63
                  try clear p64
                  try clear c65
                  try clear c65b0
                  try clear c66
                  try clear c68
                  try clear c68b0
                  try clear c69
                  try clear c71
                  try clear c71b0
                  try clear c72
                  try clear c75
                  try clear c75b0
                  try clear c76
                  try clear c76b0
                  try clear q77
                  try clear c78
                  try clear c79
                  try clear c79b0
                  try clear c80
                  try clear c80b0
                  try clear c81
                  try clear c84
                  try clear c87
                  try clear c88
                  try clear c88b0
                  try clear c88b1
                  try clear c89
                  try clear c89b0
                  try clear c89b1
                  try clear c90
                  try clear q92
                  try clear hcz13_0
                  try clear hcz13_1
                  try clear hcz20_0
                  try clear hcz20_1
                  try clear hcz20_2
                  try clear hcz25_0
                  try clear hcz25_1
                  try clear hcz25_2
                  try clear hcz27_0
                  try clear hcz27_1
                  try clear hcz27_2
                  try clear hcz32_0
                  try clear hcz32_1
                  try clear hcz42_0
                  try clear hcz42_1
                  try clear hcz42_2
                  try clear hcz44_0
                  try clear hcz44_1
                  try clear hcz44_2
                  try clear hcz48_0
                  try clear hcz48_1
                  try clear hcz48_2
                  try clear hcz50_0
                  try clear hcz50_1
                  try clear hcz50_2
                  try clear hcz54_0
                  try clear hcz54_1
                  try clear hcz54_2
                  try clear hcz56_0
                  try clear hcz56_1
                  try clear hcz56_2
                  try clear hcz57_0
                  try clear hcz57_1
                  try clear hcz5_0
                  try clear hcz5_1
                  try clear hcz64_0
                  try clear hcz64_1
                  try clear hcz64_2
                  try clear hcz67_0
                  try clear hcz67_1
                  try clear hcz67_2
                  try clear hcz70_0
                  try clear hcz70_1
                  try clear hcz70_2
                  try clear hcz73_0
                  try clear hcz73_1
                  try clear hcz73_2
                  try clear hcz74_0
                  try clear hcz74_1
                  try clear hcz7_0
                  try clear hcz7_1
                  try clear hcz82_0
                  try clear hcz82_1
                  try clear hcz82_2
                  try clear hcz83_0
                  try clear hcz83_1
                  try clear hcz85_0
                  try clear hcz85_1
                  try clear hcz85_2
                  try clear hcz86_0
                  try clear hcz86_1
                  try clear hcz91_0
                  try clear hcz91_1
                  try clear hcz9_0
                  try clear hcz9_1
                  try clear hfz13_0
                  try clear hfz13_1
                  try clear hfz20_0
                  try clear hfz20_1
                  try clear hfz20_2
                  try clear hfz25_0
                  try clear hfz25_1
                  try clear hfz25_2
                  try clear hfz27_0
                  try clear hfz27_1
                  try clear hfz27_2
                  try clear hfz32_0
                  try clear hfz32_1
                  try clear hfz42_0
                  try clear hfz42_1
                  try clear hfz42_2
                  try clear hfz44_0
                  try clear hfz44_1
                  try clear hfz44_2
                  try clear hfz48_0
                  try clear hfz48_1
                  try clear hfz48_2
                  try clear hfz50_0
                  try clear hfz50_1
                  try clear hfz50_2
                  try clear hfz54_0
                  try clear hfz54_1
                  try clear hfz54_2
                  try clear hfz56_0
                  try clear hfz56_1
                  try clear hfz56_2
                  try clear hfz57_0
                  try clear hfz57_1
                  try clear hfz5_0
                  try clear hfz5_1
                  try clear hfz64_0
                  try clear hfz64_1
                  try clear hfz64_2
                  try clear hfz67_0
                  try clear hfz67_1
                  try clear hfz67_2
                  try clear hfz70_0
                  try clear hfz70_1
                  try clear hfz70_2
                  try clear hfz73_0
                  try clear hfz73_1
                  try clear hfz73_2
                  try clear hfz74_0
                  try clear hfz74_1
                  try clear hfz7_0
                  try clear hfz7_1
                  try clear hfz82_0
                  try clear hfz82_1
                  try clear hfz82_2
                  try clear hfz83_0
                  try clear hfz83_1
                  try clear hfz85_0
                  try clear hfz85_1
                  try clear hfz85_2
                  try clear hfz86_0
                  try clear hfz86_1
                  try clear hfz91_0
                  try clear hfz91_1
                  try clear hfz9_0
                  try clear hfz9_1
                  try clear hx177_0
                  try clear hx177_1
                  try clear hx177_2
                  try clear hx185_0
                  try clear hx185_1
                  try clear hx185_2
                  try clear hx187_0
                  try clear hx187_1
                  try clear hx187_2
                  try clear hx189_0
                  try clear hx189_1
                  try clear hx189_2
                  try clear hx190_0
                  try clear hx190_1
                  try clear hx190_2
                  try clear p1
                  try clear p17
                  try clear p177
                  try clear p18
                  try clear p185
                  try clear p187
                  try clear p189
                  try clear p19
                  try clear p190
                  try clear p2
                  try clear p6
                  try clear p64
                  try clear q1
                  try clear q17
                  try clear q177
                  try clear q18
                  try clear q185
                  try clear q187
                  try clear q189
                  try clear q19
                  try clear q190
                  try clear q3
                  try clear q33
                  try clear q7
                  try clear q77
                  try clear q92
                  obtain ⟨x117_5, rfl, HA, HK5, BK173, BK188, HB⟩ := hrel
                  cases gk with
                  | zero => exact absurd HA.out (by simp [impl_ValidFrame.l3])
                  | succ k5 =>
                   have H := HA.out; clear HA; simp only [impl_ValidFrame.l3] at H
                   by_cases c93 : x117_5 < (y191.length : Int)
                   ·rw [if_pos c93] at H; have c93b0 : decide (x117_5 < (y191.length : Int)) = true := dT' c93; clear c93
                    by_cases c94 : 0 ≤ x117_5
                    ·rw [if_pos c94] at H; have c94b0 : decide (0 ≤ x117_5) = true := dT' c94; clear c94
                     by_cases c95 : x117_5 < (y191.length : Int)
                     ·rw [if_pos c95] at H; have c95b0 : decide (x117_5 < (y191.length : Int)) = true := dT' c95; clear c95
                      by_cases c96 : ((rd_T104 y191 x117_5).f0) = ((rd_T104 l0_1 x71_3).f0)
                      ·rw [if_pos c96] at H; have c96b0 : (((rd_T104 y191 x117_5).f0) == ((rd_T104 l0_1 x71_3).f0)) = true := beq_iff_eq.mpr c96; have c96b1 : (((rd_T104 y191 x117_5).f0) != ((rd_T104 l0_1 x71_3).f0)) = false := bne_eq_false_iff_eq.mpr c96; clear c96
                       by_cases c97 : ((rd_T104 y191 x117_5).f1) = ((rd_T104 l0_1 x71_3).f1)
                       ·rw [if_pos c97] at H; have c97b0 : (((rd_T104 y191 x117_5).f1) == ((rd_T104 l0_1 x71_3).f1)) = true := beq_iff_eq.mpr c97; have c97b1 : (((rd_T104 y191 x117_5).f1) != ((rd_T104 l0_1 x71_3).f1)) = false := bne_eq_false_iff_eq.mpr c97; clear c97; obtain rfl := Option.some.inj H; have p195 : 0 ≤ (x117_5 : Int) := oD' qA; have q195 : x117_5 < (y191.length : Int) := oD' qA; obtain ⟨ad195, e195, hx195_0, hx195_1, hx195_2⟩ := at_T104 HR194.out x117_5 p195 q195; obtain rfl : ad187 = ad195 := (by injection e195)
                        try replace hx195_0 := qC HB.out hx195_0
                        try replace hx195_1 := qC HB.out hx195_1
                        try replace hx195_2 := qC HB.out hx195_2
                        replace p195 := eq_true p195; replace q195 := eq_true q195; go_wp2_with (first | ((with_reducible refine gate_dst (N := 10) rfl ?_); (try (refine gate_guard (by rfl) ?_; dsimp only)); refine box_event ?hg (N := 10) ?hd (cs := #[.int .i64 0, .int .i64 0, .bool false]) (t := 104) ?hr ?_; (case hd => rfl); (case hg => rfl); (case hr => first | (go_simp; done) | (go_simp; rfl)); intro gb196 hg w98 hbox hb; have n0_ := A' (O' (g := gb173) (qB BK173.out) hb); have n1_ := A' (O' (g := gb188) (qB BK188.out) hb); have n2_ := A' (W' (qK2 HB.out GE173.out GE188.out) hb); have n3_ := A' (hbox); have n4_ := A' ((by rw [hg]; exact (V' (qK2 HB.out GE173.out GE188.out)) : w.heap.size ≤ gb196)); have n5_ := A' ((by rw [hg]; exact (V' (qK2 HB.out GE173.out GE188.out)) : w.heap.size ≤ gb196)); have n6_ := A' ((by rw [hg]; exact Nat.ne_of_lt (bL' (g := gb173) (qB BK173.out)) : gb173 ≠ gb196)); have n7_ := A' ((by rw [hg]; exact Nat.ne_of_gt (bL' (g := gb173) (qB BK173.out)) : gb196 ≠ gb173)); have n8_ := A' ((by rw [hg]; exact Nat.ne_of_lt (bL' (g := gb188) (qB BK188.out)) : gb188 ≠ gb196)); have n9_ := A' ((by rw [hg]; exact Nat.ne_of_gt (bL' (g := gb188) (qB BK188.out)) : gb196 ≠ gb188)); clear BK173; clear BK188; clear HB; have BK173 := n0_; have BK188 := n1_; have HB := n2_; have BK196 := n3_; have GW196 := n4_; have GE196 := n5_; have NB173_196 := n6_; have NB196_173 := n7_; have NB188_196 := n8_; have NB196_188 := n9_; clear n0_ n1_ n2_ n3_ n4_ n5_ n6_ n7_ n8_ n9_; clear hb hbox hg; have hnb99 := NB196_173.out; have hnc99 := NB173_196.out; have hnb100 := NB196_188.out; have hnc100 := NB188_196.out; have hcz101_0 : w98.cell? ⟨gb196, 0, none⟩ = some (.int .i64 0) := (N' BK196.out 0).trans rfl; have hcz101_1 : w98.cell? ⟨gb196, 1, none⟩ = some (.int .i64 0) := (N' BK196.out 1).trans rfl; have hcz101_2 : w98.cell? ⟨gb196, 2, none⟩ = some (.bool false) := (N' BK196.out 2).trans rfl; have hfz101_0 := Y' BK196.out 0; have hfz101_1 := Y' BK196.out 1; have hfz101_2 := Y' BK196.out 2; have hnb102 := NB188_173.out; have hnc102 := NB173_188.out; have hcz103_0 : w98.cell? ⟨gb188, 0, none⟩ = some (.int .i64 ((rd_T104 l0_1 x71_3).f0)) := (N' BK188.out 0).trans rfl; have hcz103_1 : w98.cell? ⟨gb188, 1, none⟩ = some (.int .i64 ((rd_T104 l0_1 x71_3).f1)) := (N' BK188.out 1).trans rfl; have hcz103_2 : w98.cell? ⟨gb188, 2, none⟩ = some (.bool ((rd_T104 l0_1 x71_3).f2)) := (N' BK188.out 2).trans rfl; have hfz103_0 := Y' BK188.out 0; have hfz103_1 := Y' BK188.out 1; have hfz103_2 := Y' BK188.out 2)); go_ret; exact ⟨qE, qK3 HB.out GE173.out GE188.out GE196.out⟩
                       ·rw [if_neg c97] at H; have c97b0 : (((rd_T104 y191 x117_5).f1) == ((rd_T104 l0_1 x71_3).f1)) = false := beq_eq_false_iff_ne.mpr c97; have c97b1 : (((rd_T104 y191 x117_5).f1) != ((rd_T104 l0_1 x71_3).f1)) = true := bne_iff_ne.mpr c97; have H' := A' H; clear H; have p195 : 0 ≤ (x117_5 : Int) := oD' qA; have q195 : x117_5 < (y191.length : Int) := oD' qA; obtain ⟨ad195, e195, hx195_0, hx195_1, hx195_2⟩ := at_T104 HR194.out x117_5 p195 q195; obtain rfl : ad187 = ad195 := (by injection e195)
                        try replace hx195_0 := qC HB.out hx195_0
                        try replace hx195_1 := qC HB.out hx195_1
                        try replace hx195_2 := qC HB.out hx195_2
                        replace p195 := eq_true p195; replace q195 := eq_true q195; go_wp2_with (first | ((with_reducible refine gate_dst (N := 10) rfl ?_); (try (refine gate_guard (by rfl) ?_; dsimp only)); refine box_event ?hg (N := 10) ?hd (cs := #[.int .i64 0, .int .i64 0, .bool false]) (t := 104) ?hr ?_; (case hd => rfl); (case hg => rfl); (case hr => first | (go_simp; done) | (go_simp; rfl)); intro gb196 hg w104 hbox hb; have n0_ := A' (O' (g := gb173) (qB BK173.out) hb); have n1_ := A' (O' (g := gb188) (qB BK188.out) hb); have n2_ := A' (W' (qK2 HB.out GE173.out GE188.out) hb); have n3_ := A' (hbox); have n4_ := A' ((by rw [hg]; exact (V' (qK2 HB.out GE173.out GE188.out)) : w.heap.size ≤ gb196)); have n5_ := A' ((by rw [hg]; exact (V' (qK2 HB.out GE173.out GE188.out)) : w.heap.size ≤ gb196)); have n6_ := A' ((by rw [hg]; exact Nat.ne_of_lt (bL' (g := gb173) (qB BK173.out)) : gb173 ≠ gb196)); have n7_ := A' ((by rw [hg]; exact Nat.ne_of_gt (bL' (g := gb173) (qB BK173.out)) : gb196 ≠ gb173)); have n8_ := A' ((by rw [hg]; exact Nat.ne_of_lt (bL' (g := gb188) (qB BK188.out)) : gb188 ≠ gb196)); have n9_ := A' ((by rw [hg]; exact Nat.ne_of_gt (bL' (g := gb188) (qB BK188.out)) : gb196 ≠ gb188)); clear BK173; clear BK188; clear HB; have BK173 := n0_; have BK188 := n1_; have HB := n2_; have BK196 := n3_; have GW196 := n4_; have GE196 := n5_; have NB173_196 := n6_; have NB196_173 := n7_; have NB188_196 := n8_; have NB196_188 := n9_; clear n0_ n1_ n2_ n3_ n4_ n5_ n6_ n7_ n8_ n9_; clear hb hbox hg; have hnb105 := NB196_173.out; have hnc105 := NB173_196.out; have hnb106 := NB196_188.out; have hnc106 := NB188_196.out; have hcz107_0 : w104.cell? ⟨gb196, 0, none⟩ = some (.int .i64 0) := (N' BK196.out 0).trans rfl; have hcz107_1 : w104.cell? ⟨gb196, 1, none⟩ = some (.int .i64 0) := (N' BK196.out 1).trans rfl; have hcz107_2 : w104.cell? ⟨gb196, 2, none⟩ = some (.bool false) := (N' BK196.out 2).trans rfl; have hfz107_0 := Y' BK196.out 0; have hfz107_1 := Y' BK196.out 1; have hfz107_2 := Y' BK196.out 2; have hnb108 := NB188_173.out; have hnc108 := NB173_188.out; have hcz109_0 : w104.cell? ⟨gb188, 0, none⟩ = some (.int .i64 ((rd_T104 l0_1 x71_3).f0)) := (N' BK188.out 0).trans rfl; have hcz109_1 : w104.cell? ⟨gb188, 1, none⟩ = some (.int .i64 ((rd_T104 l0_1 x71_3).f1)) := (N' BK188.out 1).trans rfl; have hcz109_2 : w104.cell? ⟨gb188, 2, none⟩ = some (.bool ((rd_T104 l0_1 x71_3).f2)) := (N' BK188.out 2).trans rfl; have hfz109_0 := Y' BK188.out 0; have hfz109_1 := Y' BK188.out 1; have hfz109_2 := Y' BK188.out 2))
                        go_roundg k5
                        case measure => have := HJ1.out; have := HK2.out; have := HK3.out; have := HJ60.out; have := HK5.out; omega
                        case rel => exact ⟨(wrap64 (x117_5 + 1)), qS, H', ⟨by have := HJ1.out; have := HK2.out; have := HK3.out; have := HJ60.out; have := HK5.out; omega⟩, ⟨qG3 BK173.out NB173_196.out NB173_196.out NB173_196.out⟩, ⟨qG3 BK188.out NB188_196.out NB188_196.out NB188_196.out⟩, ⟨qK3 HB.out GE173.out GE188.out GE196.out⟩⟩
                      ·rw [if_neg c96] at H; have c96b0 : (((rd_T104 y191 x117_5).f0) == ((rd_T104 l0_1 x71_3).f0)) = false := beq_eq_false_iff_ne.mpr c96; have c96b1 : (((rd_T104 y191 x117_5).f0) != ((rd_T104 l0_1 x71_3).f0)) = true := bne_iff_ne.mpr c96; have H' := A' H; clear H; have p195 : 0 ≤ (x117_5 : Int) := oD' qA; have q195 : x117_5 < (y191.length : Int) := oD' qA; obtain ⟨ad195, e195, hx195_0, hx195_1, hx195_2⟩ := at_T104 HR194.out x117_5 p195 q195; obtain rfl : ad187 = ad195 := (by injection e195)
                       try replace hx195_0 := qC HB.out hx195_0
                       try replace hx195_1 := qC HB.out hx195_1
                       try replace hx195_2 := qC HB.out hx195_2
                       replace p195 := eq_true p195; replace q195 := eq_true q195; go_wp2_with (first | ((with_reducible refine gate_dst (N := 10) rfl ?_); (try (refine gate_guard (by rfl) ?_; dsimp only)); refine box_event ?hg (N := 10) ?hd (cs := #[.int .i64 0, .int .i64 0, .bool false]) (t := 104) ?hr ?_; (case hd => rfl); (case hg => rfl); (case hr => first | (go_simp; done) | (go_simp; rfl)); intro gb196 hg w110 hbox hb; have n0_ := A' (O' (g := gb173) (qB BK173.out) hb); have n1_ := A' (O' (g := gb188) (qB BK188.out) hb); have n2_ := A' (W' (qK2 HB.out GE173.out GE188.out) hb); have n3_ := A' (hbox); have n4_ := A' ((by rw [hg]; exact (V' (qK2 HB.out GE173.out GE188.out)) : w.heap.size ≤ gb196)); have n5_ := A' ((by rw [hg]; exact (V' (qK2 HB.out GE173.out GE188.out)) : w.heap.size ≤ gb196)); have n6_ := A' ((by rw [hg]; exact Nat.ne_of_lt (bL' (g := gb173) (qB BK173.out)) : gb173 ≠ gb196)); have n7_ := A' ((by rw [hg]; exact Nat.ne_of_gt (bL' (g := gb173) (qB BK173.out)) : gb196 ≠ gb173)); have n8_ := A' ((by rw [hg]; exact Nat.ne_of_lt (bL' (g := gb188) (qB BK188.out)) : gb188 ≠ gb196)); have n9_ := A' ((by rw [hg]; exact Nat.ne_of_gt (bL' (g := gb188) (qB BK188.out)) : gb196 ≠ gb188)); clear BK173; clear BK188; clear HB; have BK173 := n0_; have BK188 := n1_; have HB := n2_; have BK196 := n3_; have GW196 := n4_; have GE196 := n5_; have NB173_196 := n6_; have NB196_173 := n7_; have NB188_196 := n8_; have NB196_188 := n9_; clear n0_ n1_ n2_ n3_ n4_ n5_ n6_ n7_ n8_ n9_; clear hb hbox hg; have hnb111 := NB196_173.out; have hnc111 := NB173_196.out; have hnb112 := NB196_188.out; have hnc112 := NB188_196.out; have hcz113_0 : w110.cell? ⟨gb196, 0, none⟩ = some (.int .i64 0) := (N' BK196.out 0).trans rfl; have hcz113_1 : w110.cell? ⟨gb196, 1, none⟩ = some (.int .i64 0) := (N' BK196.out 1).trans rfl; have hcz113_2 : w110.cell? ⟨gb196, 2, none⟩ = some (.bool false) := (N' BK196.out 2).trans rfl; have hfz113_0 := Y' BK196.out 0; have hfz113_1 := Y' BK196.out 1; have hfz113_2 := Y' BK196.out 2; have hnb114 := NB188_173.out; have hnc114 := NB173_188.out; have hcz115_0 : w110.cell? ⟨gb188, 0, none⟩ = some (.int .i64 ((rd_T104 l0_1 x71_3).f0)) := (N' BK188.out 0).trans rfl; have hcz115_1 : w110.cell? ⟨gb188, 1, none⟩ = some (.int .i64 ((rd_T104 l0_1 x71_3).f1)) := (N' BK188.out 1).trans rfl; have hcz115_2 : w110.cell? ⟨gb188, 2, none⟩ = some (.bool ((rd_T104 l0_1 x71_3).f2)) := (N' BK188.out 2).trans rfl; have hfz115_0 := Y' BK188.out 0; have hfz115_1 := Y' BK188.out 1; have hfz115_2 := Y' BK188.out 2))
                       go_roundg k5
                       case measure => have := HJ1.out; have := HK2.out; have := HK3.out; have := HJ60.out; have := HK5.out; omega
                       case rel => exact ⟨(wrap64 (x117_5 + 1)), qS, H', ⟨by have := HJ1.out; have := HK2.out; have := HK3.out; have := HJ60.out; have := HK5.out; omega⟩, ⟨qG3 BK173.out NB173_196.out NB173_196.out NB173_196.out⟩, ⟨qG3 BK188.out NB188_196.out NB188_196.out NB188_196.out⟩, ⟨qK3 HB.out GE173.out GE188.out GE196.out⟩⟩
                     ·rw [if_neg c95] at H; exact absurd H (by simp)
                    ·rw [if_neg c94] at H; exact absurd H (by simp)
                   ·rw [if_neg c93] at H; have c93b0 : decide (x117_5 < (y191.length : Int)) = false := dF' c93; clear c93; have H' := A' H; clear H; go_wp2
                    go_roundg k5
                    case measure => have := HJ1.out; have := HK2.out; have := HK3.out; have := HJ60.out; have := HK5.out; omega
                    case rel => exact ⟨(wrap64 (x71_3 + 1)), qS, H', ⟨by have := HJ1.out; have := HK2.out; have := HK3.out; have := HJ60.out; have := HK5.out; omega⟩, ⟨qB BK173.out⟩, ⟨qK2 HB.out GE173.out GE188.out⟩⟩
                ·rw [if_neg c89] at H; exact absurd H (by simp)
               ·rw [if_neg c88] at H; exact absurd H (by simp)
           ·rw [if_neg c60] at H; exact absurd H (by simp)
          ·rw [if_neg c59] at H; exact absurd H (by simp)
         ·rw [if_neg c58] at H; have c58b0 : decide (x71_3 < (l0_1.length : Int)) = false := dF' c58; clear c58; obtain rfl := Option.some.inj H; go_wp2; go_ret; exact ⟨qE, qK1 HB.out GE173.out⟩

end Go.Proofs.Ytebbdadpgapobaa.HEl
