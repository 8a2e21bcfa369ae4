-- Written by a program for this claim (the functions that the statement reaches, and that the program's code comes to them).
import Derived.Test.YtebbdadpgapobaaHElx0
import Derived.Test.YtebbdadpgapobaaHElx1
namespace Go.Proofs.Ytebbdadpgapobaa.HEl
open Go.RowKit Go.Proofs.YtebbdadpgapobaaW.PrintWords Go.Proofs.YtebbdadpgapobaaW.PrintLast Go.Proofs.YtebbdadpgapobaaW.PrintMore
attribute [local go_sem] max2_int min2_int max_two min_two max_three min_three max_four min_four   -- for this text's walks alone
set_option linter.unusedVariables false
set_option linter.unusedSimpArgs false

/-! ### spec_l09Ok: function 59 -/
mutual
def spec_l09Ok.j0 : Nat → Int → Bool → List (S90) → List (S104) → Option (Bool)
 | 0, _, _, _, _ => none
 | k + 1, x3, x25, x1000, x1001 => if x25 = true then (some false) else (spec_l09Ok.l0 k x3 0 0 x1000 x1001)
def spec_l09Ok.l0 : Nat → Int → Int → Int → List (S90) → List (S104) → Option (Bool)
 | 0, _, _, _, _, _ => none
 | k + 1, x3, x4, x5, x1000, x1001 => if x5 < (x1000.length : Int) then (if 0 ≤ x5 then ((spec_l00In.f ((rd_T90 x1000 x5).f0) 0 12).bind fun t106 => (if t106 = true then ((spec_l00In.f ((rd_T90 x1000 x5).f1) 0 12).bind fun t107 => (spec_l09Ok.j2 k x3 x4 x5 (!t107) x1000 x1001 ((rd_T90 x1000 x5).f0) ((rd_T90 x1000 x5).f1) ((rd_T90 x1000 x5).f2))) else (spec_l09Ok.j2 k x3 x4 x5 true x1000 x1001 ((rd_T90 x1000 x5).f0) ((rd_T90 x1000 x5).f1) ((rd_T90 x1000 x5).f2)))) else (none)) else (spec_l09Ok.l2 k x3 x4 0 x1000 x1001)
def spec_l09Ok.j2 : Nat → Int → Int → Int → Bool → List (S90) → List (S104) → Int → Int → Bool → Option (Bool)
 | 0, _, _, _, _, _, _, _, _, _ => none
 | k + 1, x3, x4, x5, x51, x1000, x1001, x106000, x106001, x106002 => if x51 = true then (some false) else (if x106002 = true then (spec_l09Ok.j3 k x3 x4 x5 x1000 x1001 x106000 x106001 x106002) else (spec_l09Ok.j3 k x3 (wrap64 (x4 + 1)) x5 x1000 x1001 x106000 x106001 x106002))
def spec_l09Ok.j3 : Nat → Int → Int → Int → List (S90) → List (S104) → Int → Int → Bool → Option (Bool)
 | 0, _, _, _, _, _, _, _, _ => none
 | k + 1, x3, x4, x5, x1000, x1001, x106000, x106001, x106002 => spec_l09Ok.l1 k x3 x4 x5 0 x1000 x1001 x106000 x106001 x106002
def spec_l09Ok.l1 : Nat → Int → Int → Int → Int → List (S90) → List (S104) → Int → Int → Bool → Option (Bool)
 | 0, _, _, _, _, _, _, _, _, _ => none
 | k + 1, x3, x4, x5, x7, x1000, x1001, x106000, x106001, x106002 => if x7 < x5 then (if 0 ≤ x7 then (if x7 < (x1000.length : Int) then (if ((rd_T90 x1000 x7).f0) = x106000 then (if ((rd_T90 x1000 x7).f1) = x106001 then (some false) else (spec_l09Ok.l1 k x3 x4 x5 (wrap64 (x7 + 1)) x1000 x1001 x106000 x106001 x106002)) else (spec_l09Ok.l1 k x3 x4 x5 (wrap64 (x7 + 1)) x1000 x1001 x106000 x106001 x106002)) else (none)) else (none)) else (spec_l09Ok.l0 k x3 x4 (wrap64 (x5 + 1)) x1000 x1001)
def spec_l09Ok.l2 : Nat → Int → Int → Int → List (S90) → List (S104) → Option (Bool)
 | 0, _, _, _, _, _ => none
 | k + 1, x3, x4, x8, x1000, x1001 => if x8 < (x1001.length : Int) then (if 0 ≤ x8 then ((spec_l00In.f ((rd_T104 x1001 x8).f0) 0 (wrap64 (x3 - 1))).bind fun t112 => (if t112 = true then ((spec_l00In.f ((rd_T104 x1001 x8).f1) (wrap64 (((rd_T104 x1001 x8).f0) + 1)) (wrap64 (x3 - 1))).bind fun t113 => (if t113 = true then (if 0 ≤ ((rd_T104 x1001 x8).f0) then (if ((rd_T104 x1001 x8).f0) < (x1000.length : Int) then (if (rd_T90 x1000 ((rd_T104 x1001 x8).f0)).f2 = true then (if 0 ≤ ((rd_T104 x1001 x8).f1) then (if ((rd_T104 x1001 x8).f1) < (x1000.length : Int) then (spec_l09Ok.j6 k x3 x4 x8 ((rd_T90 x1000 ((rd_T104 x1001 x8).f1)).f2) x1000 x1001 ((rd_T104 x1001 x8).f0) ((rd_T104 x1001 x8).f1) ((rd_T104 x1001 x8).f2)) else (none)) else (none)) else (spec_l09Ok.j6 k x3 x4 x8 false x1000 x1001 ((rd_T104 x1001 x8).f0) ((rd_T104 x1001 x8).f1) ((rd_T104 x1001 x8).f2))) else (none)) else (none)) else (spec_l09Ok.j6 k x3 x4 x8 true x1000 x1001 ((rd_T104 x1001 x8).f0) ((rd_T104 x1001 x8).f1) ((rd_T104 x1001 x8).f2)))) else (spec_l09Ok.j6 k x3 x4 x8 true x1000 x1001 ((rd_T104 x1001 x8).f0) ((rd_T104 x1001 x8).f1) ((rd_T104 x1001 x8).f2)))) else (none)) else (some (decide (x4 ≤ 3)))
def spec_l09Ok.j6 : Nat → Int → Int → Int → Bool → List (S90) → List (S104) → Int → Int → Bool → Option (Bool)
 | 0, _, _, _, _, _, _, _, _, _ => none
 | k + 1, x3, x4, x8, x140, x1000, x1001, x112000, x112001, x112002 => if x140 = true then (some false) else (spec_l09Ok.l3 k x3 x4 x8 0 x1000 x1001 x112000 x112001 x112002)
def spec_l09Ok.l3 : Nat → Int → Int → Int → Int → List (S90) → List (S104) → Int → Int → Bool → Option (Bool)
 | 0, _, _, _, _, _, _, _, _, _ => none
 | k + 1, x3, x4, x8, x10, x1000, x1001, x112000, x112001, x112002 => if x10 < x8 then (if 0 ≤ x10 then (if x10 < (x1001.length : Int) then (if ((rd_T104 x1001 x10).f0) = x112000 then (if ((rd_T104 x1001 x10).f1) = x112001 then (some false) else (spec_l09Ok.l3 k x3 x4 x8 (wrap64 (x10 + 1)) x1000 x1001 x112000 x112001 x112002)) else (spec_l09Ok.l3 k x3 x4 x8 (wrap64 (x10 + 1)) x1000 x1001 x112000 x112001 x112002)) else (none)) else (none)) else (spec_l09Ok.l2 k x3 x4 (wrap64 (x8 + 1)) x1000 x1001)
end
def spec_l09Ok.f (k : Nat) (l0_0 : List (S90)) (l0_1 : List (S104)) : Option (Bool) := if (l0_0.length : Int) > 8 then (spec_l09Ok.j0 k (l0_0.length : Int) true l0_0 l0_1) else (spec_l09Ok.j0 k (l0_0.length : Int) (decide ((l0_1.length : Int) > 8)) l0_0 l0_1)
theorem spec_l09Ok.mono_l : ∀ k, (∀ y0 y1 y2 y3, LeO (spec_l09Ok.j0 k y0 y1 y2 y3) (spec_l09Ok.j0 (k + 1) y0 y1 y2 y3)) ∧ (∀ y0 y1 y2 y3 y4, LeO (spec_l09Ok.l0 k y0 y1 y2 y3 y4) (spec_l09Ok.l0 (k + 1) y0 y1 y2 y3 y4)) ∧ (∀ y0 y1 y2 y3 y4 y5 y6 y7 y8, LeO (spec_l09Ok.j2 k y0 y1 y2 y3 y4 y5 y6 y7 y8) (spec_l09Ok.j2 (k + 1) y0 y1 y2 y3 y4 y5 y6 y7 y8)) ∧ (∀ y0 y1 y2 y3 y4 y5 y6 y7, LeO (spec_l09Ok.j3 k y0 y1 y2 y3 y4 y5 y6 y7) (spec_l09Ok.j3 (k + 1) y0 y1 y2 y3 y4 y5 y6 y7)) ∧ (∀ y0 y1 y2 y3 y4 y5 y6 y7 y8, LeO (spec_l09Ok.l1 k y0 y1 y2 y3 y4 y5 y6 y7 y8) (spec_l09Ok.l1 (k + 1) y0 y1 y2 y3 y4 y5 y6 y7 y8)) ∧ (∀ y0 y1 y2 y3 y4, LeO (spec_l09Ok.l2 k y0 y1 y2 y3 y4) (spec_l09Ok.l2 (k + 1) y0 y1 y2 y3 y4)) ∧ (∀ y0 y1 y2 y3 y4 y5 y6 y7 y8, LeO (spec_l09Ok.j6 k y0 y1 y2 y3 y4 y5 y6 y7 y8) (spec_l09Ok.j6 (k + 1) y0 y1 y2 y3 y4 y5 y6 y7 y8)) ∧ (∀ y0 y1 y2 y3 y4 y5 y6 y7 y8, LeO (spec_l09Ok.l3 k y0 y1 y2 y3 y4 y5 y6 y7 y8) (spec_l09Ok.l3 (k + 1) y0 y1 y2 y3 y4 y5 y6 y7 y8))
 | 0 => ⟨fun _ _ _ _ r h => by simp [spec_l09Ok.j0] at h, fun _ _ _ _ _ r h => by simp [spec_l09Ok.l0] at h, fun _ _ _ _ _ _ _ _ _ r h => by simp [spec_l09Ok.j2] at h, fun _ _ _ _ _ _ _ _ r h => by simp [spec_l09Ok.j3] at h, fun _ _ _ _ _ _ _ _ _ r h => by simp [spec_l09Ok.l1] at h, fun _ _ _ _ _ r h => by simp [spec_l09Ok.l2] at h, fun _ _ _ _ _ _ _ _ _ r h => by simp [spec_l09Ok.j6] at h, fun _ _ _ _ _ _ _ _ _ r h => by simp [spec_l09Ok.l3] at h⟩
 | k + 1 => by
  obtain ⟨ih0, ih1, ih2, ih3, ih4, ih5, ih6, ih7⟩ := spec_l09Ok.mono_l k
  refine ⟨?_, ?_, ?_, ?_, ?_, ?_, ?_, ?_⟩
  ·intro y0 y1 y2 y3
   unfold spec_l09Ok.j0
   repeat' first
   | (with_reducible exact ih0 _ _ _ _)
   | (with_reducible exact ih1 _ _ _ _ _)
   | (with_reducible exact ih2 _ _ _ _ _ _ _ _ _)
   | (with_reducible exact ih3 _ _ _ _ _ _ _ _)
   | (with_reducible exact ih4 _ _ _ _ _ _ _ _ _)
   | (with_reducible exact ih5 _ _ _ _ _)
   | (with_reducible exact ih6 _ _ _ _ _ _ _ _ _)
   | (with_reducible exact ih7 _ _ _ _ _ _ _ _ _)
   | (with_reducible exact LeO.refl _)
   | (with_reducible exact LeO.none _)
   | (with_reducible refine LeO.ite ?_ ?_)
   | (with_reducible refine LeO.bind ?_ (fun _ => ?_))
   | exact ih0 _ _ _ _
   | exact ih1 _ _ _ _ _
   | exact ih2 _ _ _ _ _ _ _ _ _
   | exact ih3 _ _ _ _ _ _ _ _
   | exact ih4 _ _ _ _ _ _ _ _ _
   | exact ih5 _ _ _ _ _
   | exact ih6 _ _ _ _ _ _ _ _ _
   | exact ih7 _ _ _ _ _ _ _ _ _
   | exact LeO.none _
   | refine LeO.ite ?_ ?_
   | refine LeO.bind ?_ (fun _ => ?_)
  ·intro y0 y1 y2 y3 y4
   unfold spec_l09Ok.l0
   repeat' first
   | (with_reducible exact ih0 _ _ _ _)
   | (with_reducible exact ih1 _ _ _ _ _)
   | (with_reducible exact ih2 _ _ _ _ _ _ _ _ _)
   | (with_reducible exact ih3 _ _ _ _ _ _ _ _)
   | (with_reducible exact ih4 _ _ _ _ _ _ _ _ _)
   | (with_reducible exact ih5 _ _ _ _ _)
   | (with_reducible exact ih6 _ _ _ _ _ _ _ _ _)
   | (with_reducible exact ih7 _ _ _ _ _ _ _ _ _)
   | (with_reducible exact LeO.refl _)
   | (with_reducible exact LeO.none _)
   | (with_reducible refine LeO.ite ?_ ?_)
   | (with_reducible refine LeO.bind ?_ (fun _ => ?_))
   | exact ih0 _ _ _ _
   | exact ih1 _ _ _ _ _
   | exact ih2 _ _ _ _ _ _ _ _ _
   | exact ih3 _ _ _ _ _ _ _ _
   | exact ih4 _ _ _ _ _ _ _ _ _
   | exact ih5 _ _ _ _ _
   | exact ih6 _ _ _ _ _ _ _ _ _
   | exact ih7 _ _ _ _ _ _ _ _ _
   | exact LeO.none _
   | refine LeO.ite ?_ ?_
   | refine LeO.bind ?_ (fun _ => ?_)
  ·intro y0 y1 y2 y3 y4 y5 y6 y7 y8
   unfold spec_l09Ok.j2
   repeat' first
   | (with_reducible exact ih0 _ _ _ _)
   | (with_reducible exact ih1 _ _ _ _ _)
   | (with_reducible exact ih2 _ _ _ _ _ _ _ _ _)
   | (with_reducible exact ih3 _ _ _ _ _ _ _ _)
   | (with_reducible exact ih4 _ _ _ _ _ _ _ _ _)
   | (with_reducible exact ih5 _ _ _ _ _)
   | (with_reducible exact ih6 _ _ _ _ _ _ _ _ _)
   | (with_reducible exact ih7 _ _ _ _ _ _ _ _ _)
   | (with_reducible exact LeO.refl _)
   | (with_reducible exact LeO.none _)
   | (with_reducible refine LeO.ite ?_ ?_)
   | (with_reducible refine LeO.bind ?_ (fun _ => ?_))
   | exact ih0 _ _ _ _
   | exact ih1 _ _ _ _ _
   | exact ih2 _ _ _ _ _ _ _ _ _
   | exact ih3 _ _ _ _ _ _ _ _
   | exact ih4 _ _ _ _ _ _ _ _ _
   | exact ih5 _ _ _ _ _
   | exact ih6 _ _ _ _ _ _ _ _ _
   | exact ih7 _ _ _ _ _ _ _ _ _
   | exact LeO.none _
   | refine LeO.ite ?_ ?_
   | refine LeO.bind ?_ (fun _ => ?_)
  ·intro y0 y1 y2 y3 y4 y5 y6 y7
   unfold spec_l09Ok.j3
   repeat' first
   | (with_reducible exact ih0 _ _ _ _)
   | (with_reducible exact ih1 _ _ _ _ _)
   | (with_reducible exact ih2 _ _ _ _ _ _ _ _ _)
   | (with_reducible exact ih3 _ _ _ _ _ _ _ _)
   | (with_reducible exact ih4 _ _ _ _ _ _ _ _ _)
   | (with_reducible exact ih5 _ _ _ _ _)
   | (with_reducible exact ih6 _ _ _ _ _ _ _ _ _)
   | (with_reducible exact ih7 _ _ _ _ _ _ _ _ _)
   | (with_reducible exact LeO.refl _)
   | (with_reducible exact LeO.none _)
   | (with_reducible refine LeO.ite ?_ ?_)
   | (with_reducible refine LeO.bind ?_ (fun _ => ?_))
   | exact ih0 _ _ _ _
   | exact ih1 _ _ _ _ _
   | exact ih2 _ _ _ _ _ _ _ _ _
   | exact ih3 _ _ _ _ _ _ _ _
   | exact ih4 _ _ _ _ _ _ _ _ _
   | exact ih5 _ _ _ _ _
   | exact ih6 _ _ _ _ _ _ _ _ _
   | exact ih7 _ _ _ _ _ _ _ _ _
   | exact LeO.none _
   | refine LeO.ite ?_ ?_
   | refine LeO.bind ?_ (fun _ => ?_)
  ·intro y0 y1 y2 y3 y4 y5 y6 y7 y8
   unfold spec_l09Ok.l1
   repeat' first
   | (with_reducible exact ih0 _ _ _ _)
   | (with_reducible exact ih1 _ _ _ _ _)
   | (with_reducible exact ih2 _ _ _ _ _ _ _ _ _)
   | (with_reducible exact ih3 _ _ _ _ _ _ _ _)
   | (with_reducible exact ih4 _ _ _ _ _ _ _ _ _)
   | (with_reducible exact ih5 _ _ _ _ _)
   | (with_reducible exact ih6 _ _ _ _ _ _ _ _ _)
   | (with_reducible exact ih7 _ _ _ _ _ _ _ _ _)
   | (with_reducible exact LeO.refl _)
   | (with_reducible exact LeO.none _)
   | (with_reducible refine LeO.ite ?_ ?_)
   | (with_reducible refine LeO.bind ?_ (fun _ => ?_))
   | exact ih0 _ _ _ _
   | exact ih1 _ _ _ _ _
   | exact ih2 _ _ _ _ _ _ _ _ _
   | exact ih3 _ _ _ _ _ _ _ _
   | exact ih4 _ _ _ _ _ _ _ _ _
   | exact ih5 _ _ _ _ _
   | exact ih6 _ _ _ _ _ _ _ _ _
   | exact ih7 _ _ _ _ _ _ _ _ _
   | exact LeO.none _
   | refine LeO.ite ?_ ?_
   | refine LeO.bind ?_ (fun _ => ?_)
  ·intro y0 y1 y2 y3 y4
   unfold spec_l09Ok.l2
   repeat' first
   | (with_reducible exact ih0 _ _ _ _)
   | (with_reducible exact ih1 _ _ _ _ _)
   | (with_reducible exact ih2 _ _ _ _ _ _ _ _ _)
   | (with_reducible exact ih3 _ _ _ _ _ _ _ _)
   | (with_reducible exact ih4 _ _ _ _ _ _ _ _ _)
   | (with_reducible exact ih5 _ _ _ _ _)
   | (with_reducible exact ih6 _ _ _ _ _ _ _ _ _)
   | (with_reducible exact ih7 _ _ _ _ _ _ _ _ _)
   | (with_reducible exact LeO.refl _)
   | (with_reducible exact LeO.none _)
   | (with_reducible refine LeO.ite ?_ ?_)
   | (with_reducible refine LeO.bind ?_ (fun _ => ?_))
   | exact ih0 _ _ _ _
   | exact ih1 _ _ _ _ _
   | exact ih2 _ _ _ _ _ _ _ _ _
   | exact ih3 _ _ _ _ _ _ _ _
   | exact ih4 _ _ _ _ _ _ _ _ _
   | exact ih5 _ _ _ _ _
   | exact ih6 _ _ _ _ _ _ _ _ _
   | exact ih7 _ _ _ _ _ _ _ _ _
   | exact LeO.none _
   | refine LeO.ite ?_ ?_
   | refine LeO.bind ?_ (fun _ => ?_)
  ·intro y0 y1 y2 y3 y4 y5 y6 y7 y8
   unfold spec_l09Ok.j6
   repeat' first
   | (with_reducible exact ih0 _ _ _ _)
   | (with_reducible exact ih1 _ _ _ _ _)
   | (with_reducible exact ih2 _ _ _ _ _ _ _ _ _)
   | (with_reducible exact ih3 _ _ _ _ _ _ _ _)
   | (with_reducible exact ih4 _ _ _ _ _ _ _ _ _)
   | (with_reducible exact ih5 _ _ _ _ _)
   | (with_reducible exact ih6 _ _ _ _ _ _ _ _ _)
   | (with_reducible exact ih7 _ _ _ _ _ _ _ _ _)
   | (with_reducible exact LeO.refl _)
   | (with_reducible exact LeO.none _)
   | (with_reducible refine LeO.ite ?_ ?_)
   | (with_reducible refine LeO.bind ?_ (fun _ => ?_))
   | exact ih0 _ _ _ _
   | exact ih1 _ _ _ _ _
   | exact ih2 _ _ _ _ _ _ _ _ _
   | exact ih3 _ _ _ _ _ _ _ _
   | exact ih4 _ _ _ _ _ _ _ _ _
   | exact ih5 _ _ _ _ _
   | exact ih6 _ _ _ _ _ _ _ _ _
   | exact ih7 _ _ _ _ _ _ _ _ _
   | exact LeO.none _
   | refine LeO.ite ?_ ?_
   | refine LeO.bind ?_ (fun _ => ?_)
  ·intro y0 y1 y2 y3 y4 y5 y6 y7 y8
   unfold spec_l09Ok.l3
   repeat' first
   | (with_reducible exact ih0 _ _ _ _)
   | (with_reducible exact ih1 _ _ _ _ _)
   | (with_reducible exact ih2 _ _ _ _ _ _ _ _ _)
   | (with_reducible exact ih3 _ _ _ _ _ _ _ _)
   | (with_reducible exact ih4 _ _ _ _ _ _ _ _ _)
   | (with_reducible exact ih5 _ _ _ _ _)
   | (with_reducible exact ih6 _ _ _ _ _ _ _ _ _)
   | (with_reducible exact ih7 _ _ _ _ _ _ _ _ _)
   | (with_reducible exact LeO.refl _)
   | (with_reducible exact LeO.none _)
   | (with_reducible refine LeO.ite ?_ ?_)
   | (with_reducible refine LeO.bind ?_ (fun _ => ?_))
   | exact ih0 _ _ _ _
   | exact ih1 _ _ _ _ _
   | exact ih2 _ _ _ _ _ _ _ _ _
   | exact ih3 _ _ _ _ _ _ _ _
   | exact ih4 _ _ _ _ _ _ _ _ _
   | exact ih5 _ _ _ _ _
   | exact ih6 _ _ _ _ _ _ _ _ _
   | exact ih7 _ _ _ _ _ _ _ _ _
   | exact LeO.none _
   | refine LeO.ite ?_ ?_
   | refine LeO.bind ?_ (fun _ => ?_)
theorem spec_l09Ok.mono : ∀ a0 a1 k, LeO (spec_l09Ok.f k a0 a1) (spec_l09Ok.f (k + 1) a0 a1) := by
 intro a0 a1 k
 obtain ⟨ih0, ih1, ih2, ih3, ih4, ih5, ih6, ih7⟩ := spec_l09Ok.mono_l k
 unfold spec_l09Ok.f
 repeat' first
   | (with_reducible exact ih0 _ _ _ _)
   | (with_reducible exact ih1 _ _ _ _ _)
   | (with_reducible exact ih2 _ _ _ _ _ _ _ _ _)
   | (with_reducible exact ih3 _ _ _ _ _ _ _ _)
   | (with_reducible exact ih4 _ _ _ _ _ _ _ _ _)
   | (with_reducible exact ih5 _ _ _ _ _)
   | (with_reducible exact ih6 _ _ _ _ _ _ _ _ _)
   | (with_reducible exact ih7 _ _ _ _ _ _ _ _ _)
   | (with_reducible exact LeO.refl _)
   | (with_reducible exact LeO.none _)
   | (with_reducible refine LeO.ite ?_ ?_)
   | (with_reducible refine LeO.bind ?_ (fun _ => ?_))
   | exact ih0 _ _ _ _
   | exact ih1 _ _ _ _ _
   | exact ih2 _ _ _ _ _ _ _ _ _
   | exact ih3 _ _ _ _ _ _ _ _
   | exact ih4 _ _ _ _ _ _ _ _ _
   | exact ih5 _ _ _ _ _
   | exact ih6 _ _ _ _ _ _ _ _ _
   | exact ih7 _ _ _ _ _ _ _ _ _
   | exact LeO.none _
   | refine LeO.ite ?_ ?_
   | refine LeO.bind ?_ (fun _ => ?_)
def spec_l09Ok.T16 : Bool × List (List Nat × List Nat) := (true, [([], []), ([0], [0]), ([1], [1]), ([2], [2]), ([], []), ([3, 4], [3, 4]), ([5], [5]), ([6], [6]), ([], []), ([8], [8]), ([7, 9], [7, 9]), ([10], [10]), ([11], [11]), ([12, 11], [11, 12]), ([13, 11], [11, 13]), ([14, 11], [11, 14]), ([11], [11]), ([15, 16, 11], [11, 15, 16]), ([17, 11], [11, 17]), ([18, 11], [11, 18]), ([11], [11]), ([20, 11], [11, 20]), ([19, 21, 11], [11, 19, 21]), ([11, 22], [11, 22])])
def spec_l09Ok.B16 : List Nat := [0, 1, 3, 7, 0, 31, 63, 127, 0, 256, 1023, 2047, 4095, 8191, 16383, 32767, 4095, 131071, 262143, 524287, 4095, 1052671, 4194303, 8388607]
theorem spec_l09Ok.tab16 : rtab .any (opsOf Try.f59 16) = spec_l09Ok.T16 := by kernel_rfl
theorem spec_l09Ok.bits16 : waitsOk spec_l09Ok.T16.2 spec_l09Ok.B16 = true := by kernel_rfl
def spec_l09Ok.T22 : Bool × List (List Nat × List Nat) := (true, [([], []), ([0], [0]), ([], []), ([2], [2]), ([1, 3], [1, 3]), ([4], [4]), ([5, 4], [5]), ([6], [6]), ([7, 6], [6, 7]), ([6], [6]), ([9, 6], [6, 9]), ([10, 6], [6, 10]), ([6], [6]), ([12, 6], [6, 12]), ([8, 11, 13, 6, 6], [6, 8, 11, 13]), ([14, 6], [6, 14]), ([6, 15], [6, 15]), ([16, 14], [16]), ([17], [17]), ([18, 17], [17, 18]), ([19, 17], [17, 19]), ([20, 17], [17, 20]), ([17], [17]), ([22, 17], [17, 22]), ([21, 23, 17], [17, 21, 23]), ([24, 17], [17, 24]), ([25, 17], [17, 25]), ([26, 17, 17], [17, 26]), ([27], [27]), ([28, 27], [27, 28]), ([29, 27], [27, 29]), ([30, 27], [27, 30]), ([27], [27]), ([32, 27], [27, 32]), ([31, 33, 27], [27, 31, 33]), ([34, 27], [27, 34]), ([35, 27], [27, 35]), ([27, 36, 17], [17, 27, 36]), ([17, 37], [17, 37])])
def spec_l09Ok.B22 : List Nat := [0, 1, 0, 4, 15, 31, 63, 127, 255, 127, 639, 1663, 127, 4223, 16383, 32767, 65535, 131071, 262143, 524287, 1048575, 2097151, 262143, 4456447, 16777215, 33554431, 67108863, 134217727, 268435455, 536870911, 1073741823, 2147483647, 268435455, 4563402751, 17179869183, 34359738367, 68719476735, 137438953471, 274877906943]
theorem spec_l09Ok.tab22 : rtab .any (opsOf Try.f59 22) = spec_l09Ok.T22 := by kernel_rfl
theorem spec_l09Ok.bits22 : waitsOk spec_l09Ok.T22.2 spec_l09Ok.B22 = true := by kernel_rfl
def spec_l09Ok.T27 : Bool × List (List Nat × List Nat) := (true, [([], []), ([0], [0]), ([1], [1]), ([2], [2]), ([], []), ([3, 4], [3, 4]), ([5], [5]), ([6], [6]), ([], []), ([8], [8]), ([7, 9], [7, 9]), ([10], [10]), ([11], [11]), ([12, 11], [11, 12]), ([13, 11], [11, 13]), ([14, 11], [11, 14]), ([11], [11]), ([15, 16, 11], [11, 15, 16]), ([17, 11], [11, 17]), ([18, 11], [11, 18]), ([11], [11]), ([20, 11], [11, 20]), ([19, 21, 11], [11, 19, 21]), ([11, 22], [11, 22])])
def spec_l09Ok.B27 : List Nat := [0, 1, 3, 7, 0, 31, 63, 127, 0, 256, 1023, 2047, 4095, 8191, 16383, 32767, 4095, 131071, 262143, 524287, 4095, 1052671, 4194303, 8388607]
theorem spec_l09Ok.tab27 : rtab .any (opsOf Try.f59 27) = spec_l09Ok.T27 := by kernel_rfl
theorem spec_l09Ok.bits27 : waitsOk spec_l09Ok.T27.2 spec_l09Ok.B27 = true := by kernel_rfl
set_option maxHeartbeats 8000000 in
set_option maxRecDepth 100000 in
theorem spec_l09Ok.calls (k : Nat) (gp0 : Nat) (A0_0 : Option Addr) (c0_0 : Nat) (l0_0 : List (S90)) (A0_1 : Option Addr) (c0_1 : Nat) (l0_1 : List (S104)) (r : Bool) (w : World) (hb0 : w.heap[gp0]? = some (.cells #[.slice A0_0 l0_0.length c0_0, .slice A0_1 l0_1.length c0_1] 33 (0, 0))) (hr0_0 : Kd.C k90 w A0_0 l0_0.length l0_0) (hc0_0 : l0_0.length ≤ c0_0) (hr0_1 : Kd.C k104 w A0_1 l0_1.length l0_1) (hc0_1 : l0_1.length ≤ c0_1) (h : spec_l09Ok.f k l0_0 l0_1 = some r) :
  Calls Try.prog 59 #[.pointer (some ⟨gp0, 0, none⟩)] w fun e w' => e = .returned (.bool r) ∧ Below w.heap.size w w' := by
 have hu90 := Try.underlying90; have hu104 := Try.underlying104; have HR0_0 := A' hr0_0; have HC0_0 := A' hc0_0; clear hr0_0 hc0_0; have HR0_1 := A' hr0_1; have HC0_1 := A' hc0_1; clear hr0_1 hc0_1; have BK0 := A' hb0; clear hb0; have HB := A' (Below.refl w.heap.size w); have H : (if (l0_0.length : Int) > 8 then (spec_l09Ok.j0 k (l0_0.length : Int) true l0_0 l0_1) else (spec_l09Ok.j0 k (l0_0.length : Int) (decide ((l0_1.length : Int) > 8)) l0_0 l0_1)) = some r := h; clear h; have HC2 := A' H; clear H; have hcz3_0 : w.cell? ⟨gp0, 0, none⟩ = some (.slice A0_0 l0_0.length c0_0) := (N' BK0.out 0).trans rfl; have hcz3_1 : w.cell? ⟨gp0, 1, none⟩ = some (.slice A0_1 l0_1.length c0_1) := (N' BK0.out 1).trans rfl; have hfz3_0 := Y' BK0.out 0; have hfz3_1 := Y' BK0.out 1; go_enter Try.func59, Try.ntmps59; go_upto_region 2 with (fail)
 go_cut [25] (fun v25 wc => ∃ (kq : Nat) (x25_1 : Bool), v25 = .bool x25_1 ∧ Aside0 (spec_l09Ok.j0 kq (l0_0.length : Int) x25_1 l0_0 l0_1 = some r) ∧ Aside0 (kq ≤ k) ∧ Aside0 (wc.heap[gp0]? = some (.cells #[(.slice A0_0 l0_0.length c0_0), (.slice A0_1 l0_1.length c0_1)] 33 (0, 0))) ∧ Aside0 (Below w.heap.size w wc))
 case first =>
  have H := HC2.out; clear HC2
  by_cases c4 : (l0_0.length : Int) > 8
  ·rw [if_pos c4] at H; have c4b0 : decide (8 < (l0_0.length : Int)) = true := dT' c4; have c4b1 : decide (8 < l0_0.length) = true := dT' (by omega); clear c4; (first | rw [c4b0] | (simp only [i64_w, i32_w]; rw [c4b0]) | skip); have H' := A' H; clear H; go_wp2
   go_meet
   case rel => exact ⟨_, (true), qS, H', ⟨by first | omega | exact Nat.le_refl _⟩, ⟨qB BK0.out⟩, ⟨qK0 HB.out⟩⟩
  ·rw [if_neg c4] at H; have c4b0 : decide (8 < (l0_0.length : Int)) = false := dF' c4; have c4b1 : decide (8 < l0_0.length) = false := dF' (by omega); clear c4; (first | rw [c4b0] | (simp only [i64_w, i32_w]; rw [c4b0]) | skip); have H' := A' H; clear H; have hcz5_0 : w.cell? ⟨gp0, 0, none⟩ = some (.slice A0_0 l0_0.length c0_0) := (N' BK0.out 0).trans rfl; have hcz5_1 : w.cell? ⟨gp0, 1, none⟩ = some (.slice A0_1 l0_1.length c0_1) := (N' BK0.out 1).trans rfl; have hfz5_0 := Y' BK0.out 0; have hfz5_1 := Y' BK0.out 1; go_wp2
   go_meet
   case rel => exact ⟨_, (decide ((l0_1.length : Int) > 8)), qS, H', ⟨by first | omega | exact Nat.le_refl _⟩, ⟨qB BK0.out⟩, ⟨qK0 HB.out⟩⟩
 case rest =>
  clear HC2; try clear p2
  try clear c4
  try clear c4b0
  try clear c4b1
  try clear c5
  try clear hcz3_0
  try clear hcz3_1
  try clear hcz5_0
  try clear hcz5_1
  try clear hfz3_0
  try clear hfz3_1
  try clear hfz5_0
  try clear hfz5_1
  obtain ⟨kq, x25_1, rfl, HA, HJ1, BK0, HB⟩ := hcut
  cases kq with
  | zero => exact absurd HA.out (by simp [spec_l09Ok.j0])
  | succ kj1 =>
   have H := HA.out; clear HA; simp only [spec_l09Ok.j0] at H
   by_cases c6 : x25_1 = true
   ·subst c6; have H1 : (some false) = some r := by rw [if_pos rfl] at H; exact H
    clear H; have H := H1; clear H1; obtain rfl := Option.some.inj H; go_wp2; go_ret; exact ⟨qE, qK0 HB.out⟩
   ·replace c6 := Bool.eq_false_iff.mpr c6; subst c6; have H1 : (spec_l09Ok.l0 kj1 (l0_0.length : Int) 0 0 l0_0 l0_1) = some r := by rw [if_neg (show ¬ (false = true) by decide)] at H; exact H
    clear H; have H := H1; clear H1; have H' := A' H; clear H; go_wp2
    go_loopg [4, 5] kj1 (fun kq v4 v5 w' => ∃ (x4_2 : Int) (x5_2 : Int), v4 = .int .i64 x4_2 ∧ v5 = .int .i64 x5_2 ∧ Aside0 (spec_l09Ok.l0 kq (l0_0.length : Int) x4_2 x5_2 l0_0 l0_1 = some r) ∧ Aside0 (kq ≤ kj1) ∧ Aside0 (w'.heap[gp0]? = some (.cells #[(.slice A0_0 l0_0.length c0_0), (.slice A0_1 l0_1.length c0_1)] 33 (0, 0))) ∧ Aside0 (Below w.heap.size w w'))
    case atStart => exact ⟨(0), (0), qS, qS, H', ⟨Nat.le_refl _⟩, ⟨qB BK0.out⟩, ⟨qK0 HB.out⟩⟩
    case round =>
     clear H'; try clear p2
     try clear c4
     try clear c4b0
     try clear c4b1
     try clear c5
     try clear c6
     try clear hcz3_0
     try clear hcz3_1
     try clear hcz5_0
     try clear hcz5_1
     try clear hfz3_0
     try clear hfz3_1
     try clear hfz5_0
     try clear hfz5_1
     try clear p2
     obtain ⟨x4_2, x5_2, rfl, rfl, HA, HK2, BK0, HB⟩ := hrel
     cases gk with
     | zero => exact absurd HA.out (by simp [spec_l09Ok.l0])
     | succ k2 =>
      have H := HA.out; clear HA; simp only [spec_l09Ok.l0] at H
      by_cases c7 : x5_2 < (l0_0.length : Int)
      ·rw [if_pos c7] at H; have c7b0 : decide (x5_2 < (l0_0.length : Int)) = true := dT' c7; clear c7
       by_cases c8 : 0 ≤ x5_2
       ·rw [if_pos c8] at H; have c8b0 : decide (0 ≤ x5_2) = true := dT' c8; clear c8; have HC9 := A' H; clear H; have hcz10_0 : wr.cell? ⟨gp0, 0, none⟩ = some (.slice A0_0 l0_0.length c0_0) := (N' BK0.out 0).trans rfl; have hcz10_1 : wr.cell? ⟨gp0, 1, none⟩ = some (.slice A0_1 l0_1.length c0_1) := (N' BK0.out 1).trans rfl; have hfz10_0 := Y' BK0.out 0; have hfz10_1 := Y' BK0.out 1; have p104 : 0 ≤ (x5_2 : Int) := oD' qA; have q104 : x5_2 < (l0_0.length : Int) := oD' qA; obtain ⟨ad104, e104, hx104_0, hx104_1, hx104_2⟩ := at_T90 HR0_0.out x5_2 p104 q104
        cases e104
        try replace hx104_0 := qC HB.out hx104_0
        try replace hx104_1 := qC HB.out hx104_1
        try replace hx104_2 := qC HB.out hx104_2
        replace p104 := eq_true p104; replace q104 := eq_true q104; go_upto_region 9 with (first | ((with_reducible refine gate_dst (N := 6) rfl ?_); (try (refine gate_guard (by rfl) ?_; dsimp only)); refine box_event ?hg (N := 6) ?hd (cs := #[.int .i64 0, .int .i64 0, .bool false]) (t := 90) ?hr ?_; (case hd => rfl); (case hg => rfl); (case hr => first | (go_simp; done) | (go_simp; rfl)); intro gb105 hg w11 hbox hb; have n0_ := A' (O' (g := gp0) (qB BK0.out) hb); have n1_ := A' (W' (qK0 HB.out) hb); have n2_ := A' (hbox); have n3_ := A' ((by rw [hg]; exact (V' (qK0 HB.out)) : w.heap.size ≤ gb105)); have n4_ := A' ((by rw [hg]; exact (V' (qK0 HB.out)) : w.heap.size ≤ gb105)); have n5_ := A' ((by rw [hg]; exact Nat.ne_of_lt (bL' (g := gp0) (qB BK0.out)) : gp0 ≠ gb105)); have n6_ := A' ((by rw [hg]; exact Nat.ne_of_gt (bL' (g := gp0) (qB BK0.out)) : gb105 ≠ gp0)); clear BK0; clear HB; have BK0 := n0_; have HB := n1_; have BK105 := n2_; have GW105 := n3_; have GE105 := n4_; have NB0_105 := n5_; have NB105_0 := n6_; clear n0_ n1_ n2_ n3_ n4_ n5_ n6_; clear hb hbox hg; have hnb12 := NB105_0.out; have hnc12 := NB0_105.out; have hcz13_0 : w11.cell? ⟨gb105, 0, none⟩ = some (.int .i64 0) := (N' BK105.out 0).trans rfl; have hcz13_1 : w11.cell? ⟨gb105, 1, none⟩ = some (.int .i64 0) := (N' BK105.out 1).trans rfl; have hcz13_2 : w11.cell? ⟨gb105, 2, none⟩ = some (.bool false) := (N' BK105.out 2).trans rfl; have hfz13_0 := Y' BK105.out 0; have hfz13_1 := Y' BK105.out 1; have hfz13_2 := Y' BK105.out 2))
        (try simp only [Act.put, List.setIfInBounds_toArray, List.set_cons_zero, List.set_cons_succ])
        go_cut [51] (fun v51 wc => ∃ (kq : Nat) (x51_8 : Bool), v51 = .bool x51_8 ∧ Aside0 (spec_l09Ok.j2 kq (l0_0.length : Int) x4_2 x5_2 x51_8 l0_0 l0_1 ((rd_T90 l0_0 x5_2).f0) ((rd_T90 l0_0 x5_2).f1) ((rd_T90 l0_0 x5_2).f2) = some r) ∧ Aside0 (kq ≤ k2) ∧ Aside0 (wc.heap[gp0]? = some (.cells #[(.slice (some ad104) l0_0.length c0_0), (.slice A0_1 l0_1.length c0_1)] 33 (0, 0))) ∧ Aside0 (wc.heap[gb105]? = some (.cells #[.int .i64 ((rd_T90 l0_0 x5_2).f0), .int .i64 ((rd_T90 l0_0 x5_2).f1), .bool ((rd_T90 l0_0 x5_2).f2)] 90 (0, 0))) ∧ Aside0 (Below w.heap.size w wc))
        case first =>
         have H := HC9.out; clear HC9; replace H := Option.bind_eq_some_iff.mp H; obtain ⟨t106, A140, H⟩ := H; replace H : (if t106 = true then ((spec_l00In.f ((rd_T90 l0_0 x5_2).f1) 0 12).bind fun t107 => (spec_l09Ok.j2 k2 (l0_0.length : Int) x4_2 x5_2 (!t107) l0_0 l0_1 ((rd_T90 l0_0 x5_2).f0) ((rd_T90 l0_0 x5_2).f1) ((rd_T90 l0_0 x5_2).f2))) else (spec_l09Ok.j2 k2 (l0_0.length : Int) x4_2 x5_2 true l0_0 l0_1 ((rd_T90 l0_0 x5_2).f0) ((rd_T90 l0_0 x5_2).f1) ((rd_T90 l0_0 x5_2).f2))) = some r := H; have A14 := A' A140; clear A140
         by_cases c15 : t106 = true
         ·subst c15; have H1 : ((spec_l00In.f ((rd_T90 l0_0 x5_2).f1) 0 12).bind fun t107 => (spec_l09Ok.j2 k2 (l0_0.length : Int) x4_2 x5_2 (!t107) l0_0 l0_1 ((rd_T90 l0_0 x5_2).f0) ((rd_T90 l0_0 x5_2).f1) ((rd_T90 l0_0 x5_2).f2))) = some r := by rw [if_pos rfl] at H; exact H
          clear H; have H := H1; clear H1; replace H := Option.bind_eq_some_iff.mp H; obtain ⟨t107, A160, H⟩ := H; replace H : (spec_l09Ok.j2 k2 (l0_0.length : Int) x4_2 x5_2 (!t107) l0_0 l0_1 ((rd_T90 l0_0 x5_2).f0) ((rd_T90 l0_0 x5_2).f1) ((rd_T90 l0_0 x5_2).f2)) = some r := H; have A16 := A' A160; clear A160; have H' := A' H; clear H; have hnb17 := NB105_0.out; have hnc17 := NB0_105.out; have hcz18_0 : w11.cell? ⟨gb105, 0, none⟩ = some (.int .i64 0) := (N' BK105.out 0).trans rfl; have hcz18_1 : w11.cell? ⟨gb105, 1, none⟩ = some (.int .i64 0) := (N' BK105.out 1).trans rfl; have hcz18_2 : w11.cell? ⟨gb105, 2, none⟩ = some (.bool false) := (N' BK105.out 2).trans rfl; have hfz18_0 := Y' BK105.out 0; have hfz18_1 := Y' BK105.out 1; have hfz18_2 := Y' BK105.out 2; go_wp2_with (first | ((with_reducible refine gate_callee (f := 82) rfl ?_); refine goesL_ (some 44) rfl rfl Try.func82 (by kernel_rfl) rfl #[.int .i64 ((rd_T90 l0_0 x5_2).f0), .int .i64 0, .int .i64 12] rfl (by (try simp only [List.map_toArray, List.map_cons, List.map_nil]); first | done | rfl | (simp only [List.length_drop, List.length_take]; rfl)) ?_; (with_reducible refine (spec_l00In.calls ((rd_T90 l0_0 x5_2).f0) 0 12 true _ A14.out).mono ?_); rintro e w' ⟨rfl, ⟨nd, rfl⟩⟩; refine ⟨_, rfl, ?_⟩) | (go_at_call 82; (with_reducible refine (spec_l00In.calls ((rd_T90 l0_0 x5_2).f1) 0 12 t107 _ A16.out).mono ?_); rintro e w' ⟨rfl, ⟨nd, rfl⟩⟩))
          go_meet
          case rel => exact ⟨_, (!t107), qS, H', ⟨by have := HJ1.out; have := HK2.out; first | omega | exact Nat.le_refl _⟩, ⟨qG3 BK0.out NB0_105.out NB0_105.out NB0_105.out⟩, ⟨by (with_reducible repeat (first | refine G' ?_ _ | refine I' ?_ | refine hA' ?_ _)); refine blk_put (cs := #[.int .i64 ((rd_T90 l0_0 x5_2).f0), .int .i64 ((rd_T90 l0_0 x5_2).f1), .bool false]) ?_ 2 _ rfl; (with_reducible repeat (first | refine G' ?_ _ | refine I' ?_ | refine hA' ?_ _)); refine blk_put (cs := #[.int .i64 ((rd_T90 l0_0 x5_2).f0), .int .i64 0, .bool false]) ?_ 1 _ rfl; (with_reducible repeat (first | refine G' ?_ _ | refine I' ?_ | refine hA' ?_ _)); refine blk_put (cs := #[.int .i64 0, .int .i64 0, .bool false]) ?_ 0 _ rfl; (with_reducible repeat (first | refine G' ?_ _ | refine I' ?_ | refine hA' ?_ _)); exact BK105.out⟩, ⟨qK1 HB.out GE105.out⟩⟩
         ·replace c15 := Bool.eq_false_iff.mpr c15; subst c15; have H1 : (spec_l09Ok.j2 k2 (l0_0.length : Int) x4_2 x5_2 true l0_0 l0_1 ((rd_T90 l0_0 x5_2).f0) ((rd_T90 l0_0 x5_2).f1) ((rd_T90 l0_0 x5_2).f2)) = some r := by rw [if_neg (show ¬ (false = true) by decide)] at H; exact H
          clear H; have H := H1; clear H1; have H' := A' H; clear H; have hnb19 := NB105_0.out; have hnc19 := NB0_105.out; have hcz20_0 : w11.cell? ⟨gb105, 0, none⟩ = some (.int .i64 0) := (N' BK105.out 0).trans rfl; have hcz20_1 : w11.cell? ⟨gb105, 1, none⟩ = some (.int .i64 0) := (N' BK105.out 1).trans rfl; have hcz20_2 : w11.cell? ⟨gb105, 2, none⟩ = some (.bool false) := (N' BK105.out 2).trans rfl; have hfz20_0 := Y' BK105.out 0; have hfz20_1 := Y' BK105.out 1; have hfz20_2 := Y' BK105.out 2; go_wp2_with (first | ((with_reducible refine gate_callee (f := 82) rfl ?_); refine goesL_ (some 44) rfl rfl Try.func82 (by kernel_rfl) rfl #[.int .i64 ((rd_T90 l0_0 x5_2).f0), .int .i64 0, .int .i64 12] rfl (by (try simp only [List.map_toArray, List.map_cons, List.map_nil]); first | done | rfl | (simp only [List.length_drop, List.length_take]; rfl)) ?_; (with_reducible refine (spec_l00In.calls ((rd_T90 l0_0 x5_2).f0) 0 12 false _ A14.out).mono ?_); rintro e w' ⟨rfl, ⟨nd, rfl⟩⟩; refine ⟨_, rfl, ?_⟩))
          go_meet
          case rel => exact ⟨_, (true), qS, H', ⟨by have := HJ1.out; have := HK2.out; first | omega | exact Nat.le_refl _⟩, ⟨qG3 BK0.out NB0_105.out NB0_105.out NB0_105.out⟩, ⟨by (with_reducible repeat (first | refine G' ?_ _ | refine I' ?_ | refine hA' ?_ _)); refine blk_put (cs := #[.int .i64 ((rd_T90 l0_0 x5_2).f0), .int .i64 ((rd_T90 l0_0 x5_2).f1), .bool false]) ?_ 2 _ rfl; (with_reducible repeat (first | refine G' ?_ _ | refine I' ?_ | refine hA' ?_ _)); refine blk_put (cs := #[.int .i64 ((rd_T90 l0_0 x5_2).f0), .int .i64 0, .bool false]) ?_ 1 _ rfl; (with_reducible repeat (first | refine G' ?_ _ | refine I' ?_ | refine hA' ?_ _)); refine blk_put (cs := #[.int .i64 0, .int .i64 0, .bool false]) ?_ 0 _ rfl; (with_reducible repeat (first | refine G' ?_ _ | refine I' ?_ | refine hA' ?_ _)); exact BK105.out⟩, ⟨qK1 HB.out GE105.out⟩⟩
        case rest =>
         clear HC9; try clear c1
         try clear p1
         try clear q1
         try clear hx1
         try clear p2
         try clear c4
         try clear c4b0
         try clear c4b1
         try clear c5
         try clear c6
         try clear c7
         try clear c7b0
         try clear c8
         try clear c8b0
         try clear p10
         try clear q10
         try clear hx10
         try clear c12
         try clear c15
         try clear c17
         try clear c19
         try clear hcz10_0
         try clear hcz10_1
         try clear hcz13_0
         try clear hcz13_1
         try clear hcz13_2
         try clear hcz18_0
         try clear hcz18_1
         try clear hcz18_2
         try clear hcz20_0
         try clear hcz20_1
         try clear hcz20_2
         try clear hcz3_0
         try clear hcz3_1
         try clear hcz5_0
         try clear hcz5_1
         try clear hfz10_0
         try clear hfz10_1
         try clear hfz13_0
         try clear hfz13_1
         try clear hfz13_2
         try clear hfz18_0
         try clear hfz18_1
         try clear hfz18_2
         try clear hfz20_0
         try clear hfz20_1
         try clear hfz20_2
         try clear hfz3_0
         try clear hfz3_1
         try clear hfz5_0
         try clear hfz5_1
         try clear hx104_0
         try clear hx104_1
         try clear hx104_2
         try clear p104
         try clear p2
         try clear q104
         obtain ⟨kq, x51_8, rfl, HA, HJ8, BK0, BK105, HB⟩ := hcut
         cases kq with
         | zero => exact absurd HA.out (by simp [spec_l09Ok.j2])
         | succ kj8 =>
          have H := HA.out; clear HA; simp only [spec_l09Ok.j2] at H
          by_cases c21 : x51_8 = true
          ·subst c21; have H1 : (some false) = some r := by rw [if_pos rfl] at H; exact H
           clear H; have H := H1; clear H1; obtain rfl := Option.some.inj H; go_wp2; go_ret; exact ⟨qE, qK1 HB.out GE105.out⟩
          ·replace c21 := Bool.eq_false_iff.mpr c21; subst c21; have H1 : (if ((rd_T90 l0_0 x5_2).f2) = true then (spec_l09Ok.j3 kj8 (l0_0.length : Int) x4_2 x5_2 l0_0 l0_1 ((rd_T90 l0_0 x5_2).f0) ((rd_T90 l0_0 x5_2).f1) ((rd_T90 l0_0 x5_2).f2)) else (spec_l09Ok.j3 kj8 (l0_0.length : Int) (wrap64 (x4_2 + 1)) x5_2 l0_0 l0_1 ((rd_T90 l0_0 x5_2).f0) ((rd_T90 l0_0 x5_2).f1) ((rd_T90 l0_0 x5_2).f2))) = some r := by rw [if_neg (show ¬ (false = true) by decide)] at H; exact H
           clear H; have H := H1; clear H1; have HC22 := A' H; clear H; have hnb23 := NB105_0.out; have hnc23 := NB0_105.out; have hcz24_0 : wc.cell? ⟨gb105, 0, none⟩ = some (.int .i64 ((rd_T90 l0_0 x5_2).f0)) := (N' BK105.out 0).trans rfl; have hcz24_1 : wc.cell? ⟨gb105, 1, none⟩ = some (.int .i64 ((rd_T90 l0_0 x5_2).f1)) := (N' BK105.out 1).trans rfl; have hcz24_2 : wc.cell? ⟨gb105, 2, none⟩ = some (.bool ((rd_T90 l0_0 x5_2).f2)) := (N' BK105.out 2).trans rfl; have hfz24_0 := Y' BK105.out 0; have hfz24_1 := Y' BK105.out 1; have hfz24_2 := Y' BK105.out 2; go_upto_if 54 with (fail)
           go_cut [4] (fun v4 wc => ∃ (kq : Nat) (x4_21 : Int), v4 = .int .i64 x4_21 ∧ Aside0 (spec_l09Ok.j3 kq (l0_0.length : Int) x4_21 x5_2 l0_0 l0_1 ((rd_T90 l0_0 x5_2).f0) ((rd_T90 l0_0 x5_2).f1) ((rd_T90 l0_0 x5_2).f2) = some r) ∧ Aside0 (kq ≤ kj8) ∧ Aside0 (wc.heap[gp0]? = some (.cells #[(.slice (some ad104) l0_0.length c0_0), (.slice A0_1 l0_1.length c0_1)] 33 (0, 0))) ∧ Aside0 (wc.heap[gb105]? = some (.cells #[.int .i64 ((rd_T90 l0_0 x5_2).f0), .int .i64 ((rd_T90 l0_0 x5_2).f1), .bool ((rd_T90 l0_0 x5_2).f2)] 90 (0, 0))) ∧ Aside0 (Below w.heap.size w wc))
           case first =>
            have H := HC22.out; clear HC22
            by_cases c25 : ((rd_T90 l0_0 x5_2).f2) = true
            ·rw [if_pos c25] at H; have c25b0 : ((rd_T90 l0_0 x5_2).f2) = true := c25; clear c25; (first | rw [c25b0] | (simp only [i64_w, i32_w]; rw [c25b0]) | skip); have H' := A' H; clear H; go_wp2
             go_meet
             case rel => exact ⟨_, (x4_2), qS, H', ⟨by have := HJ1.out; have := HK2.out; have := HJ8.out; first | omega | exact Nat.le_refl _⟩, ⟨qB BK0.out⟩, ⟨qB BK105.out⟩, ⟨qK1 HB.out GE105.out⟩⟩
            ·rw [if_neg c25] at H; have c25b0 : ((rd_T90 l0_0 x5_2).f2) = false := by simpa using c25
             clear c25; (first | rw [c25b0] | (simp only [i64_w, i32_w]; rw [c25b0]) | skip); have H' := A' H; clear H; go_wp2
             go_meet
             case rel => exact ⟨_, (wrap64 (x4_2 + 1)), qS, H', ⟨by have := HJ1.out; have := HK2.out; have := HJ8.out; first | omega | exact Nat.le_refl _⟩, ⟨qB BK0.out⟩, ⟨qB BK105.out⟩, ⟨qK1 HB.out GE105.out⟩⟩
           case rest =>
            clear HC22; try clear c1
            try clear p1
            try clear q1
            try clear hx1
            try clear c2
            try clear p2
            try clear c4
            try clear c4b0
            try clear c4b1
            try clear c5
            try clear c6
            try clear p6
            try clear c7
            try clear c7b0
            try clear c8
            try clear c8b0
            try clear p10
            try clear q10
            try clear hx10
            try clear c12
            try clear c15
            try clear c17
            try clear c19
            try clear c21
            try clear c23
            try clear c25
            try clear c25b0
            try clear hcz10_0
            try clear hcz10_1
            try clear hcz13_0
            try clear hcz13_1
            try clear hcz13_2
            try clear hcz18_0
            try clear hcz18_1
            try clear hcz18_2
            try clear hcz20_0
            try clear hcz20_1
            try clear hcz20_2
            try clear hcz24_0
            try clear hcz24_1
            try clear hcz24_2
            try clear hcz3_0
            try clear hcz3_1
            try clear hcz5_0
            try clear hcz5_1
            try clear hfz10_0
            try clear hfz10_1
            try clear hfz13_0
            try clear hfz13_1
            try clear hfz13_2
            try clear hfz18_0
            try clear hfz18_1
            try clear hfz18_2
            try clear hfz20_0
            try clear hfz20_1
            try clear hfz20_2
            try clear hfz24_0
            try clear hfz24_1
            try clear hfz24_2
            try clear hfz3_0
            try clear hfz3_1
            try clear hfz5_0
            try clear hfz5_1
            try clear hx104_0
            try clear hx104_1
            try clear hx104_2
            try clear p1
            try clear p10
            try clear p104
            try clear p2
            try clear q1
            try clear q10
            try clear q104
            obtain ⟨kq, x4_21, rfl, HA, HJ21, BK0, BK105, HB⟩ := hcut
            cases kq with
            | zero => exact absurd HA.out (by simp [spec_l09Ok.j3])
            | succ kj21 =>
             have H := HA.out; clear HA; simp only [spec_l09Ok.j3] at H; have H' := A' H; clear H; go_wp2
             go_loopg [7] kj21 (fun kq v7 w' => ∃ (x7_5 : Int), v7 = .int .i64 x7_5 ∧ Aside0 (spec_l09Ok.l1 kq (l0_0.length : Int) x4_21 x5_2 x7_5 l0_0 l0_1 ((rd_T90 l0_0 x5_2).f0) ((rd_T90 l0_0 x5_2).f1) ((rd_T90 l0_0 x5_2).f2) = some r) ∧ Aside0 (kq ≤ kj21) ∧ Aside0 (w'.heap[gp0]? = some (.cells #[(.slice (some ad104) l0_0.length c0_0), (.slice A0_1 l0_1.length c0_1)] 33 (0, 0))) ∧ Aside0 (w'.heap[gb105]? = some (.cells #[.int .i64 ((rd_T90 l0_0 x5_2).f0), .int .i64 ((rd_T90 l0_0 x5_2).f1), .bool ((rd_T90 l0_0 x5_2).f2)] 90 (0, 0))) ∧ Aside0 (Below w.heap.size w w'))
             case atStart => exact ⟨(0), qS, H', ⟨Nat.le_refl _⟩, ⟨qB BK0.out⟩, ⟨qB BK105.out⟩, ⟨qK1 HB.out GE105.out⟩⟩
             case round =>
              clear H'; try clear c1
              try clear p1
              try clear q1
              try clear hx1
              try clear c2
              try clear p2
              try clear c4
              try clear c4b0
              try clear c4b1
              try clear c5
              try clear c6
              try clear p6
              try clear c7
              try clear c7b0
              try clear c8
              try clear c8b0
              try clear p10
              try clear q10
              try clear hx10
              try clear c12
              try clear c15
              try clear c17
              try clear c19
              try clear c21
              try clear c23
              try clear c25
              try clear c25b0
              try clear hcz10_0
              try clear hcz10_1
              try clear hcz13_0
              try clear hcz13_1
              try clear hcz13_2
              try clear hcz18_0
              try clear hcz18_1
              try clear hcz18_2
              try clear hcz20_0
              try clear hcz20_1
              try clear hcz20_2
              try clear hcz24_0
              try clear hcz24_1
              try clear hcz24_2
              try clear hcz3_0
              try clear hcz3_1
              try clear hcz5_0
              try clear hcz5_1
              try clear hfz10_0
              try clear hfz10_1
              try clear hfz13_0
              try clear hfz13_1
              try clear hfz13_2
              try clear hfz18_0
              try clear hfz18_1
              try clear hfz18_2
              try clear hfz20_0
              try clear hfz20_1
              try clear hfz20_2
              try clear hfz24_0
              try clear hfz24_1
              try clear hfz24_2
              try clear hfz3_0
              try clear hfz3_1
              try clear hfz5_0
              try clear hfz5_1
              try clear hx104_0
              try clear hx104_1
              try clear hx104_2
              try clear p1
              try clear p10
              try clear p104
              try clear p2
              try clear p6
              try clear q1
              try clear q10
              try clear q104
              obtain ⟨x7_5, rfl, HA, HK5, BK0, BK105, HB⟩ := hrel
              cases gk with
              | zero => exact absurd HA.out (by simp [spec_l09Ok.l1])
              | succ k5 =>
               have H := HA.out; clear HA; simp only [spec_l09Ok.l1] at H
               by_cases c26 : x7_5 < x5_2
               ·rw [if_pos c26] at H; have c26b0 : decide (x7_5 < x5_2) = true := dT' c26; clear c26
                by_cases c27 : 0 ≤ x7_5
                ·rw [if_pos c27] at H; have c27b0 : decide (0 ≤ x7_5) = true := dT' c27; clear c27
                 by_cases c28 : x7_5 < (l0_0.length : Int)
                 ·rw [if_pos c28] at H; have c28b0 : decide (x7_5 < (l0_0.length : Int)) = true := dT' c28; clear c28
                  by_cases c29 : ((rd_T90 l0_0 x7_5).f0) = ((rd_T90 l0_0 x5_2).f0)
                  ·rw [if_pos c29] at H; have c29b0 : (((rd_T90 l0_0 x7_5).f0) == ((rd_T90 l0_0 x5_2).f0)) = true := beq_iff_eq.mpr c29; have c29b1 : (((rd_T90 l0_0 x7_5).f0) != ((rd_T90 l0_0 x5_2).f0)) = false := bne_eq_false_iff_eq.mpr c29; clear c29
                   by_cases c30 : ((rd_T90 l0_0 x7_5).f1) = ((rd_T90 l0_0 x5_2).f1)
                   ·rw [if_pos c30] at H; have c30b0 : (((rd_T90 l0_0 x7_5).f1) == ((rd_T90 l0_0 x5_2).f1)) = true := beq_iff_eq.mpr c30; have c30b1 : (((rd_T90 l0_0 x7_5).f1) != ((rd_T90 l0_0 x5_2).f1)) = false := bne_eq_false_iff_eq.mpr c30; clear c30; obtain rfl := Option.some.inj H; try go_wp2
                    have n0_ := A' (I' BK0.out); have n1_ := A' (I' BK105.out); have n2_ := A' (J' HB.out); clear BK0; clear BK105; clear HB; have BK0 := n0_; have BK105 := n1_; have HB := n2_; clear n0_ n1_ n2_; have p108 : 0 ≤ (x7_5 : Int) := oD' qA; have q108 : x7_5 < (l0_0.length : Int) := oD' qA; obtain ⟨ad108, e108, hx108_0, hx108_1, hx108_2⟩ := at_T90 HR0_0.out x7_5 p108 q108; have hw108_2 := hx108_2; have hw108_1 := hx108_1; have hw108_0 := hx108_0; obtain rfl : ad104 = ad108 := (by injection e108)
                    try replace hx108_0 := qC HB.out hx108_0
                    try replace hx108_1 := qC HB.out hx108_1
                    try replace hx108_2 := qC HB.out hx108_2
                    replace p108 := eq_true p108; replace q108 := eq_true q108; have p109 : 0 ≤ (x7_5 : Int) := oD' qA; have q109 : x7_5 < (l0_0.length : Int) := oD' qA; obtain ⟨ad109, e109, hx109_0, hx109_1, hx109_2⟩ := at_T90 HR0_0.out x7_5 p109 q109; have hw109_2 := hx109_2; have hw109_1 := hx109_1; have hw109_0 := hx109_0; obtain rfl : ad104 = ad109 := (by injection e109)
                    try replace hx109_0 := qC HB.out hx109_0
                    try replace hx109_1 := qC HB.out hx109_1
                    try replace hx109_2 := qC HB.out hx109_2
                    replace p109 := eq_true p109; replace q109 := eq_true q109; refine start_ (n := 24) (S := fun w' => w'.cell? ⟨gp0, 0, none⟩ = some (.slice (some ad104) l0_0.length c0_0) ∧ w'.cell? ⟨gp0, 1, none⟩ = some (.slice A0_1 l0_1.length c0_1) ∧ w'.cell? ⟨gb105, 0, none⟩ = some (.int .i64 ((rd_T90 l0_0 x5_2).f0)) ∧ w'.cell? ⟨gb105, 1, none⟩ = some (.int .i64 ((rd_T90 l0_0 x5_2).f1)) ∧ w'.cell? ⟨gb105, 2, none⟩ = some (.bool ((rd_T90 l0_0 x5_2).f2)) ∧ w'.cell? (ad104.add ((x7_5).toNat * 3)) = some (.int .i64 ((rd_T90 l0_0 x7_5).f0)) ∧ w'.cell? ⟨(ad104.add ((x7_5).toNat * 3)).block, (ad104.add ((x7_5).toNat * 3)).off + 1, none⟩ = some (.int .i64 ((rd_T90 l0_0 x7_5).f1)) ∧ w'.cell? ⟨(ad104.add ((x7_5).toNat * 3)).block, (ad104.add ((x7_5).toNat * 3)).off + 2, none⟩ = some (.bool ((rd_T90 l0_0 x7_5).f2)) ∧ w'.cell? (ad104.add ((x7_5).toNat * 3)) = some (.int .i64 ((rd_T90 l0_0 x7_5).f0)) ∧ w'.cell? ⟨(ad104.add ((x7_5).toNat * 3)).block, (ad104.add ((x7_5).toNat * 3)).off + 1, none⟩ = some (.int .i64 ((rd_T90 l0_0 x7_5).f1)) ∧ w'.cell? ⟨(ad104.add ((x7_5).toNat * 3)).block, (ad104.add ((x7_5).toNat * 3)).off + 2, none⟩ = some (.bool ((rd_T90 l0_0 x7_5).f2))) (ds := []) #[n', n', n', n', n', n', n', n', n', n', n', n', n', n', n', n', n', n', n', n', n', n', n', n'] (by kernel_rfl) rfl rfl ⟨(N' BK0.out 0).trans rfl, (N' BK0.out 1).trans rfl, (N' BK105.out 0).trans rfl, (N' BK105.out 1).trans rfl, (N' BK105.out 2).trans rfl, (qC HB.out hw108_0 :), (qC HB.out hw108_1 :), (qC HB.out hw108_2 :), (qC HB.out hw109_0 :), (qC HB.out hw109_1 :), (qC HB.out hw109_2 :)⟩ (fun hHeld => ?_); refine with_tabW spec_l09Ok.tab16 spec_l09Ok.bits16 (fun HT_ HW_ => ?_)
                    generalize wr.drew = w31 at BK0 BK105 HB hx108_0 hx108_1 hx108_2 hx109_0 hx109_1 hx109_2 hHeld ⊢
                    refine pure_ (i := 0) (N := some 62) (v := ?_) (a' := ?_) #[y', n', n', n', n', n', n', n', n', n', n', n', n', n', n', n', n', n', n', n', n', n', n', n'] rfl rfl (any_of HT_.out (by kernel_rfl)) (fun _ _ _ h => h) (Or.inl ⟨by rfl, ?_⟩) ?_ ?_; rotate_left
                    ·exact qI
                    rotate_left
                    ·exact qP
                    refine pure_ (i := 1) (N := some 63) (v := ?_) (a' := ?_) #[y', y', n', n', n', n', n', n', n', n', n', n', n', n', n', n', n', n', n', n', n', n', n', n'] rfl rfl (any_of HT_.out (by kernel_rfl)) (fun _ _ _ h => h) (Or.inl ⟨by rfl, ?_⟩) ?_ ?_; rotate_left
                    ·exact qI
                    rotate_left
                    ·exact qP
                    refine pure_ (i := 2) (N := some 64) (v := ?_) (a' := ?_) #[y', y', y', n', n', n', n', n', n', n', n', n', n', n', n', n', n', n', n', n', n', n', n', n'] rfl rfl (any_of HT_.out (by kernel_rfl)) (fun _ _ _ h => h) (Or.inl ⟨by rfl, ?_⟩) ?_ ?_; rotate_left
                    ·exact qI
                    rotate_left
                    ·exact qP
                    refine pure_ (i := 4) (N := some 66) (v := ?_) (a' := ?_) #[y', y', y', n', y', n', n', n', n', n', n', n', n', n', n', n', n', n', n', n', n', n', n', n'] rfl rfl (any_of HT_.out (by kernel_rfl)) (fun _ _ _ h => h) (Or.inl ⟨by rfl, ?_⟩) ?_ ?_; rotate_left
                    ·exact qI
                    rotate_left
                    ·exact qP
                    refine pure_ (i := 8) (N := some 70) (v := ?_) (a' := ?_) #[y', y', y', n', y', n', n', n', y', n', n', n', n', n', n', n', n', n', n', n', n', n', n', n'] rfl rfl (any_of HT_.out (by kernel_rfl)) (fun _ _ _ h => h) (Or.inl ⟨by rfl, ?_⟩) ?_ ?_; rotate_left
                    ·exact qI
                    rotate_left
                    ·exact qP
                    refine take_ (i := 3) (N := some 65) (v := ?_) (a' := ?_) #[y', y', y', y', y', n', n', n', y', n', n', n', n', n', n', n', n', n', n', n', n', n', n', n'] rfl rfl (take_ofW HT_.out HW_.out (by kernel_rfl)) (fun _ _ _ h => h) (Or.inl ⟨by rfl, ?_⟩) hHeld ?_ ?_; rotate_left
                    ·rintro w' ⟨s0, s1, s2, s3, s4, s5, s6, s7, s8, s9, s10⟩; go_simp; with_reducible rfl
                    rotate_left
                    ·exact qP
                    refine pure_ (i := 5) (N := some 67) (v := ?_) (a' := ?_) #[y', y', y', y', y', y', n', n', y', n', n', n', n', n', n', n', n', n', n', n', n', n', n', n'] rfl rfl (any_of HT_.out (by kernel_rfl)) (fun _ _ _ h => h) (Or.inl ⟨by rfl, ?_⟩) ?_ ?_; rotate_left
                    ·exact qI
                    rotate_left
                    ·exact qP
                    refine pure_ (i := 6) (N := some 68) (v := ?_) (a' := ?_) #[y', y', y', y', y', y', y', n', y', n', n', n', n', n', n', n', n', n', n', n', n', n', n', n'] rfl rfl (any_of HT_.out (by kernel_rfl)) (fun _ _ _ h => h) (Or.inl ⟨by rfl, ?_⟩) ?_ ?_; rotate_left
                    ·exact qI
                    rotate_left
                    ·exact qP
                    refine take_ (i := 7) (N := some 69) (v := ?_) (a' := ?_) #[y', y', y', y', y', y', y', y', y', n', n', n', n', n', n', n', n', n', n', n', n', n', n', n'] rfl rfl (take_ofW HT_.out HW_.out (by kernel_rfl)) (fun _ _ _ h => h) (Or.inl ⟨by rfl, ?_⟩) hHeld ?_ ?_; rotate_left
                    ·rintro w' ⟨s0, s1, s2, s3, s4, s5, s6, s7, s8, s9, s10⟩; go_simp; with_reducible rfl
                    rotate_left
                    ·exact qP
                    refine take_ (i := 9) (N := some 71) (v := ?_) (a' := ?_) #[y', y', y', y', y', y', y', y', y', y', n', n', n', n', n', n', n', n', n', n', n', n', n', n'] rfl rfl (take_ofW HT_.out HW_.out (by kernel_rfl)) (fun _ _ _ h => h) (Or.inl ⟨by rfl, ?_⟩) hHeld ?_ ?_; rotate_left
                    ·rintro w' ⟨s0, s1, s2, s3, s4, s5, s6, s7, s8, s9, s10⟩; go_simp; with_reducible rfl
                    rotate_left
                    ·exact qP
                    refine pure_ (i := 10) (N := some 72) (v := ?_) (a' := ?_) #[y', y', y', y', y', y', y', y', y', y', y', n', n', n', n', n', n', n', n', n', n', n', n', n'] rfl rfl (any_of HT_.out (by kernel_rfl)) (fun _ _ _ h => h) (Or.inl ⟨by rfl, ?_⟩) ?_ ?_; rotate_left
                    ·exact qI
                    rotate_left
                    ·exact qP
                    refine pure_ (i := 11) (N := some 73) (v := ?_) (a' := ?_) #[y', y', y', y', y', y', y', y', y', y', y', y', n', n', n', n', n', n', n', n', n', n', n', n'] rfl rfl (any_of HT_.out (by kernel_rfl)) (fun _ _ _ h => h) (Or.inl ⟨by rfl, ?_⟩) ?_ ?_; rotate_left
                    ·exact qI
                    rotate_left
                    ·exact qP
                    refine pure_ (i := 12) (N := some 74) (v := ?_) (a' := ?_) #[y', y', y', y', y', y', y', y', y', y', y', y', y', n', n', n', n', n', n', n', n', n', n', n'] rfl rfl (any_of HT_.out (by kernel_rfl)) (fun _ _ _ h => h) (Or.inl ⟨by rfl, ?_⟩) ?_ ?_; rotate_left
                    ·exact qI
                    rotate_left
                    ·exact qP
                    refine pure_ (i := 13) (N := some 75) (v := ?_) (a' := ?_) #[y', y', y', y', y', y', y', y', y', y', y', y', y', y', n', n', n', n', n', n', n', n', n', n'] rfl rfl (any_of HT_.out (by kernel_rfl)) (fun _ _ _ h => h) (Or.inl ⟨by rfl, ?_⟩) ?_ ?_; rotate_left
                    ·exact qI
                    rotate_left
                    ·exact qP
                    refine pure_ (i := 14) (N := some 76) (v := ?_) (a' := ?_) #[y', y', y', y', y', y', y', y', y', y', y', y', y', y', y', n', n', n', n', n', n', n', n', n'] rfl rfl (any_of HT_.out (by kernel_rfl)) (fun _ _ _ h => h) (Or.inl ⟨by rfl, ?_⟩) ?_ ?_; rotate_left
                    ·exact qI
                    rotate_left
                    ·exact qP
                    refine pure_ (i := 16) (N := some 78) (v := ?_) (a' := ?_) #[y', y', y', y', y', y', y', y', y', y', y', y', y', y', y', n', y', n', n', n', n', n', n', n'] rfl rfl (any_of HT_.out (by kernel_rfl)) (fun _ _ _ h => h) (Or.inl ⟨by rfl, ?_⟩) ?_ ?_; rotate_left
                    ·exact qI
                    rotate_left
                    ·exact qP
                    refine pure_ (i := 20) (N := some 82) (v := ?_) (a' := ?_) #[y', y', y', y', y', y', y', y', y', y', y', y', y', y', y', n', y', n', n', n', y', n', n', n'] rfl rfl (any_of HT_.out (by kernel_rfl)) (fun _ _ _ h => h) (Or.inl ⟨by rfl, ?_⟩) ?_ ?_; rotate_left
                    ·exact qI
                    rotate_left
                    ·exact qP
                    refine take_ (i := 15) (N := some 77) (v := ?_) (a' := ?_) #[y', y', y', y', y', y', y', y', y', y', y', y', y', y', y', y', y', n', n', n', y', n', n', n'] rfl rfl (take_ofW HT_.out HW_.out (by kernel_rfl)) (fun _ _ _ h => h) (Or.inl ⟨by rfl, ?_⟩) hHeld ?_ ?_; rotate_left
                    ·rintro w' ⟨s0, s1, s2, s3, s4, s5, s6, s7, s8, s9, s10⟩; go_simp; with_reducible rfl
                    rotate_left
                    ·exact qP
                    refine pure_ (i := 17) (N := some 79) (v := ?_) (a' := ?_) #[y', y', y', y', y', y', y', y', y', y', y', y', y', y', y', y', y', y', n', n', y', n', n', n'] rfl rfl (any_of HT_.out (by kernel_rfl)) (fun _ _ _ h => h) (Or.inl ⟨by rfl, ?_⟩) ?_ ?_; rotate_left
                    ·exact qI
                    rotate_left
                    ·exact qP
                    refine pure_ (i := 18) (N := some 80) (v := ?_) (a' := ?_) #[y', y', y', y', y', y', y', y', y', y', y', y', y', y', y', y', y', y', y', n', y', n', n', n'] rfl rfl (any_of HT_.out (by kernel_rfl)) (fun _ _ _ h => h) (Or.inl ⟨by rfl, ?_⟩) ?_ ?_; rotate_left
                    ·exact qI
                    rotate_left
                    ·exact qP
                    refine take_ (i := 19) (N := some 81) (v := ?_) (a' := ?_) #[y', y', y', y', y', y', y', y', y', y', y', y', y', y', y', y', y', y', y', y', y', n', n', n'] rfl rfl (take_ofW HT_.out HW_.out (by kernel_rfl)) (fun _ _ _ h => h) (Or.inl ⟨by rfl, ?_⟩) hHeld ?_ ?_; rotate_left
                    ·rintro w' ⟨s0, s1, s2, s3, s4, s5, s6, s7, s8, s9, s10⟩; go_simp; with_reducible rfl
                    rotate_left
                    ·exact qP
                    refine take_ (i := 21) (N := some 83) (v := ?_) (a' := ?_) #[y', y', y', y', y', y', y', y', y', y', y', y', y', y', y', y', y', y', y', y', y', y', n', n'] rfl rfl (take_ofW HT_.out HW_.out (by kernel_rfl)) (fun _ _ _ h => h) (Or.inl ⟨by rfl, ?_⟩) hHeld ?_ ?_; rotate_left
                    ·rintro w' ⟨s0, s1, s2, s3, s4, s5, s6, s7, s8, s9, s10⟩; go_simp; with_reducible rfl
                    rotate_left
                    ·exact qP
                    refine pure_ (i := 22) (N := some 84) (v := ?_) (a' := ?_) #[y', y', y', y', y', y', y', y', y', y', y', y', y', y', y', y', y', y', y', y', y', y', y', n'] rfl rfl (any_of HT_.out (by kernel_rfl)) (fun _ _ _ h => h) (Or.inl ⟨by rfl, ?_⟩) ?_ ?_; rotate_left
                    ·exact qI
                    rotate_left
                    ·exact qP
                    refine pure_ (i := 23) (N := some 85) (v := ?_) (a' := ?_) #[y', y', y', y', y', y', y', y', y', y', y', y', y', y', y', y', y', y', y', y', y', y', y', y'] rfl rfl (any_of HT_.out (by kernel_rfl)) (fun _ _ _ h => h) (Or.inl ⟨by rfl, ?_⟩) ?_ ?_; rotate_left
                    ·exact qI
                    rotate_left
                    ·exact qP
                    refine done_ (done_of HT_.out (by kernel_rfl)) ?_; try go_wp2
                    go_ret; exact ⟨qE, qK1 HB.out GE105.out⟩
                   ·rw [if_neg c30] at H; have c30b0 : (((rd_T90 l0_0 x7_5).f1) == ((rd_T90 l0_0 x5_2).f1)) = false := beq_eq_false_iff_ne.mpr c30; have c30b1 : (((rd_T90 l0_0 x7_5).f1) != ((rd_T90 l0_0 x5_2).f1)) = true := bne_iff_ne.mpr c30; have H' := A' H; clear H; try go_wp2
                    have n0_ := A' (I' BK0.out); have n1_ := A' (I' BK105.out); have n2_ := A' (J' HB.out); clear BK0; clear BK105; clear HB; have BK0 := n0_; have BK105 := n1_; have HB := n2_; clear n0_ n1_ n2_; have p108 : 0 ≤ (x7_5 : Int) := oD' qA; have q108 : x7_5 < (l0_0.length : Int) := oD' qA; obtain ⟨ad108, e108, hx108_0, hx108_1, hx108_2⟩ := at_T90 HR0_0.out x7_5 p108 q108; have hw108_2 := hx108_2; have hw108_1 := hx108_1; have hw108_0 := hx108_0; obtain rfl : ad104 = ad108 := (by injection e108)
                    try replace hx108_0 := qC HB.out hx108_0
                    try replace hx108_1 := qC HB.out hx108_1
                    try replace hx108_2 := qC HB.out hx108_2
                    replace p108 := eq_true p108; replace q108 := eq_true q108; have p109 : 0 ≤ (x7_5 : Int) := oD' qA; have q109 : x7_5 < (l0_0.length : Int) := oD' qA; obtain ⟨ad109, e109, hx109_0, hx109_1, hx109_2⟩ := at_T90 HR0_0.out x7_5 p109 q109; have hw109_2 := hx109_2; have hw109_1 := hx109_1; have hw109_0 := hx109_0; obtain rfl : ad104 = ad109 := (by injection e109)
                    try replace hx109_0 := qC HB.out hx109_0
                    try replace hx109_1 := qC HB.out hx109_1
                    try replace hx109_2 := qC HB.out hx109_2
                    replace p109 := eq_true p109; replace q109 := eq_true q109; refine start_ (n := 24) (S := fun w' => w'.cell? ⟨gp0, 0, none⟩ = some (.slice (some ad104) l0_0.length c0_0) ∧ w'.cell? ⟨gp0, 1, none⟩ = some (.slice A0_1 l0_1.length c0_1) ∧ w'.cell? ⟨gb105, 0, none⟩ = some (.int .i64 ((rd_T90 l0_0 x5_2).f0)) ∧ w'.cell? ⟨gb105, 1, none⟩ = some (.int .i64 ((rd_T90 l0_0 x5_2).f1)) ∧ w'.cell? ⟨gb105, 2, none⟩ = some (.bool ((rd_T90 l0_0 x5_2).f2)) ∧ w'.cell? (ad104.add ((x7_5).toNat * 3)) = some (.int .i64 ((rd_T90 l0_0 x7_5).f0)) ∧ w'.cell? ⟨(ad104.add ((x7_5).toNat * 3)).block, (ad104.add ((x7_5).toNat * 3)).off + 1, none⟩ = some (.int .i64 ((rd_T90 l0_0 x7_5).f1)) ∧ w'.cell? ⟨(ad104.add ((x7_5).toNat * 3)).block, (ad104.add ((x7_5).toNat * 3)).off + 2, none⟩ = some (.bool ((rd_T90 l0_0 x7_5).f2)) ∧ w'.cell? (ad104.add ((x7_5).toNat * 3)) = some (.int .i64 ((rd_T90 l0_0 x7_5).f0)) ∧ w'.cell? ⟨(ad104.add ((x7_5).toNat * 3)).block, (ad104.add ((x7_5).toNat * 3)).off + 1, none⟩ = some (.int .i64 ((rd_T90 l0_0 x7_5).f1)) ∧ w'.cell? ⟨(ad104.add ((x7_5).toNat * 3)).block, (ad104.add ((x7_5).toNat * 3)).off + 2, none⟩ = some (.bool ((rd_T90 l0_0 x7_5).f2))) (ds := []) #[n', n', n', n', n', n', n', n', n', n', n', n', n', n', n', n', n', n', n', n', n', n', n', n'] (by kernel_rfl) rfl rfl ⟨(N' BK0.out 0).trans rfl, (N' BK0.out 1).trans rfl, (N' BK105.out 0).trans rfl, (N' BK105.out 1).trans rfl, (N' BK105.out 2).trans rfl, (qC HB.out hw108_0 :), (qC HB.out hw108_1 :), (qC HB.out hw108_2 :), (qC HB.out hw109_0 :), (qC HB.out hw109_1 :), (qC HB.out hw109_2 :)⟩ (fun hHeld => ?_); refine with_tabW spec_l09Ok.tab16 spec_l09Ok.bits16 (fun HT_ HW_ => ?_)
                    generalize wr.drew = w32 at BK0 BK105 HB hx108_0 hx108_1 hx108_2 hx109_0 hx109_1 hx109_2 hHeld ⊢
                    refine pure_ (i := 0) (N := some 62) (v := ?_) (a' := ?_) #[y', n', n', n', n', n', n', n', n', n', n', n', n', n', n', n', n', n', n', n', n', n', n', n'] rfl rfl (any_of HT_.out (by kernel_rfl)) (fun _ _ _ h => h) (Or.inl ⟨by rfl, ?_⟩) ?_ ?_; rotate_left
                    ·exact qI
                    rotate_left
                    ·exact qP
                    refine pure_ (i := 1) (N := some 63) (v := ?_) (a' := ?_) #[y', y', n', n', n', n', n', n', n', n', n', n', n', n', n', n', n', n', n', n', n', n', n', n'] rfl rfl (any_of HT_.out (by kernel_rfl)) (fun _ _ _ h => h) (Or.inl ⟨by rfl, ?_⟩) ?_ ?_; rotate_left
                    ·exact qI
                    rotate_left
                    ·exact qP
                    refine pure_ (i := 2) (N := some 64) (v := ?_) (a' := ?_) #[y', y', y', n', n', n', n', n', n', n', n', n', n', n', n', n', n', n', n', n', n', n', n', n'] rfl rfl (any_of HT_.out (by kernel_rfl)) (fun _ _ _ h => h) (Or.inl ⟨by rfl, ?_⟩) ?_ ?_; rotate_left
                    ·exact qI
                    rotate_left
                    ·exact qP
                    refine pure_ (i := 4) (N := some 66) (v := ?_) (a' := ?_) #[y', y', y', n', y', n', n', n', n', n', n', n', n', n', n', n', n', n', n', n', n', n', n', n'] rfl rfl (any_of HT_.out (by kernel_rfl)) (fun _ _ _ h => h) (Or.inl ⟨by rfl, ?_⟩) ?_ ?_; rotate_left
                    ·exact qI
                    rotate_left
                    ·exact qP
                    refine pure_ (i := 8) (N := some 70) (v := ?_) (a' := ?_) #[y', y', y', n', y', n', n', n', y', n', n', n', n', n', n', n', n', n', n', n', n', n', n', n'] rfl rfl (any_of HT_.out (by kernel_rfl)) (fun _ _ _ h => h) (Or.inl ⟨by rfl, ?_⟩) ?_ ?_; rotate_left
                    ·exact qI
                    rotate_left
                    ·exact qP
                    refine take_ (i := 3) (N := some 65) (v := ?_) (a' := ?_) #[y', y', y', y', y', n', n', n', y', n', n', n', n', n', n', n', n', n', n', n', n', n', n', n'] rfl rfl (take_ofW HT_.out HW_.out (by kernel_rfl)) (fun _ _ _ h => h) (Or.inl ⟨by rfl, ?_⟩) hHeld ?_ ?_; rotate_left
                    ·rintro w' ⟨s0, s1, s2, s3, s4, s5, s6, s7, s8, s9, s10⟩; go_simp; with_reducible rfl
                    rotate_left
                    ·exact qP
                    refine pure_ (i := 5) (N := some 67) (v := ?_) (a' := ?_) #[y', y', y', y', y', y', n', n', y', n', n', n', n', n', n', n', n', n', n', n', n', n', n', n'] rfl rfl (any_of HT_.out (by kernel_rfl)) (fun _ _ _ h => h) (Or.inl ⟨by rfl, ?_⟩) ?_ ?_; rotate_left
                    ·exact qI
                    rotate_left
                    ·exact qP
                    refine pure_ (i := 6) (N := some 68) (v := ?_) (a' := ?_) #[y', y', y', y', y', y', y', n', y', n', n', n', n', n', n', n', n', n', n', n', n', n', n', n'] rfl rfl (any_of HT_.out (by kernel_rfl)) (fun _ _ _ h => h) (Or.inl ⟨by rfl, ?_⟩) ?_ ?_; rotate_left
                    ·exact qI
                    rotate_left
                    ·exact qP
                    refine take_ (i := 7) (N := some 69) (v := ?_) (a' := ?_) #[y', y', y', y', y', y', y', y', y', n', n', n', n', n', n', n', n', n', n', n', n', n', n', n'] rfl rfl (take_ofW HT_.out HW_.out (by kernel_rfl)) (fun _ _ _ h => h) (Or.inl ⟨by rfl, ?_⟩) hHeld ?_ ?_; rotate_left
                    ·rintro w' ⟨s0, s1, s2, s3, s4, s5, s6, s7, s8, s9, s10⟩; go_simp; with_reducible rfl
                    rotate_left
                    ·exact qP
                    refine take_ (i := 9) (N := some 71) (v := ?_) (a' := ?_) #[y', y', y', y', y', y', y', y', y', y', n', n', n', n', n', n', n', n', n', n', n', n', n', n'] rfl rfl (take_ofW HT_.out HW_.out (by kernel_rfl)) (fun _ _ _ h => h) (Or.inl ⟨by rfl, ?_⟩) hHeld ?_ ?_; rotate_left
                    ·rintro w' ⟨s0, s1, s2, s3, s4, s5, s6, s7, s8, s9, s10⟩; go_simp; with_reducible rfl
                    rotate_left
                    ·exact qP
                    refine pure_ (i := 10) (N := some 72) (v := ?_) (a' := ?_) #[y', y', y', y', y', y', y', y', y', y', y', n', n', n', n', n', n', n', n', n', n', n', n', n'] rfl rfl (any_of HT_.out (by kernel_rfl)) (fun _ _ _ h => h) (Or.inl ⟨by rfl, ?_⟩) ?_ ?_; rotate_left
                    ·exact qI
                    rotate_left
                    ·exact qP
                    refine pure_ (i := 11) (N := some 73) (v := ?_) (a' := ?_) #[y', y', y', y', y', y', y', y', y', y', y', y', n', n', n', n', n', n', n', n', n', n', n', n'] rfl rfl (any_of HT_.out (by kernel_rfl)) (fun _ _ _ h => h) (Or.inl ⟨by rfl, ?_⟩) ?_ ?_; rotate_left
                    ·exact qI
                    rotate_left
                    ·exact qP
                    refine pure_ (i := 12) (N := some 74) (v := ?_) (a' := ?_) #[y', y', y', y', y', y', y', y', y', y', y', y', y', n', n', n', n', n', n', n', n', n', n', n'] rfl rfl (any_of HT_.out (by kernel_rfl)) (fun _ _ _ h => h) (Or.inl ⟨by rfl, ?_⟩) ?_ ?_; rotate_left
                    ·exact qI
                    rotate_left
                    ·exact qP
                    refine pure_ (i := 13) (N := some 75) (v := ?_) (a' := ?_) #[y', y', y', y', y', y', y', y', y', y', y', y', y', y', n', n', n', n', n', n', n', n', n', n'] rfl rfl (any_of HT_.out (by kernel_rfl)) (fun _ _ _ h => h) (Or.inl ⟨by rfl, ?_⟩) ?_ ?_; rotate_left
                    ·exact qI
                    rotate_left
                    ·exact qP
                    refine pure_ (i := 14) (N := some 76) (v := ?_) (a' := ?_) #[y', y', y', y', y', y', y', y', y', y', y', y', y', y', y', n', n', n', n', n', n', n', n', n'] rfl rfl (any_of HT_.out (by kernel_rfl)) (fun _ _ _ h => h) (Or.inl ⟨by rfl, ?_⟩) ?_ ?_; rotate_left
                    ·exact qI
                    rotate_left
                    ·exact qP
                    refine pure_ (i := 16) (N := some 78) (v := ?_) (a' := ?_) #[y', y', y', y', y', y', y', y', y', y', y', y', y', y', y', n', y', n', n', n', n', n', n', n'] rfl rfl (any_of HT_.out (by kernel_rfl)) (fun _ _ _ h => h) (Or.inl ⟨by rfl, ?_⟩) ?_ ?_; rotate_left
                    ·exact qI
                    rotate_left
                    ·exact qP
                    refine pure_ (i := 20) (N := some 82) (v := ?_) (a' := ?_) #[y', y', y', y', y', y', y', y', y', y', y', y', y', y', y', n', y', n', n', n', y', n', n', n'] rfl rfl (any_of HT_.out (by kernel_rfl)) (fun _ _ _ h => h) (Or.inl ⟨by rfl, ?_⟩) ?_ ?_; rotate_left
                    ·exact qI
                    rotate_left
                    ·exact qP
                    refine take_ (i := 15) (N := some 77) (v := ?_) (a' := ?_) #[y', y', y', y', y', y', y', y', y', y', y', y', y', y', y', y', y', n', n', n', y', n', n', n'] rfl rfl (take_ofW HT_.out HW_.out (by kernel_rfl)) (fun _ _ _ h => h) (Or.inl ⟨by rfl, ?_⟩) hHeld ?_ ?_; rotate_left
                    ·rintro w' ⟨s0, s1, s2, s3, s4, s5, s6, s7, s8, s9, s10⟩; go_simp; with_reducible rfl
                    rotate_left
                    ·exact qP
                    refine pure_ (i := 17) (N := some 79) (v := ?_) (a' := ?_) #[y', y', y', y', y', y', y', y', y', y', y', y', y', y', y', y', y', y', n', n', y', n', n', n'] rfl rfl (any_of HT_.out (by kernel_rfl)) (fun _ _ _ h => h) (Or.inl ⟨by rfl, ?_⟩) ?_ ?_; rotate_left
                    ·exact qI
                    rotate_left
                    ·exact qP
                    refine pure_ (i := 18) (N := some 80) (v := ?_) (a' := ?_) #[y', y', y', y', y', y', y', y', y', y', y', y', y', y', y', y', y', y', y', n', y', n', n', n'] rfl rfl (any_of HT_.out (by kernel_rfl)) (fun _ _ _ h => h) (Or.inl ⟨by rfl, ?_⟩) ?_ ?_; rotate_left
                    ·exact qI
                    rotate_left
                    ·exact qP
                    refine take_ (i := 19) (N := some 81) (v := ?_) (a' := ?_) #[y', y', y', y', y', y', y', y', y', y', y', y', y', y', y', y', y', y', y', y', y', n', n', n'] rfl rfl (take_ofW HT_.out HW_.out (by kernel_rfl)) (fun _ _ _ h => h) (Or.inl ⟨by rfl, ?_⟩) hHeld ?_ ?_; rotate_left
                    ·rintro w' ⟨s0, s1, s2, s3, s4, s5, s6, s7, s8, s9, s10⟩; go_simp; with_reducible rfl
                    rotate_left
                    ·exact qP
                    refine take_ (i := 21) (N := some 83) (v := ?_) (a' := ?_) #[y', y', y', y', y', y', y', y', y', y', y', y', y', y', y', y', y', y', y', y', y', y', n', n'] rfl rfl (take_ofW HT_.out HW_.out (by kernel_rfl)) (fun _ _ _ h => h) (Or.inl ⟨by rfl, ?_⟩) hHeld ?_ ?_; rotate_left
                    ·rintro w' ⟨s0, s1, s2, s3, s4, s5, s6, s7, s8, s9, s10⟩; go_simp; with_reducible rfl
                    rotate_left
                    ·exact qP
                    refine pure_ (i := 22) (N := some 84) (v := ?_) (a' := ?_) #[y', y', y', y', y', y', y', y', y', y', y', y', y', y', y', y', y', y', y', y', y', y', y', n'] rfl rfl (any_of HT_.out (by kernel_rfl)) (fun _ _ _ h => h) (Or.inl ⟨by rfl, ?_⟩) ?_ ?_; rotate_left
                    ·exact qI
                    rotate_left
                    ·exact qP
                    refine pure_ (i := 23) (N := some 85) (v := ?_) (a' := ?_) #[y', y', y', y', y', y', y', y', y', y', y', y', y', y', y', y', y', y', y', y', y', y', y', y'] rfl rfl (any_of HT_.out (by kernel_rfl)) (fun _ _ _ h => h) (Or.inl ⟨by rfl, ?_⟩) ?_ ?_; rotate_left
                    ·exact qI
                    rotate_left
                    ·exact qP
                    refine done_ (done_of HT_.out (by kernel_rfl)) ?_; try go_wp2
                    go_roundg k5
                    case measure => have := HJ1.out; have := HK2.out; have := HJ8.out; have := HJ21.out; have := HK5.out; omega
                    case rel => exact ⟨(wrap64 (x7_5 + 1)), qS, H', ⟨by have := HJ1.out; have := HK2.out; have := HJ8.out; have := HJ21.out; have := HK5.out; omega⟩, ⟨qB BK0.out⟩, ⟨qB BK105.out⟩, ⟨qK1 HB.out GE105.out⟩⟩
                  ·rw [if_neg c29] at H; have c29b0 : (((rd_T90 l0_0 x7_5).f0) == ((rd_T90 l0_0 x5_2).f0)) = false := beq_eq_false_iff_ne.mpr c29; have c29b1 : (((rd_T90 l0_0 x7_5).f0) != ((rd_T90 l0_0 x5_2).f0)) = true := bne_iff_ne.mpr c29; have H' := A' H; clear H; try go_wp2
                   have n0_ := A' (I' BK0.out); have n1_ := A' (I' BK105.out); have n2_ := A' (J' HB.out); clear BK0; clear BK105; clear HB; have BK0 := n0_; have BK105 := n1_; have HB := n2_; clear n0_ n1_ n2_; have p108 : 0 ≤ (x7_5 : Int) := oD' qA; have q108 : x7_5 < (l0_0.length : Int) := oD' qA; obtain ⟨ad108, e108, hx108_0, hx108_1, hx108_2⟩ := at_T90 HR0_0.out x7_5 p108 q108; have hw108_2 := hx108_2; have hw108_1 := hx108_1; have hw108_0 := hx108_0; obtain rfl : ad104 = ad108 := (by injection e108)
                   try replace hx108_0 := qC HB.out hx108_0
                   try replace hx108_1 := qC HB.out hx108_1
                   try replace hx108_2 := qC HB.out hx108_2
                   replace p108 := eq_true p108; replace q108 := eq_true q108; refine start_ (n := 24) (S := fun w' => w'.cell? ⟨gp0, 0, none⟩ = some (.slice (some ad104) l0_0.length c0_0) ∧ w'.cell? ⟨gp0, 1, none⟩ = some (.slice A0_1 l0_1.length c0_1) ∧ w'.cell? ⟨gb105, 0, none⟩ = some (.int .i64 ((rd_T90 l0_0 x5_2).f0)) ∧ w'.cell? ⟨gb105, 1, none⟩ = some (.int .i64 ((rd_T90 l0_0 x5_2).f1)) ∧ w'.cell? ⟨gb105, 2, none⟩ = some (.bool ((rd_T90 l0_0 x5_2).f2)) ∧ w'.cell? (ad104.add ((x7_5).toNat * 3)) = some (.int .i64 ((rd_T90 l0_0 x7_5).f0)) ∧ w'.cell? ⟨(ad104.add ((x7_5).toNat * 3)).block, (ad104.add ((x7_5).toNat * 3)).off + 1, none⟩ = some (.int .i64 ((rd_T90 l0_0 x7_5).f1)) ∧ w'.cell? ⟨(ad104.add ((x7_5).toNat * 3)).block, (ad104.add ((x7_5).toNat * 3)).off + 2, none⟩ = some (.bool ((rd_T90 l0_0 x7_5).f2))) (ds := []) #[n', n', n', n', n', n', n', n', n', n', n', n', n', n', n', n', n', n', n', n', n', n', n', n'] (by kernel_rfl) rfl rfl ⟨(N' BK0.out 0).trans rfl, (N' BK0.out 1).trans rfl, (N' BK105.out 0).trans rfl, (N' BK105.out 1).trans rfl, (N' BK105.out 2).trans rfl, (qC HB.out hw108_0 :), (qC HB.out hw108_1 :), (qC HB.out hw108_2 :)⟩ (fun hHeld => ?_); refine with_tabW spec_l09Ok.tab16 spec_l09Ok.bits16 (fun HT_ HW_ => ?_)
                   generalize wr.drew = w33 at BK0 BK105 HB hx108_0 hx108_1 hx108_2 hHeld ⊢
                   refine pure_ (i := 0) (N := some 62) (v := ?_) (a' := ?_) #[y', n', n', n', n', n', n', n', n', n', n', n', n', n', n', n', n', n', n', n', n', n', n', n'] rfl rfl (any_of HT_.out (by kernel_rfl)) (fun _ _ _ h => h) (Or.inl ⟨by rfl, ?_⟩) ?_ ?_; rotate_left
                   ·exact qI
                   rotate_left
                   ·exact qP
                   refine pure_ (i := 1) (N := some 63) (v := ?_) (a' := ?_) #[y', y', n', n', n', n', n', n', n', n', n', n', n', n', n', n', n', n', n', n', n', n', n', n'] rfl rfl (any_of HT_.out (by kernel_rfl)) (fun _ _ _ h => h) (Or.inl ⟨by rfl, ?_⟩) ?_ ?_; rotate_left
                   ·exact qI
                   rotate_left
                   ·exact qP
                   refine pure_ (i := 2) (N := some 64) (v := ?_) (a' := ?_) #[y', y', y', n', n', n', n', n', n', n', n', n', n', n', n', n', n', n', n', n', n', n', n', n'] rfl rfl (any_of HT_.out (by kernel_rfl)) (fun _ _ _ h => h) (Or.inl ⟨by rfl, ?_⟩) ?_ ?_; rotate_left
                   ·exact qI
                   rotate_left
                   ·exact qP
                   refine pure_ (i := 4) (N := some 66) (v := ?_) (a' := ?_) #[y', y', y', n', y', n', n', n', n', n', n', n', n', n', n', n', n', n', n', n', n', n', n', n'] rfl rfl (any_of HT_.out (by kernel_rfl)) (fun _ _ _ h => h) (Or.inl ⟨by rfl, ?_⟩) ?_ ?_; rotate_left
                   ·exact qI
                   rotate_left
                   ·exact qP
                   refine pure_ (i := 8) (N := some 70) (v := ?_) (a' := ?_) #[y', y', y', n', y', n', n', n', y', n', n', n', n', n', n', n', n', n', n', n', n', n', n', n'] rfl rfl (any_of HT_.out (by kernel_rfl)) (fun _ _ _ h => h) (Or.inl ⟨by rfl, ?_⟩) ?_ ?_; rotate_left
                   ·exact qI
                   rotate_left
                   ·exact qP
                   refine take_ (i := 3) (N := some 65) (v := ?_) (a' := ?_) #[y', y', y', y', y', n', n', n', y', n', n', n', n', n', n', n', n', n', n', n', n', n', n', n'] rfl rfl (take_ofW HT_.out HW_.out (by kernel_rfl)) (fun _ _ _ h => h) (Or.inl ⟨by rfl, ?_⟩) hHeld ?_ ?_; rotate_left
                   ·rintro w' ⟨s0, s1, s2, s3, s4, s5, s6, s7⟩; go_simp; with_reducible rfl
                   rotate_left
                   ·exact qP
                   refine pure_ (i := 5) (N := some 67) (v := ?_) (a' := ?_) #[y', y', y', y', y', y', n', n', y', n', n', n', n', n', n', n', n', n', n', n', n', n', n', n'] rfl rfl (any_of HT_.out (by kernel_rfl)) (fun _ _ _ h => h) (Or.inl ⟨by rfl, ?_⟩) ?_ ?_; rotate_left
                   ·exact qI
                   rotate_left
                   ·exact qP
                   refine pure_ (i := 6) (N := some 68) (v := ?_) (a' := ?_) #[y', y', y', y', y', y', y', n', y', n', n', n', n', n', n', n', n', n', n', n', n', n', n', n'] rfl rfl (any_of HT_.out (by kernel_rfl)) (fun _ _ _ h => h) (Or.inl ⟨by rfl, ?_⟩) ?_ ?_; rotate_left
                   ·exact qI
                   rotate_left
                   ·exact qP
                   refine take_ (i := 7) (N := some 69) (v := ?_) (a' := ?_) #[y', y', y', y', y', y', y', y', y', n', n', n', n', n', n', n', n', n', n', n', n', n', n', n'] rfl rfl (take_ofW HT_.out HW_.out (by kernel_rfl)) (fun _ _ _ h => h) (Or.inl ⟨by rfl, ?_⟩) hHeld ?_ ?_; rotate_left
                   ·rintro w' ⟨s0, s1, s2, s3, s4, s5, s6, s7⟩; go_simp; with_reducible rfl
                   rotate_left
                   ·exact qP
                   refine take_ (i := 9) (N := some 71) (v := ?_) (a' := ?_) #[y', y', y', y', y', y', y', y', y', y', n', n', n', n', n', n', n', n', n', n', n', n', n', n'] rfl rfl (take_ofW HT_.out HW_.out (by kernel_rfl)) (fun _ _ _ h => h) (Or.inl ⟨by rfl, ?_⟩) hHeld ?_ ?_; rotate_left
                   ·rintro w' ⟨s0, s1, s2, s3, s4, s5, s6, s7⟩; go_simp; with_reducible rfl
                   rotate_left
                   ·exact qP
                   refine pure_ (i := 10) (N := some 72) (v := ?_) (a' := ?_) #[y', y', y', y', y', y', y', y', y', y', y', n', n', n', n', n', n', n', n', n', n', n', n', n'] rfl rfl (any_of HT_.out (by kernel_rfl)) (fun _ _ _ h => h) (Or.inl ⟨by rfl, ?_⟩) ?_ ?_; rotate_left
                   ·exact qI
                   rotate_left
                   ·exact qP
                   refine pure_ (i := 11) (N := some 73) (v := ?_) (a' := ?_) #[y', y', y', y', y', y', y', y', y', y', y', y', n', n', n', n', n', n', n', n', n', n', n', n'] rfl rfl (any_of HT_.out (by kernel_rfl)) (fun _ _ _ h => h) (Or.inl ⟨by rfl, ?_⟩) ?_ ?_; rotate_left
                   ·exact qI
                   rotate_left
                   ·exact qP
                   refine pure_ (i := 12) (N := some 74) (v := undef) (a' := ?_) #[y', y', y', y', y', y', y', y', y', y', y', y', y', n', n', n', n', n', n', n', n', n', n', n'] rfl rfl (any_of HT_.out (by kernel_rfl)) (fun _ _ _ h => h) (Or.inr ⟨by rfl, rfl⟩) ?_ ?_; rotate_left
                   ·exact qP
                   refine pure_ (i := 13) (N := some 75) (v := undef) (a' := ?_) #[y', y', y', y', y', y', y', y', y', y', y', y', y', y', n', n', n', n', n', n', n', n', n', n'] rfl rfl (any_of HT_.out (by kernel_rfl)) (fun _ _ _ h => h) (Or.inr ⟨by rfl, rfl⟩) ?_ ?_; rotate_left
                   ·exact qP
                   refine pure_ (i := 14) (N := some 76) (v := undef) (a' := ?_) #[y', y', y', y', y', y', y', y', y', y', y', y', y', y', y', n', n', n', n', n', n', n', n', n'] rfl rfl (any_of HT_.out (by kernel_rfl)) (fun _ _ _ h => h) (Or.inr ⟨by rfl, rfl⟩) ?_ ?_; rotate_left
                   ·exact qP
                   refine pure_ (i := 15) (N := some 77) (v := undef) (a' := ?_) #[y', y', y', y', y', y', y', y', y', y', y', y', y', y', y', y', n', n', n', n', n', n', n', n'] rfl rfl (any_of HT_.out (by kernel_rfl)) (fun _ _ _ h => h) (Or.inr ⟨by rfl, rfl⟩) ?_ ?_; rotate_left
                   ·exact qP
                   refine pure_ (i := 16) (N := some 78) (v := undef) (a' := ?_) #[y', y', y', y', y', y', y', y', y', y', y', y', y', y', y', y', y', n', n', n', n', n', n', n'] rfl rfl (any_of HT_.out (by kernel_rfl)) (fun _ _ _ h => h) (Or.inr ⟨by rfl, rfl⟩) ?_ ?_; rotate_left
                   ·exact qP
                   refine pure_ (i := 17) (N := some 79) (v := undef) (a' := ?_) #[y', y', y', y', y', y', y', y', y', y', y', y', y', y', y', y', y', y', n', n', n', n', n', n'] rfl rfl (any_of HT_.out (by kernel_rfl)) (fun _ _ _ h => h) (Or.inr ⟨by rfl, rfl⟩) ?_ ?_; rotate_left
                   ·exact qP
                   refine pure_ (i := 18) (N := some 80) (v := undef) (a' := ?_) #[y', y', y', y', y', y', y', y', y', y', y', y', y', y', y', y', y', y', y', n', n', n', n', n'] rfl rfl (any_of HT_.out (by kernel_rfl)) (fun _ _ _ h => h) (Or.inr ⟨by rfl, rfl⟩) ?_ ?_; rotate_left
                   ·exact qP
                   refine pure_ (i := 19) (N := some 81) (v := undef) (a' := ?_) #[y', y', y', y', y', y', y', y', y', y', y', y', y', y', y', y', y', y', y', y', n', n', n', n'] rfl rfl (any_of HT_.out (by kernel_rfl)) (fun _ _ _ h => h) (Or.inr ⟨by rfl, rfl⟩) ?_ ?_; rotate_left
                   ·exact qP
                   refine pure_ (i := 20) (N := some 82) (v := undef) (a' := ?_) #[y', y', y', y', y', y', y', y', y', y', y', y', y', y', y', y', y', y', y', y', y', n', n', n'] rfl rfl (any_of HT_.out (by kernel_rfl)) (fun _ _ _ h => h) (Or.inr ⟨by rfl, rfl⟩) ?_ ?_; rotate_left
                   ·exact qP
                   refine pure_ (i := 21) (N := some 83) (v := undef) (a' := ?_) #[y', y', y', y', y', y', y', y', y', y', y', y', y', y', y', y', y', y', y', y', y', y', n', n'] rfl rfl (any_of HT_.out (by kernel_rfl)) (fun _ _ _ h => h) (Or.inr ⟨by rfl, rfl⟩) ?_ ?_; rotate_left
                   ·exact qP
                   refine pure_ (i := 22) (N := some 84) (v := undef) (a' := ?_) #[y', y', y', y', y', y', y', y', y', y', y', y', y', y', y', y', y', y', y', y', y', y', y', n'] rfl rfl (any_of HT_.out (by kernel_rfl)) (fun _ _ _ h => h) (Or.inr ⟨by rfl, rfl⟩) ?_ ?_; rotate_left
                   ·exact qP
                   refine pure_ (i := 23) (N := some 85) (v := ?_) (a' := ?_) #[y', y', y', y', y', y', y', y', y', y', y', y', y', y', y', y', y', y', y', y', y', y', y', y'] rfl rfl (any_of HT_.out (by kernel_rfl)) (fun _ _ _ h => h) (Or.inl ⟨by rfl, ?_⟩) ?_ ?_; rotate_left
                   ·exact qI
                   rotate_left
                   ·exact qP
                   refine done_ (done_of HT_.out (by kernel_rfl)) ?_; try go_wp2
                   go_roundg k5
                   case measure => have := HJ1.out; have := HK2.out; have := HJ8.out; have := HJ21.out; have := HK5.out; omega
                   case rel => exact ⟨(wrap64 (x7_5 + 1)), qS, H', ⟨by have := HJ1.out; have := HK2.out; have := HJ8.out; have := HJ21.out; have := HK5.out; omega⟩, ⟨qB BK0.out⟩, ⟨qB BK105.out⟩, ⟨qK1 HB.out GE105.out⟩⟩
                 ·rw [if_neg c28] at H; exact absurd H (by simp)
                ·rw [if_neg c27] at H; exact absurd H (by simp)
               ·rw [if_neg c26] at H; have c26b0 : decide (x7_5 < x5_2) = false := dF' c26; clear c26; have H' := A' H; clear H; go_wp2
                go_roundg k5
                case measure => have := HJ1.out; have := HK2.out; have := HJ8.out; have := HJ21.out; have := HK5.out; omega
                case rel => exact ⟨(x4_21), (wrap64 (x5_2 + 1)), qS, qS, H', ⟨by have := HJ1.out; have := HK2.out; have := HJ8.out; have := HJ21.out; have := HK5.out; omega⟩, ⟨qB BK0.out⟩, ⟨qK1 HB.out GE105.out⟩⟩
       ·rw [if_neg c8] at H; exact absurd H (by simp)
      ·rw [if_neg c7] at H; have c7b0 : decide (x5_2 < (l0_0.length : Int)) = false := dF' c7; clear c7; have H' := A' H; clear H; have hcz34_0 : wr.cell? ⟨gp0, 0, none⟩ = some (.slice A0_0 l0_0.length c0_0) := (N' BK0.out 0).trans rfl; have hcz34_1 : wr.cell? ⟨gp0, 1, none⟩ = some (.slice A0_1 l0_1.length c0_1) := (N' BK0.out 1).trans rfl; have hfz34_0 := Y' BK0.out 0; have hfz34_1 := Y' BK0.out 1; go_wp2
       go_loopg [8] k2 (fun kq v8 w' => ∃ (x8_3 : Int), v8 = .int .i64 x8_3 ∧ Aside0 (spec_l09Ok.l2 kq (l0_0.length : Int) x4_2 x8_3 l0_0 l0_1 = some r) ∧ Aside0 (kq ≤ k2) ∧ Aside0 (w'.heap[gp0]? = some (.cells #[(.slice A0_0 l0_0.length c0_0), (.slice A0_1 l0_1.length c0_1)] 33 (0, 0))) ∧ Aside0 (Below w.heap.size w w'))
       case atStart => exact ⟨(0), qS, H', ⟨Nat.le_refl _⟩, ⟨qB BK0.out⟩, ⟨qK0 HB.out⟩⟩
       case round =>
        clear H'; try clear p1
        try clear q1
        try clear hx1
        try clear c2
        try clear p2
        try clear c3
        try clear p6
        try clear c7
        try clear c7b0
        try clear c8
        try clear p10
        try clear q10
        try clear hx10
        try clear c26
        try clear c26b0
        try clear c27
        try clear c28
        try clear c29
        try clear c29b0
        try clear c29b1
        try clear c30
        try clear c30b0
        try clear c30b1
        try clear hcz34_0
        try clear hcz34_1
        try clear hfz34_0
        try clear hfz34_1
        try clear hx108_0
        try clear hx108_1
        try clear hx108_2
        try clear hx109_0
        try clear hx109_1
        try clear hx109_2
        try clear p108
        try clear p109
        try clear q108
        try clear q109
        obtain ⟨x8_3, rfl, HA, HK3, BK0, HB⟩ := hrel
        cases gk with
        | zero => exact absurd HA.out (by simp [spec_l09Ok.l2])
        | succ k3 =>
         have H := HA.out; clear HA; simp only [spec_l09Ok.l2] at H
         by_cases c35 : x8_3 < (l0_1.length : Int)
         ·rw [if_pos c35] at H; have c35b0 : decide (x8_3 < (l0_1.length : Int)) = true := dT' c35; clear c35
          by_cases c36 : 0 ≤ x8_3
          ·rw [if_pos c36] at H; have c36b0 : decide (0 ≤ x8_3) = true := dT' c36; clear c36; have HC37 := A' H; clear H; have hcz38_0 : wr.cell? ⟨gp0, 0, none⟩ = some (.slice A0_0 l0_0.length c0_0) := (N' BK0.out 0).trans rfl; have hcz38_1 : wr.cell? ⟨gp0, 1, none⟩ = some (.slice A0_1 l0_1.length c0_1) := (N' BK0.out 1).trans rfl; have hfz38_0 := Y' BK0.out 0; have hfz38_1 := Y' BK0.out 1; have p110 : 0 ≤ (x8_3 : Int) := oD' qA; have q110 : x8_3 < (l0_1.length : Int) := oD' qA; obtain ⟨ad110, e110, hx110_0, hx110_1, hx110_2⟩ := at_T104 HR0_1.out x8_3 p110 q110
           cases e110
           try replace hx110_0 := qC HB.out hx110_0
           try replace hx110_1 := qC HB.out hx110_1
           try replace hx110_2 := qC HB.out hx110_2
           replace p110 := eq_true p110; replace q110 := eq_true q110; go_upto_region 22 with (first | ((with_reducible refine gate_dst (N := 9) rfl ?_); (try (refine gate_guard (by rfl) ?_; dsimp only)); refine box_event ?hg (N := 9) ?hd (cs := #[.int .i64 0, .int .i64 0, .bool false]) (t := 104) ?hr ?_; (case hd => rfl); (case hg => rfl); (case hr => first | (go_simp; done) | (go_simp; rfl)); intro gb111 hg w39 hbox hb; have n0_ := A' (O' (g := gp0) (qB BK0.out) hb); have n1_ := A' (W' (qK0 HB.out) hb); have n2_ := A' (hbox); have n3_ := A' ((by rw [hg]; exact (V' (qK0 HB.out)) : w.heap.size ≤ gb111)); have n4_ := A' ((by rw [hg]; exact (V' (qK0 HB.out)) : w.heap.size ≤ gb111)); have n5_ := A' ((by rw [hg]; exact Nat.ne_of_lt (bL' (g := gp0) (qB BK0.out)) : gp0 ≠ gb111)); have n6_ := A' ((by rw [hg]; exact Nat.ne_of_gt (bL' (g := gp0) (qB BK0.out)) : gb111 ≠ gp0)); clear BK0; clear HB; have BK0 := n0_; have HB := n1_; have BK111 := n2_; have GW111 := n3_; have GE111 := n4_; have NB0_111 := n5_; have NB111_0 := n6_; clear n0_ n1_ n2_ n3_ n4_ n5_ n6_; clear hb hbox hg; have hnb40 := NB111_0.out; have hnc40 := NB0_111.out; have hcz41_0 : w39.cell? ⟨gb111, 0, none⟩ = some (.int .i64 0) := (N' BK111.out 0).trans rfl; have hcz41_1 : w39.cell? ⟨gb111, 1, none⟩ = some (.int .i64 0) := (N' BK111.out 1).trans rfl; have hcz41_2 : w39.cell? ⟨gb111, 2, none⟩ = some (.bool false) := (N' BK111.out 2).trans rfl; have hfz41_0 := Y' BK111.out 0; have hfz41_1 := Y' BK111.out 1; have hfz41_2 := Y' BK111.out 2))
           (try simp only [Act.put, List.setIfInBounds_toArray, List.set_cons_zero, List.set_cons_succ])
           go_cut [140] (fun v140 wc => ∃ (kq : Nat) (x140_36 : Bool), v140 = .bool x140_36 ∧ Aside0 (spec_l09Ok.j6 kq (l0_0.length : Int) x4_2 x8_3 x140_36 l0_0 l0_1 ((rd_T104 l0_1 x8_3).f0) ((rd_T104 l0_1 x8_3).f1) ((rd_T104 l0_1 x8_3).f2) = some r) ∧ Aside0 (kq ≤ k3) ∧ Aside0 (wc.heap[gp0]? = some (.cells #[(.slice A0_0 l0_0.length c0_0), (.slice (some ad110) l0_1.length c0_1)] 33 (0, 0))) ∧ Aside0 (wc.heap[gb111]? = some (.cells #[.int .i64 ((rd_T104 l0_1 x8_3).f0), .int .i64 ((rd_T104 l0_1 x8_3).f1), .bool ((rd_T104 l0_1 x8_3).f2)] 104 (0, 0))) ∧ Aside0 (Below w.heap.size w wc))
           case first =>
            have H := HC37.out; clear HC37; replace H := Option.bind_eq_some_iff.mp H; obtain ⟨t112, A420, H⟩ := H; replace H : (if t112 = true then ((spec_l00In.f ((rd_T104 l0_1 x8_3).f1) (wrap64 (((rd_T104 l0_1 x8_3).f0) + 1)) (wrap64 ((l0_0.length : Int) - 1))).bind fun t113 => (if t113 = true then (if 0 ≤ ((rd_T104 l0_1 x8_3).f0) then (if ((rd_T104 l0_1 x8_3).f0) < (l0_0.length : Int) then (if (rd_T90 l0_0 ((rd_T104 l0_1 x8_3).f0)).f2 = true then (if 0 ≤ ((rd_T104 l0_1 x8_3).f1) then (if ((rd_T104 l0_1 x8_3).f1) < (l0_0.length : Int) then (spec_l09Ok.j6 k3 (l0_0.length : Int) x4_2 x8_3 ((rd_T90 l0_0 ((rd_T104 l0_1 x8_3).f1)).f2) l0_0 l0_1 ((rd_T104 l0_1 x8_3).f0) ((rd_T104 l0_1 x8_3).f1) ((rd_T104 l0_1 x8_3).f2)) else (none)) else (none)) else (spec_l09Ok.j6 k3 (l0_0.length : Int) x4_2 x8_3 false l0_0 l0_1 ((rd_T104 l0_1 x8_3).f0) ((rd_T104 l0_1 x8_3).f1) ((rd_T104 l0_1 x8_3).f2))) else (none)) else (none)) else (spec_l09Ok.j6 k3 (l0_0.length : Int) x4_2 x8_3 true l0_0 l0_1 ((rd_T104 l0_1 x8_3).f0) ((rd_T104 l0_1 x8_3).f1) ((rd_T104 l0_1 x8_3).f2)))) else (spec_l09Ok.j6 k3 (l0_0.length : Int) x4_2 x8_3 true l0_0 l0_1 ((rd_T104 l0_1 x8_3).f0) ((rd_T104 l0_1 x8_3).f1) ((rd_T104 l0_1 x8_3).f2))) = some r := H; have A42 := A' A420; clear A420
            by_cases c43 : t112 = true
            ·subst c43; have H1 : ((spec_l00In.f ((rd_T104 l0_1 x8_3).f1) (wrap64 (((rd_T104 l0_1 x8_3).f0) + 1)) (wrap64 ((l0_0.length : Int) - 1))).bind fun t113 => (if t113 = true then (if 0 ≤ ((rd_T104 l0_1 x8_3).f0) then (if ((rd_T104 l0_1 x8_3).f0) < (l0_0.length : Int) then (if (rd_T90 l0_0 ((rd_T104 l0_1 x8_3).f0)).f2 = true then (if 0 ≤ ((rd_T104 l0_1 x8_3).f1) then (if ((rd_T104 l0_1 x8_3).f1) < (l0_0.length : Int) then (spec_l09Ok.j6 k3 (l0_0.length : Int) x4_2 x8_3 ((rd_T90 l0_0 ((rd_T104 l0_1 x8_3).f1)).f2) l0_0 l0_1 ((rd_T104 l0_1 x8_3).f0) ((rd_T104 l0_1 x8_3).f1) ((rd_T104 l0_1 x8_3).f2)) else (none)) else (none)) else (spec_l09Ok.j6 k3 (l0_0.length : Int) x4_2 x8_3 false l0_0 l0_1 ((rd_T104 l0_1 x8_3).f0) ((rd_T104 l0_1 x8_3).f1) ((rd_T104 l0_1 x8_3).f2))) else (none)) else (none)) else (spec_l09Ok.j6 k3 (l0_0.length : Int) x4_2 x8_3 true l0_0 l0_1 ((rd_T104 l0_1 x8_3).f0) ((rd_T104 l0_1 x8_3).f1) ((rd_T104 l0_1 x8_3).f2)))) = some r := by rw [if_pos rfl] at H; exact H
             clear H; have H := H1; clear H1; replace H := Option.bind_eq_some_iff.mp H; obtain ⟨t113, A440, H⟩ := H; replace H : (if t113 = true then (if 0 ≤ ((rd_T104 l0_1 x8_3).f0) then (if ((rd_T104 l0_1 x8_3).f0) < (l0_0.length : Int) then (if (rd_T90 l0_0 ((rd_T104 l0_1 x8_3).f0)).f2 = true then (if 0 ≤ ((rd_T104 l0_1 x8_3).f1) then (if ((rd_T104 l0_1 x8_3).f1) < (l0_0.length : Int) then (spec_l09Ok.j6 k3 (l0_0.length : Int) x4_2 x8_3 ((rd_T90 l0_0 ((rd_T104 l0_1 x8_3).f1)).f2) l0_0 l0_1 ((rd_T104 l0_1 x8_3).f0) ((rd_T104 l0_1 x8_3).f1) ((rd_T104 l0_1 x8_3).f2)) else (none)) else (none)) else (spec_l09Ok.j6 k3 (l0_0.length : Int) x4_2 x8_3 false l0_0 l0_1 ((rd_T104 l0_1 x8_3).f0) ((rd_T104 l0_1 x8_3).f1) ((rd_T104 l0_1 x8_3).f2))) else (none)) else (none)) else (spec_l09Ok.j6 k3 (l0_0.length : Int) x4_2 x8_3 true l0_0 l0_1 ((rd_T104 l0_1 x8_3).f0) ((rd_T104 l0_1 x8_3).f1) ((rd_T104 l0_1 x8_3).f2))) = some r := H; have A44 := A' A440; clear A440
             by_cases c45 : t113 = true
             ·subst c45; have H1 : (if 0 ≤ ((rd_T104 l0_1 x8_3).f0) then (if ((rd_T104 l0_1 x8_3).f0) < (l0_0.length : Int) then (if (rd_T90 l0_0 ((rd_T104 l0_1 x8_3).f0)).f2 = true then (if 0 ≤ ((rd_T104 l0_1 x8_3).f1) then (if ((rd_T104 l0_1 x8_3).f1) < (l0_0.length : Int) then (spec_l09Ok.j6 k3 (l0_0.length : Int) x4_2 x8_3 ((rd_T90 l0_0 ((rd_T104 l0_1 x8_3).f1)).f2) l0_0 l0_1 ((rd_T104 l0_1 x8_3).f0) ((rd_T104 l0_1 x8_3).f1) ((rd_T104 l0_1 x8_3).f2)) else (none)) else (none)) else (spec_l09Ok.j6 k3 (l0_0.length : Int) x4_2 x8_3 false l0_0 l0_1 ((rd_T104 l0_1 x8_3).f0) ((rd_T104 l0_1 x8_3).f1) ((rd_T104 l0_1 x8_3).f2))) else (none)) else (none)) = some r := by rw [if_pos rfl] at H; exact H
              clear H; have H := H1; clear H1
              by_cases c46 : 0 ≤ ((rd_T104 l0_1 x8_3).f0)
              ·rw [if_pos c46] at H; have c46b0 : decide (0 ≤ ((rd_T104 l0_1 x8_3).f0)) = true := dT' c46; clear c46; (first | rw [c46b0] | (simp only [i64_w, i32_w]; rw [c46b0]) | skip)
               by_cases c47 : ((rd_T104 l0_1 x8_3).f0) < (l0_0.length : Int)
               ·rw [if_pos c47] at H; have c47b0 : decide (((rd_T104 l0_1 x8_3).f0) < (l0_0.length : Int)) = true := dT' c47; clear c47; obtain ⟨bq48, hbq48⟩ : ∃ b_ : Bool, b_ = ((rd_T90 l0_0 ((rd_T104 l0_1 x8_3).f0)).f2) := ⟨_, rfl⟩
                replace H : (if bq48 = true then (if 0 ≤ ((rd_T104 l0_1 x8_3).f1) then (if ((rd_T104 l0_1 x8_3).f1) < (l0_0.length : Int) then (spec_l09Ok.j6 k3 (l0_0.length : Int) x4_2 x8_3 ((rd_T90 l0_0 ((rd_T104 l0_1 x8_3).f1)).f2) l0_0 l0_1 ((rd_T104 l0_1 x8_3).f0) ((rd_T104 l0_1 x8_3).f1) ((rd_T104 l0_1 x8_3).f2)) else (none)) else (none)) else (spec_l09Ok.j6 k3 (l0_0.length : Int) x4_2 x8_3 false l0_0 l0_1 ((rd_T104 l0_1 x8_3).f0) ((rd_T104 l0_1 x8_3).f1) ((rd_T104 l0_1 x8_3).f2))) = some r := by rw [← hbq48] at H; exact H
                have Nbq48 := A' hbq48; clear hbq48
                by_cases c49 : bq48 = true
                ·subst c49; have H1 : (if 0 ≤ ((rd_T104 l0_1 x8_3).f1) then (if ((rd_T104 l0_1 x8_3).f1) < (l0_0.length : Int) then (spec_l09Ok.j6 k3 (l0_0.length : Int) x4_2 x8_3 ((rd_T90 l0_0 ((rd_T104 l0_1 x8_3).f1)).f2) l0_0 l0_1 ((rd_T104 l0_1 x8_3).f0) ((rd_T104 l0_1 x8_3).f1) ((rd_T104 l0_1 x8_3).f2)) else (none)) else (none)) = some r := by rw [if_pos rfl] at H; exact H
                 clear H; have H := H1; clear H1
                 by_cases c50 : 0 ≤ ((rd_T104 l0_1 x8_3).f1)
                 ·rw [if_pos c50] at H; have c50b0 : decide (0 ≤ ((rd_T104 l0_1 x8_3).f1)) = true := dT' c50; clear c50
                  by_cases c51 : ((rd_T104 l0_1 x8_3).f1) < (l0_0.length : Int)
                  ·rw [if_pos c51] at H; have c51b0 : decide (((rd_T104 l0_1 x8_3).f1) < (l0_0.length : Int)) = true := dT' c51; clear c51; have H' := A' H; clear H; try go_wp2
                   have n0_ : Aside0 ((((w39.setCell ⟨gb111, 0, none⟩ (.int .i64 ((rd_T104 l0_1 x8_3).f0))).setCell ⟨gb111, 1, none⟩ (.int .i64 ((rd_T104 l0_1 x8_3).f1))).setCell ⟨gb111, 2, none⟩ (.bool ((rd_T104 l0_1 x8_3).f2))).heap[gp0]? = some (.cells #[.slice A0_0 l0_0.length c0_0, .slice (some ad110) l0_1.length c0_1] 33 (0, 0))) := ⟨qG3 BK0.out NB0_111.out NB0_111.out NB0_111.out⟩
                   have n1_ : Aside0 ((((w39.setCell ⟨gb111, 0, none⟩ (.int .i64 ((rd_T104 l0_1 x8_3).f0))).setCell ⟨gb111, 1, none⟩ (.int .i64 ((rd_T104 l0_1 x8_3).f1))).setCell ⟨gb111, 2, none⟩ (.bool ((rd_T104 l0_1 x8_3).f2))).heap[gb111]? = some (.cells #[.int .i64 ((rd_T104 l0_1 x8_3).f0), .int .i64 ((rd_T104 l0_1 x8_3).f1), .bool ((rd_T104 l0_1 x8_3).f2)] 104 (0, 0))) := ⟨by (with_reducible repeat (first | refine G' ?_ _ | refine I' ?_ | refine hA' ?_ _)); refine blk_put (cs := #[.int .i64 ((rd_T104 l0_1 x8_3).f0), .int .i64 ((rd_T104 l0_1 x8_3).f1), .bool false]) ?_ 2 _ rfl; (with_reducible repeat (first | refine G' ?_ _ | refine I' ?_ | refine hA' ?_ _)); refine blk_put (cs := #[.int .i64 ((rd_T104 l0_1 x8_3).f0), .int .i64 0, .bool false]) ?_ 1 _ rfl; (with_reducible repeat (first | refine G' ?_ _ | refine I' ?_ | refine hA' ?_ _)); refine blk_put (cs := #[.int .i64 0, .int .i64 0, .bool false]) ?_ 0 _ rfl; (with_reducible repeat (first | refine G' ?_ _ | refine I' ?_ | refine hA' ?_ _)); exact BK111.out⟩
                   have n2_ : Aside0 (Below w.heap.size w (((w39.setCell ⟨gb111, 0, none⟩ (.int .i64 ((rd_T104 l0_1 x8_3).f0))).setCell ⟨gb111, 1, none⟩ (.int .i64 ((rd_T104 l0_1 x8_3).f1))).setCell ⟨gb111, 2, none⟩ (.bool ((rd_T104 l0_1 x8_3).f2)))) := ⟨qK1 HB.out GE111.out⟩
                   (try clear BK0); (try clear BK111); (try clear HB)
                   generalize (((w39.setCell ⟨gb111, 0, none⟩ (.int .i64 ((rd_T104 l0_1 x8_3).f0))).setCell ⟨gb111, 1, none⟩ (.int .i64 ((rd_T104 l0_1 x8_3).f1))).setCell ⟨gb111, 2, none⟩ (.bool ((rd_T104 l0_1 x8_3).f2))) = w52 at n0_ n1_ n2_ ⊢
                   have BK0 := n0_; have BK111 := n1_; have HB := n2_; clear n0_ n1_ n2_; have n0_ := A' (I' BK0.out); have n1_ := A' (I' BK111.out); have n2_ := A' (J' HB.out); clear BK0; clear BK111; clear HB; have BK0 := n0_; have BK111 := n1_; have HB := n2_; clear n0_ n1_ n2_; have p114 : 0 ≤ (((rd_T104 l0_1 x8_3).f0) : Int) := oD' qA; have q114 : ((rd_T104 l0_1 x8_3).f0) < (l0_0.length : Int) := oD' qA; obtain ⟨ad114, e114, hx114_0, hx114_1, hx114_2⟩ := at_T90 HR0_0.out ((rd_T104 l0_1 x8_3).f0) p114 q114; have hw114_2 := hx114_2; have hw114_1 := hx114_1; have hw114_0 := hx114_0; (try rw [← Nbq48.out] at hx114_2); (try rw [← Nbq48.out] at hw114_2)
                   cases e114
                   try replace hx114_0 := qC HB.out hx114_0
                   try replace hx114_1 := qC HB.out hx114_1
                   try replace hx114_2 := qC HB.out hx114_2
                   replace p114 := eq_true p114; replace q114 := eq_true q114; have p115 : 0 ≤ (((rd_T104 l0_1 x8_3).f1) : Int) := oD' qA; have q115 : ((rd_T104 l0_1 x8_3).f1) < (l0_0.length : Int) := oD' qA; obtain ⟨ad115, e115, hx115_0, hx115_1, hx115_2⟩ := at_T90 HR0_0.out ((rd_T104 l0_1 x8_3).f1) p115 q115; have hw115_2 := hx115_2; have hw115_1 := hx115_1; have hw115_0 := hx115_0; (try rw [← Nbq48.out] at hx115_2); (try rw [← Nbq48.out] at hw115_2); obtain rfl : ad114 = ad115 := (by injection e115)
                   try replace hx115_0 := qC HB.out hx115_0
                   try replace hx115_1 := qC HB.out hx115_1
                   try replace hx115_2 := qC HB.out hx115_2
                   replace p115 := eq_true p115; replace q115 := eq_true q115; refine start_ (n := 39) (S := fun w' => w'.cell? ⟨gb111, 0, none⟩ = some (.int .i64 ((rd_T104 l0_1 x8_3).f0)) ∧ w'.cell? ⟨gb111, 1, none⟩ = some (.int .i64 ((rd_T104 l0_1 x8_3).f1)) ∧ w'.cell? ⟨gb111, 2, none⟩ = some (.bool ((rd_T104 l0_1 x8_3).f2)) ∧ w'.cell? ⟨gp0, 0, none⟩ = some (.slice (some ad114) l0_0.length c0_0) ∧ w'.cell? ⟨gp0, 1, none⟩ = some (.slice (some ad110) l0_1.length c0_1) ∧ w'.cell? (ad114.add ((((rd_T104 l0_1 x8_3).f0)).toNat * 3)) = some (.int .i64 ((rd_T90 l0_0 ((rd_T104 l0_1 x8_3).f0)).f0)) ∧ w'.cell? ⟨(ad114.add ((((rd_T104 l0_1 x8_3).f0)).toNat * 3)).block, (ad114.add ((((rd_T104 l0_1 x8_3).f0)).toNat * 3)).off + 1, none⟩ = some (.int .i64 ((rd_T90 l0_0 ((rd_T104 l0_1 x8_3).f0)).f1)) ∧ w'.cell? ⟨(ad114.add ((((rd_T104 l0_1 x8_3).f0)).toNat * 3)).block, (ad114.add ((((rd_T104 l0_1 x8_3).f0)).toNat * 3)).off + 2, none⟩ = some (.bool true) ∧ w'.cell? (ad114.add ((((rd_T104 l0_1 x8_3).f1)).toNat * 3)) = some (.int .i64 ((rd_T90 l0_0 ((rd_T104 l0_1 x8_3).f1)).f0)) ∧ w'.cell? ⟨(ad114.add ((((rd_T104 l0_1 x8_3).f1)).toNat * 3)).block, (ad114.add ((((rd_T104 l0_1 x8_3).f1)).toNat * 3)).off + 1, none⟩ = some (.int .i64 ((rd_T90 l0_0 ((rd_T104 l0_1 x8_3).f1)).f1)) ∧ w'.cell? ⟨(ad114.add ((((rd_T104 l0_1 x8_3).f1)).toNat * 3)).block, (ad114.add ((((rd_T104 l0_1 x8_3).f1)).toNat * 3)).off + 2, none⟩ = some (.bool ((rd_T90 l0_0 ((rd_T104 l0_1 x8_3).f1)).f2))) (ds := []) #[n', n', n', n', n', n', n', n', n', n', n', n', n', n', n', n', n', n', n', n', n', n', n', n', n', n', n', n', n', n', n', n', n', n', n', n', n', n', n'] (by kernel_rfl) rfl rfl ⟨(N' BK111.out 0).trans rfl, (N' BK111.out 1).trans rfl, (N' BK111.out 2).trans rfl, (N' BK0.out 0).trans rfl, (N' BK0.out 1).trans rfl, (qC HB.out hw114_0 :), (qC HB.out hw114_1 :), (qC HB.out hw114_2 :), (qC HB.out hw115_0 :), (qC HB.out hw115_1 :), (qC HB.out hw115_2 :)⟩ (fun hHeld => ?_); refine with_tabW spec_l09Ok.tab22 spec_l09Ok.bits22 (fun HT_ HW_ => ?_)
                   generalize w52.drew = w53 at BK0 BK111 HB hx114_0 hx114_1 hx114_2 hx115_0 hx115_1 hx115_2 hHeld ⊢
                   refine pure_ (i := 0) (N := some 102) (v := ?_) (a' := ?_) #[y', n', n', n', n', n', n', n', n', n', n', n', n', n', n', n', n', n', n', n', n', n', n', n', n', n', n', n', n', n', n', n', n', n', n', n', n', n', n'] rfl rfl (any_of HT_.out (by kernel_rfl)) (fun _ _ _ h => h) (Or.inl ⟨by rfl, ?_⟩) ?_ ?_; rotate_left
                   ·exact qI
                   rotate_left
                   ·exact qP
                   refine pure_ (i := 2) (N := some 104) (v := ?_) (a' := ?_) #[y', n', y', n', n', n', n', n', n', n', n', n', n', n', n', n', n', n', n', n', n', n', n', n', n', n', n', n', n', n', n', n', n', n', n', n', n', n', n'] rfl rfl (any_of HT_.out (by kernel_rfl)) (fun _ _ _ h => h) (Or.inl ⟨by rfl, ?_⟩) ?_ ?_; rotate_left
                   ·exact qI
                   rotate_left
                   ·exact qP
                   refine pure_ (i := 3) (N := some 105) (v := ?_) (a' := ?_) #[y', n', y', y', n', n', n', n', n', n', n', n', n', n', n', n', n', n', n', n', n', n', n', n', n', n', n', n', n', n', n', n', n', n', n', n', n', n', n'] rfl rfl (any_of HT_.out (by kernel_rfl)) (fun _ _ _ h => h) (Or.inl ⟨by rfl, ?_⟩) ?_ ?_; rotate_left
                   ·exact qI
                   rotate_left
                   ·exact qP
                   refine take_ (i := 1) (N := some 103) (v := ?_) (a' := ?_) #[y', y', y', y', n', n', n', n', n', n', n', n', n', n', n', n', n', n', n', n', n', n', n', n', n', n', n', n', n', n', n', n', n', n', n', n', n', n', n'] rfl rfl (take_ofW HT_.out HW_.out (by kernel_rfl)) (fun _ _ _ h => h) (Or.inl ⟨by rfl, ?_⟩) hHeld ?_ ?_; rotate_left
                   ·rintro w' ⟨s0, s1, s2, s3, s4, s5, s6, s7, s8, s9, s10⟩; go_simp; with_reducible rfl
                   rotate_left
                   ·exact qP
                   refine one_ (i := 4) (N := some 106) #[y', y', y', y', y', n', n', n', n', n', n', n', n', n', n', n', n', n', n', n', n', n', n', n', n', n', n', n', n', n', n', n', n', n', n', n', n', n', n'] rfl rfl (one_of HT_.out (by kernel_rfl)) (by decide) (fun K hK => ?_); refine goes_ Try.func82 (by kernel_rfl) rfl #[.int .i64 ((rd_T104 l0_1 x8_3).f0), .int .i64 0, .int .i64 (wrap64 ((l0_0.length : Int) - 1))] (by rfl) rfl rfl (by (try simp only [List.map_toArray, List.map_cons, List.map_nil]); first | done | rfl | (simp only [List.length_drop, List.length_take]; rfl)) ?_
                   with_reducible refine (spec_l00In.calls ((rd_T104 l0_1 x8_3).f0) 0 (wrap64 ((l0_0.length : Int) - 1)) true _ A42.out).mono ?_
                   rintro e w' ⟨rfl, ⟨nd, rfl⟩⟩; refine ⟨_, rfl, ?_⟩; refine hK.out _ _ ⟨(N' BK111.out 0).trans rfl, (N' BK111.out 1).trans rfl, (N' BK111.out 2).trans rfl, (N' BK0.out 0).trans rfl, (N' BK0.out 1).trans rfl, (qC HB.out hw114_0 :), (qC HB.out hw114_1 :), (qC HB.out hw114_2 :), (qC HB.out hw115_0 :), (qC HB.out hw115_1 :), (qC HB.out hw115_2 :)⟩ (fun hHeld => ?_); clear hK K; refine norm_ (a' := ?_) ?_ ?_; rotate_left
                   ·show Act.put _ (some 106) _ = _
                    exact qP
                   refine pure_ (i := 5) (N := some 107) (v := ?_) (a' := ?_) #[y', y', y', y', y', y', n', n', n', n', n', n', n', n', n', n', n', n', n', n', n', n', n', n', n', n', n', n', n', n', n', n', n', n', n', n', n', n', n'] rfl rfl (any_of HT_.out (by kernel_rfl)) (fun _ _ _ h => h) (Or.inl ⟨by rfl, ?_⟩) ?_ ?_; rotate_left
                   ·exact qI
                   rotate_left
                   ·exact qP
                   refine pure_ (i := 6) (N := some 108) (v := ?_) (a' := ?_) #[y', y', y', y', y', y', y', n', n', n', n', n', n', n', n', n', n', n', n', n', n', n', n', n', n', n', n', n', n', n', n', n', n', n', n', n', n', n', n'] rfl rfl (any_of HT_.out (by kernel_rfl)) (fun _ _ _ h => h) (Or.inl ⟨by rfl, ?_⟩) ?_ ?_; rotate_left
                   ·exact qI
                   rotate_left
                   ·exact qP
                   refine pure_ (i := 7) (N := some 109) (v := ?_) (a' := ?_) #[y', y', y', y', y', y', y', y', n', n', n', n', n', n', n', n', n', n', n', n', n', n', n', n', n', n', n', n', n', n', n', n', n', n', n', n', n', n', n'] rfl rfl (any_of HT_.out (by kernel_rfl)) (fun _ _ _ h => h) (Or.inl ⟨by rfl, ?_⟩) ?_ ?_; rotate_left
                   ·exact qI
                   rotate_left
                   ·exact qP
                   refine pure_ (i := 9) (N := some 111) (v := ?_) (a' := ?_) #[y', y', y', y', y', y', y', y', n', y', n', n', n', n', n', n', n', n', n', n', n', n', n', n', n', n', n', n', n', n', n', n', n', n', n', n', n', n', n'] rfl rfl (any_of HT_.out (by kernel_rfl)) (fun _ _ _ h => h) (Or.inl ⟨by rfl, ?_⟩) ?_ ?_; rotate_left
                   ·exact qI
                   rotate_left
                   ·exact qP
                   refine pure_ (i := 12) (N := some 114) (v := ?_) (a' := ?_) #[y', y', y', y', y', y', y', y', n', y', n', n', y', n', n', n', n', n', n', n', n', n', n', n', n', n', n', n', n', n', n', n', n', n', n', n', n', n', n'] rfl rfl (any_of HT_.out (by kernel_rfl)) (fun _ _ _ h => h) (Or.inl ⟨by rfl, ?_⟩) ?_ ?_; rotate_left
                   ·exact qI
                   rotate_left
                   ·exact qP
                   refine pure_ (i := 13) (N := some 115) (v := ?_) (a' := ?_) #[y', y', y', y', y', y', y', y', n', y', n', n', y', y', n', n', n', n', n', n', n', n', n', n', n', n', n', n', n', n', n', n', n', n', n', n', n', n', n'] rfl rfl (any_of HT_.out (by kernel_rfl)) (fun _ _ _ h => h) (Or.inl ⟨by rfl, ?_⟩) ?_ ?_; rotate_left
                   ·exact qI
                   rotate_left
                   ·exact qP
                   refine take_ (i := 8) (N := some 110) (v := ?_) (a' := ?_) #[y', y', y', y', y', y', y', y', y', y', n', n', y', y', n', n', n', n', n', n', n', n', n', n', n', n', n', n', n', n', n', n', n', n', n', n', n', n', n'] rfl rfl (take_ofW HT_.out HW_.out (by kernel_rfl)) (fun _ _ _ h => h) (Or.inl ⟨by rfl, ?_⟩) hHeld ?_ ?_; rotate_left
                   ·rintro w' ⟨s0, s1, s2, s3, s4, s5, s6, s7, s8, s9, s10⟩; go_simp; with_reducible rfl
                   rotate_left
                   ·exact qP
                   refine take_ (i := 10) (N := some 112) (v := ?_) (a' := ?_) #[y', y', y', y', y', y', y', y', y', y', y', n', y', y', n', n', n', n', n', n', n', n', n', n', n', n', n', n', n', n', n', n', n', n', n', n', n', n', n'] rfl rfl (take_ofW HT_.out HW_.out (by kernel_rfl)) (fun _ _ _ h => h) (Or.inl ⟨by rfl, ?_⟩) hHeld ?_ ?_; rotate_left
                   ·rintro w' ⟨s0, s1, s2, s3, s4, s5, s6, s7, s8, s9, s10⟩; go_simp; with_reducible rfl
                   rotate_left
                   ·exact qP
                   refine pure_ (i := 11) (N := some 113) (v := ?_) (a' := ?_) #[y', y', y', y', y', y', y', y', y', y', y', y', y', y', n', n', n', n', n', n', n', n', n', n', n', n', n', n', n', n', n', n', n', n', n', n', n', n', n'] rfl rfl (any_of HT_.out (by kernel_rfl)) (fun _ _ _ h => h) (Or.inl ⟨by rfl, ?_⟩) ?_ ?_; rotate_left
                   ·exact qI
                   rotate_left
                   ·exact qP
                   refine one_ (i := 14) (N := some 116) #[y', y', y', y', y', y', y', y', y', y', y', y', y', y', y', n', n', n', n', n', n', n', n', n', n', n', n', n', n', n', n', n', n', n', n', n', n', n', n'] rfl rfl (one_of HT_.out (by kernel_rfl)) (by decide) (fun K hK => ?_); refine goes_ Try.func82 (by kernel_rfl) rfl #[.int .i64 ((rd_T104 l0_1 x8_3).f1), .int .i64 (wrap64 (((rd_T104 l0_1 x8_3).f0) + 1)), .int .i64 (wrap64 ((l0_0.length : Int) - 1))] (by rfl) rfl rfl (by (try simp only [List.map_toArray, List.map_cons, List.map_nil]); first | done | rfl | (simp only [List.length_drop, List.length_take]; rfl)) ?_
                   with_reducible refine (spec_l00In.calls ((rd_T104 l0_1 x8_3).f1) (wrap64 (((rd_T104 l0_1 x8_3).f0) + 1)) (wrap64 ((l0_0.length : Int) - 1)) true _ A44.out).mono ?_
                   rintro e w' ⟨rfl, ⟨nd, rfl⟩⟩; refine ⟨_, rfl, ?_⟩; refine hK.out _ _ ⟨(N' BK111.out 0).trans rfl, (N' BK111.out 1).trans rfl, (N' BK111.out 2).trans rfl, (N' BK0.out 0).trans rfl, (N' BK0.out 1).trans rfl, (qC HB.out hw114_0 :), (qC HB.out hw114_1 :), (qC HB.out hw114_2 :), (qC HB.out hw115_0 :), (qC HB.out hw115_1 :), (qC HB.out hw115_2 :)⟩ (fun hHeld => ?_); clear hK K; refine norm_ (a' := ?_) ?_ ?_; rotate_left
                   ·show Act.put _ (some 116) _ = _
                    exact qP
                   refine pure_ (i := 15) (N := some 117) (v := ?_) (a' := ?_) #[y', y', y', y', y', y', y', y', y', y', y', y', y', y', y', y', n', n', n', n', n', n', n', n', n', n', n', n', n', n', n', n', n', n', n', n', n', n', n'] rfl rfl (any_of HT_.out (by kernel_rfl)) (fun _ _ _ h => h) (Or.inl ⟨by rfl, ?_⟩) ?_ ?_; rotate_left
                   ·exact qI
                   rotate_left
                   ·exact qP
                   refine pure_ (i := 16) (N := some 118) (v := ?_) (a' := ?_) #[y', y', y', y', y', y', y', y', y', y', y', y', y', y', y', y', y', n', n', n', n', n', n', n', n', n', n', n', n', n', n', n', n', n', n', n', n', n', n'] rfl rfl (any_of HT_.out (by kernel_rfl)) (fun _ _ _ h => h) (Or.inl ⟨by rfl, ?_⟩) ?_ ?_; rotate_left
                   ·exact qI
                   rotate_left
                   ·exact qP
                   refine pure_ (i := 17) (N := some 119) (v := ?_) (a' := ?_) #[y', y', y', y', y', y', y', y', y', y', y', y', y', y', y', y', y', y', n', n', n', n', n', n', n', n', n', n', n', n', n', n', n', n', n', n', n', n', n'] rfl rfl (any_of HT_.out (by kernel_rfl)) (fun _ _ _ h => h) (Or.inl ⟨by rfl, ?_⟩) ?_ ?_; rotate_left
                   ·exact qI
                   rotate_left
                   ·exact qP
                   refine pure_ (i := 18) (N := some 120) (v := ?_) (a' := ?_) #[y', y', y', y', y', y', y', y', y', y', y', y', y', y', y', y', y', y', y', n', n', n', n', n', n', n', n', n', n', n', n', n', n', n', n', n', n', n', n'] rfl rfl (any_of HT_.out (by kernel_rfl)) (fun _ _ _ h => h) (Or.inl ⟨by rfl, ?_⟩) ?_ ?_; rotate_left
                   ·exact qI
                   rotate_left
                   ·exact qP
                   refine pure_ (i := 19) (N := some 121) (v := ?_) (a' := ?_) #[y', y', y', y', y', y', y', y', y', y', y', y', y', y', y', y', y', y', y', y', n', n', n', n', n', n', n', n', n', n', n', n', n', n', n', n', n', n', n'] rfl rfl (any_of HT_.out (by kernel_rfl)) (fun _ _ _ h => h) (Or.inl ⟨by rfl, ?_⟩) ?_ ?_; rotate_left
                   ·exact qI
                   rotate_left
                   ·exact qP
                   refine pure_ (i := 20) (N := some 122) (v := ?_) (a' := ?_) #[y', y', y', y', y', y', y', y', y', y', y', y', y', y', y', y', y', y', y', y', y', n', n', n', n', n', n', n', n', n', n', n', n', n', n', n', n', n', n'] rfl rfl (any_of HT_.out (by kernel_rfl)) (fun _ _ _ h => h) (Or.inl ⟨by rfl, ?_⟩) ?_ ?_; rotate_left
                   ·exact qI
                   rotate_left
                   ·exact qP
                   refine pure_ (i := 22) (N := some 124) (v := ?_) (a' := ?_) #[y', y', y', y', y', y', y', y', y', y', y', y', y', y', y', y', y', y', y', y', y', n', y', n', n', n', n', n', n', n', n', n', n', n', n', n', n', n', n'] rfl rfl (any_of HT_.out (by kernel_rfl)) (fun _ _ _ h => h) (Or.inl ⟨by rfl, ?_⟩) ?_ ?_; rotate_left
                   ·exact qI
                   rotate_left
                   ·exact qP
                   refine take_ (i := 21) (N := some 123) (v := ?_) (a' := ?_) #[y', y', y', y', y', y', y', y', y', y', y', y', y', y', y', y', y', y', y', y', y', y', y', n', n', n', n', n', n', n', n', n', n', n', n', n', n', n', n'] rfl rfl (take_ofW HT_.out HW_.out (by kernel_rfl)) (fun _ _ _ h => h) (Or.inl ⟨by rfl, ?_⟩) hHeld ?_ ?_; rotate_left
                   ·rintro w' ⟨s0, s1, s2, s3, s4, s5, s6, s7, s8, s9, s10⟩; go_simp; with_reducible rfl
                   rotate_left
                   ·exact qP
                   refine take_ (i := 23) (N := some 125) (v := ?_) (a' := ?_) #[y', y', y', y', y', y', y', y', y', y', y', y', y', y', y', y', y', y', y', y', y', y', y', y', n', n', n', n', n', n', n', n', n', n', n', n', n', n', n'] rfl rfl (take_ofW HT_.out HW_.out (by kernel_rfl)) (fun _ _ _ h => h) (Or.inl ⟨by rfl, ?_⟩) hHeld ?_ ?_; rotate_left
                   ·rintro w' ⟨s0, s1, s2, s3, s4, s5, s6, s7, s8, s9, s10⟩; go_simp; with_reducible rfl
                   rotate_left
                   ·exact qP
                   refine pure_ (i := 24) (N := some 126) (v := ?_) (a' := ?_) #[y', y', y', y', y', y', y', y', y', y', y', y', y', y', y', y', y', y', y', y', y', y', y', y', y', n', n', n', n', n', n', n', n', n', n', n', n', n', n'] rfl rfl (any_of HT_.out (by kernel_rfl)) (fun _ _ _ h => h) (Or.inl ⟨by rfl, ?_⟩) ?_ ?_; rotate_left
                   ·exact qI
                   rotate_left
                   ·exact qP
                   refine pure_ (i := 25) (N := some 127) (v := ?_) (a' := ?_) #[y', y', y', y', y', y', y', y', y', y', y', y', y', y', y', y', y', y', y', y', y', y', y', y', y', y', n', n', n', n', n', n', n', n', n', n', n', n', n'] rfl rfl (any_of HT_.out (by kernel_rfl)) (fun _ _ _ h => h) (Or.inl ⟨by rfl, ?_⟩) ?_ ?_; rotate_left
                   ·exact qI
                   rotate_left
                   ·exact qP
                   refine take_ (i := 26) (N := some 128) (v := ?_) (a' := ?_) #[y', y', y', y', y', y', y', y', y', y', y', y', y', y', y', y', y', y', y', y', y', y', y', y', y', y', y', n', n', n', n', n', n', n', n', n', n', n', n'] rfl rfl (take_ofW HT_.out HW_.out (by kernel_rfl)) (fun _ _ _ h => h) (Or.inl ⟨by rfl, ?_⟩) hHeld ?_ ?_; rotate_left
                   ·rintro w' ⟨s0, s1, s2, s3, s4, s5, s6, s7, s8, s9, s10⟩; go_simp; with_reducible rfl
                   rotate_left
                   ·exact qP
                   refine pure_ (i := 27) (N := some 129) (v := ?_) (a' := ?_) #[y', y', y', y', y', y', y', y', y', y', y', y', y', y', y', y', y', y', y', y', y', y', y', y', y', y', y', y', n', n', n', n', n', n', n', n', n', n', n'] rfl rfl (any_of HT_.out (by kernel_rfl)) (fun _ _ _ h => h) (Or.inl ⟨by rfl, ?_⟩) ?_ ?_; rotate_left
                   ·exact qI
                   rotate_left
                   ·exact qP
                   refine pure_ (i := 28) (N := some 130) (v := ?_) (a' := ?_) #[y', y', y', y', y', y', y', y', y', y', y', y', y', y', y', y', y', y', y', y', y', y', y', y', y', y', y', y', y', n', n', n', n', n', n', n', n', n', n'] rfl rfl (any_of HT_.out (by kernel_rfl)) (fun _ _ _ h => h) (Or.inl ⟨by rfl, ?_⟩) ?_ ?_; rotate_left
                   ·exact qI
                   rotate_left
                   ·exact qP
                   refine pure_ (i := 29) (N := some 131) (v := ?_) (a' := ?_) #[y', y', y', y', y', y', y', y', y', y', y', y', y', y', y', y', y', y', y', y', y', y', y', y', y', y', y', y', y', y', n', n', n', n', n', n', n', n', n'] rfl rfl (any_of HT_.out (by kernel_rfl)) (fun _ _ _ h => h) (Or.inl ⟨by rfl, ?_⟩) ?_ ?_; rotate_left
                   ·exact qI
                   rotate_left
                   ·exact qP
                   refine pure_ (i := 30) (N := some 132) (v := ?_) (a' := ?_) #[y', y', y', y', y', y', y', y', y', y', y', y', y', y', y', y', y', y', y', y', y', y', y', y', y', y', y', y', y', y', y', n', n', n', n', n', n', n', n'] rfl rfl (any_of HT_.out (by kernel_rfl)) (fun _ _ _ h => h) (Or.inl ⟨by rfl, ?_⟩) ?_ ?_; rotate_left
                   ·exact qI
                   rotate_left
                   ·exact qP
                   refine pure_ (i := 32) (N := some 134) (v := ?_) (a' := ?_) #[y', y', y', y', y', y', y', y', y', y', y', y', y', y', y', y', y', y', y', y', y', y', y', y', y', y', y', y', y', y', y', n', y', n', n', n', n', n', n'] rfl rfl (any_of HT_.out (by kernel_rfl)) (fun _ _ _ h => h) (Or.inl ⟨by rfl, ?_⟩) ?_ ?_; rotate_left
                   ·exact qI
                   rotate_left
                   ·exact qP
                   refine take_ (i := 31) (N := some 133) (v := ?_) (a' := ?_) #[y', y', y', y', y', y', y', y', y', y', y', y', y', y', y', y', y', y', y', y', y', y', y', y', y', y', y', y', y', y', y', y', y', n', n', n', n', n', n'] rfl rfl (take_ofW HT_.out HW_.out (by kernel_rfl)) (fun _ _ _ h => h) (Or.inl ⟨by rfl, ?_⟩) hHeld ?_ ?_; rotate_left
                   ·rintro w' ⟨s0, s1, s2, s3, s4, s5, s6, s7, s8, s9, s10⟩; go_simp; with_reducible rfl
                   rotate_left
                   ·exact qP
                   refine take_ (i := 33) (N := some 135) (v := ?_) (a' := ?_) #[y', y', y', y', y', y', y', y', y', y', y', y', y', y', y', y', y', y', y', y', y', y', y', y', y', y', y', y', y', y', y', y', y', y', n', n', n', n', n'] rfl rfl (take_ofW HT_.out HW_.out (by kernel_rfl)) (fun _ _ _ h => h) (Or.inl ⟨by rfl, ?_⟩) hHeld ?_ ?_; rotate_left
                   ·rintro w' ⟨s0, s1, s2, s3, s4, s5, s6, s7, s8, s9, s10⟩; go_simp; with_reducible rfl
                   rotate_left
                   ·exact qP
                   refine pure_ (i := 34) (N := some 136) (v := ?_) (a' := ?_) #[y', y', y', y', y', y', y', y', y', y', y', y', y', y', y', y', y', y', y', y', y', y', y', y', y', y', y', y', y', y', y', y', y', y', y', n', n', n', n'] rfl rfl (any_of HT_.out (by kernel_rfl)) (fun _ _ _ h => h) (Or.inl ⟨by rfl, ?_⟩) ?_ ?_; rotate_left
                   ·exact qI
                   rotate_left
                   ·exact qP
                   refine pure_ (i := 35) (N := some 137) (v := ?_) (a' := ?_) #[y', y', y', y', y', y', y', y', y', y', y', y', y', y', y', y', y', y', y', y', y', y', y', y', y', y', y', y', y', y', y', y', y', y', y', y', n', n', n'] rfl rfl (any_of HT_.out (by kernel_rfl)) (fun _ _ _ h => h) (Or.inl ⟨by rfl, ?_⟩) ?_ ?_; rotate_left
                   ·exact qI
                   rotate_left
                   ·exact qP
                   refine take_ (i := 36) (N := some 138) (v := ?_) (a' := ?_) #[y', y', y', y', y', y', y', y', y', y', y', y', y', y', y', y', y', y', y', y', y', y', y', y', y', y', y', y', y', y', y', y', y', y', y', y', y', n', n'] rfl rfl (take_ofW HT_.out HW_.out (by kernel_rfl)) (fun _ _ _ h => h) (Or.inl ⟨by rfl, ?_⟩) hHeld ?_ ?_; rotate_left
                   ·rintro w' ⟨s0, s1, s2, s3, s4, s5, s6, s7, s8, s9, s10⟩; go_simp; with_reducible rfl
                   rotate_left
                   ·exact qP
                   refine pure_ (i := 37) (N := some 139) (v := ?_) (a' := ?_) #[y', y', y', y', y', y', y', y', y', y', y', y', y', y', y', y', y', y', y', y', y', y', y', y', y', y', y', y', y', y', y', y', y', y', y', y', y', y', n'] rfl rfl (any_of HT_.out (by kernel_rfl)) (fun _ _ _ h => h) (Or.inl ⟨by rfl, ?_⟩) ?_ ?_; rotate_left
                   ·exact qI
                   rotate_left
                   ·exact qP
                   refine pure_ (i := 38) (N := some 140) (v := ?_) (a' := ?_) #[y', y', y', y', y', y', y', y', y', y', y', y', y', y', y', y', y', y', y', y', y', y', y', y', y', y', y', y', y', y', y', y', y', y', y', y', y', y', y'] rfl rfl (any_of HT_.out (by kernel_rfl)) (fun _ _ _ h => h) (Or.inl ⟨by rfl, ?_⟩) ?_ ?_; rotate_left
                   ·exact qI
                   rotate_left
                   ·exact qP
                   refine done_ (done_of HT_.out (by kernel_rfl)) ?_; try go_wp2
                   go_meet
                   case rel => exact ⟨_, ((rd_T90 l0_0 ((rd_T104 l0_1 x8_3).f1)).f2), qS, H', ⟨by have := HJ1.out; have := HK2.out; have := HK3.out; first | omega | exact Nat.le_refl _⟩, ⟨qB BK0.out⟩, ⟨qB BK111.out⟩, ⟨qK1 HB.out GE111.out⟩⟩
                  ·rw [if_neg c51] at H; exact absurd H (by simp)
                 ·rw [if_neg c50] at H; exact absurd H (by simp)
                ·replace c49 := Bool.eq_false_iff.mpr c49; subst c49; have H1 : (spec_l09Ok.j6 k3 (l0_0.length : Int) x4_2 x8_3 false l0_0 l0_1 ((rd_T104 l0_1 x8_3).f0) ((rd_T104 l0_1 x8_3).f1) ((rd_T104 l0_1 x8_3).f2)) = some r := by rw [if_neg (show ¬ (false = true) by decide)] at H; exact H
                 clear H; have H := H1; clear H1; have H' := A' H; clear H; try go_wp2
                 have n0_ : Aside0 ((((w39.setCell ⟨gb111, 0, none⟩ (.int .i64 ((rd_T104 l0_1 x8_3).f0))).setCell ⟨gb111, 1, none⟩ (.int .i64 ((rd_T104 l0_1 x8_3).f1))).setCell ⟨gb111, 2, none⟩ (.bool ((rd_T104 l0_1 x8_3).f2))).heap[gp0]? = some (.cells #[.slice A0_0 l0_0.length c0_0, .slice (some ad110) l0_1.length c0_1] 33 (0, 0))) := ⟨qG3 BK0.out NB0_111.out NB0_111.out NB0_111.out⟩
                 have n1_ : Aside0 ((((w39.setCell ⟨gb111, 0, none⟩ (.int .i64 ((rd_T104 l0_1 x8_3).f0))).setCell ⟨gb111, 1, none⟩ (.int .i64 ((rd_T104 l0_1 x8_3).f1))).setCell ⟨gb111, 2, none⟩ (.bool ((rd_T104 l0_1 x8_3).f2))).heap[gb111]? = some (.cells #[.int .i64 ((rd_T104 l0_1 x8_3).f0), .int .i64 ((rd_T104 l0_1 x8_3).f1), .bool ((rd_T104 l0_1 x8_3).f2)] 104 (0, 0))) := ⟨by (with_reducible repeat (first | refine G' ?_ _ | refine I' ?_ | refine hA' ?_ _)); refine blk_put (cs := #[.int .i64 ((rd_T104 l0_1 x8_3).f0), .int .i64 ((rd_T104 l0_1 x8_3).f1), .bool false]) ?_ 2 _ rfl; (with_reducible repeat (first | refine G' ?_ _ | refine I' ?_ | refine hA' ?_ _)); refine blk_put (cs := #[.int .i64 ((rd_T104 l0_1 x8_3).f0), .int .i64 0, .bool false]) ?_ 1 _ rfl; (with_reducible repeat (first | refine G' ?_ _ | refine I' ?_ | refine hA' ?_ _)); refine blk_put (cs := #[.int .i64 0, .int .i64 0, .bool false]) ?_ 0 _ rfl; (with_reducible repeat (first | refine G' ?_ _ | refine I' ?_ | refine hA' ?_ _)); exact BK111.out⟩
                 have n2_ : Aside0 (Below w.heap.size w (((w39.setCell ⟨gb111, 0, none⟩ (.int .i64 ((rd_T104 l0_1 x8_3).f0))).setCell ⟨gb111, 1, none⟩ (.int .i64 ((rd_T104 l0_1 x8_3).f1))).setCell ⟨gb111, 2, none⟩ (.bool ((rd_T104 l0_1 x8_3).f2)))) := ⟨qK1 HB.out GE111.out⟩
                 (try clear BK0); (try clear BK111); (try clear HB)
                 generalize (((w39.setCell ⟨gb111, 0, none⟩ (.int .i64 ((rd_T104 l0_1 x8_3).f0))).setCell ⟨gb111, 1, none⟩ (.int .i64 ((rd_T104 l0_1 x8_3).f1))).setCell ⟨gb111, 2, none⟩ (.bool ((rd_T104 l0_1 x8_3).f2))) = w54 at n0_ n1_ n2_ ⊢
                 have BK0 := n0_; have BK111 := n1_; have HB := n2_; clear n0_ n1_ n2_; have n0_ := A' (I' BK0.out); have n1_ := A' (I' BK111.out); have n2_ := A' (J' HB.out); clear BK0; clear BK111; clear HB; have BK0 := n0_; have BK111 := n1_; have HB := n2_; clear n0_ n1_ n2_; have p114 : 0 ≤ (((rd_T104 l0_1 x8_3).f0) : Int) := oD' qA; have q114 : ((rd_T104 l0_1 x8_3).f0) < (l0_0.length : Int) := oD' qA; obtain ⟨ad114, e114, hx114_0, hx114_1, hx114_2⟩ := at_T90 HR0_0.out ((rd_T104 l0_1 x8_3).f0) p114 q114; have hw114_2 := hx114_2; have hw114_1 := hx114_1; have hw114_0 := hx114_0; (try rw [← Nbq48.out] at hx114_2); (try rw [← Nbq48.out] at hw114_2)
                 cases e114
                 try replace hx114_0 := qC HB.out hx114_0
                 try replace hx114_1 := qC HB.out hx114_1
                 try replace hx114_2 := qC HB.out hx114_2
                 replace p114 := eq_true p114; replace q114 := eq_true q114; refine start_ (n := 39) (S := fun w' => w'.cell? ⟨gb111, 0, none⟩ = some (.int .i64 ((rd_T104 l0_1 x8_3).f0)) ∧ w'.cell? ⟨gb111, 1, none⟩ = some (.int .i64 ((rd_T104 l0_1 x8_3).f1)) ∧ w'.cell? ⟨gb111, 2, none⟩ = some (.bool ((rd_T104 l0_1 x8_3).f2)) ∧ w'.cell? ⟨gp0, 0, none⟩ = some (.slice (some ad114) l0_0.length c0_0) ∧ w'.cell? ⟨gp0, 1, none⟩ = some (.slice (some ad110) l0_1.length c0_1) ∧ w'.cell? (ad114.add ((((rd_T104 l0_1 x8_3).f0)).toNat * 3)) = some (.int .i64 ((rd_T90 l0_0 ((rd_T104 l0_1 x8_3).f0)).f0)) ∧ w'.cell? ⟨(ad114.add ((((rd_T104 l0_1 x8_3).f0)).toNat * 3)).block, (ad114.add ((((rd_T104 l0_1 x8_3).f0)).toNat * 3)).off + 1, none⟩ = some (.int .i64 ((rd_T90 l0_0 ((rd_T104 l0_1 x8_3).f0)).f1)) ∧ w'.cell? ⟨(ad114.add ((((rd_T104 l0_1 x8_3).f0)).toNat * 3)).block, (ad114.add ((((rd_T104 l0_1 x8_3).f0)).toNat * 3)).off + 2, none⟩ = some (.bool false)) (ds := []) #[n', n', n', n', n', n', n', n', n', n', n', n', n', n', n', n', n', n', n', n', n', n', n', n', n', n', n', n', n', n', n', n', n', n', n', n', n', n', n'] (by kernel_rfl) rfl rfl ⟨(N' BK111.out 0).trans rfl, (N' BK111.out 1).trans rfl, (N' BK111.out 2).trans rfl, (N' BK0.out 0).trans rfl, (N' BK0.out 1).trans rfl, (qC HB.out hw114_0 :), (qC HB.out hw114_1 :), (qC HB.out hw114_2 :)⟩ (fun hHeld => ?_); refine with_tabW spec_l09Ok.tab22 spec_l09Ok.bits22 (fun HT_ HW_ => ?_)
                 generalize w54.drew = w55 at BK0 BK111 HB hx114_0 hx114_1 hx114_2 hHeld ⊢
                 refine pure_ (i := 0) (N := some 102) (v := ?_) (a' := ?_) #[y', n', n', n', n', n', n', n', n', n', n', n', n', n', n', n', n', n', n', n', n', n', n', n', n', n', n', n', n', n', n', n', n', n', n', n', n', n', n'] rfl rfl (any_of HT_.out (by kernel_rfl)) (fun _ _ _ h => h) (Or.inl ⟨by rfl, ?_⟩) ?_ ?_; rotate_left
                 ·exact qI
                 rotate_left
                 ·exact qP
                 refine pure_ (i := 2) (N := some 104) (v := ?_) (a' := ?_) #[y', n', y', n', n', n', n', n', n', n', n', n', n', n', n', n', n', n', n', n', n', n', n', n', n', n', n', n', n', n', n', n', n', n', n', n', n', n', n'] rfl rfl (any_of HT_.out (by kernel_rfl)) (fun _ _ _ h => h) (Or.inl ⟨by rfl, ?_⟩) ?_ ?_; rotate_left
                 ·exact qI
                 rotate_left
                 ·exact qP
                 refine pure_ (i := 3) (N := some 105) (v := ?_) (a' := ?_) #[y', n', y', y', n', n', n', n', n', n', n', n', n', n', n', n', n', n', n', n', n', n', n', n', n', n', n', n', n', n', n', n', n', n', n', n', n', n', n'] rfl rfl (any_of HT_.out (by kernel_rfl)) (fun _ _ _ h => h) (Or.inl ⟨by rfl, ?_⟩) ?_ ?_; rotate_left
                 ·exact qI
                 rotate_left
                 ·exact qP
                 refine take_ (i := 1) (N := some 103) (v := ?_) (a' := ?_) #[y', y', y', y', n', n', n', n', n', n', n', n', n', n', n', n', n', n', n', n', n', n', n', n', n', n', n', n', n', n', n', n', n', n', n', n', n', n', n'] rfl rfl (take_ofW HT_.out HW_.out (by kernel_rfl)) (fun _ _ _ h => h) (Or.inl ⟨by rfl, ?_⟩) hHeld ?_ ?_; rotate_left
                 ·rintro w' ⟨s0, s1, s2, s3, s4, s5, s6, s7⟩; go_simp; with_reducible rfl
                 rotate_left
                 ·exact qP
                 refine one_ (i := 4) (N := some 106) #[y', y', y', y', y', n', n', n', n', n', n', n', n', n', n', n', n', n', n', n', n', n', n', n', n', n', n', n', n', n', n', n', n', n', n', n', n', n', n'] rfl rfl (one_of HT_.out (by kernel_rfl)) (by decide) (fun K hK => ?_); refine goes_ Try.func82 (by kernel_rfl) rfl #[.int .i64 ((rd_T104 l0_1 x8_3).f0), .int .i64 0, .int .i64 (wrap64 ((l0_0.length : Int) - 1))] (by rfl) rfl rfl (by (try simp only [List.map_toArray, List.map_cons, List.map_nil]); first | done | rfl | (simp only [List.length_drop, List.length_take]; rfl)) ?_
                 with_reducible refine (spec_l00In.calls ((rd_T104 l0_1 x8_3).f0) 0 (wrap64 ((l0_0.length : Int) - 1)) true _ A42.out).mono ?_
                 rintro e w' ⟨rfl, ⟨nd, rfl⟩⟩; refine ⟨_, rfl, ?_⟩; refine hK.out _ _ ⟨(N' BK111.out 0).trans rfl, (N' BK111.out 1).trans rfl, (N' BK111.out 2).trans rfl, (N' BK0.out 0).trans rfl, (N' BK0.out 1).trans rfl, (qC HB.out hw114_0 :), (qC HB.out hw114_1 :), (qC HB.out hw114_2 :)⟩ (fun hHeld => ?_); clear hK K; refine norm_ (a' := ?_) ?_ ?_; rotate_left
                 ·show Act.put _ (some 106) _ = _
                  exact qP
                 refine pure_ (i := 5) (N := some 107) (v := ?_) (a' := ?_) #[y', y', y', y', y', y', n', n', n', n', n', n', n', n', n', n', n', n', n', n', n', n', n', n', n', n', n', n', n', n', n', n', n', n', n', n', n', n', n'] rfl rfl (any_of HT_.out (by kernel_rfl)) (fun _ _ _ h => h) (Or.inl ⟨by rfl, ?_⟩) ?_ ?_; rotate_left
                 ·exact qI
                 rotate_left
                 ·exact qP
                 refine pure_ (i := 6) (N := some 108) (v := ?_) (a' := ?_) #[y', y', y', y', y', y', y', n', n', n', n', n', n', n', n', n', n', n', n', n', n', n', n', n', n', n', n', n', n', n', n', n', n', n', n', n', n', n', n'] rfl rfl (any_of HT_.out (by kernel_rfl)) (fun _ _ _ h => h) (Or.inl ⟨by rfl, ?_⟩) ?_ ?_; rotate_left
                 ·exact qI
                 rotate_left
                 ·exact qP
                 refine pure_ (i := 7) (N := some 109) (v := ?_) (a' := ?_) #[y', y', y', y', y', y', y', y', n', n', n', n', n', n', n', n', n', n', n', n', n', n', n', n', n', n', n', n', n', n', n', n', n', n', n', n', n', n', n'] rfl rfl (any_of HT_.out (by kernel_rfl)) (fun _ _ _ h => h) (Or.inl ⟨by rfl, ?_⟩) ?_ ?_; rotate_left
                 ·exact qI
                 rotate_left
                 ·exact qP
                 refine pure_ (i := 9) (N := some 111) (v := ?_) (a' := ?_) #[y', y', y', y', y', y', y', y', n', y', n', n', n', n', n', n', n', n', n', n', n', n', n', n', n', n', n', n', n', n', n', n', n', n', n', n', n', n', n'] rfl rfl (any_of HT_.out (by kernel_rfl)) (fun _ _ _ h => h) (Or.inl ⟨by rfl, ?_⟩) ?_ ?_; rotate_left
                 ·exact qI
                 rotate_left
                 ·exact qP
                 refine pure_ (i := 12) (N := some 114) (v := ?_) (a' := ?_) #[y', y', y', y', y', y', y', y', n', y', n', n', y', n', n', n', n', n', n', n', n', n', n', n', n', n', n', n', n', n', n', n', n', n', n', n', n', n', n'] rfl rfl (any_of HT_.out (by kernel_rfl)) (fun _ _ _ h => h) (Or.inl ⟨by rfl, ?_⟩) ?_ ?_; rotate_left
                 ·exact qI
                 rotate_left
                 ·exact qP
                 refine pure_ (i := 13) (N := some 115) (v := ?_) (a' := ?_) #[y', y', y', y', y', y', y', y', n', y', n', n', y', y', n', n', n', n', n', n', n', n', n', n', n', n', n', n', n', n', n', n', n', n', n', n', n', n', n'] rfl rfl (any_of HT_.out (by kernel_rfl)) (fun _ _ _ h => h) (Or.inl ⟨by rfl, ?_⟩) ?_ ?_; rotate_left
                 ·exact qI
                 rotate_left
                 ·exact qP
                 refine take_ (i := 8) (N := some 110) (v := ?_) (a' := ?_) #[y', y', y', y', y', y', y', y', y', y', n', n', y', y', n', n', n', n', n', n', n', n', n', n', n', n', n', n', n', n', n', n', n', n', n', n', n', n', n'] rfl rfl (take_ofW HT_.out HW_.out (by kernel_rfl)) (fun _ _ _ h => h) (Or.inl ⟨by rfl, ?_⟩) hHeld ?_ ?_; rotate_left
                 ·rintro w' ⟨s0, s1, s2, s3, s4, s5, s6, s7⟩; go_simp; with_reducible rfl
                 rotate_left
                 ·exact qP
                 refine take_ (i := 10) (N := some 112) (v := ?_) (a' := ?_) #[y', y', y', y', y', y', y', y', y', y', y', n', y', y', n', n', n', n', n', n', n', n', n', n', n', n', n', n', n', n', n', n', n', n', n', n', n', n', n'] rfl rfl (take_ofW HT_.out HW_.out (by kernel_rfl)) (fun _ _ _ h => h) (Or.inl ⟨by rfl, ?_⟩) hHeld ?_ ?_; rotate_left
                 ·rintro w' ⟨s0, s1, s2, s3, s4, s5, s6, s7⟩; go_simp; with_reducible rfl
                 rotate_left
                 ·exact qP
                 refine pure_ (i := 11) (N := some 113) (v := ?_) (a' := ?_) #[y', y', y', y', y', y', y', y', y', y', y', y', y', y', n', n', n', n', n', n', n', n', n', n', n', n', n', n', n', n', n', n', n', n', n', n', n', n', n'] rfl rfl (any_of HT_.out (by kernel_rfl)) (fun _ _ _ h => h) (Or.inl ⟨by rfl, ?_⟩) ?_ ?_; rotate_left
                 ·exact qI
                 rotate_left
                 ·exact qP
                 refine one_ (i := 14) (N := some 116) #[y', y', y', y', y', y', y', y', y', y', y', y', y', y', y', n', n', n', n', n', n', n', n', n', n', n', n', n', n', n', n', n', n', n', n', n', n', n', n'] rfl rfl (one_of HT_.out (by kernel_rfl)) (by decide) (fun K hK => ?_); refine goes_ Try.func82 (by kernel_rfl) rfl #[.int .i64 ((rd_T104 l0_1 x8_3).f1), .int .i64 (wrap64 (((rd_T104 l0_1 x8_3).f0) + 1)), .int .i64 (wrap64 ((l0_0.length : Int) - 1))] (by rfl) rfl rfl (by (try simp only [List.map_toArray, List.map_cons, List.map_nil]); first | done | rfl | (simp only [List.length_drop, List.length_take]; rfl)) ?_
                 with_reducible refine (spec_l00In.calls ((rd_T104 l0_1 x8_3).f1) (wrap64 (((rd_T104 l0_1 x8_3).f0) + 1)) (wrap64 ((l0_0.length : Int) - 1)) true _ A44.out).mono ?_
                 rintro e w' ⟨rfl, ⟨nd, rfl⟩⟩; refine ⟨_, rfl, ?_⟩; refine hK.out _ _ ⟨(N' BK111.out 0).trans rfl, (N' BK111.out 1).trans rfl, (N' BK111.out 2).trans rfl, (N' BK0.out 0).trans rfl, (N' BK0.out 1).trans rfl, (qC HB.out hw114_0 :), (qC HB.out hw114_1 :), (qC HB.out hw114_2 :)⟩ (fun hHeld => ?_); clear hK K; refine norm_ (a' := ?_) ?_ ?_; rotate_left
                 ·show Act.put _ (some 116) _ = _
                  exact qP
                 refine pure_ (i := 15) (N := some 117) (v := ?_) (a' := ?_) #[y', y', y', y', y', y', y', y', y', y', y', y', y', y', y', y', n', n', n', n', n', n', n', n', n', n', n', n', n', n', n', n', n', n', n', n', n', n', n'] rfl rfl (any_of HT_.out (by kernel_rfl)) (fun _ _ _ h => h) (Or.inl ⟨by rfl, ?_⟩) ?_ ?_; rotate_left
                 ·exact qI
                 rotate_left
                 ·exact qP
                 refine pure_ (i := 16) (N := some 118) (v := ?_) (a' := ?_) #[y', y', y', y', y', y', y', y', y', y', y', y', y', y', y', y', y', n', n', n', n', n', n', n', n', n', n', n', n', n', n', n', n', n', n', n', n', n', n'] rfl rfl (any_of HT_.out (by kernel_rfl)) (fun _ _ _ h => h) (Or.inl ⟨by rfl, ?_⟩) ?_ ?_; rotate_left
                 ·exact qI
                 rotate_left
                 ·exact qP
                 refine pure_ (i := 17) (N := some 119) (v := ?_) (a' := ?_) #[y', y', y', y', y', y', y', y', y', y', y', y', y', y', y', y', y', y', n', n', n', n', n', n', n', n', n', n', n', n', n', n', n', n', n', n', n', n', n'] rfl rfl (any_of HT_.out (by kernel_rfl)) (fun _ _ _ h => h) (Or.inl ⟨by rfl, ?_⟩) ?_ ?_; rotate_left
                 ·exact qI
                 rotate_left
                 ·exact qP
                 refine pure_ (i := 18) (N := some 120) (v := ?_) (a' := ?_) #[y', y', y', y', y', y', y', y', y', y', y', y', y', y', y', y', y', y', y', n', n', n', n', n', n', n', n', n', n', n', n', n', n', n', n', n', n', n', n'] rfl rfl (any_of HT_.out (by kernel_rfl)) (fun _ _ _ h => h) (Or.inl ⟨by rfl, ?_⟩) ?_ ?_; rotate_left
                 ·exact qI
                 rotate_left
                 ·exact qP
                 refine pure_ (i := 19) (N := some 121) (v := ?_) (a' := ?_) #[y', y', y', y', y', y', y', y', y', y', y', y', y', y', y', y', y', y', y', y', n', n', n', n', n', n', n', n', n', n', n', n', n', n', n', n', n', n', n'] rfl rfl (any_of HT_.out (by kernel_rfl)) (fun _ _ _ h => h) (Or.inl ⟨by rfl, ?_⟩) ?_ ?_; rotate_left
                 ·exact qI
                 rotate_left
                 ·exact qP
                 refine pure_ (i := 20) (N := some 122) (v := ?_) (a' := ?_) #[y', y', y', y', y', y', y', y', y', y', y', y', y', y', y', y', y', y', y', y', y', n', n', n', n', n', n', n', n', n', n', n', n', n', n', n', n', n', n'] rfl rfl (any_of HT_.out (by kernel_rfl)) (fun _ _ _ h => h) (Or.inl ⟨by rfl, ?_⟩) ?_ ?_; rotate_left
                 ·exact qI
                 rotate_left
                 ·exact qP
                 refine pure_ (i := 22) (N := some 124) (v := ?_) (a' := ?_) #[y', y', y', y', y', y', y', y', y', y', y', y', y', y', y', y', y', y', y', y', y', n', y', n', n', n', n', n', n', n', n', n', n', n', n', n', n', n', n'] rfl rfl (any_of HT_.out (by kernel_rfl)) (fun _ _ _ h => h) (Or.inl ⟨by rfl, ?_⟩) ?_ ?_; rotate_left
                 ·exact qI
                 rotate_left
                 ·exact qP
                 refine take_ (i := 21) (N := some 123) (v := ?_) (a' := ?_) #[y', y', y', y', y', y', y', y', y', y', y', y', y', y', y', y', y', y', y', y', y', y', y', n', n', n', n', n', n', n', n', n', n', n', n', n', n', n', n'] rfl rfl (take_ofW HT_.out HW_.out (by kernel_rfl)) (fun _ _ _ h => h) (Or.inl ⟨by rfl, ?_⟩) hHeld ?_ ?_; rotate_left
                 ·rintro w' ⟨s0, s1, s2, s3, s4, s5, s6, s7⟩; go_simp; with_reducible rfl
                 rotate_left
                 ·exact qP
                 refine take_ (i := 23) (N := some 125) (v := ?_) (a' := ?_) #[y', y', y', y', y', y', y', y', y', y', y', y', y', y', y', y', y', y', y', y', y', y', y', y', n', n', n', n', n', n', n', n', n', n', n', n', n', n', n'] rfl rfl (take_ofW HT_.out HW_.out (by kernel_rfl)) (fun _ _ _ h => h) (Or.inl ⟨by rfl, ?_⟩) hHeld ?_ ?_; rotate_left
                 ·rintro w' ⟨s0, s1, s2, s3, s4, s5, s6, s7⟩; go_simp; with_reducible rfl
                 rotate_left
                 ·exact qP
                 refine pure_ (i := 24) (N := some 126) (v := ?_) (a' := ?_) #[y', y', y', y', y', y', y', y', y', y', y', y', y', y', y', y', y', y', y', y', y', y', y', y', y', n', n', n', n', n', n', n', n', n', n', n', n', n', n'] rfl rfl (any_of HT_.out (by kernel_rfl)) (fun _ _ _ h => h) (Or.inl ⟨by rfl, ?_⟩) ?_ ?_; rotate_left
                 ·exact qI
                 rotate_left
                 ·exact qP
                 refine pure_ (i := 25) (N := some 127) (v := ?_) (a' := ?_) #[y', y', y', y', y', y', y', y', y', y', y', y', y', y', y', y', y', y', y', y', y', y', y', y', y', y', n', n', n', n', n', n', n', n', n', n', n', n', n'] rfl rfl (any_of HT_.out (by kernel_rfl)) (fun _ _ _ h => h) (Or.inl ⟨by rfl, ?_⟩) ?_ ?_; rotate_left
                 ·exact qI
                 rotate_left
                 ·exact qP
                 refine take_ (i := 26) (N := some 128) (v := ?_) (a' := ?_) #[y', y', y', y', y', y', y', y', y', y', y', y', y', y', y', y', y', y', y', y', y', y', y', y', y', y', y', n', n', n', n', n', n', n', n', n', n', n', n'] rfl rfl (take_ofW HT_.out HW_.out (by kernel_rfl)) (fun _ _ _ h => h) (Or.inl ⟨by rfl, ?_⟩) hHeld ?_ ?_; rotate_left
                 ·rintro w' ⟨s0, s1, s2, s3, s4, s5, s6, s7⟩; go_simp; with_reducible rfl
                 rotate_left
                 ·exact qP
                 refine pure_ (i := 27) (N := some 129) (v := ?_) (a' := ?_) #[y', y', y', y', y', y', y', y', y', y', y', y', y', y', y', y', y', y', y', y', y', y', y', y', y', y', y', y', n', n', n', n', n', n', n', n', n', n', n'] rfl rfl (any_of HT_.out (by kernel_rfl)) (fun _ _ _ h => h) (Or.inl ⟨by rfl, ?_⟩) ?_ ?_; rotate_left
                 ·exact qI
                 rotate_left
                 ·exact qP
                 refine pure_ (i := 28) (N := some 130) (v := undef) (a' := ?_) #[y', y', y', y', y', y', y', y', y', y', y', y', y', y', y', y', y', y', y', y', y', y', y', y', y', y', y', y', y', n', n', n', n', n', n', n', n', n', n'] rfl rfl (any_of HT_.out (by kernel_rfl)) (fun _ _ _ h => h) (Or.inr ⟨by rfl, rfl⟩) ?_ ?_; rotate_left
                 ·exact qP
                 refine pure_ (i := 29) (N := some 131) (v := undef) (a' := ?_) #[y', y', y', y', y', y', y', y', y', y', y', y', y', y', y', y', y', y', y', y', y', y', y', y', y', y', y', y', y', y', n', n', n', n', n', n', n', n', n'] rfl rfl (any_of HT_.out (by kernel_rfl)) (fun _ _ _ h => h) (Or.inr ⟨by rfl, rfl⟩) ?_ ?_; rotate_left
                 ·exact qP
                 refine pure_ (i := 30) (N := some 132) (v := undef) (a' := ?_) #[y', y', y', y', y', y', y', y', y', y', y', y', y', y', y', y', y', y', y', y', y', y', y', y', y', y', y', y', y', y', y', n', n', n', n', n', n', n', n'] rfl rfl (any_of HT_.out (by kernel_rfl)) (fun _ _ _ h => h) (Or.inr ⟨by rfl, rfl⟩) ?_ ?_; rotate_left
                 ·exact qP
                 refine pure_ (i := 31) (N := some 133) (v := undef) (a' := ?_) #[y', y', y', y', y', y', y', y', y', y', y', y', y', y', y', y', y', y', y', y', y', y', y', y', y', y', y', y', y', y', y', y', n', n', n', n', n', n', n'] rfl rfl (any_of HT_.out (by kernel_rfl)) (fun _ _ _ h => h) (Or.inr ⟨by rfl, rfl⟩) ?_ ?_; rotate_left
                 ·exact qP
                 refine pure_ (i := 32) (N := some 134) (v := undef) (a' := ?_) #[y', y', y', y', y', y', y', y', y', y', y', y', y', y', y', y', y', y', y', y', y', y', y', y', y', y', y', y', y', y', y', y', y', n', n', n', n', n', n'] rfl rfl (any_of HT_.out (by kernel_rfl)) (fun _ _ _ h => h) (Or.inr ⟨by rfl, rfl⟩) ?_ ?_; rotate_left
                 ·exact qP
                 refine pure_ (i := 33) (N := some 135) (v := undef) (a' := ?_) #[y', y', y', y', y', y', y', y', y', y', y', y', y', y', y', y', y', y', y', y', y', y', y', y', y', y', y', y', y', y', y', y', y', y', n', n', n', n', n'] rfl rfl (any_of HT_.out (by kernel_rfl)) (fun _ _ _ h => h) (Or.inr ⟨by rfl, rfl⟩) ?_ ?_; rotate_left
                 ·exact qP
                 refine pure_ (i := 34) (N := some 136) (v := undef) (a' := ?_) #[y', y', y', y', y', y', y', y', y', y', y', y', y', y', y', y', y', y', y', y', y', y', y', y', y', y', y', y', y', y', y', y', y', y', y', n', n', n', n'] rfl rfl (any_of HT_.out (by kernel_rfl)) (fun _ _ _ h => h) (Or.inr ⟨by rfl, rfl⟩) ?_ ?_; rotate_left
                 ·exact qP
                 refine pure_ (i := 35) (N := some 137) (v := undef) (a' := ?_) #[y', y', y', y', y', y', y', y', y', y', y', y', y', y', y', y', y', y', y', y', y', y', y', y', y', y', y', y', y', y', y', y', y', y', y', y', n', n', n'] rfl rfl (any_of HT_.out (by kernel_rfl)) (fun _ _ _ h => h) (Or.inr ⟨by rfl, rfl⟩) ?_ ?_; rotate_left
                 ·exact qP
                 refine pure_ (i := 36) (N := some 138) (v := undef) (a' := ?_) #[y', y', y', y', y', y', y', y', y', y', y', y', y', y', y', y', y', y', y', y', y', y', y', y', y', y', y', y', y', y', y', y', y', y', y', y', y', n', n'] rfl rfl (any_of HT_.out (by kernel_rfl)) (fun _ _ _ h => h) (Or.inr ⟨by rfl, rfl⟩) ?_ ?_; rotate_left
                 ·exact qP
                 refine pure_ (i := 37) (N := some 139) (v := ?_) (a' := ?_) #[y', y', y', y', y', y', y', y', y', y', y', y', y', y', y', y', y', y', y', y', y', y', y', y', y', y', y', y', y', y', y', y', y', y', y', y', y', y', n'] rfl rfl (any_of HT_.out (by kernel_rfl)) (fun _ _ _ h => h) (Or.inl ⟨by rfl, ?_⟩) ?_ ?_; rotate_left
                 ·exact qI
                 rotate_left
                 ·exact qP
                 refine pure_ (i := 38) (N := some 140) (v := ?_) (a' := ?_) #[y', y', y', y', y', y', y', y', y', y', y', y', y', y', y', y', y', y', y', y', y', y', y', y', y', y', y', y', y', y', y', y', y', y', y', y', y', y', y'] rfl rfl (any_of HT_.out (by kernel_rfl)) (fun _ _ _ h => h) (Or.inl ⟨by rfl, ?_⟩) ?_ ?_; rotate_left
                 ·exact qI
                 rotate_left
                 ·exact qP
                 refine done_ (done_of HT_.out (by kernel_rfl)) ?_; try go_wp2
                 go_meet
                 case rel => exact ⟨_, (false), qS, H', ⟨by have := HJ1.out; have := HK2.out; have := HK3.out; first | omega | exact Nat.le_refl _⟩, ⟨qB BK0.out⟩, ⟨qB BK111.out⟩, ⟨qK1 HB.out GE111.out⟩⟩
               ·rw [if_neg c47] at H; exact absurd H (by simp)
              ·rw [if_neg c46] at H; exact absurd H (by simp)
             ·replace c45 := Bool.eq_false_iff.mpr c45; subst c45; have H1 : (spec_l09Ok.j6 k3 (l0_0.length : Int) x4_2 x8_3 true l0_0 l0_1 ((rd_T104 l0_1 x8_3).f0) ((rd_T104 l0_1 x8_3).f1) ((rd_T104 l0_1 x8_3).f2)) = some r := by rw [if_neg (show ¬ (false = true) by decide)] at H; exact H
              clear H; have H := H1; clear H1; have H' := A' H; clear H; try go_wp2
              have n0_ : Aside0 ((((w39.setCell ⟨gb111, 0, none⟩ (.int .i64 ((rd_T104 l0_1 x8_3).f0))).setCell ⟨gb111, 1, none⟩ (.int .i64 ((rd_T104 l0_1 x8_3).f1))).setCell ⟨gb111, 2, none⟩ (.bool ((rd_T104 l0_1 x8_3).f2))).heap[gp0]? = some (.cells #[.slice A0_0 l0_0.length c0_0, .slice (some ad110) l0_1.length c0_1] 33 (0, 0))) := ⟨qG3 BK0.out NB0_111.out NB0_111.out NB0_111.out⟩
              have n1_ : Aside0 ((((w39.setCell ⟨gb111, 0, none⟩ (.int .i64 ((rd_T104 l0_1 x8_3).f0))).setCell ⟨gb111, 1, none⟩ (.int .i64 ((rd_T104 l0_1 x8_3).f1))).setCell ⟨gb111, 2, none⟩ (.bool ((rd_T104 l0_1 x8_3).f2))).heap[gb111]? = some (.cells #[.int .i64 ((rd_T104 l0_1 x8_3).f0), .int .i64 ((rd_T104 l0_1 x8_3).f1), .bool ((rd_T104 l0_1 x8_3).f2)] 104 (0, 0))) := ⟨by (with_reducible repeat (first | refine G' ?_ _ | refine I' ?_ | refine hA' ?_ _)); refine blk_put (cs := #[.int .i64 ((rd_T104 l0_1 x8_3).f0), .int .i64 ((rd_T104 l0_1 x8_3).f1), .bool false]) ?_ 2 _ rfl; (with_reducible repeat (first | refine G' ?_ _ | refine I' ?_ | refine hA' ?_ _)); refine blk_put (cs := #[.int .i64 ((rd_T104 l0_1 x8_3).f0), .int .i64 0, .bool false]) ?_ 1 _ rfl; (with_reducible repeat (first | refine G' ?_ _ | refine I' ?_ | refine hA' ?_ _)); refine blk_put (cs := #[.int .i64 0, .int .i64 0, .bool false]) ?_ 0 _ rfl; (with_reducible repeat (first | refine G' ?_ _ | refine I' ?_ | refine hA' ?_ _)); exact BK111.out⟩
              have n2_ : Aside0 (Below w.heap.size w (((w39.setCell ⟨gb111, 0, none⟩ (.int .i64 ((rd_T104 l0_1 x8_3).f0))).setCell ⟨gb111, 1, none⟩ (.int .i64 ((rd_T104 l0_1 x8_3).f1))).setCell ⟨gb111, 2, none⟩ (.bool ((rd_T104 l0_1 x8_3).f2)))) := ⟨qK1 HB.out GE111.out⟩
              (try clear BK0); (try clear BK111); (try clear HB)
              generalize (((w39.setCell ⟨gb111, 0, none⟩ (.int .i64 ((rd_T104 l0_1 x8_3).f0))).setCell ⟨gb111, 1, none⟩ (.int .i64 ((rd_T104 l0_1 x8_3).f1))).setCell ⟨gb111, 2, none⟩ (.bool ((rd_T104 l0_1 x8_3).f2))) = w56 at n0_ n1_ n2_ ⊢
              have BK0 := n0_; have BK111 := n1_; have HB := n2_; clear n0_ n1_ n2_; have n0_ := A' (I' BK0.out); have n1_ := A' (I' BK111.out); have n2_ := A' (J' HB.out); clear BK0; clear BK111; clear HB; have BK0 := n0_; have BK111 := n1_; have HB := n2_; clear n0_ n1_ n2_; refine start_ (n := 39) (S := fun w' => w'.cell? ⟨gb111, 0, none⟩ = some (.int .i64 ((rd_T104 l0_1 x8_3).f0)) ∧ w'.cell? ⟨gb111, 1, none⟩ = some (.int .i64 ((rd_T104 l0_1 x8_3).f1)) ∧ w'.cell? ⟨gb111, 2, none⟩ = some (.bool ((rd_T104 l0_1 x8_3).f2))) (ds := []) #[n', n', n', n', n', n', n', n', n', n', n', n', n', n', n', n', n', n', n', n', n', n', n', n', n', n', n', n', n', n', n', n', n', n', n', n', n', n', n'] (by kernel_rfl) rfl rfl ⟨(N' BK111.out 0).trans rfl, (N' BK111.out 1).trans rfl, (N' BK111.out 2).trans rfl⟩ (fun hHeld => ?_); refine with_tabW spec_l09Ok.tab22 spec_l09Ok.bits22 (fun HT_ HW_ => ?_)
              generalize w56.drew = w57 at BK0 BK111 HB hHeld ⊢
              refine pure_ (i := 0) (N := some 102) (v := ?_) (a' := ?_) #[y', n', n', n', n', n', n', n', n', n', n', n', n', n', n', n', n', n', n', n', n', n', n', n', n', n', n', n', n', n', n', n', n', n', n', n', n', n', n'] rfl rfl (any_of HT_.out (by kernel_rfl)) (fun _ _ _ h => h) (Or.inl ⟨by rfl, ?_⟩) ?_ ?_; rotate_left
              ·exact qI
              rotate_left
              ·exact qP
              refine pure_ (i := 2) (N := some 104) (v := ?_) (a' := ?_) #[y', n', y', n', n', n', n', n', n', n', n', n', n', n', n', n', n', n', n', n', n', n', n', n', n', n', n', n', n', n', n', n', n', n', n', n', n', n', n'] rfl rfl (any_of HT_.out (by kernel_rfl)) (fun _ _ _ h => h) (Or.inl ⟨by rfl, ?_⟩) ?_ ?_; rotate_left
              ·exact qI
              rotate_left
              ·exact qP
              refine pure_ (i := 3) (N := some 105) (v := ?_) (a' := ?_) #[y', n', y', y', n', n', n', n', n', n', n', n', n', n', n', n', n', n', n', n', n', n', n', n', n', n', n', n', n', n', n', n', n', n', n', n', n', n', n'] rfl rfl (any_of HT_.out (by kernel_rfl)) (fun _ _ _ h => h) (Or.inl ⟨by rfl, ?_⟩) ?_ ?_; rotate_left
              ·exact qI
              rotate_left
              ·exact qP
              refine take_ (i := 1) (N := some 103) (v := ?_) (a' := ?_) #[y', y', y', y', n', n', n', n', n', n', n', n', n', n', n', n', n', n', n', n', n', n', n', n', n', n', n', n', n', n', n', n', n', n', n', n', n', n', n'] rfl rfl (take_ofW HT_.out HW_.out (by kernel_rfl)) (fun _ _ _ h => h) (Or.inl ⟨by rfl, ?_⟩) hHeld ?_ ?_; rotate_left
              ·rintro w' ⟨s0, s1, s2⟩; go_simp; with_reducible rfl
              rotate_left
              ·exact qP
              refine one_ (i := 4) (N := some 106) #[y', y', y', y', y', n', n', n', n', n', n', n', n', n', n', n', n', n', n', n', n', n', n', n', n', n', n', n', n', n', n', n', n', n', n', n', n', n', n'] rfl rfl (one_of HT_.out (by kernel_rfl)) (by decide) (fun K hK => ?_); refine goes_ Try.func82 (by kernel_rfl) rfl #[.int .i64 ((rd_T104 l0_1 x8_3).f0), .int .i64 0, .int .i64 (wrap64 ((l0_0.length : Int) - 1))] (by rfl) rfl rfl (by (try simp only [List.map_toArray, List.map_cons, List.map_nil]); first | done | rfl | (simp only [List.length_drop, List.length_take]; rfl)) ?_
              with_reducible refine (spec_l00In.calls ((rd_T104 l0_1 x8_3).f0) 0 (wrap64 ((l0_0.length : Int) - 1)) true _ A42.out).mono ?_
              rintro e w' ⟨rfl, ⟨nd, rfl⟩⟩; refine ⟨_, rfl, ?_⟩; refine hK.out _ _ ⟨(N' BK111.out 0).trans rfl, (N' BK111.out 1).trans rfl, (N' BK111.out 2).trans rfl⟩ (fun hHeld => ?_); clear hK K; refine norm_ (a' := ?_) ?_ ?_; rotate_left
              ·show Act.put _ (some 106) _ = _
               exact qP
              refine pure_ (i := 5) (N := some 107) (v := ?_) (a' := ?_) #[y', y', y', y', y', y', n', n', n', n', n', n', n', n', n', n', n', n', n', n', n', n', n', n', n', n', n', n', n', n', n', n', n', n', n', n', n', n', n'] rfl rfl (any_of HT_.out (by kernel_rfl)) (fun _ _ _ h => h) (Or.inl ⟨by rfl, ?_⟩) ?_ ?_; rotate_left
              ·exact qI
              rotate_left
              ·exact qP
              refine pure_ (i := 6) (N := some 108) (v := ?_) (a' := ?_) #[y', y', y', y', y', y', y', n', n', n', n', n', n', n', n', n', n', n', n', n', n', n', n', n', n', n', n', n', n', n', n', n', n', n', n', n', n', n', n'] rfl rfl (any_of HT_.out (by kernel_rfl)) (fun _ _ _ h => h) (Or.inl ⟨by rfl, ?_⟩) ?_ ?_; rotate_left
              ·exact qI
              rotate_left
              ·exact qP
              refine pure_ (i := 7) (N := some 109) (v := ?_) (a' := ?_) #[y', y', y', y', y', y', y', y', n', n', n', n', n', n', n', n', n', n', n', n', n', n', n', n', n', n', n', n', n', n', n', n', n', n', n', n', n', n', n'] rfl rfl (any_of HT_.out (by kernel_rfl)) (fun _ _ _ h => h) (Or.inl ⟨by rfl, ?_⟩) ?_ ?_; rotate_left
              ·exact qI
              rotate_left
              ·exact qP
              refine pure_ (i := 9) (N := some 111) (v := ?_) (a' := ?_) #[y', y', y', y', y', y', y', y', n', y', n', n', n', n', n', n', n', n', n', n', n', n', n', n', n', n', n', n', n', n', n', n', n', n', n', n', n', n', n'] rfl rfl (any_of HT_.out (by kernel_rfl)) (fun _ _ _ h => h) (Or.inl ⟨by rfl, ?_⟩) ?_ ?_; rotate_left
              ·exact qI
              rotate_left
              ·exact qP
              refine pure_ (i := 12) (N := some 114) (v := ?_) (a' := ?_) #[y', y', y', y', y', y', y', y', n', y', n', n', y', n', n', n', n', n', n', n', n', n', n', n', n', n', n', n', n', n', n', n', n', n', n', n', n', n', n'] rfl rfl (any_of HT_.out (by kernel_rfl)) (fun _ _ _ h => h) (Or.inl ⟨by rfl, ?_⟩) ?_ ?_; rotate_left
              ·exact qI
              rotate_left
              ·exact qP
              refine pure_ (i := 13) (N := some 115) (v := ?_) (a' := ?_) #[y', y', y', y', y', y', y', y', n', y', n', n', y', y', n', n', n', n', n', n', n', n', n', n', n', n', n', n', n', n', n', n', n', n', n', n', n', n', n'] rfl rfl (any_of HT_.out (by kernel_rfl)) (fun _ _ _ h => h) (Or.inl ⟨by rfl, ?_⟩) ?_ ?_; rotate_left
              ·exact qI
              rotate_left
              ·exact qP
              refine take_ (i := 8) (N := some 110) (v := ?_) (a' := ?_) #[y', y', y', y', y', y', y', y', y', y', n', n', y', y', n', n', n', n', n', n', n', n', n', n', n', n', n', n', n', n', n', n', n', n', n', n', n', n', n'] rfl rfl (take_ofW HT_.out HW_.out (by kernel_rfl)) (fun _ _ _ h => h) (Or.inl ⟨by rfl, ?_⟩) hHeld ?_ ?_; rotate_left
              ·rintro w' ⟨s0, s1, s2⟩; go_simp; with_reducible rfl
              rotate_left
              ·exact qP
              refine take_ (i := 10) (N := some 112) (v := ?_) (a' := ?_) #[y', y', y', y', y', y', y', y', y', y', y', n', y', y', n', n', n', n', n', n', n', n', n', n', n', n', n', n', n', n', n', n', n', n', n', n', n', n', n'] rfl rfl (take_ofW HT_.out HW_.out (by kernel_rfl)) (fun _ _ _ h => h) (Or.inl ⟨by rfl, ?_⟩) hHeld ?_ ?_; rotate_left
              ·rintro w' ⟨s0, s1, s2⟩; go_simp; with_reducible rfl
              rotate_left
              ·exact qP
              refine pure_ (i := 11) (N := some 113) (v := ?_) (a' := ?_) #[y', y', y', y', y', y', y', y', y', y', y', y', y', y', n', n', n', n', n', n', n', n', n', n', n', n', n', n', n', n', n', n', n', n', n', n', n', n', n'] rfl rfl (any_of HT_.out (by kernel_rfl)) (fun _ _ _ h => h) (Or.inl ⟨by rfl, ?_⟩) ?_ ?_; rotate_left
              ·exact qI
              rotate_left
              ·exact qP
              refine one_ (i := 14) (N := some 116) #[y', y', y', y', y', y', y', y', y', y', y', y', y', y', y', n', n', n', n', n', n', n', n', n', n', n', n', n', n', n', n', n', n', n', n', n', n', n', n'] rfl rfl (one_of HT_.out (by kernel_rfl)) (by decide) (fun K hK => ?_); refine goes_ Try.func82 (by kernel_rfl) rfl #[.int .i64 ((rd_T104 l0_1 x8_3).f1), .int .i64 (wrap64 (((rd_T104 l0_1 x8_3).f0) + 1)), .int .i64 (wrap64 ((l0_0.length : Int) - 1))] (by rfl) rfl rfl (by (try simp only [List.map_toArray, List.map_cons, List.map_nil]); first | done | rfl | (simp only [List.length_drop, List.length_take]; rfl)) ?_
              with_reducible refine (spec_l00In.calls ((rd_T104 l0_1 x8_3).f1) (wrap64 (((rd_T104 l0_1 x8_3).f0) + 1)) (wrap64 ((l0_0.length : Int) - 1)) false _ A44.out).mono ?_
              rintro e w' ⟨rfl, ⟨nd, rfl⟩⟩; refine ⟨_, rfl, ?_⟩; refine hK.out _ _ ⟨(N' BK111.out 0).trans rfl, (N' BK111.out 1).trans rfl, (N' BK111.out 2).trans rfl⟩ (fun hHeld => ?_); clear hK K; refine norm_ (a' := ?_) ?_ ?_; rotate_left
              ·show Act.put _ (some 116) _ = _
               exact qP
              refine pure_ (i := 15) (N := some 117) (v := ?_) (a' := ?_) #[y', y', y', y', y', y', y', y', y', y', y', y', y', y', y', y', n', n', n', n', n', n', n', n', n', n', n', n', n', n', n', n', n', n', n', n', n', n', n'] rfl rfl (any_of HT_.out (by kernel_rfl)) (fun _ _ _ h => h) (Or.inl ⟨by rfl, ?_⟩) ?_ ?_; rotate_left
              ·exact qI
              rotate_left
              ·exact qP
              refine pure_ (i := 16) (N := some 118) (v := ?_) (a' := ?_) #[y', y', y', y', y', y', y', y', y', y', y', y', y', y', y', y', y', n', n', n', n', n', n', n', n', n', n', n', n', n', n', n', n', n', n', n', n', n', n'] rfl rfl (any_of HT_.out (by kernel_rfl)) (fun _ _ _ h => h) (Or.inl ⟨by rfl, ?_⟩) ?_ ?_; rotate_left
              ·exact qI
              rotate_left
              ·exact qP
              refine pure_ (i := 17) (N := some 119) (v := ?_) (a' := ?_) #[y', y', y', y', y', y', y', y', y', y', y', y', y', y', y', y', y', y', n', n', n', n', n', n', n', n', n', n', n', n', n', n', n', n', n', n', n', n', n'] rfl rfl (any_of HT_.out (by kernel_rfl)) (fun _ _ _ h => h) (Or.inl ⟨by rfl, ?_⟩) ?_ ?_; rotate_left
              ·exact qI
              rotate_left
              ·exact qP
              refine pure_ (i := 18) (N := some 120) (v := undef) (a' := ?_) #[y', y', y', y', y', y', y', y', y', y', y', y', y', y', y', y', y', y', y', n', n', n', n', n', n', n', n', n', n', n', n', n', n', n', n', n', n', n', n'] rfl rfl (any_of HT_.out (by kernel_rfl)) (fun _ _ _ h => h) (Or.inr ⟨by rfl, rfl⟩) ?_ ?_; rotate_left
              ·exact qP
              refine pure_ (i := 19) (N := some 121) (v := undef) (a' := ?_) #[y', y', y', y', y', y', y', y', y', y', y', y', y', y', y', y', y', y', y', y', n', n', n', n', n', n', n', n', n', n', n', n', n', n', n', n', n', n', n'] rfl rfl (any_of HT_.out (by kernel_rfl)) (fun _ _ _ h => h) (Or.inr ⟨by rfl, rfl⟩) ?_ ?_; rotate_left
              ·exact qP
              refine pure_ (i := 20) (N := some 122) (v := undef) (a' := ?_) #[y', y', y', y', y', y', y', y', y', y', y', y', y', y', y', y', y', y', y', y', y', n', n', n', n', n', n', n', n', n', n', n', n', n', n', n', n', n', n'] rfl rfl (any_of HT_.out (by kernel_rfl)) (fun _ _ _ h => h) (Or.inr ⟨by rfl, rfl⟩) ?_ ?_; rotate_left
              ·exact qP
              refine pure_ (i := 21) (N := some 123) (v := undef) (a' := ?_) #[y', y', y', y', y', y', y', y', y', y', y', y', y', y', y', y', y', y', y', y', y', y', n', n', n', n', n', n', n', n', n', n', n', n', n', n', n', n', n'] rfl rfl (any_of HT_.out (by kernel_rfl)) (fun _ _ _ h => h) (Or.inr ⟨by rfl, rfl⟩) ?_ ?_; rotate_left
              ·exact qP
              refine pure_ (i := 22) (N := some 124) (v := undef) (a' := ?_) #[y', y', y', y', y', y', y', y', y', y', y', y', y', y', y', y', y', y', y', y', y', y', y', n', n', n', n', n', n', n', n', n', n', n', n', n', n', n', n'] rfl rfl (any_of HT_.out (by kernel_rfl)) (fun _ _ _ h => h) (Or.inr ⟨by rfl, rfl⟩) ?_ ?_; rotate_left
              ·exact qP
              refine pure_ (i := 23) (N := some 125) (v := undef) (a' := ?_) #[y', y', y', y', y', y', y', y', y', y', y', y', y', y', y', y', y', y', y', y', y', y', y', y', n', n', n', n', n', n', n', n', n', n', n', n', n', n', n'] rfl rfl (any_of HT_.out (by kernel_rfl)) (fun _ _ _ h => h) (Or.inr ⟨by rfl, rfl⟩) ?_ ?_; rotate_left
              ·exact qP
              refine pure_ (i := 24) (N := some 126) (v := undef) (a' := ?_) #[y', y', y', y', y', y', y', y', y', y', y', y', y', y', y', y', y', y', y', y', y', y', y', y', y', n', n', n', n', n', n', n', n', n', n', n', n', n', n'] rfl rfl (any_of HT_.out (by kernel_rfl)) (fun _ _ _ h => h) (Or.inr ⟨by rfl, rfl⟩) ?_ ?_; rotate_left
              ·exact qP
              refine pure_ (i := 25) (N := some 127) (v := undef) (a' := ?_) #[y', y', y', y', y', y', y', y', y', y', y', y', y', y', y', y', y', y', y', y', y', y', y', y', y', y', n', n', n', n', n', n', n', n', n', n', n', n', n'] rfl rfl (any_of HT_.out (by kernel_rfl)) (fun _ _ _ h => h) (Or.inr ⟨by rfl, rfl⟩) ?_ ?_; rotate_left
              ·exact qP
              refine pure_ (i := 26) (N := some 128) (v := undef) (a' := ?_) #[y', y', y', y', y', y', y', y', y', y', y', y', y', y', y', y', y', y', y', y', y', y', y', y', y', y', y', n', n', n', n', n', n', n', n', n', n', n', n'] rfl rfl (any_of HT_.out (by kernel_rfl)) (fun _ _ _ h => h) (Or.inr ⟨by rfl, rfl⟩) ?_ ?_; rotate_left
              ·exact qP
              refine pure_ (i := 27) (N := some 129) (v := undef) (a' := ?_) #[y', y', y', y', y', y', y', y', y', y', y', y', y', y', y', y', y', y', y', y', y', y', y', y', y', y', y', y', n', n', n', n', n', n', n', n', n', n', n'] rfl rfl (any_of HT_.out (by kernel_rfl)) (fun _ _ _ h => h) (Or.inr ⟨by rfl, rfl⟩) ?_ ?_; rotate_left
              ·exact qP
              refine pure_ (i := 28) (N := some 130) (v := undef) (a' := ?_) #[y', y', y', y', y', y', y', y', y', y', y', y', y', y', y', y', y', y', y', y', y', y', y', y', y', y', y', y', y', n', n', n', n', n', n', n', n', n', n'] rfl rfl (any_of HT_.out (by kernel_rfl)) (fun _ _ _ h => h) (Or.inr ⟨by rfl, rfl⟩) ?_ ?_; rotate_left
              ·exact qP
              refine pure_ (i := 29) (N := some 131) (v := undef) (a' := ?_) #[y', y', y', y', y', y', y', y', y', y', y', y', y', y', y', y', y', y', y', y', y', y', y', y', y', y', y', y', y', y', n', n', n', n', n', n', n', n', n'] rfl rfl (any_of HT_.out (by kernel_rfl)) (fun _ _ _ h => h) (Or.inr ⟨by rfl, rfl⟩) ?_ ?_; rotate_left
              ·exact qP
              refine pure_ (i := 30) (N := some 132) (v := undef) (a' := ?_) #[y', y', y', y', y', y', y', y', y', y', y', y', y', y', y', y', y', y', y', y', y', y', y', y', y', y', y', y', y', y', y', n', n', n', n', n', n', n', n'] rfl rfl (any_of HT_.out (by kernel_rfl)) (fun _ _ _ h => h) (Or.inr ⟨by rfl, rfl⟩) ?_ ?_; rotate_left
              ·exact qP
              refine pure_ (i := 31) (N := some 133) (v := undef) (a' := ?_) #[y', y', y', y', y', y', y', y', y', y', y', y', y', y', y', y', y', y', y', y', y', y', y', y', y', y', y', y', y', y', y', y', n', n', n', n', n', n', n'] rfl rfl (any_of HT_.out (by kernel_rfl)) (fun _ _ _ h => h) (Or.inr ⟨by rfl, rfl⟩) ?_ ?_; rotate_left
              ·exact qP
              refine pure_ (i := 32) (N := some 134) (v := undef) (a' := ?_) #[y', y', y', y', y', y', y', y', y', y', y', y', y', y', y', y', y', y', y', y', y', y', y', y', y', y', y', y', y', y', y', y', y', n', n', n', n', n', n'] rfl rfl (any_of HT_.out (by kernel_rfl)) (fun _ _ _ h => h) (Or.inr ⟨by rfl, rfl⟩) ?_ ?_; rotate_left
              ·exact qP
              refine pure_ (i := 33) (N := some 135) (v := undef) (a' := ?_) #[y', y', y', y', y', y', y', y', y', y', y', y', y', y', y', y', y', y', y', y', y', y', y', y', y', y', y', y', y', y', y', y', y', y', n', n', n', n', n'] rfl rfl (any_of HT_.out (by kernel_rfl)) (fun _ _ _ h => h) (Or.inr ⟨by rfl, rfl⟩) ?_ ?_; rotate_left
              ·exact qP
              refine pure_ (i := 34) (N := some 136) (v := undef) (a' := ?_) #[y', y', y', y', y', y', y', y', y', y', y', y', y', y', y', y', y', y', y', y', y', y', y', y', y', y', y', y', y', y', y', y', y', y', y', n', n', n', n'] rfl rfl (any_of HT_.out (by kernel_rfl)) (fun _ _ _ h => h) (Or.inr ⟨by rfl, rfl⟩) ?_ ?_; rotate_left
              ·exact qP
              refine pure_ (i := 35) (N := some 137) (v := undef) (a' := ?_) #[y', y', y', y', y', y', y', y', y', y', y', y', y', y', y', y', y', y', y', y', y', y', y', y', y', y', y', y', y', y', y', y', y', y', y', y', n', n', n'] rfl rfl (any_of HT_.out (by kernel_rfl)) (fun _ _ _ h => h) (Or.inr ⟨by rfl, rfl⟩) ?_ ?_; rotate_left
              ·exact qP
              refine pure_ (i := 36) (N := some 138) (v := undef) (a' := ?_) #[y', y', y', y', y', y', y', y', y', y', y', y', y', y', y', y', y', y', y', y', y', y', y', y', y', y', y', y', y', y', y', y', y', y', y', y', y', n', n'] rfl rfl (any_of HT_.out (by kernel_rfl)) (fun _ _ _ h => h) (Or.inr ⟨by rfl, rfl⟩) ?_ ?_; rotate_left
              ·exact qP
              refine pure_ (i := 37) (N := some 139) (v := undef) (a' := ?_) #[y', y', y', y', y', y', y', y', y', y', y', y', y', y', y', y', y', y', y', y', y', y', y', y', y', y', y', y', y', y', y', y', y', y', y', y', y', y', n'] rfl rfl (any_of HT_.out (by kernel_rfl)) (fun _ _ _ h => h) (Or.inr ⟨by rfl, rfl⟩) ?_ ?_; rotate_left
              ·exact qP
              refine pure_ (i := 38) (N := some 140) (v := ?_) (a' := ?_) #[y', y', y', y', y', y', y', y', y', y', y', y', y', y', y', y', y', y', y', y', y', y', y', y', y', y', y', y', y', y', y', y', y', y', y', y', y', y', y'] rfl rfl (any_of HT_.out (by kernel_rfl)) (fun _ _ _ h => h) (Or.inl ⟨by rfl, ?_⟩) ?_ ?_; rotate_left
              ·exact qI
              rotate_left
              ·exact qP
              refine done_ (done_of HT_.out (by kernel_rfl)) ?_; try go_wp2
              go_meet
              case rel => exact ⟨_, (true), qS, H', ⟨by have := HJ1.out; have := HK2.out; have := HK3.out; first | omega | exact Nat.le_refl _⟩, ⟨qB BK0.out⟩, ⟨qB BK111.out⟩, ⟨qK1 HB.out GE111.out⟩⟩
            ·replace c43 := Bool.eq_false_iff.mpr c43; subst c43; have H1 : (spec_l09Ok.j6 k3 (l0_0.length : Int) x4_2 x8_3 true l0_0 l0_1 ((rd_T104 l0_1 x8_3).f0) ((rd_T104 l0_1 x8_3).f1) ((rd_T104 l0_1 x8_3).f2)) = some r := by rw [if_neg (show ¬ (false = true) by decide)] at H; exact H
             clear H; have H := H1; clear H1; have H' := A' H; clear H; try go_wp2
             have n0_ : Aside0 ((((w39.setCell ⟨gb111, 0, none⟩ (.int .i64 ((rd_T104 l0_1 x8_3).f0))).setCell ⟨gb111, 1, none⟩ (.int .i64 ((rd_T104 l0_1 x8_3).f1))).setCell ⟨gb111, 2, none⟩ (.bool ((rd_T104 l0_1 x8_3).f2))).heap[gp0]? = some (.cells #[.slice A0_0 l0_0.length c0_0, .slice (some ad110) l0_1.length c0_1] 33 (0, 0))) := ⟨qG3 BK0.out NB0_111.out NB0_111.out NB0_111.out⟩
             have n1_ : Aside0 ((((w39.setCell ⟨gb111, 0, none⟩ (.int .i64 ((rd_T104 l0_1 x8_3).f0))).setCell ⟨gb111, 1, none⟩ (.int .i64 ((rd_T104 l0_1 x8_3).f1))).setCell ⟨gb111, 2, none⟩ (.bool ((rd_T104 l0_1 x8_3).f2))).heap[gb111]? = some (.cells #[.int .i64 ((rd_T104 l0_1 x8_3).f0), .int .i64 ((rd_T104 l0_1 x8_3).f1), .bool ((rd_T104 l0_1 x8_3).f2)] 104 (0, 0))) := ⟨by (with_reducible repeat (first | refine G' ?_ _ | refine I' ?_ | refine hA' ?_ _)); refine blk_put (cs := #[.int .i64 ((rd_T104 l0_1 x8_3).f0), .int .i64 ((rd_T104 l0_1 x8_3).f1), .bool false]) ?_ 2 _ rfl; (with_reducible repeat (first | refine G' ?_ _ | refine I' ?_ | refine hA' ?_ _)); refine blk_put (cs := #[.int .i64 ((rd_T104 l0_1 x8_3).f0), .int .i64 0, .bool false]) ?_ 1 _ rfl; (with_reducible repeat (first | refine G' ?_ _ | refine I' ?_ | refine hA' ?_ _)); refine blk_put (cs := #[.int .i64 0, .int .i64 0, .bool false]) ?_ 0 _ rfl; (with_reducible repeat (first | refine G' ?_ _ | refine I' ?_ | refine hA' ?_ _)); exact BK111.out⟩
             have n2_ : Aside0 (Below w.heap.size w (((w39.setCell ⟨gb111, 0, none⟩ (.int .i64 ((rd_T104 l0_1 x8_3).f0))).setCell ⟨gb111, 1, none⟩ (.int .i64 ((rd_T104 l0_1 x8_3).f1))).setCell ⟨gb111, 2, none⟩ (.bool ((rd_T104 l0_1 x8_3).f2)))) := ⟨qK1 HB.out GE111.out⟩
             (try clear BK0); (try clear BK111); (try clear HB)
             generalize (((w39.setCell ⟨gb111, 0, none⟩ (.int .i64 ((rd_T104 l0_1 x8_3).f0))).setCell ⟨gb111, 1, none⟩ (.int .i64 ((rd_T104 l0_1 x8_3).f1))).setCell ⟨gb111, 2, none⟩ (.bool ((rd_T104 l0_1 x8_3).f2))) = w58 at n0_ n1_ n2_ ⊢
             have BK0 := n0_; have BK111 := n1_; have HB := n2_; clear n0_ n1_ n2_; have n0_ := A' (I' BK0.out); have n1_ := A' (I' BK111.out); have n2_ := A' (J' HB.out); clear BK0; clear BK111; clear HB; have BK0 := n0_; have BK111 := n1_; have HB := n2_; clear n0_ n1_ n2_; refine start_ (n := 39) (S := fun w' => w'.cell? ⟨gb111, 0, none⟩ = some (.int .i64 ((rd_T104 l0_1 x8_3).f0)) ∧ w'.cell? ⟨gb111, 1, none⟩ = some (.int .i64 ((rd_T104 l0_1 x8_3).f1)) ∧ w'.cell? ⟨gb111, 2, none⟩ = some (.bool ((rd_T104 l0_1 x8_3).f2))) (ds := []) #[n', n', n', n', n', n', n', n', n', n', n', n', n', n', n', n', n', n', n', n', n', n', n', n', n', n', n', n', n', n', n', n', n', n', n', n', n', n', n'] (by kernel_rfl) rfl rfl ⟨(N' BK111.out 0).trans rfl, (N' BK111.out 1).trans rfl, (N' BK111.out 2).trans rfl⟩ (fun hHeld => ?_); refine with_tabW spec_l09Ok.tab22 spec_l09Ok.bits22 (fun HT_ HW_ => ?_)
             generalize w58.drew = w59 at BK0 BK111 HB hHeld ⊢
             refine pure_ (i := 0) (N := some 102) (v := ?_) (a' := ?_) #[y', n', n', n', n', n', n', n', n', n', n', n', n', n', n', n', n', n', n', n', n', n', n', n', n', n', n', n', n', n', n', n', n', n', n', n', n', n', n'] rfl rfl (any_of HT_.out (by kernel_rfl)) (fun _ _ _ h => h) (Or.inl ⟨by rfl, ?_⟩) ?_ ?_; rotate_left
             ·exact qI
             rotate_left
             ·exact qP
             refine pure_ (i := 2) (N := some 104) (v := ?_) (a' := ?_) #[y', n', y', n', n', n', n', n', n', n', n', n', n', n', n', n', n', n', n', n', n', n', n', n', n', n', n', n', n', n', n', n', n', n', n', n', n', n', n'] rfl rfl (any_of HT_.out (by kernel_rfl)) (fun _ _ _ h => h) (Or.inl ⟨by rfl, ?_⟩) ?_ ?_; rotate_left
             ·exact qI
             rotate_left
             ·exact qP
             refine pure_ (i := 3) (N := some 105) (v := ?_) (a' := ?_) #[y', n', y', y', n', n', n', n', n', n', n', n', n', n', n', n', n', n', n', n', n', n', n', n', n', n', n', n', n', n', n', n', n', n', n', n', n', n', n'] rfl rfl (any_of HT_.out (by kernel_rfl)) (fun _ _ _ h => h) (Or.inl ⟨by rfl, ?_⟩) ?_ ?_; rotate_left
             ·exact qI
             rotate_left
             ·exact qP
             refine take_ (i := 1) (N := some 103) (v := ?_) (a' := ?_) #[y', y', y', y', n', n', n', n', n', n', n', n', n', n', n', n', n', n', n', n', n', n', n', n', n', n', n', n', n', n', n', n', n', n', n', n', n', n', n'] rfl rfl (take_ofW HT_.out HW_.out (by kernel_rfl)) (fun _ _ _ h => h) (Or.inl ⟨by rfl, ?_⟩) hHeld ?_ ?_; rotate_left
             ·rintro w' ⟨s0, s1, s2⟩; go_simp; with_reducible rfl
             rotate_left
             ·exact qP
             refine one_ (i := 4) (N := some 106) #[y', y', y', y', y', n', n', n', n', n', n', n', n', n', n', n', n', n', n', n', n', n', n', n', n', n', n', n', n', n', n', n', n', n', n', n', n', n', n'] rfl rfl (one_of HT_.out (by kernel_rfl)) (by decide) (fun K hK => ?_); refine goes_ Try.func82 (by kernel_rfl) rfl #[.int .i64 ((rd_T104 l0_1 x8_3).f0), .int .i64 0, .int .i64 (wrap64 ((l0_0.length : Int) - 1))] (by rfl) rfl rfl (by (try simp only [List.map_toArray, List.map_cons, List.map_nil]); first | done | rfl | (simp only [List.length_drop, List.length_take]; rfl)) ?_
             with_reducible refine (spec_l00In.calls ((rd_T104 l0_1 x8_3).f0) 0 (wrap64 ((l0_0.length : Int) - 1)) false _ A42.out).mono ?_
             rintro e w' ⟨rfl, ⟨nd, rfl⟩⟩; refine ⟨_, rfl, ?_⟩; refine hK.out _ _ ⟨(N' BK111.out 0).trans rfl, (N' BK111.out 1).trans rfl, (N' BK111.out 2).trans rfl⟩ (fun hHeld => ?_); clear hK K; refine norm_ (a' := ?_) ?_ ?_; rotate_left
             ·show Act.put _ (some 106) _ = _
              exact qP
             refine pure_ (i := 5) (N := some 107) (v := ?_) (a' := ?_) #[y', y', y', y', y', y', n', n', n', n', n', n', n', n', n', n', n', n', n', n', n', n', n', n', n', n', n', n', n', n', n', n', n', n', n', n', n', n', n'] rfl rfl (any_of HT_.out (by kernel_rfl)) (fun _ _ _ h => h) (Or.inl ⟨by rfl, ?_⟩) ?_ ?_; rotate_left
             ·exact qI
             rotate_left
             ·exact qP
             refine pure_ (i := 6) (N := some 108) (v := ?_) (a' := ?_) #[y', y', y', y', y', y', y', n', n', n', n', n', n', n', n', n', n', n', n', n', n', n', n', n', n', n', n', n', n', n', n', n', n', n', n', n', n', n', n'] rfl rfl (any_of HT_.out (by kernel_rfl)) (fun _ _ _ h => h) (Or.inl ⟨by rfl, ?_⟩) ?_ ?_; rotate_left
             ·exact qI
             rotate_left
             ·exact qP
             refine pure_ (i := 7) (N := some 109) (v := undef) (a' := ?_) #[y', y', y', y', y', y', y', y', n', n', n', n', n', n', n', n', n', n', n', n', n', n', n', n', n', n', n', n', n', n', n', n', n', n', n', n', n', n', n'] rfl rfl (any_of HT_.out (by kernel_rfl)) (fun _ _ _ h => h) (Or.inr ⟨by rfl, rfl⟩) ?_ ?_; rotate_left
             ·exact qP
             refine pure_ (i := 8) (N := some 110) (v := undef) (a' := ?_) #[y', y', y', y', y', y', y', y', y', n', n', n', n', n', n', n', n', n', n', n', n', n', n', n', n', n', n', n', n', n', n', n', n', n', n', n', n', n', n'] rfl rfl (any_of HT_.out (by kernel_rfl)) (fun _ _ _ h => h) (Or.inr ⟨by rfl, rfl⟩) ?_ ?_; rotate_left
             ·exact qP
             refine pure_ (i := 9) (N := some 111) (v := undef) (a' := ?_) #[y', y', y', y', y', y', y', y', y', y', n', n', n', n', n', n', n', n', n', n', n', n', n', n', n', n', n', n', n', n', n', n', n', n', n', n', n', n', n'] rfl rfl (any_of HT_.out (by kernel_rfl)) (fun _ _ _ h => h) (Or.inr ⟨by rfl, rfl⟩) ?_ ?_; rotate_left
             ·exact qP
             refine pure_ (i := 10) (N := some 112) (v := undef) (a' := ?_) #[y', y', y', y', y', y', y', y', y', y', y', n', n', n', n', n', n', n', n', n', n', n', n', n', n', n', n', n', n', n', n', n', n', n', n', n', n', n', n'] rfl rfl (any_of HT_.out (by kernel_rfl)) (fun _ _ _ h => h) (Or.inr ⟨by rfl, rfl⟩) ?_ ?_; rotate_left
             ·exact qP
             refine pure_ (i := 11) (N := some 113) (v := undef) (a' := ?_) #[y', y', y', y', y', y', y', y', y', y', y', y', n', n', n', n', n', n', n', n', n', n', n', n', n', n', n', n', n', n', n', n', n', n', n', n', n', n', n'] rfl rfl (any_of HT_.out (by kernel_rfl)) (fun _ _ _ h => h) (Or.inr ⟨by rfl, rfl⟩) ?_ ?_; rotate_left
             ·exact qP
             refine pure_ (i := 12) (N := some 114) (v := undef) (a' := ?_) #[y', y', y', y', y', y', y', y', y', y', y', y', y', n', n', n', n', n', n', n', n', n', n', n', n', n', n', n', n', n', n', n', n', n', n', n', n', n', n'] rfl rfl (any_of HT_.out (by kernel_rfl)) (fun _ _ _ h => h) (Or.inr ⟨by rfl, rfl⟩) ?_ ?_; rotate_left
             ·exact qP
             refine pure_ (i := 13) (N := some 115) (v := undef) (a' := ?_) #[y', y', y', y', y', y', y', y', y', y', y', y', y', y', n', n', n', n', n', n', n', n', n', n', n', n', n', n', n', n', n', n', n', n', n', n', n', n', n'] rfl rfl (any_of HT_.out (by kernel_rfl)) (fun _ _ _ h => h) (Or.inr ⟨by rfl, rfl⟩) ?_ ?_; rotate_left
             ·exact qP
             refine pure_ (i := 14) (N := some 116) (v := undef) (a' := ?_) #[y', y', y', y', y', y', y', y', y', y', y', y', y', y', y', n', n', n', n', n', n', n', n', n', n', n', n', n', n', n', n', n', n', n', n', n', n', n', n'] rfl rfl (any_of HT_.out (by kernel_rfl)) (fun _ _ _ h => h) (Or.inr ⟨by rfl, rfl⟩) ?_ ?_; rotate_left
             ·exact qP
             refine pure_ (i := 15) (N := some 117) (v := undef) (a' := ?_) #[y', y', y', y', y', y', y', y', y', y', y', y', y', y', y', y', n', n', n', n', n', n', n', n', n', n', n', n', n', n', n', n', n', n', n', n', n', n', n'] rfl rfl (any_of HT_.out (by kernel_rfl)) (fun _ _ _ h => h) (Or.inr ⟨by rfl, rfl⟩) ?_ ?_; rotate_left
             ·exact qP
             refine pure_ (i := 16) (N := some 118) (v := ?_) (a' := ?_) #[y', y', y', y', y', y', y', y', y', y', y', y', y', y', y', y', y', n', n', n', n', n', n', n', n', n', n', n', n', n', n', n', n', n', n', n', n', n', n'] rfl rfl (any_of HT_.out (by kernel_rfl)) (fun _ _ _ h => h) (Or.inl ⟨by rfl, ?_⟩) ?_ ?_; rotate_left
             ·exact qI
             rotate_left
             ·exact qP
             refine pure_ (i := 17) (N := some 119) (v := ?_) (a' := ?_) #[y', y', y', y', y', y', y', y', y', y', y', y', y', y', y', y', y', y', n', n', n', n', n', n', n', n', n', n', n', n', n', n', n', n', n', n', n', n', n'] rfl rfl (any_of HT_.out (by kernel_rfl)) (fun _ _ _ h => h) (Or.inl ⟨by rfl, ?_⟩) ?_ ?_; rotate_left
             ·exact qI
             rotate_left
             ·exact qP
             refine pure_ (i := 18) (N := some 120) (v := undef) (a' := ?_) #[y', y', y', y', y', y', y', y', y', y', y', y', y', y', y', y', y', y', y', n', n', n', n', n', n', n', n', n', n', n', n', n', n', n', n', n', n', n', n'] rfl rfl (any_of HT_.out (by kernel_rfl)) (fun _ _ _ h => h) (Or.inr ⟨by rfl, rfl⟩) ?_ ?_; rotate_left
             ·exact qP
             refine pure_ (i := 19) (N := some 121) (v := undef) (a' := ?_) #[y', y', y', y', y', y', y', y', y', y', y', y', y', y', y', y', y', y', y', y', n', n', n', n', n', n', n', n', n', n', n', n', n', n', n', n', n', n', n'] rfl rfl (any_of HT_.out (by kernel_rfl)) (fun _ _ _ h => h) (Or.inr ⟨by rfl, rfl⟩) ?_ ?_; rotate_left
             ·exact qP
             refine pure_ (i := 20) (N := some 122) (v := undef) (a' := ?_) #[y', y', y', y', y', y', y', y', y', y', y', y', y', y', y', y', y', y', y', y', y', n', n', n', n', n', n', n', n', n', n', n', n', n', n', n', n', n', n'] rfl rfl (any_of HT_.out (by kernel_rfl)) (fun _ _ _ h => h) (Or.inr ⟨by rfl, rfl⟩) ?_ ?_; rotate_left
             ·exact qP
             refine pure_ (i := 21) (N := some 123) (v := undef) (a' := ?_) #[y', y', y', y', y', y', y', y', y', y', y', y', y', y', y', y', y', y', y', y', y', y', n', n', n', n', n', n', n', n', n', n', n', n', n', n', n', n', n'] rfl rfl (any_of HT_.out (by kernel_rfl)) (fun _ _ _ h => h) (Or.inr ⟨by rfl, rfl⟩) ?_ ?_; rotate_left
             ·exact qP
             refine pure_ (i := 22) (N := some 124) (v := undef) (a' := ?_) #[y', y', y', y', y', y', y', y', y', y', y', y', y', y', y', y', y', y', y', y', y', y', y', n', n', n', n', n', n', n', n', n', n', n', n', n', n', n', n'] rfl rfl (any_of HT_.out (by kernel_rfl)) (fun _ _ _ h => h) (Or.inr ⟨by rfl, rfl⟩) ?_ ?_; rotate_left
             ·exact qP
             refine pure_ (i := 23) (N := some 125) (v := undef) (a' := ?_) #[y', y', y', y', y', y', y', y', y', y', y', y', y', y', y', y', y', y', y', y', y', y', y', y', n', n', n', n', n', n', n', n', n', n', n', n', n', n', n'] rfl rfl (any_of HT_.out (by kernel_rfl)) (fun _ _ _ h => h) (Or.inr ⟨by rfl, rfl⟩) ?_ ?_; rotate_left
             ·exact qP
             refine pure_ (i := 24) (N := some 126) (v := undef) (a' := ?_) #[y', y', y', y', y', y', y', y', y', y', y', y', y', y', y', y', y', y', y', y', y', y', y', y', y', n', n', n', n', n', n', n', n', n', n', n', n', n', n'] rfl rfl (any_of HT_.out (by kernel_rfl)) (fun _ _ _ h => h) (Or.inr ⟨by rfl, rfl⟩) ?_ ?_; rotate_left
             ·exact qP
             refine pure_ (i := 25) (N := some 127) (v := undef) (a' := ?_) #[y', y', y', y', y', y', y', y', y', y', y', y', y', y', y', y', y', y', y', y', y', y', y', y', y', y', n', n', n', n', n', n', n', n', n', n', n', n', n'] rfl rfl (any_of HT_.out (by kernel_rfl)) (fun _ _ _ h => h) (Or.inr ⟨by rfl, rfl⟩) ?_ ?_; rotate_left
             ·exact qP
             refine pure_ (i := 26) (N := some 128) (v := undef) (a' := ?_) #[y', y', y', y', y', y', y', y', y', y', y', y', y', y', y', y', y', y', y', y', y', y', y', y', y', y', y', n', n', n', n', n', n', n', n', n', n', n', n'] rfl rfl (any_of HT_.out (by kernel_rfl)) (fun _ _ _ h => h) (Or.inr ⟨by rfl, rfl⟩) ?_ ?_; rotate_left
             ·exact qP
             refine pure_ (i := 27) (N := some 129) (v := undef) (a' := ?_) #[y', y', y', y', y', y', y', y', y', y', y', y', y', y', y', y', y', y', y', y', y', y', y', y', y', y', y', y', n', n', n', n', n', n', n', n', n', n', n'] rfl rfl (any_of HT_.out (by kernel_rfl)) (fun _ _ _ h => h) (Or.inr ⟨by rfl, rfl⟩) ?_ ?_; rotate_left
             ·exact qP
             refine pure_ (i := 28) (N := some 130) (v := undef) (a' := ?_) #[y', y', y', y', y', y', y', y', y', y', y', y', y', y', y', y', y', y', y', y', y', y', y', y', y', y', y', y', y', n', n', n', n', n', n', n', n', n', n'] rfl rfl (any_of HT_.out (by kernel_rfl)) (fun _ _ _ h => h) (Or.inr ⟨by rfl, rfl⟩) ?_ ?_; rotate_left
             ·exact qP
             refine pure_ (i := 29) (N := some 131) (v := undef) (a' := ?_) #[y', y', y', y', y', y', y', y', y', y', y', y', y', y', y', y', y', y', y', y', y', y', y', y', y', y', y', y', y', y', n', n', n', n', n', n', n', n', n'] rfl rfl (any_of HT_.out (by kernel_rfl)) (fun _ _ _ h => h) (Or.inr ⟨by rfl, rfl⟩) ?_ ?_; rotate_left
             ·exact qP
             refine pure_ (i := 30) (N := some 132) (v := undef) (a' := ?_) #[y', y', y', y', y', y', y', y', y', y', y', y', y', y', y', y', y', y', y', y', y', y', y', y', y', y', y', y', y', y', y', n', n', n', n', n', n', n', n'] rfl rfl (any_of HT_.out (by kernel_rfl)) (fun _ _ _ h => h) (Or.inr ⟨by rfl, rfl⟩) ?_ ?_; rotate_left
             ·exact qP
             refine pure_ (i := 31) (N := some 133) (v := undef) (a' := ?_) #[y', y', y', y', y', y', y', y', y', y', y', y', y', y', y', y', y', y', y', y', y', y', y', y', y', y', y', y', y', y', y', y', n', n', n', n', n', n', n'] rfl rfl (any_of HT_.out (by kernel_rfl)) (fun _ _ _ h => h) (Or.inr ⟨by rfl, rfl⟩) ?_ ?_; rotate_left
             ·exact qP
             refine pure_ (i := 32) (N := some 134) (v := undef) (a' := ?_) #[y', y', y', y', y', y', y', y', y', y', y', y', y', y', y', y', y', y', y', y', y', y', y', y', y', y', y', y', y', y', y', y', y', n', n', n', n', n', n'] rfl rfl (any_of HT_.out (by kernel_rfl)) (fun _ _ _ h => h) (Or.inr ⟨by rfl, rfl⟩) ?_ ?_; rotate_left
             ·exact qP
             refine pure_ (i := 33) (N := some 135) (v := undef) (a' := ?_) #[y', y', y', y', y', y', y', y', y', y', y', y', y', y', y', y', y', y', y', y', y', y', y', y', y', y', y', y', y', y', y', y', y', y', n', n', n', n', n'] rfl rfl (any_of HT_.out (by kernel_rfl)) (fun _ _ _ h => h) (Or.inr ⟨by rfl, rfl⟩) ?_ ?_; rotate_left
             ·exact qP
             refine pure_ (i := 34) (N := some 136) (v := undef) (a' := ?_) #[y', y', y', y', y', y', y', y', y', y', y', y', y', y', y', y', y', y', y', y', y', y', y', y', y', y', y', y', y', y', y', y', y', y', y', n', n', n', n'] rfl rfl (any_of HT_.out (by kernel_rfl)) (fun _ _ _ h => h) (Or.inr ⟨by rfl, rfl⟩) ?_ ?_; rotate_left
             ·exact qP
             refine pure_ (i := 35) (N := some 137) (v := undef) (a' := ?_) #[y', y', y', y', y', y', y', y', y', y', y', y', y', y', y', y', y', y', y', y', y', y', y', y', y', y', y', y', y', y', y', y', y', y', y', y', n', n', n'] rfl rfl (any_of HT_.out (by kernel_rfl)) (fun _ _ _ h => h) (Or.inr ⟨by rfl, rfl⟩) ?_ ?_; rotate_left
             ·exact qP
             refine pure_ (i := 36) (N := some 138) (v := undef) (a' := ?_) #[y', y', y', y', y', y', y', y', y', y', y', y', y', y', y', y', y', y', y', y', y', y', y', y', y', y', y', y', y', y', y', y', y', y', y', y', y', n', n'] rfl rfl (any_of HT_.out (by kernel_rfl)) (fun _ _ _ h => h) (Or.inr ⟨by rfl, rfl⟩) ?_ ?_; rotate_left
             ·exact qP
             refine pure_ (i := 37) (N := some 139) (v := undef) (a' := ?_) #[y', y', y', y', y', y', y', y', y', y', y', y', y', y', y', y', y', y', y', y', y', y', y', y', y', y', y', y', y', y', y', y', y', y', y', y', y', y', n'] rfl rfl (any_of HT_.out (by kernel_rfl)) (fun _ _ _ h => h) (Or.inr ⟨by rfl, rfl⟩) ?_ ?_; rotate_left
             ·exact qP
             refine pure_ (i := 38) (N := some 140) (v := ?_) (a' := ?_) #[y', y', y', y', y', y', y', y', y', y', y', y', y', y', y', y', y', y', y', y', y', y', y', y', y', y', y', y', y', y', y', y', y', y', y', y', y', y', y'] rfl rfl (any_of HT_.out (by kernel_rfl)) (fun _ _ _ h => h) (Or.inl ⟨by rfl, ?_⟩) ?_ ?_; rotate_left
             ·exact qI
             rotate_left
             ·exact qP
             refine done_ (done_of HT_.out (by kernel_rfl)) ?_; try go_wp2
             go_meet
             case rel => exact ⟨_, (true), qS, H', ⟨by have := HJ1.out; have := HK2.out; have := HK3.out; first | omega | exact Nat.le_refl _⟩, ⟨qB BK0.out⟩, ⟨qB BK111.out⟩, ⟨qK1 HB.out GE111.out⟩⟩
           case rest =>
            clear HC37; try clear p2
            try clear c4
            try clear p6
            try clear c8
            try clear c43
            try clear c45
            try clear c46
            try clear c47
            obtain ⟨kq, x140_36, rfl, HA, HJ36, BK0, BK111, HB⟩ := hcut
            cases kq with
            | zero => exact absurd HA.out (by simp [spec_l09Ok.j6])
            | succ kj36 =>
             have H := HA.out; clear HA; simp only [spec_l09Ok.j6] at H
             by_cases c60 : x140_36 = true
             ·subst c60; have H1 : (some false) = some r := by rw [if_pos rfl] at H; exact H
              clear H; have H := H1; clear H1; obtain rfl := Option.some.inj H; go_wp2; go_ret; exact ⟨qE, qK1 HB.out GE111.out⟩
             ·replace c60 := Bool.eq_false_iff.mpr c60; subst c60; have H1 : (spec_l09Ok.l3 kj36 (l0_0.length : Int) x4_2 x8_3 0 l0_0 l0_1 ((rd_T104 l0_1 x8_3).f0) ((rd_T104 l0_1 x8_3).f1) ((rd_T104 l0_1 x8_3).f2)) = some r := by rw [if_neg (show ¬ (false = true) by decide)] at H; exact H
              clear H; have H := H1; clear H1; have H' := A' H; clear H; go_wp2
              go_loopg [10] kj36 (fun kq v10 w' => ∃ (x10_5 : Int), v10 = .int .i64 x10_5 ∧ Aside0 (spec_l09Ok.l3 kq (l0_0.length : Int) x4_2 x8_3 x10_5 l0_0 l0_1 ((rd_T104 l0_1 x8_3).f0) ((rd_T104 l0_1 x8_3).f1) ((rd_T104 l0_1 x8_3).f2) = some r) ∧ Aside0 (kq ≤ kj36) ∧ Aside0 (w'.heap[gp0]? = some (.cells #[(.slice A0_0 l0_0.length c0_0), (.slice (some ad110) l0_1.length c0_1)] 33 (0, 0))) ∧ Aside0 (w'.heap[gb111]? = some (.cells #[.int .i64 ((rd_T104 l0_1 x8_3).f0), .int .i64 ((rd_T104 l0_1 x8_3).f1), .bool ((rd_T104 l0_1 x8_3).f2)] 104 (0, 0))) ∧ Aside0 (Below w.heap.size w w'))
              case atStart => exact ⟨(0), qS, H', ⟨Nat.le_refl _⟩, ⟨qB BK0.out⟩, ⟨qB BK111.out⟩, ⟨qK1 HB.out GE111.out⟩⟩
              case round =>
               clear H'; try clear p2
               try clear c4
               try clear c6
               try clear p6
               try clear c8
               try clear c43
               try clear c45
               try clear c46
               try clear c47
               try clear c60
               try clear p2
               try clear p6
               obtain ⟨x10_5, rfl, HA, HK5, BK0, BK111, HB⟩ := hrel
               cases gk with
               | zero => exact absurd HA.out (by simp [spec_l09Ok.l3])
               | succ k5 =>
                have H := HA.out; clear HA; simp only [spec_l09Ok.l3] at H
                by_cases c61 : x10_5 < x8_3
                ·rw [if_pos c61] at H; have c61b0 : decide (x10_5 < x8_3) = true := dT' c61; clear c61
                 by_cases c62 : 0 ≤ x10_5
                 ·rw [if_pos c62] at H; have c62b0 : decide (0 ≤ x10_5) = true := dT' c62; clear c62
                  by_cases c63 : x10_5 < (l0_1.length : Int)
                  ·rw [if_pos c63] at H; have c63b0 : decide (x10_5 < (l0_1.length : Int)) = true := dT' c63; clear c63
                   by_cases c64 : ((rd_T104 l0_1 x10_5).f0) = ((rd_T104 l0_1 x8_3).f0)
                   ·rw [if_pos c64] at H; have c64b0 : (((rd_T104 l0_1 x10_5).f0) == ((rd_T104 l0_1 x8_3).f0)) = true := beq_iff_eq.mpr c64; have c64b1 : (((rd_T104 l0_1 x10_5).f0) != ((rd_T104 l0_1 x8_3).f0)) = false := bne_eq_false_iff_eq.mpr c64; clear c64
                    by_cases c65 : ((rd_T104 l0_1 x10_5).f1) = ((rd_T104 l0_1 x8_3).f1)
                    ·rw [if_pos c65] at H; have c65b0 : (((rd_T104 l0_1 x10_5).f1) == ((rd_T104 l0_1 x8_3).f1)) = true := beq_iff_eq.mpr c65; have c65b1 : (((rd_T104 l0_1 x10_5).f1) != ((rd_T104 l0_1 x8_3).f1)) = false := bne_eq_false_iff_eq.mpr c65; clear c65; obtain rfl := Option.some.inj H; try go_wp2
                     have n0_ := A' (I' BK0.out); have n1_ := A' (I' BK111.out); have n2_ := A' (J' HB.out); clear BK0; clear BK111; clear HB; have BK0 := n0_; have BK111 := n1_; have HB := n2_; clear n0_ n1_ n2_; have p116 : 0 ≤ (x10_5 : Int) := oD' qA; have q116 : x10_5 < (l0_1.length : Int) := oD' qA; obtain ⟨ad116, e116, hx116_0, hx116_1, hx116_2⟩ := at_T104 HR0_1.out x10_5 p116 q116; have hw116_2 := hx116_2; have hw116_1 := hx116_1; have hw116_0 := hx116_0; obtain rfl : ad110 = ad116 := (by injection e116)
                     try replace hx116_0 := qC HB.out hx116_0
                     try replace hx116_1 := qC HB.out hx116_1
                     try replace hx116_2 := qC HB.out hx116_2
                     replace p116 := eq_true p116; replace q116 := eq_true q116; have p117 : 0 ≤ (x10_5 : Int) := oD' qA; have q117 : x10_5 < (l0_1.length : Int) := oD' qA; obtain ⟨ad117, e117, hx117_0, hx117_1, hx117_2⟩ := at_T104 HR0_1.out x10_5 p117 q117; have hw117_2 := hx117_2; have hw117_1 := hx117_1; have hw117_0 := hx117_0; obtain rfl : ad110 = ad117 := (by injection e117)
                     try replace hx117_0 := qC HB.out hx117_0
                     try replace hx117_1 := qC HB.out hx117_1
                     try replace hx117_2 := qC HB.out hx117_2
                     replace p117 := eq_true p117; replace q117 := eq_true q117; refine start_ (n := 24) (S := fun w' => w'.cell? ⟨gp0, 0, none⟩ = some (.slice A0_0 l0_0.length c0_0) ∧ w'.cell? ⟨gp0, 1, none⟩ = some (.slice (some ad110) l0_1.length c0_1) ∧ w'.cell? ⟨gb111, 0, none⟩ = some (.int .i64 ((rd_T104 l0_1 x8_3).f0)) ∧ w'.cell? ⟨gb111, 1, none⟩ = some (.int .i64 ((rd_T104 l0_1 x8_3).f1)) ∧ w'.cell? ⟨gb111, 2, none⟩ = some (.bool ((rd_T104 l0_1 x8_3).f2)) ∧ w'.cell? (ad110.add ((x10_5).toNat * 3)) = some (.int .i64 ((rd_T104 l0_1 x10_5).f0)) ∧ w'.cell? ⟨(ad110.add ((x10_5).toNat * 3)).block, (ad110.add ((x10_5).toNat * 3)).off + 1, none⟩ = some (.int .i64 ((rd_T104 l0_1 x10_5).f1)) ∧ w'.cell? ⟨(ad110.add ((x10_5).toNat * 3)).block, (ad110.add ((x10_5).toNat * 3)).off + 2, none⟩ = some (.bool ((rd_T104 l0_1 x10_5).f2)) ∧ w'.cell? (ad110.add ((x10_5).toNat * 3)) = some (.int .i64 ((rd_T104 l0_1 x10_5).f0)) ∧ w'.cell? ⟨(ad110.add ((x10_5).toNat * 3)).block, (ad110.add ((x10_5).toNat * 3)).off + 1, none⟩ = some (.int .i64 ((rd_T104 l0_1 x10_5).f1)) ∧ w'.cell? ⟨(ad110.add ((x10_5).toNat * 3)).block, (ad110.add ((x10_5).toNat * 3)).off + 2, none⟩ = some (.bool ((rd_T104 l0_1 x10_5).f2))) (ds := []) #[n', n', n', n', n', n', n', n', n', n', n', n', n', n', n', n', n', n', n', n', n', n', n', n'] (by kernel_rfl) rfl rfl ⟨(N' BK0.out 0).trans rfl, (N' BK0.out 1).trans rfl, (N' BK111.out 0).trans rfl, (N' BK111.out 1).trans rfl, (N' BK111.out 2).trans rfl, (qC HB.out hw116_0 :), (qC HB.out hw116_1 :), (qC HB.out hw116_2 :), (qC HB.out hw117_0 :), (qC HB.out hw117_1 :), (qC HB.out hw117_2 :)⟩ (fun hHeld => ?_); refine with_tabW spec_l09Ok.tab27 spec_l09Ok.bits27 (fun HT_ HW_ => ?_)
                     generalize wr.drew = w66 at BK0 BK111 HB hx116_0 hx116_1 hx116_2 hx117_0 hx117_1 hx117_2 hHeld ⊢
                     refine pure_ (i := 0) (N := some 146) (v := ?_) (a' := ?_) #[y', n', n', n', n', n', n', n', n', n', n', n', n', n', n', n', n', n', n', n', n', n', n', n'] rfl rfl (any_of HT_.out (by kernel_rfl)) (fun _ _ _ h => h) (Or.inl ⟨by rfl, ?_⟩) ?_ ?_; rotate_left
                     ·exact qI
                     rotate_left
                     ·exact qP
                     refine pure_ (i := 1) (N := some 147) (v := ?_) (a' := ?_) #[y', y', n', n', n', n', n', n', n', n', n', n', n', n', n', n', n', n', n', n', n', n', n', n'] rfl rfl (any_of HT_.out (by kernel_rfl)) (fun _ _ _ h => h) (Or.inl ⟨by rfl, ?_⟩) ?_ ?_; rotate_left
                     ·exact qI
                     rotate_left
                     ·exact qP
                     refine pure_ (i := 2) (N := some 148) (v := ?_) (a' := ?_) #[y', y', y', n', n', n', n', n', n', n', n', n', n', n', n', n', n', n', n', n', n', n', n', n'] rfl rfl (any_of HT_.out (by kernel_rfl)) (fun _ _ _ h => h) (Or.inl ⟨by rfl, ?_⟩) ?_ ?_; rotate_left
                     ·exact qI
                     rotate_left
                     ·exact qP
                     refine pure_ (i := 4) (N := some 150) (v := ?_) (a' := ?_) #[y', y', y', n', y', n', n', n', n', n', n', n', n', n', n', n', n', n', n', n', n', n', n', n'] rfl rfl (any_of HT_.out (by kernel_rfl)) (fun _ _ _ h => h) (Or.inl ⟨by rfl, ?_⟩) ?_ ?_; rotate_left
                     ·exact qI
                     rotate_left
                     ·exact qP
                     refine pure_ (i := 8) (N := some 154) (v := ?_) (a' := ?_) #[y', y', y', n', y', n', n', n', y', n', n', n', n', n', n', n', n', n', n', n', n', n', n', n'] rfl rfl (any_of HT_.out (by kernel_rfl)) (fun _ _ _ h => h) (Or.inl ⟨by rfl, ?_⟩) ?_ ?_; rotate_left
                     ·exact qI
                     rotate_left
                     ·exact qP
                     refine take_ (i := 3) (N := some 149) (v := ?_) (a' := ?_) #[y', y', y', y', y', n', n', n', y', n', n', n', n', n', n', n', n', n', n', n', n', n', n', n'] rfl rfl (take_ofW HT_.out HW_.out (by kernel_rfl)) (fun _ _ _ h => h) (Or.inl ⟨by rfl, ?_⟩) hHeld ?_ ?_; rotate_left
                     ·rintro w' ⟨s0, s1, s2, s3, s4, s5, s6, s7, s8, s9, s10⟩; go_simp; with_reducible rfl
                     rotate_left
                     ·exact qP
                     refine pure_ (i := 5) (N := some 151) (v := ?_) (a' := ?_) #[y', y', y', y', y', y', n', n', y', n', n', n', n', n', n', n', n', n', n', n', n', n', n', n'] rfl rfl (any_of HT_.out (by kernel_rfl)) (fun _ _ _ h => h) (Or.inl ⟨by rfl, ?_⟩) ?_ ?_; rotate_left
                     ·exact qI
                     rotate_left
                     ·exact qP
                     refine pure_ (i := 6) (N := some 152) (v := ?_) (a' := ?_) #[y', y', y', y', y', y', y', n', y', n', n', n', n', n', n', n', n', n', n', n', n', n', n', n'] rfl rfl (any_of HT_.out (by kernel_rfl)) (fun _ _ _ h => h) (Or.inl ⟨by rfl, ?_⟩) ?_ ?_; rotate_left
                     ·exact qI
                     rotate_left
                     ·exact qP
                     refine take_ (i := 7) (N := some 153) (v := ?_) (a' := ?_) #[y', y', y', y', y', y', y', y', y', n', n', n', n', n', n', n', n', n', n', n', n', n', n', n'] rfl rfl (take_ofW HT_.out HW_.out (by kernel_rfl)) (fun _ _ _ h => h) (Or.inl ⟨by rfl, ?_⟩) hHeld ?_ ?_; rotate_left
                     ·rintro w' ⟨s0, s1, s2, s3, s4, s5, s6, s7, s8, s9, s10⟩; go_simp; with_reducible rfl
                     rotate_left
                     ·exact qP
                     refine take_ (i := 9) (N := some 155) (v := ?_) (a' := ?_) #[y', y', y', y', y', y', y', y', y', y', n', n', n', n', n', n', n', n', n', n', n', n', n', n'] rfl rfl (take_ofW HT_.out HW_.out (by kernel_rfl)) (fun _ _ _ h => h) (Or.inl ⟨by rfl, ?_⟩) hHeld ?_ ?_; rotate_left
                     ·rintro w' ⟨s0, s1, s2, s3, s4, s5, s6, s7, s8, s9, s10⟩; go_simp; with_reducible rfl
                     rotate_left
                     ·exact qP
                     refine pure_ (i := 10) (N := some 156) (v := ?_) (a' := ?_) #[y', y', y', y', y', y', y', y', y', y', y', n', n', n', n', n', n', n', n', n', n', n', n', n'] rfl rfl (any_of HT_.out (by kernel_rfl)) (fun _ _ _ h => h) (Or.inl ⟨by rfl, ?_⟩) ?_ ?_; rotate_left
                     ·exact qI
                     rotate_left
                     ·exact qP
                     refine pure_ (i := 11) (N := some 157) (v := ?_) (a' := ?_) #[y', y', y', y', y', y', y', y', y', y', y', y', n', n', n', n', n', n', n', n', n', n', n', n'] rfl rfl (any_of HT_.out (by kernel_rfl)) (fun _ _ _ h => h) (Or.inl ⟨by rfl, ?_⟩) ?_ ?_; rotate_left
                     ·exact qI
                     rotate_left
                     ·exact qP
                     refine pure_ (i := 12) (N := some 158) (v := ?_) (a' := ?_) #[y', y', y', y', y', y', y', y', y', y', y', y', y', n', n', n', n', n', n', n', n', n', n', n'] rfl rfl (any_of HT_.out (by kernel_rfl)) (fun _ _ _ h => h) (Or.inl ⟨by rfl, ?_⟩) ?_ ?_; rotate_left
                     ·exact qI
                     rotate_left
                     ·exact qP
                     refine pure_ (i := 13) (N := some 159) (v := ?_) (a' := ?_) #[y', y', y', y', y', y', y', y', y', y', y', y', y', y', n', n', n', n', n', n', n', n', n', n'] rfl rfl (any_of HT_.out (by kernel_rfl)) (fun _ _ _ h => h) (Or.inl ⟨by rfl, ?_⟩) ?_ ?_; rotate_left
                     ·exact qI
                     rotate_left
                     ·exact qP
                     refine pure_ (i := 14) (N := some 160) (v := ?_) (a' := ?_) #[y', y', y', y', y', y', y', y', y', y', y', y', y', y', y', n', n', n', n', n', n', n', n', n'] rfl rfl (any_of HT_.out (by kernel_rfl)) (fun _ _ _ h => h) (Or.inl ⟨by rfl, ?_⟩) ?_ ?_; rotate_left
                     ·exact qI
                     rotate_left
                     ·exact qP
                     refine pure_ (i := 16) (N := some 162) (v := ?_) (a' := ?_) #[y', y', y', y', y', y', y', y', y', y', y', y', y', y', y', n', y', n', n', n', n', n', n', n'] rfl rfl (any_of HT_.out (by kernel_rfl)) (fun _ _ _ h => h) (Or.inl ⟨by rfl, ?_⟩) ?_ ?_; rotate_left
                     ·exact qI
                     rotate_left
                     ·exact qP
                     refine pure_ (i := 20) (N := some 166) (v := ?_) (a' := ?_) #[y', y', y', y', y', y', y', y', y', y', y', y', y', y', y', n', y', n', n', n', y', n', n', n'] rfl rfl (any_of HT_.out (by kernel_rfl)) (fun _ _ _ h => h) (Or.inl ⟨by rfl, ?_⟩) ?_ ?_; rotate_left
                     ·exact qI
                     rotate_left
                     ·exact qP
                     refine take_ (i := 15) (N := some 161) (v := ?_) (a' := ?_) #[y', y', y', y', y', y', y', y', y', y', y', y', y', y', y', y', y', n', n', n', y', n', n', n'] rfl rfl (take_ofW HT_.out HW_.out (by kernel_rfl)) (fun _ _ _ h => h) (Or.inl ⟨by rfl, ?_⟩) hHeld ?_ ?_; rotate_left
                     ·rintro w' ⟨s0, s1, s2, s3, s4, s5, s6, s7, s8, s9, s10⟩; go_simp; with_reducible rfl
                     rotate_left
                     ·exact qP
                     refine pure_ (i := 17) (N := some 163) (v := ?_) (a' := ?_) #[y', y', y', y', y', y', y', y', y', y', y', y', y', y', y', y', y', y', n', n', y', n', n', n'] rfl rfl (any_of HT_.out (by kernel_rfl)) (fun _ _ _ h => h) (Or.inl ⟨by rfl, ?_⟩) ?_ ?_; rotate_left
                     ·exact qI
                     rotate_left
                     ·exact qP
                     refine pure_ (i := 18) (N := some 164) (v := ?_) (a' := ?_) #[y', y', y', y', y', y', y', y', y', y', y', y', y', y', y', y', y', y', y', n', y', n', n', n'] rfl rfl (any_of HT_.out (by kernel_rfl)) (fun _ _ _ h => h) (Or.inl ⟨by rfl, ?_⟩) ?_ ?_; rotate_left
                     ·exact qI
                     rotate_left
                     ·exact qP
                     refine take_ (i := 19) (N := some 165) (v := ?_) (a' := ?_) #[y', y', y', y', y', y', y', y', y', y', y', y', y', y', y', y', y', y', y', y', y', n', n', n'] rfl rfl (take_ofW HT_.out HW_.out (by kernel_rfl)) (fun _ _ _ h => h) (Or.inl ⟨by rfl, ?_⟩) hHeld ?_ ?_; rotate_left
                     ·rintro w' ⟨s0, s1, s2, s3, s4, s5, s6, s7, s8, s9, s10⟩; go_simp; with_reducible rfl
                     rotate_left
                     ·exact qP
                     refine take_ (i := 21) (N := some 167) (v := ?_) (a' := ?_) #[y', y', y', y', y', y', y', y', y', y', y', y', y', y', y', y', y', y', y', y', y', y', n', n'] rfl rfl (take_ofW HT_.out HW_.out (by kernel_rfl)) (fun _ _ _ h => h) (Or.inl ⟨by rfl, ?_⟩) hHeld ?_ ?_; rotate_left
                     ·rintro w' ⟨s0, s1, s2, s3, s4, s5, s6, s7, s8, s9, s10⟩; go_simp; with_reducible rfl
                     rotate_left
                     ·exact qP
                     refine pure_ (i := 22) (N := some 168) (v := ?_) (a' := ?_) #[y', y', y', y', y', y', y', y', y', y', y', y', y', y', y', y', y', y', y', y', y', y', y', n'] rfl rfl (any_of HT_.out (by kernel_rfl)) (fun _ _ _ h => h) (Or.inl ⟨by rfl, ?_⟩) ?_ ?_; rotate_left
                     ·exact qI
                     rotate_left
                     ·exact qP
                     refine pure_ (i := 23) (N := some 169) (v := ?_) (a' := ?_) #[y', y', y', y', y', y', y', y', y', y', y', y', y', y', y', y', y', y', y', y', y', y', y', y'] rfl rfl (any_of HT_.out (by kernel_rfl)) (fun _ _ _ h => h) (Or.inl ⟨by rfl, ?_⟩) ?_ ?_; rotate_left
                     ·exact qI
                     rotate_left
                     ·exact qP
                     refine done_ (done_of HT_.out (by kernel_rfl)) ?_; try go_wp2
                     go_ret; exact ⟨qE, qK1 HB.out GE111.out⟩
                    ·rw [if_neg c65] at H; have c65b0 : (((rd_T104 l0_1 x10_5).f1) == ((rd_T104 l0_1 x8_3).f1)) = false := beq_eq_false_iff_ne.mpr c65; have c65b1 : (((rd_T104 l0_1 x10_5).f1) != ((rd_T104 l0_1 x8_3).f1)) = true := bne_iff_ne.mpr c65; have H' := A' H; clear H; try go_wp2
                     have n0_ := A' (I' BK0.out); have n1_ := A' (I' BK111.out); have n2_ := A' (J' HB.out); clear BK0; clear BK111; clear HB; have BK0 := n0_; have BK111 := n1_; have HB := n2_; clear n0_ n1_ n2_; have p116 : 0 ≤ (x10_5 : Int) := oD' qA; have q116 : x10_5 < (l0_1.length : Int) := oD' qA; obtain ⟨ad116, e116, hx116_0, hx116_1, hx116_2⟩ := at_T104 HR0_1.out x10_5 p116 q116; have hw116_2 := hx116_2; have hw116_1 := hx116_1; have hw116_0 := hx116_0; obtain rfl : ad110 = ad116 := (by injection e116)
                     try replace hx116_0 := qC HB.out hx116_0
                     try replace hx116_1 := qC HB.out hx116_1
                     try replace hx116_2 := qC HB.out hx116_2
                     replace p116 := eq_true p116; replace q116 := eq_true q116; have p117 : 0 ≤ (x10_5 : Int) := oD' qA; have q117 : x10_5 < (l0_1.length : Int) := oD' qA; obtain ⟨ad117, e117, hx117_0, hx117_1, hx117_2⟩ := at_T104 HR0_1.out x10_5 p117 q117; have hw117_2 := hx117_2; have hw117_1 := hx117_1; have hw117_0 := hx117_0; obtain rfl : ad110 = ad117 := (by injection e117)
                     try replace hx117_0 := qC HB.out hx117_0
                     try replace hx117_1 := qC HB.out hx117_1
                     try replace hx117_2 := qC HB.out hx117_2
                     replace p117 := eq_true p117; replace q117 := eq_true q117; refine start_ (n := 24) (S := fun w' => w'.cell? ⟨gp0, 0, none⟩ = some (.slice A0_0 l0_0.length c0_0) ∧ w'.cell? ⟨gp0, 1, none⟩ = some (.slice (some ad110) l0_1.length c0_1) ∧ w'.cell? ⟨gb111, 0, none⟩ = some (.int .i64 ((rd_T104 l0_1 x8_3).f0)) ∧ w'.cell? ⟨gb111, 1, none⟩ = some (.int .i64 ((rd_T104 l0_1 x8_3).f1)) ∧ w'.cell? ⟨gb111, 2, none⟩ = some (.bool ((rd_T104 l0_1 x8_3).f2)) ∧ w'.cell? (ad110.add ((x10_5).toNat * 3)) = some (.int .i64 ((rd_T104 l0_1 x10_5).f0)) ∧ w'.cell? ⟨(ad110.add ((x10_5).toNat * 3)).block, (ad110.add ((x10_5).toNat * 3)).off + 1, none⟩ = some (.int .i64 ((rd_T104 l0_1 x10_5).f1)) ∧ w'.cell? ⟨(ad110.add ((x10_5).toNat * 3)).block, (ad110.add ((x10_5).toNat * 3)).off + 2, none⟩ = some (.bool ((rd_T104 l0_1 x10_5).f2)) ∧ w'.cell? (ad110.add ((x10_5).toNat * 3)) = some (.int .i64 ((rd_T104 l0_1 x10_5).f0)) ∧ w'.cell? ⟨(ad110.add ((x10_5).toNat * 3)).block, (ad110.add ((x10_5).toNat * 3)).off + 1, none⟩ = some (.int .i64 ((rd_T104 l0_1 x10_5).f1)) ∧ w'.cell? ⟨(ad110.add ((x10_5).toNat * 3)).block, (ad110.add ((x10_5).toNat * 3)).off + 2, none⟩ = some (.bool ((rd_T104 l0_1 x10_5).f2))) (ds := []) #[n', n', n', n', n', n', n', n', n', n', n', n', n', n', n', n', n', n', n', n', n', n', n', n'] (by kernel_rfl) rfl rfl ⟨(N' BK0.out 0).trans rfl, (N' BK0.out 1).trans rfl, (N' BK111.out 0).trans rfl, (N' BK111.out 1).trans rfl, (N' BK111.out 2).trans rfl, (qC HB.out hw116_0 :), (qC HB.out hw116_1 :), (qC HB.out hw116_2 :), (qC HB.out hw117_0 :), (qC HB.out hw117_1 :), (qC HB.out hw117_2 :)⟩ (fun hHeld => ?_); refine with_tabW spec_l09Ok.tab27 spec_l09Ok.bits27 (fun HT_ HW_ => ?_)
                     generalize wr.drew = w67 at BK0 BK111 HB hx116_0 hx116_1 hx116_2 hx117_0 hx117_1 hx117_2 hHeld ⊢
                     refine pure_ (i := 0) (N := some 146) (v := ?_) (a' := ?_) #[y', n', n', n', n', n', n', n', n', n', n', n', n', n', n', n', n', n', n', n', n', n', n', n'] rfl rfl (any_of HT_.out (by kernel_rfl)) (fun _ _ _ h => h) (Or.inl ⟨by rfl, ?_⟩) ?_ ?_; rotate_left
                     ·exact qI
                     rotate_left
                     ·exact qP
                     refine pure_ (i := 1) (N := some 147) (v := ?_) (a' := ?_) #[y', y', n', n', n', n', n', n', n', n', n', n', n', n', n', n', n', n', n', n', n', n', n', n'] rfl rfl (any_of HT_.out (by kernel_rfl)) (fun _ _ _ h => h) (Or.inl ⟨by rfl, ?_⟩) ?_ ?_; rotate_left
                     ·exact qI
                     rotate_left
                     ·exact qP
                     refine pure_ (i := 2) (N := some 148) (v := ?_) (a' := ?_) #[y', y', y', n', n', n', n', n', n', n', n', n', n', n', n', n', n', n', n', n', n', n', n', n'] rfl rfl (any_of HT_.out (by kernel_rfl)) (fun _ _ _ h => h) (Or.inl ⟨by rfl, ?_⟩) ?_ ?_; rotate_left
                     ·exact qI
                     rotate_left
                     ·exact qP
                     refine pure_ (i := 4) (N := some 150) (v := ?_) (a' := ?_) #[y', y', y', n', y', n', n', n', n', n', n', n', n', n', n', n', n', n', n', n', n', n', n', n'] rfl rfl (any_of HT_.out (by kernel_rfl)) (fun _ _ _ h => h) (Or.inl ⟨by rfl, ?_⟩) ?_ ?_; rotate_left
                     ·exact qI
                     rotate_left
                     ·exact qP
                     refine pure_ (i := 8) (N := some 154) (v := ?_) (a' := ?_) #[y', y', y', n', y', n', n', n', y', n', n', n', n', n', n', n', n', n', n', n', n', n', n', n'] rfl rfl (any_of HT_.out (by kernel_rfl)) (fun _ _ _ h => h) (Or.inl ⟨by rfl, ?_⟩) ?_ ?_; rotate_left
                     ·exact qI
                     rotate_left
                     ·exact qP
                     refine take_ (i := 3) (N := some 149) (v := ?_) (a' := ?_) #[y', y', y', y', y', n', n', n', y', n', n', n', n', n', n', n', n', n', n', n', n', n', n', n'] rfl rfl (take_ofW HT_.out HW_.out (by kernel_rfl)) (fun _ _ _ h => h) (Or.inl ⟨by rfl, ?_⟩) hHeld ?_ ?_; rotate_left
                     ·rintro w' ⟨s0, s1, s2, s3, s4, s5, s6, s7, s8, s9, s10⟩; go_simp; with_reducible rfl
                     rotate_left
                     ·exact qP
                     refine pure_ (i := 5) (N := some 151) (v := ?_) (a' := ?_) #[y', y', y', y', y', y', n', n', y', n', n', n', n', n', n', n', n', n', n', n', n', n', n', n'] rfl rfl (any_of HT_.out (by kernel_rfl)) (fun _ _ _ h => h) (Or.inl ⟨by rfl, ?_⟩) ?_ ?_; rotate_left
                     ·exact qI
                     rotate_left
                     ·exact qP
                     refine pure_ (i := 6) (N := some 152) (v := ?_) (a' := ?_) #[y', y', y', y', y', y', y', n', y', n', n', n', n', n', n', n', n', n', n', n', n', n', n', n'] rfl rfl (any_of HT_.out (by kernel_rfl)) (fun _ _ _ h => h) (Or.inl ⟨by rfl, ?_⟩) ?_ ?_; rotate_left
                     ·exact qI
                     rotate_left
                     ·exact qP
                     refine take_ (i := 7) (N := some 153) (v := ?_) (a' := ?_) #[y', y', y', y', y', y', y', y', y', n', n', n', n', n', n', n', n', n', n', n', n', n', n', n'] rfl rfl (take_ofW HT_.out HW_.out (by kernel_rfl)) (fun _ _ _ h => h) (Or.inl ⟨by rfl, ?_⟩) hHeld ?_ ?_; rotate_left
                     ·rintro w' ⟨s0, s1, s2, s3, s4, s5, s6, s7, s8, s9, s10⟩; go_simp; with_reducible rfl
                     rotate_left
                     ·exact qP
                     refine take_ (i := 9) (N := some 155) (v := ?_) (a' := ?_) #[y', y', y', y', y', y', y', y', y', y', n', n', n', n', n', n', n', n', n', n', n', n', n', n'] rfl rfl (take_ofW HT_.out HW_.out (by kernel_rfl)) (fun _ _ _ h => h) (Or.inl ⟨by rfl, ?_⟩) hHeld ?_ ?_; rotate_left
                     ·rintro w' ⟨s0, s1, s2, s3, s4, s5, s6, s7, s8, s9, s10⟩; go_simp; with_reducible rfl
                     rotate_left
                     ·exact qP
                     refine pure_ (i := 10) (N := some 156) (v := ?_) (a' := ?_) #[y', y', y', y', y', y', y', y', y', y', y', n', n', n', n', n', n', n', n', n', n', n', n', n'] rfl rfl (any_of HT_.out (by kernel_rfl)) (fun _ _ _ h => h) (Or.inl ⟨by rfl, ?_⟩) ?_ ?_; rotate_left
                     ·exact qI
                     rotate_left
                     ·exact qP
                     refine pure_ (i := 11) (N := some 157) (v := ?_) (a' := ?_) #[y', y', y', y', y', y', y', y', y', y', y', y', n', n', n', n', n', n', n', n', n', n', n', n'] rfl rfl (any_of HT_.out (by kernel_rfl)) (fun _ _ _ h => h) (Or.inl ⟨by rfl, ?_⟩) ?_ ?_; rotate_left
                     ·exact qI
                     rotate_left
                     ·exact qP
                     refine pure_ (i := 12) (N := some 158) (v := ?_) (a' := ?_) #[y', y', y', y', y', y', y', y', y', y', y', y', y', n', n', n', n', n', n', n', n', n', n', n'] rfl rfl (any_of HT_.out (by kernel_rfl)) (fun _ _ _ h => h) (Or.inl ⟨by rfl, ?_⟩) ?_ ?_; rotate_left
                     ·exact qI
                     rotate_left
                     ·exact qP
                     refine pure_ (i := 13) (N := some 159) (v := ?_) (a' := ?_) #[y', y', y', y', y', y', y', y', y', y', y', y', y', y', n', n', n', n', n', n', n', n', n', n'] rfl rfl (any_of HT_.out (by kernel_rfl)) (fun _ _ _ h => h) (Or.inl ⟨by rfl, ?_⟩) ?_ ?_; rotate_left
                     ·exact qI
                     rotate_left
                     ·exact qP
                     refine pure_ (i := 14) (N := some 160) (v := ?_) (a' := ?_) #[y', y', y', y', y', y', y', y', y', y', y', y', y', y', y', n', n', n', n', n', n', n', n', n'] rfl rfl (any_of HT_.out (by kernel_rfl)) (fun _ _ _ h => h) (Or.inl ⟨by rfl, ?_⟩) ?_ ?_; rotate_left
                     ·exact qI
                     rotate_left
                     ·exact qP
                     refine pure_ (i := 16) (N := some 162) (v := ?_) (a' := ?_) #[y', y', y', y', y', y', y', y', y', y', y', y', y', y', y', n', y', n', n', n', n', n', n', n'] rfl rfl (any_of HT_.out (by kernel_rfl)) (fun _ _ _ h => h) (Or.inl ⟨by rfl, ?_⟩) ?_ ?_; rotate_left
                     ·exact qI
                     rotate_left
                     ·exact qP
                     refine pure_ (i := 20) (N := some 166) (v := ?_) (a' := ?_) #[y', y', y', y', y', y', y', y', y', y', y', y', y', y', y', n', y', n', n', n', y', n', n', n'] rfl rfl (any_of HT_.out (by kernel_rfl)) (fun _ _ _ h => h) (Or.inl ⟨by rfl, ?_⟩) ?_ ?_; rotate_left
                     ·exact qI
                     rotate_left
                     ·exact qP
                     refine take_ (i := 15) (N := some 161) (v := ?_) (a' := ?_) #[y', y', y', y', y', y', y', y', y', y', y', y', y', y', y', y', y', n', n', n', y', n', n', n'] rfl rfl (take_ofW HT_.out HW_.out (by kernel_rfl)) (fun _ _ _ h => h) (Or.inl ⟨by rfl, ?_⟩) hHeld ?_ ?_; rotate_left
                     ·rintro w' ⟨s0, s1, s2, s3, s4, s5, s6, s7, s8, s9, s10⟩; go_simp; with_reducible rfl
                     rotate_left
                     ·exact qP
                     refine pure_ (i := 17) (N := some 163) (v := ?_) (a' := ?_) #[y', y', y', y', y', y', y', y', y', y', y', y', y', y', y', y', y', y', n', n', y', n', n', n'] rfl rfl (any_of HT_.out (by kernel_rfl)) (fun _ _ _ h => h) (Or.inl ⟨by rfl, ?_⟩) ?_ ?_; rotate_left
                     ·exact qI
                     rotate_left
                     ·exact qP
                     refine pure_ (i := 18) (N := some 164) (v := ?_) (a' := ?_) #[y', y', y', y', y', y', y', y', y', y', y', y', y', y', y', y', y', y', y', n', y', n', n', n'] rfl rfl (any_of HT_.out (by kernel_rfl)) (fun _ _ _ h => h) (Or.inl ⟨by rfl, ?_⟩) ?_ ?_; rotate_left
                     ·exact qI
                     rotate_left
                     ·exact qP
                     refine take_ (i := 19) (N := some 165) (v := ?_) (a' := ?_) #[y', y', y', y', y', y', y', y', y', y', y', y', y', y', y', y', y', y', y', y', y', n', n', n'] rfl rfl (take_ofW HT_.out HW_.out (by kernel_rfl)) (fun _ _ _ h => h) (Or.inl ⟨by rfl, ?_⟩) hHeld ?_ ?_; rotate_left
                     ·rintro w' ⟨s0, s1, s2, s3, s4, s5, s6, s7, s8, s9, s10⟩; go_simp; with_reducible rfl
                     rotate_left
                     ·exact qP
                     refine take_ (i := 21) (N := some 167) (v := ?_) (a' := ?_) #[y', y', y', y', y', y', y', y', y', y', y', y', y', y', y', y', y', y', y', y', y', y', n', n'] rfl rfl (take_ofW HT_.out HW_.out (by kernel_rfl)) (fun _ _ _ h => h) (Or.inl ⟨by rfl, ?_⟩) hHeld ?_ ?_; rotate_left
                     ·rintro w' ⟨s0, s1, s2, s3, s4, s5, s6, s7, s8, s9, s10⟩; go_simp; with_reducible rfl
                     rotate_left
                     ·exact qP
                     refine pure_ (i := 22) (N := some 168) (v := ?_) (a' := ?_) #[y', y', y', y', y', y', y', y', y', y', y', y', y', y', y', y', y', y', y', y', y', y', y', n'] rfl rfl (any_of HT_.out (by kernel_rfl)) (fun _ _ _ h => h) (Or.inl ⟨by rfl, ?_⟩) ?_ ?_; rotate_left
                     ·exact qI
                     rotate_left
                     ·exact qP
                     refine pure_ (i := 23) (N := some 169) (v := ?_) (a' := ?_) #[y', y', y', y', y', y', y', y', y', y', y', y', y', y', y', y', y', y', y', y', y', y', y', y'] rfl rfl (any_of HT_.out (by kernel_rfl)) (fun _ _ _ h => h) (Or.inl ⟨by rfl, ?_⟩) ?_ ?_; rotate_left
                     ·exact qI
                     rotate_left
                     ·exact qP
                     refine done_ (done_of HT_.out (by kernel_rfl)) ?_; try go_wp2
                     go_roundg k5
                     case measure => have := HJ1.out; have := HK2.out; have := HK3.out; have := HJ36.out; have := HK5.out; omega
                     case rel => exact ⟨(wrap64 (x10_5 + 1)), qS, H', ⟨by have := HJ1.out; have := HK2.out; have := HK3.out; have := HJ36.out; have := HK5.out; omega⟩, ⟨qB BK0.out⟩, ⟨qB BK111.out⟩, ⟨qK1 HB.out GE111.out⟩⟩
                   ·rw [if_neg c64] at H; have c64b0 : (((rd_T104 l0_1 x10_5).f0) == ((rd_T104 l0_1 x8_3).f0)) = false := beq_eq_false_iff_ne.mpr c64; have c64b1 : (((rd_T104 l0_1 x10_5).f0) != ((rd_T104 l0_1 x8_3).f0)) = true := bne_iff_ne.mpr c64; have H' := A' H; clear H; try go_wp2
                    have n0_ := A' (I' BK0.out); have n1_ := A' (I' BK111.out); have n2_ := A' (J' HB.out); clear BK0; clear BK111; clear HB; have BK0 := n0_; have BK111 := n1_; have HB := n2_; clear n0_ n1_ n2_; have p116 : 0 ≤ (x10_5 : Int) := oD' qA; have q116 : x10_5 < (l0_1.length : Int) := oD' qA; obtain ⟨ad116, e116, hx116_0, hx116_1, hx116_2⟩ := at_T104 HR0_1.out x10_5 p116 q116; have hw116_2 := hx116_2; have hw116_1 := hx116_1; have hw116_0 := hx116_0; obtain rfl : ad110 = ad116 := (by injection e116)
                    try replace hx116_0 := qC HB.out hx116_0
                    try replace hx116_1 := qC HB.out hx116_1
                    try replace hx116_2 := qC HB.out hx116_2
                    replace p116 := eq_true p116; replace q116 := eq_true q116; refine start_ (n := 24) (S := fun w' => w'.cell? ⟨gp0, 0, none⟩ = some (.slice A0_0 l0_0.length c0_0) ∧ w'.cell? ⟨gp0, 1, none⟩ = some (.slice (some ad110) l0_1.length c0_1) ∧ w'.cell? ⟨gb111, 0, none⟩ = some (.int .i64 ((rd_T104 l0_1 x8_3).f0)) ∧ w'.cell? ⟨gb111, 1, none⟩ = some (.int .i64 ((rd_T104 l0_1 x8_3).f1)) ∧ w'.cell? ⟨gb111, 2, none⟩ = some (.bool ((rd_T104 l0_1 x8_3).f2)) ∧ w'.cell? (ad110.add ((x10_5).toNat * 3)) = some (.int .i64 ((rd_T104 l0_1 x10_5).f0)) ∧ w'.cell? ⟨(ad110.add ((x10_5).toNat * 3)).block, (ad110.add ((x10_5).toNat * 3)).off + 1, none⟩ = some (.int .i64 ((rd_T104 l0_1 x10_5).f1)) ∧ w'.cell? ⟨(ad110.add ((x10_5).toNat * 3)).block, (ad110.add ((x10_5).toNat * 3)).off + 2, none⟩ = some (.bool ((rd_T104 l0_1 x10_5).f2))) (ds := []) #[n', n', n', n', n', n', n', n', n', n', n', n', n', n', n', n', n', n', n', n', n', n', n', n'] (by kernel_rfl) rfl rfl ⟨(N' BK0.out 0).trans rfl, (N' BK0.out 1).trans rfl, (N' BK111.out 0).trans rfl, (N' BK111.out 1).trans rfl, (N' BK111.out 2).trans rfl, (qC HB.out hw116_0 :), (qC HB.out hw116_1 :), (qC HB.out hw116_2 :)⟩ (fun hHeld => ?_); refine with_tabW spec_l09Ok.tab27 spec_l09Ok.bits27 (fun HT_ HW_ => ?_)
                    generalize wr.drew = w68 at BK0 BK111 HB hx116_0 hx116_1 hx116_2 hHeld ⊢
                    refine pure_ (i := 0) (N := some 146) (v := ?_) (a' := ?_) #[y', n', n', n', n', n', n', n', n', n', n', n', n', n', n', n', n', n', n', n', n', n', n', n'] rfl rfl (any_of HT_.out (by kernel_rfl)) (fun _ _ _ h => h) (Or.inl ⟨by rfl, ?_⟩) ?_ ?_; rotate_left
                    ·exact qI
                    rotate_left
                    ·exact qP
                    refine pure_ (i := 1) (N := some 147) (v := ?_) (a' := ?_) #[y', y', n', n', n', n', n', n', n', n', n', n', n', n', n', n', n', n', n', n', n', n', n', n'] rfl rfl (any_of HT_.out (by kernel_rfl)) (fun _ _ _ h => h) (Or.inl ⟨by rfl, ?_⟩) ?_ ?_; rotate_left
                    ·exact qI
                    rotate_left
                    ·exact qP
                    refine pure_ (i := 2) (N := some 148) (v := ?_) (a' := ?_) #[y', y', y', n', n', n', n', n', n', n', n', n', n', n', n', n', n', n', n', n', n', n', n', n'] rfl rfl (any_of HT_.out (by kernel_rfl)) (fun _ _ _ h => h) (Or.inl ⟨by rfl, ?_⟩) ?_ ?_; rotate_left
                    ·exact qI
                    rotate_left
                    ·exact qP
                    refine pure_ (i := 4) (N := some 150) (v := ?_) (a' := ?_) #[y', y', y', n', y', n', n', n', n', n', n', n', n', n', n', n', n', n', n', n', n', n', n', n'] rfl rfl (any_of HT_.out (by kernel_rfl)) (fun _ _ _ h => h) (Or.inl ⟨by rfl, ?_⟩) ?_ ?_; rotate_left
                    ·exact qI
                    rotate_left
                    ·exact qP
                    refine pure_ (i := 8) (N := some 154) (v := ?_) (a' := ?_) #[y', y', y', n', y', n', n', n', y', n', n', n', n', n', n', n', n', n', n', n', n', n', n', n'] rfl rfl (any_of HT_.out (by kernel_rfl)) (fun _ _ _ h => h) (Or.inl ⟨by rfl, ?_⟩) ?_ ?_; rotate_left
                    ·exact qI
                    rotate_left
                    ·exact qP
                    refine take_ (i := 3) (N := some 149) (v := ?_) (a' := ?_) #[y', y', y', y', y', n', n', n', y', n', n', n', n', n', n', n', n', n', n', n', n', n', n', n'] rfl rfl (take_ofW HT_.out HW_.out (by kernel_rfl)) (fun _ _ _ h => h) (Or.inl ⟨by rfl, ?_⟩) hHeld ?_ ?_; rotate_left
                    ·rintro w' ⟨s0, s1, s2, s3, s4, s5, s6, s7⟩; go_simp; with_reducible rfl
                    rotate_left
                    ·exact qP
                    refine pure_ (i := 5) (N := some 151) (v := ?_) (a' := ?_) #[y', y', y', y', y', y', n', n', y', n', n', n', n', n', n', n', n', n', n', n', n', n', n', n'] rfl rfl (any_of HT_.out (by kernel_rfl)) (fun _ _ _ h => h) (Or.inl ⟨by rfl, ?_⟩) ?_ ?_; rotate_left
                    ·exact qI
                    rotate_left
                    ·exact qP
                    refine pure_ (i := 6) (N := some 152) (v := ?_) (a' := ?_) #[y', y', y', y', y', y', y', n', y', n', n', n', n', n', n', n', n', n', n', n', n', n', n', n'] rfl rfl (any_of HT_.out (by kernel_rfl)) (fun _ _ _ h => h) (Or.inl ⟨by rfl, ?_⟩) ?_ ?_; rotate_left
                    ·exact qI
                    rotate_left
                    ·exact qP
                    refine take_ (i := 7) (N := some 153) (v := ?_) (a' := ?_) #[y', y', y', y', y', y', y', y', y', n', n', n', n', n', n', n', n', n', n', n', n', n', n', n'] rfl rfl (take_ofW HT_.out HW_.out (by kernel_rfl)) (fun _ _ _ h => h) (Or.inl ⟨by rfl, ?_⟩) hHeld ?_ ?_; rotate_left
                    ·rintro w' ⟨s0, s1, s2, s3, s4, s5, s6, s7⟩; go_simp; with_reducible rfl
                    rotate_left
                    ·exact qP
                    refine take_ (i := 9) (N := some 155) (v := ?_) (a' := ?_) #[y', y', y', y', y', y', y', y', y', y', n', n', n', n', n', n', n', n', n', n', n', n', n', n'] rfl rfl (take_ofW HT_.out HW_.out (by kernel_rfl)) (fun _ _ _ h => h) (Or.inl ⟨by rfl, ?_⟩) hHeld ?_ ?_; rotate_left
                    ·rintro w' ⟨s0, s1, s2, s3, s4, s5, s6, s7⟩; go_simp; with_reducible rfl
                    rotate_left
                    ·exact qP
                    refine pure_ (i := 10) (N := some 156) (v := ?_) (a' := ?_) #[y', y', y', y', y', y', y', y', y', y', y', n', n', n', n', n', n', n', n', n', n', n', n', n'] rfl rfl (any_of HT_.out (by kernel_rfl)) (fun _ _ _ h => h) (Or.inl ⟨by rfl, ?_⟩) ?_ ?_; rotate_left
                    ·exact qI
                    rotate_left
                    ·exact qP
                    refine pure_ (i := 11) (N := some 157) (v := ?_) (a' := ?_) #[y', y', y', y', y', y', y', y', y', y', y', y', n', n', n', n', n', n', n', n', n', n', n', n'] rfl rfl (any_of HT_.out (by kernel_rfl)) (fun _ _ _ h => h) (Or.inl ⟨by rfl, ?_⟩) ?_ ?_; rotate_left
                    ·exact qI
                    rotate_left
                    ·exact qP
                    refine pure_ (i := 12) (N := some 158) (v := undef) (a' := ?_) #[y', y', y', y', y', y', y', y', y', y', y', y', y', n', n', n', n', n', n', n', n', n', n', n'] rfl rfl (any_of HT_.out (by kernel_rfl)) (fun _ _ _ h => h) (Or.inr ⟨by rfl, rfl⟩) ?_ ?_; rotate_left
                    ·exact qP
                    refine pure_ (i := 13) (N := some 159) (v := undef) (a' := ?_) #[y', y', y', y', y', y', y', y', y', y', y', y', y', y', n', n', n', n', n', n', n', n', n', n'] rfl rfl (any_of HT_.out (by kernel_rfl)) (fun _ _ _ h => h) (Or.inr ⟨by rfl, rfl⟩) ?_ ?_; rotate_left
                    ·exact qP
                    refine pure_ (i := 14) (N := some 160) (v := undef) (a' := ?_) #[y', y', y', y', y', y', y', y', y', y', y', y', y', y', y', n', n', n', n', n', n', n', n', n'] rfl rfl (any_of HT_.out (by kernel_rfl)) (fun _ _ _ h => h) (Or.inr ⟨by rfl, rfl⟩) ?_ ?_; rotate_left
                    ·exact qP
                    refine pure_ (i := 15) (N := some 161) (v := undef) (a' := ?_) #[y', y', y', y', y', y', y', y', y', y', y', y', y', y', y', y', n', n', n', n', n', n', n', n'] rfl rfl (any_of HT_.out (by kernel_rfl)) (fun _ _ _ h => h) (Or.inr ⟨by rfl, rfl⟩) ?_ ?_; rotate_left
                    ·exact qP
                    refine pure_ (i := 16) (N := some 162) (v := undef) (a' := ?_) #[y', y', y', y', y', y', y', y', y', y', y', y', y', y', y', y', y', n', n', n', n', n', n', n'] rfl rfl (any_of HT_.out (by kernel_rfl)) (fun _ _ _ h => h) (Or.inr ⟨by rfl, rfl⟩) ?_ ?_; rotate_left
                    ·exact qP
                    refine pure_ (i := 17) (N := some 163) (v := undef) (a' := ?_) #[y', y', y', y', y', y', y', y', y', y', y', y', y', y', y', y', y', y', n', n', n', n', n', n'] rfl rfl (any_of HT_.out (by kernel_rfl)) (fun _ _ _ h => h) (Or.inr ⟨by rfl, rfl⟩) ?_ ?_; rotate_left
                    ·exact qP
                    refine pure_ (i := 18) (N := some 164) (v := undef) (a' := ?_) #[y', y', y', y', y', y', y', y', y', y', y', y', y', y', y', y', y', y', y', n', n', n', n', n'] rfl rfl (any_of HT_.out (by kernel_rfl)) (fun _ _ _ h => h) (Or.inr ⟨by rfl, rfl⟩) ?_ ?_; rotate_left
                    ·exact qP
                    refine pure_ (i := 19) (N := some 165) (v := undef) (a' := ?_) #[y', y', y', y', y', y', y', y', y', y', y', y', y', y', y', y', y', y', y', y', n', n', n', n'] rfl rfl (any_of HT_.out (by kernel_rfl)) (fun _ _ _ h => h) (Or.inr ⟨by rfl, rfl⟩) ?_ ?_; rotate_left
                    ·exact qP
                    refine pure_ (i := 20) (N := some 166) (v := undef) (a' := ?_) #[y', y', y', y', y', y', y', y', y', y', y', y', y', y', y', y', y', y', y', y', y', n', n', n'] rfl rfl (any_of HT_.out (by kernel_rfl)) (fun _ _ _ h => h) (Or.inr ⟨by rfl, rfl⟩) ?_ ?_; rotate_left
                    ·exact qP
                    refine pure_ (i := 21) (N := some 167) (v := undef) (a' := ?_) #[y', y', y', y', y', y', y', y', y', y', y', y', y', y', y', y', y', y', y', y', y', y', n', n'] rfl rfl (any_of HT_.out (by kernel_rfl)) (fun _ _ _ h => h) (Or.inr ⟨by rfl, rfl⟩) ?_ ?_; rotate_left
                    ·exact qP
                    refine pure_ (i := 22) (N := some 168) (v := undef) (a' := ?_) #[y', y', y', y', y', y', y', y', y', y', y', y', y', y', y', y', y', y', y', y', y', y', y', n'] rfl rfl (any_of HT_.out (by kernel_rfl)) (fun _ _ _ h => h) (Or.inr ⟨by rfl, rfl⟩) ?_ ?_; rotate_left
                    ·exact qP
                    refine pure_ (i := 23) (N := some 169) (v := ?_) (a' := ?_) #[y', y', y', y', y', y', y', y', y', y', y', y', y', y', y', y', y', y', y', y', y', y', y', y'] rfl rfl (any_of HT_.out (by kernel_rfl)) (fun _ _ _ h => h) (Or.inl ⟨by rfl, ?_⟩) ?_ ?_; rotate_left
                    ·exact qI
                    rotate_left
                    ·exact qP
                    refine done_ (done_of HT_.out (by kernel_rfl)) ?_; try go_wp2
                    go_roundg k5
                    case measure => have := HJ1.out; have := HK2.out; have := HK3.out; have := HJ36.out; have := HK5.out; omega
                    case rel => exact ⟨(wrap64 (x10_5 + 1)), qS, H', ⟨by have := HJ1.out; have := HK2.out; have := HK3.out; have := HJ36.out; have := HK5.out; omega⟩, ⟨qB BK0.out⟩, ⟨qB BK111.out⟩, ⟨qK1 HB.out GE111.out⟩⟩
                  ·rw [if_neg c63] at H; exact absurd H (by simp)
                 ·rw [if_neg c62] at H; exact absurd H (by simp)
                ·rw [if_neg c61] at H; have c61b0 : decide (x10_5 < x8_3) = false := dF' c61; clear c61; have H' := A' H; clear H; go_wp2
                 go_roundg k5
                 case measure => have := HJ1.out; have := HK2.out; have := HK3.out; have := HJ36.out; have := HK5.out; omega
                 case rel => exact ⟨(wrap64 (x8_3 + 1)), qS, H', ⟨by have := HJ1.out; have := HK2.out; have := HK3.out; have := HJ36.out; have := HK5.out; omega⟩, ⟨qB BK0.out⟩, ⟨qK1 HB.out GE111.out⟩⟩
          ·rw [if_neg c36] at H; exact absurd H (by simp)
         ·rw [if_neg c35] at H; have c35b0 : decide (x8_3 < (l0_1.length : Int)) = false := dF' c35; clear c35; obtain rfl := Option.some.inj H; have hcz69_0 : wr.cell? ⟨gp0, 0, none⟩ = some (.slice A0_0 l0_0.length c0_0) := (N' BK0.out 0).trans rfl; have hcz69_1 : wr.cell? ⟨gp0, 1, none⟩ = some (.slice A0_1 l0_1.length c0_1) := (N' BK0.out 1).trans rfl; have hfz69_0 := Y' BK0.out 0; have hfz69_1 := Y' BK0.out 1; go_wp2; go_ret; exact ⟨qE, qK0 HB.out⟩

end Go.Proofs.Ytebbdadpgapobaa.HEl
