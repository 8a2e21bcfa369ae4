-- Written by a program for this claim (the functions that the statement reaches, and that the program's code comes to them).
import Derived.Test.YtacijlpnpkhjaaaHBalx0
import Derived.Test.YtacijlpnpkhjaaaHBalx3
import Derived.Test.YtacijlpnpkhjaaaHBalx4
namespace Go.Proofs.Ytacijlpnpkhjaaa.HBal
open Go.RowKit Go.Proofs.YtacijlpnpkhjaaaW.PrintWords Go.Proofs.YtacijlpnpkhjaaaW.PrintLast Go.Proofs.YtacijlpnpkhjaaaW.PrintMore
attribute [local go_sem] max2_int min2_int max_two min_two max_three min_three max_four min_four   -- for this text's walks alone
set_option linter.unusedVariables false
set_option linter.unusedSimpArgs false

/-! ### spec_l09Balanced: function 85 -/
mutual
def spec_l09Balanced.l0 : Nat → List (S97) → Int → List (S82) → List (S84) → List Int → Int → Option (Bool)
 | 0, _, _, _, _, _, _ => none
 | k + 1, x1, x7, x1000, x1001, x3000, x3001 => if x7 < (x1000.length : Int) then (if 0 ≤ x7 then (if (rd_T82 x1000 x7).f2 = true then (spec_l09Balanced.l0 k x1 (wrap64 (x7 + 1)) x1000 x1001 x3000 x3001) else (if x7 < (x1.length : Int) then (spec_l09Balanced.l1 k x1 x7 (wrap64 (((rd_T97 x1 x7).f0) * x3001)) (wrap64 (((rd_T97 x1 x7).f1) * x3001)) 0 x1000 x1001 x3000 x3001) else (none))) else (none)) else (some true)
def spec_l09Balanced.l1 : Nat → List (S97) → Int → Int → Int → Int → List (S82) → List (S84) → List Int → Int → Option (Bool)
 | 0, _, _, _, _, _, _, _, _, _ => none
 | k + 1, x1, x7, x8, x9, x10, x1000, x1001, x3000, x3001 => if x10 < (x1001.length : Int) then (if 0 ≤ x10 then (if 0 ≤ ((rd_T84 x1001 x10).f0) then (if ((rd_T84 x1001 x10).f0) < (x1000.length : Int) then (if 0 ≤ ((rd_T84 x1001 x10).f1) then (if ((rd_T84 x1001 x10).f1) < (x1000.length : Int) then (if ((rd_T84 x1001 x10).f0) = x7 then (if x10 < (x3000.length : Int) then (spec_l09Balanced.j2 k x1 x7 (wrap64 (x8 + (wrap64 ((rd x3000 x10) * (wrap64 (((rd_T82 x1000 ((rd_T84 x1001 x10).f1)).f0) - ((rd_T82 x1000 ((rd_T84 x1001 x10).f0)).f0))))))) (wrap64 (x9 + (wrap64 ((rd x3000 x10) * (wrap64 (((rd_T82 x1000 ((rd_T84 x1001 x10).f1)).f1) - ((rd_T82 x1000 ((rd_T84 x1001 x10).f0)).f1))))))) x10 x1000 x1001 x3000 x3001 ((rd_T84 x1001 x10).f0) ((rd_T84 x1001 x10).f1) ((rd_T84 x1001 x10).f2) ((rd_T82 x1000 ((rd_T84 x1001 x10).f0)).f0) ((rd_T82 x1000 ((rd_T84 x1001 x10).f0)).f1) ((rd_T82 x1000 ((rd_T84 x1001 x10).f0)).f2) ((rd_T82 x1000 ((rd_T84 x1001 x10).f1)).f0) ((rd_T82 x1000 ((rd_T84 x1001 x10).f1)).f1) ((rd_T82 x1000 ((rd_T84 x1001 x10).f1)).f2)) else (none)) else (spec_l09Balanced.j2 k x1 x7 x8 x9 x10 x1000 x1001 x3000 x3001 ((rd_T84 x1001 x10).f0) ((rd_T84 x1001 x10).f1) ((rd_T84 x1001 x10).f2) ((rd_T82 x1000 ((rd_T84 x1001 x10).f0)).f0) ((rd_T82 x1000 ((rd_T84 x1001 x10).f0)).f1) ((rd_T82 x1000 ((rd_T84 x1001 x10).f0)).f2) ((rd_T82 x1000 ((rd_T84 x1001 x10).f1)).f0) ((rd_T82 x1000 ((rd_T84 x1001 x10).f1)).f1) ((rd_T82 x1000 ((rd_T84 x1001 x10).f1)).f2))) else (none)) else (none)) else (none)) else (none)) else (none)) else (if x8 = 0 then (if x9 = 0 then (spec_l09Balanced.l0 k x1 (wrap64 (x7 + 1)) x1000 x1001 x3000 x3001) else (some false)) else (some false))
def spec_l09Balanced.j2 : Nat → List (S97) → Int → Int → Int → Int → List (S82) → List (S84) → List Int → Int → Int → Int → Bool → Int → Int → Bool → Int → Int → Bool → Option (Bool)
 | 0, _, _, _, _, _, _, _, _, _, _, _, _, _, _, _, _, _, _ => none
 | k + 1, x1, x7, x8, x9, x10, x1000, x1001, x3000, x3001, x211000, x211001, x211002, x213000, x213001, x213002, x215000, x215001, x215002 => if x211001 = x7 then (if 0 ≤ x10 then (if x10 < (x3000.length : Int) then (spec_l09Balanced.l1 k x1 x7 (wrap64 (x8 + (wrap64 ((rd x3000 x10) * (wrap64 (x213000 - x215000)))))) (wrap64 (x9 + (wrap64 ((rd x3000 x10) * (wrap64 (x213001 - x215001)))))) (wrap64 (x10 + 1)) x1000 x1001 x3000 x3001) else (none)) else (none)) else (spec_l09Balanced.l1 k x1 x7 x8 x9 (wrap64 (x10 + 1)) x1000 x1001 x3000 x3001)
end
def spec_l09Balanced.f (k : Nat) (l0_0 : List (S82)) (l0_1 : List (S84)) (l1 : List (S97)) (l2_0 : List Int) (a2_1 : Int) : Option (Bool) := spec_l09Balanced.l0 k l1 0 l0_0 l0_1 l2_0 a2_1
theorem spec_l09Balanced.mono_l : ∀ k, (∀ y0 y1 y2 y3 y4 y5, LeO (spec_l09Balanced.l0 k y0 y1 y2 y3 y4 y5) (spec_l09Balanced.l0 (k + 1) y0 y1 y2 y3 y4 y5)) ∧ (∀ y0 y1 y2 y3 y4 y5 y6 y7 y8, LeO (spec_l09Balanced.l1 k y0 y1 y2 y3 y4 y5 y6 y7 y8) (spec_l09Balanced.l1 (k + 1) y0 y1 y2 y3 y4 y5 y6 y7 y8)) ∧ (∀ y0 y1 y2 y3 y4 y5 y6 y7 y8 y9 y10 y11 y12 y13 y14 y15 y16 y17, LeO (spec_l09Balanced.j2 k y0 y1 y2 y3 y4 y5 y6 y7 y8 y9 y10 y11 y12 y13 y14 y15 y16 y17) (spec_l09Balanced.j2 (k + 1) y0 y1 y2 y3 y4 y5 y6 y7 y8 y9 y10 y11 y12 y13 y14 y15 y16 y17))
 | 0 => ⟨fun _ _ _ _ _ _ r h => by simp [spec_l09Balanced.l0] at h, fun _ _ _ _ _ _ _ _ _ r h => by simp [spec_l09Balanced.l1] at h, fun _ _ _ _ _ _ _ _ _ _ _ _ _ _ _ _ _ _ r h => by simp [spec_l09Balanced.j2] at h⟩
 | k + 1 => by
  obtain ⟨ih0, ih1, ih2⟩ := spec_l09Balanced.mono_l k
  refine ⟨?_, ?_, ?_⟩
  ·intro y0 y1 y2 y3 y4 y5
   unfold spec_l09Balanced.l0
   repeat' first
   | (with_reducible exact ih0 _ _ _ _ _ _)
   | (with_reducible exact ih1 _ _ _ _ _ _ _ _ _)
   | (with_reducible exact ih2 _ _ _ _ _ _ _ _ _ _ _ _ _ _ _ _ _ _)
   | (with_reducible exact LeO.refl _)
   | (with_reducible exact LeO.none _)
   | (with_reducible refine LeO.ite ?_ ?_)
   | (with_reducible refine LeO.bind ?_ (fun _ => ?_))
   | exact ih0 _ _ _ _ _ _
   | exact ih1 _ _ _ _ _ _ _ _ _
   | exact ih2 _ _ _ _ _ _ _ _ _ _ _ _ _ _ _ _ _ _
   | exact LeO.none _
   | refine LeO.ite ?_ ?_
   | refine LeO.bind ?_ (fun _ => ?_)
  ·intro y0 y1 y2 y3 y4 y5 y6 y7 y8
   unfold spec_l09Balanced.l1
   repeat' first
   | (with_reducible exact ih0 _ _ _ _ _ _)
   | (with_reducible exact ih1 _ _ _ _ _ _ _ _ _)
   | (with_reducible exact ih2 _ _ _ _ _ _ _ _ _ _ _ _ _ _ _ _ _ _)
   | (with_reducible exact LeO.refl _)
   | (with_reducible exact LeO.none _)
   | (with_reducible refine LeO.ite ?_ ?_)
   | (with_reducible refine LeO.bind ?_ (fun _ => ?_))
   | exact ih0 _ _ _ _ _ _
   | exact ih1 _ _ _ _ _ _ _ _ _
   | exact ih2 _ _ _ _ _ _ _ _ _ _ _ _ _ _ _ _ _ _
   | exact LeO.none _
   | refine LeO.ite ?_ ?_
   | refine LeO.bind ?_ (fun _ => ?_)
  ·intro y0 y1 y2 y3 y4 y5 y6 y7 y8 y9 y10 y11 y12 y13 y14 y15 y16 y17
   unfold spec_l09Balanced.j2
   repeat' first
   | (with_reducible exact ih0 _ _ _ _ _ _)
   | (with_reducible exact ih1 _ _ _ _ _ _ _ _ _)
   | (with_reducible exact ih2 _ _ _ _ _ _ _ _ _ _ _ _ _ _ _ _ _ _)
   | (with_reducible exact LeO.refl _)
   | (with_reducible exact LeO.none _)
   | (with_reducible refine LeO.ite ?_ ?_)
   | (with_reducible refine LeO.bind ?_ (fun _ => ?_))
   | exact ih0 _ _ _ _ _ _
   | exact ih1 _ _ _ _ _ _ _ _ _
   | exact ih2 _ _ _ _ _ _ _ _ _ _ _ _ _ _ _ _ _ _
   | exact LeO.none _
   | refine LeO.ite ?_ ?_
   | refine LeO.bind ?_ (fun _ => ?_)
theorem spec_l09Balanced.mono : ∀ a0 a1 a2 a3 a4 k, LeO (spec_l09Balanced.f k a0 a1 a2 a3 a4) (spec_l09Balanced.f (k + 1) a0 a1 a2 a3 a4) := by
 intro a0 a1 a2 a3 a4 k
 obtain ⟨ih0, ih1, ih2⟩ := spec_l09Balanced.mono_l k
 unfold spec_l09Balanced.f
 repeat' first
   | (with_reducible exact ih0 _ _ _ _ _ _)
   | (with_reducible exact ih1 _ _ _ _ _ _ _ _ _)
   | (with_reducible exact ih2 _ _ _ _ _ _ _ _ _ _ _ _ _ _ _ _ _ _)
   | (with_reducible exact LeO.refl _)
   | (with_reducible exact LeO.none _)
   | (with_reducible refine LeO.ite ?_ ?_)
   | (with_reducible refine LeO.bind ?_ (fun _ => ?_))
   | exact ih0 _ _ _ _ _ _
   | exact ih1 _ _ _ _ _ _ _ _ _
   | exact ih2 _ _ _ _ _ _ _ _ _ _ _ _ _ _ _ _ _ _
   | exact LeO.none _
   | refine LeO.ite ?_ ?_
   | refine LeO.bind ?_ (fun _ => ?_)
def spec_l09Balanced.T5 : Bool × List (List Nat × List Nat) := (true, [([], []), ([], []), ([0, 1], [0, 1]), ([2], [2]), ([3], [3]), ([], []), ([5], [5]), ([6], [6]), ([7], [7]), ([4, 8], [4, 8]), ([9, 0, 1, 2, 3, 4, 5, 6, 7, 8, 9], [9])])
def spec_l09Balanced.B5 : List Nat := [0, 0, 3, 7, 15, 0, 32, 96, 224, 511, 1023]
theorem spec_l09Balanced.tab5 : rtab .any (opsOf Try.f85 5) = spec_l09Balanced.T5 := by kernel_rfl
theorem spec_l09Balanced.bits5 : waitsOk spec_l09Balanced.T5.2 spec_l09Balanced.B5 = true := by kernel_rfl
def spec_l09Balanced.T6 : Bool × List (List Nat × List Nat) := (true, [([], []), ([], []), ([0, 1], [0, 1]), ([2], [2]), ([3], [3]), ([], []), ([5], [5]), ([6], [6]), ([7], [7]), ([4, 8], [4, 8]), ([9, 0, 1, 2, 3, 4, 5, 6, 7, 8, 9], [9])])
def spec_l09Balanced.B6 : List Nat := [0, 0, 3, 7, 15, 0, 32, 96, 224, 511, 1023]
theorem spec_l09Balanced.tab6 : rtab .any (opsOf Try.f85 6) = spec_l09Balanced.T6 := by kernel_rfl
theorem spec_l09Balanced.bits6 : waitsOk spec_l09Balanced.T6.2 spec_l09Balanced.B6 = true := by kernel_rfl
def spec_l09Balanced.T11 : Bool × List (List Nat × List Nat) := (true, [([], []), ([0], [0]), ([1], [1]), ([2], [2]), ([], []), ([4], [4]), ([3, 5], [3, 5]), ([6], [6]), ([], []), ([8, 7, 0, 1, 2, 3, 4, 5, 6, 7, 8], [7, 8])])
def spec_l09Balanced.B11 : List Nat := [0, 1, 3, 7, 0, 16, 63, 127, 0, 511]
theorem spec_l09Balanced.tab11 : rtab .any (opsOf Try.f85 11) = spec_l09Balanced.T11 := by kernel_rfl
theorem spec_l09Balanced.bits11 : waitsOk spec_l09Balanced.T11.2 spec_l09Balanced.B11 = true := by kernel_rfl
def spec_l09Balanced.T12 : Bool × List (List Nat × List Nat) := (true, [([], []), ([0], [0]), ([1], [1]), ([2], [2]), ([], []), ([4], [4]), ([3, 5], [3, 5]), ([6], [6]), ([], []), ([8, 7, 0, 1, 2, 3, 4, 5, 6, 7, 8], [7, 8])])
def spec_l09Balanced.B12 : List Nat := [0, 1, 3, 7, 0, 16, 63, 127, 0, 511]
theorem spec_l09Balanced.tab12 : rtab .any (opsOf Try.f85 12) = spec_l09Balanced.T12 := by kernel_rfl
theorem spec_l09Balanced.bits12 : waitsOk spec_l09Balanced.T12.2 spec_l09Balanced.B12 = true := by kernel_rfl
def spec_l09Balanced.T14 : Bool × List (List Nat × List Nat) := (true, [([], []), ([], []), ([1], [1]), ([2], [2]), ([3], [3]), ([], []), ([4, 5], [4, 5]), ([6], [6]), ([], []), ([8], [8]), ([], []), ([10], [10]), ([9, 11], [9, 11]), ([7, 12], [7, 12]), ([0, 13], [0, 13]), ([14, 0, 1, 2, 3, 4, 5, 6, 7, 8, 9, 10, 11, 12, 13, 14], [0, 14])])
def spec_l09Balanced.B14 : List Nat := [0, 0, 2, 6, 14, 0, 62, 126, 0, 256, 0, 1024, 3840, 8190, 16383, 32767]
theorem spec_l09Balanced.tab14 : rtab .any (opsOf Try.f85 14) = spec_l09Balanced.T14 := by kernel_rfl
theorem spec_l09Balanced.bits14 : waitsOk spec_l09Balanced.T14.2 spec_l09Balanced.B14 = true := by kernel_rfl
def spec_l09Balanced.T15 : Bool × List (List Nat × List Nat) := (true, [([], []), ([], []), ([1], [1]), ([2], [2]), ([3], [3]), ([], []), ([4, 5], [4, 5]), ([6], [6]), ([], []), ([8], [8]), ([], []), ([10], [10]), ([9, 11], [9, 11]), ([7, 12], [7, 12]), ([0, 13], [0, 13]), ([14, 0, 1, 2, 3, 4, 5, 6, 7, 8, 9, 10, 11, 12, 13, 14], [0, 14])])
def spec_l09Balanced.B15 : List Nat := [0, 0, 2, 6, 14, 0, 62, 126, 0, 256, 0, 1024, 3840, 8190, 16383, 32767]
theorem spec_l09Balanced.tab15 : rtab .any (opsOf Try.f85 15) = spec_l09Balanced.T15 := by kernel_rfl
theorem spec_l09Balanced.bits15 : waitsOk spec_l09Balanced.T15.2 spec_l09Balanced.B15 = true := by kernel_rfl
def spec_l09Balanced.T17 : Bool × List (List Nat × List Nat) := (true, [([], []), ([], []), ([1], [1]), ([2], [2]), ([3], [3]), ([], []), ([4, 5], [4, 5]), ([6], [6]), ([], []), ([8], [8]), ([], []), ([10], [10]), ([9, 11], [9, 11]), ([7, 12], [7, 12]), ([0, 13], [0, 13]), ([14, 0, 1, 2, 3, 4, 5, 6, 7, 8, 9, 10, 11, 12, 13, 14], [0, 14])])
def spec_l09Balanced.B17 : List Nat := [0, 0, 2, 6, 14, 0, 62, 126, 0, 256, 0, 1024, 3840, 8190, 16383, 32767]
theorem spec_l09Balanced.tab17 : rtab .any (opsOf Try.f85 17) = spec_l09Balanced.T17 := by kernel_rfl
theorem spec_l09Balanced.bits17 : waitsOk spec_l09Balanced.T17.2 spec_l09Balanced.B17 = true := by kernel_rfl
def spec_l09Balanced.T18 : Bool × List (List Nat × List Nat) := (true, [([], []), ([], []), ([1], [1]), ([2], [2]), ([3], [3]), ([], []), ([4, 5], [4, 5]), ([6], [6]), ([], []), ([8], [8]), ([], []), ([10], [10]), ([9, 11], [9, 11]), ([7, 12], [7, 12]), ([0, 13], [0, 13]), ([14, 0, 1, 2, 3, 4, 5, 6, 7, 8, 9, 10, 11, 12, 13, 14], [0, 14])])
def spec_l09Balanced.B18 : List Nat := [0, 0, 2, 6, 14, 0, 62, 126, 0, 256, 0, 1024, 3840, 8190, 16383, 32767]
theorem spec_l09Balanced.tab18 : rtab .any (opsOf Try.f85 18) = spec_l09Balanced.T18 := by kernel_rfl
theorem spec_l09Balanced.bits18 : waitsOk spec_l09Balanced.T18.2 spec_l09Balanced.B18 = true := by kernel_rfl
set_option maxHeartbeats 8000000 in
set_option maxRecDepth 100000 in
theorem spec_l09Balanced.calls (k : Nat) (gp0 : Nat) (A0_0 : Option Addr) (c0_0 : Nat) (l0_0 : List (S82)) (A0_1 : Option Addr) (c0_1 : Nat) (l0_1 : List (S84)) (A1 : Option Addr) (c1 : Nat) (l1 : List (S97)) (gp2 : Nat) (A2_0 : Option Addr) (c2_0 : Nat) (l2_0 : List Int) (a2_1 : Int) (r : Bool) (w : World) (hb0 : w.heap[gp0]? = some (.cells #[.slice A0_0 l0_0.length c0_0, .slice A0_1 l0_1.length c0_1] 39 (0, 0))) (hb2 : w.heap[gp2]? = some (.cells #[.slice A2_0 l2_0.length c2_0, .int .i64 a2_1] 27 (0, 0))) (hr0_0 : Kd.C k82 w A0_0 l0_0.length l0_0) (hc0_0 : l0_0.length ≤ c0_0) (hr0_1 : Kd.C k84 w A0_1 l0_1.length l0_1) (hc0_1 : l0_1.length ≤ c0_1) (hr1 : Kd.C k97 w A1 l1.length l1) (hc1 : l1.length ≤ c1) (hr2_0 : Kd.C (Kd.int .i64) w A2_0 l2_0.length l2_0) (hc2_0 : l2_0.length ≤ c2_0) (h : spec_l09Balanced.f k l0_0 l0_1 l1 l2_0 a2_1 = some r) :
  Calls Try.prog 85 #[.pointer (some ⟨gp0, 0, none⟩), .slice A1 l1.length c1, .pointer (some ⟨gp2, 0, none⟩)] w fun e w' => e = .returned (.bool r) ∧ Below w.heap.size w w' := by
 have hu84 := Try.underlying84; have hu82 := Try.underlying82; have HR0_0 := A' hr0_0; have HC0_0 := A' hc0_0; clear hr0_0 hc0_0; have HR0_1 := A' hr0_1; have HC0_1 := A' hc0_1; clear hr0_1 hc0_1; have HR1 := A' hr1; have HC1 := A' hc1; clear hr1 hc1; have HR2_0 := A' hr2_0; have HC2_0 := A' hc2_0; clear hr2_0 hc2_0; have NE0_2 : gp0 ≠ gp2 := fun e_ => by have h_ := hb2; rw [← e_] at h_; have h2_ := hb0.symm.trans h_; simp at h2_
 have NB0_2 := A' NE0_2; have NB2_0 := A' (Ne.symm NE0_2); clear NE0_2; have BK0 := A' hb0; clear hb0; have BK2 := A' hb2; clear hb2; have HB := A' (Below.refl w.heap.size w); have H : (spec_l09Balanced.l0 k l1 0 l0_0 l0_1 l2_0 a2_1) = some r := h; clear h; have H' := A' H; clear H; go_enter Try.func85, Try.ntmps85; go_wp2
 go_loopg [7] k (fun kq v7 w' => ∃ (x7_1 : Int), v7 = .int .i64 x7_1 ∧ Aside0 (spec_l09Balanced.l0 kq l1 x7_1 l0_0 l0_1 l2_0 a2_1 = some r) ∧ Aside0 (kq ≤ k) ∧ Aside0 (w'.heap[gp0]? = some (.cells #[(.slice A0_0 l0_0.length c0_0), (.slice A0_1 l0_1.length c0_1)] 39 (0, 0))) ∧ Aside0 (w'.heap[gp2]? = some (.cells #[(.slice A2_0 l2_0.length c2_0), .int .i64 a2_1] 27 (0, 0))) ∧ Aside0 (Below w.heap.size w w'))
 case atStart => exact ⟨(0), qS, H', ⟨Nat.le_refl _⟩, ⟨qB BK0.out⟩, ⟨qB BK2.out⟩, ⟨qK0 HB.out⟩⟩
 case round =>
  clear H'; try clear c1
  try clear c2
  try clear p2
  obtain ⟨x7_1, rfl, HA, HK1, BK0, BK2, HB⟩ := hrel
  cases gk with
  | zero => exact absurd HA.out (by simp [spec_l09Balanced.l0])
  | succ k1 =>
   have H := HA.out; clear HA; simp only [spec_l09Balanced.l0] at H
   by_cases c4 : x7_1 < (l0_0.length : Int)
   ·rw [if_pos c4] at H; have c4b0 : decide (x7_1 < (l0_0.length : Int)) = true := dT' c4; clear c4
    by_cases c5 : 0 ≤ x7_1
    ·rw [if_pos c5] at H; have c5b0 : decide (0 ≤ x7_1) = true := dT' c5; clear c5; obtain ⟨bq6, hbq6⟩ : ∃ b_ : Bool, b_ = ((rd_T82 l0_0 x7_1).f2) := ⟨_, rfl⟩
     replace H : (if bq6 = true then (spec_l09Balanced.l0 k1 l1 (wrap64 (x7_1 + 1)) l0_0 l0_1 l2_0 a2_1) else (if x7_1 < (l1.length : Int) then (spec_l09Balanced.l1 k1 l1 x7_1 (wrap64 (((rd_T97 l1 x7_1).f0) * a2_1)) (wrap64 (((rd_T97 l1 x7_1).f1) * a2_1)) 0 l0_0 l0_1 l2_0 a2_1) else (none))) = some r := by rw [← hbq6] at H; exact H
     have Nbq6 := A' hbq6; clear hbq6
     by_cases c7 : bq6 = true
     ·subst c7; have H1 : (spec_l09Balanced.l0 k1 l1 (wrap64 (x7_1 + 1)) l0_0 l0_1 l2_0 a2_1) = some r := by rw [if_pos rfl] at H; exact H
      clear H; have H := H1; clear H1; have H' := A' H; clear H; have hnb8 := NB0_2.out; have hnc8 := NB2_0.out; have hcz9_0 : wr.cell? ⟨gp0, 0, none⟩ = some (.slice A0_0 l0_0.length c0_0) := (N' BK0.out 0).trans rfl; have hcz9_1 : wr.cell? ⟨gp0, 1, none⟩ = some (.slice A0_1 l0_1.length c0_1) := (N' BK0.out 1).trans rfl; have hfz9_0 := Y' BK0.out 0; have hfz9_1 := Y' BK0.out 1; have p206 : 0 ≤ (x7_1 : Int) := oD' qA; have q206 : x7_1 < (l0_0.length : Int) := oD' qA; obtain ⟨ad206, e206, hx206_0, hx206_1, hx206_2⟩ := at_T82 HR0_0.out x7_1 p206 q206; (try rw [← Nbq6.out] at hx206_2); (try rw [← Nbq6.out] at hw206_2)
      cases e206
      try replace hx206_0 := qC HB.out hx206_0
      try replace hx206_1 := qC HB.out hx206_1
      try replace hx206_2 := qC HB.out hx206_2
      replace p206 := eq_true p206; replace q206 := eq_true q206; go_wp2
      go_roundg k1
      case measure => have := HK1.out; omega
      case rel => exact ⟨(wrap64 (x7_1 + 1)), qS, H', ⟨by have := HK1.out; omega⟩, ⟨qB BK0.out⟩, ⟨qB BK2.out⟩, ⟨qK0 HB.out⟩⟩
     ·replace c7 := Bool.eq_false_iff.mpr c7; subst c7; have H1 : (if x7_1 < (l1.length : Int) then (spec_l09Balanced.l1 k1 l1 x7_1 (wrap64 (((rd_T97 l1 x7_1).f0) * a2_1)) (wrap64 (((rd_T97 l1 x7_1).f1) * a2_1)) 0 l0_0 l0_1 l2_0 a2_1) else (none)) = some r := by rw [if_neg (show ¬ (false = true) by decide)] at H; exact H
      clear H; have H := H1; clear H1
      by_cases c10 : x7_1 < (l1.length : Int)
      ·rw [if_pos c10] at H; have c10b0 : decide (x7_1 < (l1.length : Int)) = true := dT' c10; clear c10; have H' := A' H; clear H; have hnb11 := NB0_2.out; have hnc11 := NB2_0.out; have hcz12_0 : wr.cell? ⟨gp0, 0, none⟩ = some (.slice A0_0 l0_0.length c0_0) := (N' BK0.out 0).trans rfl; have hcz12_1 : wr.cell? ⟨gp0, 1, none⟩ = some (.slice A0_1 l0_1.length c0_1) := (N' BK0.out 1).trans rfl; have hfz12_0 := Y' BK0.out 0; have hfz12_1 := Y' BK0.out 1; have p206 : 0 ≤ (x7_1 : Int) := oD' qA; have q206 : x7_1 < (l0_0.length : Int) := oD' qA; obtain ⟨ad206, e206, hx206_0, hx206_1, hx206_2⟩ := at_T82 HR0_0.out x7_1 p206 q206; (try rw [← Nbq6.out] at hx206_2); (try rw [← Nbq6.out] at hw206_2)
       cases e206
       try replace hx206_0 := qC HB.out hx206_0
       try replace hx206_1 := qC HB.out hx206_1
       try replace hx206_2 := qC HB.out hx206_2
       replace p206 := eq_true p206; replace q206 := eq_true q206; try go_wp2
       have n0_ := A' (I' BK0.out); have n1_ := A' (I' BK2.out); have n2_ := A' (J' HB.out); clear BK0; clear BK2; clear HB; have BK0 := n0_; have BK2 := n1_; have HB := n2_; clear n0_ n1_ n2_; have p207 : 0 ≤ (x7_1 : Int) := oD' qA; have q207 : x7_1 < (l1.length : Int) := oD' qA; obtain ⟨ad207, e207, hx207_0, hx207_1⟩ := at_T97 HR1.out x7_1 p207 q207; have hw207_1 := hx207_1; have hw207_0 := hx207_0
       cases e207
       try replace hx207_0 := qC HB.out hx207_0
       try replace hx207_1 := qC HB.out hx207_1
       replace p207 := eq_true p207; replace q207 := eq_true q207; refine start_ (n := 11) (S := fun w' => w'.cell? ⟨gp2, 0, none⟩ = some (.slice A2_0 l2_0.length c2_0) ∧ w'.cell? ⟨gp2, 1, none⟩ = some (.int .i64 a2_1) ∧ w'.cell? (ad207.add ((x7_1).toNat * 2)) = some (.int .i64 ((rd_T97 l1 x7_1).f0)) ∧ w'.cell? ⟨(ad207.add ((x7_1).toNat * 2)).block, (ad207.add ((x7_1).toNat * 2)).off + 1, none⟩ = some (.int .i64 ((rd_T97 l1 x7_1).f1))) (ds := []) #[n', n', n', n', n', n', n', n', n', n', n'] (by kernel_rfl) rfl rfl ⟨(N' BK2.out 0).trans rfl, (N' BK2.out 1).trans rfl, (qC HB.out hw207_0 :), (qC HB.out hw207_1 :)⟩ (fun hHeld => ?_); refine with_tabW spec_l09Balanced.tab5 spec_l09Balanced.bits5 (fun HT_ HW_ => ?_)
       generalize wr.drew = w13 at BK0 BK2 HB hx207_0 hx207_1 hHeld ⊢
       refine pure_ (i := 0) (N := some 31) (v := ?_) (a' := ?_) #[y', n', n', n', n', n', n', n', n', n', n'] rfl rfl (any_of HT_.out (by kernel_rfl)) (fun _ _ _ h => h) (Or.inl ⟨by rfl, ?_⟩) ?_ ?_; rotate_left
       ·exact qI
       rotate_left
       ·exact qP
       refine pure_ (i := 1) (N := some 32) (v := ?_) (a' := ?_) #[y', y', n', n', n', n', n', n', n', n', n'] rfl rfl (any_of HT_.out (by kernel_rfl)) (fun _ _ _ h => h) (Or.inl ⟨by rfl, ?_⟩) ?_ ?_; rotate_left
       ·exact qI
       rotate_left
       ·exact qP
       refine pure_ (i := 2) (N := some 33) (v := ?_) (a' := ?_) #[y', y', y', n', n', n', n', n', n', n', n'] rfl rfl (any_of HT_.out (by kernel_rfl)) (fun _ _ _ h => h) (Or.inl ⟨by rfl, ?_⟩) ?_ ?_; rotate_left
       ·exact qI
       rotate_left
       ·exact qP
       refine pure_ (i := 3) (N := some 34) (v := ?_) (a' := ?_) #[y', y', y', y', n', n', n', n', n', n', n'] rfl rfl (any_of HT_.out (by kernel_rfl)) (fun _ _ _ h => h) (Or.inl ⟨by rfl, ?_⟩) ?_ ?_; rotate_left
       ·exact qI
       rotate_left
       ·exact qP
       refine pure_ (i := 5) (N := some 36) (v := ?_) (a' := ?_) #[y', y', y', y', n', y', n', n', n', n', n'] rfl rfl (any_of HT_.out (by kernel_rfl)) (fun _ _ _ h => h) (Or.inl ⟨by rfl, ?_⟩) ?_ ?_; rotate_left
       ·exact qI
       rotate_left
       ·exact qP
       refine pure_ (i := 6) (N := some 37) (v := ?_) (a' := ?_) #[y', y', y', y', n', y', y', n', n', n', n'] rfl rfl (any_of HT_.out (by kernel_rfl)) (fun _ _ _ h => h) (Or.inl ⟨by rfl, ?_⟩) ?_ ?_; rotate_left
       ·exact qI
       rotate_left
       ·exact qP
       refine pure_ (i := 7) (N := some 38) (v := ?_) (a' := ?_) #[y', y', y', y', n', y', y', y', n', n', n'] rfl rfl (any_of HT_.out (by kernel_rfl)) (fun _ _ _ h => h) (Or.inl ⟨by rfl, ?_⟩) ?_ ?_; rotate_left
       ·exact qI
       rotate_left
       ·exact qP
       refine take_ (i := 4) (N := some 35) (v := ?_) (a' := ?_) #[y', y', y', y', y', y', y', y', n', n', n'] rfl rfl (take_ofW HT_.out HW_.out (by kernel_rfl)) (fun _ _ _ h => h) (Or.inl ⟨by rfl, ?_⟩) hHeld ?_ ?_; rotate_left
       ·rintro w' ⟨s0, s1, s2, s3⟩; go_simp; with_reducible rfl
       rotate_left
       ·exact qP
       refine take_ (i := 8) (N := some 39) (v := ?_) (a' := ?_) #[y', y', y', y', y', y', y', y', y', n', n'] rfl rfl (take_ofW HT_.out HW_.out (by kernel_rfl)) (fun _ _ _ h => h) (Or.inl ⟨by rfl, ?_⟩) hHeld ?_ ?_; rotate_left
       ·rintro w' ⟨s0, s1, s2, s3⟩; go_simp; with_reducible rfl
       rotate_left
       ·exact qP
       refine pure_ (i := 9) (N := some 40) (v := ?_) (a' := ?_) #[y', y', y', y', y', y', y', y', y', y', n'] rfl rfl (any_of HT_.out (by kernel_rfl)) (fun _ _ _ h => h) (Or.inl ⟨by rfl, ?_⟩) ?_ ?_; rotate_left
       ·exact qI
       rotate_left
       ·exact qP
       refine pure_ (i := 10) (N := some 8) (v := ?_) (a' := ?_) #[y', y', y', y', y', y', y', y', y', y', y'] rfl rfl (any_of HT_.out (by kernel_rfl)) (fun _ _ _ h => h) (Or.inl ⟨by rfl, ?_⟩) ?_ ?_; rotate_left
       ·exact qI
       rotate_left
       ·exact qP
       refine done_ (done_of HT_.out (by kernel_rfl)) ?_; try go_wp2
       have n0_ := A' (I' BK0.out); have n1_ := A' (I' BK2.out); have n2_ := A' (J' HB.out); clear BK0; clear BK2; clear HB; have BK0 := n0_; have BK2 := n1_; have HB := n2_; clear n0_ n1_ n2_; have p208 : 0 ≤ (x7_1 : Int) := oD' qA; have q208 : x7_1 < (l1.length : Int) := oD' qA; obtain ⟨ad208, e208, hx208_0, hx208_1⟩ := at_T97 HR1.out x7_1 p208 q208; have hw208_1 := hx208_1; have hw208_0 := hx208_0; obtain rfl : ad207 = ad208 := (by injection e208)
       try replace hx208_0 := qC HB.out hx208_0
       try replace hx208_1 := qC HB.out hx208_1
       replace p208 := eq_true p208; replace q208 := eq_true q208; refine start_ (n := 11) (S := fun w' => w'.cell? ⟨gp2, 0, none⟩ = some (.slice A2_0 l2_0.length c2_0) ∧ w'.cell? ⟨gp2, 1, none⟩ = some (.int .i64 a2_1) ∧ w'.cell? (ad207.add ((x7_1).toNat * 2)) = some (.int .i64 ((rd_T97 l1 x7_1).f0)) ∧ w'.cell? ⟨(ad207.add ((x7_1).toNat * 2)).block, (ad207.add ((x7_1).toNat * 2)).off + 1, none⟩ = some (.int .i64 ((rd_T97 l1 x7_1).f1))) (ds := []) #[n', n', n', n', n', n', n', n', n', n', n'] (by kernel_rfl) rfl rfl ⟨(N' BK2.out 0).trans rfl, (N' BK2.out 1).trans rfl, (qC HB.out hw208_0 :), (qC HB.out hw208_1 :)⟩ (fun hHeld => ?_); refine with_tabW spec_l09Balanced.tab6 spec_l09Balanced.bits6 (fun HT_ HW_ => ?_)
       generalize w13.drew = w14 at BK0 BK2 HB hx208_0 hx208_1 hHeld ⊢
       refine pure_ (i := 0) (N := some 41) (v := ?_) (a' := ?_) #[y', n', n', n', n', n', n', n', n', n', n'] rfl rfl (any_of HT_.out (by kernel_rfl)) (fun _ _ _ h => h) (Or.inl ⟨by rfl, ?_⟩) ?_ ?_; rotate_left
       ·exact qI
       rotate_left
       ·exact qP
       refine pure_ (i := 1) (N := some 42) (v := ?_) (a' := ?_) #[y', y', n', n', n', n', n', n', n', n', n'] rfl rfl (any_of HT_.out (by kernel_rfl)) (fun _ _ _ h => h) (Or.inl ⟨by rfl, ?_⟩) ?_ ?_; rotate_left
       ·exact qI
       rotate_left
       ·exact qP
       refine pure_ (i := 2) (N := some 43) (v := ?_) (a' := ?_) #[y', y', y', n', n', n', n', n', n', n', n'] rfl rfl (any_of HT_.out (by kernel_rfl)) (fun _ _ _ h => h) (Or.inl ⟨by rfl, ?_⟩) ?_ ?_; rotate_left
       ·exact qI
       rotate_left
       ·exact qP
       refine pure_ (i := 3) (N := some 44) (v := ?_) (a' := ?_) #[y', y', y', y', n', n', n', n', n', n', n'] rfl rfl (any_of HT_.out (by kernel_rfl)) (fun _ _ _ h => h) (Or.inl ⟨by rfl, ?_⟩) ?_ ?_; rotate_left
       ·exact qI
       rotate_left
       ·exact qP
       refine pure_ (i := 5) (N := some 46) (v := ?_) (a' := ?_) #[y', y', y', y', n', y', n', n', n', n', n'] rfl rfl (any_of HT_.out (by kernel_rfl)) (fun _ _ _ h => h) (Or.inl ⟨by rfl, ?_⟩) ?_ ?_; rotate_left
       ·exact qI
       rotate_left
       ·exact qP
       refine pure_ (i := 6) (N := some 47) (v := ?_) (a' := ?_) #[y', y', y', y', n', y', y', n', n', n', n'] rfl rfl (any_of HT_.out (by kernel_rfl)) (fun _ _ _ h => h) (Or.inl ⟨by rfl, ?_⟩) ?_ ?_; rotate_left
       ·exact qI
       rotate_left
       ·exact qP
       refine pure_ (i := 7) (N := some 48) (v := ?_) (a' := ?_) #[y', y', y', y', n', y', y', y', n', n', n'] rfl rfl (any_of HT_.out (by kernel_rfl)) (fun _ _ _ h => h) (Or.inl ⟨by rfl, ?_⟩) ?_ ?_; rotate_left
       ·exact qI
       rotate_left
       ·exact qP
       refine take_ (i := 4) (N := some 45) (v := ?_) (a' := ?_) #[y', y', y', y', y', y', y', y', n', n', n'] rfl rfl (take_ofW HT_.out HW_.out (by kernel_rfl)) (fun _ _ _ h => h) (Or.inl ⟨by rfl, ?_⟩) hHeld ?_ ?_; rotate_left
       ·rintro w' ⟨s0, s1, s2, s3⟩; go_simp; with_reducible rfl
       rotate_left
       ·exact qP
       refine take_ (i := 8) (N := some 49) (v := ?_) (a' := ?_) #[y', y', y', y', y', y', y', y', y', n', n'] rfl rfl (take_ofW HT_.out HW_.out (by kernel_rfl)) (fun _ _ _ h => h) (Or.inl ⟨by rfl, ?_⟩) hHeld ?_ ?_; rotate_left
       ·rintro w' ⟨s0, s1, s2, s3⟩; go_simp; with_reducible rfl
       rotate_left
       ·exact qP
       refine pure_ (i := 9) (N := some 50) (v := ?_) (a' := ?_) #[y', y', y', y', y', y', y', y', y', y', n'] rfl rfl (any_of HT_.out (by kernel_rfl)) (fun _ _ _ h => h) (Or.inl ⟨by rfl, ?_⟩) ?_ ?_; rotate_left
       ·exact qI
       rotate_left
       ·exact qP
       refine pure_ (i := 10) (N := some 9) (v := ?_) (a' := ?_) #[y', y', y', y', y', y', y', y', y', y', y'] rfl rfl (any_of HT_.out (by kernel_rfl)) (fun _ _ _ h => h) (Or.inl ⟨by rfl, ?_⟩) ?_ ?_; rotate_left
       ·exact qI
       rotate_left
       ·exact qP
       refine done_ (done_of HT_.out (by kernel_rfl)) ?_; try go_wp2
       go_loopg [8, 9, 10] k1 (fun kq v8 v9 v10 w' => ∃ (x8_2 : Int) (x9_2 : Int) (x10_2 : Int), v8 = .int .i64 x8_2 ∧ v9 = .int .i64 x9_2 ∧ v10 = .int .i64 x10_2 ∧ Aside0 (spec_l09Balanced.l1 kq l1 x7_1 x8_2 x9_2 x10_2 l0_0 l0_1 l2_0 a2_1 = some r) ∧ Aside0 (kq ≤ k1) ∧ Aside0 (w'.heap[gp0]? = some (.cells #[(.slice (some ad206) l0_0.length c0_0), (.slice A0_1 l0_1.length c0_1)] 39 (0, 0))) ∧ Aside0 (w'.heap[gp2]? = some (.cells #[(.slice A2_0 l2_0.length c2_0), .int .i64 a2_1] 27 (0, 0))) ∧ Aside0 (Below w.heap.size w w'))
       case atStart => exact ⟨(wrap64 (((rd_T97 l1 x7_1).f0) * a2_1)), (wrap64 (((rd_T97 l1 x7_1).f1) * a2_1)), (0), qS, qS, qS, H', ⟨Nat.le_refl _⟩, ⟨qB BK0.out⟩, ⟨qB BK2.out⟩, ⟨qK0 HB.out⟩⟩
       case round =>
        clear H'; try clear c1
        try clear c2
        try clear p2
        try clear q2
        try clear hx2
        try clear c4
        try clear c4b0
        try clear c5
        try clear c5b0
        try clear p6
        try clear q6
        try clear c7
        try clear c8
        try clear c10
        try clear c10b0
        try clear c11
        try clear hcz12_0
        try clear hcz12_1
        try clear hcz9_0
        try clear hcz9_1
        try clear hfz12_0
        try clear hfz12_1
        try clear hfz9_0
        try clear hfz9_1
        try clear hx206_0
        try clear hx206_1
        try clear hx206_2
        try clear hx207_0
        try clear hx207_1
        try clear hx208_0
        try clear hx208_1
        try clear p2
        try clear p206
        try clear p207
        try clear p208
        try clear q206
        try clear q207
        try clear q208
        obtain ⟨x8_2, x9_2, x10_2, rfl, rfl, rfl, HA, HK2, BK0, BK2, HB⟩ := hrel
        cases gk with
        | zero => exact absurd HA.out (by simp [spec_l09Balanced.l1])
        | succ k2 =>
         have H := HA.out; clear HA; simp only [spec_l09Balanced.l1] at H
         by_cases c15 : x10_2 < (l0_1.length : Int)
         ·rw [if_pos c15] at H; have c15b0 : decide (x10_2 < (l0_1.length : Int)) = true := dT' c15; clear c15
          by_cases c16 : 0 ≤ x10_2
          ·rw [if_pos c16] at H; have c16b0 : decide (0 ≤ x10_2) = true := dT' c16; clear c16
           by_cases c17 : 0 ≤ ((rd_T84 l0_1 x10_2).f0)
           ·rw [if_pos c17] at H; have c17b0 : decide (0 ≤ ((rd_T84 l0_1 x10_2).f0)) = true := dT' c17; clear c17
            by_cases c18 : ((rd_T84 l0_1 x10_2).f0) < (l0_0.length : Int)
            ·rw [if_pos c18] at H; have c18b0 : decide (((rd_T84 l0_1 x10_2).f0) < (l0_0.length : Int)) = true := dT' c18; clear c18
             by_cases c19 : 0 ≤ ((rd_T84 l0_1 x10_2).f1)
             ·rw [if_pos c19] at H; have c19b0 : decide (0 ≤ ((rd_T84 l0_1 x10_2).f1)) = true := dT' c19; clear c19
              by_cases c20 : ((rd_T84 l0_1 x10_2).f1) < (l0_0.length : Int)
              ·rw [if_pos c20] at H; have c20b0 : decide (((rd_T84 l0_1 x10_2).f1) < (l0_0.length : Int)) = true := dT' c20; clear c20; have HC21 := A' H; clear H; have hnb22 := NB0_2.out; have hnc22 := NB2_0.out; have hcz23_0 : wr.cell? ⟨gp0, 0, none⟩ = some (.slice (some ad206) l0_0.length c0_0) := (N' BK0.out 0).trans rfl; have hcz23_1 : wr.cell? ⟨gp0, 1, none⟩ = some (.slice A0_1 l0_1.length c0_1) := (N' BK0.out 1).trans rfl; have hfz23_0 := Y' BK0.out 0; have hfz23_1 := Y' BK0.out 1; have p209 : 0 ≤ (x10_2 : Int) := oD' qA; have q209 : x10_2 < (l0_1.length : Int) := oD' qA; obtain ⟨ad209, e209, hx209_0, hx209_1, hx209_2⟩ := at_T84 HR0_1.out x10_2 p209 q209; (try rw [← Nbq6.out] at hx209_2); (try rw [← Nbq6.out] at hw209_2)
               cases e209
               try replace hx209_0 := qC HB.out hx209_0
               try replace hx209_1 := qC HB.out hx209_1
               try replace hx209_2 := qC HB.out hx209_2
               replace p209 := eq_true p209; replace q209 := eq_true q209; try go_wp2_with (first | ((with_reducible refine gate_dst (N := 11) rfl ?_); refine box_event ?hg (N := 11) ?hd (cs := #[.int .i64 0, .int .i64 0, .bool false]) (t := 84) ?hr ?_; (case hd => rfl); (case hg => rfl); (case hr => first | (go_simp; done) | (go_simp; rfl)); intro gb210 hg w24 hbox hb; have n0_ := A' (O' (g := gp0) (qB BK0.out) hb); have n1_ := A' (O' (g := gp2) (qB BK2.out) hb); have n2_ := A' (W' (qK0 HB.out) hb); have n3_ := A' (hbox); have n4_ := A' ((by rw [hg]; exact (V' (qK0 HB.out)) : w.heap.size ≤ gb210)); have n5_ := A' ((by rw [hg]; exact (V' (qK0 HB.out)) : w.heap.size ≤ gb210)); have n6_ := A' ((by rw [hg]; exact Nat.ne_of_lt (bL' (g := gp0) (qB BK0.out)) : gp0 ≠ gb210)); have n7_ := A' ((by rw [hg]; exact Nat.ne_of_gt (bL' (g := gp0) (qB BK0.out)) : gb210 ≠ gp0)); have n8_ := A' ((by rw [hg]; exact Nat.ne_of_lt (bL' (g := gp2) (qB BK2.out)) : gp2 ≠ gb210)); have n9_ := A' ((by rw [hg]; exact Nat.ne_of_gt (bL' (g := gp2) (qB BK2.out)) : gb210 ≠ gp2)); clear BK0; clear BK2; clear HB; have BK0 := n0_; have BK2 := n1_; have HB := n2_; have BK210 := n3_; have GW210 := n4_; have GE210 := n5_; have NB0_210 := n6_; have NB210_0 := n7_; have NB2_210 := n8_; have NB210_2 := n9_; clear n0_ n1_ n2_ n3_ n4_ n5_ n6_ n7_ n8_ n9_; clear hb hbox hg; have hnb25 := NB210_0.out; have hnc25 := NB0_210.out; have hnb26 := NB210_2.out; have hnc26 := NB2_210.out; have hcz27_0 : w24.cell? ⟨gb210, 0, none⟩ = some (.int .i64 0) := (N' BK210.out 0).trans rfl; have hcz27_1 : w24.cell? ⟨gb210, 1, none⟩ = some (.int .i64 0) := (N' BK210.out 1).trans rfl; have hcz27_2 : w24.cell? ⟨gb210, 2, none⟩ = some (.bool false) := (N' BK210.out 2).trans rfl; have hfz27_0 := Y' BK210.out 0; have hfz27_1 := Y' BK210.out 1; have hfz27_2 := Y' BK210.out 2))
               have n0_ : Aside0 ((((w24.setCell ⟨gb210, 0, none⟩ (.int .i64 ((rd_T84 l0_1 x10_2).f0))).setCell ⟨gb210, 1, none⟩ (.int .i64 ((rd_T84 l0_1 x10_2).f1))).setCell ⟨gb210, 2, none⟩ (.bool ((rd_T84 l0_1 x10_2).f2))).heap[gp0]? = some (.cells #[.slice (some ad206) l0_0.length c0_0, .slice (some ad209) l0_1.length c0_1] 39 (0, 0))) := ⟨qG3 BK0.out NB0_210.out NB0_210.out NB0_210.out⟩
               have n1_ : Aside0 ((((w24.setCell ⟨gb210, 0, none⟩ (.int .i64 ((rd_T84 l0_1 x10_2).f0))).setCell ⟨gb210, 1, none⟩ (.int .i64 ((rd_T84 l0_1 x10_2).f1))).setCell ⟨gb210, 2, none⟩ (.bool ((rd_T84 l0_1 x10_2).f2))).heap[gp2]? = some (.cells #[.slice A2_0 l2_0.length c2_0, .int .i64 a2_1] 27 (0, 0))) := ⟨qG3 BK2.out NB2_210.out NB2_210.out NB2_210.out⟩
               have n2_ : Aside0 ((((w24.setCell ⟨gb210, 0, none⟩ (.int .i64 ((rd_T84 l0_1 x10_2).f0))).setCell ⟨gb210, 1, none⟩ (.int .i64 ((rd_T84 l0_1 x10_2).f1))).setCell ⟨gb210, 2, none⟩ (.bool ((rd_T84 l0_1 x10_2).f2))).heap[gb210]? = some (.cells #[.int .i64 ((rd_T84 l0_1 x10_2).f0), .int .i64 ((rd_T84 l0_1 x10_2).f1), .bool ((rd_T84 l0_1 x10_2).f2)] 84 (0, 0))) := ⟨by (with_reducible repeat (first | refine G' ?_ _ | refine I' ?_ | refine H' ?_ _)); refine blk_put (cs := #[.int .i64 ((rd_T84 l0_1 x10_2).f0), .int .i64 ((rd_T84 l0_1 x10_2).f1), .bool false]) ?_ 2 _ rfl; (with_reducible repeat (first | refine G' ?_ _ | refine I' ?_ | refine H' ?_ _)); refine blk_put (cs := #[.int .i64 ((rd_T84 l0_1 x10_2).f0), .int .i64 0, .bool false]) ?_ 1 _ rfl; (with_reducible repeat (first | refine G' ?_ _ | refine I' ?_ | refine H' ?_ _)); refine blk_put (cs := #[.int .i64 0, .int .i64 0, .bool false]) ?_ 0 _ rfl; (with_reducible repeat (first | refine G' ?_ _ | refine I' ?_ | refine H' ?_ _)); exact BK210.out⟩
               have n3_ : Aside0 (Below w.heap.size w (((w24.setCell ⟨gb210, 0, none⟩ (.int .i64 ((rd_T84 l0_1 x10_2).f0))).setCell ⟨gb210, 1, none⟩ (.int .i64 ((rd_T84 l0_1 x10_2).f1))).setCell ⟨gb210, 2, none⟩ (.bool ((rd_T84 l0_1 x10_2).f2)))) := ⟨qK1 HB.out GE210.out⟩
               (try clear BK0); (try clear BK2); (try clear BK210); (try clear HB)
               generalize (((w24.setCell ⟨gb210, 0, none⟩ (.int .i64 ((rd_T84 l0_1 x10_2).f0))).setCell ⟨gb210, 1, none⟩ (.int .i64 ((rd_T84 l0_1 x10_2).f1))).setCell ⟨gb210, 2, none⟩ (.bool ((rd_T84 l0_1 x10_2).f2))) = w28 at n0_ n1_ n2_ n3_ ⊢
               have BK0 := n0_; have BK2 := n1_; have BK210 := n2_; have HB := n3_; clear n0_ n1_ n2_ n3_; have n0_ := A' (I' BK0.out); have n1_ := A' (I' BK2.out); have n2_ := A' (I' BK210.out); have n3_ := A' (J' HB.out); clear BK0; clear BK2; clear BK210; clear HB; have BK0 := n0_; have BK2 := n1_; have BK210 := n2_; have HB := n3_; clear n0_ n1_ n2_ n3_; have p211 : 0 ≤ (((rd_T84 l0_1 x10_2).f0) : Int) := oD' qA; have q211 : ((rd_T84 l0_1 x10_2).f0) < (l0_0.length : Int) := oD' qA; obtain ⟨ad211, e211, hx211_0, hx211_1, hx211_2⟩ := at_T82 HR0_0.out ((rd_T84 l0_1 x10_2).f0) p211 q211; have hw211_2 := hx211_2; have hw211_1 := hx211_1; have hw211_0 := hx211_0; (try rw [← Nbq6.out] at hx211_2); (try rw [← Nbq6.out] at hw211_2); obtain rfl : ad206 = ad211 := (by injection e211)
               try replace hx211_0 := qC HB.out hx211_0
               try replace hx211_1 := qC HB.out hx211_1
               try replace hx211_2 := qC HB.out hx211_2
               replace p211 := eq_true p211; replace q211 := eq_true q211; refine start_ (n := 10) (S := fun w' => w'.cell? ⟨gp0, 0, none⟩ = some (.slice (some ad206) l0_0.length c0_0) ∧ w'.cell? ⟨gp0, 1, none⟩ = some (.slice (some ad209) l0_1.length c0_1) ∧ w'.cell? ⟨gb210, 0, none⟩ = some (.int .i64 ((rd_T84 l0_1 x10_2).f0)) ∧ w'.cell? ⟨gb210, 1, none⟩ = some (.int .i64 ((rd_T84 l0_1 x10_2).f1)) ∧ w'.cell? ⟨gb210, 2, none⟩ = some (.bool ((rd_T84 l0_1 x10_2).f2)) ∧ w'.cell? (ad206.add ((((rd_T84 l0_1 x10_2).f0)).toNat * 3)) = some (.int .i64 ((rd_T82 l0_0 ((rd_T84 l0_1 x10_2).f0)).f0)) ∧ w'.cell? ⟨(ad206.add ((((rd_T84 l0_1 x10_2).f0)).toNat * 3)).block, (ad206.add ((((rd_T84 l0_1 x10_2).f0)).toNat * 3)).off + 1, none⟩ = some (.int .i64 ((rd_T82 l0_0 ((rd_T84 l0_1 x10_2).f0)).f1)) ∧ w'.cell? ⟨(ad206.add ((((rd_T84 l0_1 x10_2).f0)).toNat * 3)).block, (ad206.add ((((rd_T84 l0_1 x10_2).f0)).toNat * 3)).off + 2, none⟩ = some (.bool ((rd_T82 l0_0 ((rd_T84 l0_1 x10_2).f0)).f2))) (ds := []) #[n', n', n', n', n', n', n', n', n', n'] (by kernel_rfl) rfl rfl ⟨(N' BK0.out 0).trans rfl, (N' BK0.out 1).trans rfl, (N' BK210.out 0).trans rfl, (N' BK210.out 1).trans rfl, (N' BK210.out 2).trans rfl, (qC HB.out hw211_0 :), (qC HB.out hw211_1 :), (qC HB.out hw211_2 :)⟩ (fun hHeld => ?_); refine with_tabW spec_l09Balanced.tab11 spec_l09Balanced.bits11 (fun HT_ HW_ => ?_)
               generalize w28.drew = w29 at BK0 BK2 BK210 HB hx211_0 hx211_1 hx211_2 hHeld ⊢
               refine pure_ (i := 0) (N := some 67) (v := ?_) (a' := ?_) #[y', n', n', n', n', n', n', n', n', n'] rfl rfl (any_of HT_.out (by kernel_rfl)) (fun _ _ _ h => h) (Or.inl ⟨by rfl, ?_⟩) ?_ ?_; rotate_left
               ·exact qI
               rotate_left
               ·exact qP
               refine pure_ (i := 1) (N := some 68) (v := ?_) (a' := ?_) #[y', y', n', n', n', n', n', n', n', n'] rfl rfl (any_of HT_.out (by kernel_rfl)) (fun _ _ _ h => h) (Or.inl ⟨by rfl, ?_⟩) ?_ ?_; rotate_left
               ·exact qI
               rotate_left
               ·exact qP
               refine pure_ (i := 2) (N := some 69) (v := ?_) (a' := ?_) #[y', y', y', n', n', n', n', n', n', n'] rfl rfl (any_of HT_.out (by kernel_rfl)) (fun _ _ _ h => h) (Or.inl ⟨by rfl, ?_⟩) ?_ ?_; rotate_left
               ·exact qI
               rotate_left
               ·exact qP
               refine pure_ (i := 4) (N := some 71) (v := ?_) (a' := ?_) #[y', y', y', n', y', n', n', n', n', n'] rfl rfl (any_of HT_.out (by kernel_rfl)) (fun _ _ _ h => h) (Or.inl ⟨by rfl, ?_⟩) ?_ ?_; rotate_left
               ·exact qI
               rotate_left
               ·exact qP
               refine take_ (i := 3) (N := some 70) (v := ?_) (a' := ?_) #[y', y', y', y', y', n', n', n', n', n'] rfl rfl (take_ofW HT_.out HW_.out (by kernel_rfl)) (fun _ _ _ h => h) (Or.inl ⟨by rfl, ?_⟩) hHeld ?_ ?_; rotate_left
               ·rintro w' ⟨s0, s1, s2, s3, s4, s5, s6, s7⟩; go_simp; with_reducible rfl
               rotate_left
               ·exact qP
               refine take_ (i := 5) (N := some 72) (v := ?_) (a' := ?_) #[y', y', y', y', y', y', n', n', n', n'] rfl rfl (take_ofW HT_.out HW_.out (by kernel_rfl)) (fun _ _ _ h => h) (Or.inl ⟨by rfl, ?_⟩) hHeld ?_ ?_; rotate_left
               ·rintro w' ⟨s0, s1, s2, s3, s4, s5, s6, s7⟩; go_simp; with_reducible rfl
               rotate_left
               ·exact qP
               refine pure_ (i := 6) (N := some 73) (v := ?_) (a' := ?_) #[y', y', y', y', y', y', y', n', n', n'] rfl rfl (any_of HT_.out (by kernel_rfl)) (fun _ _ _ h => h) (Or.inl ⟨by rfl, ?_⟩) ?_ ?_; rotate_left
               ·exact qI
               rotate_left
               ·exact qP
               refine take_ (i := 7) (N := some 74) (v := ?_) (a' := ?_) #[y', y', y', y', y', y', y', y', n', n'] rfl rfl (take_ofW HT_.out HW_.out (by kernel_rfl)) (fun _ _ _ h => h) (Or.inl ⟨by rfl, ?_⟩) hHeld ?_ ?_; rotate_left
               ·rintro w' ⟨s0, s1, s2, s3, s4, s5, s6, s7⟩; go_simp; with_reducible rfl
               rotate_left
               ·exact qP
               refine one_ (i := 8) (N := some 12) #[y', y', y', y', y', y', y', y', y', n'] rfl rfl (one_of HT_.out (by kernel_rfl)) (by decide) (fun K hK => ?_); refine box_step ?hg (N := 12) ?hd (cs := #[.int .i64 0, .int .i64 0, .bool false]) (t := 82) ?hr ?_; (case hd => rfl); (case hg => rfl); (case hr => first | (go_simp; done) | (go_simp; rfl)); intro gb212 hg w30 hbox hb; have n0_ := A' (O' (g := gp0) (qB BK0.out) hb); have n1_ := A' (O' (g := gp2) (qB BK2.out) hb); have n2_ := A' (O' (g := gb210) (qB BK210.out) hb); have n3_ := A' (W' (qK1 HB.out GE210.out) hb); have n4_ := A' (hbox); have n5_ := A' ((by rw [hg]; exact (V' (qK1 HB.out GE210.out)) : w.heap.size ≤ gb212)); have n6_ := A' ((by rw [hg]; exact (V' (qK1 HB.out GE210.out)) : w.heap.size ≤ gb212)); have n7_ := A' ((by rw [hg]; exact Nat.ne_of_lt (bL' (g := gp0) (qB BK0.out)) : gp0 ≠ gb212)); have n8_ := A' ((by rw [hg]; exact Nat.ne_of_gt (bL' (g := gp0) (qB BK0.out)) : gb212 ≠ gp0)); have n9_ := A' ((by rw [hg]; exact Nat.ne_of_lt (bL' (g := gp2) (qB BK2.out)) : gp2 ≠ gb212)); have n10_ := A' ((by rw [hg]; exact Nat.ne_of_gt (bL' (g := gp2) (qB BK2.out)) : gb212 ≠ gp2)); have n11_ := A' ((by rw [hg]; exact Nat.ne_of_lt (bL' (g := gb210) (qB BK210.out)) : gb210 ≠ gb212)); have n12_ := A' ((by rw [hg]; exact Nat.ne_of_gt (bL' (g := gb210) (qB BK210.out)) : gb212 ≠ gb210)); clear BK0; clear BK2; clear BK210; clear HB; have BK0 := n0_; have BK2 := n1_; have BK210 := n2_; have HB := n3_; have BK212 := n4_; have GW212 := n5_; have GE212 := n6_; have NB0_212 := n7_; have NB212_0 := n8_; have NB2_212 := n9_; have NB212_2 := n10_; have NB210_212 := n11_; have NB212_210 := n12_; clear n0_ n1_ n2_ n3_ n4_ n5_ n6_ n7_ n8_ n9_ n10_ n11_ n12_; clear hb hbox hg; refine hK.out _ _ ⟨(N' BK0.out 0).trans rfl, (N' BK0.out 1).trans rfl, (N' BK210.out 0).trans rfl, (N' BK210.out 1).trans rfl, (N' BK210.out 2).trans rfl, (qC HB.out hw211_0 :), (qC HB.out hw211_1 :), (qC HB.out hw211_2 :)⟩ (fun hHeld => ?_); clear hK K; refine norm_ (a' := ?_) ?_ ?_; rotate_left
               ·show Act.put _ (some 12) _ = _
                exact qP
               refine one_ (i := 9) (N := none) #[y', y', y', y', y', y', y', y', y', y'] rfl rfl (one_of HT_.out (by kernel_rfl)) (by decide) (fun K hK => ?_); have hs31 : w30.cell? ⟨gb212, 0, none⟩ = some (.int .i64 0) := (N' BK212.out 0).trans rfl; have hfs31 := Y' BK212.out 0; have hns31_0 := NB0_212.out; have hns31_1 := NB2_212.out; have hns31_2 := NB210_212.out; have hms31_0 := NB212_0.out; have hms31_1 := NB212_2.out; have hms31_2 := NB212_210.out; have hs32 : w30.cell? ⟨gb212, 1, none⟩ = some (.int .i64 0) := (N' BK212.out 1).trans rfl; have hfs32 := Y' BK212.out 1; have hns32_0 := NB0_212.out; have hns32_1 := NB2_212.out; have hns32_2 := NB210_212.out; have hms32_0 := NB212_0.out; have hms32_1 := NB212_2.out; have hms32_2 := NB212_210.out; have hs33 : w30.cell? ⟨gb212, 2, none⟩ = some (.bool false) := (N' BK212.out 2).trans rfl; have hfs33 := Y' BK212.out 2; have hns33_0 := NB0_212.out; have hns33_1 := NB2_212.out; have hns33_2 := NB210_212.out; have hms33_0 := NB212_0.out; have hms33_1 := NB212_2.out; have hms33_2 := NB212_210.out; refine skip_ (w1 := ?_) (by rfl) rfl ?_ ?_; rotate_left
               ·go_simp
                rfl
               refine hK.out _ _ ⟨((Z' (p := ⟨gb212, _, none⟩) NB0_212.out _).trans (((Z' (p := ⟨gb212, _, none⟩) NB0_212.out _).trans (((Z' (p := ⟨gb212, _, none⟩) NB0_212.out _).trans (hHeld.1)))))), ((Z' (p := ⟨gb212, _, none⟩) NB0_212.out _).trans (((Z' (p := ⟨gb212, _, none⟩) NB0_212.out _).trans (((Z' (p := ⟨gb212, _, none⟩) NB0_212.out _).trans (hHeld.2.1)))))), ((Z' (p := ⟨gb212, _, none⟩) NB210_212.out _).trans (((Z' (p := ⟨gb212, _, none⟩) NB210_212.out _).trans (((Z' (p := ⟨gb212, _, none⟩) NB210_212.out _).trans (hHeld.2.2.1)))))), ((Z' (p := ⟨gb212, _, none⟩) NB210_212.out _).trans (((Z' (p := ⟨gb212, _, none⟩) NB210_212.out _).trans (((Z' (p := ⟨gb212, _, none⟩) NB210_212.out _).trans (hHeld.2.2.2.1)))))), ((Z' (p := ⟨gb212, _, none⟩) NB210_212.out _).trans (((Z' (p := ⟨gb212, _, none⟩) NB210_212.out _).trans (((Z' (p := ⟨gb212, _, none⟩) NB210_212.out _).trans (hHeld.2.2.2.2.1)))))), ((Z' (p := ⟨gb212, _, none⟩) (qF hw211_0 GW212.out) _).trans (((Z' (p := ⟨gb212, _, none⟩) (qF hw211_0 GW212.out) _).trans (((Z' (p := ⟨gb212, _, none⟩) (qF hw211_0 GW212.out) _).trans (hHeld.2.2.2.2.2.1)))))), ((Z' (p := ⟨gb212, _, none⟩) (qF hw211_1 GW212.out) _).trans (((Z' (p := ⟨gb212, _, none⟩) (qF hw211_1 GW212.out) _).trans (((Z' (p := ⟨gb212, _, none⟩) (qF hw211_1 GW212.out) _).trans (hHeld.2.2.2.2.2.2.1)))))), ((Z' (p := ⟨gb212, _, none⟩) (qF hw211_2 GW212.out) _).trans (((Z' (p := ⟨gb212, _, none⟩) (qF hw211_2 GW212.out) _).trans (((Z' (p := ⟨gb212, _, none⟩) (qF hw211_2 GW212.out) _).trans (hHeld.2.2.2.2.2.2.2))))))⟩ (fun hHeld => ?_); clear hK K; refine done_ (done_of HT_.out (by kernel_rfl)) ?_; try go_wp2
               have n0_ : Aside0 ((((w30.setCell ⟨gb212, 0, none⟩ (.int .i64 ((rd_T82 l0_0 ((rd_T84 l0_1 x10_2).f0)).f0))).setCell ⟨gb212, 1, none⟩ (.int .i64 ((rd_T82 l0_0 ((rd_T84 l0_1 x10_2).f0)).f1))).setCell ⟨gb212, 2, none⟩ (.bool ((rd_T82 l0_0 ((rd_T84 l0_1 x10_2).f0)).f2))).heap[gp0]? = some (.cells #[.slice (some ad206) l0_0.length c0_0, .slice (some ad209) l0_1.length c0_1] 39 (0, 0))) := ⟨qG3 BK0.out NB0_212.out NB0_212.out NB0_212.out⟩
               have n1_ : Aside0 ((((w30.setCell ⟨gb212, 0, none⟩ (.int .i64 ((rd_T82 l0_0 ((rd_T84 l0_1 x10_2).f0)).f0))).setCell ⟨gb212, 1, none⟩ (.int .i64 ((rd_T82 l0_0 ((rd_T84 l0_1 x10_2).f0)).f1))).setCell ⟨gb212, 2, none⟩ (.bool ((rd_T82 l0_0 ((rd_T84 l0_1 x10_2).f0)).f2))).heap[gp2]? = some (.cells #[.slice A2_0 l2_0.length c2_0, .int .i64 a2_1] 27 (0, 0))) := ⟨qG3 BK2.out NB2_212.out NB2_212.out NB2_212.out⟩
               have n2_ : Aside0 ((((w30.setCell ⟨gb212, 0, none⟩ (.int .i64 ((rd_T82 l0_0 ((rd_T84 l0_1 x10_2).f0)).f0))).setCell ⟨gb212, 1, none⟩ (.int .i64 ((rd_T82 l0_0 ((rd_T84 l0_1 x10_2).f0)).f1))).setCell ⟨gb212, 2, none⟩ (.bool ((rd_T82 l0_0 ((rd_T84 l0_1 x10_2).f0)).f2))).heap[gb210]? = some (.cells #[.int .i64 ((rd_T84 l0_1 x10_2).f0), .int .i64 ((rd_T84 l0_1 x10_2).f1), .bool ((rd_T84 l0_1 x10_2).f2)] 84 (0, 0))) := ⟨qG3 BK210.out NB210_212.out NB210_212.out NB210_212.out⟩
               have n3_ : Aside0 ((((w30.setCell ⟨gb212, 0, none⟩ (.int .i64 ((rd_T82 l0_0 ((rd_T84 l0_1 x10_2).f0)).f0))).setCell ⟨gb212, 1, none⟩ (.int .i64 ((rd_T82 l0_0 ((rd_T84 l0_1 x10_2).f0)).f1))).setCell ⟨gb212, 2, none⟩ (.bool ((rd_T82 l0_0 ((rd_T84 l0_1 x10_2).f0)).f2))).heap[gb212]? = some (.cells #[.int .i64 ((rd_T82 l0_0 ((rd_T84 l0_1 x10_2).f0)).f0), .int .i64 ((rd_T82 l0_0 ((rd_T84 l0_1 x10_2).f0)).f1), .bool ((rd_T82 l0_0 ((rd_T84 l0_1 x10_2).f0)).f2)] 82 (0, 0))) := ⟨by (with_reducible repeat (first | refine G' ?_ _ | refine I' ?_ | refine H' ?_ _)); refine blk_put (cs := #[.int .i64 ((rd_T82 l0_0 ((rd_T84 l0_1 x10_2).f0)).f0), .int .i64 ((rd_T82 l0_0 ((rd_T84 l0_1 x10_2).f0)).f1), .bool false]) ?_ 2 _ rfl; (with_reducible repeat (first | refine G' ?_ _ | refine I' ?_ | refine H' ?_ _)); refine blk_put (cs := #[.int .i64 ((rd_T82 l0_0 ((rd_T84 l0_1 x10_2).f0)).f0), .int .i64 0, .bool false]) ?_ 1 _ rfl; (with_reducible repeat (first | refine G' ?_ _ | refine I' ?_ | refine H' ?_ _)); refine blk_put (cs := #[.int .i64 0, .int .i64 0, .bool false]) ?_ 0 _ rfl; (with_reducible repeat (first | refine G' ?_ _ | refine I' ?_ | refine H' ?_ _)); exact BK212.out⟩
               have n4_ : Aside0 (Below w.heap.size w (((w30.setCell ⟨gb212, 0, none⟩ (.int .i64 ((rd_T82 l0_0 ((rd_T84 l0_1 x10_2).f0)).f0))).setCell ⟨gb212, 1, none⟩ (.int .i64 ((rd_T82 l0_0 ((rd_T84 l0_1 x10_2).f0)).f1))).setCell ⟨gb212, 2, none⟩ (.bool ((rd_T82 l0_0 ((rd_T84 l0_1 x10_2).f0)).f2)))) := ⟨qK2 HB.out GE210.out GE212.out⟩
               (try clear BK0); (try clear BK2); (try clear BK210); (try clear BK212); (try clear HB)
               generalize (((w30.setCell ⟨gb212, 0, none⟩ (.int .i64 ((rd_T82 l0_0 ((rd_T84 l0_1 x10_2).f0)).f0))).setCell ⟨gb212, 1, none⟩ (.int .i64 ((rd_T82 l0_0 ((rd_T84 l0_1 x10_2).f0)).f1))).setCell ⟨gb212, 2, none⟩ (.bool ((rd_T82 l0_0 ((rd_T84 l0_1 x10_2).f0)).f2))) = w34 at n0_ n1_ n2_ n3_ n4_ ⊢
               have BK0 := n0_; have BK2 := n1_; have BK210 := n2_; have BK212 := n3_; have HB := n4_; clear n0_ n1_ n2_ n3_ n4_; have n0_ := A' (I' BK0.out); have n1_ := A' (I' BK2.out); have n2_ := A' (I' BK210.out); have n3_ := A' (I' BK212.out); have n4_ := A' (J' HB.out); clear BK0; clear BK2; clear BK210; clear BK212; clear HB; have BK0 := n0_; have BK2 := n1_; have BK210 := n2_; have BK212 := n3_; have HB := n4_; clear n0_ n1_ n2_ n3_ n4_; have p213 : 0 ≤ (((rd_T84 l0_1 x10_2).f1) : Int) := oD' qA; have q213 : ((rd_T84 l0_1 x10_2).f1) < (l0_0.length : Int) := oD' qA; obtain ⟨ad213, e213, hx213_0, hx213_1, hx213_2⟩ := at_T82 HR0_0.out ((rd_T84 l0_1 x10_2).f1) p213 q213; have hw213_2 := hx213_2; have hw213_1 := hx213_1; have hw213_0 := hx213_0; (try rw [← Nbq6.out] at hx213_2); (try rw [← Nbq6.out] at hw213_2); obtain rfl : ad206 = ad213 := (by injection e213)
               try replace hx213_0 := qC HB.out hx213_0
               try replace hx213_1 := qC HB.out hx213_1
               try replace hx213_2 := qC HB.out hx213_2
               replace p213 := eq_true p213; replace q213 := eq_true q213; refine start_ (n := 10) (S := fun w' => w'.cell? ⟨gp0, 0, none⟩ = some (.slice (some ad206) l0_0.length c0_0) ∧ w'.cell? ⟨gp0, 1, none⟩ = some (.slice (some ad209) l0_1.length c0_1) ∧ w'.cell? ⟨gb210, 0, none⟩ = some (.int .i64 ((rd_T84 l0_1 x10_2).f0)) ∧ w'.cell? ⟨gb210, 1, none⟩ = some (.int .i64 ((rd_T84 l0_1 x10_2).f1)) ∧ w'.cell? ⟨gb210, 2, none⟩ = some (.bool ((rd_T84 l0_1 x10_2).f2)) ∧ w'.cell? (ad206.add ((((rd_T84 l0_1 x10_2).f1)).toNat * 3)) = some (.int .i64 ((rd_T82 l0_0 ((rd_T84 l0_1 x10_2).f1)).f0)) ∧ w'.cell? ⟨(ad206.add ((((rd_T84 l0_1 x10_2).f1)).toNat * 3)).block, (ad206.add ((((rd_T84 l0_1 x10_2).f1)).toNat * 3)).off + 1, none⟩ = some (.int .i64 ((rd_T82 l0_0 ((rd_T84 l0_1 x10_2).f1)).f1)) ∧ w'.cell? ⟨(ad206.add ((((rd_T84 l0_1 x10_2).f1)).toNat * 3)).block, (ad206.add ((((rd_T84 l0_1 x10_2).f1)).toNat * 3)).off + 2, none⟩ = some (.bool ((rd_T82 l0_0 ((rd_T84 l0_1 x10_2).f1)).f2))) (ds := []) #[n', n', n', n', n', n', n', n', n', n'] (by kernel_rfl) rfl rfl ⟨(N' BK0.out 0).trans rfl, (N' BK0.out 1).trans rfl, (N' BK210.out 0).trans rfl, (N' BK210.out 1).trans rfl, (N' BK210.out 2).trans rfl, (qC HB.out hw213_0 :), (qC HB.out hw213_1 :), (qC HB.out hw213_2 :)⟩ (fun hHeld => ?_); refine with_tabW spec_l09Balanced.tab12 spec_l09Balanced.bits12 (fun HT_ HW_ => ?_)
               generalize w34.drew = w35 at BK0 BK2 BK210 BK212 HB hx213_0 hx213_1 hx213_2 hHeld ⊢
               refine pure_ (i := 0) (N := some 75) (v := ?_) (a' := ?_) #[y', n', n', n', n', n', n', n', n', n'] rfl rfl (any_of HT_.out (by kernel_rfl)) (fun _ _ _ h => h) (Or.inl ⟨by rfl, ?_⟩) ?_ ?_; rotate_left
               ·exact qI
               rotate_left
               ·exact qP
               refine pure_ (i := 1) (N := some 76) (v := ?_) (a' := ?_) #[y', y', n', n', n', n', n', n', n', n'] rfl rfl (any_of HT_.out (by kernel_rfl)) (fun _ _ _ h => h) (Or.inl ⟨by rfl, ?_⟩) ?_ ?_; rotate_left
               ·exact qI
               rotate_left
               ·exact qP
               refine pure_ (i := 2) (N := some 77) (v := ?_) (a' := ?_) #[y', y', y', n', n', n', n', n', n', n'] rfl rfl (any_of HT_.out (by kernel_rfl)) (fun _ _ _ h => h) (Or.inl ⟨by rfl, ?_⟩) ?_ ?_; rotate_left
               ·exact qI
               rotate_left
               ·exact qP
               refine pure_ (i := 4) (N := some 79) (v := ?_) (a' := ?_) #[y', y', y', n', y', n', n', n', n', n'] rfl rfl (any_of HT_.out (by kernel_rfl)) (fun _ _ _ h => h) (Or.inl ⟨by rfl, ?_⟩) ?_ ?_; rotate_left
               ·exact qI
               rotate_left
               ·exact qP
               refine take_ (i := 3) (N := some 78) (v := ?_) (a' := ?_) #[y', y', y', y', y', n', n', n', n', n'] rfl rfl (take_ofW HT_.out HW_.out (by kernel_rfl)) (fun _ _ _ h => h) (Or.inl ⟨by rfl, ?_⟩) hHeld ?_ ?_; rotate_left
               ·rintro w' ⟨s0, s1, s2, s3, s4, s5, s6, s7⟩; go_simp; with_reducible rfl
               rotate_left
               ·exact qP
               refine take_ (i := 5) (N := some 80) (v := ?_) (a' := ?_) #[y', y', y', y', y', y', n', n', n', n'] rfl rfl (take_ofW HT_.out HW_.out (by kernel_rfl)) (fun _ _ _ h => h) (Or.inl ⟨by rfl, ?_⟩) hHeld ?_ ?_; rotate_left
               ·rintro w' ⟨s0, s1, s2, s3, s4, s5, s6, s7⟩; go_simp; with_reducible rfl
               rotate_left
               ·exact qP
               refine pure_ (i := 6) (N := some 81) (v := ?_) (a' := ?_) #[y', y', y', y', y', y', y', n', n', n'] rfl rfl (any_of HT_.out (by kernel_rfl)) (fun _ _ _ h => h) (Or.inl ⟨by rfl, ?_⟩) ?_ ?_; rotate_left
               ·exact qI
               rotate_left
               ·exact qP
               refine take_ (i := 7) (N := some 82) (v := ?_) (a' := ?_) #[y', y', y', y', y', y', y', y', n', n'] rfl rfl (take_ofW HT_.out HW_.out (by kernel_rfl)) (fun _ _ _ h => h) (Or.inl ⟨by rfl, ?_⟩) hHeld ?_ ?_; rotate_left
               ·rintro w' ⟨s0, s1, s2, s3, s4, s5, s6, s7⟩; go_simp; with_reducible rfl
               rotate_left
               ·exact qP
               refine one_ (i := 8) (N := some 13) #[y', y', y', y', y', y', y', y', y', n'] rfl rfl (one_of HT_.out (by kernel_rfl)) (by decide) (fun K hK => ?_); refine box_step ?hg (N := 13) ?hd (cs := #[.int .i64 0, .int .i64 0, .bool false]) (t := 82) ?hr ?_; (case hd => rfl); (case hg => rfl); (case hr => first | (go_simp; done) | (go_simp; rfl)); intro gb214 hg w36 hbox hb; have n0_ := A' (O' (g := gp0) (qB BK0.out) hb); have n1_ := A' (O' (g := gp2) (qB BK2.out) hb); have n2_ := A' (O' (g := gb210) (qB BK210.out) hb); have n3_ := A' (O' (g := gb212) (qB BK212.out) hb); have n4_ := A' (W' (qK2 HB.out GE210.out GE212.out) hb); have n5_ := A' (hbox); have n6_ := A' ((by rw [hg]; exact (V' (qK2 HB.out GE210.out GE212.out)) : w.heap.size ≤ gb214)); have n7_ := A' ((by rw [hg]; exact (V' (qK2 HB.out GE210.out GE212.out)) : w.heap.size ≤ gb214)); have n8_ := A' ((by rw [hg]; exact Nat.ne_of_lt (bL' (g := gp0) (qB BK0.out)) : gp0 ≠ gb214)); have n9_ := A' ((by rw [hg]; exact Nat.ne_of_gt (bL' (g := gp0) (qB BK0.out)) : gb214 ≠ gp0)); have n10_ := A' ((by rw [hg]; exact Nat.ne_of_lt (bL' (g := gp2) (qB BK2.out)) : gp2 ≠ gb214)); have n11_ := A' ((by rw [hg]; exact Nat.ne_of_gt (bL' (g := gp2) (qB BK2.out)) : gb214 ≠ gp2)); have n12_ := A' ((by rw [hg]; exact Nat.ne_of_lt (bL' (g := gb210) (qB BK210.out)) : gb210 ≠ gb214)); have n13_ := A' ((by rw [hg]; exact Nat.ne_of_gt (bL' (g := gb210) (qB BK210.out)) : gb214 ≠ gb210)); have n14_ := A' ((by rw [hg]; exact Nat.ne_of_lt (bL' (g := gb212) (qB BK212.out)) : gb212 ≠ gb214)); have n15_ := A' ((by rw [hg]; exact Nat.ne_of_gt (bL' (g := gb212) (qB BK212.out)) : gb214 ≠ gb212)); clear BK0; clear BK2; clear BK210; clear BK212; clear HB; have BK0 := n0_; have BK2 := n1_; have BK210 := n2_; have BK212 := n3_; have HB := n4_; have BK214 := n5_; have GW214 := n6_; have GE214 := n7_; have NB0_214 := n8_; have NB214_0 := n9_; have NB2_214 := n10_; have NB214_2 := n11_; have NB210_214 := n12_; have NB214_210 := n13_; have NB212_214 := n14_; have NB214_212 := n15_; clear n0_ n1_ n2_ n3_ n4_ n5_ n6_ n7_ n8_ n9_ n10_ n11_ n12_ n13_ n14_ n15_; clear hb hbox hg; refine hK.out _ _ ⟨(N' BK0.out 0).trans rfl, (N' BK0.out 1).trans rfl, (N' BK210.out 0).trans rfl, (N' BK210.out 1).trans rfl, (N' BK210.out 2).trans rfl, (qC HB.out hw213_0 :), (qC HB.out hw213_1 :), (qC HB.out hw213_2 :)⟩ (fun hHeld => ?_); clear hK K; refine norm_ (a' := ?_) ?_ ?_; rotate_left
               ·show Act.put _ (some 13) _ = _
                exact qP
               refine one_ (i := 9) (N := none) #[y', y', y', y', y', y', y', y', y', y'] rfl rfl (one_of HT_.out (by kernel_rfl)) (by decide) (fun K hK => ?_); have hs37 : w36.cell? ⟨gb214, 0, none⟩ = some (.int .i64 0) := (N' BK214.out 0).trans rfl; have hfs37 := Y' BK214.out 0; have hns37_0 := NB0_214.out; have hns37_1 := NB2_214.out; have hns37_2 := NB210_214.out; have hns37_3 := NB212_214.out; have hms37_0 := NB214_0.out; have hms37_1 := NB214_2.out; have hms37_2 := NB214_210.out; have hms37_3 := NB214_212.out; have hs38 : w36.cell? ⟨gb214, 1, none⟩ = some (.int .i64 0) := (N' BK214.out 1).trans rfl; have hfs38 := Y' BK214.out 1; have hns38_0 := NB0_214.out; have hns38_1 := NB2_214.out; have hns38_2 := NB210_214.out; have hns38_3 := NB212_214.out; have hms38_0 := NB214_0.out; have hms38_1 := NB214_2.out; have hms38_2 := NB214_210.out; have hms38_3 := NB214_212.out; have hs39 : w36.cell? ⟨gb214, 2, none⟩ = some (.bool false) := (N' BK214.out 2).trans rfl; have hfs39 := Y' BK214.out 2; have hns39_0 := NB0_214.out; have hns39_1 := NB2_214.out; have hns39_2 := NB210_214.out; have hns39_3 := NB212_214.out; have hms39_0 := NB214_0.out; have hms39_1 := NB214_2.out; have hms39_2 := NB214_210.out; have hms39_3 := NB214_212.out; refine skip_ (w1 := ?_) (by rfl) rfl ?_ ?_; rotate_left
               ·go_simp
                rfl
               refine hK.out _ _ ⟨((Z' (p := ⟨gb214, _, none⟩) NB0_214.out _).trans (((Z' (p := ⟨gb214, _, none⟩) NB0_214.out _).trans (((Z' (p := ⟨gb214, _, none⟩) NB0_214.out _).trans (hHeld.1)))))), ((Z' (p := ⟨gb214, _, none⟩) NB0_214.out _).trans (((Z' (p := ⟨gb214, _, none⟩) NB0_214.out _).trans (((Z' (p := ⟨gb214, _, none⟩) NB0_214.out _).trans (hHeld.2.1)))))), ((Z' (p := ⟨gb214, _, none⟩) NB210_214.out _).trans (((Z' (p := ⟨gb214, _, none⟩) NB210_214.out _).trans (((Z' (p := ⟨gb214, _, none⟩) NB210_214.out _).trans (hHeld.2.2.1)))))), ((Z' (p := ⟨gb214, _, none⟩) NB210_214.out _).trans (((Z' (p := ⟨gb214, _, none⟩) NB210_214.out _).trans (((Z' (p := ⟨gb214, _, none⟩) NB210_214.out _).trans (hHeld.2.2.2.1)))))), ((Z' (p := ⟨gb214, _, none⟩) NB210_214.out _).trans (((Z' (p := ⟨gb214, _, none⟩) NB210_214.out _).trans (((Z' (p := ⟨gb214, _, none⟩) NB210_214.out _).trans (hHeld.2.2.2.2.1)))))), ((Z' (p := ⟨gb214, _, none⟩) (qF hw213_0 GW214.out) _).trans (((Z' (p := ⟨gb214, _, none⟩) (qF hw213_0 GW214.out) _).trans (((Z' (p := ⟨gb214, _, none⟩) (qF hw213_0 GW214.out) _).trans (hHeld.2.2.2.2.2.1)))))), ((Z' (p := ⟨gb214, _, none⟩) (qF hw213_1 GW214.out) _).trans (((Z' (p := ⟨gb214, _, none⟩) (qF hw213_1 GW214.out) _).trans (((Z' (p := ⟨gb214, _, none⟩) (qF hw213_1 GW214.out) _).trans (hHeld.2.2.2.2.2.2.1)))))), ((Z' (p := ⟨gb214, _, none⟩) (qF hw213_2 GW214.out) _).trans (((Z' (p := ⟨gb214, _, none⟩) (qF hw213_2 GW214.out) _).trans (((Z' (p := ⟨gb214, _, none⟩) (qF hw213_2 GW214.out) _).trans (hHeld.2.2.2.2.2.2.2))))))⟩ (fun hHeld => ?_); clear hK K; refine done_ (done_of HT_.out (by kernel_rfl)) ?_; have hnb40 := NB210_212.out; have hnc40 := NB212_210.out; have hnb41 := NB210_214.out; have hnc41 := NB214_210.out; have hcz42_0 : w36.cell? ⟨gb210, 0, none⟩ = some (.int .i64 ((rd_T84 l0_1 x10_2).f0)) := (N' BK210.out 0).trans rfl; have hcz42_1 : w36.cell? ⟨gb210, 1, none⟩ = some (.int .i64 ((rd_T84 l0_1 x10_2).f1)) := (N' BK210.out 1).trans rfl; have hcz42_2 : w36.cell? ⟨gb210, 2, none⟩ = some (.bool ((rd_T84 l0_1 x10_2).f2)) := (N' BK210.out 2).trans rfl; have hfz42_0 := Y' BK210.out 0; have hfz42_1 := Y' BK210.out 1; have hfz42_2 := Y' BK210.out 2; go_upto_if 86 with (fail)
               go_cut [8, 9] (fun v8 v9 wc => ∃ (kq : Nat) (x8_20 : Int) (x9_20 : Int), v8 = .int .i64 x8_20 ∧ v9 = .int .i64 x9_20 ∧ Aside0 (spec_l09Balanced.j2 kq l1 x7_1 x8_20 x9_20 x10_2 l0_0 l0_1 l2_0 a2_1 ((rd_T84 l0_1 x10_2).f0) ((rd_T84 l0_1 x10_2).f1) ((rd_T84 l0_1 x10_2).f2) ((rd_T82 l0_0 ((rd_T84 l0_1 x10_2).f0)).f0) ((rd_T82 l0_0 ((rd_T84 l0_1 x10_2).f0)).f1) ((rd_T82 l0_0 ((rd_T84 l0_1 x10_2).f0)).f2) ((rd_T82 l0_0 ((rd_T84 l0_1 x10_2).f1)).f0) ((rd_T82 l0_0 ((rd_T84 l0_1 x10_2).f1)).f1) ((rd_T82 l0_0 ((rd_T84 l0_1 x10_2).f1)).f2) = some r) ∧ Aside0 (kq ≤ k2) ∧ Aside0 (wc.heap[gp0]? = some (.cells #[(.slice (some ad206) l0_0.length c0_0), (.slice (some ad209) l0_1.length c0_1)] 39 (0, 0))) ∧ Aside0 (wc.heap[gp2]? = some (.cells #[(.slice A2_0 l2_0.length c2_0), .int .i64 a2_1] 27 (0, 0))) ∧ Aside0 (wc.heap[gb210]? = some (.cells #[.int .i64 ((rd_T84 l0_1 x10_2).f0), .int .i64 ((rd_T84 l0_1 x10_2).f1), .bool ((rd_T84 l0_1 x10_2).f2)] 84 (0, 0))) ∧ Aside0 (wc.heap[gb212]? = some (.cells #[.int .i64 ((rd_T82 l0_0 ((rd_T84 l0_1 x10_2).f0)).f0), .int .i64 ((rd_T82 l0_0 ((rd_T84 l0_1 x10_2).f0)).f1), .bool ((rd_T82 l0_0 ((rd_T84 l0_1 x10_2).f0)).f2)] 82 (0, 0))) ∧ Aside0 (wc.heap[gb214]? = some (.cells #[.int .i64 ((rd_T82 l0_0 ((rd_T84 l0_1 x10_2).f1)).f0), .int .i64 ((rd_T82 l0_0 ((rd_T84 l0_1 x10_2).f1)).f1), .bool ((rd_T82 l0_0 ((rd_T84 l0_1 x10_2).f1)).f2)] 82 (0, 0))) ∧ Aside0 (Below w.heap.size w wc))
               case first =>
                have H := HC21.out; clear HC21
                by_cases c43 : ((rd_T84 l0_1 x10_2).f0) = x7_1
                ·rw [if_pos c43] at H; have c43b0 : (((rd_T84 l0_1 x10_2).f0) == x7_1) = true := beq_iff_eq.mpr c43; have c43b1 : (((rd_T84 l0_1 x10_2).f0) != x7_1) = false := bne_eq_false_iff_eq.mpr c43; clear c43; (first | rw [c43b0] | (simp only [i64_w, i32_w]; rw [c43b0]) | skip)
                 by_cases c44 : x10_2 < (l2_0.length : Int)
                 ·rw [if_pos c44] at H; have c44b0 : decide (x10_2 < (l2_0.length : Int)) = true := dT' c44; clear c44; have H' := A' H; clear H; try go_wp2
                  have n0_ : Aside0 ((((w36.setCell ⟨gb214, 0, none⟩ (.int .i64 ((rd_T82 l0_0 ((rd_T84 l0_1 x10_2).f1)).f0))).setCell ⟨gb214, 1, none⟩ (.int .i64 ((rd_T82 l0_0 ((rd_T84 l0_1 x10_2).f1)).f1))).setCell ⟨gb214, 2, none⟩ (.bool ((rd_T82 l0_0 ((rd_T84 l0_1 x10_2).f1)).f2))).heap[gp0]? = some (.cells #[.slice (some ad206) l0_0.length c0_0, .slice (some ad209) l0_1.length c0_1] 39 (0, 0))) := ⟨qG3 BK0.out NB0_214.out NB0_214.out NB0_214.out⟩
                  have n1_ : Aside0 ((((w36.setCell ⟨gb214, 0, none⟩ (.int .i64 ((rd_T82 l0_0 ((rd_T84 l0_1 x10_2).f1)).f0))).setCell ⟨gb214, 1, none⟩ (.int .i64 ((rd_T82 l0_0 ((rd_T84 l0_1 x10_2).f1)).f1))).setCell ⟨gb214, 2, none⟩ (.bool ((rd_T82 l0_0 ((rd_T84 l0_1 x10_2).f1)).f2))).heap[gp2]? = some (.cells #[.slice A2_0 l2_0.length c2_0, .int .i64 a2_1] 27 (0, 0))) := ⟨qG3 BK2.out NB2_214.out NB2_214.out NB2_214.out⟩
                  have n2_ : Aside0 ((((w36.setCell ⟨gb214, 0, none⟩ (.int .i64 ((rd_T82 l0_0 ((rd_T84 l0_1 x10_2).f1)).f0))).setCell ⟨gb214, 1, none⟩ (.int .i64 ((rd_T82 l0_0 ((rd_T84 l0_1 x10_2).f1)).f1))).setCell ⟨gb214, 2, none⟩ (.bool ((rd_T82 l0_0 ((rd_T84 l0_1 x10_2).f1)).f2))).heap[gb210]? = some (.cells #[.int .i64 ((rd_T84 l0_1 x10_2).f0), .int .i64 ((rd_T84 l0_1 x10_2).f1), .bool ((rd_T84 l0_1 x10_2).f2)] 84 (0, 0))) := ⟨qG3 BK210.out NB210_214.out NB210_214.out NB210_214.out⟩
                  have n3_ : Aside0 ((((w36.setCell ⟨gb214, 0, none⟩ (.int .i64 ((rd_T82 l0_0 ((rd_T84 l0_1 x10_2).f1)).f0))).setCell ⟨gb214, 1, none⟩ (.int .i64 ((rd_T82 l0_0 ((rd_T84 l0_1 x10_2).f1)).f1))).setCell ⟨gb214, 2, none⟩ (.bool ((rd_T82 l0_0 ((rd_T84 l0_1 x10_2).f1)).f2))).heap[gb212]? = some (.cells #[.int .i64 ((rd_T82 l0_0 ((rd_T84 l0_1 x10_2).f0)).f0), .int .i64 ((rd_T82 l0_0 ((rd_T84 l0_1 x10_2).f0)).f1), .bool ((rd_T82 l0_0 ((rd_T84 l0_1 x10_2).f0)).f2)] 82 (0, 0))) := ⟨qG3 BK212.out NB212_214.out NB212_214.out NB212_214.out⟩
                  have n4_ : Aside0 ((((w36.setCell ⟨gb214, 0, none⟩ (.int .i64 ((rd_T82 l0_0 ((rd_T84 l0_1 x10_2).f1)).f0))).setCell ⟨gb214, 1, none⟩ (.int .i64 ((rd_T82 l0_0 ((rd_T84 l0_1 x10_2).f1)).f1))).setCell ⟨gb214, 2, none⟩ (.bool ((rd_T82 l0_0 ((rd_T84 l0_1 x10_2).f1)).f2))).heap[gb214]? = some (.cells #[.int .i64 ((rd_T82 l0_0 ((rd_T84 l0_1 x10_2).f1)).f0), .int .i64 ((rd_T82 l0_0 ((rd_T84 l0_1 x10_2).f1)).f1), .bool ((rd_T82 l0_0 ((rd_T84 l0_1 x10_2).f1)).f2)] 82 (0, 0))) := ⟨by (with_reducible repeat (first | refine G' ?_ _ | refine I' ?_ | refine H' ?_ _)); refine blk_put (cs := #[.int .i64 ((rd_T82 l0_0 ((rd_T84 l0_1 x10_2).f1)).f0), .int .i64 ((rd_T82 l0_0 ((rd_T84 l0_1 x10_2).f1)).f1), .bool false]) ?_ 2 _ rfl; (with_reducible repeat (first | refine G' ?_ _ | refine I' ?_ | refine H' ?_ _)); refine blk_put (cs := #[.int .i64 ((rd_T82 l0_0 ((rd_T84 l0_1 x10_2).f1)).f0), .int .i64 0, .bool false]) ?_ 1 _ rfl; (with_reducible repeat (first | refine G' ?_ _ | refine I' ?_ | refine H' ?_ _)); refine blk_put (cs := #[.int .i64 0, .int .i64 0, .bool false]) ?_ 0 _ rfl; (with_reducible repeat (first | refine G' ?_ _ | refine I' ?_ | refine H' ?_ _)); exact BK214.out⟩
                  have n5_ : Aside0 (Below w.heap.size w (((w36.setCell ⟨gb214, 0, none⟩ (.int .i64 ((rd_T82 l0_0 ((rd_T84 l0_1 x10_2).f1)).f0))).setCell ⟨gb214, 1, none⟩ (.int .i64 ((rd_T82 l0_0 ((rd_T84 l0_1 x10_2).f1)).f1))).setCell ⟨gb214, 2, none⟩ (.bool ((rd_T82 l0_0 ((rd_T84 l0_1 x10_2).f1)).f2)))) := ⟨qK3 HB.out GE210.out GE212.out GE214.out⟩
                  (try clear BK0); (try clear BK2); (try clear BK210); (try clear BK212); (try clear BK214); (try clear HB)
                  generalize (((w36.setCell ⟨gb214, 0, none⟩ (.int .i64 ((rd_T82 l0_0 ((rd_T84 l0_1 x10_2).f1)).f0))).setCell ⟨gb214, 1, none⟩ (.int .i64 ((rd_T82 l0_0 ((rd_T84 l0_1 x10_2).f1)).f1))).setCell ⟨gb214, 2, none⟩ (.bool ((rd_T82 l0_0 ((rd_T84 l0_1 x10_2).f1)).f2))) = w45 at n0_ n1_ n2_ n3_ n4_ n5_ ⊢
                  have BK0 := n0_; have BK2 := n1_; have BK210 := n2_; have BK212 := n3_; have BK214 := n4_; have HB := n5_; clear n0_ n1_ n2_ n3_ n4_ n5_; have n0_ := A' (I' BK0.out); have n1_ := A' (I' BK2.out); have n2_ := A' (I' BK210.out); have n3_ := A' (I' BK212.out); have n4_ := A' (I' BK214.out); have n5_ := A' (J' HB.out); clear BK0; clear BK2; clear BK210; clear BK212; clear BK214; clear HB; have BK0 := n0_; have BK2 := n1_; have BK210 := n2_; have BK212 := n3_; have BK214 := n4_; have HB := n5_; clear n0_ n1_ n2_ n3_ n4_ n5_; have p215 : 0 ≤ (x10_2 : Int) := oD' qA; have q215 : x10_2 < (l2_0.length : Int) := oD' qA; obtain ⟨ad215, e215, hx215_0⟩ := Kd.at_int HR2_0.out x10_2 p215 q215; have hw215_0 := hx215_0
                  cases e215
                  try replace hx215_0 := qC HB.out hx215_0
                  replace p215 := eq_true p215; replace q215 := eq_true q215; refine start_ (n := 16) (S := fun w' => w'.cell? ⟨gp2, 0, none⟩ = some (.slice (some ad215) l2_0.length c2_0) ∧ w'.cell? ⟨gp2, 1, none⟩ = some (.int .i64 a2_1) ∧ w'.cell? ⟨gb214, 0, none⟩ = some (.int .i64 ((rd_T82 l0_0 ((rd_T84 l0_1 x10_2).f1)).f0)) ∧ w'.cell? ⟨gb214, 1, none⟩ = some (.int .i64 ((rd_T82 l0_0 ((rd_T84 l0_1 x10_2).f1)).f1)) ∧ w'.cell? ⟨gb214, 2, none⟩ = some (.bool ((rd_T82 l0_0 ((rd_T84 l0_1 x10_2).f1)).f2)) ∧ w'.cell? ⟨gb212, 0, none⟩ = some (.int .i64 ((rd_T82 l0_0 ((rd_T84 l0_1 x10_2).f0)).f0)) ∧ w'.cell? ⟨gb212, 1, none⟩ = some (.int .i64 ((rd_T82 l0_0 ((rd_T84 l0_1 x10_2).f0)).f1)) ∧ w'.cell? ⟨gb212, 2, none⟩ = some (.bool ((rd_T82 l0_0 ((rd_T84 l0_1 x10_2).f0)).f2)) ∧ w'.cell? (ad215.add (x10_2).toNat) = some (.int .i64 (rd l2_0 x10_2))) (ds := []) #[n', n', n', n', n', n', n', n', n', n', n', n', n', n', n', n'] (by kernel_rfl) rfl rfl ⟨(N' BK2.out 0).trans rfl, (N' BK2.out 1).trans rfl, (N' BK214.out 0).trans rfl, (N' BK214.out 1).trans rfl, (N' BK214.out 2).trans rfl, (N' BK212.out 0).trans rfl, (N' BK212.out 1).trans rfl, (N' BK212.out 2).trans rfl, (qC HB.out hw215_0 :)⟩ (fun hHeld => ?_); refine with_tabW spec_l09Balanced.tab14 spec_l09Balanced.bits14 (fun HT_ HW_ => ?_)
                  generalize w45.drew = w46 at BK0 BK2 BK210 BK212 BK214 HB hx215_0 hHeld ⊢
                  refine pure_ (i := 0) (N := some 87) (v := ?_) (a' := ?_) #[y', n', n', n', n', n', n', n', n', n', n', n', n', n', n', n'] rfl rfl (any_of HT_.out (by kernel_rfl)) (fun _ _ _ h => h) (Or.inl ⟨by rfl, ?_⟩) ?_ ?_; rotate_left
                  ·exact qI
                  rotate_left
                  ·exact qP
                  refine pure_ (i := 1) (N := some 88) (v := ?_) (a' := ?_) #[y', y', n', n', n', n', n', n', n', n', n', n', n', n', n', n'] rfl rfl (any_of HT_.out (by kernel_rfl)) (fun _ _ _ h => h) (Or.inl ⟨by rfl, ?_⟩) ?_ ?_; rotate_left
                  ·exact qI
                  rotate_left
                  ·exact qP
                  refine pure_ (i := 2) (N := some 89) (v := ?_) (a' := ?_) #[y', y', y', n', n', n', n', n', n', n', n', n', n', n', n', n'] rfl rfl (any_of HT_.out (by kernel_rfl)) (fun _ _ _ h => h) (Or.inl ⟨by rfl, ?_⟩) ?_ ?_; rotate_left
                  ·exact qI
                  rotate_left
                  ·exact qP
                  refine pure_ (i := 3) (N := some 90) (v := ?_) (a' := ?_) #[y', y', y', y', n', n', n', n', n', n', n', n', n', n', n', n'] rfl rfl (any_of HT_.out (by kernel_rfl)) (fun _ _ _ h => h) (Or.inl ⟨by rfl, ?_⟩) ?_ ?_; rotate_left
                  ·exact qI
                  rotate_left
                  ·exact qP
                  refine pure_ (i := 5) (N := some 92) (v := ?_) (a' := ?_) #[y', y', y', y', n', y', n', n', n', n', n', n', n', n', n', n'] rfl rfl (any_of HT_.out (by kernel_rfl)) (fun _ _ _ h => h) (Or.inl ⟨by rfl, ?_⟩) ?_ ?_; rotate_left
                  ·exact qI
                  rotate_left
                  ·exact qP
                  refine pure_ (i := 8) (N := some 95) (v := ?_) (a' := ?_) #[y', y', y', y', n', y', n', n', y', n', n', n', n', n', n', n'] rfl rfl (any_of HT_.out (by kernel_rfl)) (fun _ _ _ h => h) (Or.inl ⟨by rfl, ?_⟩) ?_ ?_; rotate_left
                  ·exact qI
                  rotate_left
                  ·exact qP
                  refine pure_ (i := 10) (N := some 97) (v := ?_) (a' := ?_) #[y', y', y', y', n', y', n', n', y', n', y', n', n', n', n', n'] rfl rfl (any_of HT_.out (by kernel_rfl)) (fun _ _ _ h => h) (Or.inl ⟨by rfl, ?_⟩) ?_ ?_; rotate_left
                  ·exact qI
                  rotate_left
                  ·exact qP
                  refine take_ (i := 4) (N := some 91) (v := ?_) (a' := ?_) #[y', y', y', y', y', y', n', n', y', n', y', n', n', n', n', n'] rfl rfl (take_ofW HT_.out HW_.out (by kernel_rfl)) (fun _ _ _ h => h) (Or.inl ⟨by rfl, ?_⟩) hHeld ?_ ?_; rotate_left
                  ·rintro w' ⟨s0, s1, s2, s3, s4, s5, s6, s7, s8⟩; go_simp; with_reducible rfl
                  rotate_left
                  ·exact qP
                  refine pure_ (i := 6) (N := some 93) (v := ?_) (a' := ?_) #[y', y', y', y', y', y', y', n', y', n', y', n', n', n', n', n'] rfl rfl (any_of HT_.out (by kernel_rfl)) (fun _ _ _ h => h) (Or.inl ⟨by rfl, ?_⟩) ?_ ?_; rotate_left
                  ·exact qI
                  rotate_left
                  ·exact qP
                  refine take_ (i := 7) (N := some 94) (v := ?_) (a' := ?_) #[y', y', y', y', y', y', y', y', y', n', y', n', n', n', n', n'] rfl rfl (take_ofW HT_.out HW_.out (by kernel_rfl)) (fun _ _ _ h => h) (Or.inl ⟨by rfl, ?_⟩) hHeld ?_ ?_; rotate_left
                  ·rintro w' ⟨s0, s1, s2, s3, s4, s5, s6, s7, s8⟩; go_simp; with_reducible rfl
                  rotate_left
                  ·exact qP
                  refine take_ (i := 9) (N := some 96) (v := ?_) (a' := ?_) #[y', y', y', y', y', y', y', y', y', y', y', n', n', n', n', n'] rfl rfl (take_ofW HT_.out HW_.out (by kernel_rfl)) (fun _ _ _ h => h) (Or.inl ⟨by rfl, ?_⟩) hHeld ?_ ?_; rotate_left
                  ·rintro w' ⟨s0, s1, s2, s3, s4, s5, s6, s7, s8⟩; go_simp; with_reducible rfl
                  rotate_left
                  ·exact qP
                  refine take_ (i := 11) (N := some 98) (v := ?_) (a' := ?_) #[y', y', y', y', y', y', y', y', y', y', y', y', n', n', n', n'] rfl rfl (take_ofW HT_.out HW_.out (by kernel_rfl)) (fun _ _ _ h => h) (Or.inl ⟨by rfl, ?_⟩) hHeld ?_ ?_; rotate_left
                  ·rintro w' ⟨s0, s1, s2, s3, s4, s5, s6, s7, s8⟩; go_simp; with_reducible rfl
                  rotate_left
                  ·exact qP
                  refine pure_ (i := 12) (N := some 99) (v := ?_) (a' := ?_) #[y', y', y', y', y', y', y', y', y', y', y', y', y', n', n', n'] rfl rfl (any_of HT_.out (by kernel_rfl)) (fun _ _ _ h => h) (Or.inl ⟨by rfl, ?_⟩) ?_ ?_; rotate_left
                  ·exact qI
                  rotate_left
                  ·exact qP
                  refine pure_ (i := 13) (N := some 100) (v := ?_) (a' := ?_) #[y', y', y', y', y', y', y', y', y', y', y', y', y', y', n', n'] rfl rfl (any_of HT_.out (by kernel_rfl)) (fun _ _ _ h => h) (Or.inl ⟨by rfl, ?_⟩) ?_ ?_; rotate_left
                  ·exact qI
                  rotate_left
                  ·exact qP
                  refine pure_ (i := 14) (N := some 101) (v := ?_) (a' := ?_) #[y', y', y', y', y', y', y', y', y', y', y', y', y', y', y', n'] rfl rfl (any_of HT_.out (by kernel_rfl)) (fun _ _ _ h => h) (Or.inl ⟨by rfl, ?_⟩) ?_ ?_; rotate_left
                  ·exact qI
                  rotate_left
                  ·exact qP
                  refine pure_ (i := 15) (N := some 8) (v := ?_) (a' := ?_) #[y', y', y', y', y', y', y', y', y', y', y', y', y', y', y', y'] rfl rfl (any_of HT_.out (by kernel_rfl)) (fun _ _ _ h => h) (Or.inl ⟨by rfl, ?_⟩) ?_ ?_; rotate_left
                  ·exact qI
                  rotate_left
                  ·exact qP
                  refine done_ (done_of HT_.out (by kernel_rfl)) ?_; try go_wp2
                  have n0_ := A' (I' BK0.out); have n1_ := A' (I' BK2.out); have n2_ := A' (I' BK210.out); have n3_ := A' (I' BK212.out); have n4_ := A' (I' BK214.out); have n5_ := A' (J' HB.out); clear BK0; clear BK2; clear BK210; clear BK212; clear BK214; clear HB; have BK0 := n0_; have BK2 := n1_; have BK210 := n2_; have BK212 := n3_; have BK214 := n4_; have HB := n5_; clear n0_ n1_ n2_ n3_ n4_ n5_; have p216 : 0 ≤ (x10_2 : Int) := oD' qA; have q216 : x10_2 < (l2_0.length : Int) := oD' qA; obtain ⟨ad216, e216, hx216_0⟩ := Kd.at_int HR2_0.out x10_2 p216 q216; have hw216_0 := hx216_0; obtain rfl : ad215 = ad216 := (by injection e216)
                  try replace hx216_0 := qC HB.out hx216_0
                  replace p216 := eq_true p216; replace q216 := eq_true q216; refine start_ (n := 16) (S := fun w' => w'.cell? ⟨gp2, 0, none⟩ = some (.slice (some ad215) l2_0.length c2_0) ∧ w'.cell? ⟨gp2, 1, none⟩ = some (.int .i64 a2_1) ∧ w'.cell? ⟨gb214, 0, none⟩ = some (.int .i64 ((rd_T82 l0_0 ((rd_T84 l0_1 x10_2).f1)).f0)) ∧ w'.cell? ⟨gb214, 1, none⟩ = some (.int .i64 ((rd_T82 l0_0 ((rd_T84 l0_1 x10_2).f1)).f1)) ∧ w'.cell? ⟨gb214, 2, none⟩ = some (.bool ((rd_T82 l0_0 ((rd_T84 l0_1 x10_2).f1)).f2)) ∧ w'.cell? ⟨gb212, 0, none⟩ = some (.int .i64 ((rd_T82 l0_0 ((rd_T84 l0_1 x10_2).f0)).f0)) ∧ w'.cell? ⟨gb212, 1, none⟩ = some (.int .i64 ((rd_T82 l0_0 ((rd_T84 l0_1 x10_2).f0)).f1)) ∧ w'.cell? ⟨gb212, 2, none⟩ = some (.bool ((rd_T82 l0_0 ((rd_T84 l0_1 x10_2).f0)).f2)) ∧ w'.cell? (ad215.add (x10_2).toNat) = some (.int .i64 (rd l2_0 x10_2))) (ds := []) #[n', n', n', n', n', n', n', n', n', n', n', n', n', n', n', n'] (by kernel_rfl) rfl rfl ⟨(N' BK2.out 0).trans rfl, (N' BK2.out 1).trans rfl, (N' BK214.out 0).trans rfl, (N' BK214.out 1).trans rfl, (N' BK214.out 2).trans rfl, (N' BK212.out 0).trans rfl, (N' BK212.out 1).trans rfl, (N' BK212.out 2).trans rfl, (qC HB.out hw216_0 :)⟩ (fun hHeld => ?_); refine with_tabW spec_l09Balanced.tab15 spec_l09Balanced.bits15 (fun HT_ HW_ => ?_)
                  generalize w46.drew = w47 at BK0 BK2 BK210 BK212 BK214 HB hx216_0 hHeld ⊢
                  refine pure_ (i := 0) (N := some 102) (v := ?_) (a' := ?_) #[y', n', n', n', n', n', n', n', n', n', n', n', n', n', n', n'] rfl rfl (any_of HT_.out (by kernel_rfl)) (fun _ _ _ h => h) (Or.inl ⟨by rfl, ?_⟩) ?_ ?_; rotate_left
                  ·exact qI
                  rotate_left
                  ·exact qP
                  refine pure_ (i := 1) (N := some 103) (v := ?_) (a' := ?_) #[y', y', n', n', n', n', n', n', n', n', n', n', n', n', n', n'] rfl rfl (any_of HT_.out (by kernel_rfl)) (fun _ _ _ h => h) (Or.inl ⟨by rfl, ?_⟩) ?_ ?_; rotate_left
                  ·exact qI
                  rotate_left
                  ·exact qP
                  refine pure_ (i := 2) (N := some 104) (v := ?_) (a' := ?_) #[y', y', y', n', n', n', n', n', n', n', n', n', n', n', n', n'] rfl rfl (any_of HT_.out (by kernel_rfl)) (fun _ _ _ h => h) (Or.inl ⟨by rfl, ?_⟩) ?_ ?_; rotate_left
                  ·exact qI
                  rotate_left
                  ·exact qP
                  refine pure_ (i := 3) (N := some 105) (v := ?_) (a' := ?_) #[y', y', y', y', n', n', n', n', n', n', n', n', n', n', n', n'] rfl rfl (any_of HT_.out (by kernel_rfl)) (fun _ _ _ h => h) (Or.inl ⟨by rfl, ?_⟩) ?_ ?_; rotate_left
                  ·exact qI
                  rotate_left
                  ·exact qP
                  refine pure_ (i := 5) (N := some 107) (v := ?_) (a' := ?_) #[y', y', y', y', n', y', n', n', n', n', n', n', n', n', n', n'] rfl rfl (any_of HT_.out (by kernel_rfl)) (fun _ _ _ h => h) (Or.inl ⟨by rfl, ?_⟩) ?_ ?_; rotate_left
                  ·exact qI
                  rotate_left
                  ·exact qP
                  refine pure_ (i := 8) (N := some 110) (v := ?_) (a' := ?_) #[y', y', y', y', n', y', n', n', y', n', n', n', n', n', n', n'] rfl rfl (any_of HT_.out (by kernel_rfl)) (fun _ _ _ h => h) (Or.inl ⟨by rfl, ?_⟩) ?_ ?_; rotate_left
                  ·exact qI
                  rotate_left
                  ·exact qP
                  refine pure_ (i := 10) (N := some 112) (v := ?_) (a' := ?_) #[y', y', y', y', n', y', n', n', y', n', y', n', n', n', n', n'] rfl rfl (any_of HT_.out (by kernel_rfl)) (fun _ _ _ h => h) (Or.inl ⟨by rfl, ?_⟩) ?_ ?_; rotate_left
                  ·exact qI
                  rotate_left
                  ·exact qP
                  refine take_ (i := 4) (N := some 106) (v := ?_) (a' := ?_) #[y', y', y', y', y', y', n', n', y', n', y', n', n', n', n', n'] rfl rfl (take_ofW HT_.out HW_.out (by kernel_rfl)) (fun _ _ _ h => h) (Or.inl ⟨by rfl, ?_⟩) hHeld ?_ ?_; rotate_left
                  ·rintro w' ⟨s0, s1, s2, s3, s4, s5, s6, s7, s8⟩; go_simp; with_reducible rfl
                  rotate_left
                  ·exact qP
                  refine pure_ (i := 6) (N := some 108) (v := ?_) (a' := ?_) #[y', y', y', y', y', y', y', n', y', n', y', n', n', n', n', n'] rfl rfl (any_of HT_.out (by kernel_rfl)) (fun _ _ _ h => h) (Or.inl ⟨by rfl, ?_⟩) ?_ ?_; rotate_left
                  ·exact qI
                  rotate_left
                  ·exact qP
                  refine take_ (i := 7) (N := some 109) (v := ?_) (a' := ?_) #[y', y', y', y', y', y', y', y', y', n', y', n', n', n', n', n'] rfl rfl (take_ofW HT_.out HW_.out (by kernel_rfl)) (fun _ _ _ h => h) (Or.inl ⟨by rfl, ?_⟩) hHeld ?_ ?_; rotate_left
                  ·rintro w' ⟨s0, s1, s2, s3, s4, s5, s6, s7, s8⟩; go_simp; with_reducible rfl
                  rotate_left
                  ·exact qP
                  refine take_ (i := 9) (N := some 111) (v := ?_) (a' := ?_) #[y', y', y', y', y', y', y', y', y', y', y', n', n', n', n', n'] rfl rfl (take_ofW HT_.out HW_.out (by kernel_rfl)) (fun _ _ _ h => h) (Or.inl ⟨by rfl, ?_⟩) hHeld ?_ ?_; rotate_left
                  ·rintro w' ⟨s0, s1, s2, s3, s4, s5, s6, s7, s8⟩; go_simp; with_reducible rfl
                  rotate_left
                  ·exact qP
                  refine take_ (i := 11) (N := some 113) (v := ?_) (a' := ?_) #[y', y', y', y', y', y', y', y', y', y', y', y', n', n', n', n'] rfl rfl (take_ofW HT_.out HW_.out (by kernel_rfl)) (fun _ _ _ h => h) (Or.inl ⟨by rfl, ?_⟩) hHeld ?_ ?_; rotate_left
                  ·rintro w' ⟨s0, s1, s2, s3, s4, s5, s6, s7, s8⟩; go_simp; with_reducible rfl
                  rotate_left
                  ·exact qP
                  refine pure_ (i := 12) (N := some 114) (v := ?_) (a' := ?_) #[y', y', y', y', y', y', y', y', y', y', y', y', y', n', n', n'] rfl rfl (any_of HT_.out (by kernel_rfl)) (fun _ _ _ h => h) (Or.inl ⟨by rfl, ?_⟩) ?_ ?_; rotate_left
                  ·exact qI
                  rotate_left
                  ·exact qP
                  refine pure_ (i := 13) (N := some 115) (v := ?_) (a' := ?_) #[y', y', y', y', y', y', y', y', y', y', y', y', y', y', n', n'] rfl rfl (any_of HT_.out (by kernel_rfl)) (fun _ _ _ h => h) (Or.inl ⟨by rfl, ?_⟩) ?_ ?_; rotate_left
                  ·exact qI
                  rotate_left
                  ·exact qP
                  refine pure_ (i := 14) (N := some 116) (v := ?_) (a' := ?_) #[y', y', y', y', y', y', y', y', y', y', y', y', y', y', y', n'] rfl rfl (any_of HT_.out (by kernel_rfl)) (fun _ _ _ h => h) (Or.inl ⟨by rfl, ?_⟩) ?_ ?_; rotate_left
                  ·exact qI
                  rotate_left
                  ·exact qP
                  refine pure_ (i := 15) (N := some 9) (v := ?_) (a' := ?_) #[y', y', y', y', y', y', y', y', y', y', y', y', y', y', y', y'] rfl rfl (any_of HT_.out (by kernel_rfl)) (fun _ _ _ h => h) (Or.inl ⟨by rfl, ?_⟩) ?_ ?_; rotate_left
                  ·exact qI
                  rotate_left
                  ·exact qP
                  refine done_ (done_of HT_.out (by kernel_rfl)) ?_; try go_wp2
                  go_meet
                  case rel => exact ⟨_, (wrap64 (x8_2 + (wrap64 ((rd l2_0 x10_2) * (wrap64 (((rd_T82 l0_0 ((rd_T84 l0_1 x10_2).f1)).f0) - ((rd_T82 l0_0 ((rd_T84 l0_1 x10_2).f0)).f0))))))), (wrap64 (x9_2 + (wrap64 ((rd l2_0 x10_2) * (wrap64 (((rd_T82 l0_0 ((rd_T84 l0_1 x10_2).f1)).f1) - ((rd_T82 l0_0 ((rd_T84 l0_1 x10_2).f0)).f1))))))), qS, qS, H', ⟨by have := HK1.out; have := HK2.out; first | omega | exact Nat.le_refl _⟩, ⟨qB BK0.out⟩, ⟨qB BK2.out⟩, ⟨qB BK210.out⟩, ⟨qB BK212.out⟩, ⟨qB BK214.out⟩, ⟨qK3 HB.out GE210.out GE212.out GE214.out⟩⟩
                 ·rw [if_neg c44] at H; exact absurd H (by simp)
                ·rw [if_neg c43] at H; have c43b0 : (((rd_T84 l0_1 x10_2).f0) == x7_1) = false := beq_eq_false_iff_ne.mpr c43; have c43b1 : (((rd_T84 l0_1 x10_2).f0) != x7_1) = true := bne_iff_ne.mpr c43; (first | rw [c43b0] | (simp only [i64_w, i32_w]; rw [c43b0]) | skip); have H' := A' H; clear H; go_wp2
                 go_meet
                 case rel => exact ⟨_, (x8_2), (x9_2), qS, qS, H', ⟨by have := HK1.out; have := HK2.out; first | omega | exact Nat.le_refl _⟩, ⟨qG3 BK0.out NB0_214.out NB0_214.out NB0_214.out⟩, ⟨qG3 BK2.out NB2_214.out NB2_214.out NB2_214.out⟩, ⟨qG3 BK210.out NB210_214.out NB210_214.out NB210_214.out⟩, ⟨qG3 BK212.out NB212_214.out NB212_214.out NB212_214.out⟩, ⟨by (with_reducible repeat (first | refine G' ?_ _ | refine I' ?_ | refine H' ?_ _)); refine blk_put (cs := #[.int .i64 ((rd_T82 l0_0 ((rd_T84 l0_1 x10_2).f1)).f0), .int .i64 ((rd_T82 l0_0 ((rd_T84 l0_1 x10_2).f1)).f1), .bool false]) ?_ 2 _ rfl; (with_reducible repeat (first | refine G' ?_ _ | refine I' ?_ | refine H' ?_ _)); refine blk_put (cs := #[.int .i64 ((rd_T82 l0_0 ((rd_T84 l0_1 x10_2).f1)).f0), .int .i64 0, .bool false]) ?_ 1 _ rfl; (with_reducible repeat (first | refine G' ?_ _ | refine I' ?_ | refine H' ?_ _)); refine blk_put (cs := #[.int .i64 0, .int .i64 0, .bool false]) ?_ 0 _ rfl; (with_reducible repeat (first | refine G' ?_ _ | refine I' ?_ | refine H' ?_ _)); exact BK214.out⟩, ⟨qK3 HB.out GE210.out GE212.out GE214.out⟩⟩
               case rest =>
                clear HC21; try clear c2
                try clear p2
                try clear q2
                try clear hx2
                try clear c4
                try clear p6
                try clear q6
                try clear p21
                try clear q21
                try clear hx21
                try clear c40
                try clear c41
                try clear c43
                try clear c43b0
                try clear c43b1
                try clear c44
                try clear c44b0
                try clear hcz42_0
                try clear hcz42_1
                try clear hcz42_2
                try clear hfz42_0
                try clear hfz42_1
                try clear hfz42_2
                try clear hx213_0
                try clear hx213_1
                try clear hx213_2
                try clear hx215_0
                try clear hx216_0
                try clear p213
                try clear p215
                try clear p216
                try clear q213
                try clear q215
                try clear q216
                obtain ⟨kq, x8_20, x9_20, rfl, rfl, HA, HJ20, BK0, BK2, BK210, BK212, BK214, HB⟩ := hcut
                cases kq with
                | zero => exact absurd HA.out (by simp [spec_l09Balanced.j2])
                | succ kj20 =>
                 have H := HA.out; clear HA; simp only [spec_l09Balanced.j2] at H
                 by_cases c48 : ((rd_T84 l0_1 x10_2).f1) = x7_1
                 ·rw [if_pos c48] at H; have c48b0 : (((rd_T84 l0_1 x10_2).f1) == x7_1) = true := beq_iff_eq.mpr c48; have c48b1 : (((rd_T84 l0_1 x10_2).f1) != x7_1) = false := bne_eq_false_iff_eq.mpr c48; clear c48
                  by_cases c49 : 0 ≤ x10_2
                  ·rw [if_pos c49] at H; have c49b0 : decide (0 ≤ x10_2) = true := dT' c49; clear c49
                   by_cases c50 : x10_2 < (l2_0.length : Int)
                   ·rw [if_pos c50] at H; have c50b0 : decide (x10_2 < (l2_0.length : Int)) = true := dT' c50; clear c50; have H' := A' H; clear H; have hnb51 := NB210_0.out; have hnc51 := NB0_210.out; have hnb52 := NB210_2.out; have hnc52 := NB2_210.out; have hnb53 := NB210_212.out; have hnc53 := NB212_210.out; have hnb54 := NB210_214.out; have hnc54 := NB214_210.out; have hcz55_0 : wc.cell? ⟨gb210, 0, none⟩ = some (.int .i64 ((rd_T84 l0_1 x10_2).f0)) := (N' BK210.out 0).trans rfl; have hcz55_1 : wc.cell? ⟨gb210, 1, none⟩ = some (.int .i64 ((rd_T84 l0_1 x10_2).f1)) := (N' BK210.out 1).trans rfl; have hcz55_2 : wc.cell? ⟨gb210, 2, none⟩ = some (.bool ((rd_T84 l0_1 x10_2).f2)) := (N' BK210.out 2).trans rfl; have hfz55_0 := Y' BK210.out 0; have hfz55_1 := Y' BK210.out 1; have hfz55_2 := Y' BK210.out 2; try go_wp2
                    have n0_ := A' (I' BK0.out); have n1_ := A' (I' BK2.out); have n2_ := A' (I' BK210.out); have n3_ := A' (I' BK212.out); have n4_ := A' (I' BK214.out); have n5_ := A' (J' HB.out); clear BK0; clear BK2; clear BK210; clear BK212; clear BK214; clear HB; have BK0 := n0_; have BK2 := n1_; have BK210 := n2_; have BK212 := n3_; have BK214 := n4_; have HB := n5_; clear n0_ n1_ n2_ n3_ n4_ n5_; have p217 : 0 ≤ (x10_2 : Int) := oD' qA; have q217 : x10_2 < (l2_0.length : Int) := oD' qA; obtain ⟨ad217, e217, hx217_0⟩ := Kd.at_int HR2_0.out x10_2 p217 q217; have hw217_0 := hx217_0
                    cases e217
                    try replace hx217_0 := qC HB.out hx217_0
                    replace p217 := eq_true p217; replace q217 := eq_true q217; refine start_ (n := 16) (S := fun w' => w'.cell? ⟨gp2, 0, none⟩ = some (.slice (some ad217) l2_0.length c2_0) ∧ w'.cell? ⟨gp2, 1, none⟩ = some (.int .i64 a2_1) ∧ w'.cell? ⟨gb212, 0, none⟩ = some (.int .i64 ((rd_T82 l0_0 ((rd_T84 l0_1 x10_2).f0)).f0)) ∧ w'.cell? ⟨gb212, 1, none⟩ = some (.int .i64 ((rd_T82 l0_0 ((rd_T84 l0_1 x10_2).f0)).f1)) ∧ w'.cell? ⟨gb212, 2, none⟩ = some (.bool ((rd_T82 l0_0 ((rd_T84 l0_1 x10_2).f0)).f2)) ∧ w'.cell? ⟨gb214, 0, none⟩ = some (.int .i64 ((rd_T82 l0_0 ((rd_T84 l0_1 x10_2).f1)).f0)) ∧ w'.cell? ⟨gb214, 1, none⟩ = some (.int .i64 ((rd_T82 l0_0 ((rd_T84 l0_1 x10_2).f1)).f1)) ∧ w'.cell? ⟨gb214, 2, none⟩ = some (.bool ((rd_T82 l0_0 ((rd_T84 l0_1 x10_2).f1)).f2)) ∧ w'.cell? (ad217.add (x10_2).toNat) = some (.int .i64 (rd l2_0 x10_2))) (ds := []) #[n', n', n', n', n', n', n', n', n', n', n', n', n', n', n', n'] (by kernel_rfl) rfl rfl ⟨(N' BK2.out 0).trans rfl, (N' BK2.out 1).trans rfl, (N' BK212.out 0).trans rfl, (N' BK212.out 1).trans rfl, (N' BK212.out 2).trans rfl, (N' BK214.out 0).trans rfl, (N' BK214.out 1).trans rfl, (N' BK214.out 2).trans rfl, (qC HB.out hw217_0 :)⟩ (fun hHeld => ?_); refine with_tabW spec_l09Balanced.tab17 spec_l09Balanced.bits17 (fun HT_ HW_ => ?_)
                    generalize wc.drew = w56 at BK0 BK2 BK210 BK212 BK214 HB hx217_0 hHeld ⊢
                    refine pure_ (i := 0) (N := some 121) (v := ?_) (a' := ?_) #[y', n', n', n', n', n', n', n', n', n', n', n', n', n', n', n'] rfl rfl (any_of HT_.out (by kernel_rfl)) (fun _ _ _ h => h) (Or.inl ⟨by rfl, ?_⟩) ?_ ?_; rotate_left
                    ·exact qI
                    rotate_left
                    ·exact qP
                    refine pure_ (i := 1) (N := some 122) (v := ?_) (a' := ?_) #[y', y', n', n', n', n', n', n', n', n', n', n', n', n', n', n'] rfl rfl (any_of HT_.out (by kernel_rfl)) (fun _ _ _ h => h) (Or.inl ⟨by rfl, ?_⟩) ?_ ?_; rotate_left
                    ·exact qI
                    rotate_left
                    ·exact qP
                    refine pure_ (i := 2) (N := some 123) (v := ?_) (a' := ?_) #[y', y', y', n', n', n', n', n', n', n', n', n', n', n', n', n'] rfl rfl (any_of HT_.out (by kernel_rfl)) (fun _ _ _ h => h) (Or.inl ⟨by rfl, ?_⟩) ?_ ?_; rotate_left
                    ·exact qI
                    rotate_left
                    ·exact qP
                    refine pure_ (i := 3) (N := some 124) (v := ?_) (a' := ?_) #[y', y', y', y', n', n', n', n', n', n', n', n', n', n', n', n'] rfl rfl (any_of HT_.out (by kernel_rfl)) (fun _ _ _ h => h) (Or.inl ⟨by rfl, ?_⟩) ?_ ?_; rotate_left
                    ·exact qI
                    rotate_left
                    ·exact qP
                    refine pure_ (i := 5) (N := some 126) (v := ?_) (a' := ?_) #[y', y', y', y', n', y', n', n', n', n', n', n', n', n', n', n'] rfl rfl (any_of HT_.out (by kernel_rfl)) (fun _ _ _ h => h) (Or.inl ⟨by rfl, ?_⟩) ?_ ?_; rotate_left
                    ·exact qI
                    rotate_left
                    ·exact qP
                    refine pure_ (i := 8) (N := some 129) (v := ?_) (a' := ?_) #[y', y', y', y', n', y', n', n', y', n', n', n', n', n', n', n'] rfl rfl (any_of HT_.out (by kernel_rfl)) (fun _ _ _ h => h) (Or.inl ⟨by rfl, ?_⟩) ?_ ?_; rotate_left
                    ·exact qI
                    rotate_left
                    ·exact qP
                    refine pure_ (i := 10) (N := some 131) (v := ?_) (a' := ?_) #[y', y', y', y', n', y', n', n', y', n', y', n', n', n', n', n'] rfl rfl (any_of HT_.out (by kernel_rfl)) (fun _ _ _ h => h) (Or.inl ⟨by rfl, ?_⟩) ?_ ?_; rotate_left
                    ·exact qI
                    rotate_left
                    ·exact qP
                    refine take_ (i := 4) (N := some 125) (v := ?_) (a' := ?_) #[y', y', y', y', y', y', n', n', y', n', y', n', n', n', n', n'] rfl rfl (take_ofW HT_.out HW_.out (by kernel_rfl)) (fun _ _ _ h => h) (Or.inl ⟨by rfl, ?_⟩) hHeld ?_ ?_; rotate_left
                    ·rintro w' ⟨s0, s1, s2, s3, s4, s5, s6, s7, s8⟩; go_simp; with_reducible rfl
                    rotate_left
                    ·exact qP
                    refine pure_ (i := 6) (N := some 127) (v := ?_) (a' := ?_) #[y', y', y', y', y', y', y', n', y', n', y', n', n', n', n', n'] rfl rfl (any_of HT_.out (by kernel_rfl)) (fun _ _ _ h => h) (Or.inl ⟨by rfl, ?_⟩) ?_ ?_; rotate_left
                    ·exact qI
                    rotate_left
                    ·exact qP
                    refine take_ (i := 7) (N := some 128) (v := ?_) (a' := ?_) #[y', y', y', y', y', y', y', y', y', n', y', n', n', n', n', n'] rfl rfl (take_ofW HT_.out HW_.out (by kernel_rfl)) (fun _ _ _ h => h) (Or.inl ⟨by rfl, ?_⟩) hHeld ?_ ?_; rotate_left
                    ·rintro w' ⟨s0, s1, s2, s3, s4, s5, s6, s7, s8⟩; go_simp; with_reducible rfl
                    rotate_left
                    ·exact qP
                    refine take_ (i := 9) (N := some 130) (v := ?_) (a' := ?_) #[y', y', y', y', y', y', y', y', y', y', y', n', n', n', n', n'] rfl rfl (take_ofW HT_.out HW_.out (by kernel_rfl)) (fun _ _ _ h => h) (Or.inl ⟨by rfl, ?_⟩) hHeld ?_ ?_; rotate_left
                    ·rintro w' ⟨s0, s1, s2, s3, s4, s5, s6, s7, s8⟩; go_simp; with_reducible rfl
                    rotate_left
                    ·exact qP
                    refine take_ (i := 11) (N := some 132) (v := ?_) (a' := ?_) #[y', y', y', y', y', y', y', y', y', y', y', y', n', n', n', n'] rfl rfl (take_ofW HT_.out HW_.out (by kernel_rfl)) (fun _ _ _ h => h) (Or.inl ⟨by rfl, ?_⟩) hHeld ?_ ?_; rotate_left
                    ·rintro w' ⟨s0, s1, s2, s3, s4, s5, s6, s7, s8⟩; go_simp; with_reducible rfl
                    rotate_left
                    ·exact qP
                    refine pure_ (i := 12) (N := some 133) (v := ?_) (a' := ?_) #[y', y', y', y', y', y', y', y', y', y', y', y', y', n', n', n'] rfl rfl (any_of HT_.out (by kernel_rfl)) (fun _ _ _ h => h) (Or.inl ⟨by rfl, ?_⟩) ?_ ?_; rotate_left
                    ·exact qI
                    rotate_left
                    ·exact qP
                    refine pure_ (i := 13) (N := some 134) (v := ?_) (a' := ?_) #[y', y', y', y', y', y', y', y', y', y', y', y', y', y', n', n'] rfl rfl (any_of HT_.out (by kernel_rfl)) (fun _ _ _ h => h) (Or.inl ⟨by rfl, ?_⟩) ?_ ?_; rotate_left
                    ·exact qI
                    rotate_left
                    ·exact qP
                    refine pure_ (i := 14) (N := some 135) (v := ?_) (a' := ?_) #[y', y', y', y', y', y', y', y', y', y', y', y', y', y', y', n'] rfl rfl (any_of HT_.out (by kernel_rfl)) (fun _ _ _ h => h) (Or.inl ⟨by rfl, ?_⟩) ?_ ?_; rotate_left
                    ·exact qI
                    rotate_left
                    ·exact qP
                    refine pure_ (i := 15) (N := some 8) (v := ?_) (a' := ?_) #[y', y', y', y', y', y', y', y', y', y', y', y', y', y', y', y'] rfl rfl (any_of HT_.out (by kernel_rfl)) (fun _ _ _ h => h) (Or.inl ⟨by rfl, ?_⟩) ?_ ?_; rotate_left
                    ·exact qI
                    rotate_left
                    ·exact qP
                    refine done_ (done_of HT_.out (by kernel_rfl)) ?_; try go_wp2
                    have n0_ := A' (I' BK0.out); have n1_ := A' (I' BK2.out); have n2_ := A' (I' BK210.out); have n3_ := A' (I' BK212.out); have n4_ := A' (I' BK214.out); have n5_ := A' (J' HB.out); clear BK0; clear BK2; clear BK210; clear BK212; clear BK214; clear HB; have BK0 := n0_; have BK2 := n1_; have BK210 := n2_; have BK212 := n3_; have BK214 := n4_; have HB := n5_; clear n0_ n1_ n2_ n3_ n4_ n5_; have p218 : 0 ≤ (x10_2 : Int) := oD' qA; have q218 : x10_2 < (l2_0.length : Int) := oD' qA; obtain ⟨ad218, e218, hx218_0⟩ := Kd.at_int HR2_0.out x10_2 p218 q218; have hw218_0 := hx218_0; obtain rfl : ad217 = ad218 := (by injection e218)
                    try replace hx218_0 := qC HB.out hx218_0
                    replace p218 := eq_true p218; replace q218 := eq_true q218; refine start_ (n := 16) (S := fun w' => w'.cell? ⟨gp2, 0, none⟩ = some (.slice (some ad217) l2_0.length c2_0) ∧ w'.cell? ⟨gp2, 1, none⟩ = some (.int .i64 a2_1) ∧ w'.cell? ⟨gb212, 0, none⟩ = some (.int .i64 ((rd_T82 l0_0 ((rd_T84 l0_1 x10_2).f0)).f0)) ∧ w'.cell? ⟨gb212, 1, none⟩ = some (.int .i64 ((rd_T82 l0_0 ((rd_T84 l0_1 x10_2).f0)).f1)) ∧ w'.cell? ⟨gb212, 2, none⟩ = some (.bool ((rd_T82 l0_0 ((rd_T84 l0_1 x10_2).f0)).f2)) ∧ w'.cell? ⟨gb214, 0, none⟩ = some (.int .i64 ((rd_T82 l0_0 ((rd_T84 l0_1 x10_2).f1)).f0)) ∧ w'.cell? ⟨gb214, 1, none⟩ = some (.int .i64 ((rd_T82 l0_0 ((rd_T84 l0_1 x10_2).f1)).f1)) ∧ w'.cell? ⟨gb214, 2, none⟩ = some (.bool ((rd_T82 l0_0 ((rd_T84 l0_1 x10_2).f1)).f2)) ∧ w'.cell? (ad217.add (x10_2).toNat) = some (.int .i64 (rd l2_0 x10_2))) (ds := []) #[n', n', n', n', n', n', n', n', n', n', n', n', n', n', n', n'] (by kernel_rfl) rfl rfl ⟨(N' BK2.out 0).trans rfl, (N' BK2.out 1).trans rfl, (N' BK212.out 0).trans rfl, (N' BK212.out 1).trans rfl, (N' BK212.out 2).trans rfl, (N' BK214.out 0).trans rfl, (N' BK214.out 1).trans rfl, (N' BK214.out 2).trans rfl, (qC HB.out hw218_0 :)⟩ (fun hHeld => ?_); refine with_tabW spec_l09Balanced.tab18 spec_l09Balanced.bits18 (fun HT_ HW_ => ?_)
                    generalize w56.drew = w57 at BK0 BK2 BK210 BK212 BK214 HB hx218_0 hHeld ⊢
                    refine pure_ (i := 0) (N := some 136) (v := ?_) (a' := ?_) #[y', n', n', n', n', n', n', n', n', n', n', n', n', n', n', n'] rfl rfl (any_of HT_.out (by kernel_rfl)) (fun _ _ _ h => h) (Or.inl ⟨by rfl, ?_⟩) ?_ ?_; rotate_left
                    ·exact qI
                    rotate_left
                    ·exact qP
                    refine pure_ (i := 1) (N := some 137) (v := ?_) (a' := ?_) #[y', y', n', n', n', n', n', n', n', n', n', n', n', n', n', n'] rfl rfl (any_of HT_.out (by kernel_rfl)) (fun _ _ _ h => h) (Or.inl ⟨by rfl, ?_⟩) ?_ ?_; rotate_left
                    ·exact qI
                    rotate_left
                    ·exact qP
                    refine pure_ (i := 2) (N := some 138) (v := ?_) (a' := ?_) #[y', y', y', n', n', n', n', n', n', n', n', n', n', n', n', n'] rfl rfl (any_of HT_.out (by kernel_rfl)) (fun _ _ _ h => h) (Or.inl ⟨by rfl, ?_⟩) ?_ ?_; rotate_left
                    ·exact qI
                    rotate_left
                    ·exact qP
                    refine pure_ (i := 3) (N := some 139) (v := ?_) (a' := ?_) #[y', y', y', y', n', n', n', n', n', n', n', n', n', n', n', n'] rfl rfl (any_of HT_.out (by kernel_rfl)) (fun _ _ _ h => h) (Or.inl ⟨by rfl, ?_⟩) ?_ ?_; rotate_left
                    ·exact qI
                    rotate_left
                    ·exact qP
                    refine pure_ (i := 5) (N := some 141) (v := ?_) (a' := ?_) #[y', y', y', y', n', y', n', n', n', n', n', n', n', n', n', n'] rfl rfl (any_of HT_.out (by kernel_rfl)) (fun _ _ _ h => h) (Or.inl ⟨by rfl, ?_⟩) ?_ ?_; rotate_left
                    ·exact qI
                    rotate_left
                    ·exact qP
                    refine pure_ (i := 8) (N := some 144) (v := ?_) (a' := ?_) #[y', y', y', y', n', y', n', n', y', n', n', n', n', n', n', n'] rfl rfl (any_of HT_.out (by kernel_rfl)) (fun _ _ _ h => h) (Or.inl ⟨by rfl, ?_⟩) ?_ ?_; rotate_left
                    ·exact qI
                    rotate_left
                    ·exact qP
                    refine pure_ (i := 10) (N := some 146) (v := ?_) (a' := ?_) #[y', y', y', y', n', y', n', n', y', n', y', n', n', n', n', n'] rfl rfl (any_of HT_.out (by kernel_rfl)) (fun _ _ _ h => h) (Or.inl ⟨by rfl, ?_⟩) ?_ ?_; rotate_left
                    ·exact qI
                    rotate_left
                    ·exact qP
                    refine take_ (i := 4) (N := some 140) (v := ?_) (a' := ?_) #[y', y', y', y', y', y', n', n', y', n', y', n', n', n', n', n'] rfl rfl (take_ofW HT_.out HW_.out (by kernel_rfl)) (fun _ _ _ h => h) (Or.inl ⟨by rfl, ?_⟩) hHeld ?_ ?_; rotate_left
                    ·rintro w' ⟨s0, s1, s2, s3, s4, s5, s6, s7, s8⟩; go_simp; with_reducible rfl
                    rotate_left
                    ·exact qP
                    refine pure_ (i := 6) (N := some 142) (v := ?_) (a' := ?_) #[y', y', y', y', y', y', y', n', y', n', y', n', n', n', n', n'] rfl rfl (any_of HT_.out (by kernel_rfl)) (fun _ _ _ h => h) (Or.inl ⟨by rfl, ?_⟩) ?_ ?_; rotate_left
                    ·exact qI
                    rotate_left
                    ·exact qP
                    refine take_ (i := 7) (N := some 143) (v := ?_) (a' := ?_) #[y', y', y', y', y', y', y', y', y', n', y', n', n', n', n', n'] rfl rfl (take_ofW HT_.out HW_.out (by kernel_rfl)) (fun _ _ _ h => h) (Or.inl ⟨by rfl, ?_⟩) hHeld ?_ ?_; rotate_left
                    ·rintro w' ⟨s0, s1, s2, s3, s4, s5, s6, s7, s8⟩; go_simp; with_reducible rfl
                    rotate_left
                    ·exact qP
                    refine take_ (i := 9) (N := some 145) (v := ?_) (a' := ?_) #[y', y', y', y', y', y', y', y', y', y', y', n', n', n', n', n'] rfl rfl (take_ofW HT_.out HW_.out (by kernel_rfl)) (fun _ _ _ h => h) (Or.inl ⟨by rfl, ?_⟩) hHeld ?_ ?_; rotate_left
                    ·rintro w' ⟨s0, s1, s2, s3, s4, s5, s6, s7, s8⟩; go_simp; with_reducible rfl
                    rotate_left
                    ·exact qP
                    refine take_ (i := 11) (N := some 147) (v := ?_) (a' := ?_) #[y', y', y', y', y', y', y', y', y', y', y', y', n', n', n', n'] rfl rfl (take_ofW HT_.out HW_.out (by kernel_rfl)) (fun _ _ _ h => h) (Or.inl ⟨by rfl, ?_⟩) hHeld ?_ ?_; rotate_left
                    ·rintro w' ⟨s0, s1, s2, s3, s4, s5, s6, s7, s8⟩; go_simp; with_reducible rfl
                    rotate_left
                    ·exact qP
                    refine pure_ (i := 12) (N := some 148) (v := ?_) (a' := ?_) #[y', y', y', y', y', y', y', y', y', y', y', y', y', n', n', n'] rfl rfl (any_of HT_.out (by kernel_rfl)) (fun _ _ _ h => h) (Or.inl ⟨by rfl, ?_⟩) ?_ ?_; rotate_left
                    ·exact qI
                    rotate_left
                    ·exact qP
                    refine pure_ (i := 13) (N := some 149) (v := ?_) (a' := ?_) #[y', y', y', y', y', y', y', y', y', y', y', y', y', y', n', n'] rfl rfl (any_of HT_.out (by kernel_rfl)) (fun _ _ _ h => h) (Or.inl ⟨by rfl, ?_⟩) ?_ ?_; rotate_left
                    ·exact qI
                    rotate_left
                    ·exact qP
                    refine pure_ (i := 14) (N := some 150) (v := ?_) (a' := ?_) #[y', y', y', y', y', y', y', y', y', y', y', y', y', y', y', n'] rfl rfl (any_of HT_.out (by kernel_rfl)) (fun _ _ _ h => h) (Or.inl ⟨by rfl, ?_⟩) ?_ ?_; rotate_left
                    ·exact qI
                    rotate_left
                    ·exact qP
                    refine pure_ (i := 15) (N := some 9) (v := ?_) (a' := ?_) #[y', y', y', y', y', y', y', y', y', y', y', y', y', y', y', y'] rfl rfl (any_of HT_.out (by kernel_rfl)) (fun _ _ _ h => h) (Or.inl ⟨by rfl, ?_⟩) ?_ ?_; rotate_left
                    ·exact qI
                    rotate_left
                    ·exact qP
                    refine done_ (done_of HT_.out (by kernel_rfl)) ?_; try go_wp2
                    go_roundg kj20
                    case measure => have := HK1.out; have := HK2.out; have := HJ20.out; omega
                    case rel => exact ⟨(wrap64 (x8_20 + (wrap64 ((rd l2_0 x10_2) * (wrap64 (((rd_T82 l0_0 ((rd_T84 l0_1 x10_2).f0)).f0) - ((rd_T82 l0_0 ((rd_T84 l0_1 x10_2).f1)).f0))))))), (wrap64 (x9_20 + (wrap64 ((rd l2_0 x10_2) * (wrap64 (((rd_T82 l0_0 ((rd_T84 l0_1 x10_2).f0)).f1) - ((rd_T82 l0_0 ((rd_T84 l0_1 x10_2).f1)).f1))))))), (wrap64 (x10_2 + 1)), qS, qS, qS, H', ⟨by have := HK1.out; have := HK2.out; have := HJ20.out; omega⟩, ⟨qB BK0.out⟩, ⟨qB BK2.out⟩, ⟨qK3 HB.out GE210.out GE212.out GE214.out⟩⟩
                   ·rw [if_neg c50] at H; exact absurd H (by simp)
                  ·rw [if_neg c49] at H; exact absurd H (by simp)
                 ·rw [if_neg c48] at H; have c48b0 : (((rd_T84 l0_1 x10_2).f1) == x7_1) = false := beq_eq_false_iff_ne.mpr c48; have c48b1 : (((rd_T84 l0_1 x10_2).f1) != x7_1) = true := bne_iff_ne.mpr c48; have H' := A' H; clear H; have hnb58 := NB210_0.out; have hnc58 := NB0_210.out; have hnb59 := NB210_2.out; have hnc59 := NB2_210.out; have hnb60 := NB210_212.out; have hnc60 := NB212_210.out; have hnb61 := NB210_214.out; have hnc61 := NB214_210.out; have hcz62_0 : wc.cell? ⟨gb210, 0, none⟩ = some (.int .i64 ((rd_T84 l0_1 x10_2).f0)) := (N' BK210.out 0).trans rfl; have hcz62_1 : wc.cell? ⟨gb210, 1, none⟩ = some (.int .i64 ((rd_T84 l0_1 x10_2).f1)) := (N' BK210.out 1).trans rfl; have hcz62_2 : wc.cell? ⟨gb210, 2, none⟩ = some (.bool ((rd_T84 l0_1 x10_2).f2)) := (N' BK210.out 2).trans rfl; have hfz62_0 := Y' BK210.out 0; have hfz62_1 := Y' BK210.out 1; have hfz62_2 := Y' BK210.out 2; go_wp2
                  go_roundg kj20
                  case measure => have := HK1.out; have := HK2.out; have := HJ20.out; omega
                  case rel => exact ⟨(x8_20), (x9_20), (wrap64 (x10_2 + 1)), qS, qS, qS, H', ⟨by have := HK1.out; have := HK2.out; have := HJ20.out; omega⟩, ⟨qB BK0.out⟩, ⟨qB BK2.out⟩, ⟨qK3 HB.out GE210.out GE212.out GE214.out⟩⟩
              ·rw [if_neg c20] at H; exact absurd H (by simp)
             ·rw [if_neg c19] at H; exact absurd H (by simp)
            ·rw [if_neg c18] at H; exact absurd H (by simp)
           ·rw [if_neg c17] at H; exact absurd H (by simp)
          ·rw [if_neg c16] at H; exact absurd H (by simp)
         ·rw [if_neg c15] at H; have c15b0 : decide (x10_2 < (l0_1.length : Int)) = false := dF' c15; clear c15
          by_cases c63 : x8_2 = 0
          ·rw [if_pos c63] at H; have c63b0 : (x8_2 == 0) = true := beq_iff_eq.mpr c63; have c63b1 : (x8_2 != 0) = false := bne_eq_false_iff_eq.mpr c63; clear c63
           by_cases c64 : x9_2 = 0
           ·rw [if_pos c64] at H; have c64b0 : (x9_2 == 0) = true := beq_iff_eq.mpr c64; have c64b1 : (x9_2 != 0) = false := bne_eq_false_iff_eq.mpr c64; clear c64; have H' := A' H; clear H; have hnb65 := NB0_2.out; have hnc65 := NB2_0.out; have hcz66_0 : wr.cell? ⟨gp0, 0, none⟩ = some (.slice (some ad206) l0_0.length c0_0) := (N' BK0.out 0).trans rfl; have hcz66_1 : wr.cell? ⟨gp0, 1, none⟩ = some (.slice A0_1 l0_1.length c0_1) := (N' BK0.out 1).trans rfl; have hfz66_0 := Y' BK0.out 0; have hfz66_1 := Y' BK0.out 1; go_wp2
            go_roundg k2
            case measure => have := HK1.out; have := HK2.out; omega
            case rel => exact ⟨(wrap64 (x7_1 + 1)), qS, H', ⟨by have := HK1.out; have := HK2.out; omega⟩, ⟨qB BK0.out⟩, ⟨qB BK2.out⟩, ⟨qK0 HB.out⟩⟩
           ·rw [if_neg c64] at H; have c64b0 : (x9_2 == 0) = false := beq_eq_false_iff_ne.mpr c64; have c64b1 : (x9_2 != 0) = true := bne_iff_ne.mpr c64; obtain rfl := Option.some.inj H; have hnb67 := NB0_2.out; have hnc67 := NB2_0.out; have hcz68_0 : wr.cell? ⟨gp0, 0, none⟩ = some (.slice (some ad206) l0_0.length c0_0) := (N' BK0.out 0).trans rfl; have hcz68_1 : wr.cell? ⟨gp0, 1, none⟩ = some (.slice A0_1 l0_1.length c0_1) := (N' BK0.out 1).trans rfl; have hfz68_0 := Y' BK0.out 0; have hfz68_1 := Y' BK0.out 1; go_wp2; go_ret; exact ⟨qE, qK0 HB.out⟩
          ·rw [if_neg c63] at H; have c63b0 : (x8_2 == 0) = false := beq_eq_false_iff_ne.mpr c63; have c63b1 : (x8_2 != 0) = true := bne_iff_ne.mpr c63; obtain rfl := Option.some.inj H; have hnb69 := NB0_2.out; have hnc69 := NB2_0.out; have hcz70_0 : wr.cell? ⟨gp0, 0, none⟩ = some (.slice (some ad206) l0_0.length c0_0) := (N' BK0.out 0).trans rfl; have hcz70_1 : wr.cell? ⟨gp0, 1, none⟩ = some (.slice A0_1 l0_1.length c0_1) := (N' BK0.out 1).trans rfl; have hfz70_0 := Y' BK0.out 0; have hfz70_1 := Y' BK0.out 1; go_wp2; go_ret; exact ⟨qE, qK0 HB.out⟩
      ·rw [if_neg c10] at H; exact absurd H (by simp)
    ·rw [if_neg c5] at H; exact absurd H (by simp)
   ·rw [if_neg c4] at H; have c4b0 : decide (x7_1 < (l0_0.length : Int)) = false := dF' c4; clear c4; obtain rfl := Option.some.inj H; have hnb71 := NB0_2.out; have hnc71 := NB2_0.out; have hcz72_0 : wr.cell? ⟨gp0, 0, none⟩ = some (.slice A0_0 l0_0.length c0_0) := (N' BK0.out 0).trans rfl; have hcz72_1 : wr.cell? ⟨gp0, 1, none⟩ = some (.slice A0_1 l0_1.length c0_1) := (N' BK0.out 1).trans rfl; have hfz72_0 := Y' BK0.out 0; have hfz72_1 := Y' BK0.out 1; go_wp2; go_ret; exact ⟨qE, qK0 HB.out⟩

/-! ### spec_IsBalanced: function 52 -/
def spec_IsBalanced.j0 : Nat → List (S97) → Bool → List (S82) → List (S84) → List Int → Int → Option (Bool × Int)
 | 0, _, _, _, _, _, _ => none
 | k + 1, x1, x18, x220000, x220001, x221000, x221001 => if x18 = true then (some (false, 1)) else ((spec_l09Balanced.f k x220000 x220001 x1 x221000 x221001).bind fun t224 => (some (t224, 0)))
def spec_IsBalanced.f (k : Nat) (l0_0 : List (S82)) (l0_1 : List (S84)) (l1 : List (S97)) (l2_0 : List Int) (a2_1 : Int) : Option (Bool × Int) := (spec_l09Ok.f k l0_0 l0_1).bind fun t221 => (if t221 = true then ((spec_l09Loads.f k l0_0 l0_1 l1).bind fun t222 => (if t222 = true then ((spec_l09Dense.f k l0_0 l0_1 l2_0 a2_1).bind fun t223 => (spec_IsBalanced.j0 k l1 (!t223) l0_0 l0_1 l2_0 a2_1)) else (spec_IsBalanced.j0 k l1 true l0_0 l0_1 l2_0 a2_1))) else (spec_IsBalanced.j0 k l1 true l0_0 l0_1 l2_0 a2_1))
theorem spec_IsBalanced.mono_l : ∀ k, (∀ y0 y1 y2 y3 y4 y5, LeO (spec_IsBalanced.j0 k y0 y1 y2 y3 y4 y5) (spec_IsBalanced.j0 (k + 1) y0 y1 y2 y3 y4 y5))
 | 0 => fun _ _ _ _ _ _ r h => by simp [spec_IsBalanced.j0] at h
 | k + 1 => by
  have ih0 := spec_IsBalanced.mono_l k
  ·intro y0 y1 y2 y3 y4 y5
   unfold spec_IsBalanced.j0
   repeat' first
   | (with_reducible exact ih0 _ _ _ _ _ _)
   | (with_reducible exact spec_l09Balanced.mono _ _ _ _ _ _)
   | (with_reducible exact spec_l09Dense.mono _ _ _ _ _)
   | (with_reducible exact spec_l09Loads.mono _ _ _ _)
   | (with_reducible exact spec_l09Ok.mono _ _ _)
   | (with_reducible exact LeO.refl _)
   | (with_reducible exact LeO.none _)
   | (with_reducible refine LeO.ite ?_ ?_)
   | (with_reducible refine LeO.bind ?_ (fun _ => ?_))
   | exact ih0 _ _ _ _ _ _
   | exact spec_l09Balanced.mono _ _ _ _ _ _
   | exact spec_l09Dense.mono _ _ _ _ _
   | exact spec_l09Loads.mono _ _ _ _
   | exact spec_l09Ok.mono _ _ _
   | exact LeO.none _
   | refine LeO.ite ?_ ?_
   | refine LeO.bind ?_ (fun _ => ?_)
theorem spec_IsBalanced.mono : ∀ a0 a1 a2 a3 a4 k, LeO (spec_IsBalanced.f k a0 a1 a2 a3 a4) (spec_IsBalanced.f (k + 1) a0 a1 a2 a3 a4) := by
 intro a0 a1 a2 a3 a4 k
 have ih0 := spec_IsBalanced.mono_l k
 unfold spec_IsBalanced.f
 repeat' first
   | (with_reducible exact ih0 _ _ _ _ _ _)
   | (with_reducible exact spec_l09Balanced.mono _ _ _ _ _ _)
   | (with_reducible exact spec_l09Dense.mono _ _ _ _ _)
   | (with_reducible exact spec_l09Loads.mono _ _ _ _)
   | (with_reducible exact spec_l09Ok.mono _ _ _)
   | (with_reducible exact LeO.refl _)
   | (with_reducible exact LeO.none _)
   | (with_reducible refine LeO.ite ?_ ?_)
   | (with_reducible refine LeO.bind ?_ (fun _ => ?_))
   | exact ih0 _ _ _ _ _ _
   | exact spec_l09Balanced.mono _ _ _ _ _ _
   | exact spec_l09Dense.mono _ _ _ _ _
   | exact spec_l09Loads.mono _ _ _ _
   | exact spec_l09Ok.mono _ _ _
   | exact LeO.none _
   | refine LeO.ite ?_ ?_
   | refine LeO.bind ?_ (fun _ => ?_)
set_option maxHeartbeats 8000000 in
set_option maxRecDepth 100000 in
theorem spec_IsBalanced.calls (k : Nat) (A0_0 : Option Addr) (c0_0 : Nat) (l0_0 : List (S82)) (A0_1 : Option Addr) (c0_1 : Nat) (l0_1 : List (S84)) (A1 : Option Addr) (c1 : Nat) (l1 : List (S97)) (A2_0 : Option Addr) (c2_0 : Nat) (l2_0 : List Int) (a2_1 : Int) (r1 : Bool) (r2 : Int) (w : World) (hr0_0 : Kd.C k82 w A0_0 l0_0.length l0_0) (hc0_0 : l0_0.length ≤ c0_0) (hr0_1 : Kd.C k84 w A0_1 l0_1.length l0_1) (hc0_1 : l0_1.length ≤ c0_1) (hr1 : Kd.C k97 w A1 l1.length l1) (hc1 : l1.length ≤ c1) (hr2_0 : Kd.C (Kd.int .i64) w A2_0 l2_0.length l2_0) (hc2_0 : l2_0.length ≤ c2_0) (h : spec_IsBalanced.f k l0_0 l0_1 l1 l2_0 a2_1 = some (r1, r2)) :
  Calls Try.prog 52 #[.agg #[.slice A0_0 l0_0.length c0_0, .slice A0_1 l0_1.length c0_1], .slice A1 l1.length c1, .agg #[.slice A2_0 l2_0.length c2_0, .int .i64 a2_1]] w fun e w' => e = .returned (.tuple #[.bool r1, .int .i64 r2]) ∧ Below w.heap.size w w' := by
 have hu39 := Try.underlying39; have hu27 := Try.underlying27; have HR0_0 := A' hr0_0; have HC0_0 := A' hc0_0; clear hr0_0 hc0_0; have HR0_1 := A' hr0_1; have HC0_1 := A' hc0_1; clear hr0_1 hc0_1; have HR1 := A' hr1; have HC1 := A' hc1; clear hr1 hc1; have HR2_0 := A' hr2_0; have HC2_0 := A' hc2_0; clear hr2_0 hc2_0; have HB := A' (Below.refl w.heap.size w); have H : ((spec_l09Ok.f k l0_0 l0_1).bind fun t221 => (if t221 = true then ((spec_l09Loads.f k l0_0 l0_1 l1).bind fun t222 => (if t222 = true then ((spec_l09Dense.f k l0_0 l0_1 l2_0 a2_1).bind fun t223 => (spec_IsBalanced.j0 k l1 (!t223) l0_0 l0_1 l2_0 a2_1)) else (spec_IsBalanced.j0 k l1 true l0_0 l0_1 l2_0 a2_1))) else (spec_IsBalanced.j0 k l1 true l0_0 l0_1 l2_0 a2_1))) = some (r1, r2) := h; clear h; have HC4 := A' H; clear H; go_enter Try.func52, Try.ntmps52; go_upto_region 1 with (first | ((with_reducible refine gate_dst (N := 3) rfl ?_); refine box_event ?hg (N := 3) ?hd (cs := #[.slice A0_0 l0_0.length c0_0, .slice A0_1 l0_1.length c0_1]) (t := 39) ?hr ?_; (case hd => rfl); (case hg => rfl); (case hr => first | (go_simp; done) | (go_simp; rfl)); intro gb219 hg w5 hbox hb; have n0_ := A' (W' (qK0 HB.out) hb); have n1_ := A' (hbox); have n2_ := A' ((by rw [hg]; exact (V' (qK0 HB.out)) : w.heap.size ≤ gb219)); have n3_ := A' ((by rw [hg]; exact (V' (qK0 HB.out)) : w.heap.size ≤ gb219)); clear HB; have HB := n0_; have BK219 := n1_; have GW219 := n2_; have GE219 := n3_; clear n0_ n1_ n2_ n3_; clear hb hbox hg) | ((with_reducible refine gate_dst (N := 5) rfl ?_); refine box_event ?hg (N := 5) ?hd (cs := #[.slice A2_0 l2_0.length c2_0, .int .i64 a2_1]) (t := 27) ?hr ?_; (case hd => rfl); (case hg => rfl); (case hr => first | (go_simp; done) | (go_simp; rfl)); intro gb220 hg w6 hbox hb; have n0_ := A' (O' (g := gb219) (qB BK219.out) hb); have n1_ := A' (W' (qK1 HB.out GE219.out) hb); have n2_ := A' (hbox); have n3_ := A' ((by rw [hg]; exact (V' (qK1 HB.out GE219.out)) : w.heap.size ≤ gb220)); have n4_ := A' ((by rw [hg]; exact (V' (qK1 HB.out GE219.out)) : w.heap.size ≤ gb220)); have n5_ := A' ((by rw [hg]; exact Nat.ne_of_lt (bL' (g := gb219) (qB BK219.out)) : gb219 ≠ gb220)); have n6_ := A' ((by rw [hg]; exact Nat.ne_of_gt (bL' (g := gb219) (qB BK219.out)) : gb220 ≠ gb219)); clear BK219; clear HB; have BK219 := n0_; have HB := n1_; have BK220 := n2_; have GW220 := n3_; have GE220 := n4_; have NB219_220 := n5_; have NB220_219 := n6_; clear n0_ n1_ n2_ n3_ n4_ n5_ n6_; clear hb hbox hg))
 (try simp only [Act.put, List.setIfInBounds_toArray, List.set_cons_zero, List.set_cons_succ])
 go_cut [18] (fun v18 wc => ∃ (kq : Nat) (x18_3 : Bool) (x221001_3 : Int), v18 = .bool x18_3 ∧ Aside0 (spec_IsBalanced.j0 kq l1 x18_3 l0_0 l0_1 l2_0 x221001_3 = some (r1, r2)) ∧ Aside0 (kq ≤ k) ∧ Aside0 (wc.heap[gb219]? = some (.cells #[(.slice A0_0 l0_0.length c0_0), (.slice A0_1 l0_1.length c0_1)] 39 (0, 0))) ∧ Aside0 (wc.heap[gb220]? = some (.cells #[(.slice A2_0 l2_0.length c2_0), .int .i64 x221001_3] 27 (0, 0))) ∧ Aside0 (Below w.heap.size w wc))
 case first =>
  have H := HC4.out; clear HC4; replace H := Option.bind_eq_some_iff.mp H; obtain ⟨t221, A70, H⟩ := H; replace H : (if t221 = true then ((spec_l09Loads.f k l0_0 l0_1 l1).bind fun t222 => (if t222 = true then ((spec_l09Dense.f k l0_0 l0_1 l2_0 a2_1).bind fun t223 => (spec_IsBalanced.j0 k l1 (!t223) l0_0 l0_1 l2_0 a2_1)) else (spec_IsBalanced.j0 k l1 true l0_0 l0_1 l2_0 a2_1))) else (spec_IsBalanced.j0 k l1 true l0_0 l0_1 l2_0 a2_1)) = some (r1, r2) := H; have A7 := A' A70; clear A70
  by_cases c8 : t221 = true
  ·subst c8; have H1 : ((spec_l09Loads.f k l0_0 l0_1 l1).bind fun t222 => (if t222 = true then ((spec_l09Dense.f k l0_0 l0_1 l2_0 a2_1).bind fun t223 => (spec_IsBalanced.j0 k l1 (!t223) l0_0 l0_1 l2_0 a2_1)) else (spec_IsBalanced.j0 k l1 true l0_0 l0_1 l2_0 a2_1))) = some (r1, r2) := by rw [if_pos rfl] at H; exact H
   clear H; have H := H1; clear H1; replace H := Option.bind_eq_some_iff.mp H; obtain ⟨t222, A90, H⟩ := H; replace H : (if t222 = true then ((spec_l09Dense.f k l0_0 l0_1 l2_0 a2_1).bind fun t223 => (spec_IsBalanced.j0 k l1 (!t223) l0_0 l0_1 l2_0 a2_1)) else (spec_IsBalanced.j0 k l1 true l0_0 l0_1 l2_0 a2_1)) = some (r1, r2) := H; have A9 := A' A90; clear A90
   by_cases c10 : t222 = true
   ·subst c10; have H1 : ((spec_l09Dense.f k l0_0 l0_1 l2_0 a2_1).bind fun t223 => (spec_IsBalanced.j0 k l1 (!t223) l0_0 l0_1 l2_0 a2_1)) = some (r1, r2) := by rw [if_pos rfl] at H; exact H
    clear H; have H := H1; clear H1; replace H := Option.bind_eq_some_iff.mp H; obtain ⟨t223, A110, H⟩ := H; replace H : (spec_IsBalanced.j0 k l1 (!t223) l0_0 l0_1 l2_0 a2_1) = some (r1, r2) := H; have A11 := A' A110; clear A110; have H' := A' H; clear H; go_wp2_with (first | ((with_reducible refine gate_callee (f := 66) rfl ?_); refine goesL_ (some 8) rfl rfl Try.func66 (by kernel_rfl) rfl #[.pointer (some ⟨gb219, 0, none⟩)] rfl (by (try simp only [List.map_toArray, List.map_cons, List.map_nil]); first | done | rfl | (simp only [List.length_drop, List.length_take]; rfl)) ?_; (with_reducible refine (spec_l09Ok.calls k gb219 A0_0 c0_0 l0_0 A0_1 c0_1 l0_1 true _ ?side5 ?side1 ?side2 ?side3 ?side4 A7.out).mono ?_); (case side1 => exact qT (X' HR0_0.out HB.out)); (case side2 => exact HC0_0.out); (case side3 => exact qT (X' HR0_1.out HB.out)); (case side4 => exact HC0_1.out); (case side5 => (with_reducible repeat (first | refine G' ?_ _ | refine I' ?_ | refine H' ?_ _)); exact BK219.out); rintro e w12 ⟨rfl, hb⟩; refine ⟨_, rfl, ?_⟩; have n0_ := A' (O' (g := gb219) (qB BK219.out) hb); have n1_ := A' (O' (g := gb220) (qB BK220.out) hb); have n2_ := A' (W' (qK2 HB.out GE219.out GE220.out) hb); clear BK219; clear BK220; clear HB; have BK219 := n0_; have BK220 := n1_; have HB := n2_; clear n0_ n1_ n2_; (try clear hb); (try clear hb2); (try clear hk); (try clear hi)) | (go_at_call 72; (with_reducible refine (spec_l09Loads.calls k gb219 A0_0 c0_0 l0_0 A0_1 c0_1 l0_1 _ _ l1 true _ ?side7 ?side1 ?side2 ?side3 ?side4 ?side5 ?side6 A9.out).mono ?_); (case side1 => exact qT (X' HR0_0.out HB.out)); (case side2 => exact HC0_0.out); (case side3 => exact qT (X' HR0_1.out HB.out)); (case side4 => exact HC0_1.out); (case side5 => exact qT (X' HR1.out HB.out)); (case side6 => exact HC1.out); (case side7 => (with_reducible repeat (first | refine G' ?_ _ | refine I' ?_ | refine H' ?_ _)); exact BK219.out); rintro e w13 ⟨rfl, hb⟩; have n0_ := A' (O' (g := gb219) (qB BK219.out) hb); have n1_ := A' (O' (g := gb220) (qB BK220.out) hb); have n2_ := A' (W' (qK2 HB.out GE219.out GE220.out) hb); clear BK219; clear BK220; clear HB; have BK219 := n0_; have BK220 := n1_; have HB := n2_; clear n0_ n1_ n2_; (try clear hb); (try clear hb2); (try clear hk); (try clear hi)) | (go_at_call 77; (with_reducible refine (spec_l09Dense.calls k gb219 A0_0 c0_0 l0_0 A0_1 c0_1 l0_1 gb220 A2_0 c2_0 l2_0 a2_1 t223 _ ?side8 ?side7 ?side1 ?side2 ?side3 ?side4 ?side5 ?side6 A11.out).mono ?_); (case side1 => exact qT (X' HR0_0.out HB.out)); (case side2 => exact HC0_0.out); (case side3 => exact qT (X' HR0_1.out HB.out)); (case side4 => exact HC0_1.out); (case side5 => exact qT (X' HR2_0.out HB.out)); (case side6 => exact HC2_0.out); (case side7 => (with_reducible repeat (first | refine G' ?_ _ | refine I' ?_ | refine H' ?_ _)); exact BK220.out); (case side8 => (with_reducible repeat (first | refine G' ?_ _ | refine I' ?_ | refine H' ?_ _)); exact BK219.out); rintro e w14 ⟨rfl, hb⟩; have n0_ := A' (O' (g := gb219) (qB BK219.out) hb); have n1_ := A' (O' (g := gb220) (qB BK220.out) hb); have n2_ := A' (W' (qK2 HB.out GE219.out GE220.out) hb); clear BK219; clear BK220; clear HB; have BK219 := n0_; have BK220 := n1_; have HB := n2_; clear n0_ n1_ n2_; (try clear hb); (try clear hb2); (try clear hk); (try clear hi)))
    go_meet
    case rel => exact ⟨_, (!t223), (a2_1), qS, H', ⟨by first | omega | exact Nat.le_refl _⟩, ⟨qB BK219.out⟩, ⟨qB BK220.out⟩, ⟨qK2 HB.out GE219.out GE220.out⟩⟩
   ·replace c10 := Bool.eq_false_iff.mpr c10; subst c10; have H1 : (spec_IsBalanced.j0 k l1 true l0_0 l0_1 l2_0 a2_1) = some (r1, r2) := by rw [if_neg (show ¬ (false = true) by decide)] at H; exact H
    clear H; have H := H1; clear H1; have H' := A' H; clear H; go_wp2_with (first | ((with_reducible refine gate_callee (f := 66) rfl ?_); refine goesL_ (some 8) rfl rfl Try.func66 (by kernel_rfl) rfl #[.pointer (some ⟨gb219, 0, none⟩)] rfl (by (try simp only [List.map_toArray, List.map_cons, List.map_nil]); first | done | rfl | (simp only [List.length_drop, List.length_take]; rfl)) ?_; (with_reducible refine (spec_l09Ok.calls k gb219 A0_0 c0_0 l0_0 A0_1 c0_1 l0_1 true _ ?side5 ?side1 ?side2 ?side3 ?side4 A7.out).mono ?_); (case side1 => exact qT (X' HR0_0.out HB.out)); (case side2 => exact HC0_0.out); (case side3 => exact qT (X' HR0_1.out HB.out)); (case side4 => exact HC0_1.out); (case side5 => (with_reducible repeat (first | refine G' ?_ _ | refine I' ?_ | refine H' ?_ _)); exact BK219.out); rintro e w15 ⟨rfl, hb⟩; refine ⟨_, rfl, ?_⟩; have n0_ := A' (O' (g := gb219) (qB BK219.out) hb); have n1_ := A' (O' (g := gb220) (qB BK220.out) hb); have n2_ := A' (W' (qK2 HB.out GE219.out GE220.out) hb); clear BK219; clear BK220; clear HB; have BK219 := n0_; have BK220 := n1_; have HB := n2_; clear n0_ n1_ n2_; (try clear hb); (try clear hb2); (try clear hk); (try clear hi)) | (go_at_call 72; (with_reducible refine (spec_l09Loads.calls k gb219 A0_0 c0_0 l0_0 A0_1 c0_1 l0_1 _ _ l1 false _ ?side7 ?side1 ?side2 ?side3 ?side4 ?side5 ?side6 A9.out).mono ?_); (case side1 => exact qT (X' HR0_0.out HB.out)); (case side2 => exact HC0_0.out); (case side3 => exact qT (X' HR0_1.out HB.out)); (case side4 => exact HC0_1.out); (case side5 => exact qT (X' HR1.out HB.out)); (case side6 => exact HC1.out); (case side7 => (with_reducible repeat (first | refine G' ?_ _ | refine I' ?_ | refine H' ?_ _)); exact BK219.out); rintro e w16 ⟨rfl, hb⟩; have n0_ := A' (O' (g := gb219) (qB BK219.out) hb); have n1_ := A' (O' (g := gb220) (qB BK220.out) hb); have n2_ := A' (W' (qK2 HB.out GE219.out GE220.out) hb); clear BK219; clear BK220; clear HB; have BK219 := n0_; have BK220 := n1_; have HB := n2_; clear n0_ n1_ n2_; (try clear hb); (try clear hb2); (try clear hk); (try clear hi)))
    go_meet
    case rel => exact ⟨_, (true), (a2_1), qS, H', ⟨by first | omega | exact Nat.le_refl _⟩, ⟨qB BK219.out⟩, ⟨qB BK220.out⟩, ⟨qK2 HB.out GE219.out GE220.out⟩⟩
  ·replace c8 := Bool.eq_false_iff.mpr c8; subst c8; have H1 : (spec_IsBalanced.j0 k l1 true l0_0 l0_1 l2_0 a2_1) = some (r1, r2) := by rw [if_neg (show ¬ (false = true) by decide)] at H; exact H
   clear H; have H := H1; clear H1; have H' := A' H; clear H; go_wp2_with (first | ((with_reducible refine gate_callee (f := 66) rfl ?_); refine goesL_ (some 8) rfl rfl Try.func66 (by kernel_rfl) rfl #[.pointer (some ⟨gb219, 0, none⟩)] rfl (by (try simp only [List.map_toArray, List.map_cons, List.map_nil]); first | done | rfl | (simp only [List.length_drop, List.length_take]; rfl)) ?_; (with_reducible refine (spec_l09Ok.calls k gb219 A0_0 c0_0 l0_0 A0_1 c0_1 l0_1 false _ ?side5 ?side1 ?side2 ?side3 ?side4 A7.out).mono ?_); (case side1 => exact qT (X' HR0_0.out HB.out)); (case side2 => exact HC0_0.out); (case side3 => exact qT (X' HR0_1.out HB.out)); (case side4 => exact HC0_1.out); (case side5 => (with_reducible repeat (first | refine G' ?_ _ | refine I' ?_ | refine H' ?_ _)); exact BK219.out); rintro e w17 ⟨rfl, hb⟩; refine ⟨_, rfl, ?_⟩; have n0_ := A' (O' (g := gb219) (qB BK219.out) hb); have n1_ := A' (O' (g := gb220) (qB BK220.out) hb); have n2_ := A' (W' (qK2 HB.out GE219.out GE220.out) hb); clear BK219; clear BK220; clear HB; have BK219 := n0_; have BK220 := n1_; have HB := n2_; clear n0_ n1_ n2_; (try clear hb); (try clear hb2); (try clear hk); (try clear hi)))
   go_meet
   case rel => exact ⟨_, (true), (a2_1), qS, H', ⟨by first | omega | exact Nat.le_refl _⟩, ⟨qB BK219.out⟩, ⟨qB BK220.out⟩, ⟨qK2 HB.out GE219.out GE220.out⟩⟩
 case rest =>
  clear HC4; try clear c1
  try clear c2
  try clear p2
  try clear c5
  try clear c6
  try clear c8
  try clear c10
  obtain ⟨kq, x18_3, x221001_3, rfl, HA, HJ3, BK219, BK220, HB⟩ := hcut
  cases kq with
  | zero => exact absurd HA.out (by simp [spec_IsBalanced.j0])
  | succ kj3 =>
   have H := HA.out; clear HA; simp only [spec_IsBalanced.j0] at H
   by_cases c18 : x18_3 = true
   ·subst c18; have H1 : (some (false, 1)) = some (r1, r2) := by rw [if_pos rfl] at H; exact H
    clear H; have H := H1; clear H1; simp only [Option.some.injEq, Prod.mk.injEq] at H; obtain ⟨rfl, rfl⟩ := H; go_wp2; go_ret2; exact ⟨qE, qK2 HB.out GE219.out GE220.out⟩
   ·replace c18 := Bool.eq_false_iff.mpr c18; subst c18; have H1 : ((spec_l09Balanced.f kj3 l0_0 l0_1 l1 l2_0 x221001_3).bind fun t224 => (some (t224, 0))) = some (r1, r2) := by rw [if_neg (show ¬ (false = true) by decide)] at H; exact H
    clear H; have H := H1; clear H1; replace H := Option.bind_eq_some_iff.mp H; obtain ⟨t224, A190, H⟩ := H; replace H : (some (t224, 0)) = some (r1, r2) := H; have A19 := A' A190; clear A190; simp only [Option.some.injEq, Prod.mk.injEq] at H; obtain ⟨rfl, rfl⟩ := H; go_wp2_with (first | ((with_reducible refine gate_callee (f := 85) rfl ?_); refine goesL_ (some 20) rfl rfl Try.func85 (by kernel_rfl) rfl #[.pointer (some ⟨gb219, 0, none⟩), .slice A1 l1.length c1, .pointer (some ⟨gb220, 0, none⟩)] rfl (by (try simp only [List.map_toArray, List.map_cons, List.map_nil]); first | done | rfl | (simp only [List.length_drop, List.length_take]; rfl)) ?_; (with_reducible refine (spec_l09Balanced.calls kj3 gb219 A0_0 c0_0 l0_0 A0_1 c0_1 l0_1 _ _ l1 gb220 A2_0 c2_0 l2_0 x221001_3 t224 _ ?side10 ?side9 ?side1 ?side2 ?side3 ?side4 ?side5 ?side6 ?side7 ?side8 A19.out).mono ?_); (case side1 => exact qT (X' HR0_0.out HB.out)); (case side2 => exact HC0_0.out); (case side3 => exact qT (X' HR0_1.out HB.out)); (case side4 => exact HC0_1.out); (case side5 => exact qT (X' HR1.out HB.out)); (case side6 => exact HC1.out); (case side7 => exact qT (X' HR2_0.out HB.out)); (case side8 => exact HC2_0.out); (case side9 => (with_reducible repeat (first | refine G' ?_ _ | refine I' ?_ | refine H' ?_ _)); exact BK220.out); (case side10 => (with_reducible repeat (first | refine G' ?_ _ | refine I' ?_ | refine H' ?_ _)); exact BK219.out); rintro e w20 ⟨rfl, hb⟩; refine ⟨_, rfl, ?_⟩; have n0_ := A' (O' (g := gb219) (qB BK219.out) hb); have n1_ := A' (O' (g := gb220) (qB BK220.out) hb); have n2_ := A' (W' (qK2 HB.out GE219.out GE220.out) hb); clear BK219; clear BK220; clear HB; have BK219 := n0_; have BK220 := n1_; have HB := n2_; clear n0_ n1_ n2_; (try clear hb); (try clear hb2); (try clear hk); (try clear hi))); go_ret2; exact ⟨qE, qK2 HB.out GE219.out GE220.out⟩

end Go.Proofs.Ytacijlpnpkhjaaa.HBal
