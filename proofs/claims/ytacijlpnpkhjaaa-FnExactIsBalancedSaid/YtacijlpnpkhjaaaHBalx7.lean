-- Written by a program for this claim (the functions that the statement reaches, and that the program's code comes to them).
import Derived.Test.YtacijlpnpkhjaaaHBalx0
import Derived.Test.YtacijlpnpkhjaaaHBalx6
namespace Go.Proofs.Ytacijlpnpkhjaaa.HBal
open Go.RowKit Go.Proofs.YtacijlpnpkhjaaaW.PrintWords Go.Proofs.YtacijlpnpkhjaaaW.PrintLast Go.Proofs.YtacijlpnpkhjaaaW.PrintMore
attribute [local go_sem] max2_int min2_int max_two min_two max_three min_three max_four min_four   -- for this text's walks alone
set_option linter.unusedVariables false
set_option linter.unusedSimpArgs false

/-! ### impl_ValidFrame: function 25 -/
mutual
def impl_ValidFrame.j0 : Nat → Bool → List (S82) → List (S84) → Option (Bool)
 | 0, _, _, _ => none
 | k + 1, x26, x235000, x235001 => if x26 = true then (some false) else (impl_ValidFrame.l0 k x235000 (x235000.length : Int) 0 x235000 x235001)
def impl_ValidFrame.l0 : Nat → List (S82) → Int → Int → List (S82) → List (S84) → Option (Bool)
 | 0, _, _, _, _, _ => none
 | k + 1, x28, x29, x30, x235000, x235001 => if x30 < x29 then (if 0 ≤ x30 then (if x30 < (x28.length : Int) then ((impl_within.f ((rd_T82 x28 x30).f0) 0 12).bind fun t240 => (if t240 = true then ((impl_within.f ((rd_T82 x28 x30).f1) 0 12).bind fun t241 => (impl_ValidFrame.j2 k x30 x28 x29 x30 (!t241) x235000 x235001 ((rd_T82 x28 x30).f0) ((rd_T82 x28 x30).f1) ((rd_T82 x28 x30).f2))) else (impl_ValidFrame.j2 k x30 x28 x29 x30 true x235000 x235001 ((rd_T82 x28 x30).f0) ((rd_T82 x28 x30).f1) ((rd_T82 x28 x30).f2)))) else (none)) else (none)) else (impl_ValidFrame.l2 k x235001 (x235001.length : Int) 0 x235000 x235001)
def impl_ValidFrame.j2 : Nat → Int → List (S82) → Int → Int → Bool → List (S82) → List (S84) → Int → Int → Bool → Option (Bool)
 | 0, _, _, _, _, _, _, _, _, _, _ => none
 | k + 1, x3, x28, x29, x30, x44, x235000, x235001, x240000, x240001, x240002 => if x44 = true then (some false) else (if 0 ≤ x3 then (if x3 ≤ (x235000.length : Int) then ((some (x235000.take (x3 : Int).toNat : List (S82))).bind fun y242 => (impl_ValidFrame.l1 k x28 x29 x30 y242 (y242.length : Int) 0 x235000 x235001 x240000 x240001 x240002)) else (none)) else (none))
def impl_ValidFrame.l1 : Nat → List (S82) → Int → Int → List (S82) → Int → Int → List (S82) → List (S84) → Int → Int → Bool → Option (Bool)
 | 0, _, _, _, _, _, _, _, _, _, _, _ => none
 | k + 1, x28, x29, x30, x48, x49, x50, x235000, x235001, x240000, x240001, x240002 => if x50 < x49 then (if 0 ≤ x50 then (if x50 < (x48.length : Int) then (if ((rd_T82 x48 x50).f0) = x240000 then (if ((rd_T82 x48 x50).f1) = x240001 then (some false) else (impl_ValidFrame.l1 k x28 x29 x30 x48 x49 (wrap64 (x50 + 1)) x235000 x235001 x240000 x240001 x240002)) else (impl_ValidFrame.l1 k x28 x29 x30 x48 x49 (wrap64 (x50 + 1)) x235000 x235001 x240000 x240001 x240002)) else (none)) else (none)) else (impl_ValidFrame.l0 k x28 x29 (wrap64 (x30 + 1)) x235000 x235001)
def impl_ValidFrame.l2 : Nat → List (S84) → Int → Int → List (S82) → List (S84) → Option (Bool)
 | 0, _, _, _, _, _ => none
 | k + 1, x69, x70, x71, x235000, x235001 => if x71 < x70 then (if 0 ≤ x71 then (if x71 < (x69.length : Int) then (if ((rd_T84 x69 x71).f0) < 0 then (impl_ValidFrame.j5 k x71 x69 x70 x71 true x235000 x235001 ((rd_T84 x69 x71).f0) ((rd_T84 x69 x71).f1) ((rd_T84 x69 x71).f2)) else (if ((rd_T84 x69 x71).f0) ≥ ((rd_T84 x69 x71).f1) then (impl_ValidFrame.j5 k x71 x69 x70 x71 true x235000 x235001 ((rd_T84 x69 x71).f0) ((rd_T84 x69 x71).f1) ((rd_T84 x69 x71).f2)) else (if ((rd_T84 x69 x71).f1) ≥ (x235000.length : Int) then (impl_ValidFrame.j5 k x71 x69 x70 x71 true x235000 x235001 ((rd_T84 x69 x71).f0) ((rd_T84 x69 x71).f1) ((rd_T84 x69 x71).f2)) else (if 0 ≤ ((rd_T84 x69 x71).f0) then (if ((rd_T84 x69 x71).f0) < (x235000.length : Int) then (if (rd_T82 x235000 ((rd_T84 x69 x71).f0)).f2 = true then (if 0 ≤ ((rd_T84 x69 x71).f1) then (if ((rd_T84 x69 x71).f1) < (x235000.length : Int) then (impl_ValidFrame.j5 k x71 x69 x70 x71 ((rd_T82 x235000 ((rd_T84 x69 x71).f1)).f2) x235000 x235001 ((rd_T84 x69 x71).f0) ((rd_T84 x69 x71).f1) ((rd_T84 x69 x71).f2)) else (none)) else (none)) else (impl_ValidFrame.j5 k x71 x69 x70 x71 false x235000 x235001 ((rd_T84 x69 x71).f0) ((rd_T84 x69 x71).f1) ((rd_T84 x69 x71).f2))) else (none)) else (none))))) else (none)) else (none)) else (some true)
def impl_ValidFrame.j5 : Nat → Int → List (S84) → Int → Int → Bool → List (S82) → List (S84) → Int → Int → Bool → Option (Bool)
 | 0, _, _, _, _, _, _, _, _, _, _ => none
 | k + 1, x7, x69, x70, x71, x111, x235000, x235001, x250000, x250001, x250002 => if x111 = true then (some false) else (if 0 ≤ x7 then (if x7 ≤ (x235001.length : Int) then ((some (x235001.take (x7 : Int).toNat : List (S84))).bind fun y252 => (impl_ValidFrame.l3 k x69 x70 x71 y252 (y252.length : Int) 0 x235000 x235001 x250000 x250001 x250002)) else (none)) else (none))
def impl_ValidFrame.l3 : Nat → List (S84) → Int → Int → List (S84) → Int → Int → List (S82) → List (S84) → Int → Int → Bool → Option (Bool)
 | 0, _, _, _, _, _, _, _, _, _, _, _ => none
 | k + 1, x69, x70, x71, x115, x116, x117, x235000, x235001, x250000, x250001, x250002 => if x117 < x116 then (if 0 ≤ x117 then (if x117 < (x115.length : Int) then (if ((rd_T84 x115 x117).f0) = x250000 then (if ((rd_T84 x115 x117).f1) = x250001 then (some false) else (impl_ValidFrame.l3 k x69 x70 x71 x115 x116 (wrap64 (x117 + 1)) x235000 x235001 x250000 x250001 x250002)) else (impl_ValidFrame.l3 k x69 x70 x71 x115 x116 (wrap64 (x117 + 1)) x235000 x235001 x250000 x250001 x250002)) else (none)) else (none)) else (impl_ValidFrame.l2 k x69 x70 (wrap64 (x71 + 1)) x235000 x235001)
end
def impl_ValidFrame.f (k : Nat) (l0_0 : List (S82)) (l0_1 : List (S84)) : Option (Bool) := if (l0_0.length : Int) > 8 then (impl_ValidFrame.j0 k true l0_0 l0_1) else (if (l0_1.length : Int) > 8 then (impl_ValidFrame.j0 k true l0_0 l0_1) else ((impl_freeKnots.f k l0_0 l0_1).bind fun t235 => (impl_ValidFrame.j0 k (decide ((t235.length : Int) > 3)) l0_0 l0_1)))
theorem impl_ValidFrame.mono_l : ∀ k, (∀ y0 y1 y2, LeO (impl_ValidFrame.j0 k y0 y1 y2) (impl_ValidFrame.j0 (k + 1) y0 y1 y2)) ∧ (∀ y0 y1 y2 y3 y4, LeO (impl_ValidFrame.l0 k y0 y1 y2 y3 y4) (impl_ValidFrame.l0 (k + 1) y0 y1 y2 y3 y4)) ∧ (∀ y0 y1 y2 y3 y4 y5 y6 y7 y8 y9, LeO (impl_ValidFrame.j2 k y0 y1 y2 y3 y4 y5 y6 y7 y8 y9) (impl_ValidFrame.j2 (k + 1) y0 y1 y2 y3 y4 y5 y6 y7 y8 y9)) ∧ (∀ y0 y1 y2 y3 y4 y5 y6 y7 y8 y9 y10, LeO (impl_ValidFrame.l1 k y0 y1 y2 y3 y4 y5 y6 y7 y8 y9 y10) (impl_ValidFrame.l1 (k + 1) y0 y1 y2 y3 y4 y5 y6 y7 y8 y9 y10)) ∧ (∀ y0 y1 y2 y3 y4, LeO (impl_ValidFrame.l2 k y0 y1 y2 y3 y4) (impl_ValidFrame.l2 (k + 1) y0 y1 y2 y3 y4)) ∧ (∀ y0 y1 y2 y3 y4 y5 y6 y7 y8 y9, LeO (impl_ValidFrame.j5 k y0 y1 y2 y3 y4 y5 y6 y7 y8 y9) (impl_ValidFrame.j5 (k + 1) y0 y1 y2 y3 y4 y5 y6 y7 y8 y9)) ∧ (∀ y0 y1 y2 y3 y4 y5 y6 y7 y8 y9 y10, LeO (impl_ValidFrame.l3 k y0 y1 y2 y3 y4 y5 y6 y7 y8 y9 y10) (impl_ValidFrame.l3 (k + 1) y0 y1 y2 y3 y4 y5 y6 y7 y8 y9 y10))
 | 0 => ⟨fun _ _ _ r h => by simp [impl_ValidFrame.j0] at h, fun _ _ _ _ _ r h => by simp [impl_ValidFrame.l0] at h, fun _ _ _ _ _ _ _ _ _ _ r h => by simp [impl_ValidFrame.j2] at h, fun _ _ _ _ _ _ _ _ _ _ _ r h => by simp [impl_ValidFrame.l1] at h, fun _ _ _ _ _ r h => by simp [impl_ValidFrame.l2] at h, fun _ _ _ _ _ _ _ _ _ _ r h => by simp [impl_ValidFrame.j5] at h, fun _ _ _ _ _ _ _ _ _ _ _ r h => by simp [impl_ValidFrame.l3] at h⟩
 | k + 1 => by
  obtain ⟨ih0, ih1, ih2, ih3, ih4, ih5, ih6⟩ := impl_ValidFrame.mono_l k
  refine ⟨?_, ?_, ?_, ?_, ?_, ?_, ?_⟩
  ·intro y0 y1 y2
   unfold impl_ValidFrame.j0
   repeat' first
   | (with_reducible exact ih0 _ _ _)
   | (with_reducible exact ih1 _ _ _ _ _)
   | (with_reducible exact ih2 _ _ _ _ _ _ _ _ _ _)
   | (with_reducible exact ih3 _ _ _ _ _ _ _ _ _ _ _)
   | (with_reducible exact ih4 _ _ _ _ _)
   | (with_reducible exact ih5 _ _ _ _ _ _ _ _ _ _)
   | (with_reducible exact ih6 _ _ _ _ _ _ _ _ _ _ _)
   | (with_reducible exact impl_freeKnots.mono _ _ _)
   | (with_reducible exact LeO.refl _)
   | (with_reducible exact LeO.none _)
   | (with_reducible refine LeO.ite ?_ ?_)
   | (with_reducible refine LeO.bind ?_ (fun _ => ?_))
   | exact ih0 _ _ _
   | exact ih1 _ _ _ _ _
   | exact ih2 _ _ _ _ _ _ _ _ _ _
   | exact ih3 _ _ _ _ _ _ _ _ _ _ _
   | exact ih4 _ _ _ _ _
   | exact ih5 _ _ _ _ _ _ _ _ _ _
   | exact ih6 _ _ _ _ _ _ _ _ _ _ _
   | exact impl_freeKnots.mono _ _ _
   | exact LeO.none _
   | refine LeO.ite ?_ ?_
   | refine LeO.bind ?_ (fun _ => ?_)
  ·intro y0 y1 y2 y3 y4
   unfold impl_ValidFrame.l0
   repeat' first
   | (with_reducible exact ih0 _ _ _)
   | (with_reducible exact ih1 _ _ _ _ _)
   | (with_reducible exact ih2 _ _ _ _ _ _ _ _ _ _)
   | (with_reducible exact ih3 _ _ _ _ _ _ _ _ _ _ _)
   | (with_reducible exact ih4 _ _ _ _ _)
   | (with_reducible exact ih5 _ _ _ _ _ _ _ _ _ _)
   | (with_reducible exact ih6 _ _ _ _ _ _ _ _ _ _ _)
   | (with_reducible exact impl_freeKnots.mono _ _ _)
   | (with_reducible exact LeO.refl _)
   | (with_reducible exact LeO.none _)
   | (with_reducible refine LeO.ite ?_ ?_)
   | (with_reducible refine LeO.bind ?_ (fun _ => ?_))
   | exact ih0 _ _ _
   | exact ih1 _ _ _ _ _
   | exact ih2 _ _ _ _ _ _ _ _ _ _
   | exact ih3 _ _ _ _ _ _ _ _ _ _ _
   | exact ih4 _ _ _ _ _
   | exact ih5 _ _ _ _ _ _ _ _ _ _
   | exact ih6 _ _ _ _ _ _ _ _ _ _ _
   | exact impl_freeKnots.mono _ _ _
   | exact LeO.none _
   | refine LeO.ite ?_ ?_
   | refine LeO.bind ?_ (fun _ => ?_)
  ·intro y0 y1 y2 y3 y4 y5 y6 y7 y8 y9
   unfold impl_ValidFrame.j2
   repeat' first
   | (with_reducible exact ih0 _ _ _)
   | (with_reducible exact ih1 _ _ _ _ _)
   | (with_reducible exact ih2 _ _ _ _ _ _ _ _ _ _)
   | (with_reducible exact ih3 _ _ _ _ _ _ _ _ _ _ _)
   | (with_reducible exact ih4 _ _ _ _ _)
   | (with_reducible exact ih5 _ _ _ _ _ _ _ _ _ _)
   | (with_reducible exact ih6 _ _ _ _ _ _ _ _ _ _ _)
   | (with_reducible exact impl_freeKnots.mono _ _ _)
   | (with_reducible exact LeO.refl _)
   | (with_reducible exact LeO.none _)
   | (with_reducible refine LeO.ite ?_ ?_)
   | (with_reducible refine LeO.bind ?_ (fun _ => ?_))
   | exact ih0 _ _ _
   | exact ih1 _ _ _ _ _
   | exact ih2 _ _ _ _ _ _ _ _ _ _
   | exact ih3 _ _ _ _ _ _ _ _ _ _ _
   | exact ih4 _ _ _ _ _
   | exact ih5 _ _ _ _ _ _ _ _ _ _
   | exact ih6 _ _ _ _ _ _ _ _ _ _ _
   | exact impl_freeKnots.mono _ _ _
   | exact LeO.none _
   | refine LeO.ite ?_ ?_
   | refine LeO.bind ?_ (fun _ => ?_)
  ·intro y0 y1 y2 y3 y4 y5 y6 y7 y8 y9 y10
   unfold impl_ValidFrame.l1
   repeat' first
   | (with_reducible exact ih0 _ _ _)
   | (with_reducible exact ih1 _ _ _ _ _)
   | (with_reducible exact ih2 _ _ _ _ _ _ _ _ _ _)
   | (with_reducible exact ih3 _ _ _ _ _ _ _ _ _ _ _)
   | (with_reducible exact ih4 _ _ _ _ _)
   | (with_reducible exact ih5 _ _ _ _ _ _ _ _ _ _)
   | (with_reducible exact ih6 _ _ _ _ _ _ _ _ _ _ _)
   | (with_reducible exact impl_freeKnots.mono _ _ _)
   | (with_reducible exact LeO.refl _)
   | (with_reducible exact LeO.none _)
   | (with_reducible refine LeO.ite ?_ ?_)
   | (with_reducible refine LeO.bind ?_ (fun _ => ?_))
   | exact ih0 _ _ _
   | exact ih1 _ _ _ _ _
   | exact ih2 _ _ _ _ _ _ _ _ _ _
   | exact ih3 _ _ _ _ _ _ _ _ _ _ _
   | exact ih4 _ _ _ _ _
   | exact ih5 _ _ _ _ _ _ _ _ _ _
   | exact ih6 _ _ _ _ _ _ _ _ _ _ _
   | exact impl_freeKnots.mono _ _ _
   | exact LeO.none _
   | refine LeO.ite ?_ ?_
   | refine LeO.bind ?_ (fun _ => ?_)
  ·intro y0 y1 y2 y3 y4
   unfold impl_ValidFrame.l2
   repeat' first
   | (with_reducible exact ih0 _ _ _)
   | (with_reducible exact ih1 _ _ _ _ _)
   | (with_reducible exact ih2 _ _ _ _ _ _ _ _ _ _)
   | (with_reducible exact ih3 _ _ _ _ _ _ _ _ _ _ _)
   | (with_reducible exact ih4 _ _ _ _ _)
   | (with_reducible exact ih5 _ _ _ _ _ _ _ _ _ _)
   | (with_reducible exact ih6 _ _ _ _ _ _ _ _ _ _ _)
   | (with_reducible exact impl_freeKnots.mono _ _ _)
   | (with_reducible exact LeO.refl _)
   | (with_reducible exact LeO.none _)
   | (with_reducible refine LeO.ite ?_ ?_)
   | (with_reducible refine LeO.bind ?_ (fun _ => ?_))
   | exact ih0 _ _ _
   | exact ih1 _ _ _ _ _
   | exact ih2 _ _ _ _ _ _ _ _ _ _
   | exact ih3 _ _ _ _ _ _ _ _ _ _ _
   | exact ih4 _ _ _ _ _
   | exact ih5 _ _ _ _ _ _ _ _ _ _
   | exact ih6 _ _ _ _ _ _ _ _ _ _ _
   | exact impl_freeKnots.mono _ _ _
   | exact LeO.none _
   | refine LeO.ite ?_ ?_
   | refine LeO.bind ?_ (fun _ => ?_)
  ·intro y0 y1 y2 y3 y4 y5 y6 y7 y8 y9
   unfold impl_ValidFrame.j5
   repeat' first
   | (with_reducible exact ih0 _ _ _)
   | (with_reducible exact ih1 _ _ _ _ _)
   | (with_reducible exact ih2 _ _ _ _ _ _ _ _ _ _)
   | (with_reducible exact ih3 _ _ _ _ _ _ _ _ _ _ _)
   | (with_reducible exact ih4 _ _ _ _ _)
   | (with_reducible exact ih5 _ _ _ _ _ _ _ _ _ _)
   | (with_reducible exact ih6 _ _ _ _ _ _ _ _ _ _ _)
   | (with_reducible exact impl_freeKnots.mono _ _ _)
   | (with_reducible exact LeO.refl _)
   | (with_reducible exact LeO.none _)
   | (with_reducible refine LeO.ite ?_ ?_)
   | (with_reducible refine LeO.bind ?_ (fun _ => ?_))
   | exact ih0 _ _ _
   | exact ih1 _ _ _ _ _
   | exact ih2 _ _ _ _ _ _ _ _ _ _
   | exact ih3 _ _ _ _ _ _ _ _ _ _ _
   | exact ih4 _ _ _ _ _
   | exact ih5 _ _ _ _ _ _ _ _ _ _
   | exact ih6 _ _ _ _ _ _ _ _ _ _ _
   | exact impl_freeKnots.mono _ _ _
   | exact LeO.none _
   | refine LeO.ite ?_ ?_
   | refine LeO.bind ?_ (fun _ => ?_)
  ·intro y0 y1 y2 y3 y4 y5 y6 y7 y8 y9 y10
   unfold impl_ValidFrame.l3
   repeat' first
   | (with_reducible exact ih0 _ _ _)
   | (with_reducible exact ih1 _ _ _ _ _)
   | (with_reducible exact ih2 _ _ _ _ _ _ _ _ _ _)
   | (with_reducible exact ih3 _ _ _ _ _ _ _ _ _ _ _)
   | (with_reducible exact ih4 _ _ _ _ _)
   | (with_reducible exact ih5 _ _ _ _ _ _ _ _ _ _)
   | (with_reducible exact ih6 _ _ _ _ _ _ _ _ _ _ _)
   | (with_reducible exact impl_freeKnots.mono _ _ _)
   | (with_reducible exact LeO.refl _)
   | (with_reducible exact LeO.none _)
   | (with_reducible refine LeO.ite ?_ ?_)
   | (with_reducible refine LeO.bind ?_ (fun _ => ?_))
   | exact ih0 _ _ _
   | exact ih1 _ _ _ _ _
   | exact ih2 _ _ _ _ _ _ _ _ _ _
   | exact ih3 _ _ _ _ _ _ _ _ _ _ _
   | exact ih4 _ _ _ _ _
   | exact ih5 _ _ _ _ _ _ _ _ _ _
   | exact ih6 _ _ _ _ _ _ _ _ _ _ _
   | exact impl_freeKnots.mono _ _ _
   | exact LeO.none _
   | refine LeO.ite ?_ ?_
   | refine LeO.bind ?_ (fun _ => ?_)
theorem impl_ValidFrame.mono : ∀ a0 a1 k, LeO (impl_ValidFrame.f k a0 a1) (impl_ValidFrame.f (k + 1) a0 a1) := by
 intro a0 a1 k
 obtain ⟨ih0, ih1, ih2, ih3, ih4, ih5, ih6⟩ := impl_ValidFrame.mono_l k
 unfold impl_ValidFrame.f
 repeat' first
   | (with_reducible exact ih0 _ _ _)
   | (with_reducible exact ih1 _ _ _ _ _)
   | (with_reducible exact ih2 _ _ _ _ _ _ _ _ _ _)
   | (with_reducible exact ih3 _ _ _ _ _ _ _ _ _ _ _)
   | (with_reducible exact ih4 _ _ _ _ _)
   | (with_reducible exact ih5 _ _ _ _ _ _ _ _ _ _)
   | (with_reducible exact ih6 _ _ _ _ _ _ _ _ _ _ _)
   | (with_reducible exact impl_freeKnots.mono _ _ _)
   | (with_reducible exact LeO.refl _)
   | (with_reducible exact LeO.none _)
   | (with_reducible refine LeO.ite ?_ ?_)
   | (with_reducible refine LeO.bind ?_ (fun _ => ?_))
   | exact ih0 _ _ _
   | exact ih1 _ _ _ _ _
   | exact ih2 _ _ _ _ _ _ _ _ _ _
   | exact ih3 _ _ _ _ _ _ _ _ _ _ _
   | exact ih4 _ _ _ _ _
   | exact ih5 _ _ _ _ _ _ _ _ _ _
   | exact ih6 _ _ _ _ _ _ _ _ _ _ _
   | exact impl_freeKnots.mono _ _ _
   | exact LeO.none _
   | refine LeO.ite ?_ ?_
   | refine LeO.bind ?_ (fun _ => ?_)
set_option maxHeartbeats 8000000 in
set_option maxRecDepth 100000 in
theorem impl_ValidFrame.calls (k : Nat) (A0_0 : Option Addr) (c0_0 : Nat) (l0_0 : List (S82)) (A0_1 : Option Addr) (c0_1 : Nat) (l0_1 : List (S84)) (r : Bool) (w : World) (hr0_0 : Kd.C k82 w A0_0 l0_0.length l0_0) (hc0_0 : l0_0.length ≤ c0_0) (hr0_1 : Kd.C k84 w A0_1 l0_1.length l0_1) (hc0_1 : l0_1.length ≤ c0_1) (h : impl_ValidFrame.f k l0_0 l0_1 = some r) :
  Calls Try.prog 25 #[.agg #[.slice A0_0 l0_0.length c0_0, .slice A0_1 l0_1.length c0_1]] w fun e w' => e = .returned (.bool r) ∧ Below w.heap.size w w' := by
 have hu39 := Try.underlying39; have hu82 := Try.underlying82; have hu84 := Try.underlying84; have HR0_0 := A' hr0_0; have HC0_0 := A' hc0_0; clear hr0_0 hc0_0; have HR0_1 := A' hr0_1; have HC0_1 := A' hc0_1; clear hr0_1 hc0_1; have HB := A' (Below.refl w.heap.size w); have H : (if (l0_0.length : Int) > 8 then (impl_ValidFrame.j0 k true l0_0 l0_1) else (if (l0_1.length : Int) > 8 then (impl_ValidFrame.j0 k true l0_0 l0_1) else ((impl_freeKnots.f k l0_0 l0_1).bind fun t235 => (impl_ValidFrame.j0 k (decide ((t235.length : Int) > 3)) l0_0 l0_1)))) = some r := h; clear h; have HC2 := A' H; clear H; go_enter Try.func25, Try.ntmps25; go_upto_region 1 with (first | ((with_reducible refine gate_dst (N := 1) rfl ?_); (try (refine gate_guard (by rfl) ?_; dsimp only)); refine box_event ?hg (N := 1) ?hd (cs := #[.slice A0_0 l0_0.length c0_0, .slice A0_1 l0_1.length c0_1]) (t := 39) ?hr ?_; (case hd => rfl); (case hg => rfl); (case hr => first | (go_simp; done) | (go_simp; rfl)); intro gb234 hg w3 hbox hb; have n0_ := A' (W' (qK0 HB.out) hb); have n1_ := A' (hbox); have n2_ := A' ((by rw [hg]; exact (V' (qK0 HB.out)) : w.heap.size ≤ gb234)); have n3_ := A' ((by rw [hg]; exact (V' (qK0 HB.out)) : w.heap.size ≤ gb234)); clear HB; have HB := n0_; have BK234 := n1_; have GW234 := n2_; have GE234 := n3_; clear n0_ n1_ n2_ n3_; clear hb hbox hg))
 (try simp only [Act.put, List.setIfInBounds_toArray, List.set_cons_zero, List.set_cons_succ])
 go_cut [26] (fun v26 wc => ∃ (kq : Nat) (x26_1 : Bool), v26 = .bool x26_1 ∧ Aside0 (impl_ValidFrame.j0 kq x26_1 l0_0 l0_1 = some r) ∧ Aside0 (kq ≤ k) ∧ Aside0 (wc.heap[gb234]? = some (.cells #[(.slice A0_0 l0_0.length c0_0), (.slice A0_1 l0_1.length c0_1)] 39 (0, 0))) ∧ Aside0 (Below w.heap.size w wc))
 case first =>
  have H := HC2.out; clear HC2
  by_cases c4 : (l0_0.length : Int) > 8
  ·rw [if_pos c4] at H; have c4b0 : decide (8 < (l0_0.length : Int)) = true := dT' c4; have c4b1 : decide (8 < l0_0.length) = true := dT' (by omega); clear c4; (first | rw [c4b0] | (simp only [i64_w, i32_w]; rw [c4b0]) | skip); have H' := A' H; clear H; have hcz5_0 : w3.cell? ⟨gb234, 0, none⟩ = some (.slice A0_0 l0_0.length c0_0) := (N' BK234.out 0).trans rfl; have hcz5_1 : w3.cell? ⟨gb234, 1, none⟩ = some (.slice A0_1 l0_1.length c0_1) := (N' BK234.out 1).trans rfl; have hfz5_0 := Y' BK234.out 0; have hfz5_1 := Y' BK234.out 1; go_wp2
   go_meet
   case rel => exact ⟨_, (true), qS, H', ⟨by first | omega | exact Nat.le_refl _⟩, ⟨qB BK234.out⟩, ⟨qK1 HB.out GE234.out⟩⟩
  ·rw [if_neg c4] at H; have c4b0 : decide (8 < (l0_0.length : Int)) = false := dF' c4; have c4b1 : decide (8 < l0_0.length) = false := dF' (by omega); clear c4; (first | rw [c4b0] | (simp only [i64_w, i32_w]; rw [c4b0]) | skip)
   by_cases c6 : (l0_1.length : Int) > 8
   ·rw [if_pos c6] at H; have c6b0 : decide (8 < (l0_1.length : Int)) = true := dT' c6; have c6b1 : decide (8 < l0_1.length) = true := dT' (by omega); clear c6; have H' := A' H; clear H; have hcz7_0 : w3.cell? ⟨gb234, 0, none⟩ = some (.slice A0_0 l0_0.length c0_0) := (N' BK234.out 0).trans rfl; have hcz7_1 : w3.cell? ⟨gb234, 1, none⟩ = some (.slice A0_1 l0_1.length c0_1) := (N' BK234.out 1).trans rfl; have hfz7_0 := Y' BK234.out 0; have hfz7_1 := Y' BK234.out 1; go_wp2
    go_meet
    case rel => exact ⟨_, (true), qS, H', ⟨by first | omega | exact Nat.le_refl _⟩, ⟨qB BK234.out⟩, ⟨qK1 HB.out GE234.out⟩⟩
   ·rw [if_neg c6] at H; have c6b0 : decide (8 < (l0_1.length : Int)) = false := dF' c6; have c6b1 : decide (8 < l0_1.length) = false := dF' (by omega); clear c6; replace H := Option.bind_eq_some_iff.mp H; obtain ⟨t235, A80, H⟩ := H; replace H : (impl_ValidFrame.j0 k (decide ((t235.length : Int) > 3)) l0_0 l0_1) = some r := H; have A8 := A' A80; clear A80; have H' := A' H; clear H; have hcz9_0 : w3.cell? ⟨gb234, 0, none⟩ = some (.slice A0_0 l0_0.length c0_0) := (N' BK234.out 0).trans rfl; have hcz9_1 : w3.cell? ⟨gb234, 1, none⟩ = some (.slice A0_1 l0_1.length c0_1) := (N' BK234.out 1).trans rfl; have hfz9_0 := Y' BK234.out 0; have hfz9_1 := Y' BK234.out 1; go_wp2_with (first | (go_at_call 67; (with_reducible refine (impl_freeKnots.calls k _ _ l0_0 _ _ l0_1 t235 _ ?side1 ?side2 ?side3 ?side4 A8.out).mono ?_); (case side1 => exact qT (X' HR0_0.out HB.out)); (case side2 => exact HC0_0.out); (case side3 => exact qT (X' HR0_1.out HB.out)); (case side4 => exact HC0_1.out); rintro e w10 ⟨v236, rfl, ho0, hb⟩; have n0_ := A' (Kd.R_lower ho0 (V' (qK1 HB.out GE234.out))); have n1_ := A' (O' (g := gb234) (qB BK234.out) hb); have n2_ := A' (W' (qK1 HB.out GE234.out) hb); clear BK234; clear HB; have HO237 := n0_; have BK234 := n1_; have HB := n2_; clear n0_ n1_ n2_; (try clear hb); (try clear hb2); (try clear hk); (try clear hi); (try clear ho0); obtain ⟨Ao11, co11, eo11⟩ := Kd.R_slice HO237.out; subst eo11))
    go_meet
    case rel => exact ⟨_, (decide ((t235.length : Int) > 3)), qS, H', ⟨by first | omega | exact Nat.le_refl _⟩, ⟨qB BK234.out⟩, ⟨qK1 HB.out GE234.out⟩⟩
 case rest =>
  clear HC2; try clear c2
  try clear p2
  try clear c4
  try clear c4b0
  try clear c4b1
  try clear c6
  try clear c6b0
  try clear c6b1
  try clear hcz5_0
  try clear hcz5_1
  try clear hcz7_0
  try clear hcz7_1
  try clear hcz9_0
  try clear hcz9_1
  try clear hfz5_0
  try clear hfz5_1
  try clear hfz7_0
  try clear hfz7_1
  try clear hfz9_0
  try clear hfz9_1
  obtain ⟨kq, x26_1, rfl, HA, HJ1, BK234, HB⟩ := hcut
  cases kq with
  | zero => exact absurd HA.out (by simp [impl_ValidFrame.j0])
  | succ kj1 =>
   have H := HA.out; clear HA; simp only [impl_ValidFrame.j0] at H
   by_cases c12 : x26_1 = true
   ·subst c12; have H1 : (some false) = some r := by rw [if_pos rfl] at H; exact H
    clear H; have H := H1; clear H1; obtain rfl := Option.some.inj H; go_wp2; go_ret; exact ⟨qE, qK1 HB.out GE234.out⟩
   ·replace c12 := Bool.eq_false_iff.mpr c12; subst c12; have H1 : (impl_ValidFrame.l0 kj1 l0_0 (l0_0.length : Int) 0 l0_0 l0_1) = some r := by rw [if_neg (show ¬ (false = true) by decide)] at H; exact H
    clear H; have H := H1; clear H1; have H' := A' H; clear H; have hcz13_0 : wc.cell? ⟨gb234, 0, none⟩ = some (.slice A0_0 l0_0.length c0_0) := (N' BK234.out 0).trans rfl; have hcz13_1 : wc.cell? ⟨gb234, 1, none⟩ = some (.slice A0_1 l0_1.length c0_1) := (N' BK234.out 1).trans rfl; have hfz13_0 := Y' BK234.out 0; have hfz13_1 := Y' BK234.out 1; go_wp2
    go_loopg [30] kj1 (fun kq v30 w' => ∃ (x30_2 : Int), v30 = .int .i64 x30_2 ∧ Aside0 (impl_ValidFrame.l0 kq l0_0 (l0_0.length : Int) x30_2 l0_0 l0_1 = some r) ∧ Aside0 (kq ≤ kj1) ∧ Aside0 (w'.heap[gb234]? = some (.cells #[(.slice A0_0 l0_0.length c0_0), (.slice A0_1 l0_1.length c0_1)] 39 (0, 0))) ∧ Aside0 (Below w.heap.size w w'))
    case atStart => exact ⟨(0), qS, H', ⟨Nat.le_refl _⟩, ⟨qB BK234.out⟩, ⟨qK1 HB.out GE234.out⟩⟩
    case round =>
     clear H'; try clear c1
     try clear c2
     try clear p2
     try clear c4
     try clear c4b0
     try clear c4b1
     try clear c6
     try clear c6b0
     try clear c6b1
     try clear c12
     try clear hcz13_0
     try clear hcz13_1
     try clear hcz5_0
     try clear hcz5_1
     try clear hcz7_0
     try clear hcz7_1
     try clear hcz9_0
     try clear hcz9_1
     try clear hfz13_0
     try clear hfz13_1
     try clear hfz5_0
     try clear hfz5_1
     try clear hfz7_0
     try clear hfz7_1
     try clear hfz9_0
     try clear hfz9_1
     try clear p2
     obtain ⟨x30_2, rfl, HA, HK2, BK234, HB⟩ := hrel
     cases gk with
     | zero => exact absurd HA.out (by simp [impl_ValidFrame.l0])
     | succ k2 =>
      have H := HA.out; clear HA; simp only [impl_ValidFrame.l0] at H
      by_cases c14 : x30_2 < (l0_0.length : Int)
      ·rw [if_pos c14] at H; have c14b0 : decide (x30_2 < (l0_0.length : Int)) = true := dT' c14; clear c14
       by_cases c15 : 0 ≤ x30_2
       ·rw [if_pos c15] at H; have c15b0 : decide (0 ≤ x30_2) = true := dT' c15; clear c15
        by_cases c16 : x30_2 < (l0_0.length : Int)
        ·rw [if_pos c16] at H; have c16b0 : decide (x30_2 < (l0_0.length : Int)) = true := dT' c16; clear c16; have HC17 := A' H; clear H; have p238 : 0 ≤ (x30_2 : Int) := oD' qA; have q238 : x30_2 < (l0_0.length : Int) := oD' qA; obtain ⟨ad238, e238, hx238_0, hx238_1, hx238_2⟩ := at_T82 HR0_0.out x30_2 p238 q238
         cases e238
         try replace hx238_0 := qC HB.out hx238_0
         try replace hx238_1 := qC HB.out hx238_1
         try replace hx238_2 := qC HB.out hx238_2
         replace p238 := eq_true p238; replace q238 := eq_true q238; go_upto_region 6 with (first | ((with_reducible refine gate_dst (N := 4) rfl ?_); (try (refine gate_guard (by rfl) ?_; dsimp only)); refine box_event ?hg (N := 4) ?hd (cs := #[.int .i64 0, .int .i64 0, .bool false]) (t := 82) ?hr ?_; (case hd => rfl); (case hg => rfl); (case hr => first | (go_simp; done) | (go_simp; rfl)); intro gb239 hg w18 hbox hb; have n0_ := A' (O' (g := gb234) (qB BK234.out) hb); have n1_ := A' (W' (qK1 HB.out GE234.out) hb); have n2_ := A' (hbox); have n3_ := A' ((by rw [hg]; exact (V' (qK1 HB.out GE234.out)) : w.heap.size ≤ gb239)); have n4_ := A' ((by rw [hg]; exact (V' (qK1 HB.out GE234.out)) : w.heap.size ≤ gb239)); have n5_ := A' ((by rw [hg]; exact Nat.ne_of_lt (bL' (g := gb234) (qB BK234.out)) : gb234 ≠ gb239)); have n6_ := A' ((by rw [hg]; exact Nat.ne_of_gt (bL' (g := gb234) (qB BK234.out)) : gb239 ≠ gb234)); clear BK234; clear HB; have BK234 := n0_; have HB := n1_; have BK239 := n2_; have GW239 := n3_; have GE239 := n4_; have NB234_239 := n5_; have NB239_234 := n6_; clear n0_ n1_ n2_ n3_ n4_ n5_ n6_; clear hb hbox hg; have hnb19 := NB239_234.out; have hnc19 := NB234_239.out; have hcz20_0 : w18.cell? ⟨gb239, 0, none⟩ = some (.int .i64 0) := (N' BK239.out 0).trans rfl; have hcz20_1 : w18.cell? ⟨gb239, 1, none⟩ = some (.int .i64 0) := (N' BK239.out 1).trans rfl; have hcz20_2 : w18.cell? ⟨gb239, 2, none⟩ = some (.bool false) := (N' BK239.out 2).trans rfl; have hfz20_0 := Y' BK239.out 0; have hfz20_1 := Y' BK239.out 1; have hfz20_2 := Y' BK239.out 2))
         (try simp only [Act.put, List.setIfInBounds_toArray, List.set_cons_zero, List.set_cons_succ])
         go_cut [44] (fun v44 wc => ∃ (kq : Nat) (x44_16 : Bool), v44 = .bool x44_16 ∧ Aside0 (impl_ValidFrame.j2 kq x30_2 l0_0 (l0_0.length : Int) x30_2 x44_16 l0_0 l0_1 ((rd_T82 l0_0 x30_2).f0) ((rd_T82 l0_0 x30_2).f1) ((rd_T82 l0_0 x30_2).f2) = some r) ∧ Aside0 (kq ≤ k2) ∧ Aside0 (wc.heap[gb234]? = some (.cells #[(.slice (some ad238) l0_0.length c0_0), (.slice A0_1 l0_1.length c0_1)] 39 (0, 0))) ∧ Aside0 (wc.heap[gb239]? = some (.cells #[.int .i64 ((rd_T82 l0_0 x30_2).f0), .int .i64 ((rd_T82 l0_0 x30_2).f1), .bool ((rd_T82 l0_0 x30_2).f2)] 82 (0, 0))) ∧ Aside0 (Below w.heap.size w wc))
         case first =>
          have H := HC17.out; clear HC17; replace H := Option.bind_eq_some_iff.mp H; obtain ⟨t240, A210, H⟩ := H; replace H : (if t240 = true then ((impl_within.f ((rd_T82 l0_0 x30_2).f1) 0 12).bind fun t241 => (impl_ValidFrame.j2 k2 x30_2 l0_0 (l0_0.length : Int) x30_2 (!t241) l0_0 l0_1 ((rd_T82 l0_0 x30_2).f0) ((rd_T82 l0_0 x30_2).f1) ((rd_T82 l0_0 x30_2).f2))) else (impl_ValidFrame.j2 k2 x30_2 l0_0 (l0_0.length : Int) x30_2 true l0_0 l0_1 ((rd_T82 l0_0 x30_2).f0) ((rd_T82 l0_0 x30_2).f1) ((rd_T82 l0_0 x30_2).f2))) = some r := H; have A21 := A' A210; clear A210
          by_cases c22 : t240 = true
          ·subst c22; have H1 : ((impl_within.f ((rd_T82 l0_0 x30_2).f1) 0 12).bind fun t241 => (impl_ValidFrame.j2 k2 x30_2 l0_0 (l0_0.length : Int) x30_2 (!t241) l0_0 l0_1 ((rd_T82 l0_0 x30_2).f0) ((rd_T82 l0_0 x30_2).f1) ((rd_T82 l0_0 x30_2).f2))) = some r := by rw [if_pos rfl] at H; exact H
           clear H; have H := H1; clear H1; replace H := Option.bind_eq_some_iff.mp H; obtain ⟨t241, A230, H⟩ := H; replace H : (impl_ValidFrame.j2 k2 x30_2 l0_0 (l0_0.length : Int) x30_2 (!t241) l0_0 l0_1 ((rd_T82 l0_0 x30_2).f0) ((rd_T82 l0_0 x30_2).f1) ((rd_T82 l0_0 x30_2).f2)) = some r := H; have A23 := A' A230; clear A230; have H' := A' H; clear H; have hnb24 := NB239_234.out; have hnc24 := NB234_239.out; have hcz25_0 : w18.cell? ⟨gb239, 0, none⟩ = some (.int .i64 0) := (N' BK239.out 0).trans rfl; have hcz25_1 : w18.cell? ⟨gb239, 1, none⟩ = some (.int .i64 0) := (N' BK239.out 1).trans rfl; have hcz25_2 : w18.cell? ⟨gb239, 2, none⟩ = some (.bool false) := (N' BK239.out 2).trans rfl; have hfz25_0 := Y' BK239.out 0; have hfz25_1 := Y' BK239.out 1; have hfz25_2 := Y' BK239.out 2; go_wp2_with (first | ((with_reducible refine gate_callee (f := 68) rfl ?_); refine goesL_ (some 37) rfl rfl Try.func68 (by kernel_rfl) rfl #[.int .i64 ((rd_T82 l0_0 x30_2).f0), .int .i64 0, .int .i64 12] rfl (by (try simp only [List.map_toArray, List.map_cons, List.map_nil]); first | done | rfl | (simp only [List.length_drop, List.length_take]; rfl)) ?_; (with_reducible refine (impl_within.calls ((rd_T82 l0_0 x30_2).f0) 0 12 true _ A21.out).mono ?_); rintro e w' ⟨rfl, ⟨nd, rfl⟩⟩; refine ⟨_, rfl, ?_⟩) | (go_at_call 68; (with_reducible refine (impl_within.calls ((rd_T82 l0_0 x30_2).f1) 0 12 t241 _ A23.out).mono ?_); rintro e w' ⟨rfl, ⟨nd, rfl⟩⟩))
           go_meet
           case rel => exact ⟨_, (!t241), qS, H', ⟨by have := HJ1.out; have := HK2.out; first | omega | exact Nat.le_refl _⟩, ⟨qG3 BK234.out NB234_239.out NB234_239.out NB234_239.out⟩, ⟨by (with_reducible repeat (first | refine G' ?_ _ | refine I' ?_ | refine H' ?_ _)); refine blk_put (cs := #[.int .i64 ((rd_T82 l0_0 x30_2).f0), .int .i64 ((rd_T82 l0_0 x30_2).f1), .bool false]) ?_ 2 _ rfl; (with_reducible repeat (first | refine G' ?_ _ | refine I' ?_ | refine H' ?_ _)); refine blk_put (cs := #[.int .i64 ((rd_T82 l0_0 x30_2).f0), .int .i64 0, .bool false]) ?_ 1 _ rfl; (with_reducible repeat (first | refine G' ?_ _ | refine I' ?_ | refine H' ?_ _)); refine blk_put (cs := #[.int .i64 0, .int .i64 0, .bool false]) ?_ 0 _ rfl; (with_reducible repeat (first | refine G' ?_ _ | refine I' ?_ | refine H' ?_ _)); exact BK239.out⟩, ⟨qK2 HB.out GE234.out GE239.out⟩⟩
          ·replace c22 := Bool.eq_false_iff.mpr c22; subst c22; have H1 : (impl_ValidFrame.j2 k2 x30_2 l0_0 (l0_0.length : Int) x30_2 true l0_0 l0_1 ((rd_T82 l0_0 x30_2).f0) ((rd_T82 l0_0 x30_2).f1) ((rd_T82 l0_0 x30_2).f2)) = some r := by rw [if_neg (show ¬ (false = true) by decide)] at H; exact H
           clear H; have H := H1; clear H1; have H' := A' H; clear H; have hnb26 := NB239_234.out; have hnc26 := NB234_239.out; have hcz27_0 : w18.cell? ⟨gb239, 0, none⟩ = some (.int .i64 0) := (N' BK239.out 0).trans rfl; have hcz27_1 : w18.cell? ⟨gb239, 1, none⟩ = some (.int .i64 0) := (N' BK239.out 1).trans rfl; have hcz27_2 : w18.cell? ⟨gb239, 2, none⟩ = some (.bool false) := (N' BK239.out 2).trans rfl; have hfz27_0 := Y' BK239.out 0; have hfz27_1 := Y' BK239.out 1; have hfz27_2 := Y' BK239.out 2; go_wp2_with (first | ((with_reducible refine gate_callee (f := 68) rfl ?_); refine goesL_ (some 37) rfl rfl Try.func68 (by kernel_rfl) rfl #[.int .i64 ((rd_T82 l0_0 x30_2).f0), .int .i64 0, .int .i64 12] rfl (by (try simp only [List.map_toArray, List.map_cons, List.map_nil]); first | done | rfl | (simp only [List.length_drop, List.length_take]; rfl)) ?_; (with_reducible refine (impl_within.calls ((rd_T82 l0_0 x30_2).f0) 0 12 false _ A21.out).mono ?_); rintro e w' ⟨rfl, ⟨nd, rfl⟩⟩; refine ⟨_, rfl, ?_⟩))
           go_meet
           case rel => exact ⟨_, (true), qS, H', ⟨by have := HJ1.out; have := HK2.out; first | omega | exact Nat.le_refl _⟩, ⟨qG3 BK234.out NB234_239.out NB234_239.out NB234_239.out⟩, ⟨by (with_reducible repeat (first | refine G' ?_ _ | refine I' ?_ | refine H' ?_ _)); refine blk_put (cs := #[.int .i64 ((rd_T82 l0_0 x30_2).f0), .int .i64 ((rd_T82 l0_0 x30_2).f1), .bool false]) ?_ 2 _ rfl; (with_reducible repeat (first | refine G' ?_ _ | refine I' ?_ | refine H' ?_ _)); refine blk_put (cs := #[.int .i64 ((rd_T82 l0_0 x30_2).f0), .int .i64 0, .bool false]) ?_ 1 _ rfl; (with_reducible repeat (first | refine G' ?_ _ | refine I' ?_ | refine H' ?_ _)); refine blk_put (cs := #[.int .i64 0, .int .i64 0, .bool false]) ?_ 0 _ rfl; (with_reducible repeat (first | refine G' ?_ _ | refine I' ?_ | refine H' ?_ _)); exact BK239.out⟩, ⟨qK2 HB.out GE234.out GE239.out⟩⟩
         case rest =>
          clear HC17; try clear c1
          try clear c2
          try clear p2
          try clear q2
          try clear hx2
          try clear c4
          try clear c4b0
          try clear c4b1
          try clear c6
          try clear c6b0
          try clear c6b1
          try clear c12
          try clear c14
          try clear c14b0
          try clear c15
          try clear c15b0
          try clear c16
          try clear c16b0
          try clear c19
          try clear c22
          try clear p23
          try clear q23
          try clear hx23
          try clear c24
          try clear c25
          try clear c26
          try clear hcz13_0
          try clear hcz13_1
          try clear hcz20_0
          try clear hcz20_1
          try clear hcz20_2
          try clear hcz25_0
          try clear hcz25_1
          try clear hcz25_2
          try clear hcz27_0
          try clear hcz27_1
          try clear hcz27_2
          try clear hcz5_0
          try clear hcz5_1
          try clear hcz7_0
          try clear hcz7_1
          try clear hcz9_0
          try clear hcz9_1
          try clear hfz13_0
          try clear hfz13_1
          try clear hfz20_0
          try clear hfz20_1
          try clear hfz20_2
          try clear hfz25_0
          try clear hfz25_1
          try clear hfz25_2
          try clear hfz27_0
          try clear hfz27_1
          try clear hfz27_2
          try clear hfz5_0
          try clear hfz5_1
          try clear hfz7_0
          try clear hfz7_1
          try clear hfz9_0
          try clear hfz9_1
          try clear hx238_0
          try clear hx238_1
          try clear hx238_2
          try clear p2
          try clear p238
          try clear q238
          obtain ⟨kq, x44_16, rfl, HA, HJ16, BK234, BK239, HB⟩ := hcut
          cases kq with
          | zero => exact absurd HA.out (by simp [impl_ValidFrame.j2])
          | succ kj16 =>
           have H := HA.out; clear HA; simp only [impl_ValidFrame.j2] at H
           by_cases c28 : x44_16 = true
           ·subst c28; have H1 : (some false) = some r := by rw [if_pos rfl] at H; exact H
            clear H; have H := H1; clear H1; obtain rfl := Option.some.inj H; go_wp2; go_ret; exact ⟨qE, qK2 HB.out GE234.out GE239.out⟩
           ·replace c28 := Bool.eq_false_iff.mpr c28; subst c28; have H1 : (if 0 ≤ x30_2 then (if x30_2 ≤ (l0_0.length : Int) then ((some (l0_0.take (x30_2 : Int).toNat : List (S82))).bind fun y242 => (impl_ValidFrame.l1 kj16 l0_0 (l0_0.length : Int) x30_2 y242 (y242.length : Int) 0 l0_0 l0_1 ((rd_T82 l0_0 x30_2).f0) ((rd_T82 l0_0 x30_2).f1) ((rd_T82 l0_0 x30_2).f2))) else (none)) else (none)) = some r := by rw [if_neg (show ¬ (false = true) by decide)] at H; exact H
            clear H; have H := H1; clear H1
            by_cases c29 : 0 ≤ x30_2
            ·rw [if_pos c29] at H; have c29b0 := eq_true c29; have c29b1 : decide (0 ≤ x30_2) = true := dT' c29; clear c29
             by_cases c30 : x30_2 ≤ (l0_0.length : Int)
             ·rw [if_pos c30] at H; have c30b0 := eq_true c30; have c30b1 : decide (x30_2 ≤ (l0_0.length : Int)) = true := dT' c30; clear c30; obtain ⟨y242, hy242⟩ : ∃ y_ : List (S82), y_ = (l0_0.take (x30_2 : Int).toNat) := ⟨_, rfl⟩
              replace H : (impl_ValidFrame.l1 kj16 l0_0 (l0_0.length : Int) x30_2 y242 (y242.length : Int) 0 l0_0 l0_1 ((rd_T82 l0_0 x30_2).f0) ((rd_T82 l0_0 x30_2).f1) ((rd_T82 l0_0 x30_2).f2)) = some r := by first | (rw [hy242]; with_reducible exact H) | (have H2_ := (Option.bind_some _ _).symm.trans H; rw [hy242]; with_reducible exact H2_) | (have H2_ := (Option.bind_some _ _).symm.trans H; with_reducible exact H2_) | with_reducible exact H | (rw [hy242]; exact H) | exact H
              have Ny242 := A' hy242; clear hy242; have H' := A' H; clear H; have hnb31 := NB234_239.out; have hnc31 := NB239_234.out; have hcz32_0 : wc.cell? ⟨gb234, 0, none⟩ = some (.slice (some ad238) l0_0.length c0_0) := (N' BK234.out 0).trans rfl; have hcz32_1 : wc.cell? ⟨gb234, 1, none⟩ = some (.slice A0_1 l0_1.length c0_1) := (N' BK234.out 1).trans rfl; have hfz32_0 := Y' BK234.out 0; have hfz32_1 := Y' BK234.out 1; have q33 : (x30_2 : Int) ≤ ((l0_0.length : Int) : Int) := oD' qA; obtain ⟨i033, hi033, _, hsz33, _⟩ := info_parts info82; have hroom33 : l0_0.length ≤ c0_0 := HC0_0.out; have hC33 : Kd.C k82 _ (some ad238) l0_0.length l0_0 := HR0_0.out; have hcut33 := cut_to (P := Try.prog) 36 82 .i64 Try.underlying36 hi033 (some ad238) l0_0.length c0_0 x30_2 (oD' qA) q33 hroom33; have hr33 := Kd.C_take (m := (x30_2 : Int).toNat) hC33 (by omega); have hy33 : y242.length = (x30_2 : Int).toNat := (by rw [Ny242.out, List.length_take]; omega)
              rw [← Ny242.out] at hr33; rw [← hy33] at hcut33; have HR245 := A' hr33; have HC245 := A' (show y242.length ≤ c0_0 from by omega); clear hr33 hC33 hroom33 hi033 hsz33; have KY33 := A' hy33; clear hy33; replace q33 := eq_true q33; go_wp2
              go_loopg [50] kj16 (fun kq v50 w' => ∃ (x50_4 : Int), v50 = .int .i64 x50_4 ∧ Aside0 (impl_ValidFrame.l1 kq l0_0 (l0_0.length : Int) x30_2 y242 (y242.length : Int) x50_4 l0_0 l0_1 ((rd_T82 l0_0 x30_2).f0) ((rd_T82 l0_0 x30_2).f1) ((rd_T82 l0_0 x30_2).f2) = some r) ∧ Aside0 (kq ≤ kj16) ∧ Aside0 (w'.heap[gb234]? = some (.cells #[(.slice (some ad238) l0_0.length c0_0), (.slice A0_1 l0_1.length c0_1)] 39 (0, 0))) ∧ Aside0 (w'.heap[gb239]? = some (.cells #[.int .i64 ((rd_T82 l0_0 x30_2).f0), .int .i64 ((rd_T82 l0_0 x30_2).f1), .bool ((rd_T82 l0_0 x30_2).f2)] 82 (0, 0))) ∧ Aside0 (Below w.heap.size w w'))
              case atStart => exact ⟨(0), qS, H', ⟨Nat.le_refl _⟩, ⟨qB BK234.out⟩, ⟨qB BK239.out⟩, ⟨qK2 HB.out GE234.out GE239.out⟩⟩
              case round =>
               clear H'; try clear c1
               try clear c2
               try clear p2
               try clear q2
               try clear hx2
               try clear c3
               try clear q3
               try clear c4
               try clear c4b0
               try clear c4b1
               try clear c6
               try clear c6b0
               try clear c6b1
               try clear c12
               try clear c14
               try clear c14b0
               try clear c15
               try clear c15b0
               try clear c16
               try clear c16b0
               try clear c19
               try clear c22
               try clear p23
               try clear q23
               try clear hx23
               try clear c24
               try clear c25
               try clear c26
               try clear c28
               try clear c29
               try clear c29b0
               try clear c29b1
               try clear c30
               try clear c30b0
               try clear c30b1
               try clear c31
               try clear q33
               try clear hcz13_0
               try clear hcz13_1
               try clear hcz20_0
               try clear hcz20_1
               try clear hcz20_2
               try clear hcz25_0
               try clear hcz25_1
               try clear hcz25_2
               try clear hcz27_0
               try clear hcz27_1
               try clear hcz27_2
               try clear hcz32_0
               try clear hcz32_1
               try clear hcz5_0
               try clear hcz5_1
               try clear hcz7_0
               try clear hcz7_1
               try clear hcz9_0
               try clear hcz9_1
               try clear hfz13_0
               try clear hfz13_1
               try clear hfz20_0
               try clear hfz20_1
               try clear hfz20_2
               try clear hfz25_0
               try clear hfz25_1
               try clear hfz25_2
               try clear hfz27_0
               try clear hfz27_1
               try clear hfz27_2
               try clear hfz32_0
               try clear hfz32_1
               try clear hfz5_0
               try clear hfz5_1
               try clear hfz7_0
               try clear hfz7_1
               try clear hfz9_0
               try clear hfz9_1
               try clear hx238_0
               try clear hx238_1
               try clear hx238_2
               try clear p2
               try clear p23
               try clear p238
               try clear q2
               try clear q23
               try clear q238
               try clear q33
               obtain ⟨x50_4, rfl, HA, HK4, BK234, BK239, HB⟩ := hrel
               cases gk with
               | zero => exact absurd HA.out (by simp [impl_ValidFrame.l1])
               | succ k4 =>
                have H := HA.out; clear HA; simp only [impl_ValidFrame.l1] at H
                by_cases c34 : x50_4 < (y242.length : Int)
                ·rw [if_pos c34] at H; have c34b0 : decide (x50_4 < (y242.length : Int)) = true := dT' c34; clear c34
                 by_cases c35 : 0 ≤ x50_4
                 ·rw [if_pos c35] at H; have c35b0 : decide (0 ≤ x50_4) = true := dT' c35; clear c35
                  by_cases c36 : x50_4 < (y242.length : Int)
                  ·rw [if_pos c36] at H; have c36b0 : decide (x50_4 < (y242.length : Int)) = true := dT' c36; clear c36
                   by_cases c37 : ((rd_T82 y242 x50_4).f0) = ((rd_T82 l0_0 x30_2).f0)
                   ·rw [if_pos c37] at H; have c37b0 : (((rd_T82 y242 x50_4).f0) == ((rd_T82 l0_0 x30_2).f0)) = true := beq_iff_eq.mpr c37; have c37b1 : (((rd_T82 y242 x50_4).f0) != ((rd_T82 l0_0 x30_2).f0)) = false := bne_eq_false_iff_eq.mpr c37; clear c37
                    by_cases c38 : ((rd_T82 y242 x50_4).f1) = ((rd_T82 l0_0 x30_2).f1)
                    ·rw [if_pos c38] at H; have c38b0 : (((rd_T82 y242 x50_4).f1) == ((rd_T82 l0_0 x30_2).f1)) = true := beq_iff_eq.mpr c38; have c38b1 : (((rd_T82 y242 x50_4).f1) != ((rd_T82 l0_0 x30_2).f1)) = false := bne_eq_false_iff_eq.mpr c38; clear c38; obtain rfl := Option.some.inj H; have p246 : 0 ≤ (x50_4 : Int) := oD' qA; have q246 : x50_4 < (y242.length : Int) := oD' qA; obtain ⟨ad246, e246, hx246_0, hx246_1, hx246_2⟩ := at_T82 HR245.out x50_4 p246 q246; obtain rfl : ad238 = ad246 := (by injection e246)
                     try replace hx246_0 := qC HB.out hx246_0
                     try replace hx246_1 := qC HB.out hx246_1
                     try replace hx246_2 := qC HB.out hx246_2
                     replace p246 := eq_true p246; replace q246 := eq_true q246; go_wp2_with (first | ((with_reducible refine gate_dst (N := 6) rfl ?_); (try (refine gate_guard (by rfl) ?_; dsimp only)); refine box_event ?hg (N := 6) ?hd (cs := #[.int .i64 0, .int .i64 0, .bool false]) (t := 82) ?hr ?_; (case hd => rfl); (case hg => rfl); (case hr => first | (go_simp; done) | (go_simp; rfl)); intro gb247 hg w39 hbox hb; have n0_ := A' (O' (g := gb234) (qB BK234.out) hb); have n1_ := A' (O' (g := gb239) (qB BK239.out) hb); have n2_ := A' (W' (qK2 HB.out GE234.out GE239.out) hb); have n3_ := A' (hbox); have n4_ := A' ((by rw [hg]; exact (V' (qK2 HB.out GE234.out GE239.out)) : w.heap.size ≤ gb247)); have n5_ := A' ((by rw [hg]; exact (V' (qK2 HB.out GE234.out GE239.out)) : w.heap.size ≤ gb247)); have n6_ := A' ((by rw [hg]; exact Nat.ne_of_lt (bL' (g := gb234) (qB BK234.out)) : gb234 ≠ gb247)); have n7_ := A' ((by rw [hg]; exact Nat.ne_of_gt (bL' (g := gb234) (qB BK234.out)) : gb247 ≠ gb234)); have n8_ := A' ((by rw [hg]; exact Nat.ne_of_lt (bL' (g := gb239) (qB BK239.out)) : gb239 ≠ gb247)); have n9_ := A' ((by rw [hg]; exact Nat.ne_of_gt (bL' (g := gb239) (qB BK239.out)) : gb247 ≠ gb239)); clear BK234; clear BK239; clear HB; have BK234 := n0_; have BK239 := n1_; have HB := n2_; have BK247 := n3_; have GW247 := n4_; have GE247 := n5_; have NB234_247 := n6_; have NB247_234 := n7_; have NB239_247 := n8_; have NB247_239 := n9_; clear n0_ n1_ n2_ n3_ n4_ n5_ n6_ n7_ n8_ n9_; clear hb hbox hg; have hnb40 := NB247_234.out; have hnc40 := NB234_247.out; have hnb41 := NB247_239.out; have hnc41 := NB239_247.out; have hcz42_0 : w39.cell? ⟨gb247, 0, none⟩ = some (.int .i64 0) := (N' BK247.out 0).trans rfl; have hcz42_1 : w39.cell? ⟨gb247, 1, none⟩ = some (.int .i64 0) := (N' BK247.out 1).trans rfl; have hcz42_2 : w39.cell? ⟨gb247, 2, none⟩ = some (.bool false) := (N' BK247.out 2).trans rfl; have hfz42_0 := Y' BK247.out 0; have hfz42_1 := Y' BK247.out 1; have hfz42_2 := Y' BK247.out 2; have hnb43 := NB239_234.out; have hnc43 := NB234_239.out; have hcz44_0 : w39.cell? ⟨gb239, 0, none⟩ = some (.int .i64 ((rd_T82 l0_0 x30_2).f0)) := (N' BK239.out 0).trans rfl; have hcz44_1 : w39.cell? ⟨gb239, 1, none⟩ = some (.int .i64 ((rd_T82 l0_0 x30_2).f1)) := (N' BK239.out 1).trans rfl; have hcz44_2 : w39.cell? ⟨gb239, 2, none⟩ = some (.bool ((rd_T82 l0_0 x30_2).f2)) := (N' BK239.out 2).trans rfl; have hfz44_0 := Y' BK239.out 0; have hfz44_1 := Y' BK239.out 1; have hfz44_2 := Y' BK239.out 2)); go_ret; exact ⟨qE, qK3 HB.out GE234.out GE239.out GE247.out⟩
                    ·rw [if_neg c38] at H; have c38b0 : (((rd_T82 y242 x50_4).f1) == ((rd_T82 l0_0 x30_2).f1)) = false := beq_eq_false_iff_ne.mpr c38; have c38b1 : (((rd_T82 y242 x50_4).f1) != ((rd_T82 l0_0 x30_2).f1)) = true := bne_iff_ne.mpr c38; have H' := A' H; clear H; have p246 : 0 ≤ (x50_4 : Int) := oD' qA; have q246 : x50_4 < (y242.length : Int) := oD' qA; obtain ⟨ad246, e246, hx246_0, hx246_1, hx246_2⟩ := at_T82 HR245.out x50_4 p246 q246; obtain rfl : ad238 = ad246 := (by injection e246)
                     try replace hx246_0 := qC HB.out hx246_0
                     try replace hx246_1 := qC HB.out hx246_1
                     try replace hx246_2 := qC HB.out hx246_2
                     replace p246 := eq_true p246; replace q246 := eq_true q246; go_wp2_with (first | ((with_reducible refine gate_dst (N := 6) rfl ?_); (try (refine gate_guard (by rfl) ?_; dsimp only)); refine box_event ?hg (N := 6) ?hd (cs := #[.int .i64 0, .int .i64 0, .bool false]) (t := 82) ?hr ?_; (case hd => rfl); (case hg => rfl); (case hr => first | (go_simp; done) | (go_simp; rfl)); intro gb247 hg w45 hbox hb; have n0_ := A' (O' (g := gb234) (qB BK234.out) hb); have n1_ := A' (O' (g := gb239) (qB BK239.out) hb); have n2_ := A' (W' (qK2 HB.out GE234.out GE239.out) hb); have n3_ := A' (hbox); have n4_ := A' ((by rw [hg]; exact (V' (qK2 HB.out GE234.out GE239.out)) : w.heap.size ≤ gb247)); have n5_ := A' ((by rw [hg]; exact (V' (qK2 HB.out GE234.out GE239.out)) : w.heap.size ≤ gb247)); have n6_ := A' ((by rw [hg]; exact Nat.ne_of_lt (bL' (g := gb234) (qB BK234.out)) : gb234 ≠ gb247)); have n7_ := A' ((by rw [hg]; exact Nat.ne_of_gt (bL' (g := gb234) (qB BK234.out)) : gb247 ≠ gb234)); have n8_ := A' ((by rw [hg]; exact Nat.ne_of_lt (bL' (g := gb239) (qB BK239.out)) : gb239 ≠ gb247)); have n9_ := A' ((by rw [hg]; exact Nat.ne_of_gt (bL' (g := gb239) (qB BK239.out)) : gb247 ≠ gb239)); clear BK234; clear BK239; clear HB; have BK234 := n0_; have BK239 := n1_; have HB := n2_; have BK247 := n3_; have GW247 := n4_; have GE247 := n5_; have NB234_247 := n6_; have NB247_234 := n7_; have NB239_247 := n8_; have NB247_239 := n9_; clear n0_ n1_ n2_ n3_ n4_ n5_ n6_ n7_ n8_ n9_; clear hb hbox hg; have hnb46 := NB247_234.out; have hnc46 := NB234_247.out; have hnb47 := NB247_239.out; have hnc47 := NB239_247.out; have hcz48_0 : w45.cell? ⟨gb247, 0, none⟩ = some (.int .i64 0) := (N' BK247.out 0).trans rfl; have hcz48_1 : w45.cell? ⟨gb247, 1, none⟩ = some (.int .i64 0) := (N' BK247.out 1).trans rfl; have hcz48_2 : w45.cell? ⟨gb247, 2, none⟩ = some (.bool false) := (N' BK247.out 2).trans rfl; have hfz48_0 := Y' BK247.out 0; have hfz48_1 := Y' BK247.out 1; have hfz48_2 := Y' BK247.out 2; have hnb49 := NB239_234.out; have hnc49 := NB234_239.out; have hcz50_0 : w45.cell? ⟨gb239, 0, none⟩ = some (.int .i64 ((rd_T82 l0_0 x30_2).f0)) := (N' BK239.out 0).trans rfl; have hcz50_1 : w45.cell? ⟨gb239, 1, none⟩ = some (.int .i64 ((rd_T82 l0_0 x30_2).f1)) := (N' BK239.out 1).trans rfl; have hcz50_2 : w45.cell? ⟨gb239, 2, none⟩ = some (.bool ((rd_T82 l0_0 x30_2).f2)) := (N' BK239.out 2).trans rfl; have hfz50_0 := Y' BK239.out 0; have hfz50_1 := Y' BK239.out 1; have hfz50_2 := Y' BK239.out 2))
                     go_roundg k4
                     case measure => have := HJ1.out; have := HK2.out; have := HJ16.out; have := HK4.out; omega
                     case rel => exact ⟨(wrap64 (x50_4 + 1)), qS, H', ⟨by have := HJ1.out; have := HK2.out; have := HJ16.out; have := HK4.out; omega⟩, ⟨qG3 BK234.out NB234_247.out NB234_247.out NB234_247.out⟩, ⟨qG3 BK239.out NB239_247.out NB239_247.out NB239_247.out⟩, ⟨qK3 HB.out GE234.out GE239.out GE247.out⟩⟩
                   ·rw [if_neg c37] at H; have c37b0 : (((rd_T82 y242 x50_4).f0) == ((rd_T82 l0_0 x30_2).f0)) = false := beq_eq_false_iff_ne.mpr c37; have c37b1 : (((rd_T82 y242 x50_4).f0) != ((rd_T82 l0_0 x30_2).f0)) = true := bne_iff_ne.mpr c37; have H' := A' H; clear H; have p246 : 0 ≤ (x50_4 : Int) := oD' qA; have q246 : x50_4 < (y242.length : Int) := oD' qA; obtain ⟨ad246, e246, hx246_0, hx246_1, hx246_2⟩ := at_T82 HR245.out x50_4 p246 q246; obtain rfl : ad238 = ad246 := (by injection e246)
                    try replace hx246_0 := qC HB.out hx246_0
                    try replace hx246_1 := qC HB.out hx246_1
                    try replace hx246_2 := qC HB.out hx246_2
                    replace p246 := eq_true p246; replace q246 := eq_true q246; go_wp2_with (first | ((with_reducible refine gate_dst (N := 6) rfl ?_); (try (refine gate_guard (by rfl) ?_; dsimp only)); refine box_event ?hg (N := 6) ?hd (cs := #[.int .i64 0, .int .i64 0, .bool false]) (t := 82) ?hr ?_; (case hd => rfl); (case hg => rfl); (case hr => first | (go_simp; done) | (go_simp; rfl)); intro gb247 hg w51 hbox hb; have n0_ := A' (O' (g := gb234) (qB BK234.out) hb); have n1_ := A' (O' (g := gb239) (qB BK239.out) hb); have n2_ := A' (W' (qK2 HB.out GE234.out GE239.out) hb); have n3_ := A' (hbox); have n4_ := A' ((by rw [hg]; exact (V' (qK2 HB.out GE234.out GE239.out)) : w.heap.size ≤ gb247)); have n5_ := A' ((by rw [hg]; exact (V' (qK2 HB.out GE234.out GE239.out)) : w.heap.size ≤ gb247)); have n6_ := A' ((by rw [hg]; exact Nat.ne_of_lt (bL' (g := gb234) (qB BK234.out)) : gb234 ≠ gb247)); have n7_ := A' ((by rw [hg]; exact Nat.ne_of_gt (bL' (g := gb234) (qB BK234.out)) : gb247 ≠ gb234)); have n8_ := A' ((by rw [hg]; exact Nat.ne_of_lt (bL' (g := gb239) (qB BK239.out)) : gb239 ≠ gb247)); have n9_ := A' ((by rw [hg]; exact Nat.ne_of_gt (bL' (g := gb239) (qB BK239.out)) : gb247 ≠ gb239)); clear BK234; clear BK239; clear HB; have BK234 := n0_; have BK239 := n1_; have HB := n2_; have BK247 := n3_; have GW247 := n4_; have GE247 := n5_; have NB234_247 := n6_; have NB247_234 := n7_; have NB239_247 := n8_; have NB247_239 := n9_; clear n0_ n1_ n2_ n3_ n4_ n5_ n6_ n7_ n8_ n9_; clear hb hbox hg; have hnb52 := NB247_234.out; have hnc52 := NB234_247.out; have hnb53 := NB247_239.out; have hnc53 := NB239_247.out; have hcz54_0 : w51.cell? ⟨gb247, 0, none⟩ = some (.int .i64 0) := (N' BK247.out 0).trans rfl; have hcz54_1 : w51.cell? ⟨gb247, 1, none⟩ = some (.int .i64 0) := (N' BK247.out 1).trans rfl; have hcz54_2 : w51.cell? ⟨gb247, 2, none⟩ = some (.bool false) := (N' BK247.out 2).trans rfl; have hfz54_0 := Y' BK247.out 0; have hfz54_1 := Y' BK247.out 1; have hfz54_2 := Y' BK247.out 2; have hnb55 := NB239_234.out; have hnc55 := NB234_239.out; have hcz56_0 : w51.cell? ⟨gb239, 0, none⟩ = some (.int .i64 ((rd_T82 l0_0 x30_2).f0)) := (N' BK239.out 0).trans rfl; have hcz56_1 : w51.cell? ⟨gb239, 1, none⟩ = some (.int .i64 ((rd_T82 l0_0 x30_2).f1)) := (N' BK239.out 1).trans rfl; have hcz56_2 : w51.cell? ⟨gb239, 2, none⟩ = some (.bool ((rd_T82 l0_0 x30_2).f2)) := (N' BK239.out 2).trans rfl; have hfz56_0 := Y' BK239.out 0; have hfz56_1 := Y' BK239.out 1; have hfz56_2 := Y' BK239.out 2))
                    go_roundg k4
                    case measure => have := HJ1.out; have := HK2.out; have := HJ16.out; have := HK4.out; omega
                    case rel => exact ⟨(wrap64 (x50_4 + 1)), qS, H', ⟨by have := HJ1.out; have := HK2.out; have := HJ16.out; have := HK4.out; omega⟩, ⟨qG3 BK234.out NB234_247.out NB234_247.out NB234_247.out⟩, ⟨qG3 BK239.out NB239_247.out NB239_247.out NB239_247.out⟩, ⟨qK3 HB.out GE234.out GE239.out GE247.out⟩⟩
                  ·rw [if_neg c36] at H; exact absurd H (by simp)
                 ·rw [if_neg c35] at H; exact absurd H (by simp)
                ·rw [if_neg c34] at H; have c34b0 : decide (x50_4 < (y242.length : Int)) = false := dF' c34; clear c34; have H' := A' H; clear H; go_wp2
                 go_roundg k4
                 case measure => have := HJ1.out; have := HK2.out; have := HJ16.out; have := HK4.out; omega
                 case rel => exact ⟨(wrap64 (x30_2 + 1)), qS, H', ⟨by have := HJ1.out; have := HK2.out; have := HJ16.out; have := HK4.out; omega⟩, ⟨qB BK234.out⟩, ⟨qK2 HB.out GE234.out GE239.out⟩⟩
             ·rw [if_neg c30] at H; exact absurd H (by simp)
            ·rw [if_neg c29] at H; exact absurd H (by simp)
        ·rw [if_neg c16] at H; exact absurd H (by simp)
       ·rw [if_neg c15] at H; exact absurd H (by simp)
      ·rw [if_neg c14] at H; have c14b0 : decide (x30_2 < (l0_0.length : Int)) = false := dF' c14; clear c14; have H' := A' H; clear H; have hcz57_0 : wr.cell? ⟨gb234, 0, none⟩ = some (.slice A0_0 l0_0.length c0_0) := (N' BK234.out 0).trans rfl; have hcz57_1 : wr.cell? ⟨gb234, 1, none⟩ = some (.slice A0_1 l0_1.length c0_1) := (N' BK234.out 1).trans rfl; have hfz57_0 := Y' BK234.out 0; have hfz57_1 := Y' BK234.out 1; go_wp2
       go_loopg [71] k2 (fun kq v71 w' => ∃ (x71_3 : Int), v71 = .int .i64 x71_3 ∧ Aside0 (impl_ValidFrame.l2 kq l0_1 (l0_1.length : Int) x71_3 l0_0 l0_1 = some r) ∧ Aside0 (kq ≤ k2) ∧ Aside0 (w'.heap[gb234]? = some (.cells #[(.slice A0_0 l0_0.length c0_0), (.slice A0_1 l0_1.length c0_1)] 39 (0, 0))) ∧ Aside0 (Below w.heap.size w w'))
       case atStart => exact ⟨(0), qS, H', ⟨Nat.le_refl _⟩, ⟨qB BK234.out⟩, ⟨qK1 HB.out GE234.out⟩⟩
       case round =>
        clear H'; try clear c1
        try clear c2
        try clear p2
        try clear q2
        try clear hx2
        try clear c3
        try clear q3
        try clear c4
        try clear c4b0
        try clear c4b1
        try clear c5
        try clear c6
        try clear c6b0
        try clear c6b1
        try clear p6
        try clear c12
        try clear c14
        try clear c14b0
        try clear c15
        try clear c15b0
        try clear c16
        try clear c16b0
        try clear c19
        try clear c22
        try clear p23
        try clear q23
        try clear hx23
        try clear c24
        try clear p24
        try clear q24
        try clear hx24
        try clear c25
        try clear c26
        try clear c28
        try clear c29
        try clear c29b0
        try clear c29b1
        try clear c30
        try clear c30b0
        try clear c30b1
        try clear c31
        try clear q33
        try clear c34
        try clear c34b0
        try clear c35
        try clear c35b0
        try clear c36
        try clear c36b0
        try clear c37
        try clear c37b0
        try clear c37b1
        try clear c38
        try clear c38b0
        try clear c38b1
        try clear c40
        try clear c41
        try clear c43
        try clear c46
        try clear c47
        try clear c49
        try clear c52
        try clear c53
        try clear c55
        try clear hcz13_0
        try clear hcz13_1
        try clear hcz20_0
        try clear hcz20_1
        try clear hcz20_2
        try clear hcz25_0
        try clear hcz25_1
        try clear hcz25_2
        try clear hcz27_0
        try clear hcz27_1
        try clear hcz27_2
        try clear hcz32_0
        try clear hcz32_1
        try clear hcz42_0
        try clear hcz42_1
        try clear hcz42_2
        try clear hcz44_0
        try clear hcz44_1
        try clear hcz44_2
        try clear hcz48_0
        try clear hcz48_1
        try clear hcz48_2
        try clear hcz50_0
        try clear hcz50_1
        try clear hcz50_2
        try clear hcz54_0
        try clear hcz54_1
        try clear hcz54_2
        try clear hcz56_0
        try clear hcz56_1
        try clear hcz56_2
        try clear hcz57_0
        try clear hcz57_1
        try clear hcz5_0
        try clear hcz5_1
        try clear hcz7_0
        try clear hcz7_1
        try clear hcz9_0
        try clear hcz9_1
        try clear hfz13_0
        try clear hfz13_1
        try clear hfz20_0
        try clear hfz20_1
        try clear hfz20_2
        try clear hfz25_0
        try clear hfz25_1
        try clear hfz25_2
        try clear hfz27_0
        try clear hfz27_1
        try clear hfz27_2
        try clear hfz32_0
        try clear hfz32_1
        try clear hfz42_0
        try clear hfz42_1
        try clear hfz42_2
        try clear hfz44_0
        try clear hfz44_1
        try clear hfz44_2
        try clear hfz48_0
        try clear hfz48_1
        try clear hfz48_2
        try clear hfz50_0
        try clear hfz50_1
        try clear hfz50_2
        try clear hfz54_0
        try clear hfz54_1
        try clear hfz54_2
        try clear hfz56_0
        try clear hfz56_1
        try clear hfz56_2
        try clear hfz57_0
        try clear hfz57_1
        try clear hfz5_0
        try clear hfz5_1
        try clear hfz7_0
        try clear hfz7_1
        try clear hfz9_0
        try clear hfz9_1
        try clear hx238_0
        try clear hx238_1
        try clear hx238_2
        try clear hx246_0
        try clear hx246_1
        try clear hx246_2
        try clear p2
        try clear p23
        try clear p238
        try clear p246
        try clear q2
        try clear q23
        try clear q238
        try clear q246
        try clear q3
        try clear q33
        obtain ⟨x71_3, rfl, HA, HK3, BK234, HB⟩ := hrel
        cases gk with
        | zero => exact absurd HA.out (by simp [impl_ValidFrame.l2])
        | succ k3 =>
         have H := HA.out; clear HA; simp only [impl_ValidFrame.l2] at H
         by_cases c58 : x71_3 < (l0_1.length : Int)
         ·rw [if_pos c58] at H; have c58b0 : decide (x71_3 < (l0_1.length : Int)) = true := dT' c58; clear c58
          by_cases c59 : 0 ≤ x71_3
          ·rw [if_pos c59] at H; have c59b0 : decide (0 ≤ x71_3) = true := dT' c59; clear c59
           by_cases c60 : x71_3 < (l0_1.length : Int)
           ·rw [if_pos c60] at H; have c60b0 : decide (x71_3 < (l0_1.length : Int)) = true := dT' c60; clear c60; have HC61 := A' H; clear H; have p248 : 0 ≤ (x71_3 : Int) := oD' qA; have q248 : x71_3 < (l0_1.length : Int) := oD' qA; obtain ⟨ad248, e248, hx248_0, hx248_1, hx248_2⟩ := at_T84 HR0_1.out x71_3 p248 q248
            cases e248
            try replace hx248_0 := qC HB.out hx248_0
            try replace hx248_1 := qC HB.out hx248_1
            try replace hx248_2 := qC HB.out hx248_2
            replace p248 := eq_true p248; replace q248 := eq_true q248; go_upto_region 18 with (first | ((with_reducible refine gate_dst (N := 8) rfl ?_); (try (refine gate_guard (by rfl) ?_; dsimp only)); refine box_event ?hg (N := 8) ?hd (cs := #[.int .i64 0, .int .i64 0, .bool false]) (t := 84) ?hr ?_; (case hd => rfl); (case hg => rfl); (case hr => first | (go_simp; done) | (go_simp; rfl)); intro gb249 hg w62 hbox hb; have n0_ := A' (O' (g := gb234) (qB BK234.out) hb); have n1_ := A' (W' (qK1 HB.out GE234.out) hb); have n2_ := A' (hbox); have n3_ := A' ((by rw [hg]; exact (V' (qK1 HB.out GE234.out)) : w.heap.size ≤ gb249)); have n4_ := A' ((by rw [hg]; exact (V' (qK1 HB.out GE234.out)) : w.heap.size ≤ gb249)); have n5_ := A' ((by rw [hg]; exact Nat.ne_of_lt (bL' (g := gb234) (qB BK234.out)) : gb234 ≠ gb249)); have n6_ := A' ((by rw [hg]; exact Nat.ne_of_gt (bL' (g := gb234) (qB BK234.out)) : gb249 ≠ gb234)); clear BK234; clear HB; have BK234 := n0_; have HB := n1_; have BK249 := n2_; have GW249 := n3_; have GE249 := n4_; have NB234_249 := n5_; have NB249_234 := n6_; clear n0_ n1_ n2_ n3_ n4_ n5_ n6_; clear hb hbox hg; have hnb63 := NB249_234.out; have hnc63 := NB234_249.out; have hcz64_0 : w62.cell? ⟨gb249, 0, none⟩ = some (.int .i64 0) := (N' BK249.out 0).trans rfl; have hcz64_1 : w62.cell? ⟨gb249, 1, none⟩ = some (.int .i64 0) := (N' BK249.out 1).trans rfl; have hcz64_2 : w62.cell? ⟨gb249, 2, none⟩ = some (.bool false) := (N' BK249.out 2).trans rfl; have hfz64_0 := Y' BK249.out 0; have hfz64_1 := Y' BK249.out 1; have hfz64_2 := Y' BK249.out 2))
            (try simp only [Act.put, List.setIfInBounds_toArray, List.set_cons_zero, List.set_cons_succ])
            go_cut [111] (fun v111 wc => ∃ (kq : Nat) (x111_60 : Bool), v111 = .bool x111_60 ∧ Aside0 (impl_ValidFrame.j5 kq x71_3 l0_1 (l0_1.length : Int) x71_3 x111_60 l0_0 l0_1 ((rd_T84 l0_1 x71_3).f0) ((rd_T84 l0_1 x71_3).f1) ((rd_T84 l0_1 x71_3).f2) = some r) ∧ Aside0 (kq ≤ k3) ∧ Aside0 (wc.heap[gb234]? = some (.cells #[(.slice A0_0 l0_0.length c0_0), (.slice (some ad248) l0_1.length c0_1)] 39 (0, 0))) ∧ Aside0 (wc.heap[gb249]? = some (.cells #[.int .i64 ((rd_T84 l0_1 x71_3).f0), .int .i64 ((rd_T84 l0_1 x71_3).f1), .bool ((rd_T84 l0_1 x71_3).f2)] 84 (0, 0))) ∧ Aside0 (Below w.heap.size w wc))
            case first =>
             have H := HC61.out; clear HC61
             by_cases c65 : ((rd_T84 l0_1 x71_3).f0) < 0
             ·rw [if_pos c65] at H; have c65b0 : decide (((rd_T84 l0_1 x71_3).f0) < 0) = true := dT' c65; clear c65; (first | rw [c65b0] | (simp only [i64_w, i32_w]; rw [c65b0]) | skip); have H' := A' H; clear H; have hnb66 := NB249_234.out; have hnc66 := NB234_249.out; have hcz67_0 : w62.cell? ⟨gb249, 0, none⟩ = some (.int .i64 0) := (N' BK249.out 0).trans rfl; have hcz67_1 : w62.cell? ⟨gb249, 1, none⟩ = some (.int .i64 0) := (N' BK249.out 1).trans rfl; have hcz67_2 : w62.cell? ⟨gb249, 2, none⟩ = some (.bool false) := (N' BK249.out 2).trans rfl; have hfz67_0 := Y' BK249.out 0; have hfz67_1 := Y' BK249.out 1; have hfz67_2 := Y' BK249.out 2; go_wp2
              go_meet
              case rel => exact ⟨_, (true), qS, H', ⟨by have := HJ1.out; have := HK2.out; have := HK3.out; first | omega | exact Nat.le_refl _⟩, ⟨qG3 BK234.out NB234_249.out NB234_249.out NB234_249.out⟩, ⟨by (with_reducible repeat (first | refine G' ?_ _ | refine I' ?_ | refine H' ?_ _)); refine blk_put (cs := #[.int .i64 ((rd_T84 l0_1 x71_3).f0), .int .i64 ((rd_T84 l0_1 x71_3).f1), .bool false]) ?_ 2 _ rfl; (with_reducible repeat (first | refine G' ?_ _ | refine I' ?_ | refine H' ?_ _)); refine blk_put (cs := #[.int .i64 ((rd_T84 l0_1 x71_3).f0), .int .i64 0, .bool false]) ?_ 1 _ rfl; (with_reducible repeat (first | refine G' ?_ _ | refine I' ?_ | refine H' ?_ _)); refine blk_put (cs := #[.int .i64 0, .int .i64 0, .bool false]) ?_ 0 _ rfl; (with_reducible repeat (first | refine G' ?_ _ | refine I' ?_ | refine H' ?_ _)); exact BK249.out⟩, ⟨qK2 HB.out GE234.out GE249.out⟩⟩
             ·rw [if_neg c65] at H; have c65b0 : decide (((rd_T84 l0_1 x71_3).f0) < 0) = false := dF' c65; clear c65; (first | rw [c65b0] | (simp only [i64_w, i32_w]; rw [c65b0]) | skip)
              by_cases c68 : ((rd_T84 l0_1 x71_3).f0) ≥ ((rd_T84 l0_1 x71_3).f1)
              ·rw [if_pos c68] at H; have c68b0 : decide (((rd_T84 l0_1 x71_3).f1) ≤ ((rd_T84 l0_1 x71_3).f0)) = true := dT' c68; clear c68; have H' := A' H; clear H; have hnb69 := NB249_234.out; have hnc69 := NB234_249.out; have hcz70_0 : w62.cell? ⟨gb249, 0, none⟩ = some (.int .i64 0) := (N' BK249.out 0).trans rfl; have hcz70_1 : w62.cell? ⟨gb249, 1, none⟩ = some (.int .i64 0) := (N' BK249.out 1).trans rfl; have hcz70_2 : w62.cell? ⟨gb249, 2, none⟩ = some (.bool false) := (N' BK249.out 2).trans rfl; have hfz70_0 := Y' BK249.out 0; have hfz70_1 := Y' BK249.out 1; have hfz70_2 := Y' BK249.out 2; go_wp2
               go_meet
               case rel => exact ⟨_, (true), qS, H', ⟨by have := HJ1.out; have := HK2.out; have := HK3.out; first | omega | exact Nat.le_refl _⟩, ⟨qG3 BK234.out NB234_249.out NB234_249.out NB234_249.out⟩, ⟨by (with_reducible repeat (first | refine G' ?_ _ | refine I' ?_ | refine H' ?_ _)); refine blk_put (cs := #[.int .i64 ((rd_T84 l0_1 x71_3).f0), .int .i64 ((rd_T84 l0_1 x71_3).f1), .bool false]) ?_ 2 _ rfl; (with_reducible repeat (first | refine G' ?_ _ | refine I' ?_ | refine H' ?_ _)); refine blk_put (cs := #[.int .i64 ((rd_T84 l0_1 x71_3).f0), .int .i64 0, .bool false]) ?_ 1 _ rfl; (with_reducible repeat (first | refine G' ?_ _ | refine I' ?_ | refine H' ?_ _)); refine blk_put (cs := #[.int .i64 0, .int .i64 0, .bool false]) ?_ 0 _ rfl; (with_reducible repeat (first | refine G' ?_ _ | refine I' ?_ | refine H' ?_ _)); exact BK249.out⟩, ⟨qK2 HB.out GE234.out GE249.out⟩⟩
              ·rw [if_neg c68] at H; have c68b0 : decide (((rd_T84 l0_1 x71_3).f1) ≤ ((rd_T84 l0_1 x71_3).f0)) = false := dF' c68; clear c68
               by_cases c71 : ((rd_T84 l0_1 x71_3).f1) ≥ (l0_0.length : Int)
               ·rw [if_pos c71] at H; have c71b0 : decide ((l0_0.length : Int) ≤ ((rd_T84 l0_1 x71_3).f1)) = true := dT' c71; clear c71; have H' := A' H; clear H; have hnb72 := NB249_234.out; have hnc72 := NB234_249.out; have hcz73_0 : w62.cell? ⟨gb249, 0, none⟩ = some (.int .i64 0) := (N' BK249.out 0).trans rfl; have hcz73_1 : w62.cell? ⟨gb249, 1, none⟩ = some (.int .i64 0) := (N' BK249.out 1).trans rfl; have hcz73_2 : w62.cell? ⟨gb249, 2, none⟩ = some (.bool false) := (N' BK249.out 2).trans rfl; have hfz73_0 := Y' BK249.out 0; have hfz73_1 := Y' BK249.out 1; have hfz73_2 := Y' BK249.out 2; have hcz74_0 : w62.cell? ⟨gb234, 0, none⟩ = some (.slice A0_0 l0_0.length c0_0) := (N' BK234.out 0).trans rfl; have hcz74_1 : w62.cell? ⟨gb234, 1, none⟩ = some (.slice (some ad248) l0_1.length c0_1) := (N' BK234.out 1).trans rfl; have hfz74_0 := Y' BK234.out 0; have hfz74_1 := Y' BK234.out 1; go_wp2
                go_meet
                case rel => exact ⟨_, (true), qS, H', ⟨by have := HJ1.out; have := HK2.out; have := HK3.out; first | omega | exact Nat.le_refl _⟩, ⟨qG3 BK234.out NB234_249.out NB234_249.out NB234_249.out⟩, ⟨by (with_reducible repeat (first | refine G' ?_ _ | refine I' ?_ | refine H' ?_ _)); refine blk_put (cs := #[.int .i64 ((rd_T84 l0_1 x71_3).f0), .int .i64 ((rd_T84 l0_1 x71_3).f1), .bool false]) ?_ 2 _ rfl; (with_reducible repeat (first | refine G' ?_ _ | refine I' ?_ | refine H' ?_ _)); refine blk_put (cs := #[.int .i64 ((rd_T84 l0_1 x71_3).f0), .int .i64 0, .bool false]) ?_ 1 _ rfl; (with_reducible repeat (first | refine G' ?_ _ | refine I' ?_ | refine H' ?_ _)); refine blk_put (cs := #[.int .i64 0, .int .i64 0, .bool false]) ?_ 0 _ rfl; (with_reducible repeat (first | refine G' ?_ _ | refine I' ?_ | refine H' ?_ _)); exact BK249.out⟩, ⟨qK2 HB.out GE234.out GE249.out⟩⟩
               ·rw [if_neg c71] at H; have c71b0 : decide ((l0_0.length : Int) ≤ ((rd_T84 l0_1 x71_3).f1)) = false := dF' c71; clear c71
                by_cases c75 : 0 ≤ ((rd_T84 l0_1 x71_3).f0)
                ·rw [if_pos c75] at H; have c75b0 : decide (0 ≤ ((rd_T84 l0_1 x71_3).f0)) = true := dT' c75; clear c75
                 by_cases c76 : ((rd_T84 l0_1 x71_3).f0) < (l0_0.length : Int)
                 ·rw [if_pos c76] at H; have c76b0 : decide (((rd_T84 l0_1 x71_3).f0) < (l0_0.length : Int)) = true := dT' c76; clear c76; obtain ⟨bq77, hbq77⟩ : ∃ b_ : Bool, b_ = ((rd_T82 l0_0 ((rd_T84 l0_1 x71_3).f0)).f2) := ⟨_, rfl⟩
                  replace H : (if bq77 = true then (if 0 ≤ ((rd_T84 l0_1 x71_3).f1) then (if ((rd_T84 l0_1 x71_3).f1) < (l0_0.length : Int) then (impl_ValidFrame.j5 k3 x71_3 l0_1 (l0_1.length : Int) x71_3 ((rd_T82 l0_0 ((rd_T84 l0_1 x71_3).f1)).f2) l0_0 l0_1 ((rd_T84 l0_1 x71_3).f0) ((rd_T84 l0_1 x71_3).f1) ((rd_T84 l0_1 x71_3).f2)) else (none)) else (none)) else (impl_ValidFrame.j5 k3 x71_3 l0_1 (l0_1.length : Int) x71_3 false l0_0 l0_1 ((rd_T84 l0_1 x71_3).f0) ((rd_T84 l0_1 x71_3).f1) ((rd_T84 l0_1 x71_3).f2))) = some r := by rw [← hbq77] at H; exact H
                  have Nbq77 := A' hbq77; clear hbq77
                  by_cases c78 : bq77 = true
                  ·subst c78; have H1 : (if 0 ≤ ((rd_T84 l0_1 x71_3).f1) then (if ((rd_T84 l0_1 x71_3).f1) < (l0_0.length : Int) then (impl_ValidFrame.j5 k3 x71_3 l0_1 (l0_1.length : Int) x71_3 ((rd_T82 l0_0 ((rd_T84 l0_1 x71_3).f1)).f2) l0_0 l0_1 ((rd_T84 l0_1 x71_3).f0) ((rd_T84 l0_1 x71_3).f1) ((rd_T84 l0_1 x71_3).f2)) else (none)) else (none)) = some r := by rw [if_pos rfl] at H; exact H
                   clear H; have H := H1; clear H1
                   by_cases c79 : 0 ≤ ((rd_T84 l0_1 x71_3).f1)
                   ·rw [if_pos c79] at H; have c79b0 : decide (0 ≤ ((rd_T84 l0_1 x71_3).f1)) = true := dT' c79; clear c79
                    by_cases c80 : ((rd_T84 l0_1 x71_3).f1) < (l0_0.length : Int)
                    ·rw [if_pos c80] at H; have c80b0 : decide (((rd_T84 l0_1 x71_3).f1) < (l0_0.length : Int)) = true := dT' c80; clear c80; have H' := A' H; clear H; have hnb81 := NB249_234.out; have hnc81 := NB234_249.out; have hcz82_0 : w62.cell? ⟨gb249, 0, none⟩ = some (.int .i64 0) := (N' BK249.out 0).trans rfl; have hcz82_1 : w62.cell? ⟨gb249, 1, none⟩ = some (.int .i64 0) := (N' BK249.out 1).trans rfl; have hcz82_2 : w62.cell? ⟨gb249, 2, none⟩ = some (.bool false) := (N' BK249.out 2).trans rfl; have hfz82_0 := Y' BK249.out 0; have hfz82_1 := Y' BK249.out 1; have hfz82_2 := Y' BK249.out 2; have hcz83_0 : w62.cell? ⟨gb234, 0, none⟩ = some (.slice A0_0 l0_0.length c0_0) := (N' BK234.out 0).trans rfl; have hcz83_1 : w62.cell? ⟨gb234, 1, none⟩ = some (.slice (some ad248) l0_1.length c0_1) := (N' BK234.out 1).trans rfl; have hfz83_0 := Y' BK234.out 0; have hfz83_1 := Y' BK234.out 1; have p250 : 0 ≤ (((rd_T84 l0_1 x71_3).f0) : Int) := oD' qA; have q250 : ((rd_T84 l0_1 x71_3).f0) < (l0_0.length : Int) := oD' qA; obtain ⟨ad250, e250, hx250_0, hx250_1, hx250_2⟩ := at_T82 HR0_0.out ((rd_T84 l0_1 x71_3).f0) p250 q250; (try rw [← Nbq77.out] at hx250_2); (try rw [← Nbq77.out] at hw250_2)
                     cases e250
                     have hn250_0 : ad250.block ≠ gb249 := Nat.ne_of_lt (Nat.lt_of_lt_of_le (by have := World.block_lt_of_cell? _ _ hx250_0; first | rwa [add_block] at this | exact this) GW249.out); have hn250_1 : ad250.block ≠ gb249 := Nat.ne_of_lt (Nat.lt_of_lt_of_le (by have := World.block_lt_of_cell? _ _ hx250_0; first | rwa [add_block] at this | exact this) GW249.out); have hn250_2 : ad250.block ≠ gb249 := Nat.ne_of_lt (Nat.lt_of_lt_of_le (by have := World.block_lt_of_cell? _ _ hx250_0; first | rwa [add_block] at this | exact this) GW249.out); try replace hx250_0 := qC HB.out hx250_0
                     try replace hx250_1 := qC HB.out hx250_1
                     try replace hx250_2 := qC HB.out hx250_2
                     replace hx250_0 := (Z' (p := ⟨gb249, 0, none⟩) (by first | (rw [add_block]; exact hn250_0) | (show (Addr.add _ _).block ≠ _; rw [add_block]; exact hn250_0) | exact hn250_0) (.int .i64 ((rd_T84 l0_1 x71_3).f0))).trans hx250_0; replace hx250_1 := (Z' (p := ⟨gb249, 0, none⟩) (by first | (rw [add_block]; exact hn250_0) | (show (Addr.add _ _).block ≠ _; rw [add_block]; exact hn250_0) | exact hn250_0) (.int .i64 ((rd_T84 l0_1 x71_3).f0))).trans hx250_1; replace hx250_2 := (Z' (p := ⟨gb249, 0, none⟩) (by first | (rw [add_block]; exact hn250_0) | (show (Addr.add _ _).block ≠ _; rw [add_block]; exact hn250_0) | exact hn250_0) (.int .i64 ((rd_T84 l0_1 x71_3).f0))).trans hx250_2; replace hx250_0 := (Z' (p := ⟨gb249, 1, none⟩) (by first | (rw [add_block]; exact hn250_1) | (show (Addr.add _ _).block ≠ _; rw [add_block]; exact hn250_1) | exact hn250_1) (.int .i64 ((rd_T84 l0_1 x71_3).f1))).trans hx250_0; replace hx250_1 := (Z' (p := ⟨gb249, 1, none⟩) (by first | (rw [add_block]; exact hn250_1) | (show (Addr.add _ _).block ≠ _; rw [add_block]; exact hn250_1) | exact hn250_1) (.int .i64 ((rd_T84 l0_1 x71_3).f1))).trans hx250_1; replace hx250_2 := (Z' (p := ⟨gb249, 1, none⟩) (by first | (rw [add_block]; exact hn250_1) | (show (Addr.add _ _).block ≠ _; rw [add_block]; exact hn250_1) | exact hn250_1) (.int .i64 ((rd_T84 l0_1 x71_3).f1))).trans hx250_2; replace hx250_0 := (Z' (p := ⟨gb249, 2, none⟩) (by first | (rw [add_block]; exact hn250_2) | (show (Addr.add _ _).block ≠ _; rw [add_block]; exact hn250_2) | exact hn250_2) (.bool ((rd_T84 l0_1 x71_3).f2))).trans hx250_0; replace hx250_1 := (Z' (p := ⟨gb249, 2, none⟩) (by first | (rw [add_block]; exact hn250_2) | (show (Addr.add _ _).block ≠ _; rw [add_block]; exact hn250_2) | exact hn250_2) (.bool ((rd_T84 l0_1 x71_3).f2))).trans hx250_1; replace hx250_2 := (Z' (p := ⟨gb249, 2, none⟩) (by first | (rw [add_block]; exact hn250_2) | (show (Addr.add _ _).block ≠ _; rw [add_block]; exact hn250_2) | exact hn250_2) (.bool ((rd_T84 l0_1 x71_3).f2))).trans hx250_2; clear hn250_0; clear hn250_1; clear hn250_2; replace p250 := eq_true p250; replace q250 := eq_true q250; have p251 : 0 ≤ (((rd_T84 l0_1 x71_3).f1) : Int) := oD' qA; have q251 : ((rd_T84 l0_1 x71_3).f1) < (l0_0.length : Int) := oD' qA; obtain ⟨ad251, e251, hx251_0, hx251_1, hx251_2⟩ := at_T82 HR0_0.out ((rd_T84 l0_1 x71_3).f1) p251 q251; (try rw [← Nbq77.out] at hx251_2); (try rw [← Nbq77.out] at hw251_2); obtain rfl : ad250 = ad251 := (by injection e251)
                     have hn251_0 : ad250.block ≠ gb249 := Nat.ne_of_lt (Nat.lt_of_lt_of_le (by have := World.block_lt_of_cell? _ _ hx251_0; first | rwa [add_block] at this | exact this) GW249.out); have hn251_1 : ad250.block ≠ gb249 := Nat.ne_of_lt (Nat.lt_of_lt_of_le (by have := World.block_lt_of_cell? _ _ hx251_0; first | rwa [add_block] at this | exact this) GW249.out); have hn251_2 : ad250.block ≠ gb249 := Nat.ne_of_lt (Nat.lt_of_lt_of_le (by have := World.block_lt_of_cell? _ _ hx251_0; first | rwa [add_block] at this | exact this) GW249.out); try replace hx251_0 := qC HB.out hx251_0
                     try replace hx251_1 := qC HB.out hx251_1
                     try replace hx251_2 := qC HB.out hx251_2
                     replace hx251_0 := (Z' (p := ⟨gb249, 0, none⟩) (by first | (rw [add_block]; exact hn251_0) | (show (Addr.add _ _).block ≠ _; rw [add_block]; exact hn251_0) | exact hn251_0) (.int .i64 ((rd_T84 l0_1 x71_3).f0))).trans hx251_0; replace hx251_1 := (Z' (p := ⟨gb249, 0, none⟩) (by first | (rw [add_block]; exact hn251_0) | (show (Addr.add _ _).block ≠ _; rw [add_block]; exact hn251_0) | exact hn251_0) (.int .i64 ((rd_T84 l0_1 x71_3).f0))).trans hx251_1; replace hx251_2 := (Z' (p := ⟨gb249, 0, none⟩) (by first | (rw [add_block]; exact hn251_0) | (show (Addr.add _ _).block ≠ _; rw [add_block]; exact hn251_0) | exact hn251_0) (.int .i64 ((rd_T84 l0_1 x71_3).f0))).trans hx251_2; replace hx251_0 := (Z' (p := ⟨gb249, 1, none⟩) (by first | (rw [add_block]; exact hn251_1) | (show (Addr.add _ _).block ≠ _; rw [add_block]; exact hn251_1) | exact hn251_1) (.int .i64 ((rd_T84 l0_1 x71_3).f1))).trans hx251_0; replace hx251_1 := (Z' (p := ⟨gb249, 1, none⟩) (by first | (rw [add_block]; exact hn251_1) | (show (Addr.add _ _).block ≠ _; rw [add_block]; exact hn251_1) | exact hn251_1) (.int .i64 ((rd_T84 l0_1 x71_3).f1))).trans hx251_1; replace hx251_2 := (Z' (p := ⟨gb249, 1, none⟩) (by first | (rw [add_block]; exact hn251_1) | (show (Addr.add _ _).block ≠ _; rw [add_block]; exact hn251_1) | exact hn251_1) (.int .i64 ((rd_T84 l0_1 x71_3).f1))).trans hx251_2; replace hx251_0 := (Z' (p := ⟨gb249, 2, none⟩) (by first | (rw [add_block]; exact hn251_2) | (show (Addr.add _ _).block ≠ _; rw [add_block]; exact hn251_2) | exact hn251_2) (.bool ((rd_T84 l0_1 x71_3).f2))).trans hx251_0; replace hx251_1 := (Z' (p := ⟨gb249, 2, none⟩) (by first | (rw [add_block]; exact hn251_2) | (show (Addr.add _ _).block ≠ _; rw [add_block]; exact hn251_2) | exact hn251_2) (.bool ((rd_T84 l0_1 x71_3).f2))).trans hx251_1; replace hx251_2 := (Z' (p := ⟨gb249, 2, none⟩) (by first | (rw [add_block]; exact hn251_2) | (show (Addr.add _ _).block ≠ _; rw [add_block]; exact hn251_2) | exact hn251_2) (.bool ((rd_T84 l0_1 x71_3).f2))).trans hx251_2; clear hn251_0; clear hn251_1; clear hn251_2; replace p251 := eq_true p251; replace q251 := eq_true q251; go_wp2
                     go_meet
                     case rel => exact ⟨_, ((rd_T82 l0_0 ((rd_T84 l0_1 x71_3).f1)).f2), qS, H', ⟨by have := HJ1.out; have := HK2.out; have := HK3.out; first | omega | exact Nat.le_refl _⟩, ⟨qG3 BK234.out NB234_249.out NB234_249.out NB234_249.out⟩, ⟨by (with_reducible repeat (first | refine G' ?_ _ | refine I' ?_ | refine H' ?_ _)); refine blk_put (cs := #[.int .i64 ((rd_T84 l0_1 x71_3).f0), .int .i64 ((rd_T84 l0_1 x71_3).f1), .bool false]) ?_ 2 _ rfl; (with_reducible repeat (first | refine G' ?_ _ | refine I' ?_ | refine H' ?_ _)); refine blk_put (cs := #[.int .i64 ((rd_T84 l0_1 x71_3).f0), .int .i64 0, .bool false]) ?_ 1 _ rfl; (with_reducible repeat (first | refine G' ?_ _ | refine I' ?_ | refine H' ?_ _)); refine blk_put (cs := #[.int .i64 0, .int .i64 0, .bool false]) ?_ 0 _ rfl; (with_reducible repeat (first | refine G' ?_ _ | refine I' ?_ | refine H' ?_ _)); exact BK249.out⟩, ⟨qK2 HB.out GE234.out GE249.out⟩⟩
                    ·rw [if_neg c80] at H; exact absurd H (by simp)
                   ·rw [if_neg c79] at H; exact absurd H (by simp)
                  ·replace c78 := Bool.eq_false_iff.mpr c78; subst c78; have H1 : (impl_ValidFrame.j5 k3 x71_3 l0_1 (l0_1.length : Int) x71_3 false l0_0 l0_1 ((rd_T84 l0_1 x71_3).f0) ((rd_T84 l0_1 x71_3).f1) ((rd_T84 l0_1 x71_3).f2)) = some r := by rw [if_neg (show ¬ (false = true) by decide)] at H; exact H
                   clear H; have H := H1; clear H1; have H' := A' H; clear H; have hnb84 := NB249_234.out; have hnc84 := NB234_249.out; have hcz85_0 : w62.cell? ⟨gb249, 0, none⟩ = some (.int .i64 0) := (N' BK249.out 0).trans rfl; have hcz85_1 : w62.cell? ⟨gb249, 1, none⟩ = some (.int .i64 0) := (N' BK249.out 1).trans rfl; have hcz85_2 : w62.cell? ⟨gb249, 2, none⟩ = some (.bool false) := (N' BK249.out 2).trans rfl; have hfz85_0 := Y' BK249.out 0; have hfz85_1 := Y' BK249.out 1; have hfz85_2 := Y' BK249.out 2; have hcz86_0 : w62.cell? ⟨gb234, 0, none⟩ = some (.slice A0_0 l0_0.length c0_0) := (N' BK234.out 0).trans rfl; have hcz86_1 : w62.cell? ⟨gb234, 1, none⟩ = some (.slice (some ad248) l0_1.length c0_1) := (N' BK234.out 1).trans rfl; have hfz86_0 := Y' BK234.out 0; have hfz86_1 := Y' BK234.out 1; have p250 : 0 ≤ (((rd_T84 l0_1 x71_3).f0) : Int) := oD' qA; have q250 : ((rd_T84 l0_1 x71_3).f0) < (l0_0.length : Int) := oD' qA; obtain ⟨ad250, e250, hx250_0, hx250_1, hx250_2⟩ := at_T82 HR0_0.out ((rd_T84 l0_1 x71_3).f0) p250 q250; (try rw [← Nbq77.out] at hx250_2); (try rw [← Nbq77.out] at hw250_2)
                   cases e250
                   have hn250_0 : ad250.block ≠ gb249 := Nat.ne_of_lt (Nat.lt_of_lt_of_le (by have := World.block_lt_of_cell? _ _ hx250_0; first | rwa [add_block] at this | exact this) GW249.out); have hn250_1 : ad250.block ≠ gb249 := Nat.ne_of_lt (Nat.lt_of_lt_of_le (by have := World.block_lt_of_cell? _ _ hx250_0; first | rwa [add_block] at this | exact this) GW249.out); have hn250_2 : ad250.block ≠ gb249 := Nat.ne_of_lt (Nat.lt_of_lt_of_le (by have := World.block_lt_of_cell? _ _ hx250_0; first | rwa [add_block] at this | exact this) GW249.out); try replace hx250_0 := qC HB.out hx250_0
                   try replace hx250_1 := qC HB.out hx250_1
                   try replace hx250_2 := qC HB.out hx250_2
                   replace hx250_0 := (Z' (p := ⟨gb249, 0, none⟩) (by first | (rw [add_block]; exact hn250_0) | (show (Addr.add _ _).block ≠ _; rw [add_block]; exact hn250_0) | exact hn250_0) (.int .i64 ((rd_T84 l0_1 x71_3).f0))).trans hx250_0; replace hx250_1 := (Z' (p := ⟨gb249, 0, none⟩) (by first | (rw [add_block]; exact hn250_0) | (show (Addr.add _ _).block ≠ _; rw [add_block]; exact hn250_0) | exact hn250_0) (.int .i64 ((rd_T84 l0_1 x71_3).f0))).trans hx250_1; replace hx250_2 := (Z' (p := ⟨gb249, 0, none⟩) (by first | (rw [add_block]; exact hn250_0) | (show (Addr.add _ _).block ≠ _; rw [add_block]; exact hn250_0) | exact hn250_0) (.int .i64 ((rd_T84 l0_1 x71_3).f0))).trans hx250_2; replace hx250_0 := (Z' (p := ⟨gb249, 1, none⟩) (by first | (rw [add_block]; exact hn250_1) | (show (Addr.add _ _).block ≠ _; rw [add_block]; exact hn250_1) | exact hn250_1) (.int .i64 ((rd_T84 l0_1 x71_3).f1))).trans hx250_0; replace hx250_1 := (Z' (p := ⟨gb249, 1, none⟩) (by first | (rw [add_block]; exact hn250_1) | (show (Addr.add _ _).block ≠ _; rw [add_block]; exact hn250_1) | exact hn250_1) (.int .i64 ((rd_T84 l0_1 x71_3).f1))).trans hx250_1; replace hx250_2 := (Z' (p := ⟨gb249, 1, none⟩) (by first | (rw [add_block]; exact hn250_1) | (show (Addr.add _ _).block ≠ _; rw [add_block]; exact hn250_1) | exact hn250_1) (.int .i64 ((rd_T84 l0_1 x71_3).f1))).trans hx250_2; replace hx250_0 := (Z' (p := ⟨gb249, 2, none⟩) (by first | (rw [add_block]; exact hn250_2) | (show (Addr.add _ _).block ≠ _; rw [add_block]; exact hn250_2) | exact hn250_2) (.bool ((rd_T84 l0_1 x71_3).f2))).trans hx250_0; replace hx250_1 := (Z' (p := ⟨gb249, 2, none⟩) (by first | (rw [add_block]; exact hn250_2) | (show (Addr.add _ _).block ≠ _; rw [add_block]; exact hn250_2) | exact hn250_2) (.bool ((rd_T84 l0_1 x71_3).f2))).trans hx250_1; replace hx250_2 := (Z' (p := ⟨gb249, 2, none⟩) (by first | (rw [add_block]; exact hn250_2) | (show (Addr.add _ _).block ≠ _; rw [add_block]; exact hn250_2) | exact hn250_2) (.bool ((rd_T84 l0_1 x71_3).f2))).trans hx250_2; clear hn250_0; clear hn250_1; clear hn250_2; replace p250 := eq_true p250; replace q250 := eq_true q250; go_wp2
                   go_meet
                   case rel => exact ⟨_, (false), qS, H', ⟨by have := HJ1.out; have := HK2.out; have := HK3.out; first | omega | exact Nat.le_refl _⟩, ⟨qG3 BK234.out NB234_249.out NB234_249.out NB234_249.out⟩, ⟨by (with_reducible repeat (first | refine G' ?_ _ | refine I' ?_ | refine H' ?_ _)); refine blk_put (cs := #[.int .i64 ((rd_T84 l0_1 x71_3).f0), .int .i64 ((rd_T84 l0_1 x71_3).f1), .bool false]) ?_ 2 _ rfl; (with_reducible repeat (first | refine G' ?_ _ | refine I' ?_ | refine H' ?_ _)); refine blk_put (cs := #[.int .i64 ((rd_T84 l0_1 x71_3).f0), .int .i64 0, .bool false]) ?_ 1 _ rfl; (with_reducible repeat (first | refine G' ?_ _ | refine I' ?_ | refine H' ?_ _)); refine blk_put (cs := #[.int .i64 0, .int .i64 0, .bool false]) ?_ 0 _ rfl; (with_reducible repeat (first | refine G' ?_ _ | refine I' ?_ | refine H' ?_ _)); exact BK249.out⟩, ⟨qK2 HB.out GE234.out GE249.out⟩⟩
                 ·rw [if_neg c76] at H; exact absurd H (by simp)
                ·rw [if_neg c75] at H; exact absurd H (by simp)
            case rest =>
             clear HC61; try clear c1
             try clear c2
             try clear p2
             try clear q2
             try clear hx2
             try clear c3
             try clear q3
             try clear c4
             try clear c4b0
             try clear c4b1
             try clear c5
             try clear c6
             try clear c6b0
             try clear c6b1
             try clear p6
             try clear c7
             try clear q7
             try clear c8
             try clear c12
             try clear c14
             try clear c14b0
             try clear c15
             try clear c15b0
             try clear c16
             try clear c16b0
             try clear c19
             try clear c22
             try clear p23
             try clear q23
             try clear hx23
             try clear c24
             try clear p24
             try clear q24
             try clear hx24
             try clear c25
             try clear p25
             try clear q25
             try clear hx25
             try clear c26
             try clear c28
             try clear c29
             try clear c29b0
             try clear c29b1
             try clear c30
             try clear c30b0
             try clear c30b1
             try clear c31
             try clear q33
             try clear c34
             try clear c34b0
             try clear c35
             try clear c35b0
             try clear c36
             try clear c36b0
             try clear c37
             try clear c37b0
             try clear c37b1
             try clear c38
             try clear c38b0
             try clear c38b1
             try clear c40
             try clear c41
             try clear c43
             try clear c46
             try clear c47
             try clear c49
             try clear c52
             try clear c53
             try clear c55
             try clear c58
             try clear c58b0
             try clear c59
             try clear c59b0
             try clear c60
             try clear c60b0
             try clear c63
             try clear p64
             try clear c65
             try clear c65b0
             try clear c66
             try clear c68
             try clear c68b0
             try clear c69
             try clear c71
             try clear c71b0
             try clear c72
             try clear c75
             try clear c75b0
             try clear c76
             try clear c76b0
             try clear q77
             try clear c78
             try clear c79
             try clear c79b0
             try clear c80
             try clear c80b0
             try clear c81
             try clear c84
             try clear hcz13_0
             try clear hcz13_1
             try clear hcz20_0
             try clear hcz20_1
             try clear hcz20_2
             try clear hcz25_0
             try clear hcz25_1
             try clear hcz25_2
             try clear hcz27_0
             try clear hcz27_1
             try clear hcz27_2
             try clear hcz32_0
             try clear hcz32_1
             try clear hcz42_0
             try clear hcz42_1
             try clear hcz42_2
             try clear hcz44_0
             try clear hcz44_1
             try clear hcz44_2
             try clear hcz48_0
             try clear hcz48_1
             try clear hcz48_2
             try clear hcz50_0
             try clear hcz50_1
             try clear hcz50_2
             try clear hcz54_0
             try clear hcz54_1
             try clear hcz54_2
             try clear hcz56_0
             try clear hcz56_1
             try clear hcz56_2
             try clear hcz57_0
             try clear hcz57_1
             try clear hcz5_0
             try clear hcz5_1
             try clear hcz64_0
             try clear hcz64_1
             try clear hcz64_2
             try clear hcz67_0
             try clear hcz67_1
             try clear hcz67_2
             try clear hcz70_0
             try clear hcz70_1
             try clear hcz70_2
             try clear hcz73_0
             try clear hcz73_1
             try clear hcz73_2
             try clear hcz74_0
             try clear hcz74_1
             try clear hcz7_0
             try clear hcz7_1
             try clear hcz82_0
             try clear hcz82_1
             try clear hcz82_2
             try clear hcz83_0
             try clear hcz83_1
             try clear hcz85_0
             try clear hcz85_1
             try clear hcz85_2
             try clear hcz86_0
             try clear hcz86_1
             try clear hcz9_0
             try clear hcz9_1
             try clear hfz13_0
             try clear hfz13_1
             try clear hfz20_0
             try clear hfz20_1
             try clear hfz20_2
             try clear hfz25_0
             try clear hfz25_1
             try clear hfz25_2
             try clear hfz27_0
             try clear hfz27_1
             try clear hfz27_2
             try clear hfz32_0
             try clear hfz32_1
             try clear hfz42_0
             try clear hfz42_1
             try clear hfz42_2
             try clear hfz44_0
             try clear hfz44_1
             try clear hfz44_2
             try clear hfz48_0
             try clear hfz48_1
             try clear hfz48_2
             try clear hfz50_0
             try clear hfz50_1
             try clear hfz50_2
             try clear hfz54_0
             try clear hfz54_1
             try clear hfz54_2
             try clear hfz56_0
             try clear hfz56_1
             try clear hfz56_2
             try clear hfz57_0
             try clear hfz57_1
             try clear hfz5_0
             try clear hfz5_1
             try clear hfz64_0
             try clear hfz64_1
             try clear hfz64_2
             try clear hfz67_0
             try clear hfz67_1
             try clear hfz67_2
             try clear hfz70_0
             try clear hfz70_1
             try clear hfz70_2
             try clear hfz73_0
             try clear hfz73_1
             try clear hfz73_2
             try clear hfz74_0
             try clear hfz74_1
             try clear hfz7_0
             try clear hfz7_1
             try clear hfz82_0
             try clear hfz82_1
             try clear hfz82_2
             try clear hfz83_0
             try clear hfz83_1
             try clear hfz85_0
             try clear hfz85_1
             try clear hfz85_2
             try clear hfz86_0
             try clear hfz86_1
             try clear hfz9_0
             try clear hfz9_1
             try clear hx238_0
             try clear hx238_1
             try clear hx238_2
             try clear hx246_0
             try clear hx246_1
             try clear hx246_2
             try clear hx248_0
             try clear hx248_1
             try clear hx248_2
             try clear hx250_0
             try clear hx250_1
             try clear hx250_2
             try clear hx251_0
             try clear hx251_1
             try clear hx251_2
             try clear p2
             try clear p23
             try clear p238
             try clear p24
             try clear p246
             try clear p248
             try clear p250
             try clear p251
             try clear p6
             try clear q2
             try clear q23
             try clear q238
             try clear q24
             try clear q246
             try clear q248
             try clear q250
             try clear q251
             try clear q3
             try clear q33
             obtain ⟨kq, x111_60, rfl, HA, HJ60, BK234, BK249, HB⟩ := hcut
             cases kq with
             | zero => exact absurd HA.out (by simp [impl_ValidFrame.j5])
             | succ kj60 =>
              have H := HA.out; clear HA; simp only [impl_ValidFrame.j5] at H
              by_cases c87 : x111_60 = true
              ·subst c87; have H1 : (some false) = some r := by rw [if_pos rfl] at H; exact H
               clear H; have H := H1; clear H1; obtain rfl := Option.some.inj H; go_wp2; go_ret; exact ⟨qE, qK2 HB.out GE234.out GE249.out⟩
              ·replace c87 := Bool.eq_false_iff.mpr c87; subst c87; have H1 : (if 0 ≤ x71_3 then (if x71_3 ≤ (l0_1.length : Int) then ((some (l0_1.take (x71_3 : Int).toNat : List (S84))).bind fun y252 => (impl_ValidFrame.l3 kj60 l0_1 (l0_1.length : Int) x71_3 y252 (y252.length : Int) 0 l0_0 l0_1 ((rd_T84 l0_1 x71_3).f0) ((rd_T84 l0_1 x71_3).f1) ((rd_T84 l0_1 x71_3).f2))) else (none)) else (none)) = some r := by rw [if_neg (show ¬ (false = true) by decide)] at H; exact H
               clear H; have H := H1; clear H1
               by_cases c88 : 0 ≤ x71_3
               ·rw [if_pos c88] at H; have c88b0 := eq_true c88; have c88b1 : decide (0 ≤ x71_3) = true := dT' c88; clear c88
                by_cases c89 : x71_3 ≤ (l0_1.length : Int)
                ·rw [if_pos c89] at H; have c89b0 := eq_true c89; have c89b1 : decide (x71_3 ≤ (l0_1.length : Int)) = true := dT' c89; clear c89; obtain ⟨y252, hy252⟩ : ∃ y_ : List (S84), y_ = (l0_1.take (x71_3 : Int).toNat) := ⟨_, rfl⟩
                 replace H : (impl_ValidFrame.l3 kj60 l0_1 (l0_1.length : Int) x71_3 y252 (y252.length : Int) 0 l0_0 l0_1 ((rd_T84 l0_1 x71_3).f0) ((rd_T84 l0_1 x71_3).f1) ((rd_T84 l0_1 x71_3).f2)) = some r := by first | (rw [hy252]; with_reducible exact H) | (have H2_ := (Option.bind_some _ _).symm.trans H; rw [hy252]; with_reducible exact H2_) | (have H2_ := (Option.bind_some _ _).symm.trans H; with_reducible exact H2_) | with_reducible exact H | (rw [hy252]; exact H) | exact H
                 have Ny252 := A' hy252; clear hy252; have H' := A' H; clear H; have hnb90 := NB234_249.out; have hnc90 := NB249_234.out; have hcz91_0 : wc.cell? ⟨gb234, 0, none⟩ = some (.slice A0_0 l0_0.length c0_0) := (N' BK234.out 0).trans rfl; have hcz91_1 : wc.cell? ⟨gb234, 1, none⟩ = some (.slice (some ad248) l0_1.length c0_1) := (N' BK234.out 1).trans rfl; have hfz91_0 := Y' BK234.out 0; have hfz91_1 := Y' BK234.out 1; have q92 : (x71_3 : Int) ≤ ((l0_1.length : Int) : Int) := oD' qA; obtain ⟨i092, hi092, _, hsz92, _⟩ := info_parts info84; have hroom92 : l0_1.length ≤ c0_1 := HC0_1.out; have hC92 : Kd.C k84 _ (some ad248) l0_1.length l0_1 := HR0_1.out; have hcut92 := cut_to (P := Try.prog) 37 84 .i64 Try.underlying37 hi092 (some ad248) l0_1.length c0_1 x71_3 (oD' qA) q92 hroom92; have hr92 := Kd.C_take (m := (x71_3 : Int).toNat) hC92 (by omega); have hy92 : y252.length = (x71_3 : Int).toNat := (by rw [Ny252.out, List.length_take]; omega)
                 rw [← Ny252.out] at hr92; rw [← hy92] at hcut92; have HR255 := A' hr92; have HC255 := A' (show y252.length ≤ c0_1 from by omega); clear hr92 hC92 hroom92 hi092 hsz92; have KY92 := A' hy92; clear hy92; replace q92 := eq_true q92; go_wp2
                 go_loopg [117] kj60 (fun kq v117 w' => ∃ (x117_5 : Int), v117 = .int .i64 x117_5 ∧ Aside0 (impl_ValidFrame.l3 kq l0_1 (l0_1.length : Int) x71_3 y252 (y252.length : Int) x117_5 l0_0 l0_1 ((rd_T84 l0_1 x71_3).f0) ((rd_T84 l0_1 x71_3).f1) ((rd_T84 l0_1 x71_3).f2) = some r) ∧ Aside0 (kq ≤ kj60) ∧ Aside0 (w'.heap[gb234]? = some (.cells #[(.slice A0_0 l0_0.length c0_0), (.slice (some ad248) l0_1.length c0_1)] 39 (0, 0))) ∧ Aside0 (w'.heap[gb249]? = some (.cells #[.int .i64 ((rd_T84 l0_1 x71_3).f0), .int .i64 ((rd_T84 l0_1 x71_3).f1), .bool ((rd_T84 l0_1 x71_3).f2)] 84 (0, 0))) ∧ Aside0 (Below w.heap.size w w'))
                 case atStart => exact ⟨(0), qS, H', ⟨Nat.le_refl _⟩, ⟨qB BK234.out⟩, ⟨qB BK249.out⟩, ⟨qK2 HB.out GE234.out GE249.out⟩⟩
                 case round =>
                  clear H'; try clear c1
                  try clear c2
                  try clear p2
                  try clear q2
                  try clear hx2
                  try clear c3
                  try clear q3
                  try clear c4
                  try clear c4b0
                  try clear c4b1
                  try clear c5
                  try clear c6
                  try clear c6b0
                  try clear c6b1
                  try clear p6
                  try clear c7
                  try clear q7
                  try clear c8
                  try clear c9
                  try clear q9
                  try clear c12
                  try clear c14
                  try clear c14b0
                  try clear c15
                  try clear c15b0
                  try clear c16
                  try clear c16b0
                  try clear c19
                  try clear c22
                  try clear p23
                  try clear q23
                  try clear hx23
                  try clear c24
                  try clear p24
                  try clear q24
                  try clear hx24
                  try clear c25
                  try clear p25
                  try clear q25
                  try clear hx25
                  try clear c26
                  try clear c28
                  try clear c29
                  try clear c29b0
                  try clear c29b1
                  try clear c30
                  try clear c30b0
                  try clear c30b1
                  try clear c31
                  try clear q33
                  try clear c34
                  try clear c34b0
                  try clear c35
                  try clear c35b0
                  try clear c36
                  try clear c36b0
                  try clear c37
                  try clear c37b0
                  try clear c37b1
                  try clear c38
                  try clear c38b0
                  try clear c38b1
                  try clear c40
                  try clear c41
                  try clear c43
                  try clear c46
                  try clear c47
                  try clear c49
                  try clear c52
                  try clear c53
                  try clear c55
                  try clear c58
                  try clear c58b0
                  try clear c59
                  try clear c59b0
                  try clear c60
                  try clear c60b0
                  try clear c63
                  try clear p64
                  try clear c65
                  try clear c65b0
                  try clear c66
                  try clear c68
                  try clear c68b0
                  try clear c69
                  try clear c71
                  try clear c71b0
                  try clear c72
                  try clear c75
                  try clear c75b0
                  try clear c76
                  try clear c76b0
                  try clear q77
                  try clear c78
                  try clear c79
                  try clear c79b0
                  try clear c80
                  try clear c80b0
                  try clear c81
                  try clear c84
                  try clear c87
                  try clear c88
                  try clear c88b0
                  try clear c88b1
                  try clear c89
                  try clear c89b0
                  try clear c89b1
                  try clear c90
                  try clear q92
                  try clear hcz13_0
                  try clear hcz13_1
                  try clear hcz20_0
                  try clear hcz20_1
                  try clear hcz20_2
                  try clear hcz25_0
                  try clear hcz25_1
                  try clear hcz25_2
                  try clear hcz27_0
                  try clear hcz27_1
                  try clear hcz27_2
                  try clear hcz32_0
                  try clear hcz32_1
                  try clear hcz42_0
                  try clear hcz42_1
                  try clear hcz42_2
                  try clear hcz44_0
                  try clear hcz44_1
                  try clear hcz44_2
                  try clear hcz48_0
                  try clear hcz48_1
                  try clear hcz48_2
                  try clear hcz50_0
                  try clear hcz50_1
                  try clear hcz50_2
                  try clear hcz54_0
                  try clear hcz54_1
                  try clear hcz54_2
                  try clear hcz56_0
                  try clear hcz56_1
                  try clear hcz56_2
                  try clear hcz57_0
                  try clear hcz57_1
                  try clear hcz5_0
                  try clear hcz5_1
                  try clear hcz64_0
                  try clear hcz64_1
                  try clear hcz64_2
                  try clear hcz67_0
                  try clear hcz67_1
                  try clear hcz67_2
                  try clear hcz70_0
                  try clear hcz70_1
                  try clear hcz70_2
                  try clear hcz73_0
                  try clear hcz73_1
                  try clear hcz73_2
                  try clear hcz74_0
                  try clear hcz74_1
                  try clear hcz7_0
                  try clear hcz7_1
                  try clear hcz82_0
                  try clear hcz82_1
                  try clear hcz82_2
                  try clear hcz83_0
                  try clear hcz83_1
                  try clear hcz85_0
                  try clear hcz85_1
                  try clear hcz85_2
                  try clear hcz86_0
                  try clear hcz86_1
                  try clear hcz91_0
                  try clear hcz91_1
                  try clear hcz9_0
                  try clear hcz9_1
                  try clear hfz13_0
                  try clear hfz13_1
                  try clear hfz20_0
                  try clear hfz20_1
                  try clear hfz20_2
                  try clear hfz25_0
                  try clear hfz25_1
                  try clear hfz25_2
                  try clear hfz27_0
                  try clear hfz27_1
                  try clear hfz27_2
                  try clear hfz32_0
                  try clear hfz32_1
                  try clear hfz42_0
                  try clear hfz42_1
                  try clear hfz42_2
                  try clear hfz44_0
                  try clear hfz44_1
                  try clear hfz44_2
                  try clear hfz48_0
                  try clear hfz48_1
                  try clear hfz48_2
                  try clear hfz50_0
                  try clear hfz50_1
                  try clear hfz50_2
                  try clear hfz54_0
                  try clear hfz54_1
                  try clear hfz54_2
                  try clear hfz56_0
                  try clear hfz56_1
                  try clear hfz56_2
                  try clear hfz57_0
                  try clear hfz57_1
                  try clear hfz5_0
                  try clear hfz5_1
                  try clear hfz64_0
                  try clear hfz64_1
                  try clear hfz64_2
                  try clear hfz67_0
                  try clear hfz67_1
                  try clear hfz67_2
                  try clear hfz70_0
                  try clear hfz70_1
                  try clear hfz70_2
                  try clear hfz73_0
                  try clear hfz73_1
                  try clear hfz73_2
                  try clear hfz74_0
                  try clear hfz74_1
                  try clear hfz7_0
                  try clear hfz7_1
                  try clear hfz82_0
                  try clear hfz82_1
                  try clear hfz82_2
                  try clear hfz83_0
                  try clear hfz83_1
                  try clear hfz85_0
                  try clear hfz85_1
                  try clear hfz85_2
                  try clear hfz86_0
                  try clear hfz86_1
                  try clear hfz91_0
                  try clear hfz91_1
                  try clear hfz9_0
                  try clear hfz9_1
                  try clear hx238_0
                  try clear hx238_1
                  try clear hx238_2
                  try clear hx246_0
                  try clear hx246_1
                  try clear hx246_2
                  try clear hx248_0
                  try clear hx248_1
                  try clear hx248_2
                  try clear hx250_0
                  try clear hx250_1
                  try clear hx250_2
                  try clear hx251_0
                  try clear hx251_1
                  try clear hx251_2
                  try clear p2
                  try clear p23
                  try clear p238
                  try clear p24
                  try clear p246
                  try clear p248
                  try clear p25
                  try clear p250
                  try clear p251
                  try clear p6
                  try clear p64
                  try clear q2
                  try clear q23
                  try clear q238
                  try clear q24
                  try clear q246
                  try clear q248
                  try clear q25
                  try clear q250
                  try clear q251
                  try clear q3
                  try clear q33
                  try clear q7
                  try clear q77
                  try clear q92
                  obtain ⟨x117_5, rfl, HA, HK5, BK234, BK249, HB⟩ := hrel
                  cases gk with
                  | zero => exact absurd HA.out (by simp [impl_ValidFrame.l3])
                  | succ k5 =>
                   have H := HA.out; clear HA; simp only [impl_ValidFrame.l3] at H
                   by_cases c93 : x117_5 < (y252.length : Int)
                   ·rw [if_pos c93] at H; have c93b0 : decide (x117_5 < (y252.length : Int)) = true := dT' c93; clear c93
                    by_cases c94 : 0 ≤ x117_5
                    ·rw [if_pos c94] at H; have c94b0 : decide (0 ≤ x117_5) = true := dT' c94; clear c94
                     by_cases c95 : x117_5 < (y252.length : Int)
                     ·rw [if_pos c95] at H; have c95b0 : decide (x117_5 < (y252.length : Int)) = true := dT' c95; clear c95
                      by_cases c96 : ((rd_T84 y252 x117_5).f0) = ((rd_T84 l0_1 x71_3).f0)
                      ·rw [if_pos c96] at H; have c96b0 : (((rd_T84 y252 x117_5).f0) == ((rd_T84 l0_1 x71_3).f0)) = true := beq_iff_eq.mpr c96; have c96b1 : (((rd_T84 y252 x117_5).f0) != ((rd_T84 l0_1 x71_3).f0)) = false := bne_eq_false_iff_eq.mpr c96; clear c96
                       by_cases c97 : ((rd_T84 y252 x117_5).f1) = ((rd_T84 l0_1 x71_3).f1)
                       ·rw [if_pos c97] at H; have c97b0 : (((rd_T84 y252 x117_5).f1) == ((rd_T84 l0_1 x71_3).f1)) = true := beq_iff_eq.mpr c97; have c97b1 : (((rd_T84 y252 x117_5).f1) != ((rd_T84 l0_1 x71_3).f1)) = false := bne_eq_false_iff_eq.mpr c97; clear c97; obtain rfl := Option.some.inj H; have p256 : 0 ≤ (x117_5 : Int) := oD' qA; have q256 : x117_5 < (y252.length : Int) := oD' qA; obtain ⟨ad256, e256, hx256_0, hx256_1, hx256_2⟩ := at_T84 HR255.out x117_5 p256 q256; obtain rfl : ad248 = ad256 := (by injection e256)
                        try replace hx256_0 := qC HB.out hx256_0
                        try replace hx256_1 := qC HB.out hx256_1
                        try replace hx256_2 := qC HB.out hx256_2
                        replace p256 := eq_true p256; replace q256 := eq_true q256; go_wp2_with (first | ((with_reducible refine gate_dst (N := 10) rfl ?_); (try (refine gate_guard (by rfl) ?_; dsimp only)); refine box_event ?hg (N := 10) ?hd (cs := #[.int .i64 0, .int .i64 0, .bool false]) (t := 84) ?hr ?_; (case hd => rfl); (case hg => rfl); (case hr => first | (go_simp; done) | (go_simp; rfl)); intro gb257 hg w98 hbox hb; have n0_ := A' (O' (g := gb234) (qB BK234.out) hb); have n1_ := A' (O' (g := gb249) (qB BK249.out) hb); have n2_ := A' (W' (qK2 HB.out GE234.out GE249.out) hb); have n3_ := A' (hbox); have n4_ := A' ((by rw [hg]; exact (V' (qK2 HB.out GE234.out GE249.out)) : w.heap.size ≤ gb257)); have n5_ := A' ((by rw [hg]; exact (V' (qK2 HB.out GE234.out GE249.out)) : w.heap.size ≤ gb257)); have n6_ := A' ((by rw [hg]; exact Nat.ne_of_lt (bL' (g := gb234) (qB BK234.out)) : gb234 ≠ gb257)); have n7_ := A' ((by rw [hg]; exact Nat.ne_of_gt (bL' (g := gb234) (qB BK234.out)) : gb257 ≠ gb234)); have n8_ := A' ((by rw [hg]; exact Nat.ne_of_lt (bL' (g := gb249) (qB BK249.out)) : gb249 ≠ gb257)); have n9_ := A' ((by rw [hg]; exact Nat.ne_of_gt (bL' (g := gb249) (qB BK249.out)) : gb257 ≠ gb249)); clear BK234; clear BK249; clear HB; have BK234 := n0_; have BK249 := n1_; have HB := n2_; have BK257 := n3_; have GW257 := n4_; have GE257 := n5_; have NB234_257 := n6_; have NB257_234 := n7_; have NB249_257 := n8_; have NB257_249 := n9_; clear n0_ n1_ n2_ n3_ n4_ n5_ n6_ n7_ n8_ n9_; clear hb hbox hg; have hnb99 := NB257_234.out; have hnc99 := NB234_257.out; have hnb100 := NB257_249.out; have hnc100 := NB249_257.out; have hcz101_0 : w98.cell? ⟨gb257, 0, none⟩ = some (.int .i64 0) := (N' BK257.out 0).trans rfl; have hcz101_1 : w98.cell? ⟨gb257, 1, none⟩ = some (.int .i64 0) := (N' BK257.out 1).trans rfl; have hcz101_2 : w98.cell? ⟨gb257, 2, none⟩ = some (.bool false) := (N' BK257.out 2).trans rfl; have hfz101_0 := Y' BK257.out 0; have hfz101_1 := Y' BK257.out 1; have hfz101_2 := Y' BK257.out 2; have hnb102 := NB249_234.out; have hnc102 := NB234_249.out; have hcz103_0 : w98.cell? ⟨gb249, 0, none⟩ = some (.int .i64 ((rd_T84 l0_1 x71_3).f0)) := (N' BK249.out 0).trans rfl; have hcz103_1 : w98.cell? ⟨gb249, 1, none⟩ = some (.int .i64 ((rd_T84 l0_1 x71_3).f1)) := (N' BK249.out 1).trans rfl; have hcz103_2 : w98.cell? ⟨gb249, 2, none⟩ = some (.bool ((rd_T84 l0_1 x71_3).f2)) := (N' BK249.out 2).trans rfl; have hfz103_0 := Y' BK249.out 0; have hfz103_1 := Y' BK249.out 1; have hfz103_2 := Y' BK249.out 2)); go_ret; exact ⟨qE, qK3 HB.out GE234.out GE249.out GE257.out⟩
                       ·rw [if_neg c97] at H; have c97b0 : (((rd_T84 y252 x117_5).f1) == ((rd_T84 l0_1 x71_3).f1)) = false := beq_eq_false_iff_ne.mpr c97; have c97b1 : (((rd_T84 y252 x117_5).f1) != ((rd_T84 l0_1 x71_3).f1)) = true := bne_iff_ne.mpr c97; have H' := A' H; clear H; have p256 : 0 ≤ (x117_5 : Int) := oD' qA; have q256 : x117_5 < (y252.length : Int) := oD' qA; obtain ⟨ad256, e256, hx256_0, hx256_1, hx256_2⟩ := at_T84 HR255.out x117_5 p256 q256; obtain rfl : ad248 = ad256 := (by injection e256)
                        try replace hx256_0 := qC HB.out hx256_0
                        try replace hx256_1 := qC HB.out hx256_1
                        try replace hx256_2 := qC HB.out hx256_2
                        replace p256 := eq_true p256; replace q256 := eq_true q256; go_wp2_with (first | ((with_reducible refine gate_dst (N := 10) rfl ?_); (try (refine gate_guard (by rfl) ?_; dsimp only)); refine box_event ?hg (N := 10) ?hd (cs := #[.int .i64 0, .int .i64 0, .bool false]) (t := 84) ?hr ?_; (case hd => rfl); (case hg => rfl); (case hr => first | (go_simp; done) | (go_simp; rfl)); intro gb257 hg w104 hbox hb; have n0_ := A' (O' (g := gb234) (qB BK234.out) hb); have n1_ := A' (O' (g := gb249) (qB BK249.out) hb); have n2_ := A' (W' (qK2 HB.out GE234.out GE249.out) hb); have n3_ := A' (hbox); have n4_ := A' ((by rw [hg]; exact (V' (qK2 HB.out GE234.out GE249.out)) : w.heap.size ≤ gb257)); have n5_ := A' ((by rw [hg]; exact (V' (qK2 HB.out GE234.out GE249.out)) : w.heap.size ≤ gb257)); have n6_ := A' ((by rw [hg]; exact Nat.ne_of_lt (bL' (g := gb234) (qB BK234.out)) : gb234 ≠ gb257)); have n7_ := A' ((by rw [hg]; exact Nat.ne_of_gt (bL' (g := gb234) (qB BK234.out)) : gb257 ≠ gb234)); have n8_ := A' ((by rw [hg]; exact Nat.ne_of_lt (bL' (g := gb249) (qB BK249.out)) : gb249 ≠ gb257)); have n9_ := A' ((by rw [hg]; exact Nat.ne_of_gt (bL' (g := gb249) (qB BK249.out)) : gb257 ≠ gb249)); clear BK234; clear BK249; clear HB; have BK234 := n0_; have BK249 := n1_; have HB := n2_; have BK257 := n3_; have GW257 := n4_; have GE257 := n5_; have NB234_257 := n6_; have NB257_234 := n7_; have NB249_257 := n8_; have NB257_249 := n9_; clear n0_ n1_ n2_ n3_ n4_ n5_ n6_ n7_ n8_ n9_; clear hb hbox hg; have hnb105 := NB257_234.out; have hnc105 := NB234_257.out; have hnb106 := NB257_249.out; have hnc106 := NB249_257.out; have hcz107_0 : w104.cell? ⟨gb257, 0, none⟩ = some (.int .i64 0) := (N' BK257.out 0).trans rfl; have hcz107_1 : w104.cell? ⟨gb257, 1, none⟩ = some (.int .i64 0) := (N' BK257.out 1).trans rfl; have hcz107_2 : w104.cell? ⟨gb257, 2, none⟩ = some (.bool false) := (N' BK257.out 2).trans rfl; have hfz107_0 := Y' BK257.out 0; have hfz107_1 := Y' BK257.out 1; have hfz107_2 := Y' BK257.out 2; have hnb108 := NB249_234.out; have hnc108 := NB234_249.out; have hcz109_0 : w104.cell? ⟨gb249, 0, none⟩ = some (.int .i64 ((rd_T84 l0_1 x71_3).f0)) := (N' BK249.out 0).trans rfl; have hcz109_1 : w104.cell? ⟨gb249, 1, none⟩ = some (.int .i64 ((rd_T84 l0_1 x71_3).f1)) := (N' BK249.out 1).trans rfl; have hcz109_2 : w104.cell? ⟨gb249, 2, none⟩ = some (.bool ((rd_T84 l0_1 x71_3).f2)) := (N' BK249.out 2).trans rfl; have hfz109_0 := Y' BK249.out 0; have hfz109_1 := Y' BK249.out 1; have hfz109_2 := Y' BK249.out 2))
                        go_roundg k5
                        case measure => have := HJ1.out; have := HK2.out; have := HK3.out; have := HJ60.out; have := HK5.out; omega
                        case rel => exact ⟨(wrap64 (x117_5 + 1)), qS, H', ⟨by have := HJ1.out; have := HK2.out; have := HK3.out; have := HJ60.out; have := HK5.out; omega⟩, ⟨qG3 BK234.out NB234_257.out NB234_257.out NB234_257.out⟩, ⟨qG3 BK249.out NB249_257.out NB249_257.out NB249_257.out⟩, ⟨qK3 HB.out GE234.out GE249.out GE257.out⟩⟩
                      ·rw [if_neg c96] at H; have c96b0 : (((rd_T84 y252 x117_5).f0) == ((rd_T84 l0_1 x71_3).f0)) = false := beq_eq_false_iff_ne.mpr c96; have c96b1 : (((rd_T84 y252 x117_5).f0) != ((rd_T84 l0_1 x71_3).f0)) = true := bne_iff_ne.mpr c96; have H' := A' H; clear H; have p256 : 0 ≤ (x117_5 : Int) := oD' qA; have q256 : x117_5 < (y252.length : Int) := oD' qA; obtain ⟨ad256, e256, hx256_0, hx256_1, hx256_2⟩ := at_T84 HR255.out x117_5 p256 q256; obtain rfl : ad248 = ad256 := (by injection e256)
                       try replace hx256_0 := qC HB.out hx256_0
                       try replace hx256_1 := qC HB.out hx256_1
                       try replace hx256_2 := qC HB.out hx256_2
                       replace p256 := eq_true p256; replace q256 := eq_true q256; go_wp2_with (first | ((with_reducible refine gate_dst (N := 10) rfl ?_); (try (refine gate_guard (by rfl) ?_; dsimp only)); refine box_event ?hg (N := 10) ?hd (cs := #[.int .i64 0, .int .i64 0, .bool false]) (t := 84) ?hr ?_; (case hd => rfl); (case hg => rfl); (case hr => first | (go_simp; done) | (go_simp; rfl)); intro gb257 hg w110 hbox hb; have n0_ := A' (O' (g := gb234) (qB BK234.out) hb); have n1_ := A' (O' (g := gb249) (qB BK249.out) hb); have n2_ := A' (W' (qK2 HB.out GE234.out GE249.out) hb); have n3_ := A' (hbox); have n4_ := A' ((by rw [hg]; exact (V' (qK2 HB.out GE234.out GE249.out)) : w.heap.size ≤ gb257)); have n5_ := A' ((by rw [hg]; exact (V' (qK2 HB.out GE234.out GE249.out)) : w.heap.size ≤ gb257)); have n6_ := A' ((by rw [hg]; exact Nat.ne_of_lt (bL' (g := gb234) (qB BK234.out)) : gb234 ≠ gb257)); have n7_ := A' ((by rw [hg]; exact Nat.ne_of_gt (bL' (g := gb234) (qB BK234.out)) : gb257 ≠ gb234)); have n8_ := A' ((by rw [hg]; exact Nat.ne_of_lt (bL' (g := gb249) (qB BK249.out)) : gb249 ≠ gb257)); have n9_ := A' ((by rw [hg]; exact Nat.ne_of_gt (bL' (g := gb249) (qB BK249.out)) : gb257 ≠ gb249)); clear BK234; clear BK249; clear HB; have BK234 := n0_; have BK249 := n1_; have HB := n2_; have BK257 := n3_; have GW257 := n4_; have GE257 := n5_; have NB234_257 := n6_; have NB257_234 := n7_; have NB249_257 := n8_; have NB257_249 := n9_; clear n0_ n1_ n2_ n3_ n4_ n5_ n6_ n7_ n8_ n9_; clear hb hbox hg; have hnb111 := NB257_234.out; have hnc111 := NB234_257.out; have hnb112 := NB257_249.out; have hnc112 := NB249_257.out; have hcz113_0 : w110.cell? ⟨gb257, 0, none⟩ = some (.int .i64 0) := (N' BK257.out 0).trans rfl; have hcz113_1 : w110.cell? ⟨gb257, 1, none⟩ = some (.int .i64 0) := (N' BK257.out 1).trans rfl; have hcz113_2 : w110.cell? ⟨gb257, 2, none⟩ = some (.bool false) := (N' BK257.out 2).trans rfl; have hfz113_0 := Y' BK257.out 0; have hfz113_1 := Y' BK257.out 1; have hfz113_2 := Y' BK257.out 2; have hnb114 := NB249_234.out; have hnc114 := NB234_249.out; have hcz115_0 : w110.cell? ⟨gb249, 0, none⟩ = some (.int .i64 ((rd_T84 l0_1 x71_3).f0)) := (N' BK249.out 0).trans rfl; have hcz115_1 : w110.cell? ⟨gb249, 1, none⟩ = some (.int .i64 ((rd_T84 l0_1 x71_3).f1)) := (N' BK249.out 1).trans rfl; have hcz115_2 : w110.cell? ⟨gb249, 2, none⟩ = some (.bool ((rd_T84 l0_1 x71_3).f2)) := (N' BK249.out 2).trans rfl; have hfz115_0 := Y' BK249.out 0; have hfz115_1 := Y' BK249.out 1; have hfz115_2 := Y' BK249.out 2))
                       go_roundg k5
                       case measure => have := HJ1.out; have := HK2.out; have := HK3.out; have := HJ60.out; have := HK5.out; omega
                       case rel => exact ⟨(wrap64 (x117_5 + 1)), qS, H', ⟨by have := HJ1.out; have := HK2.out; have := HK3.out; have := HJ60.out; have := HK5.out; omega⟩, ⟨qG3 BK234.out NB234_257.out NB234_257.out NB234_257.out⟩, ⟨qG3 BK249.out NB249_257.out NB249_257.out NB249_257.out⟩, ⟨qK3 HB.out GE234.out GE249.out GE257.out⟩⟩
                     ·rw [if_neg c95] at H; exact absurd H (by simp)
                    ·rw [if_neg c94] at H; exact absurd H (by simp)
                   ·rw [if_neg c93] at H; have c93b0 : decide (x117_5 < (y252.length : Int)) = false := dF' c93; clear c93; have H' := A' H; clear H; go_wp2
                    go_roundg k5
                    case measure => have := HJ1.out; have := HK2.out; have := HK3.out; have := HJ60.out; have := HK5.out; omega
                    case rel => exact ⟨(wrap64 (x71_3 + 1)), qS, H', ⟨by have := HJ1.out; have := HK2.out; have := HK3.out; have := HJ60.out; have := HK5.out; omega⟩, ⟨qB BK234.out⟩, ⟨qK2 HB.out GE234.out GE249.out⟩⟩
                ·rw [if_neg c89] at H; exact absurd H (by simp)
               ·rw [if_neg c88] at H; exact absurd H (by simp)
           ·rw [if_neg c60] at H; exact absurd H (by simp)
          ·rw [if_neg c59] at H; exact absurd H (by simp)
         ·rw [if_neg c58] at H; have c58b0 : decide (x71_3 < (l0_1.length : Int)) = false := dF' c58; clear c58; obtain rfl := Option.some.inj H; go_wp2; go_ret; exact ⟨qE, qK1 HB.out GE234.out⟩

end Go.Proofs.Ytacijlpnpkhjaaa.HBal
