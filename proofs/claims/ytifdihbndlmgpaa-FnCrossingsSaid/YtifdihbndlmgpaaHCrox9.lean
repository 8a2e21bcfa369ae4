-- Written by a program for this claim (the functions that the statement reaches, and that the program's code comes to them).
import Derived.Test.YtifdihbndlmgpaaHCrox0
import Derived.Test.YtifdihbndlmgpaaHCrox1
import Derived.Test.YtifdihbndlmgpaaHCrox2
import Derived.Test.YtifdihbndlmgpaaHCrox3
import Derived.Test.YtifdihbndlmgpaaHCrox4
import Derived.Test.YtifdihbndlmgpaaHCrox7
import Derived.Test.YtifdihbndlmgpaaHCrox8
namespace Go.Proofs.Ytifdihbndlmgpaa.HCro
open Go.RowKit Go.Proofs.YtifdihbndlmgpaaW.PrintWords Go.Proofs.YtifdihbndlmgpaaW.PrintLast Go.Proofs.YtifdihbndlmgpaaW.PrintMore
attribute [local go_sem] max2_int min2_int max_two min_two max_three min_three max_four min_four   -- for this text's walks alone
set_option linter.unusedVariables false
set_option linter.unusedSimpArgs false

attribute [local go_sem high] eqA53
/-! ### spec_l07Fault: function 58 -/
mutual
def spec_l07Fault.l0 : Nat → List (S53) → Int → Int → Int → Int → Bool → Option (ByteArray × Int × Int × Int × Bool)
 | 0, _, _, _, _, _, _ => none
 | k + 1, x1, x6, x7, x1000, x1001, x1002 => if x7 < (x1.length : Int) then (if 0 ≤ x7 then (if ((rd_T53 x1 x7).f0) = x6 then ((spec_l07Many.f x1000 x1001 x1002 x6).bind fun bt429 => ((spec_l00In.f ((rd_T53 x1 x7).f1) 0 (wrap64 (bt429.1 - 1))).bind fun t433 => (if t433 = true then (spec_l07Fault.l1 k x1 x6 x7 0 bt429.2.1 bt429.2.2.1 bt429.2.2.2 ((rd_T53 x1 x7).f0) ((rd_T53 x1 x7).f1)) else (some ((⟨#[115, 104, 101, 97, 118, 101]⟩ : ByteArray), x7, bt429.2.1, bt429.2.2.1, bt429.2.2.2))))) else (some ((⟨#[98, 108, 111, 99, 107]⟩ : ByteArray), x7, x1000, x1001, x1002))) else (none)) else (if (x1.length : Int) < (wrap64 (x1000 + x1001)) then (some ((⟨#[115, 104, 111, 114, 116]⟩ : ByteArray), (x1.length : Int), x1000, x1001, x1002)) else (some ((⟨#[110, 111, 110, 101]⟩ : ByteArray), (-1), x1000, x1001, x1002)))
def spec_l07Fault.l1 : Nat → List (S53) → Int → Int → Int → Int → Int → Bool → Int → Int → Option (ByteArray × Int × Int × Int × Bool)
 | 0, _, _, _, _, _, _, _, _, _ => none
 | k + 1, x1, x6, x7, x9, x1000, x1001, x1002, x429000, x429001 => if x9 < x7 then (if 0 ≤ x9 then (if x9 < (x1.length : Int) then (if (((rd_T53 x1 x9).f0) == x429000 && (((rd_T53 x1 x9).f1) == x429001)) = true then (some ((⟨#[116, 119, 105, 99, 101]⟩ : ByteArray), x7, x1000, x1001, x1002)) else (spec_l07Fault.l1 k x1 x6 x7 (wrap64 (x9 + 1)) x1000 x1001 x1002 x429000 x429001)) else (none)) else (none)) else (spec_l07Fault.l0 k x1 (wrap64 (1 - x6)) (wrap64 (x7 + 1)) x1000 x1001 x1002)
end
def spec_l07Fault.f (k : Nat) (s0_0 : Int) (s0_1 : Int) (s0_2 : Bool) (l1 : List (S53)) : Option (ByteArray × Int × Int × Int × Bool) := (spec_l07First.f s0_0 s0_1 s0_2).bind fun bt423 => (spec_l07Fault.l0 k l1 bt423.1 0 bt423.2.1 bt423.2.2.1 bt423.2.2.2)
theorem spec_l07Fault.mono_l : ∀ k, (∀ y0 y1 y2 y3 y4 y5, LeO (spec_l07Fault.l0 k y0 y1 y2 y3 y4 y5) (spec_l07Fault.l0 (k + 1) y0 y1 y2 y3 y4 y5)) ∧ (∀ y0 y1 y2 y3 y4 y5 y6 y7 y8, LeO (spec_l07Fault.l1 k y0 y1 y2 y3 y4 y5 y6 y7 y8) (spec_l07Fault.l1 (k + 1) y0 y1 y2 y3 y4 y5 y6 y7 y8))
 | 0 => ⟨fun _ _ _ _ _ _ r h => by simp [spec_l07Fault.l0] at h, fun _ _ _ _ _ _ _ _ _ r h => by simp [spec_l07Fault.l1] at h⟩
 | k + 1 => by
  obtain ⟨ih0, ih1⟩ := spec_l07Fault.mono_l k
  refine ⟨?_, ?_⟩
  ·intro y0 y1 y2 y3 y4 y5
   unfold spec_l07Fault.l0
   repeat' first
   | (with_reducible exact ih0 _ _ _ _ _ _)
   | (with_reducible exact ih1 _ _ _ _ _ _ _ _ _)
   | (with_reducible exact LeO.refl _)
   | (with_reducible exact LeO.none _)
   | (with_reducible refine LeO.ite ?_ ?_)
   | (with_reducible refine LeO.bind ?_ (fun _ => ?_))
   | exact ih0 _ _ _ _ _ _
   | exact ih1 _ _ _ _ _ _ _ _ _
   | exact LeO.none _
   | refine LeO.ite ?_ ?_
   | refine LeO.bind ?_ (fun _ => ?_)
  ·intro y0 y1 y2 y3 y4 y5 y6 y7 y8
   unfold spec_l07Fault.l1
   repeat' first
   | (with_reducible exact ih0 _ _ _ _ _ _)
   | (with_reducible exact ih1 _ _ _ _ _ _ _ _ _)
   | (with_reducible exact LeO.refl _)
   | (with_reducible exact LeO.none _)
   | (with_reducible refine LeO.ite ?_ ?_)
   | (with_reducible refine LeO.bind ?_ (fun _ => ?_))
   | exact ih0 _ _ _ _ _ _
   | exact ih1 _ _ _ _ _ _ _ _ _
   | exact LeO.none _
   | refine LeO.ite ?_ ?_
   | refine LeO.bind ?_ (fun _ => ?_)
theorem spec_l07Fault.mono : ∀ a0 a1 a2 a3 k, LeO (spec_l07Fault.f k a0 a1 a2 a3) (spec_l07Fault.f (k + 1) a0 a1 a2 a3) := by
 intro a0 a1 a2 a3 k
 obtain ⟨ih0, ih1⟩ := spec_l07Fault.mono_l k
 unfold spec_l07Fault.f
 repeat' first
   | (with_reducible exact ih0 _ _ _ _ _ _)
   | (with_reducible exact ih1 _ _ _ _ _ _ _ _ _)
   | (with_reducible exact LeO.refl _)
   | (with_reducible exact LeO.none _)
   | (with_reducible refine LeO.ite ?_ ?_)
   | (with_reducible refine LeO.bind ?_ (fun _ => ?_))
   | exact ih0 _ _ _ _ _ _
   | exact ih1 _ _ _ _ _ _ _ _ _
   | exact LeO.none _
   | refine LeO.ite ?_ ?_
   | refine LeO.bind ?_ (fun _ => ?_)
def spec_l07Fault.T8 : Bool × List (List Nat × List Nat) := (true, [([], []), ([0], [0]), ([], []), ([], []), ([2, 3], [2, 3]), ([4], [4]), ([1, 5, 4], [1, 5]), ([6], [6])])
def spec_l07Fault.B8 : List Nat := [0, 1, 0, 0, 12, 28, 63, 127]
theorem spec_l07Fault.tab8 : rtab .any (opsOf Try.f58 8) = spec_l07Fault.T8 := by kernel_rfl
theorem spec_l07Fault.bits8 : waitsOk spec_l07Fault.T8.2 spec_l07Fault.B8 = true := by kernel_rfl
def spec_l07Fault.T16 : Bool × List (List Nat × List Nat) := (true, [([], []), ([0], [0]), ([], []), ([2], [2]), ([3], [3]), ([4], [4]), ([], []), ([6], [6]), ([7], [7]), ([8], [8]), ([5, 9], [5, 9]), ([1, 10], [1, 10])])
def spec_l07Fault.B16 : List Nat := [0, 1, 0, 4, 12, 28, 0, 64, 192, 448, 1020, 2047]
theorem spec_l07Fault.tab16 : rtab .any (opsOf Try.f58 16) = spec_l07Fault.T16 := by kernel_rfl
theorem spec_l07Fault.bits16 : waitsOk spec_l07Fault.T16.2 spec_l07Fault.B16 = true := by kernel_rfl
set_option maxHeartbeats 8000000 in
set_option maxRecDepth 100000 in
theorem spec_l07Fault.calls (k : Nat) (g : Nat) (s0_0 : Int) (s0_1 : Int) (s0_2 : Bool) (A1 : Option Addr) (c1 : Nat) (l1 : List (S53)) (r1 : ByteArray) (r2 : Int) (r3 : Int) (r4 : Int) (r5 : Bool) (w0 w : World) (hI : IsS26 w0 w g s0_0 s0_1 s0_2) (hB : Below w0.heap.size w0 w) (hr1 : ∀ W_, KeepBut w W_ g none → Kd.C k53 W_ A1 l1.length l1) (hc1 : l1.length ≤ c1) (h : spec_l07Fault.f k s0_0 s0_1 s0_2 l1 = some (r1, r2, r3, r4, r5)) :
  Calls Try.prog 58 #[.pointer (some ⟨g, 0, none⟩), .slice A1 l1.length c1] w fun e w' => e = .returned (.tuple #[.string r1, .int .i64 r2]) ∧ IsS26 w0 w' g r3 r4 r5 ∧ Below w0.heap.size w0 w' ∧ KeepBut w w' g none := by
 have hu53 := Try.underlying53; have HR1 := A' hr1; have HC1 := A' hc1; clear hr1 hc1; have HI0 := A' hI; have HK := A' (KeepBut.refl w g none); have HL := A' hB.size; clear hI; have HW0 := A' hB.size; have HB := A' hB; clear hB; have H : ((spec_l07First.f s0_0 s0_1 s0_2).bind fun bt423 => (spec_l07Fault.l0 k l1 bt423.1 0 bt423.2.1 bt423.2.2.1 bt423.2.2.2)) = some (r1, r2, r3, r4, r5) := h; clear h; replace H := Option.bind_eq_some_iff.mp H; obtain ⟨⟨t423, t424, t425, t426⟩, A30, H⟩ := H; replace H : (spec_l07Fault.l0 k l1 t423 0 t424 t425 t426) = some (r1, r2, r3, r4, r5) := H; have A3 := A' A30; clear A30; have H' := A' H; clear H; go_enter Try.func58, Try.ntmps58; go_wp2_with (first | ((with_reducible refine gate_callee (f := 51) rfl ?_); refine goesL_ (some 11) rfl rfl Try.func51 (by kernel_rfl) rfl #[.pointer (some ⟨g, 0, none⟩)] rfl (by (try simp only [List.map_toArray, List.map_cons, List.map_nil]); first | done | rfl | (simp only [List.length_drop, List.length_take]; rfl)) ?_; (with_reducible refine (spec_l07First.calls g s0_0 s0_1 s0_2 t423 t424 t425 t426 w0 _ ?side1 ?side2 A3.out).mono ?_); (case side1 => repeat (first | (with_reducible first | exact HI0.out | apply IsS26.alloc | apply IsS26.drewN | apply IsS26.drew | apply IsS26.set_0 | apply IsS26.set_1 | apply IsS26.set_2) | exact HI0.out)); (case side2 => repeat (first | (with_reducible first | exact HB.out | apply K' | apply F' | apply J' | refine E' ?_ (IsS26.ge HI0.out)) | exact HB.out)); rintro e w4 ⟨rfl, hi, hb, hk⟩; refine ⟨_, rfl, ?_⟩; have n0_ := A' (KeepBut.trans (by repeat (first | (with_reducible first | exact HK.out | apply KeepBut.set_ | apply keep_drewN | apply keep_drew | apply keep_alloc) | exact HK.out)) hk (.inl rfl)); have n1_ := A' (hb); have n2_ := A' (hi); clear HK; clear HB; clear HI0; have HK := n0_; have HB := n1_; have HI0 := n2_; clear n0_ n1_ n2_; (try clear hb); (try clear hb2); (try clear hk); (try clear hi)))
 go_loopg [6, 7] k (fun kq v6 v7 w' => ∃ (x6_1 : Int) (x7_1 : Int) (x1000_1 : Int) (x1001_1 : Int) (x1002_1 : Bool), v6 = .int .i64 x6_1 ∧ v7 = .int .i64 x7_1 ∧ Aside0 (spec_l07Fault.l0 kq l1 x6_1 x7_1 x1000_1 x1001_1 x1002_1 = some (r1, r2, r3, r4, r5)) ∧ Aside0 (kq ≤ k) ∧ Aside0 (IsS26 w0 w' g x1000_1 x1001_1 x1002_1) ∧ Aside0 (KeepBut w w' g none) ∧ Aside0 (Below w0.heap.size w0 w'))
 case atStart => exact ⟨(t423), (0), (t424), (t425), (t426), qS, qS, H', ⟨Nat.le_refl _⟩, ⟨by repeat (first | (with_reducible first | exact HI0.out | apply IsS26.alloc | apply IsS26.drewN | apply IsS26.drew | apply IsS26.set_0 | apply IsS26.set_1 | apply IsS26.set_2) | exact HI0.out)⟩, ⟨by repeat (first | (with_reducible first | exact HK.out | apply KeepBut.set_ | apply keep_drewN | apply keep_drew | apply keep_alloc) | exact HK.out)⟩, ⟨by repeat (first | (with_reducible first | exact HB.out | apply K' | apply F' | apply J' | refine E' ?_ (IsS26.ge HI0.out)) | exact HB.out)⟩⟩
 case round =>
  clear H'; try clear c1
  try clear p2
  obtain ⟨x6_1, x7_1, x1000_1, x1001_1, x1002_1, rfl, rfl, HA, HK1, HI0, HK, HB⟩ := hrel
  cases gk with
  | zero => exact absurd HA.out (by simp [spec_l07Fault.l0])
  | succ k1 =>
   have H := HA.out; clear HA; simp only [spec_l07Fault.l0] at H
   by_cases c5 : x7_1 < (l1.length : Int)
   ·rw [if_pos c5] at H; have c5b0 : decide (x7_1 < (l1.length : Int)) = true := dT' c5; clear c5
    by_cases c6 : 0 ≤ x7_1
    ·rw [if_pos c6] at H; have c6b0 : decide (0 ≤ x7_1) = true := dT' c6; clear c6
     by_cases c7 : ((rd_T53 l1 x7_1).f0) = x6_1
     ·rw [if_pos c7] at H; have c7b0 : (((rd_T53 l1 x7_1).f0) == x6_1) = true := beq_iff_eq.mpr c7; have c7b1 : (((rd_T53 l1 x7_1).f0) != x6_1) = false := bne_eq_false_iff_eq.mpr c7; clear c7; replace H := Option.bind_eq_some_iff.mp H; obtain ⟨⟨t429, t430, t431, t432⟩, A80, H⟩ := H; replace H : ((spec_l00In.f ((rd_T53 l1 x7_1).f1) 0 (wrap64 (t429 - 1))).bind fun t433 => (if t433 = true then (spec_l07Fault.l1 k1 l1 x6_1 x7_1 0 t430 t431 t432 ((rd_T53 l1 x7_1).f0) ((rd_T53 l1 x7_1).f1)) else (some ((⟨#[115, 104, 101, 97, 118, 101]⟩ : ByteArray), x7_1, t430, t431, t432)))) = some (r1, r2, r3, r4, r5) := H; have A8 := A' A80; clear A80; replace H := Option.bind_eq_some_iff.mp H; obtain ⟨t433, A90, H⟩ := H; replace H : (if t433 = true then (spec_l07Fault.l1 k1 l1 x6_1 x7_1 0 t430 t431 t432 ((rd_T53 l1 x7_1).f0) ((rd_T53 l1 x7_1).f1)) else (some ((⟨#[115, 104, 101, 97, 118, 101]⟩ : ByteArray), x7_1, t430, t431, t432))) = some (r1, r2, r3, r4, r5) := H; have A9 := A' A90; clear A90
      by_cases c10 : t433 = true
      ·subst c10; have H1 : (spec_l07Fault.l1 k1 l1 x6_1 x7_1 0 t430 t431 t432 ((rd_T53 l1 x7_1).f0) ((rd_T53 l1 x7_1).f1)) = some (r1, r2, r3, r4, r5) := by rw [if_pos rfl] at H; exact H
       clear H; have H := H1; clear H1; have H' := A' H; clear H; have p427 : 0 ≤ (x7_1 : Int) := oD' qA; have q427 : x7_1 < (l1.length : Int) := oD' qA; obtain ⟨ad427, e427, hx427_0, hx427_1⟩ := at_T53 (Kd.C_foot_now HR1.out HK.out) x7_1 p427 q427
       cases e427
       replace p427 := eq_true p427; replace q427 := eq_true q427; try go_wp2_with (first | ((with_reducible refine gate_dst (N := 8) rfl ?_); refine box_event ?hg (N := 8) ?hd (cs := #[.int .i64 0, .int .i64 0]) (t := 53) ?hr ?_; (case hd => rfl); (case hg => rfl); (case hr => first | (go_simp; done) | (go_simp; rfl)); intro gb428 hg w11 hbox hb; have n0_ := A' (IsS26.below (by repeat (first | (with_reducible first | exact HI0.out | apply IsS26.alloc | apply IsS26.drewN | apply IsS26.drew | apply IsS26.set_0 | apply IsS26.set_1 | apply IsS26.set_2) | exact HI0.out)) hb); have n1_ := A' (KeepBut.trans (by repeat (first | (with_reducible first | exact HK.out | apply KeepBut.set_ | apply keep_drewN | apply keep_drew | apply keep_alloc) | exact HK.out)) (KeepBut.of_below hb g none) (.inl rfl)); have n2_ := A' (W' (by repeat (first | (with_reducible first | exact HB.out | apply K' | apply F' | apply J' | refine E' ?_ (IsS26.ge HI0.out)) | exact HB.out)) hb); have n3_ := A' (hbox); have n4_ := A' ((by rw [hg]; exact (keep_size (w := w) (g := g) (row := none) (by repeat (first | (with_reducible first | exact HK.out | apply KeepBut.set_ | apply keep_drewN | apply keep_drew | apply keep_alloc) | exact HK.out))) : w.heap.size ≤ gb428)); have n5_ := A' ((Nat.le_trans HW0.out (by rw [hg]; exact (keep_size (w := w) (g := g) (row := none) (by repeat (first | (with_reducible first | exact HK.out | apply KeepBut.set_ | apply keep_drewN | apply keep_drew | apply keep_alloc) | exact HK.out))) : w.heap.size ≤ gb428) : w0.heap.size ≤ gb428)); have n6_ := A' ((by rw [hg]; exact Nat.ne_of_lt (IsS26.lt (show IsS26 w0 _ g x1000_1 x1001_1 x1002_1 from by repeat (first | (with_reducible first | exact HI0.out | apply IsS26.alloc | apply IsS26.drewN | apply IsS26.drew | apply IsS26.set_0 | apply IsS26.set_1 | apply IsS26.set_2) | exact HI0.out))) : g ≠ gb428)); have n7_ := A' ((by rw [hg]; exact Nat.ne_of_gt (IsS26.lt (show IsS26 w0 _ g x1000_1 x1001_1 x1002_1 from by repeat (first | (with_reducible first | exact HI0.out | apply IsS26.alloc | apply IsS26.drewN | apply IsS26.drew | apply IsS26.set_0 | apply IsS26.set_1 | apply IsS26.set_2) | exact HI0.out))) : gb428 ≠ g)); clear HI0; clear HK; clear HB; have HI0 := n0_; have HK := n1_; have HB := n2_; have BK428 := n3_; have GW428 := n4_; have GE428 := n5_; have NB0_428 := n6_; have NB428_0 := n7_; clear n0_ n1_ n2_ n3_ n4_ n5_ n6_ n7_; clear hb hbox hg; have hnb12 := NB428_0.out; have hnc12 := NB0_428.out; have hcz13_0 : w11.cell? ⟨gb428, 0, none⟩ = some (.int .i64 0) := (N' BK428.out 0).trans rfl; have hcz13_1 : w11.cell? ⟨gb428, 1, none⟩ = some (.int .i64 0) := (N' BK428.out 1).trans rfl; have hfz13_0 := Y' BK428.out 0; have hfz13_1 := Y' BK428.out 1))
       have n0_ : Aside0 (((w11.setCell ⟨gb428, 0, none⟩ (.int .i64 ((rd_T53 l1 x7_1).f0))).setCell ⟨gb428, 1, none⟩ (.int .i64 ((rd_T53 l1 x7_1).f1))).heap[gb428]? = some (.cells #[.int .i64 ((rd_T53 l1 x7_1).f0), .int .i64 ((rd_T53 l1 x7_1).f1)] 53 (0, 0))) := ⟨by (with_reducible repeat (first | refine G' ?_ _ | refine I' ?_ | refine H' ?_ _)); refine blk_put (cs := #[.int .i64 ((rd_T53 l1 x7_1).f0), .int .i64 0]) ?_ 1 _ rfl; (with_reducible repeat (first | refine G' ?_ _ | refine I' ?_ | refine H' ?_ _)); refine blk_put (cs := #[.int .i64 0, .int .i64 0]) ?_ 0 _ rfl; (with_reducible repeat (first | refine G' ?_ _ | refine I' ?_ | refine H' ?_ _)); exact BK428.out⟩
       have n1_ : Aside0 (IsS26 w0 ((w11.setCell ⟨gb428, 0, none⟩ (.int .i64 ((rd_T53 l1 x7_1).f0))).setCell ⟨gb428, 1, none⟩ (.int .i64 ((rd_T53 l1 x7_1).f1))) g x1000_1 x1001_1 x1002_1) := ⟨by repeat (first | (with_reducible first | exact HI0.out | apply IsS26.alloc | apply IsS26.drewN | apply IsS26.drew | apply IsS26.set_0 | apply IsS26.set_1 | apply IsS26.set_2 | refine IsS26.far ?_ NB0_428.out _) | exact HI0.out)⟩
       have n2_ : Aside0 (KeepBut w ((w11.setCell ⟨gb428, 0, none⟩ (.int .i64 ((rd_T53 l1 x7_1).f0))).setCell ⟨gb428, 1, none⟩ (.int .i64 ((rd_T53 l1 x7_1).f1))) g none) := ⟨by repeat (first | (with_reducible first | exact HK.out | apply KeepBut.set_ | apply keep_drewN | apply keep_drew | apply keep_alloc | refine keep_far ?_ GW428.out _) | exact HK.out)⟩
       have n3_ : Aside0 (Below w0.heap.size w0 ((w11.setCell ⟨gb428, 0, none⟩ (.int .i64 ((rd_T53 l1 x7_1).f0))).setCell ⟨gb428, 1, none⟩ (.int .i64 ((rd_T53 l1 x7_1).f1)))) := ⟨by repeat (first | (with_reducible first | exact HB.out | apply K' | apply F' | apply J' | refine E' ?_ (IsS26.ge HI0.out) | refine E' ?_ GE428.out) | exact HB.out)⟩
       (try clear BK428); (try clear HI0); (try clear HK); (try clear HB)
       generalize ((w11.setCell ⟨gb428, 0, none⟩ (.int .i64 ((rd_T53 l1 x7_1).f0))).setCell ⟨gb428, 1, none⟩ (.int .i64 ((rd_T53 l1 x7_1).f1))) = w14 at n0_ n1_ n2_ n3_ ⊢
       have BK428 := n0_; have HI0 := n1_; have HK := n2_; have HB := n3_; clear n0_ n1_ n2_ n3_; have n0_ := A' (I' BK428.out); have n1_ := A' (IsS26.drew HI0.out); have n2_ := A' (keep_drew HK.out); have n3_ := A' (J' HB.out); clear BK428; clear HI0; clear HK; clear HB; have BK428 := n0_; have HI0 := n1_; have HK := n2_; have HB := n3_; clear n0_ n1_ n2_ n3_; refine start_ (n := 8) (S := fun w' => w'.cell? ⟨gb428, 0, none⟩ = some (.int .i64 ((rd_T53 l1 x7_1).f0)) ∧ w'.cell? ⟨gb428, 1, none⟩ = some (.int .i64 ((rd_T53 l1 x7_1).f1))) (ds := []) #[n', n', n', n', n', n', n', n'] (by kernel_rfl) rfl rfl ⟨(N' BK428.out 0).trans rfl, (N' BK428.out 1).trans rfl⟩ (fun hHeld => ?_); refine with_tabW spec_l07Fault.tab8 spec_l07Fault.bits8 (fun HT_ HW_ => ?_)
       generalize w14.drew = w15 at BK428 HI0 HK HB hHeld ⊢
       refine pure_ (i := 0) (N := some 27) (v := ?_) (a' := ?_) #[y', n', n', n', n', n', n', n'] rfl rfl (any_of HT_.out (by kernel_rfl)) (fun _ _ _ h => h) (Or.inl ⟨by rfl, ?_⟩) ?_ ?_; rotate_left
       ·exact qI
       rotate_left
       ·exact qP
       refine pure_ (i := 2) (N := some 29) (v := ?_) (a' := ?_) #[y', n', y', n', n', n', n', n'] rfl rfl (any_of HT_.out (by kernel_rfl)) (fun _ _ _ h => h) (Or.inl ⟨by rfl, ?_⟩) ?_ ?_; rotate_left
       ·exact qI
       rotate_left
       ·exact qP
       refine pure_ (i := 3) (N := some 30) (v := ?_) (a' := ?_) #[y', n', y', y', n', n', n', n'] rfl rfl (any_of HT_.out (by kernel_rfl)) (fun _ _ _ h => h) (Or.inl ⟨by rfl, ?_⟩) ?_ ?_; rotate_left
       ·exact qI
       rotate_left
       ·exact qP
       refine take_ (i := 1) (N := some 28) (v := ?_) (a' := ?_) #[y', y', y', y', n', n', n', n'] rfl rfl (take_ofW HT_.out HW_.out (by kernel_rfl)) (fun _ _ _ h => h) (Or.inl ⟨by rfl, ?_⟩) hHeld ?_ ?_; rotate_left
       ·rintro w' ⟨s0, s1⟩; go_simp; with_reducible rfl
       rotate_left
       ·exact qP
       refine one_ (i := 4) (N := some 31) #[y', y', y', y', y', n', n', n'] rfl rfl (one_of HT_.out (by kernel_rfl)) (by decide) (fun K hK => ?_); refine goes_ Try.func49 (by kernel_rfl) rfl #[.pointer (some ⟨g, 0, none⟩), .int .i64 x6_1] (by rfl) rfl rfl (by (try simp only [List.map_toArray, List.map_cons, List.map_nil]); first | done | rfl | (simp only [List.length_drop, List.length_take]; rfl)) ?_
       with_reducible refine (spec_l07Many.calls g x1000_1 x1001_1 x1002_1 x6_1 t429 t430 t431 t432 w0 _ ?side1 ?side2 A8.out).mono ?_
       (case side1 => repeat (first | (with_reducible first | exact HI0.out | apply IsS26.alloc | apply IsS26.drewN | apply IsS26.drew | apply IsS26.set_0 | apply IsS26.set_1 | apply IsS26.set_2 | refine IsS26.far ?_ NB0_428.out _) | exact HI0.out)); (case side2 => repeat (first | (with_reducible first | exact HB.out | apply K' | apply F' | apply J' | refine E' ?_ (IsS26.ge HI0.out) | refine E' ?_ GE428.out) | exact HB.out)); rintro e w16 ⟨rfl, hi, hb, hk⟩; refine ⟨_, rfl, ?_⟩; have n0_ := A' (KeepBut.blk hk (g' := gb428) (o := .cells #[.int .i64 ((rd_T53 l1 x7_1).f0), .int .i64 ((rd_T53 l1 x7_1).f1)] 53 (0, 0)) (qB BK428.out) NB428_0.out (by simp)); have n1_ := A' (KeepBut.trans (by repeat (first | (with_reducible first | exact HK.out | apply KeepBut.set_ | apply keep_drewN | apply keep_drew | apply keep_alloc | refine keep_far ?_ GW428.out _) | exact HK.out)) hk (.inl rfl)); have n2_ := A' (hb); have n3_ := A' (hi); clear BK428; clear HK; clear HB; clear HI0; have BK428 := n0_; have HK := n1_; have HB := n2_; have HI0 := n3_; clear n0_ n1_ n2_ n3_; (try clear hb); (try clear hb2); (try clear hk); (try clear hi); refine hK.out _ _ ⟨(N' BK428.out 0).trans rfl, (N' BK428.out 1).trans rfl⟩ (fun hHeld => ?_); clear hK K; refine norm_ (a' := ?_) ?_ ?_; rotate_left
       ·show Act.put _ (some 31) _ = _
        exact qP
       refine pure_ (i := 5) (N := some 32) (v := ?_) (a' := ?_) #[y', y', y', y', y', y', n', n'] rfl rfl (any_of HT_.out (by kernel_rfl)) (fun _ _ _ h => h) (Or.inl ⟨by rfl, ?_⟩) ?_ ?_; rotate_left
       ·exact qI
       rotate_left
       ·exact qP
       refine one_ (i := 6) (N := some 33) #[y', y', y', y', y', y', y', n'] rfl rfl (one_of HT_.out (by kernel_rfl)) (by decide) (fun K hK => ?_); refine goes_ Try.func48 (by kernel_rfl) rfl #[.int .i64 ((rd_T53 l1 x7_1).f1), .int .i64 0, .int .i64 (wrap64 (t429 - 1))] (by rfl) rfl rfl (by (try simp only [List.map_toArray, List.map_cons, List.map_nil]); first | done | rfl | (simp only [List.length_drop, List.length_take]; rfl)) ?_
       with_reducible refine (spec_l00In.calls ((rd_T53 l1 x7_1).f1) 0 (wrap64 (t429 - 1)) true _ A9.out).mono ?_
       rintro e w' ⟨rfl, ⟨nd, rfl⟩⟩; refine ⟨_, rfl, ?_⟩; refine hK.out _ _ ⟨(N' BK428.out 0).trans rfl, (N' BK428.out 1).trans rfl⟩ (fun hHeld => ?_); clear hK K; refine norm_ (a' := ?_) ?_ ?_; rotate_left
       ·show Act.put _ (some 33) _ = _
        exact qP
       refine pure_ (i := 7) (N := some 34) (v := ?_) (a' := ?_) #[y', y', y', y', y', y', y', y'] rfl rfl (any_of HT_.out (by kernel_rfl)) (fun _ _ _ h => h) (Or.inl ⟨by rfl, ?_⟩) ?_ ?_; rotate_left
       ·exact qI
       rotate_left
       ·exact qP
       refine done_ (done_of HT_.out (by kernel_rfl)) ?_; try go_wp2
       go_loopg [9] k1 (fun kq v9 w' => ∃ (x9_2 : Int), v9 = .int .i64 x9_2 ∧ Aside0 (spec_l07Fault.l1 kq l1 x6_1 x7_1 x9_2 t430 t431 t432 ((rd_T53 l1 x7_1).f0) ((rd_T53 l1 x7_1).f1) = some (r1, r2, r3, r4, r5)) ∧ Aside0 (kq ≤ k1) ∧ Aside0 (w'.heap[gb428]? = some (.cells #[.int .i64 ((rd_T53 l1 x7_1).f0), .int .i64 ((rd_T53 l1 x7_1).f1)] 53 (0, 0))) ∧ Aside0 (IsS26 w0 w' g t430 t431 t432) ∧ Aside0 (KeepBut w w' g none) ∧ Aside0 (Below w0.heap.size w0 w'))
       case atStart => exact ⟨(0), qS, H', ⟨Nat.le_refl _⟩, ⟨qB BK428.out⟩, ⟨by repeat (first | (with_reducible first | exact HI0.out | apply IsS26.alloc | apply IsS26.drewN | apply IsS26.drew | apply IsS26.set_0 | apply IsS26.set_1 | apply IsS26.set_2 | refine IsS26.far ?_ NB0_428.out _) | exact HI0.out)⟩, ⟨by repeat (first | (with_reducible first | exact HK.out | apply KeepBut.set_ | apply keep_drewN | apply keep_drew | apply keep_alloc | refine keep_far ?_ GW428.out _) | exact HK.out)⟩, ⟨by repeat (first | (with_reducible first | exact HB.out | apply K' | apply F' | apply J' | refine E' ?_ (IsS26.ge HI0.out) | refine E' ?_ GE428.out) | exact HB.out)⟩⟩
       case round =>
        clear H'; try clear c1
        try clear p2
        try clear c4
        try clear p4
        try clear q4
        try clear hx4
        try clear c5
        try clear c5b0
        try clear c6
        try clear c6b0
        try clear p6
        try clear c7
        try clear c7b0
        try clear c7b1
        try clear c10
        try clear c12
        try clear hcz13_0
        try clear hcz13_1
        try clear hfz13_0
        try clear hfz13_1
        try clear hx427_0
        try clear hx427_1
        try clear p2
        try clear p427
        try clear q427
        obtain ⟨x9_2, rfl, HA, HK2, BK428, HI0, HK, HB⟩ := hrel
        cases gk with
        | zero => exact absurd HA.out (by simp [spec_l07Fault.l1])
        | succ k2 =>
         have H := HA.out; clear HA; simp only [spec_l07Fault.l1] at H
         by_cases c17 : x9_2 < x7_1
         ·rw [if_pos c17] at H; have c17b0 : decide (x9_2 < x7_1) = true := dT' c17; clear c17
          by_cases c18 : 0 ≤ x9_2
          ·rw [if_pos c18] at H; have c18b0 : decide (0 ≤ x9_2) = true := dT' c18; clear c18
           by_cases c19 : x9_2 < (l1.length : Int)
           ·rw [if_pos c19] at H; have c19b0 : decide (x9_2 < (l1.length : Int)) = true := dT' c19; clear c19
            by_cases c20 : (((rd_T53 l1 x9_2).f0) == ((rd_T53 l1 x7_1).f0) && (((rd_T53 l1 x9_2).f1) == ((rd_T53 l1 x7_1).f1))) = true
            ·rw [if_pos c20] at H; have c20b0 : (((rd_T53 l1 x9_2).f0) == ((rd_T53 l1 x7_1).f0) && (((rd_T53 l1 x9_2).f1) == ((rd_T53 l1 x7_1).f1))) = true := c20; (try (have c20b1 : decide (((rd_T53 l1 x9_2).f0) = ((rd_T53 l1 x7_1).f0) && (((rd_T53 l1 x9_2).f1) == ((rd_T53 l1 x7_1).f1))) = true := by simpa using c20)); (try (have c20b2 : (((rd_T53 l1 x9_2).f0) == ((rd_T53 l1 x7_1).f0) && (((rd_T53 l1 x9_2).f1) == ((rd_T53 l1 x7_1).f1))) = true := by simpa using c20)); clear c20; simp only [Option.some.injEq, Prod.mk.injEq] at H; obtain ⟨rfl, rfl, rfl, rfl, rfl⟩ := H; try go_wp2
             have n0_ := A' (I' BK428.out); have n1_ := A' (IsS26.drew HI0.out); have n2_ := A' (keep_drew HK.out); have n3_ := A' (J' HB.out); clear BK428; clear HI0; clear HK; clear HB; have BK428 := n0_; have HI0 := n1_; have HK := n2_; have HB := n3_; clear n0_ n1_ n2_ n3_; have p434 : 0 ≤ (x9_2 : Int) := oD' qA; have q434 : x9_2 < (l1.length : Int) := oD' qA; obtain ⟨ad434, e434, hx434_0, hx434_1⟩ := at_T53 (Kd.C_foot_now HR1.out HK.out) x9_2 p434 q434; have hw434_1 := hx434_1; have hw434_0 := hx434_0; obtain rfl : ad427 = ad434 := (by injection e434)
             have hne434_1 := (show (⟨(ad427.add ((x9_2).toNat * 2)).block, (ad427.add ((x9_2).toNat * 2)).off + 1, none⟩ : Addr).block ≠ g from by first | (rw [add_block]; exact Kd.foot_ne HR1.out (by omega) (by decide)) | (show (Addr.add _ _).block ≠ _; rw [add_block]; exact Kd.foot_ne HR1.out (by omega) (by decide)) | exact Kd.foot_ne HR1.out (by omega) (by decide) | (dsimp only; exact Kd.foot_ne HR1.out (by omega) (by decide)))
             have hlt434_1 := (Kd.foot_lt HR1.out (by omega) (by decide))
             have hne434_0 := (show ((ad427.add ((x9_2).toNat * 2)) : Addr).block ≠ g from by first | (rw [add_block]; exact Kd.foot_ne HR1.out (by omega) (by decide)) | (show (Addr.add _ _).block ≠ _; rw [add_block]; exact Kd.foot_ne HR1.out (by omega) (by decide)) | exact Kd.foot_ne HR1.out (by omega) (by decide) | (dsimp only; exact Kd.foot_ne HR1.out (by omega) (by decide)))
             have hlt434_0 := (Kd.foot_lt HR1.out (by omega) (by decide))
             replace p434 := eq_true p434; replace q434 := eq_true q434; refine start_ (n := 6) (S := fun w' => w'.cell? ⟨gb428, 0, none⟩ = some (.int .i64 ((rd_T53 l1 x7_1).f0)) ∧ w'.cell? ⟨gb428, 1, none⟩ = some (.int .i64 ((rd_T53 l1 x7_1).f1)) ∧ w'.cell? (ad427.add ((x9_2).toNat * 2)) = some (.int .i64 ((rd_T53 l1 x9_2).f0)) ∧ w'.cell? ⟨(ad427.add ((x9_2).toNat * 2)).block, (ad427.add ((x9_2).toNat * 2)).off + 1, none⟩ = some (.int .i64 ((rd_T53 l1 x9_2).f1))) (ds := []) #[n', n', n', n', n', n'] (by kernel_rfl) rfl rfl ⟨(N' BK428.out 0).trans rfl, (N' BK428.out 1).trans rfl, hx434_0, hx434_1⟩ (fun hHeld => ?_)
             generalize wr.drew = w21 at BK428 HI0 HK HB hx434_0 hx434_1 hHeld ⊢
             refine pure_ (i := 0) (N := some 41) (v := ?_) (a' := ?_) #[y', n', n', n', n', n'] rfl rfl (by kernel_rfl) (fun _ _ _ h => h) (Or.inl ⟨by rfl, ?_⟩) ?_ ?_; rotate_left
             ·exact qI
             rotate_left
             ·exact qP
             refine pure_ (i := 1) (N := some 42) (v := ?_) (a' := ?_) #[y', y', n', n', n', n'] rfl rfl (by kernel_rfl) (fun _ _ _ h => h) (Or.inl ⟨by rfl, ?_⟩) ?_ ?_; rotate_left
             ·exact qI
             rotate_left
             ·exact qP
             refine pure_ (i := 2) (N := some 43) (v := ?_) (a' := ?_) #[y', y', y', n', n', n'] rfl rfl (by kernel_rfl) (fun _ _ _ h => h) (Or.inl ⟨by rfl, ?_⟩) ?_ ?_; rotate_left
             ·exact qI
             rotate_left
             ·exact qP
             refine take_ (i := 3) (N := some 44) (v := ?_) (a' := ?_) #[y', y', y', y', n', n'] rfl rfl (by kernel_rfl) (fun _ _ _ h => h) (Or.inl ⟨by rfl, ?_⟩) hHeld ?_ ?_; rotate_left
             ·rintro w' ⟨s0, s1, s2, s3⟩; go_simp; with_reducible rfl
             rotate_left
             ·exact qP
             refine take_ (i := 4) (N := some 45) (v := ?_) (a' := ?_) #[y', y', y', y', y', n'] rfl rfl (by kernel_rfl) (fun _ _ _ h => h) (Or.inl ⟨by rfl, ?_⟩) hHeld ?_ ?_; rotate_left
             ·rintro w' ⟨s0, s1, s2, s3⟩; go_simp; with_reducible rfl
             rotate_left
             ·exact qP
             refine pure_ (i := 5) (N := some 46) (v := ?_) (a' := ?_) #[y', y', y', y', y', y'] rfl rfl (by kernel_rfl) (fun _ _ _ h => h) (Or.inl ⟨by rfl, ?_⟩) ?_ ?_; rotate_left
             ·exact qI
             rotate_left
             ·exact qP
             refine done_ (by kernel_rfl) ?_; try go_wp2
             go_ret2; exact ⟨qE, by repeat (first | (with_reducible first | exact HI0.out | apply IsS26.alloc | apply IsS26.drewN | apply IsS26.drew | apply IsS26.set_0 | apply IsS26.set_1 | apply IsS26.set_2 | refine IsS26.far ?_ NB0_428.out _) | exact HI0.out), by repeat (first | (with_reducible first | exact HB.out | apply K' | apply F' | apply J' | refine E' ?_ (IsS26.ge HI0.out) | refine E' ?_ GE428.out) | exact HB.out), by repeat (first | (with_reducible first | exact HK.out | apply KeepBut.set_ | apply keep_drewN | apply keep_drew | apply keep_alloc | refine keep_far ?_ GW428.out _) | exact HK.out)⟩
            ·rw [if_neg c20] at H; have c20b0 : (((rd_T53 l1 x9_2).f0) == ((rd_T53 l1 x7_1).f0) && (((rd_T53 l1 x9_2).f1) == ((rd_T53 l1 x7_1).f1))) = false := by simpa using c20
             (try (have c20b1 : decide (((rd_T53 l1 x9_2).f0) = ((rd_T53 l1 x7_1).f0) && (((rd_T53 l1 x9_2).f1) == ((rd_T53 l1 x7_1).f1))) = false := by simpa using c20)); (try (have c20b2 : (((rd_T53 l1 x9_2).f0) == ((rd_T53 l1 x7_1).f0) && (((rd_T53 l1 x9_2).f1) == ((rd_T53 l1 x7_1).f1))) = false := by simpa using c20)); (try (have c20b3 : ¬ (((rd_T53 l1 x9_2).f0) = ((rd_T53 l1 x7_1).f0) && (((rd_T53 l1 x9_2).f1) == ((rd_T53 l1 x7_1).f1))) := by simpa using c20)); clear c20; have H' := A' H; clear H; try go_wp2
             have n0_ := A' (I' BK428.out); have n1_ := A' (IsS26.drew HI0.out); have n2_ := A' (keep_drew HK.out); have n3_ := A' (J' HB.out); clear BK428; clear HI0; clear HK; clear HB; have BK428 := n0_; have HI0 := n1_; have HK := n2_; have HB := n3_; clear n0_ n1_ n2_ n3_; have p434 : 0 ≤ (x9_2 : Int) := oD' qA; have q434 : x9_2 < (l1.length : Int) := oD' qA; obtain ⟨ad434, e434, hx434_0, hx434_1⟩ := at_T53 (Kd.C_foot_now HR1.out HK.out) x9_2 p434 q434; have hw434_1 := hx434_1; have hw434_0 := hx434_0; obtain rfl : ad427 = ad434 := (by injection e434)
             have hne434_1 := (show (⟨(ad427.add ((x9_2).toNat * 2)).block, (ad427.add ((x9_2).toNat * 2)).off + 1, none⟩ : Addr).block ≠ g from by first | (rw [add_block]; exact Kd.foot_ne HR1.out (by omega) (by decide)) | (show (Addr.add _ _).block ≠ _; rw [add_block]; exact Kd.foot_ne HR1.out (by omega) (by decide)) | exact Kd.foot_ne HR1.out (by omega) (by decide) | (dsimp only; exact Kd.foot_ne HR1.out (by omega) (by decide)))
             have hlt434_1 := (Kd.foot_lt HR1.out (by omega) (by decide))
             have hne434_0 := (show ((ad427.add ((x9_2).toNat * 2)) : Addr).block ≠ g from by first | (rw [add_block]; exact Kd.foot_ne HR1.out (by omega) (by decide)) | (show (Addr.add _ _).block ≠ _; rw [add_block]; exact Kd.foot_ne HR1.out (by omega) (by decide)) | exact Kd.foot_ne HR1.out (by omega) (by decide) | (dsimp only; exact Kd.foot_ne HR1.out (by omega) (by decide)))
             have hlt434_0 := (Kd.foot_lt HR1.out (by omega) (by decide))
             replace p434 := eq_true p434; replace q434 := eq_true q434; refine start_ (n := 6) (S := fun w' => w'.cell? ⟨gb428, 0, none⟩ = some (.int .i64 ((rd_T53 l1 x7_1).f0)) ∧ w'.cell? ⟨gb428, 1, none⟩ = some (.int .i64 ((rd_T53 l1 x7_1).f1)) ∧ w'.cell? (ad427.add ((x9_2).toNat * 2)) = some (.int .i64 ((rd_T53 l1 x9_2).f0)) ∧ w'.cell? ⟨(ad427.add ((x9_2).toNat * 2)).block, (ad427.add ((x9_2).toNat * 2)).off + 1, none⟩ = some (.int .i64 ((rd_T53 l1 x9_2).f1))) (ds := []) #[n', n', n', n', n', n'] (by kernel_rfl) rfl rfl ⟨(N' BK428.out 0).trans rfl, (N' BK428.out 1).trans rfl, hx434_0, hx434_1⟩ (fun hHeld => ?_)
             generalize wr.drew = w22 at BK428 HI0 HK HB hx434_0 hx434_1 hHeld ⊢
             refine pure_ (i := 0) (N := some 41) (v := ?_) (a' := ?_) #[y', n', n', n', n', n'] rfl rfl (by kernel_rfl) (fun _ _ _ h => h) (Or.inl ⟨by rfl, ?_⟩) ?_ ?_; rotate_left
             ·exact qI
             rotate_left
             ·exact qP
             refine pure_ (i := 1) (N := some 42) (v := ?_) (a' := ?_) #[y', y', n', n', n', n'] rfl rfl (by kernel_rfl) (fun _ _ _ h => h) (Or.inl ⟨by rfl, ?_⟩) ?_ ?_; rotate_left
             ·exact qI
             rotate_left
             ·exact qP
             refine pure_ (i := 2) (N := some 43) (v := ?_) (a' := ?_) #[y', y', y', n', n', n'] rfl rfl (by kernel_rfl) (fun _ _ _ h => h) (Or.inl ⟨by rfl, ?_⟩) ?_ ?_; rotate_left
             ·exact qI
             rotate_left
             ·exact qP
             refine take_ (i := 3) (N := some 44) (v := ?_) (a' := ?_) #[y', y', y', y', n', n'] rfl rfl (by kernel_rfl) (fun _ _ _ h => h) (Or.inl ⟨by rfl, ?_⟩) hHeld ?_ ?_; rotate_left
             ·rintro w' ⟨s0, s1, s2, s3⟩; go_simp; with_reducible rfl
             rotate_left
             ·exact qP
             refine take_ (i := 4) (N := some 45) (v := ?_) (a' := ?_) #[y', y', y', y', y', n'] rfl rfl (by kernel_rfl) (fun _ _ _ h => h) (Or.inl ⟨by rfl, ?_⟩) hHeld ?_ ?_; rotate_left
             ·rintro w' ⟨s0, s1, s2, s3⟩; go_simp; with_reducible rfl
             rotate_left
             ·exact qP
             refine pure_ (i := 5) (N := some 46) (v := ?_) (a' := ?_) #[y', y', y', y', y', y'] rfl rfl (by kernel_rfl) (fun _ _ _ h => h) (Or.inl ⟨by rfl, ?_⟩) ?_ ?_; rotate_left
             ·exact qI
             rotate_left
             ·exact qP
             refine done_ (by kernel_rfl) ?_; try go_wp2
             go_roundg k2
             case measure => have := HK1.out; have := HK2.out; omega
             case rel => exact ⟨(wrap64 (x9_2 + 1)), qS, H', ⟨by have := HK1.out; have := HK2.out; omega⟩, ⟨qB BK428.out⟩, ⟨by repeat (first | (with_reducible first | exact HI0.out | apply IsS26.alloc | apply IsS26.drewN | apply IsS26.drew | apply IsS26.set_0 | apply IsS26.set_1 | apply IsS26.set_2 | refine IsS26.far ?_ NB0_428.out _) | exact HI0.out)⟩, ⟨by repeat (first | (with_reducible first | exact HK.out | apply KeepBut.set_ | apply keep_drewN | apply keep_drew | apply keep_alloc | refine keep_far ?_ GW428.out _) | exact HK.out)⟩, ⟨by repeat (first | (with_reducible first | exact HB.out | apply K' | apply F' | apply J' | refine E' ?_ (IsS26.ge HI0.out) | refine E' ?_ GE428.out) | exact HB.out)⟩⟩
           ·rw [if_neg c19] at H; exact absurd H (by simp)
          ·rw [if_neg c18] at H; exact absurd H (by simp)
         ·rw [if_neg c17] at H; have c17b0 : decide (x9_2 < x7_1) = false := dF' c17; clear c17; have H' := A' H; clear H; go_wp2
          go_roundg k2
          case measure => have := HK1.out; have := HK2.out; omega
          case rel => exact ⟨(wrap64 (1 - x6_1)), (wrap64 (x7_1 + 1)), (t430), (t431), (t432), qS, qS, H', ⟨by have := HK1.out; have := HK2.out; omega⟩, ⟨by repeat (first | (with_reducible first | exact HI0.out | apply IsS26.alloc | apply IsS26.drewN | apply IsS26.drew | apply IsS26.set_0 | apply IsS26.set_1 | apply IsS26.set_2 | refine IsS26.far ?_ NB0_428.out _) | exact HI0.out)⟩, ⟨by repeat (first | (with_reducible first | exact HK.out | apply KeepBut.set_ | apply keep_drewN | apply keep_drew | apply keep_alloc | refine keep_far ?_ GW428.out _) | exact HK.out)⟩, ⟨by repeat (first | (with_reducible first | exact HB.out | apply K' | apply F' | apply J' | refine E' ?_ (IsS26.ge HI0.out) | refine E' ?_ GE428.out) | exact HB.out)⟩⟩
      ·replace c10 := Bool.eq_false_iff.mpr c10; subst c10; have H1 : (some ((⟨#[115, 104, 101, 97, 118, 101]⟩ : ByteArray), x7_1, t430, t431, t432)) = some (r1, r2, r3, r4, r5) := by rw [if_neg (show ¬ (false = true) by decide)] at H; exact H
       clear H; have H := H1; clear H1; simp only [Option.some.injEq, Prod.mk.injEq] at H; obtain ⟨rfl, rfl, rfl, rfl, rfl⟩ := H; have p427 : 0 ≤ (x7_1 : Int) := oD' qA; have q427 : x7_1 < (l1.length : Int) := oD' qA; obtain ⟨ad427, e427, hx427_0, hx427_1⟩ := at_T53 (Kd.C_foot_now HR1.out HK.out) x7_1 p427 q427
       cases e427
       replace p427 := eq_true p427; replace q427 := eq_true q427; try go_wp2_with (first | ((with_reducible refine gate_dst (N := 8) rfl ?_); refine box_event ?hg (N := 8) ?hd (cs := #[.int .i64 0, .int .i64 0]) (t := 53) ?hr ?_; (case hd => rfl); (case hg => rfl); (case hr => first | (go_simp; done) | (go_simp; rfl)); intro gb428 hg w23 hbox hb; have n0_ := A' (IsS26.below (by repeat (first | (with_reducible first | exact HI0.out | apply IsS26.alloc | apply IsS26.drewN | apply IsS26.drew | apply IsS26.set_0 | apply IsS26.set_1 | apply IsS26.set_2) | exact HI0.out)) hb); have n1_ := A' (KeepBut.trans (by repeat (first | (with_reducible first | exact HK.out | apply KeepBut.set_ | apply keep_drewN | apply keep_drew | apply keep_alloc) | exact HK.out)) (KeepBut.of_below hb g none) (.inl rfl)); have n2_ := A' (W' (by repeat (first | (with_reducible first | exact HB.out | apply K' | apply F' | apply J' | refine E' ?_ (IsS26.ge HI0.out)) | exact HB.out)) hb); have n3_ := A' (hbox); have n4_ := A' ((by rw [hg]; exact (keep_size (w := w) (g := g) (row := none) (by repeat (first | (with_reducible first | exact HK.out | apply KeepBut.set_ | apply keep_drewN | apply keep_drew | apply keep_alloc) | exact HK.out))) : w.heap.size ≤ gb428)); have n5_ := A' ((Nat.le_trans HW0.out (by rw [hg]; exact (keep_size (w := w) (g := g) (row := none) (by repeat (first | (with_reducible first | exact HK.out | apply KeepBut.set_ | apply keep_drewN | apply keep_drew | apply keep_alloc) | exact HK.out))) : w.heap.size ≤ gb428) : w0.heap.size ≤ gb428)); have n6_ := A' ((by rw [hg]; exact Nat.ne_of_lt (IsS26.lt (show IsS26 w0 _ g x1000_1 x1001_1 x1002_1 from by repeat (first | (with_reducible first | exact HI0.out | apply IsS26.alloc | apply IsS26.drewN | apply IsS26.drew | apply IsS26.set_0 | apply IsS26.set_1 | apply IsS26.set_2) | exact HI0.out))) : g ≠ gb428)); have n7_ := A' ((by rw [hg]; exact Nat.ne_of_gt (IsS26.lt (show IsS26 w0 _ g x1000_1 x1001_1 x1002_1 from by repeat (first | (with_reducible first | exact HI0.out | apply IsS26.alloc | apply IsS26.drewN | apply IsS26.drew | apply IsS26.set_0 | apply IsS26.set_1 | apply IsS26.set_2) | exact HI0.out))) : gb428 ≠ g)); clear HI0; clear HK; clear HB; have HI0 := n0_; have HK := n1_; have HB := n2_; have BK428 := n3_; have GW428 := n4_; have GE428 := n5_; have NB0_428 := n6_; have NB428_0 := n7_; clear n0_ n1_ n2_ n3_ n4_ n5_ n6_ n7_; clear hb hbox hg; have hnb24 := NB428_0.out; have hnc24 := NB0_428.out; have hcz25_0 : w23.cell? ⟨gb428, 0, none⟩ = some (.int .i64 0) := (N' BK428.out 0).trans rfl; have hcz25_1 : w23.cell? ⟨gb428, 1, none⟩ = some (.int .i64 0) := (N' BK428.out 1).trans rfl; have hfz25_0 := Y' BK428.out 0; have hfz25_1 := Y' BK428.out 1))
       have n0_ : Aside0 (((w23.setCell ⟨gb428, 0, none⟩ (.int .i64 ((rd_T53 l1 x7_1).f0))).setCell ⟨gb428, 1, none⟩ (.int .i64 ((rd_T53 l1 x7_1).f1))).heap[gb428]? = some (.cells #[.int .i64 ((rd_T53 l1 x7_1).f0), .int .i64 ((rd_T53 l1 x7_1).f1)] 53 (0, 0))) := ⟨by (with_reducible repeat (first | refine G' ?_ _ | refine I' ?_ | refine H' ?_ _)); refine blk_put (cs := #[.int .i64 ((rd_T53 l1 x7_1).f0), .int .i64 0]) ?_ 1 _ rfl; (with_reducible repeat (first | refine G' ?_ _ | refine I' ?_ | refine H' ?_ _)); refine blk_put (cs := #[.int .i64 0, .int .i64 0]) ?_ 0 _ rfl; (with_reducible repeat (first | refine G' ?_ _ | refine I' ?_ | refine H' ?_ _)); exact BK428.out⟩
       have n1_ : Aside0 (IsS26 w0 ((w23.setCell ⟨gb428, 0, none⟩ (.int .i64 ((rd_T53 l1 x7_1).f0))).setCell ⟨gb428, 1, none⟩ (.int .i64 ((rd_T53 l1 x7_1).f1))) g x1000_1 x1001_1 x1002_1) := ⟨by repeat (first | (with_reducible first | exact HI0.out | apply IsS26.alloc | apply IsS26.drewN | apply IsS26.drew | apply IsS26.set_0 | apply IsS26.set_1 | apply IsS26.set_2 | refine IsS26.far ?_ NB0_428.out _) | exact HI0.out)⟩
       have n2_ : Aside0 (KeepBut w ((w23.setCell ⟨gb428, 0, none⟩ (.int .i64 ((rd_T53 l1 x7_1).f0))).setCell ⟨gb428, 1, none⟩ (.int .i64 ((rd_T53 l1 x7_1).f1))) g none) := ⟨by repeat (first | (with_reducible first | exact HK.out | apply KeepBut.set_ | apply keep_drewN | apply keep_drew | apply keep_alloc | refine keep_far ?_ GW428.out _) | exact HK.out)⟩
       have n3_ : Aside0 (Below w0.heap.size w0 ((w23.setCell ⟨gb428, 0, none⟩ (.int .i64 ((rd_T53 l1 x7_1).f0))).setCell ⟨gb428, 1, none⟩ (.int .i64 ((rd_T53 l1 x7_1).f1)))) := ⟨by repeat (first | (with_reducible first | exact HB.out | apply K' | apply F' | apply J' | refine E' ?_ (IsS26.ge HI0.out) | refine E' ?_ GE428.out) | exact HB.out)⟩
       (try clear BK428); (try clear HI0); (try clear HK); (try clear HB)
       generalize ((w23.setCell ⟨gb428, 0, none⟩ (.int .i64 ((rd_T53 l1 x7_1).f0))).setCell ⟨gb428, 1, none⟩ (.int .i64 ((rd_T53 l1 x7_1).f1))) = w26 at n0_ n1_ n2_ n3_ ⊢
       have BK428 := n0_; have HI0 := n1_; have HK := n2_; have HB := n3_; clear n0_ n1_ n2_ n3_; have n0_ := A' (I' BK428.out); have n1_ := A' (IsS26.drew HI0.out); have n2_ := A' (keep_drew HK.out); have n3_ := A' (J' HB.out); clear BK428; clear HI0; clear HK; clear HB; have BK428 := n0_; have HI0 := n1_; have HK := n2_; have HB := n3_; clear n0_ n1_ n2_ n3_; refine start_ (n := 8) (S := fun w' => w'.cell? ⟨gb428, 0, none⟩ = some (.int .i64 ((rd_T53 l1 x7_1).f0)) ∧ w'.cell? ⟨gb428, 1, none⟩ = some (.int .i64 ((rd_T53 l1 x7_1).f1))) (ds := []) #[n', n', n', n', n', n', n', n'] (by kernel_rfl) rfl rfl ⟨(N' BK428.out 0).trans rfl, (N' BK428.out 1).trans rfl⟩ (fun hHeld => ?_); refine with_tabW spec_l07Fault.tab8 spec_l07Fault.bits8 (fun HT_ HW_ => ?_)
       generalize w26.drew = w27 at BK428 HI0 HK HB hHeld ⊢
       refine pure_ (i := 0) (N := some 27) (v := ?_) (a' := ?_) #[y', n', n', n', n', n', n', n'] rfl rfl (any_of HT_.out (by kernel_rfl)) (fun _ _ _ h => h) (Or.inl ⟨by rfl, ?_⟩) ?_ ?_; rotate_left
       ·exact qI
       rotate_left
       ·exact qP
       refine pure_ (i := 2) (N := some 29) (v := ?_) (a' := ?_) #[y', n', y', n', n', n', n', n'] rfl rfl (any_of HT_.out (by kernel_rfl)) (fun _ _ _ h => h) (Or.inl ⟨by rfl, ?_⟩) ?_ ?_; rotate_left
       ·exact qI
       rotate_left
       ·exact qP
       refine pure_ (i := 3) (N := some 30) (v := ?_) (a' := ?_) #[y', n', y', y', n', n', n', n'] rfl rfl (any_of HT_.out (by kernel_rfl)) (fun _ _ _ h => h) (Or.inl ⟨by rfl, ?_⟩) ?_ ?_; rotate_left
       ·exact qI
       rotate_left
       ·exact qP
       refine take_ (i := 1) (N := some 28) (v := ?_) (a' := ?_) #[y', y', y', y', n', n', n', n'] rfl rfl (take_ofW HT_.out HW_.out (by kernel_rfl)) (fun _ _ _ h => h) (Or.inl ⟨by rfl, ?_⟩) hHeld ?_ ?_; rotate_left
       ·rintro w' ⟨s0, s1⟩; go_simp; with_reducible rfl
       rotate_left
       ·exact qP
       refine one_ (i := 4) (N := some 31) #[y', y', y', y', y', n', n', n'] rfl rfl (one_of HT_.out (by kernel_rfl)) (by decide) (fun K hK => ?_); refine goes_ Try.func49 (by kernel_rfl) rfl #[.pointer (some ⟨g, 0, none⟩), .int .i64 x6_1] (by rfl) rfl rfl (by (try simp only [List.map_toArray, List.map_cons, List.map_nil]); first | done | rfl | (simp only [List.length_drop, List.length_take]; rfl)) ?_
       with_reducible refine (spec_l07Many.calls g x1000_1 x1001_1 x1002_1 x6_1 t429 t430 t431 t432 w0 _ ?side1 ?side2 A8.out).mono ?_
       (case side1 => repeat (first | (with_reducible first | exact HI0.out | apply IsS26.alloc | apply IsS26.drewN | apply IsS26.drew | apply IsS26.set_0 | apply IsS26.set_1 | apply IsS26.set_2 | refine IsS26.far ?_ NB0_428.out _) | exact HI0.out)); (case side2 => repeat (first | (with_reducible first | exact HB.out | apply K' | apply F' | apply J' | refine E' ?_ (IsS26.ge HI0.out) | refine E' ?_ GE428.out) | exact HB.out)); rintro e w28 ⟨rfl, hi, hb, hk⟩; refine ⟨_, rfl, ?_⟩; have n0_ := A' (KeepBut.blk hk (g' := gb428) (o := .cells #[.int .i64 ((rd_T53 l1 x7_1).f0), .int .i64 ((rd_T53 l1 x7_1).f1)] 53 (0, 0)) (qB BK428.out) NB428_0.out (by simp)); have n1_ := A' (KeepBut.trans (by repeat (first | (with_reducible first | exact HK.out | apply KeepBut.set_ | apply keep_drewN | apply keep_drew | apply keep_alloc | refine keep_far ?_ GW428.out _) | exact HK.out)) hk (.inl rfl)); have n2_ := A' (hb); have n3_ := A' (hi); clear BK428; clear HK; clear HB; clear HI0; have BK428 := n0_; have HK := n1_; have HB := n2_; have HI0 := n3_; clear n0_ n1_ n2_ n3_; (try clear hb); (try clear hb2); (try clear hk); (try clear hi); refine hK.out _ _ ⟨(N' BK428.out 0).trans rfl, (N' BK428.out 1).trans rfl⟩ (fun hHeld => ?_); clear hK K; refine norm_ (a' := ?_) ?_ ?_; rotate_left
       ·show Act.put _ (some 31) _ = _
        exact qP
       refine pure_ (i := 5) (N := some 32) (v := ?_) (a' := ?_) #[y', y', y', y', y', y', n', n'] rfl rfl (any_of HT_.out (by kernel_rfl)) (fun _ _ _ h => h) (Or.inl ⟨by rfl, ?_⟩) ?_ ?_; rotate_left
       ·exact qI
       rotate_left
       ·exact qP
       refine one_ (i := 6) (N := some 33) #[y', y', y', y', y', y', y', n'] rfl rfl (one_of HT_.out (by kernel_rfl)) (by decide) (fun K hK => ?_); refine goes_ Try.func48 (by kernel_rfl) rfl #[.int .i64 ((rd_T53 l1 x7_1).f1), .int .i64 0, .int .i64 (wrap64 (t429 - 1))] (by rfl) rfl rfl (by (try simp only [List.map_toArray, List.map_cons, List.map_nil]); first | done | rfl | (simp only [List.length_drop, List.length_take]; rfl)) ?_
       with_reducible refine (spec_l00In.calls ((rd_T53 l1 x7_1).f1) 0 (wrap64 (t429 - 1)) false _ A9.out).mono ?_
       rintro e w' ⟨rfl, ⟨nd, rfl⟩⟩; refine ⟨_, rfl, ?_⟩; refine hK.out _ _ ⟨(N' BK428.out 0).trans rfl, (N' BK428.out 1).trans rfl⟩ (fun hHeld => ?_); clear hK K; refine norm_ (a' := ?_) ?_ ?_; rotate_left
       ·show Act.put _ (some 33) _ = _
        exact qP
       refine pure_ (i := 7) (N := some 34) (v := ?_) (a' := ?_) #[y', y', y', y', y', y', y', y'] rfl rfl (any_of HT_.out (by kernel_rfl)) (fun _ _ _ h => h) (Or.inl ⟨by rfl, ?_⟩) ?_ ?_; rotate_left
       ·exact qI
       rotate_left
       ·exact qP
       refine done_ (done_of HT_.out (by kernel_rfl)) ?_; try go_wp2
       go_ret2; exact ⟨qE, by repeat (first | (with_reducible first | exact HI0.out | apply IsS26.alloc | apply IsS26.drewN | apply IsS26.drew | apply IsS26.set_0 | apply IsS26.set_1 | apply IsS26.set_2 | refine IsS26.far ?_ NB0_428.out _) | exact HI0.out), by repeat (first | (with_reducible first | exact HB.out | apply K' | apply F' | apply J' | refine E' ?_ (IsS26.ge HI0.out) | refine E' ?_ GE428.out) | exact HB.out), by repeat (first | (with_reducible first | exact HK.out | apply KeepBut.set_ | apply keep_drewN | apply keep_drew | apply keep_alloc | refine keep_far ?_ GW428.out _) | exact HK.out)⟩
     ·rw [if_neg c7] at H; have c7b0 : (((rd_T53 l1 x7_1).f0) == x6_1) = false := beq_eq_false_iff_ne.mpr c7; have c7b1 : (((rd_T53 l1 x7_1).f0) != x6_1) = true := bne_iff_ne.mpr c7; simp only [Option.some.injEq, Prod.mk.injEq] at H; obtain ⟨rfl, rfl, rfl, rfl, rfl⟩ := H; have p427 : 0 ≤ (x7_1 : Int) := oD' qA; have q427 : x7_1 < (l1.length : Int) := oD' qA; obtain ⟨ad427, e427, hx427_0, hx427_1⟩ := at_T53 (Kd.C_foot_now HR1.out HK.out) x7_1 p427 q427
      cases e427
      replace p427 := eq_true p427; replace q427 := eq_true q427; go_wp2_with (first | ((with_reducible refine gate_dst (N := 8) rfl ?_); refine box_event ?hg (N := 8) ?hd (cs := #[.int .i64 0, .int .i64 0]) (t := 53) ?hr ?_; (case hd => rfl); (case hg => rfl); (case hr => first | (go_simp; done) | (go_simp; rfl)); intro gb428 hg w29 hbox hb; have n0_ := A' (IsS26.below (by repeat (first | (with_reducible first | exact HI0.out | apply IsS26.alloc | apply IsS26.drewN | apply IsS26.drew | apply IsS26.set_0 | apply IsS26.set_1 | apply IsS26.set_2) | exact HI0.out)) hb); have n1_ := A' (KeepBut.trans (by repeat (first | (with_reducible first | exact HK.out | apply KeepBut.set_ | apply keep_drewN | apply keep_drew | apply keep_alloc) | exact HK.out)) (KeepBut.of_below hb g none) (.inl rfl)); have n2_ := A' (W' (by repeat (first | (with_reducible first | exact HB.out | apply K' | apply F' | apply J' | refine E' ?_ (IsS26.ge HI0.out)) | exact HB.out)) hb); have n3_ := A' (hbox); have n4_ := A' ((by rw [hg]; exact (keep_size (w := w) (g := g) (row := none) (by repeat (first | (with_reducible first | exact HK.out | apply KeepBut.set_ | apply keep_drewN | apply keep_drew | apply keep_alloc) | exact HK.out))) : w.heap.size ≤ gb428)); have n5_ := A' ((Nat.le_trans HW0.out (by rw [hg]; exact (keep_size (w := w) (g := g) (row := none) (by repeat (first | (with_reducible first | exact HK.out | apply KeepBut.set_ | apply keep_drewN | apply keep_drew | apply keep_alloc) | exact HK.out))) : w.heap.size ≤ gb428) : w0.heap.size ≤ gb428)); have n6_ := A' ((by rw [hg]; exact Nat.ne_of_lt (IsS26.lt (show IsS26 w0 _ g x1000_1 x1001_1 x1002_1 from by repeat (first | (with_reducible first | exact HI0.out | apply IsS26.alloc | apply IsS26.drewN | apply IsS26.drew | apply IsS26.set_0 | apply IsS26.set_1 | apply IsS26.set_2) | exact HI0.out))) : g ≠ gb428)); have n7_ := A' ((by rw [hg]; exact Nat.ne_of_gt (IsS26.lt (show IsS26 w0 _ g x1000_1 x1001_1 x1002_1 from by repeat (first | (with_reducible first | exact HI0.out | apply IsS26.alloc | apply IsS26.drewN | apply IsS26.drew | apply IsS26.set_0 | apply IsS26.set_1 | apply IsS26.set_2) | exact HI0.out))) : gb428 ≠ g)); clear HI0; clear HK; clear HB; have HI0 := n0_; have HK := n1_; have HB := n2_; have BK428 := n3_; have GW428 := n4_; have GE428 := n5_; have NB0_428 := n6_; have NB428_0 := n7_; clear n0_ n1_ n2_ n3_ n4_ n5_ n6_ n7_; clear hb hbox hg; have hnb30 := NB428_0.out; have hnc30 := NB0_428.out; have hcz31_0 : w29.cell? ⟨gb428, 0, none⟩ = some (.int .i64 0) := (N' BK428.out 0).trans rfl; have hcz31_1 : w29.cell? ⟨gb428, 1, none⟩ = some (.int .i64 0) := (N' BK428.out 1).trans rfl; have hfz31_0 := Y' BK428.out 0; have hfz31_1 := Y' BK428.out 1)); go_ret2; exact ⟨qE, by repeat (first | (with_reducible first | exact HI0.out | apply IsS26.alloc | apply IsS26.drewN | apply IsS26.drew | apply IsS26.set_0 | apply IsS26.set_1 | apply IsS26.set_2 | refine IsS26.far ?_ NB0_428.out _) | exact HI0.out), by repeat (first | (with_reducible first | exact HB.out | apply K' | apply F' | apply J' | refine E' ?_ (IsS26.ge HI0.out) | refine E' ?_ GE428.out) | exact HB.out), by repeat (first | (with_reducible first | exact HK.out | apply KeepBut.set_ | apply keep_drewN | apply keep_drew | apply keep_alloc | refine keep_far ?_ GW428.out _) | exact HK.out)⟩
    ·rw [if_neg c6] at H; exact absurd H (by simp)
   ·rw [if_neg c5] at H; have c5b0 : decide (x7_1 < (l1.length : Int)) = false := dF' c5; clear c5
    by_cases c32 : (l1.length : Int) < (wrap64 (x1000_1 + x1001_1))
    ·rw [if_pos c32] at H; have c32b0 : decide ((l1.length : Int) < (wrap64 (x1000_1 + x1001_1))) = true := dT' c32; clear c32; simp only [Option.some.injEq, Prod.mk.injEq] at H; obtain ⟨rfl, rfl, rfl, rfl, rfl⟩ := H; try go_wp2
     have n0_ := A' (IsS26.drew HI0.out); have n1_ := A' (keep_drew HK.out); have n2_ := A' (J' HB.out); clear HI0; clear HK; clear HB; have HI0 := n0_; have HK := n1_; have HB := n2_; clear n0_ n1_ n2_; refine start_ (n := 12) (S := fun w' => w'.cell? ⟨g, 0, none⟩ = some (.int .i64 x1000_1) ∧ w'.cell? ⟨g, 1, none⟩ = some (.int .i64 x1001_1) ∧ w'.cell? ⟨g, 2, none⟩ = some (.bool x1002_1)) (ds := []) #[n', n', n', n', n', n', n', n', n', n', n', n'] (by kernel_rfl) rfl rfl ⟨(N' (A' HI0.out.1).out 0).trans rfl, (N' (A' HI0.out.1).out 1).trans rfl, (N' (A' HI0.out.1).out 2).trans rfl⟩ (fun hHeld => ?_); refine with_tabW spec_l07Fault.tab16 spec_l07Fault.bits16 (fun HT_ HW_ => ?_)
     generalize wr.drew = w33 at HI0 HK HB hHeld ⊢
     refine pure_ (i := 0) (N := some 50) (v := ?_) (a' := ?_) #[y', n', n', n', n', n', n', n', n', n', n', n'] rfl rfl (any_of HT_.out (by kernel_rfl)) (fun _ _ _ h => h) (Or.inl ⟨by rfl, ?_⟩) ?_ ?_; rotate_left
     ·exact qI
     rotate_left
     ·exact qP
     refine pure_ (i := 1) (N := some 51) (v := ?_) (a' := ?_) #[y', y', n', n', n', n', n', n', n', n', n', n'] rfl rfl (any_of HT_.out (by kernel_rfl)) (fun _ _ _ h => h) (Or.inl ⟨by rfl, ?_⟩) ?_ ?_; rotate_left
     ·exact qI
     rotate_left
     ·exact qP
     refine pure_ (i := 2) (N := some 52) (v := ?_) (a' := ?_) #[y', y', y', n', n', n', n', n', n', n', n', n'] rfl rfl (any_of HT_.out (by kernel_rfl)) (fun _ _ _ h => h) (Or.inl ⟨by rfl, ?_⟩) ?_ ?_; rotate_left
     ·exact qI
     rotate_left
     ·exact qP
     refine pure_ (i := 3) (N := some 53) (v := ?_) (a' := ?_) #[y', y', y', y', n', n', n', n', n', n', n', n'] rfl rfl (any_of HT_.out (by kernel_rfl)) (fun _ _ _ h => h) (Or.inl ⟨by rfl, ?_⟩) ?_ ?_; rotate_left
     ·exact qI
     rotate_left
     ·exact qP
     refine pure_ (i := 4) (N := some 54) (v := ?_) (a' := ?_) #[y', y', y', y', y', n', n', n', n', n', n', n'] rfl rfl (any_of HT_.out (by kernel_rfl)) (fun _ _ _ h => h) (Or.inl ⟨by rfl, ?_⟩) ?_ ?_; rotate_left
     ·exact qI
     rotate_left
     ·exact qP
     refine pure_ (i := 6) (N := some 56) (v := ?_) (a' := ?_) #[y', y', y', y', y', n', y', n', n', n', n', n'] rfl rfl (any_of HT_.out (by kernel_rfl)) (fun _ _ _ h => h) (Or.inl ⟨by rfl, ?_⟩) ?_ ?_; rotate_left
     ·exact qI
     rotate_left
     ·exact qP
     refine pure_ (i := 7) (N := some 57) (v := ?_) (a' := ?_) #[y', y', y', y', y', n', y', y', n', n', n', n'] rfl rfl (any_of HT_.out (by kernel_rfl)) (fun _ _ _ h => h) (Or.inl ⟨by rfl, ?_⟩) ?_ ?_; rotate_left
     ·exact qI
     rotate_left
     ·exact qP
     refine pure_ (i := 8) (N := some 58) (v := ?_) (a' := ?_) #[y', y', y', y', y', n', y', y', y', n', n', n'] rfl rfl (any_of HT_.out (by kernel_rfl)) (fun _ _ _ h => h) (Or.inl ⟨by rfl, ?_⟩) ?_ ?_; rotate_left
     ·exact qI
     rotate_left
     ·exact qP
     refine take_ (i := 5) (N := some 55) (v := ?_) (a' := ?_) #[y', y', y', y', y', y', y', y', y', n', n', n'] rfl rfl (take_ofW HT_.out HW_.out (by kernel_rfl)) (fun _ _ _ h => h) (Or.inl ⟨by rfl, ?_⟩) hHeld ?_ ?_; rotate_left
     ·rintro w' ⟨s0, s1, s2⟩; go_simp; with_reducible rfl
     rotate_left
     ·exact qP
     refine take_ (i := 9) (N := some 59) (v := ?_) (a' := ?_) #[y', y', y', y', y', y', y', y', y', y', n', n'] rfl rfl (take_ofW HT_.out HW_.out (by kernel_rfl)) (fun _ _ _ h => h) (Or.inl ⟨by rfl, ?_⟩) hHeld ?_ ?_; rotate_left
     ·rintro w' ⟨s0, s1, s2⟩; go_simp; with_reducible rfl
     rotate_left
     ·exact qP
     refine pure_ (i := 10) (N := some 60) (v := ?_) (a' := ?_) #[y', y', y', y', y', y', y', y', y', y', y', n'] rfl rfl (any_of HT_.out (by kernel_rfl)) (fun _ _ _ h => h) (Or.inl ⟨by rfl, ?_⟩) ?_ ?_; rotate_left
     ·exact qI
     rotate_left
     ·exact qP
     refine pure_ (i := 11) (N := some 61) (v := ?_) (a' := ?_) #[y', y', y', y', y', y', y', y', y', y', y', y'] rfl rfl (any_of HT_.out (by kernel_rfl)) (fun _ _ _ h => h) (Or.inl ⟨by rfl, ?_⟩) ?_ ?_; rotate_left
     ·exact qI
     rotate_left
     ·exact qP
     refine done_ (done_of HT_.out (by kernel_rfl)) ?_; try go_wp2
     go_ret2; exact ⟨qE, by repeat (first | (with_reducible first | exact HI0.out | apply IsS26.alloc | apply IsS26.drewN | apply IsS26.drew | apply IsS26.set_0 | apply IsS26.set_1 | apply IsS26.set_2) | exact HI0.out), by repeat (first | (with_reducible first | exact HB.out | apply K' | apply F' | apply J' | refine E' ?_ (IsS26.ge HI0.out)) | exact HB.out), by repeat (first | (with_reducible first | exact HK.out | apply KeepBut.set_ | apply keep_drewN | apply keep_drew | apply keep_alloc) | exact HK.out)⟩
    ·rw [if_neg c32] at H; have c32b0 : decide ((l1.length : Int) < (wrap64 (x1000_1 + x1001_1))) = false := dF' c32; clear c32; simp only [Option.some.injEq, Prod.mk.injEq] at H; obtain ⟨rfl, rfl, rfl, rfl, rfl⟩ := H; try go_wp2
     have n0_ := A' (IsS26.drew HI0.out); have n1_ := A' (keep_drew HK.out); have n2_ := A' (J' HB.out); clear HI0; clear HK; clear HB; have HI0 := n0_; have HK := n1_; have HB := n2_; clear n0_ n1_ n2_; refine start_ (n := 12) (S := fun w' => w'.cell? ⟨g, 0, none⟩ = some (.int .i64 x1000_1) ∧ w'.cell? ⟨g, 1, none⟩ = some (.int .i64 x1001_1) ∧ w'.cell? ⟨g, 2, none⟩ = some (.bool x1002_1)) (ds := []) #[n', n', n', n', n', n', n', n', n', n', n', n'] (by kernel_rfl) rfl rfl ⟨(N' (A' HI0.out.1).out 0).trans rfl, (N' (A' HI0.out.1).out 1).trans rfl, (N' (A' HI0.out.1).out 2).trans rfl⟩ (fun hHeld => ?_); refine with_tabW spec_l07Fault.tab16 spec_l07Fault.bits16 (fun HT_ HW_ => ?_)
     generalize wr.drew = w34 at HI0 HK HB hHeld ⊢
     refine pure_ (i := 0) (N := some 50) (v := ?_) (a' := ?_) #[y', n', n', n', n', n', n', n', n', n', n', n'] rfl rfl (any_of HT_.out (by kernel_rfl)) (fun _ _ _ h => h) (Or.inl ⟨by rfl, ?_⟩) ?_ ?_; rotate_left
     ·exact qI
     rotate_left
     ·exact qP
     refine pure_ (i := 1) (N := some 51) (v := ?_) (a' := ?_) #[y', y', n', n', n', n', n', n', n', n', n', n'] rfl rfl (any_of HT_.out (by kernel_rfl)) (fun _ _ _ h => h) (Or.inl ⟨by rfl, ?_⟩) ?_ ?_; rotate_left
     ·exact qI
     rotate_left
     ·exact qP
     refine pure_ (i := 2) (N := some 52) (v := ?_) (a' := ?_) #[y', y', y', n', n', n', n', n', n', n', n', n'] rfl rfl (any_of HT_.out (by kernel_rfl)) (fun _ _ _ h => h) (Or.inl ⟨by rfl, ?_⟩) ?_ ?_; rotate_left
     ·exact qI
     rotate_left
     ·exact qP
     refine pure_ (i := 3) (N := some 53) (v := ?_) (a' := ?_) #[y', y', y', y', n', n', n', n', n', n', n', n'] rfl rfl (any_of HT_.out (by kernel_rfl)) (fun _ _ _ h => h) (Or.inl ⟨by rfl, ?_⟩) ?_ ?_; rotate_left
     ·exact qI
     rotate_left
     ·exact qP
     refine pure_ (i := 4) (N := some 54) (v := ?_) (a' := ?_) #[y', y', y', y', y', n', n', n', n', n', n', n'] rfl rfl (any_of HT_.out (by kernel_rfl)) (fun _ _ _ h => h) (Or.inl ⟨by rfl, ?_⟩) ?_ ?_; rotate_left
     ·exact qI
     rotate_left
     ·exact qP
     refine pure_ (i := 6) (N := some 56) (v := ?_) (a' := ?_) #[y', y', y', y', y', n', y', n', n', n', n', n'] rfl rfl (any_of HT_.out (by kernel_rfl)) (fun _ _ _ h => h) (Or.inl ⟨by rfl, ?_⟩) ?_ ?_; rotate_left
     ·exact qI
     rotate_left
     ·exact qP
     refine pure_ (i := 7) (N := some 57) (v := ?_) (a' := ?_) #[y', y', y', y', y', n', y', y', n', n', n', n'] rfl rfl (any_of HT_.out (by kernel_rfl)) (fun _ _ _ h => h) (Or.inl ⟨by rfl, ?_⟩) ?_ ?_; rotate_left
     ·exact qI
     rotate_left
     ·exact qP
     refine pure_ (i := 8) (N := some 58) (v := ?_) (a' := ?_) #[y', y', y', y', y', n', y', y', y', n', n', n'] rfl rfl (any_of HT_.out (by kernel_rfl)) (fun _ _ _ h => h) (Or.inl ⟨by rfl, ?_⟩) ?_ ?_; rotate_left
     ·exact qI
     rotate_left
     ·exact qP
     refine take_ (i := 5) (N := some 55) (v := ?_) (a' := ?_) #[y', y', y', y', y', y', y', y', y', n', n', n'] rfl rfl (take_ofW HT_.out HW_.out (by kernel_rfl)) (fun _ _ _ h => h) (Or.inl ⟨by rfl, ?_⟩) hHeld ?_ ?_; rotate_left
     ·rintro w' ⟨s0, s1, s2⟩; go_simp; with_reducible rfl
     rotate_left
     ·exact qP
     refine take_ (i := 9) (N := some 59) (v := ?_) (a' := ?_) #[y', y', y', y', y', y', y', y', y', y', n', n'] rfl rfl (take_ofW HT_.out HW_.out (by kernel_rfl)) (fun _ _ _ h => h) (Or.inl ⟨by rfl, ?_⟩) hHeld ?_ ?_; rotate_left
     ·rintro w' ⟨s0, s1, s2⟩; go_simp; with_reducible rfl
     rotate_left
     ·exact qP
     refine pure_ (i := 10) (N := some 60) (v := ?_) (a' := ?_) #[y', y', y', y', y', y', y', y', y', y', y', n'] rfl rfl (any_of HT_.out (by kernel_rfl)) (fun _ _ _ h => h) (Or.inl ⟨by rfl, ?_⟩) ?_ ?_; rotate_left
     ·exact qI
     rotate_left
     ·exact qP
     refine pure_ (i := 11) (N := some 61) (v := ?_) (a' := ?_) #[y', y', y', y', y', y', y', y', y', y', y', y'] rfl rfl (any_of HT_.out (by kernel_rfl)) (fun _ _ _ h => h) (Or.inl ⟨by rfl, ?_⟩) ?_ ?_; rotate_left
     ·exact qI
     rotate_left
     ·exact qP
     refine done_ (done_of HT_.out (by kernel_rfl)) ?_; try go_wp2
     go_ret2; exact ⟨qE, by repeat (first | (with_reducible first | exact HI0.out | apply IsS26.alloc | apply IsS26.drewN | apply IsS26.drew | apply IsS26.set_0 | apply IsS26.set_1 | apply IsS26.set_2) | exact HI0.out), by repeat (first | (with_reducible first | exact HB.out | apply K' | apply F' | apply J' | refine E' ?_ (IsS26.ge HI0.out)) | exact HB.out), by repeat (first | (with_reducible first | exact HK.out | apply KeepBut.set_ | apply keep_drewN | apply keep_drew | apply keep_alloc) | exact HK.out)⟩

/-! ### spec_l07Code: function 34 -/
def spec_l07Code.f (k : Nat) (s0_0 : Int) (s0_1 : Int) (s0_2 : Bool) (l1 : List (S53)) : Option (Int × Int × Int × Bool) := (spec_l05One.f k s0_0 s0_1 s0_2).bind fun bt435 => (if bt435.1 = true then ((spec_l07Fault.f k bt435.2.1 bt435.2.2.1 bt435.2.2.2 l1).bind fun bt439 => (if bt439.1.toList = ([110, 111, 110, 101] : List UInt8) then (some (0, bt439.2.2.1, bt439.2.2.2.1, bt439.2.2.2.2)) else (some (8, bt439.2.2.1, bt439.2.2.2.1, bt439.2.2.2.2)))) else (some (1, bt435.2.1, bt435.2.2.1, bt435.2.2.2)))
theorem spec_l07Code.mono : ∀ a0 a1 a2 a3 k, LeO (spec_l07Code.f k a0 a1 a2 a3) (spec_l07Code.f (k + 1) a0 a1 a2 a3) := by
 intro a0 a1 a2 a3 k
 unfold spec_l07Code.f
 repeat' first
   | (with_reducible exact spec_l05One.mono _ _ _ _)
   | (with_reducible exact spec_l07Fault.mono _ _ _ _ _)
   | (with_reducible exact LeO.refl _)
   | (with_reducible exact LeO.none _)
   | (with_reducible refine LeO.ite ?_ ?_)
   | (with_reducible refine LeO.bind ?_ (fun _ => ?_))
   | exact spec_l05One.mono _ _ _ _
   | exact spec_l07Fault.mono _ _ _ _ _
   | exact LeO.none _
   | refine LeO.ite ?_ ?_
   | refine LeO.bind ?_ (fun _ => ?_)
set_option maxHeartbeats 8000000 in
set_option maxRecDepth 100000 in
theorem spec_l07Code.calls (k : Nat) (g : Nat) (s0_0 : Int) (s0_1 : Int) (s0_2 : Bool) (A1 : Option Addr) (c1 : Nat) (l1 : List (S53)) (r1 : Int) (r2 : Int) (r3 : Int) (r4 : Bool) (w0 w : World) (hI : IsS26 w0 w g s0_0 s0_1 s0_2) (hB : Below w0.heap.size w0 w) (hr1 : ∀ W_, KeepBut w W_ g none → Kd.C k53 W_ A1 l1.length l1) (hc1 : l1.length ≤ c1) (h : spec_l07Code.f k s0_0 s0_1 s0_2 l1 = some (r1, r2, r3, r4)) :
  Calls Try.prog 34 #[.pointer (some ⟨g, 0, none⟩), .slice A1 l1.length c1] w fun e w' => e = .returned (.int .i64 r1) ∧ IsS26 w0 w' g r2 r3 r4 ∧ Below w0.heap.size w0 w' ∧ KeepBut w w' g none := by
 have HR1 := A' hr1; have HC1 := A' hc1; clear hr1 hc1; have HI0 := A' hI; have HK := A' (KeepBut.refl w g none); have HL := A' hB.size; clear hI; have HW0 := A' hB.size; have HB := A' hB; clear hB; have H : ((spec_l05One.f k s0_0 s0_1 s0_2).bind fun bt435 => (if bt435.1 = true then ((spec_l07Fault.f k bt435.2.1 bt435.2.2.1 bt435.2.2.2 l1).bind fun bt439 => (if bt439.1.toList = ([110, 111, 110, 101] : List UInt8) then (some (0, bt439.2.2.1, bt439.2.2.2.1, bt439.2.2.2.2)) else (some (8, bt439.2.2.1, bt439.2.2.2.1, bt439.2.2.2.2)))) else (some (1, bt435.2.1, bt435.2.2.1, bt435.2.2.2)))) = some (r1, r2, r3, r4) := h; clear h; replace H := Option.bind_eq_some_iff.mp H; obtain ⟨⟨t435, t436, t437, t438⟩, A30, H⟩ := H; replace H : (if t435 = true then ((spec_l07Fault.f k t436 t437 t438 l1).bind fun bt439 => (if bt439.1.toList = ([110, 111, 110, 101] : List UInt8) then (some (0, bt439.2.2.1, bt439.2.2.2.1, bt439.2.2.2.2)) else (some (8, bt439.2.2.1, bt439.2.2.2.1, bt439.2.2.2.2)))) else (some (1, t436, t437, t438))) = some (r1, r2, r3, r4) := H; have A3 := A' A30; clear A30
 by_cases c4 : t435 = true
 ·subst c4; have H1 : ((spec_l07Fault.f k t436 t437 t438 l1).bind fun bt439 => (if bt439.1.toList = ([110, 111, 110, 101] : List UInt8) then (some (0, bt439.2.2.1, bt439.2.2.2.1, bt439.2.2.2.2)) else (some (8, bt439.2.2.1, bt439.2.2.2.1, bt439.2.2.2.2)))) = some (r1, r2, r3, r4) := by rw [if_pos rfl] at H; exact H
  clear H; have H := H1; clear H1; replace H := Option.bind_eq_some_iff.mp H; obtain ⟨⟨t439, t440, t441, t442, t443⟩, A50, H⟩ := H; replace H : (if t439.toList = ([110, 111, 110, 101] : List UInt8) then (some (0, t441, t442, t443)) else (some (8, t441, t442, t443))) = some (r1, r2, r3, r4) := H; have A5 := A' A50; clear A50
  by_cases c6 : t439.toList = ([110, 111, 110, 101] : List UInt8)
  ·rw [if_pos c6] at H; have c6b0 : (t439.toList == ([110, 111, 110, 101] : List UInt8)) = true := beq_iff_eq.mpr c6; have c6b1 : (t439.toList != ([110, 111, 110, 101] : List UInt8)) = false := bne_eq_false_iff_eq.mpr c6; clear c6; simp only [Option.some.injEq, Prod.mk.injEq] at H; obtain ⟨rfl, rfl, rfl, rfl⟩ := H; go_enter Try.func34, Try.ntmps34; go_wp2_with (first | ((with_reducible refine gate_callee (f := 47) rfl ?_); refine goesL_ (some 8) rfl rfl Try.func47 (by kernel_rfl) rfl #[.pointer (some ⟨g, 0, none⟩)] rfl (by (try simp only [List.map_toArray, List.map_cons, List.map_nil]); first | done | rfl | (simp only [List.length_drop, List.length_take]; rfl)) ?_; (with_reducible refine (spec_l05One.calls k g s0_0 s0_1 s0_2 true t436 t437 t438 w0 _ ?side1 ?side2 A3.out).mono ?_); (case side1 => repeat (first | (with_reducible first | exact HI0.out | apply IsS26.alloc | apply IsS26.drewN | apply IsS26.drew | apply IsS26.set_0 | apply IsS26.set_1 | apply IsS26.set_2) | exact HI0.out)); (case side2 => repeat (first | (with_reducible first | exact HB.out | apply K' | apply F' | apply J' | refine E' ?_ (IsS26.ge HI0.out)) | exact HB.out)); rintro e w7 ⟨rfl, hi, hb, hk⟩; refine ⟨_, rfl, ?_⟩; have n0_ := A' (KeepBut.trans (by repeat (first | (with_reducible first | exact HK.out | apply KeepBut.set_ | apply keep_drewN | apply keep_drew | apply keep_alloc) | exact HK.out)) hk (.inl rfl)); have n1_ := A' (hb); have n2_ := A' (hi); clear HK; clear HB; clear HI0; have HK := n0_; have HB := n1_; have HI0 := n2_; clear n0_ n1_ n2_; (try clear hb); (try clear hb2); (try clear hk); (try clear hi)) | ((with_reducible refine gate_callee (f := 58) rfl ?_); refine goesL_ (some 13) rfl rfl Try.func58 (by kernel_rfl) rfl #[.pointer (some ⟨g, 0, none⟩), .slice A1 l1.length c1] rfl (by (try simp only [List.map_toArray, List.map_cons, List.map_nil]); first | done | rfl | (simp only [List.length_drop, List.length_take]; rfl)) ?_; (with_reducible refine (spec_l07Fault.calls k g t436 t437 t438 _ _ l1 t439 t440 t441 t442 t443 w0 _ ?side1 ?side2 ?side3 ?side4 A5.out).mono ?_); (case side1 => repeat (first | (with_reducible first | exact HI0.out | apply IsS26.alloc | apply IsS26.drewN | apply IsS26.drew | apply IsS26.set_0 | apply IsS26.set_1 | apply IsS26.set_2) | exact HI0.out)); (case side2 => repeat (first | (with_reducible first | exact HB.out | apply K' | apply F' | apply J' | refine E' ?_ (IsS26.ge HI0.out)) | exact HB.out)); (case side3 => exact Kd.C_foot_step HR1.out (by repeat (first | (with_reducible first | exact HK.out | apply KeepBut.set_ | apply keep_drewN | apply keep_drew | apply keep_alloc) | exact HK.out))); (case side4 => exact HC1.out); rintro e w8 ⟨rfl, hi, hb, hk⟩; refine ⟨_, rfl, ?_⟩; have n0_ := A' (KeepBut.trans (by repeat (first | (with_reducible first | exact HK.out | apply KeepBut.set_ | apply keep_drewN | apply keep_drew | apply keep_alloc) | exact HK.out)) hk (.inl rfl)); have n1_ := A' (hb); have n2_ := A' (hi); clear HK; clear HB; clear HI0; have HK := n0_; have HB := n1_; have HI0 := n2_; clear n0_ n1_ n2_; (try clear hb); (try clear hb2); (try clear hk); (try clear hi))); go_ret; exact ⟨qE, by repeat (first | (with_reducible first | exact HI0.out | apply IsS26.alloc | apply IsS26.drewN | apply IsS26.drew | apply IsS26.set_0 | apply IsS26.set_1 | apply IsS26.set_2) | exact HI0.out), by repeat (first | (with_reducible first | exact HB.out | apply K' | apply F' | apply J' | refine E' ?_ (IsS26.ge HI0.out)) | exact HB.out), by repeat (first | (with_reducible first | exact HK.out | apply KeepBut.set_ | apply keep_drewN | apply keep_drew | apply keep_alloc) | exact HK.out)⟩
  ·rw [if_neg c6] at H; have c6b0 : (t439.toList == ([110, 111, 110, 101] : List UInt8)) = false := beq_eq_false_iff_ne.mpr c6; have c6b1 : (t439.toList != ([110, 111, 110, 101] : List UInt8)) = true := bne_iff_ne.mpr c6; simp only [Option.some.injEq, Prod.mk.injEq] at H; obtain ⟨rfl, rfl, rfl, rfl⟩ := H; go_enter Try.func34, Try.ntmps34; go_wp2_with (first | ((with_reducible refine gate_callee (f := 47) rfl ?_); refine goesL_ (some 8) rfl rfl Try.func47 (by kernel_rfl) rfl #[.pointer (some ⟨g, 0, none⟩)] rfl (by (try simp only [List.map_toArray, List.map_cons, List.map_nil]); first | done | rfl | (simp only [List.length_drop, List.length_take]; rfl)) ?_; (with_reducible refine (spec_l05One.calls k g s0_0 s0_1 s0_2 true t436 t437 t438 w0 _ ?side1 ?side2 A3.out).mono ?_); (case side1 => repeat (first | (with_reducible first | exact HI0.out | apply IsS26.alloc | apply IsS26.drewN | apply IsS26.drew | apply IsS26.set_0 | apply IsS26.set_1 | apply IsS26.set_2) | exact HI0.out)); (case side2 => repeat (first | (with_reducible first | exact HB.out | apply K' | apply F' | apply J' | refine E' ?_ (IsS26.ge HI0.out)) | exact HB.out)); rintro e w9 ⟨rfl, hi, hb, hk⟩; refine ⟨_, rfl, ?_⟩; have n0_ := A' (KeepBut.trans (by repeat (first | (with_reducible first | exact HK.out | apply KeepBut.set_ | apply keep_drewN | apply keep_drew | apply keep_alloc) | exact HK.out)) hk (.inl rfl)); have n1_ := A' (hb); have n2_ := A' (hi); clear HK; clear HB; clear HI0; have HK := n0_; have HB := n1_; have HI0 := n2_; clear n0_ n1_ n2_; (try clear hb); (try clear hb2); (try clear hk); (try clear hi)) | ((with_reducible refine gate_callee (f := 58) rfl ?_); refine goesL_ (some 13) rfl rfl Try.func58 (by kernel_rfl) rfl #[.pointer (some ⟨g, 0, none⟩), .slice A1 l1.length c1] rfl (by (try simp only [List.map_toArray, List.map_cons, List.map_nil]); first | done | rfl | (simp only [List.length_drop, List.length_take]; rfl)) ?_; (with_reducible refine (spec_l07Fault.calls k g t436 t437 t438 _ _ l1 t439 t440 t441 t442 t443 w0 _ ?side1 ?side2 ?side3 ?side4 A5.out).mono ?_); (case side1 => repeat (first | (with_reducible first | exact HI0.out | apply IsS26.alloc | apply IsS26.drewN | apply IsS26.drew | apply IsS26.set_0 | apply IsS26.set_1 | apply IsS26.set_2) | exact HI0.out)); (case side2 => repeat (first | (with_reducible first | exact HB.out | apply K' | apply F' | apply J' | refine E' ?_ (IsS26.ge HI0.out)) | exact HB.out)); (case side3 => exact Kd.C_foot_step HR1.out (by repeat (first | (with_reducible first | exact HK.out | apply KeepBut.set_ | apply keep_drewN | apply keep_drew | apply keep_alloc) | exact HK.out))); (case side4 => exact HC1.out); rintro e w10 ⟨rfl, hi, hb, hk⟩; refine ⟨_, rfl, ?_⟩; have n0_ := A' (KeepBut.trans (by repeat (first | (with_reducible first | exact HK.out | apply KeepBut.set_ | apply keep_drewN | apply keep_drew | apply keep_alloc) | exact HK.out)) hk (.inl rfl)); have n1_ := A' (hb); have n2_ := A' (hi); clear HK; clear HB; clear HI0; have HK := n0_; have HB := n1_; have HI0 := n2_; clear n0_ n1_ n2_; (try clear hb); (try clear hb2); (try clear hk); (try clear hi))); go_ret; exact ⟨qE, by repeat (first | (with_reducible first | exact HI0.out | apply IsS26.alloc | apply IsS26.drewN | apply IsS26.drew | apply IsS26.set_0 | apply IsS26.set_1 | apply IsS26.set_2) | exact HI0.out), by repeat (first | (with_reducible first | exact HB.out | apply K' | apply F' | apply J' | refine E' ?_ (IsS26.ge HI0.out)) | exact HB.out), by repeat (first | (with_reducible first | exact HK.out | apply KeepBut.set_ | apply keep_drewN | apply keep_drew | apply keep_alloc) | exact HK.out)⟩
 ·replace c4 := Bool.eq_false_iff.mpr c4; subst c4; have H1 : (some (1, t436, t437, t438)) = some (r1, r2, r3, r4) := by rw [if_neg (show ¬ (false = true) by decide)] at H; exact H
  clear H; have H := H1; clear H1; simp only [Option.some.injEq, Prod.mk.injEq] at H; obtain ⟨rfl, rfl, rfl, rfl⟩ := H; go_enter Try.func34, Try.ntmps34; go_wp2_with (first | ((with_reducible refine gate_callee (f := 47) rfl ?_); refine goesL_ (some 8) rfl rfl Try.func47 (by kernel_rfl) rfl #[.pointer (some ⟨g, 0, none⟩)] rfl (by (try simp only [List.map_toArray, List.map_cons, List.map_nil]); first | done | rfl | (simp only [List.length_drop, List.length_take]; rfl)) ?_; (with_reducible refine (spec_l05One.calls k g s0_0 s0_1 s0_2 false t436 t437 t438 w0 _ ?side1 ?side2 A3.out).mono ?_); (case side1 => repeat (first | (with_reducible first | exact HI0.out | apply IsS26.alloc | apply IsS26.drewN | apply IsS26.drew | apply IsS26.set_0 | apply IsS26.set_1 | apply IsS26.set_2) | exact HI0.out)); (case side2 => repeat (first | (with_reducible first | exact HB.out | apply K' | apply F' | apply J' | refine E' ?_ (IsS26.ge HI0.out)) | exact HB.out)); rintro e w11 ⟨rfl, hi, hb, hk⟩; refine ⟨_, rfl, ?_⟩; have n0_ := A' (KeepBut.trans (by repeat (first | (with_reducible first | exact HK.out | apply KeepBut.set_ | apply keep_drewN | apply keep_drew | apply keep_alloc) | exact HK.out)) hk (.inl rfl)); have n1_ := A' (hb); have n2_ := A' (hi); clear HK; clear HB; clear HI0; have HK := n0_; have HB := n1_; have HI0 := n2_; clear n0_ n1_ n2_; (try clear hb); (try clear hb2); (try clear hk); (try clear hi))); go_ret; exact ⟨qE, by repeat (first | (with_reducible first | exact HI0.out | apply IsS26.alloc | apply IsS26.drewN | apply IsS26.drew | apply IsS26.set_0 | apply IsS26.set_1 | apply IsS26.set_2) | exact HI0.out), by repeat (first | (with_reducible first | exact HB.out | apply K' | apply F' | apply J' | refine E' ?_ (IsS26.ge HI0.out)) | exact HB.out), by repeat (first | (with_reducible first | exact HK.out | apply KeepBut.set_ | apply keep_drewN | apply keep_drew | apply keep_alloc) | exact HK.out)⟩

/-! ### spec_CrossingsOf: function 26 -/
def spec_CrossingsOf.f (k : Nat) (a0_0 : Int) (a0_1 : Int) (a0_2 : Bool) (l1 : List (S53)) (a2 : Bool) : Option (Int × Int) := (spec_l07Code.f k a0_0 a0_1 a0_2 l1).bind fun bt445 => (if bt445.1 = 0 then ((spec_l07Count.f k l1 a2).bind fun t449 => (some (t449, 0))) else (some (0, bt445.1)))
theorem spec_CrossingsOf.mono : ∀ a0 a1 a2 a3 a4 k, LeO (spec_CrossingsOf.f k a0 a1 a2 a3 a4) (spec_CrossingsOf.f (k + 1) a0 a1 a2 a3 a4) := by
 intro a0 a1 a2 a3 a4 k
 unfold spec_CrossingsOf.f
 repeat' first
   | (with_reducible exact spec_l07Code.mono _ _ _ _ _)
   | (with_reducible exact spec_l07Count.mono _ _ _)
   | (with_reducible exact LeO.refl _)
   | (with_reducible exact LeO.none _)
   | (with_reducible refine LeO.ite ?_ ?_)
   | (with_reducible refine LeO.bind ?_ (fun _ => ?_))
   | exact spec_l07Code.mono _ _ _ _ _
   | exact spec_l07Count.mono _ _ _
   | exact LeO.none _
   | refine LeO.ite ?_ ?_
   | refine LeO.bind ?_ (fun _ => ?_)
set_option maxHeartbeats 8000000 in
set_option maxRecDepth 100000 in
theorem spec_CrossingsOf.calls (k : Nat) (a0_0 : Int) (a0_1 : Int) (a0_2 : Bool) (A1 : Option Addr) (c1 : Nat) (l1 : List (S53)) (a2 : Bool) (r1 : Int) (r2 : Int) (w : World) (hr1 : Kd.C k53 w A1 l1.length l1) (hc1 : l1.length ≤ c1) (h : spec_CrossingsOf.f k a0_0 a0_1 a0_2 l1 a2 = some (r1, r2)) :
  Calls Try.prog 26 #[.agg #[.int .i64 a0_0, .int .i64 a0_1, .bool a0_2], .slice A1 l1.length c1, .bool a2] w fun e w' => e = .returned (.tuple #[.int .i64 r1, .int .i64 r2]) ∧ Below w.heap.size w w' := by
 have hu26 := Try.underlying26; have HR1 := A' hr1; have HC1 := A' hc1; clear hr1 hc1; have HB := A' (Below.refl w.heap.size w); have H : ((spec_l07Code.f k a0_0 a0_1 a0_2 l1).bind fun bt445 => (if bt445.1 = 0 then ((spec_l07Count.f k l1 a2).bind fun t449 => (some (t449, 0))) else (some (0, bt445.1)))) = some (r1, r2) := h; clear h; replace H := Option.bind_eq_some_iff.mp H; obtain ⟨⟨t445, t446, t447, t448⟩, A40, H⟩ := H; replace H : (if t445 = 0 then ((spec_l07Count.f k l1 a2).bind fun t449 => (some (t449, 0))) else (some (0, t445))) = some (r1, r2) := H; have A4 := A' A40; clear A40
 by_cases c5 : t445 = 0
 ·rw [if_pos c5] at H; have c5b0 : (t445 == 0) = true := beq_iff_eq.mpr c5; have c5b1 : (t445 != 0) = false := bne_eq_false_iff_eq.mpr c5; clear c5; replace H := Option.bind_eq_some_iff.mp H; obtain ⟨t449, A60, H⟩ := H; replace H : (some (t449, 0)) = some (r1, r2) := H; have A6 := A' A60; clear A60; simp only [Option.some.injEq, Prod.mk.injEq] at H; obtain ⟨rfl, rfl⟩ := H; go_enter Try.func26, Try.ntmps26; go_wp2_with (first | ((with_reducible refine gate_dst (N := 3) rfl ?_); refine box_event ?hg (N := 3) ?hd (cs := #[.int .i64 a0_0, .int .i64 a0_1, .bool a0_2]) (t := 26) ?hr ?_; (case hd => rfl); (case hg => rfl); (case hr => first | (go_simp; done) | (go_simp; rfl)); intro gb444 hg w7 hbox hb; have n0_ := A' (W' (qK0 HB.out) hb); have n1_ := A' (hbox); have n2_ := A' ((by rw [hg]; exact (V' (qK0 HB.out)) : w.heap.size ≤ gb444)); have n3_ := A' ((by rw [hg]; exact (V' (qK0 HB.out)) : w.heap.size ≤ gb444)); clear HB; have HB := n0_; have BK444 := n1_; have GW444 := n2_; have GE444 := n3_; clear n0_ n1_ n2_ n3_; clear hb hbox hg; have HI444 := A' (show IsS26 w w7 gb444 a0_0 a0_1 a0_2 from ⟨(qB BK444.out), GE444.out⟩)) | ((with_reducible refine gate_callee (f := 34) rfl ?_); refine goesL_ (some 10) rfl rfl Try.func34 (by kernel_rfl) rfl #[.pointer (some ⟨gb444, 0, none⟩), .slice A1 l1.length c1] rfl (by (try simp only [List.map_toArray, List.map_cons, List.map_nil]); first | done | rfl | (simp only [List.length_drop, List.length_take]; rfl)) ?_; (with_reducible refine (spec_l07Code.calls k gb444 a0_0 a0_1 a0_2 _ _ l1 t445 t446 t447 t448 w _ ?side1 ?side2 ?side3 ?side4 A4.out).mono ?_); (case side1 => repeat (first | (with_reducible first | exact HI444.out | apply IsS26.alloc | apply IsS26.drewN | apply IsS26.drew | apply IsS26.set_0 | apply IsS26.set_1 | apply IsS26.set_2) | exact HI444.out)); (case side2 => repeat (first | (with_reducible first | exact HB.out | apply K' | apply F' | apply J' | refine E' ?_ (IsS26.ge HI444.out)) | exact HB.out)); (case side3 => exact Kd.C_foot_came k53_heap HR1.out (by repeat (first | (with_reducible first | exact HB.out | apply K' | apply F' | apply J' | refine E' ?_ (IsS26.ge HI444.out)) | exact HB.out)) (IsS26.ge HI444.out)); (case side4 => exact HC1.out); rintro e w8 ⟨rfl, hi, hb, hk⟩; refine ⟨_, rfl, ?_⟩; have n0_ := A' (hb); have n1_ := A' (hi); clear HB; clear HI444; have HB := n0_; have HI444 := n1_; clear n0_ n1_; (try clear hb); (try clear hb2); (try clear hk); (try clear hi)) | ((with_reducible refine gate_callee (f := 45) rfl ?_); refine goesL_ (some 16) rfl rfl Try.func45 (by kernel_rfl) rfl #[.slice A1 l1.length c1, .bool a2] rfl (by (try simp only [List.map_toArray, List.map_cons, List.map_nil]); first | done | rfl | (simp only [List.length_drop, List.length_take]; rfl)) ?_; (with_reducible refine (spec_l07Count.calls k _ _ l1 a2 t449 _ ?side1 ?side2 A6.out).mono ?_); (case side1 => exact qT (X' HR1.out HB.out)); (case side2 => exact HC1.out); rintro e w9 ⟨rfl, hb⟩; refine ⟨_, rfl, ?_⟩; have n0_ := A' (IsS26.below (by repeat (first | (with_reducible first | exact HI444.out | apply IsS26.alloc | apply IsS26.drewN | apply IsS26.drew | apply IsS26.set_0 | apply IsS26.set_1 | apply IsS26.set_2) | exact HI444.out)) hb); have n1_ := A' (W' (by repeat (first | (with_reducible first | exact HB.out | apply K' | apply F' | apply J' | refine E' ?_ (IsS26.ge HI444.out)) | exact HB.out)) hb); clear HI444; clear HB; have HI444 := n0_; have HB := n1_; clear n0_ n1_; (try clear hb); (try clear hb2); (try clear hk); (try clear hi))); go_ret2; exact ⟨qE, by repeat (first | (with_reducible first | exact HB.out | apply K' | apply F' | apply J' | refine E' ?_ (IsS26.ge HI444.out)) | exact HB.out)⟩
 ·rw [if_neg c5] at H; have c5b0 : (t445 == 0) = false := beq_eq_false_iff_ne.mpr c5; have c5b1 : (t445 != 0) = true := bne_iff_ne.mpr c5; simp only [Option.some.injEq, Prod.mk.injEq] at H; obtain ⟨rfl, rfl⟩ := H; go_enter Try.func26, Try.ntmps26; go_wp2_with (first | ((with_reducible refine gate_dst (N := 3) rfl ?_); refine box_event ?hg (N := 3) ?hd (cs := #[.int .i64 a0_0, .int .i64 a0_1, .bool a0_2]) (t := 26) ?hr ?_; (case hd => rfl); (case hg => rfl); (case hr => first | (go_simp; done) | (go_simp; rfl)); intro gb444 hg w10 hbox hb; have n0_ := A' (W' (qK0 HB.out) hb); have n1_ := A' (hbox); have n2_ := A' ((by rw [hg]; exact (V' (qK0 HB.out)) : w.heap.size ≤ gb444)); have n3_ := A' ((by rw [hg]; exact (V' (qK0 HB.out)) : w.heap.size ≤ gb444)); clear HB; have HB := n0_; have BK444 := n1_; have GW444 := n2_; have GE444 := n3_; clear n0_ n1_ n2_ n3_; clear hb hbox hg; have HI444 := A' (show IsS26 w w10 gb444 a0_0 a0_1 a0_2 from ⟨(qB BK444.out), GE444.out⟩)) | ((with_reducible refine gate_callee (f := 34) rfl ?_); refine goesL_ (some 10) rfl rfl Try.func34 (by kernel_rfl) rfl #[.pointer (some ⟨gb444, 0, none⟩), .slice A1 l1.length c1] rfl (by (try simp only [List.map_toArray, List.map_cons, List.map_nil]); first | done | rfl | (simp only [List.length_drop, List.length_take]; rfl)) ?_; (with_reducible refine (spec_l07Code.calls k gb444 a0_0 a0_1 a0_2 _ _ l1 t445 t446 t447 t448 w _ ?side1 ?side2 ?side3 ?side4 A4.out).mono ?_); (case side1 => repeat (first | (with_reducible first | exact HI444.out | apply IsS26.alloc | apply IsS26.drewN | apply IsS26.drew | apply IsS26.set_0 | apply IsS26.set_1 | apply IsS26.set_2) | exact HI444.out)); (case side2 => repeat (first | (with_reducible first | exact HB.out | apply K' | apply F' | apply J' | refine E' ?_ (IsS26.ge HI444.out)) | exact HB.out)); (case side3 => exact Kd.C_foot_came k53_heap HR1.out (by repeat (first | (with_reducible first | exact HB.out | apply K' | apply F' | apply J' | refine E' ?_ (IsS26.ge HI444.out)) | exact HB.out)) (IsS26.ge HI444.out)); (case side4 => exact HC1.out); rintro e w11 ⟨rfl, hi, hb, hk⟩; refine ⟨_, rfl, ?_⟩; have n0_ := A' (hb); have n1_ := A' (hi); clear HB; clear HI444; have HB := n0_; have HI444 := n1_; clear n0_ n1_; (try clear hb); (try clear hb2); (try clear hk); (try clear hi))); go_ret2; exact ⟨qE, by repeat (first | (with_reducible first | exact HB.out | apply K' | apply F' | apply J' | refine E' ?_ (IsS26.ge HI444.out)) | exact HB.out)⟩

/-! ### spec_DrawFirstCrossing: function 27 -/
def spec_DrawFirstCrossing.f (k : Nat) (l0 : List Int) : Option (Int × Int × Bool × (List (S53)) × Bool) := (spec_l07Turned.f k l0).bind fun bt451 => (some (bt451.1, bt451.2.1, bt451.2.2.1, bt451.2.2.2.1, bt451.2.2.2.2))
theorem spec_DrawFirstCrossing.mono : ∀ a0 k, LeO (spec_DrawFirstCrossing.f k a0) (spec_DrawFirstCrossing.f (k + 1) a0) := by
 intro a0 k
 unfold spec_DrawFirstCrossing.f
 repeat' first
   | (with_reducible exact spec_l07Turned.mono _ _)
   | (with_reducible exact LeO.refl _)
   | (with_reducible exact LeO.none _)
   | (with_reducible refine LeO.ite ?_ ?_)
   | (with_reducible refine LeO.bind ?_ (fun _ => ?_))
   | exact spec_l07Turned.mono _ _
   | exact LeO.none _
   | refine LeO.ite ?_ ?_
   | refine LeO.bind ?_ (fun _ => ?_)
set_option maxHeartbeats 8000000 in
set_option maxRecDepth 100000 in
theorem spec_DrawFirstCrossing.calls (k : Nat) (A0 : Option Addr) (c0 : Nat) (l0 : List Int) (r1 : Int) (r2 : Int) (r3 : Bool) (r4 : List (S53)) (r5 : Bool) (w : World) (hr0 : Kd.C (Kd.int .u8) w A0 l0.length l0) (hc0 : l0.length ≤ c0) (h : spec_DrawFirstCrossing.f k l0 = some (r1, r2, r3, r4, r5)) :
  Calls Try.prog 27 #[.slice A0 l0.length c0] w fun e w' => ∃ v3_ : Value, e = .returned (.tuple #[.agg #[.int .i64 r1, .int .i64 r2, .bool r3], v3_, .bool r5]) ∧ Kd.R k53 53 w' w.heap.size (fun _ => True) v3_ r4 ∧ Below w.heap.size w w' := by
 have hu26 := Try.underlying26; have HR0 := A' hr0; have HC0 := A' hc0; clear hr0 hc0; have HB := A' (Below.refl w.heap.size w); have H : ((spec_l07Turned.f k l0).bind fun bt451 => (some (bt451.1, bt451.2.1, bt451.2.2.1, bt451.2.2.2.1, bt451.2.2.2.2))) = some (r1, r2, r3, r4, r5) := h; clear h; replace H := Option.bind_eq_some_iff.mp H; obtain ⟨⟨t451, t452, t453, t454, t457⟩, A20, H⟩ := H; replace H : (some (t451, t452, t453, t454, t457)) = some (r1, r2, r3, r4, r5) := H; have A2 := A' A20; clear A20; simp only [Option.some.injEq, Prod.mk.injEq] at H; obtain ⟨rfl, rfl, rfl, rfl, rfl⟩ := H; go_enter Try.func27, Try.ntmps27; go_wp2_with (first | ((with_reducible refine gate_dst (N := 2) rfl ?_); refine box_event ?hg (N := 2) ?hd (cs := #[.int .i64 0, .int .i64 0, .bool false]) (t := 26) ?hr ?_; (case hd => rfl); (case hg => rfl); (case hr => first | (go_simp; done) | (go_simp; rfl)); intro gb450 hg w3 hbox hb; have n0_ := A' (W' (qK0 HB.out) hb); have n1_ := A' (hbox); have n2_ := A' ((by rw [hg]; exact (V' (qK0 HB.out)) : w.heap.size ≤ gb450)); have n3_ := A' ((by rw [hg]; exact (V' (qK0 HB.out)) : w.heap.size ≤ gb450)); clear HB; have HB := n0_; have BK450 := n1_; have GW450 := n2_; have GE450 := n3_; clear n0_ n1_ n2_ n3_; clear hb hbox hg) | ((with_reducible refine gate_callee (f := 43) rfl ?_); refine goesL_ (some 6) rfl rfl Try.func43 (by kernel_rfl) rfl #[.slice A0 l0.length c0] rfl (by (try simp only [List.map_toArray, List.map_cons, List.map_nil]); first | done | rfl | (simp only [List.length_drop, List.length_take]; rfl)) ?_; (with_reducible refine (spec_l07Turned.calls k _ _ l0 t451 t452 t453 t454 t457 _ ?side1 ?side2 A2.out).mono ?_); (case side1 => exact qT (X' HR0.out HB.out)); (case side2 => exact HC0.out); rintro e w4 ⟨v455, rfl, ho0, hb⟩; refine ⟨_, rfl, ?_⟩; have n0_ := A' (Kd.R_lower ho0 (V' (qK1 HB.out GE450.out))); have n1_ := A' (O' (g := gb450) (qB BK450.out) hb); have n2_ := A' (W' (qK1 HB.out GE450.out) hb); clear BK450; clear HB; have HO456 := n0_; have BK450 := n1_; have HB := n2_; clear n0_ n1_ n2_; (try clear hb); (try clear hb2); (try clear hk); (try clear hi); (try clear ho0); have hcz5_0 : w4.cell? ⟨gb450, 0, none⟩ = some (.int .i64 0) := (N' BK450.out 0).trans rfl; have hcz5_1 : w4.cell? ⟨gb450, 1, none⟩ = some (.int .i64 0) := (N' BK450.out 1).trans rfl; have hcz5_2 : w4.cell? ⟨gb450, 2, none⟩ = some (.bool false) := (N' BK450.out 2).trans rfl; have hfz5_0 := Y' BK450.out 0; have hfz5_1 := Y' BK450.out 1; have hfz5_2 := Y' BK450.out 2)); refine bodyPost_ret (results_ctt rfl _ _ gb450 26 #[.int .i64 t451, .int .i64 t452, .bool t453] (0, 0) _ rfl (by (with_reducible repeat (first | refine G' ?_ _ | refine I' ?_ | refine H' ?_ _)); refine blk_put (cs := #[.int .i64 t451, .int .i64 t452, .bool false]) ?_ 2 _ rfl; (with_reducible repeat (first | refine G' ?_ _ | refine I' ?_ | refine H' ?_ _)); refine blk_put (cs := #[.int .i64 t451, .int .i64 0, .bool false]) ?_ 1 _ rfl; (with_reducible repeat (first | refine G' ?_ _ | refine I' ?_ | refine H' ?_ _)); refine blk_put (cs := #[.int .i64 0, .int .i64 0, .bool false]) ?_ 0 _ rfl; (with_reducible repeat (first | refine G' ?_ _ | refine I' ?_ | refine H' ?_ _)); exact BK450.out) Try.underlying26 rfl (by kernel_rfl)) rfl ?_; exact ⟨_, qE, by (with_reducible repeat (first | apply B' | apply C' | apply D')); exact Q' (M' (p := ⟨gb450, 2, none⟩) (M' (p := ⟨gb450, 1, none⟩) (M' (p := ⟨gb450, 0, none⟩) (P' HO456.out BK450.out (by decide)) (fun _ hk => hk.2) (.int .i64 t451)) (fun _ hk => hk.2) (.int .i64 t452)) (fun _ hk => hk.2) (.bool t453)) (fun _ hk => trivial), qK1 HB.out GE450.out⟩

/-! ### impl_FirstCrossing: function 28 -/
def impl_FirstCrossing.f (k : Nat) (a0_0 : Int) (a0_1 : Int) (a0_2 : Bool) (l1 : List (S53)) (a2 : Bool) : Option (Int × Int × Int) := (impl_wayCode.f k a0_0 a0_1 a0_2 l1).bind fun t459 => (if t459 = 0 then ((impl_crossings.f k l1 a2).bind fun t460 => (if (t460.length : Int) = 0 then (some (0, 0, 3)) else (if 0 < (t460.length : Int) then (some ((rd_T74 t460 0).f0, (rd_T74 t460 0).f1, 0)) else (none)))) else (some (0, 0, t459)))
theorem impl_FirstCrossing.mono : ∀ a0 a1 a2 a3 a4 k, LeO (impl_FirstCrossing.f k a0 a1 a2 a3 a4) (impl_FirstCrossing.f (k + 1) a0 a1 a2 a3 a4) := by
 intro a0 a1 a2 a3 a4 k
 unfold impl_FirstCrossing.f
 repeat' first
   | (with_reducible exact impl_crossings.mono _ _ _)
   | (with_reducible exact impl_wayCode.mono _ _ _ _ _)
   | (with_reducible exact LeO.refl _)
   | (with_reducible exact LeO.none _)
   | (with_reducible refine LeO.ite ?_ ?_)
   | (with_reducible refine LeO.bind ?_ (fun _ => ?_))
   | exact impl_crossings.mono _ _ _
   | exact impl_wayCode.mono _ _ _ _ _
   | exact LeO.none _
   | refine LeO.ite ?_ ?_
   | refine LeO.bind ?_ (fun _ => ?_)
set_option maxHeartbeats 8000000 in
set_option maxRecDepth 100000 in
theorem impl_FirstCrossing.calls (k : Nat) (a0_0 : Int) (a0_1 : Int) (a0_2 : Bool) (A1 : Option Addr) (c1 : Nat) (l1 : List (S53)) (a2 : Bool) (r1 : Int) (r2 : Int) (r3 : Int) (w : World) (hr1 : Kd.C k53 w A1 l1.length l1) (hc1 : l1.length ≤ c1) (h : impl_FirstCrossing.f k a0_0 a0_1 a0_2 l1 a2 = some (r1, r2, r3)) :
  Calls Try.prog 28 #[.agg #[.int .i64 a0_0, .int .i64 a0_1, .bool a0_2], .slice A1 l1.length c1, .bool a2] w fun e w' => e = .returned (.tuple #[.int .i64 r1, .int .i64 r2, .int .i64 r3]) ∧ Below w.heap.size w w' := by
 have hu26 := Try.underlying26; have HR1 := A' hr1; have HC1 := A' hc1; clear hr1 hc1; have HB := A' (Below.refl w.heap.size w); have H : ((impl_wayCode.f k a0_0 a0_1 a0_2 l1).bind fun t459 => (if t459 = 0 then ((impl_crossings.f k l1 a2).bind fun t460 => (if (t460.length : Int) = 0 then (some (0, 0, 3)) else (if 0 < (t460.length : Int) then (some ((rd_T74 t460 0).f0, (rd_T74 t460 0).f1, 0)) else (none)))) else (some (0, 0, t459)))) = some (r1, r2, r3) := h; clear h; replace H := Option.bind_eq_some_iff.mp H; obtain ⟨t459, A40, H⟩ := H; replace H : (if t459 = 0 then ((impl_crossings.f k l1 a2).bind fun t460 => (if (t460.length : Int) = 0 then (some (0, 0, 3)) else (if 0 < (t460.length : Int) then (some ((rd_T74 t460 0).f0, (rd_T74 t460 0).f1, 0)) else (none)))) else (some (0, 0, t459))) = some (r1, r2, r3) := H; have A4 := A' A40; clear A40
 by_cases c5 : t459 = 0
 ·rw [if_pos c5] at H; have c5b0 : (t459 == 0) = true := beq_iff_eq.mpr c5; have c5b1 : (t459 != 0) = false := bne_eq_false_iff_eq.mpr c5; clear c5; replace H := Option.bind_eq_some_iff.mp H; obtain ⟨t460, A60, H⟩ := H; replace H : (if (t460.length : Int) = 0 then (some (0, 0, 3)) else (if 0 < (t460.length : Int) then (some ((rd_T74 t460 0).f0, (rd_T74 t460 0).f1, 0)) else (none))) = some (r1, r2, r3) := H; have A6 := A' A60; clear A60
  by_cases c7 : (t460.length : Int) = 0
  ·rw [if_pos c7] at H; have c7b0 : ((t460.length : Int) == 0) = true := beq_iff_eq.mpr c7; have c7b1 : ((t460.length : Int) != 0) = false := bne_eq_false_iff_eq.mpr c7; clear c7; simp only [Option.some.injEq, Prod.mk.injEq] at H; obtain ⟨rfl, rfl, rfl⟩ := H; go_enter Try.func28, Try.ntmps28; go_wp2_with (first | ((with_reducible refine gate_dst (N := 3) rfl ?_); refine box_event ?hg (N := 3) ?hd (cs := #[.int .i64 a0_0, .int .i64 a0_1, .bool a0_2]) (t := 26) ?hr ?_; (case hd => rfl); (case hg => rfl); (case hr => first | (go_simp; done) | (go_simp; rfl)); intro gb458 hg w8 hbox hb; have n0_ := A' (W' (qK0 HB.out) hb); have n1_ := A' (hbox); have n2_ := A' ((by rw [hg]; exact (V' (qK0 HB.out)) : w.heap.size ≤ gb458)); have n3_ := A' ((by rw [hg]; exact (V' (qK0 HB.out)) : w.heap.size ≤ gb458)); clear HB; have HB := n0_; have BK458 := n1_; have GW458 := n2_; have GE458 := n3_; clear n0_ n1_ n2_ n3_; clear hb hbox hg; have hcz9_0 : w8.cell? ⟨gb458, 0, none⟩ = some (.int .i64 a0_0) := (N' BK458.out 0).trans rfl; have hcz9_1 : w8.cell? ⟨gb458, 1, none⟩ = some (.int .i64 a0_1) := (N' BK458.out 1).trans rfl; have hcz9_2 : w8.cell? ⟨gb458, 2, none⟩ = some (.bool a0_2) := (N' BK458.out 2).trans rfl; have hfz9_0 := Y' BK458.out 0; have hfz9_1 := Y' BK458.out 1; have hfz9_2 := Y' BK458.out 2) | (go_at_call 37; (with_reducible refine (impl_wayCode.calls k a0_0 a0_1 a0_2 _ _ l1 t459 _ ?side1 ?side2 A4.out).mono ?_); (case side1 => exact qT (X' HR1.out HB.out)); (case side2 => exact HC1.out); rintro e w10 ⟨rfl, hb⟩; have n0_ := A' (O' (g := gb458) (qB BK458.out) hb); have n1_ := A' (W' (qK1 HB.out GE458.out) hb); clear BK458; clear HB; have BK458 := n0_; have HB := n1_; clear n0_ n1_; (try clear hb); (try clear hb2); (try clear hk); (try clear hi)) | (go_at_call 44; (with_reducible refine (impl_crossings.calls k _ _ l1 a2 t460 _ ?side1 ?side2 A6.out).mono ?_); (case side1 => exact qT (X' HR1.out HB.out)); (case side2 => exact HC1.out); rintro e w11 ⟨v461, rfl, ho0, hb⟩; have n0_ := A' (Kd.R_lower ho0 (V' (qK1 HB.out GE458.out))); have n1_ := A' (O' (g := gb458) (qB BK458.out) hb); have n2_ := A' (W' (qK1 HB.out GE458.out) hb); clear BK458; clear HB; have HO462 := n0_; have BK458 := n1_; have HB := n2_; clear n0_ n1_ n2_; (try clear hb); (try clear hb2); (try clear hk); (try clear hi); (try clear ho0); obtain ⟨Ao12, co12, eo12⟩ := Kd.R_slice HO462.out; subst eo12))
   repeat (go_quiet (fail); try go_wp2_with (first | ((with_reducible refine gate_dst (N := 3) rfl ?_); refine box_event ?hg (N := 3) ?hd (cs := #[.int .i64 a0_0, .int .i64 a0_1, .bool a0_2]) (t := 26) ?hr ?_; (case hd => rfl); (case hg => rfl); (case hr => first | (go_simp; done) | (go_simp; rfl)); intro gb458 hg w8 hbox hb; have n0_ := A' (W' (qK0 HB.out) hb); have n1_ := A' (hbox); have n2_ := A' ((by rw [hg]; exact (V' (qK0 HB.out)) : w.heap.size ≤ gb458)); have n3_ := A' ((by rw [hg]; exact (V' (qK0 HB.out)) : w.heap.size ≤ gb458)); clear HB; have HB := n0_; have BK458 := n1_; have GW458 := n2_; have GE458 := n3_; clear n0_ n1_ n2_ n3_; clear hb hbox hg; have hcz9_0 : w8.cell? ⟨gb458, 0, none⟩ = some (.int .i64 a0_0) := (N' BK458.out 0).trans rfl; have hcz9_1 : w8.cell? ⟨gb458, 1, none⟩ = some (.int .i64 a0_1) := (N' BK458.out 1).trans rfl; have hcz9_2 : w8.cell? ⟨gb458, 2, none⟩ = some (.bool a0_2) := (N' BK458.out 2).trans rfl; have hfz9_0 := Y' BK458.out 0; have hfz9_1 := Y' BK458.out 1; have hfz9_2 := Y' BK458.out 2) | (go_at_call 37; (with_reducible refine (impl_wayCode.calls k a0_0 a0_1 a0_2 _ _ l1 t459 _ ?side1 ?side2 A4.out).mono ?_); (case side1 => exact qT (X' HR1.out HB.out)); (case side2 => exact HC1.out); rintro e w10 ⟨rfl, hb⟩; have n0_ := A' (O' (g := gb458) (qB BK458.out) hb); have n1_ := A' (W' (qK1 HB.out GE458.out) hb); clear BK458; clear HB; have BK458 := n0_; have HB := n1_; clear n0_ n1_; (try clear hb); (try clear hb2); (try clear hk); (try clear hi)) | (go_at_call 44; (with_reducible refine (impl_crossings.calls k _ _ l1 a2 t460 _ ?side1 ?side2 A6.out).mono ?_); (case side1 => exact qT (X' HR1.out HB.out)); (case side2 => exact HC1.out); rintro e w11 ⟨v461, rfl, ho0, hb⟩; have n0_ := A' (Kd.R_lower ho0 (V' (qK1 HB.out GE458.out))); have n1_ := A' (O' (g := gb458) (qB BK458.out) hb); have n2_ := A' (W' (qK1 HB.out GE458.out) hb); clear BK458; clear HB; have HO462 := n0_; have BK458 := n1_; have HB := n2_; clear n0_ n1_ n2_; (try clear hb); (try clear hb2); (try clear hk); (try clear hi); (try clear ho0); obtain ⟨Ao12, co12, eo12⟩ := Kd.R_slice HO462.out; subst eo12)))
   go_ret3; exact ⟨qE, qK1 HB.out GE458.out⟩
  ·rw [if_neg c7] at H; have c7b0 : ((t460.length : Int) == 0) = false := beq_eq_false_iff_ne.mpr c7; have c7b1 : ((t460.length : Int) != 0) = true := bne_iff_ne.mpr c7; have c7b2 : ¬ (t460 = []) := fun h_ => c7 (by rw [h_]; rfl)
   by_cases c13 : 0 < (t460.length : Int)
   ·rw [if_pos c13] at H; have c13b0 : decide (0 < (t460.length : Int)) = true := dT' c13; have c13b1 : decide (0 < t460.length) = true := dT' (by omega); clear c13; simp only [Option.some.injEq, Prod.mk.injEq] at H; obtain ⟨rfl, rfl, rfl⟩ := H; go_enter Try.func28, Try.ntmps28; go_wp2_with (first | ((with_reducible refine gate_dst (N := 3) rfl ?_); refine box_event ?hg (N := 3) ?hd (cs := #[.int .i64 a0_0, .int .i64 a0_1, .bool a0_2]) (t := 26) ?hr ?_; (case hd => rfl); (case hg => rfl); (case hr => first | (go_simp; done) | (go_simp; rfl)); intro gb458 hg w14 hbox hb; have n0_ := A' (W' (qK0 HB.out) hb); have n1_ := A' (hbox); have n2_ := A' ((by rw [hg]; exact (V' (qK0 HB.out)) : w.heap.size ≤ gb458)); have n3_ := A' ((by rw [hg]; exact (V' (qK0 HB.out)) : w.heap.size ≤ gb458)); clear HB; have HB := n0_; have BK458 := n1_; have GW458 := n2_; have GE458 := n3_; clear n0_ n1_ n2_ n3_; clear hb hbox hg; have hcz15_0 : w14.cell? ⟨gb458, 0, none⟩ = some (.int .i64 a0_0) := (N' BK458.out 0).trans rfl; have hcz15_1 : w14.cell? ⟨gb458, 1, none⟩ = some (.int .i64 a0_1) := (N' BK458.out 1).trans rfl; have hcz15_2 : w14.cell? ⟨gb458, 2, none⟩ = some (.bool a0_2) := (N' BK458.out 2).trans rfl; have hfz15_0 := Y' BK458.out 0; have hfz15_1 := Y' BK458.out 1; have hfz15_2 := Y' BK458.out 2) | (go_at_call 37; (with_reducible refine (impl_wayCode.calls k a0_0 a0_1 a0_2 _ _ l1 t459 _ ?side1 ?side2 A4.out).mono ?_); (case side1 => exact qT (X' HR1.out HB.out)); (case side2 => exact HC1.out); rintro e w16 ⟨rfl, hb⟩; have n0_ := A' (O' (g := gb458) (qB BK458.out) hb); have n1_ := A' (W' (qK1 HB.out GE458.out) hb); clear BK458; clear HB; have BK458 := n0_; have HB := n1_; clear n0_ n1_; (try clear hb); (try clear hb2); (try clear hk); (try clear hi)) | (go_at_call 44; (with_reducible refine (impl_crossings.calls k _ _ l1 a2 t460 _ ?side1 ?side2 A6.out).mono ?_); (case side1 => exact qT (X' HR1.out HB.out)); (case side2 => exact HC1.out); rintro e w17 ⟨v461, rfl, ho0, hb⟩; have n0_ := A' (Kd.R_lower ho0 (V' (qK1 HB.out GE458.out))); have n1_ := A' (O' (g := gb458) (qB BK458.out) hb); have n2_ := A' (W' (qK1 HB.out GE458.out) hb); clear BK458; clear HB; have HO462 := n0_; have BK458 := n1_; have HB := n2_; clear n0_ n1_ n2_; (try clear hb); (try clear hb2); (try clear hk); (try clear hi); (try clear ho0); obtain ⟨Ao18, co18, eo18⟩ := Kd.R_slice HO462.out; subst eo18; have p463 : 0 ≤ (0 : Int) := (by omega); have q463 : 0 < (t460.length : Int) := oD' qA; obtain ⟨ad463, e463, hx463_0, hx463_1⟩ := at_T74 (Kd.R_reads' HO462.out).2.2 0 p463 q463; cases e463; have qi463 : (0 < t460.length) = True := eq_true (by omega); (try rw [show ((0 : Int)).toNat = 0 from rfl] at hx463_0); (try rw [show 0 * 2 = 0 from rfl] at hx463_0); (try rw [Addr.add_zero'] at hx463_0); (try rw [show ((0 : Int)).toNat = 0 from rfl] at hx463_1); (try rw [show 0 * 2 = 0 from rfl] at hx463_1); (try rw [Addr.add_zero'] at hx463_1); replace p463 := eq_true p463; replace q463 := eq_true q463; have p464 : 0 ≤ (0 : Int) := (by omega); have q464 : 0 < (t460.length : Int) := oD' qA; obtain ⟨ad464, e464, hx464_0, hx464_1⟩ := at_T74 (Kd.R_reads' HO462.out).2.2 0 p464 q464; obtain rfl : ad463 = ad464 := (by injection e464); have qi464 : (0 < t460.length) = True := eq_true (by omega); (try rw [show ((0 : Int)).toNat = 0 from rfl] at hx464_0); (try rw [show 0 * 2 = 0 from rfl] at hx464_0); (try rw [Addr.add_zero'] at hx464_0); (try rw [show ((0 : Int)).toNat = 0 from rfl] at hx464_1); (try rw [show 0 * 2 = 0 from rfl] at hx464_1); (try rw [Addr.add_zero'] at hx464_1); replace p464 := eq_true p464; replace q464 := eq_true q464))
    repeat (go_quiet (fail); try go_wp2_with (first | ((with_reducible refine gate_dst (N := 3) rfl ?_); refine box_event ?hg (N := 3) ?hd (cs := #[.int .i64 a0_0, .int .i64 a0_1, .bool a0_2]) (t := 26) ?hr ?_; (case hd => rfl); (case hg => rfl); (case hr => first | (go_simp; done) | (go_simp; rfl)); intro gb458 hg w14 hbox hb; have n0_ := A' (W' (qK0 HB.out) hb); have n1_ := A' (hbox); have n2_ := A' ((by rw [hg]; exact (V' (qK0 HB.out)) : w.heap.size ≤ gb458)); have n3_ := A' ((by rw [hg]; exact (V' (qK0 HB.out)) : w.heap.size ≤ gb458)); clear HB; have HB := n0_; have BK458 := n1_; have GW458 := n2_; have GE458 := n3_; clear n0_ n1_ n2_ n3_; clear hb hbox hg; have hcz15_0 : w14.cell? ⟨gb458, 0, none⟩ = some (.int .i64 a0_0) := (N' BK458.out 0).trans rfl; have hcz15_1 : w14.cell? ⟨gb458, 1, none⟩ = some (.int .i64 a0_1) := (N' BK458.out 1).trans rfl; have hcz15_2 : w14.cell? ⟨gb458, 2, none⟩ = some (.bool a0_2) := (N' BK458.out 2).trans rfl; have hfz15_0 := Y' BK458.out 0; have hfz15_1 := Y' BK458.out 1; have hfz15_2 := Y' BK458.out 2) | (go_at_call 37; (with_reducible refine (impl_wayCode.calls k a0_0 a0_1 a0_2 _ _ l1 t459 _ ?side1 ?side2 A4.out).mono ?_); (case side1 => exact qT (X' HR1.out HB.out)); (case side2 => exact HC1.out); rintro e w16 ⟨rfl, hb⟩; have n0_ := A' (O' (g := gb458) (qB BK458.out) hb); have n1_ := A' (W' (qK1 HB.out GE458.out) hb); clear BK458; clear HB; have BK458 := n0_; have HB := n1_; clear n0_ n1_; (try clear hb); (try clear hb2); (try clear hk); (try clear hi)) | (go_at_call 44; (with_reducible refine (impl_crossings.calls k _ _ l1 a2 t460 _ ?side1 ?side2 A6.out).mono ?_); (case side1 => exact qT (X' HR1.out HB.out)); (case side2 => exact HC1.out); rintro e w17 ⟨v461, rfl, ho0, hb⟩; have n0_ := A' (Kd.R_lower ho0 (V' (qK1 HB.out GE458.out))); have n1_ := A' (O' (g := gb458) (qB BK458.out) hb); have n2_ := A' (W' (qK1 HB.out GE458.out) hb); clear BK458; clear HB; have HO462 := n0_; have BK458 := n1_; have HB := n2_; clear n0_ n1_ n2_; (try clear hb); (try clear hb2); (try clear hk); (try clear hi); (try clear ho0); obtain ⟨Ao18, co18, eo18⟩ := Kd.R_slice HO462.out; subst eo18; have p463 : 0 ≤ (0 : Int) := (by omega); have q463 : 0 < (t460.length : Int) := oD' qA; obtain ⟨ad463, e463, hx463_0, hx463_1⟩ := at_T74 (Kd.R_reads' HO462.out).2.2 0 p463 q463; cases e463; have qi463 : (0 < t460.length) = True := eq_true (by omega); (try rw [show ((0 : Int)).toNat = 0 from rfl] at hx463_0); (try rw [show 0 * 2 = 0 from rfl] at hx463_0); (try rw [Addr.add_zero'] at hx463_0); (try rw [show ((0 : Int)).toNat = 0 from rfl] at hx463_1); (try rw [show 0 * 2 = 0 from rfl] at hx463_1); (try rw [Addr.add_zero'] at hx463_1); replace p463 := eq_true p463; replace q463 := eq_true q463; have p464 : 0 ≤ (0 : Int) := (by omega); have q464 : 0 < (t460.length : Int) := oD' qA; obtain ⟨ad464, e464, hx464_0, hx464_1⟩ := at_T74 (Kd.R_reads' HO462.out).2.2 0 p464 q464; obtain rfl : ad463 = ad464 := (by injection e464); have qi464 : (0 < t460.length) = True := eq_true (by omega); (try rw [show ((0 : Int)).toNat = 0 from rfl] at hx464_0); (try rw [show 0 * 2 = 0 from rfl] at hx464_0); (try rw [Addr.add_zero'] at hx464_0); (try rw [show ((0 : Int)).toNat = 0 from rfl] at hx464_1); (try rw [show 0 * 2 = 0 from rfl] at hx464_1); (try rw [Addr.add_zero'] at hx464_1); replace p464 := eq_true p464; replace q464 := eq_true q464)))
    go_ret3; exact ⟨qE, qK1 HB.out GE458.out⟩
   ·rw [if_neg c13] at H; exact absurd H (by simp)
 ·rw [if_neg c5] at H; have c5b0 : (t459 == 0) = false := beq_eq_false_iff_ne.mpr c5; have c5b1 : (t459 != 0) = true := bne_iff_ne.mpr c5; simp only [Option.some.injEq, Prod.mk.injEq] at H; obtain ⟨rfl, rfl, rfl⟩ := H; go_enter Try.func28, Try.ntmps28; go_wp2_with (first | ((with_reducible refine gate_dst (N := 3) rfl ?_); refine box_event ?hg (N := 3) ?hd (cs := #[.int .i64 a0_0, .int .i64 a0_1, .bool a0_2]) (t := 26) ?hr ?_; (case hd => rfl); (case hg => rfl); (case hr => first | (go_simp; done) | (go_simp; rfl)); intro gb458 hg w19 hbox hb; have n0_ := A' (W' (qK0 HB.out) hb); have n1_ := A' (hbox); have n2_ := A' ((by rw [hg]; exact (V' (qK0 HB.out)) : w.heap.size ≤ gb458)); have n3_ := A' ((by rw [hg]; exact (V' (qK0 HB.out)) : w.heap.size ≤ gb458)); clear HB; have HB := n0_; have BK458 := n1_; have GW458 := n2_; have GE458 := n3_; clear n0_ n1_ n2_ n3_; clear hb hbox hg; have hcz20_0 : w19.cell? ⟨gb458, 0, none⟩ = some (.int .i64 a0_0) := (N' BK458.out 0).trans rfl; have hcz20_1 : w19.cell? ⟨gb458, 1, none⟩ = some (.int .i64 a0_1) := (N' BK458.out 1).trans rfl; have hcz20_2 : w19.cell? ⟨gb458, 2, none⟩ = some (.bool a0_2) := (N' BK458.out 2).trans rfl; have hfz20_0 := Y' BK458.out 0; have hfz20_1 := Y' BK458.out 1; have hfz20_2 := Y' BK458.out 2) | (go_at_call 37; (with_reducible refine (impl_wayCode.calls k a0_0 a0_1 a0_2 _ _ l1 t459 _ ?side1 ?side2 A4.out).mono ?_); (case side1 => exact qT (X' HR1.out HB.out)); (case side2 => exact HC1.out); rintro e w21 ⟨rfl, hb⟩; have n0_ := A' (O' (g := gb458) (qB BK458.out) hb); have n1_ := A' (W' (qK1 HB.out GE458.out) hb); clear BK458; clear HB; have BK458 := n0_; have HB := n1_; clear n0_ n1_; (try clear hb); (try clear hb2); (try clear hk); (try clear hi)))
  repeat (go_quiet (fail); try go_wp2_with (first | ((with_reducible refine gate_dst (N := 3) rfl ?_); refine box_event ?hg (N := 3) ?hd (cs := #[.int .i64 a0_0, .int .i64 a0_1, .bool a0_2]) (t := 26) ?hr ?_; (case hd => rfl); (case hg => rfl); (case hr => first | (go_simp; done) | (go_simp; rfl)); intro gb458 hg w19 hbox hb; have n0_ := A' (W' (qK0 HB.out) hb); have n1_ := A' (hbox); have n2_ := A' ((by rw [hg]; exact (V' (qK0 HB.out)) : w.heap.size ≤ gb458)); have n3_ := A' ((by rw [hg]; exact (V' (qK0 HB.out)) : w.heap.size ≤ gb458)); clear HB; have HB := n0_; have BK458 := n1_; have GW458 := n2_; have GE458 := n3_; clear n0_ n1_ n2_ n3_; clear hb hbox hg; have hcz20_0 : w19.cell? ⟨gb458, 0, none⟩ = some (.int .i64 a0_0) := (N' BK458.out 0).trans rfl; have hcz20_1 : w19.cell? ⟨gb458, 1, none⟩ = some (.int .i64 a0_1) := (N' BK458.out 1).trans rfl; have hcz20_2 : w19.cell? ⟨gb458, 2, none⟩ = some (.bool a0_2) := (N' BK458.out 2).trans rfl; have hfz20_0 := Y' BK458.out 0; have hfz20_1 := Y' BK458.out 1; have hfz20_2 := Y' BK458.out 2) | (go_at_call 37; (with_reducible refine (impl_wayCode.calls k a0_0 a0_1 a0_2 _ _ l1 t459 _ ?side1 ?side2 A4.out).mono ?_); (case side1 => exact qT (X' HR1.out HB.out)); (case side2 => exact HC1.out); rintro e w21 ⟨rfl, hb⟩; have n0_ := A' (O' (g := gb458) (qB BK458.out) hb); have n1_ := A' (W' (qK1 HB.out GE458.out) hb); clear BK458; clear HB; have BK458 := n0_; have HB := n1_; clear n0_ n1_; (try clear hb); (try clear hb2); (try clear hk); (try clear hi))))
  go_ret3; exact ⟨qE, qK1 HB.out GE458.out⟩

/-! ### spec_FirstCrossing: function 29 -/
mutual
def spec_FirstCrossing.l0 : Nat → Bool → List (List Int) → Int → Option (Int × Int × Int)
 | 0, _, _, _ => none
 | k + 1, x2, x10, x11 => if x11 < (x10.length : Int) then (spec_FirstCrossing.l1 k x2 x10 x11 (wrap64 (x11 + 1))) else (some (0, 0, 3))
def spec_FirstCrossing.l1 : Nat → Bool → List (List Int) → Int → Int → Option (Int × Int × Int)
 | 0, _, _, _, _ => none
 | k + 1, x2, x10, x11, x12 => if x12 < (x10.length : Int) then (if 0 ≤ x11 then (if x11 < (x10.length : Int) then (if 0 ≤ x12 then ((spec_l07Cross.f (rd_L2 x10 x11) (rd_L2 x10 x12) x2).bind fun t475 => (if t475 = true then (some (x11, x12, 0)) else (spec_FirstCrossing.l1 k x2 x10 x11 (wrap64 (x12 + 1))))) else (none)) else (none)) else (none)) else (spec_FirstCrossing.l0 k x2 x10 (wrap64 (x11 + 1)))
end
def spec_FirstCrossing.f (k : Nat) (a0_0 : Int) (a0_1 : Int) (a0_2 : Bool) (l1 : List (S53)) (a2 : Bool) : Option (Int × Int × Int) := (spec_l07Code.f k a0_0 a0_1 a0_2 l1).bind fun bt466 => (if bt466.1 = 0 then ((spec_l07Parts.f k l1).bind fun t470 => (spec_FirstCrossing.l0 k a2 t470 0)) else (some (0, 0, bt466.1)))
theorem spec_FirstCrossing.mono_l : ∀ k, (∀ y0 y1 y2, LeO (spec_FirstCrossing.l0 k y0 y1 y2) (spec_FirstCrossing.l0 (k + 1) y0 y1 y2)) ∧ (∀ y0 y1 y2 y3, LeO (spec_FirstCrossing.l1 k y0 y1 y2 y3) (spec_FirstCrossing.l1 (k + 1) y0 y1 y2 y3))
 | 0 => ⟨fun _ _ _ r h => by simp [spec_FirstCrossing.l0] at h, fun _ _ _ _ r h => by simp [spec_FirstCrossing.l1] at h⟩
 | k + 1 => by
  obtain ⟨ih0, ih1⟩ := spec_FirstCrossing.mono_l k
  refine ⟨?_, ?_⟩
  ·intro y0 y1 y2
   unfold spec_FirstCrossing.l0
   repeat' first
   | (with_reducible exact ih0 _ _ _)
   | (with_reducible exact ih1 _ _ _ _)
   | (with_reducible exact spec_l07Code.mono _ _ _ _ _)
   | (with_reducible exact spec_l07Parts.mono _ _)
   | (with_reducible exact LeO.refl _)
   | (with_reducible exact LeO.none _)
   | (with_reducible refine LeO.ite ?_ ?_)
   | (with_reducible refine LeO.bind ?_ (fun _ => ?_))
   | exact ih0 _ _ _
   | exact ih1 _ _ _ _
   | exact spec_l07Code.mono _ _ _ _ _
   | exact spec_l07Parts.mono _ _
   | exact LeO.none _
   | refine LeO.ite ?_ ?_
   | refine LeO.bind ?_ (fun _ => ?_)
  ·intro y0 y1 y2 y3
   unfold spec_FirstCrossing.l1
   repeat' first
   | (with_reducible exact ih0 _ _ _)
   | (with_reducible exact ih1 _ _ _ _)
   | (with_reducible exact spec_l07Code.mono _ _ _ _ _)
   | (with_reducible exact spec_l07Parts.mono _ _)
   | (with_reducible exact LeO.refl _)
   | (with_reducible exact LeO.none _)
   | (with_reducible refine LeO.ite ?_ ?_)
   | (with_reducible refine LeO.bind ?_ (fun _ => ?_))
   | exact ih0 _ _ _
   | exact ih1 _ _ _ _
   | exact spec_l07Code.mono _ _ _ _ _
   | exact spec_l07Parts.mono _ _
   | exact LeO.none _
   | refine LeO.ite ?_ ?_
   | refine LeO.bind ?_ (fun _ => ?_)
theorem spec_FirstCrossing.mono : ∀ a0 a1 a2 a3 a4 k, LeO (spec_FirstCrossing.f k a0 a1 a2 a3 a4) (spec_FirstCrossing.f (k + 1) a0 a1 a2 a3 a4) := by
 intro a0 a1 a2 a3 a4 k
 obtain ⟨ih0, ih1⟩ := spec_FirstCrossing.mono_l k
 unfold spec_FirstCrossing.f
 repeat' first
   | (with_reducible exact ih0 _ _ _)
   | (with_reducible exact ih1 _ _ _ _)
   | (with_reducible exact spec_l07Code.mono _ _ _ _ _)
   | (with_reducible exact spec_l07Parts.mono _ _)
   | (with_reducible exact LeO.refl _)
   | (with_reducible exact LeO.none _)
   | (with_reducible refine LeO.ite ?_ ?_)
   | (with_reducible refine LeO.bind ?_ (fun _ => ?_))
   | exact ih0 _ _ _
   | exact ih1 _ _ _ _
   | exact spec_l07Code.mono _ _ _ _ _
   | exact spec_l07Parts.mono _ _
   | exact LeO.none _
   | refine LeO.ite ?_ ?_
   | refine LeO.bind ?_ (fun _ => ?_)
set_option maxHeartbeats 8000000 in
set_option maxRecDepth 100000 in
theorem spec_FirstCrossing.calls (k : Nat) (a0_0 : Int) (a0_1 : Int) (a0_2 : Bool) (A1 : Option Addr) (c1 : Nat) (l1 : List (S53)) (a2 : Bool) (r1 : Int) (r2 : Int) (r3 : Int) (w : World) (hr1 : Kd.C k53 w A1 l1.length l1) (hc1 : l1.length ≤ c1) (h : spec_FirstCrossing.f k a0_0 a0_1 a0_2 l1 a2 = some (r1, r2, r3)) :
  Calls Try.prog 29 #[.agg #[.int .i64 a0_0, .int .i64 a0_1, .bool a0_2], .slice A1 l1.length c1, .bool a2] w fun e w' => e = .returned (.tuple #[.int .i64 r1, .int .i64 r2, .int .i64 r3]) ∧ Below w.heap.size w w' := by
 have hu26 := Try.underlying26; have HR1 := A' hr1; have HC1 := A' hc1; clear hr1 hc1; have HB := A' (Below.refl w.heap.size w); have H : ((spec_l07Code.f k a0_0 a0_1 a0_2 l1).bind fun bt466 => (if bt466.1 = 0 then ((spec_l07Parts.f k l1).bind fun t470 => (spec_FirstCrossing.l0 k a2 t470 0)) else (some (0, 0, bt466.1)))) = some (r1, r2, r3) := h; clear h; replace H := Option.bind_eq_some_iff.mp H; obtain ⟨⟨t466, t467, t468, t469⟩, A40, H⟩ := H; replace H : (if t466 = 0 then ((spec_l07Parts.f k l1).bind fun t470 => (spec_FirstCrossing.l0 k a2 t470 0)) else (some (0, 0, t466))) = some (r1, r2, r3) := H; have A4 := A' A40; clear A40
 by_cases c5 : t466 = 0
 ·rw [if_pos c5] at H; have c5b0 : (t466 == 0) = true := beq_iff_eq.mpr c5; have c5b1 : (t466 != 0) = false := bne_eq_false_iff_eq.mpr c5; clear c5; replace H := Option.bind_eq_some_iff.mp H; obtain ⟨t470, A60, H⟩ := H; replace H : (spec_FirstCrossing.l0 k a2 t470 0) = some (r1, r2, r3) := H; have A6 := A' A60; clear A60; have H' := A' H; clear H; go_enter Try.func29, Try.ntmps29; go_wp2_with (first | ((with_reducible refine gate_dst (N := 3) rfl ?_); refine box_event ?hg (N := 3) ?hd (cs := #[.int .i64 a0_0, .int .i64 a0_1, .bool a0_2]) (t := 26) ?hr ?_; (case hd => rfl); (case hg => rfl); (case hr => first | (go_simp; done) | (go_simp; rfl)); intro gb465 hg w7 hbox hb; have n0_ := A' (W' (qK0 HB.out) hb); have n1_ := A' (hbox); have n2_ := A' ((by rw [hg]; exact (V' (qK0 HB.out)) : w.heap.size ≤ gb465)); have n3_ := A' ((by rw [hg]; exact (V' (qK0 HB.out)) : w.heap.size ≤ gb465)); clear HB; have HB := n0_; have BK465 := n1_; have GW465 := n2_; have GE465 := n3_; clear n0_ n1_ n2_ n3_; clear hb hbox hg; have HI465 := A' (show IsS26 w w7 gb465 a0_0 a0_1 a0_2 from ⟨(qB BK465.out), GE465.out⟩)) | (go_at_call 34; (with_reducible refine (spec_l07Code.calls k gb465 a0_0 a0_1 a0_2 _ _ l1 t466 t467 t468 t469 w _ ?side1 ?side2 ?side3 ?side4 A4.out).mono ?_); (case side1 => repeat (first | (with_reducible first | exact HI465.out | apply IsS26.alloc | apply IsS26.drewN | apply IsS26.drew | apply IsS26.set_0 | apply IsS26.set_1 | apply IsS26.set_2) | exact HI465.out)); (case side2 => repeat (first | (with_reducible first | exact HB.out | apply K' | apply F' | apply J' | refine E' ?_ (IsS26.ge HI465.out)) | exact HB.out)); (case side3 => exact Kd.C_foot_came k53_heap HR1.out (by repeat (first | (with_reducible first | exact HB.out | apply K' | apply F' | apply J' | refine E' ?_ (IsS26.ge HI465.out)) | exact HB.out)) (IsS26.ge HI465.out)); (case side4 => exact HC1.out); rintro e w8 ⟨rfl, hi, hb, hk⟩; have n0_ := A' (hb); have n1_ := A' (hi); clear HB; clear HI465; have HB := n0_; have HI465 := n1_; clear n0_ n1_; (try clear hb); (try clear hb2); (try clear hk); (try clear hi)) | (go_at_call 35; (with_reducible refine (spec_l07Parts.calls k _ _ l1 t470 _ ?side1 ?side2 A6.out).mono ?_); (case side1 => exact qT (X' HR1.out HB.out)); (case side2 => exact HC1.out); rintro e w9 ⟨v471, rfl, ho0, hb⟩; have n0_ := A' (Kd.S_lower ho0 (V' (by repeat (first | (with_reducible first | exact HB.out | apply K' | apply F' | apply J' | refine E' ?_ (IsS26.ge HI465.out)) | exact HB.out)))); have n1_ := A' (IsS26.below (by repeat (first | (with_reducible first | exact HI465.out | apply IsS26.alloc | apply IsS26.drewN | apply IsS26.drew | apply IsS26.set_0 | apply IsS26.set_1 | apply IsS26.set_2) | exact HI465.out)) hb); have n2_ := A' (W' (by repeat (first | (with_reducible first | exact HB.out | apply K' | apply F' | apply J' | refine E' ?_ (IsS26.ge HI465.out)) | exact HB.out)) hb); clear HI465; clear HB; have HO472 := n0_; have HI465 := n1_; have HB := n2_; clear n0_ n1_ n2_; (try clear hb); (try clear hb2); (try clear hk); (try clear hi); (try clear ho0)))
  repeat (go_quiet (first | ((with_reducible refine gate_dst (N := 3) rfl ?_); refine box_event ?hg (N := 3) ?hd (cs := #[.int .i64 a0_0, .int .i64 a0_1, .bool a0_2]) (t := 26) ?hr ?_; (case hd => rfl); (case hg => rfl); (case hr => first | (go_simp; done) | (go_simp; rfl)); intro gb465 hg w7 hbox hb; have n0_ := A' (W' (qK0 HB.out) hb); have n1_ := A' (hbox); have n2_ := A' ((by rw [hg]; exact (V' (qK0 HB.out)) : w.heap.size ≤ gb465)); have n3_ := A' ((by rw [hg]; exact (V' (qK0 HB.out)) : w.heap.size ≤ gb465)); clear HB; have HB := n0_; have BK465 := n1_; have GW465 := n2_; have GE465 := n3_; clear n0_ n1_ n2_ n3_; clear hb hbox hg; have HI465 := A' (show IsS26 w w7 gb465 a0_0 a0_1 a0_2 from ⟨(qB BK465.out), GE465.out⟩)) | (go_at_call 34; (with_reducible refine (spec_l07Code.calls k gb465 a0_0 a0_1 a0_2 _ _ l1 t466 t467 t468 t469 w _ ?side1 ?side2 ?side3 ?side4 A4.out).mono ?_); (case side1 => repeat (first | (with_reducible first | exact HI465.out | apply IsS26.alloc | apply IsS26.drewN | apply IsS26.drew | apply IsS26.set_0 | apply IsS26.set_1 | apply IsS26.set_2) | exact HI465.out)); (case side2 => repeat (first | (with_reducible first | exact HB.out | apply K' | apply F' | apply J' | refine E' ?_ (IsS26.ge HI465.out)) | exact HB.out)); (case side3 => exact Kd.C_foot_came k53_heap HR1.out (by repeat (first | (with_reducible first | exact HB.out | apply K' | apply F' | apply J' | refine E' ?_ (IsS26.ge HI465.out)) | exact HB.out)) (IsS26.ge HI465.out)); (case side4 => exact HC1.out); rintro e w8 ⟨rfl, hi, hb, hk⟩; have n0_ := A' (hb); have n1_ := A' (hi); clear HB; clear HI465; have HB := n0_; have HI465 := n1_; clear n0_ n1_; (try clear hb); (try clear hb2); (try clear hk); (try clear hi)) | (go_at_call 35; (with_reducible refine (spec_l07Parts.calls k _ _ l1 t470 _ ?side1 ?side2 A6.out).mono ?_); (case side1 => exact qT (X' HR1.out HB.out)); (case side2 => exact HC1.out); rintro e w9 ⟨v471, rfl, ho0, hb⟩; have n0_ := A' (Kd.S_lower ho0 (V' (by repeat (first | (with_reducible first | exact HB.out | apply K' | apply F' | apply J' | refine E' ?_ (IsS26.ge HI465.out)) | exact HB.out)))); have n1_ := A' (IsS26.below (by repeat (first | (with_reducible first | exact HI465.out | apply IsS26.alloc | apply IsS26.drewN | apply IsS26.drew | apply IsS26.set_0 | apply IsS26.set_1 | apply IsS26.set_2) | exact HI465.out)) hb); have n2_ := A' (W' (by repeat (first | (with_reducible first | exact HB.out | apply K' | apply F' | apply J' | refine E' ?_ (IsS26.ge HI465.out)) | exact HB.out)) hb); clear HI465; clear HB; have HO472 := n0_; have HI465 := n1_; have HB := n2_; clear n0_ n1_ n2_; (try clear hb); (try clear hb2); (try clear hk); (try clear hi); (try clear ho0))); try go_wp2_with (first | ((with_reducible refine gate_dst (N := 3) rfl ?_); refine box_event ?hg (N := 3) ?hd (cs := #[.int .i64 a0_0, .int .i64 a0_1, .bool a0_2]) (t := 26) ?hr ?_; (case hd => rfl); (case hg => rfl); (case hr => first | (go_simp; done) | (go_simp; rfl)); intro gb465 hg w7 hbox hb; have n0_ := A' (W' (qK0 HB.out) hb); have n1_ := A' (hbox); have n2_ := A' ((by rw [hg]; exact (V' (qK0 HB.out)) : w.heap.size ≤ gb465)); have n3_ := A' ((by rw [hg]; exact (V' (qK0 HB.out)) : w.heap.size ≤ gb465)); clear HB; have HB := n0_; have BK465 := n1_; have GW465 := n2_; have GE465 := n3_; clear n0_ n1_ n2_ n3_; clear hb hbox hg; have HI465 := A' (show IsS26 w w7 gb465 a0_0 a0_1 a0_2 from ⟨(qB BK465.out), GE465.out⟩)) | (go_at_call 34; (with_reducible refine (spec_l07Code.calls k gb465 a0_0 a0_1 a0_2 _ _ l1 t466 t467 t468 t469 w _ ?side1 ?side2 ?side3 ?side4 A4.out).mono ?_); (case side1 => repeat (first | (with_reducible first | exact HI465.out | apply IsS26.alloc | apply IsS26.drewN | apply IsS26.drew | apply IsS26.set_0 | apply IsS26.set_1 | apply IsS26.set_2) | exact HI465.out)); (case side2 => repeat (first | (with_reducible first | exact HB.out | apply K' | apply F' | apply J' | refine E' ?_ (IsS26.ge HI465.out)) | exact HB.out)); (case side3 => exact Kd.C_foot_came k53_heap HR1.out (by repeat (first | (with_reducible first | exact HB.out | apply K' | apply F' | apply J' | refine E' ?_ (IsS26.ge HI465.out)) | exact HB.out)) (IsS26.ge HI465.out)); (case side4 => exact HC1.out); rintro e w8 ⟨rfl, hi, hb, hk⟩; have n0_ := A' (hb); have n1_ := A' (hi); clear HB; clear HI465; have HB := n0_; have HI465 := n1_; clear n0_ n1_; (try clear hb); (try clear hb2); (try clear hk); (try clear hi)) | (go_at_call 35; (with_reducible refine (spec_l07Parts.calls k _ _ l1 t470 _ ?side1 ?side2 A6.out).mono ?_); (case side1 => exact qT (X' HR1.out HB.out)); (case side2 => exact HC1.out); rintro e w9 ⟨v471, rfl, ho0, hb⟩; have n0_ := A' (Kd.S_lower ho0 (V' (by repeat (first | (with_reducible first | exact HB.out | apply K' | apply F' | apply J' | refine E' ?_ (IsS26.ge HI465.out)) | exact HB.out)))); have n1_ := A' (IsS26.below (by repeat (first | (with_reducible first | exact HI465.out | apply IsS26.alloc | apply IsS26.drewN | apply IsS26.drew | apply IsS26.set_0 | apply IsS26.set_1 | apply IsS26.set_2) | exact HI465.out)) hb); have n2_ := A' (W' (by repeat (first | (with_reducible first | exact HB.out | apply K' | apply F' | apply J' | refine E' ?_ (IsS26.ge HI465.out)) | exact HB.out)) hb); clear HI465; clear HB; have HO472 := n0_; have HI465 := n1_; have HB := n2_; clear n0_ n1_ n2_; (try clear hb); (try clear hb2); (try clear hk); (try clear hi); (try clear ho0))))
  go_loopg [11] k (fun kq v11 w' => ∃ (x11_1 : Int), v11 = .int .i64 x11_1 ∧ Aside0 (spec_FirstCrossing.l0 kq a2 t470 x11_1 = some (r1, r2, r3)) ∧ Aside0 (kq ≤ k) ∧ Aside0 (Kd.S (Kd.slice 2 (Kd.int .i64)) 69 w' w.heap.size (fun _ => True) v471 t470) ∧ Aside0 (Below w.heap.size w w'))
  case atStart => exact ⟨(0), qS, H', ⟨Nat.le_refl _⟩, ⟨by (with_reducible repeat (first | apply Kd.S_alloc | apply Kd.S_drewN | apply Kd.S_drew)); exact HO472.out⟩, ⟨by repeat (first | (with_reducible first | exact HB.out | apply K' | apply F' | apply J' | refine E' ?_ (IsS26.ge HI465.out)) | exact HB.out)⟩⟩
  case round =>
   clear H'; try clear c1
   try clear c2
   try clear p2
   try clear c5
   try clear c5b0
   try clear c5b1
   obtain ⟨x11_1, rfl, HA, HK1, HO_10, HB⟩ := hrel
   cases gk with
   | zero => exact absurd HA.out (by simp [spec_FirstCrossing.l0])
   | succ k1 =>
    have H := HA.out; clear HA; simp only [spec_FirstCrossing.l0] at H
    by_cases c10 : x11_1 < (t470.length : Int)
    ·rw [if_pos c10] at H; have c10b0 : decide (x11_1 < (t470.length : Int)) = true := dT' c10; clear c10; have H' := A' H; clear H; obtain ⟨Ao11, co11, eo11⟩ := Kd.S_slice HO_10.out; subst eo11; go_wp2
     repeat (go_quiet (fail); try go_wp2)
     go_loopg [12] k1 (fun kq v12 w' => ∃ (x12_2 : Int), v12 = .int .i64 x12_2 ∧ Aside0 (spec_FirstCrossing.l1 kq a2 t470 x11_1 x12_2 = some (r1, r2, r3)) ∧ Aside0 (kq ≤ k1) ∧ Aside0 (Kd.S (Kd.slice 2 (Kd.int .i64)) 69 w' w.heap.size (fun _ => True) (.slice Ao11 t470.length co11) t470) ∧ Aside0 (Below w.heap.size w w'))
     case atStart => exact ⟨(wrap64 (x11_1 + 1)), qS, H', ⟨Nat.le_refl _⟩, ⟨by (with_reducible repeat (first | apply Kd.S_alloc | apply Kd.S_drewN | apply Kd.S_drew)); exact HO_10.out⟩, ⟨qK0 HB.out⟩⟩
     case round =>
      clear H'; try clear c1
      try clear c2
      try clear p2
      try clear c5
      try clear c5b0
      try clear c5b1
      try clear p6
      try clear c10
      try clear c10b0
      try clear p2
      obtain ⟨x12_2, rfl, HA, HK2, HO_10, HB⟩ := hrel
      cases gk with
      | zero => exact absurd HA.out (by simp [spec_FirstCrossing.l1])
      | succ k2 =>
       have H := HA.out; clear HA; simp only [spec_FirstCrossing.l1] at H
       by_cases c12 : x12_2 < (t470.length : Int)
       ·rw [if_pos c12] at H; have c12b0 : decide (x12_2 < (t470.length : Int)) = true := dT' c12; clear c12
        by_cases c13 : 0 ≤ x11_1
        ·rw [if_pos c13] at H; have c13b0 : decide (0 ≤ x11_1) = true := dT' c13; clear c13
         by_cases c14 : x11_1 < (t470.length : Int)
         ·rw [if_pos c14] at H; have c14b0 : decide (x11_1 < (t470.length : Int)) = true := dT' c14; clear c14
          by_cases c15 : 0 ≤ x12_2
          ·rw [if_pos c15] at H; have c15b0 : decide (0 ≤ x12_2) = true := dT' c15; clear c15; replace H := Option.bind_eq_some_iff.mp H; obtain ⟨t475, A160, H⟩ := H; replace H : (if t475 = true then (some (x11_1, x12_2, 0)) else (spec_FirstCrossing.l1 k2 a2 t470 x11_1 (wrap64 (x12_2 + 1)))) = some (r1, r2, r3) := H; have A16 := A' A160; clear A160
           by_cases c17 : t475 = true
           ·subst c17; have H1 : (some (x11_1, x12_2, 0)) = some (r1, r2, r3) := by rw [if_pos rfl] at H; exact H
            clear H; have H := H1; clear H1; simp only [Option.some.injEq, Prod.mk.injEq] at H; obtain ⟨rfl, rfl, rfl⟩ := H; have p473 : 0 ≤ (x11_1 : Int) := oD' qA; have q473 : x11_1 < (t470.length : Int) := oD' qA; obtain ⟨ad473, A473_0, c473_0, e473, hx473_0, hl473_0, hi473_0⟩ := at_L2 (Kd.S_reads' HO_10.out).2.2 x11_1 p473 q473
            cases e473
            obtain ⟨ce473, hce473, hMe473, hcc473⟩ := Kd.S_get HO_10.out [] x11_1 p473 (by first | exact q473 | exact oD' qA | (have e_ := (Kd.S_reads' HO_10.out).1; omega)); obtain ⟨ve473_0, rfl, ge473_0⟩ := hMe473; have hv473_0 := hcc473 0 _ rfl; rw [Nat.add_zero, show ((Kd.slice 2 (Kd.int .i64))).sz = 1 from rfl, Nat.mul_one] at hv473_0; replace hv473_0 := Option.some.inj (hv473_0.symm.trans hx473_0); rw [hv473_0] at ge473_0; have HL473_0 := A' (show Kd.R (Kd.int .i64) 2 _ _ _ _ (rd_L2 t470 x11_1) from ge473_0); clear hv473_0 ge473_0; clear hcc473 hce473; have HR473_0 := A' hi473_0; have HC473_0 := A' hl473_0; clear hi473_0 hl473_0; replace p473 := eq_true p473; replace q473 := eq_true q473; have p474 : 0 ≤ (x12_2 : Int) := oD' qA; have q474 : x12_2 < (t470.length : Int) := oD' qA; obtain ⟨ad474, A474_0, c474_0, e474, hx474_0, hl474_0, hi474_0⟩ := at_L2 (Kd.S_reads' HO_10.out).2.2 x12_2 p474 q474; obtain rfl : ad473 = ad474 := (by injection e474)
            obtain ⟨ce474, hce474, hMe474, hcc474⟩ := Kd.S_get HO_10.out [] x12_2 p474 (by first | exact q474 | exact oD' qA | (have e_ := (Kd.S_reads' HO_10.out).1; omega)); obtain ⟨ve474_0, rfl, ge474_0⟩ := hMe474; have hv474_0 := hcc474 0 _ rfl; rw [Nat.add_zero, show ((Kd.slice 2 (Kd.int .i64))).sz = 1 from rfl, Nat.mul_one] at hv474_0; replace hv474_0 := Option.some.inj (hv474_0.symm.trans hx474_0); rw [hv474_0] at ge474_0; have HL474_0 := A' (show Kd.R (Kd.int .i64) 2 _ _ _ _ (rd_L2 t470 x12_2) from ge474_0); clear hv474_0 ge474_0; clear hcc474 hce474; have HR474_0 := A' hi474_0; have HC474_0 := A' hl474_0; clear hi474_0 hl474_0; replace p474 := eq_true p474; replace q474 := eq_true q474; go_wp2_with (first | (go_at_call 46; (with_reducible refine (spec_l07Cross.calls _ _ (rd_L2 t470 x11_1) _ _ (rd_L2 t470 x12_2) a2 true _ ?side1 ?side2 ?side3 ?side4 A16.out).mono ?_); (case side1 => repeat (first | exact (by repeat (first | (with_reducible exact HR473_0.out) | (with_reducible refine R' ?_ _) | (with_reducible refine S' ?_ _) | (with_reducible refine T' ?_) | exact HR473_0.out)) | (with_reducible refine R' ?_ _) | (with_reducible refine S' ?_ _) | (with_reducible refine T' ?_))); (case side2 => exact HC473_0.out); (case side3 => repeat (first | exact (by repeat (first | (with_reducible exact HR474_0.out) | (with_reducible refine R' ?_ _) | (with_reducible refine S' ?_ _) | (with_reducible refine T' ?_) | exact HR474_0.out)) | (with_reducible refine R' ?_ _) | (with_reducible refine S' ?_ _) | (with_reducible refine T' ?_))); (case side4 => exact HC474_0.out); rintro e w' ⟨rfl, ⟨nd, rfl⟩⟩; (try first | exact ⟨rfl, _, World.drewN_drewN _ _ _⟩ | exact ⟨rfl, _, Eq.trans (World.drewN_drewN _ _ _) (congrArg (World.drewN _) (Nat.add_assoc _ _ _))⟩)))
            repeat (go_quiet (first | (go_at_call 46; (with_reducible refine (spec_l07Cross.calls _ _ (rd_L2 t470 x11_1) _ _ (rd_L2 t470 x12_2) a2 true _ ?side1 ?side2 ?side3 ?side4 A16.out).mono ?_); (case side1 => repeat (first | exact (by repeat (first | (with_reducible exact HR473_0.out) | (with_reducible refine R' ?_ _) | (with_reducible refine S' ?_ _) | (with_reducible refine T' ?_) | exact HR473_0.out)) | (with_reducible refine R' ?_ _) | (with_reducible refine S' ?_ _) | (with_reducible refine T' ?_))); (case side2 => exact HC473_0.out); (case side3 => repeat (first | exact (by repeat (first | (with_reducible exact HR474_0.out) | (with_reducible refine R' ?_ _) | (with_reducible refine S' ?_ _) | (with_reducible refine T' ?_) | exact HR474_0.out)) | (with_reducible refine R' ?_ _) | (with_reducible refine S' ?_ _) | (with_reducible refine T' ?_))); (case side4 => exact HC474_0.out); rintro e w' ⟨rfl, ⟨nd, rfl⟩⟩; (try first | exact ⟨rfl, _, World.drewN_drewN _ _ _⟩ | exact ⟨rfl, _, Eq.trans (World.drewN_drewN _ _ _) (congrArg (World.drewN _) (Nat.add_assoc _ _ _))⟩))); try go_wp2_with (first | (go_at_call 46; (with_reducible refine (spec_l07Cross.calls _ _ (rd_L2 t470 x11_1) _ _ (rd_L2 t470 x12_2) a2 true _ ?side1 ?side2 ?side3 ?side4 A16.out).mono ?_); (case side1 => repeat (first | exact (by repeat (first | (with_reducible exact HR473_0.out) | (with_reducible refine R' ?_ _) | (with_reducible refine S' ?_ _) | (with_reducible refine T' ?_) | exact HR473_0.out)) | (with_reducible refine R' ?_ _) | (with_reducible refine S' ?_ _) | (with_reducible refine T' ?_))); (case side2 => exact HC473_0.out); (case side3 => repeat (first | exact (by repeat (first | (with_reducible exact HR474_0.out) | (with_reducible refine R' ?_ _) | (with_reducible refine S' ?_ _) | (with_reducible refine T' ?_) | exact HR474_0.out)) | (with_reducible refine R' ?_ _) | (with_reducible refine S' ?_ _) | (with_reducible refine T' ?_))); (case side4 => exact HC474_0.out); rintro e w' ⟨rfl, ⟨nd, rfl⟩⟩; (try first | exact ⟨rfl, _, World.drewN_drewN _ _ _⟩ | exact ⟨rfl, _, Eq.trans (World.drewN_drewN _ _ _) (congrArg (World.drewN _) (Nat.add_assoc _ _ _))⟩))))
            go_ret3; exact ⟨qE, qK0 HB.out⟩
           ·replace c17 := Bool.eq_false_iff.mpr c17; subst c17; have H1 : (spec_FirstCrossing.l1 k2 a2 t470 x11_1 (wrap64 (x12_2 + 1))) = some (r1, r2, r3) := by rw [if_neg (show ¬ (false = true) by decide)] at H; exact H
            clear H; have H := H1; clear H1; have H' := A' H; clear H; have p473 : 0 ≤ (x11_1 : Int) := oD' qA; have q473 : x11_1 < (t470.length : Int) := oD' qA; obtain ⟨ad473, A473_0, c473_0, e473, hx473_0, hl473_0, hi473_0⟩ := at_L2 (Kd.S_reads' HO_10.out).2.2 x11_1 p473 q473
            cases e473
            obtain ⟨ce473, hce473, hMe473, hcc473⟩ := Kd.S_get HO_10.out [] x11_1 p473 (by first | exact q473 | exact oD' qA | (have e_ := (Kd.S_reads' HO_10.out).1; omega)); obtain ⟨ve473_0, rfl, ge473_0⟩ := hMe473; have hv473_0 := hcc473 0 _ rfl; rw [Nat.add_zero, show ((Kd.slice 2 (Kd.int .i64))).sz = 1 from rfl, Nat.mul_one] at hv473_0; replace hv473_0 := Option.some.inj (hv473_0.symm.trans hx473_0); rw [hv473_0] at ge473_0; have HL473_0 := A' (show Kd.R (Kd.int .i64) 2 _ _ _ _ (rd_L2 t470 x11_1) from ge473_0); clear hv473_0 ge473_0; clear hcc473 hce473; have HR473_0 := A' hi473_0; have HC473_0 := A' hl473_0; clear hi473_0 hl473_0; replace p473 := eq_true p473; replace q473 := eq_true q473; have p474 : 0 ≤ (x12_2 : Int) := oD' qA; have q474 : x12_2 < (t470.length : Int) := oD' qA; obtain ⟨ad474, A474_0, c474_0, e474, hx474_0, hl474_0, hi474_0⟩ := at_L2 (Kd.S_reads' HO_10.out).2.2 x12_2 p474 q474; obtain rfl : ad473 = ad474 := (by injection e474)
            obtain ⟨ce474, hce474, hMe474, hcc474⟩ := Kd.S_get HO_10.out [] x12_2 p474 (by first | exact q474 | exact oD' qA | (have e_ := (Kd.S_reads' HO_10.out).1; omega)); obtain ⟨ve474_0, rfl, ge474_0⟩ := hMe474; have hv474_0 := hcc474 0 _ rfl; rw [Nat.add_zero, show ((Kd.slice 2 (Kd.int .i64))).sz = 1 from rfl, Nat.mul_one] at hv474_0; replace hv474_0 := Option.some.inj (hv474_0.symm.trans hx474_0); rw [hv474_0] at ge474_0; have HL474_0 := A' (show Kd.R (Kd.int .i64) 2 _ _ _ _ (rd_L2 t470 x12_2) from ge474_0); clear hv474_0 ge474_0; clear hcc474 hce474; have HR474_0 := A' hi474_0; have HC474_0 := A' hl474_0; clear hi474_0 hl474_0; replace p474 := eq_true p474; replace q474 := eq_true q474; go_wp2_with (first | (go_at_call 46; (with_reducible refine (spec_l07Cross.calls _ _ (rd_L2 t470 x11_1) _ _ (rd_L2 t470 x12_2) a2 false _ ?side1 ?side2 ?side3 ?side4 A16.out).mono ?_); (case side1 => repeat (first | exact (by repeat (first | (with_reducible exact HR473_0.out) | (with_reducible refine R' ?_ _) | (with_reducible refine S' ?_ _) | (with_reducible refine T' ?_) | exact HR473_0.out)) | (with_reducible refine R' ?_ _) | (with_reducible refine S' ?_ _) | (with_reducible refine T' ?_))); (case side2 => exact HC473_0.out); (case side3 => repeat (first | exact (by repeat (first | (with_reducible exact HR474_0.out) | (with_reducible refine R' ?_ _) | (with_reducible refine S' ?_ _) | (with_reducible refine T' ?_) | exact HR474_0.out)) | (with_reducible refine R' ?_ _) | (with_reducible refine S' ?_ _) | (with_reducible refine T' ?_))); (case side4 => exact HC474_0.out); rintro e w' ⟨rfl, ⟨nd, rfl⟩⟩; (try first | exact ⟨rfl, _, World.drewN_drewN _ _ _⟩ | exact ⟨rfl, _, Eq.trans (World.drewN_drewN _ _ _) (congrArg (World.drewN _) (Nat.add_assoc _ _ _))⟩)))
            repeat (go_quiet (first | (go_at_call 46; (with_reducible refine (spec_l07Cross.calls _ _ (rd_L2 t470 x11_1) _ _ (rd_L2 t470 x12_2) a2 false _ ?side1 ?side2 ?side3 ?side4 A16.out).mono ?_); (case side1 => repeat (first | exact (by repeat (first | (with_reducible exact HR473_0.out) | (with_reducible refine R' ?_ _) | (with_reducible refine S' ?_ _) | (with_reducible refine T' ?_) | exact HR473_0.out)) | (with_reducible refine R' ?_ _) | (with_reducible refine S' ?_ _) | (with_reducible refine T' ?_))); (case side2 => exact HC473_0.out); (case side3 => repeat (first | exact (by repeat (first | (with_reducible exact HR474_0.out) | (with_reducible refine R' ?_ _) | (with_reducible refine S' ?_ _) | (with_reducible refine T' ?_) | exact HR474_0.out)) | (with_reducible refine R' ?_ _) | (with_reducible refine S' ?_ _) | (with_reducible refine T' ?_))); (case side4 => exact HC474_0.out); rintro e w' ⟨rfl, ⟨nd, rfl⟩⟩; (try first | exact ⟨rfl, _, World.drewN_drewN _ _ _⟩ | exact ⟨rfl, _, Eq.trans (World.drewN_drewN _ _ _) (congrArg (World.drewN _) (Nat.add_assoc _ _ _))⟩))); try go_wp2_with (first | (go_at_call 46; (with_reducible refine (spec_l07Cross.calls _ _ (rd_L2 t470 x11_1) _ _ (rd_L2 t470 x12_2) a2 false _ ?side1 ?side2 ?side3 ?side4 A16.out).mono ?_); (case side1 => repeat (first | exact (by repeat (first | (with_reducible exact HR473_0.out) | (with_reducible refine R' ?_ _) | (with_reducible refine S' ?_ _) | (with_reducible refine T' ?_) | exact HR473_0.out)) | (with_reducible refine R' ?_ _) | (with_reducible refine S' ?_ _) | (with_reducible refine T' ?_))); (case side2 => exact HC473_0.out); (case side3 => repeat (first | exact (by repeat (first | (with_reducible exact HR474_0.out) | (with_reducible refine R' ?_ _) | (with_reducible refine S' ?_ _) | (with_reducible refine T' ?_) | exact HR474_0.out)) | (with_reducible refine R' ?_ _) | (with_reducible refine S' ?_ _) | (with_reducible refine T' ?_))); (case side4 => exact HC474_0.out); rintro e w' ⟨rfl, ⟨nd, rfl⟩⟩; (try first | exact ⟨rfl, _, World.drewN_drewN _ _ _⟩ | exact ⟨rfl, _, Eq.trans (World.drewN_drewN _ _ _) (congrArg (World.drewN _) (Nat.add_assoc _ _ _))⟩))))
            go_roundg k2
            case measure => have := HK1.out; have := HK2.out; omega
            case rel => exact ⟨(wrap64 (x12_2 + 1)), qS, H', ⟨by have := HK1.out; have := HK2.out; omega⟩, ⟨by (with_reducible repeat (first | apply Kd.S_alloc | apply Kd.S_drewN | apply Kd.S_drew)); exact HO_10.out⟩, ⟨qK0 HB.out⟩⟩
          ·rw [if_neg c15] at H; exact absurd H (by simp)
         ·rw [if_neg c14] at H; exact absurd H (by simp)
        ·rw [if_neg c13] at H; exact absurd H (by simp)
       ·rw [if_neg c12] at H; have c12b0 : decide (x12_2 < (t470.length : Int)) = false := dF' c12; clear c12; have H' := A' H; clear H; go_wp2
        repeat (go_quiet (fail); try go_wp2)
        go_roundg k2
        case measure => have := HK1.out; have := HK2.out; omega
        case rel => exact ⟨(wrap64 (x11_1 + 1)), qS, H', ⟨by have := HK1.out; have := HK2.out; omega⟩, ⟨by (with_reducible repeat (first | apply Kd.S_alloc | apply Kd.S_drewN | apply Kd.S_drew)); exact HO_10.out⟩, ⟨qK0 HB.out⟩⟩
    ·rw [if_neg c10] at H; have c10b0 : decide (x11_1 < (t470.length : Int)) = false := dF' c10; clear c10; simp only [Option.some.injEq, Prod.mk.injEq] at H; obtain ⟨rfl, rfl, rfl⟩ := H; obtain ⟨Ao18, co18, eo18⟩ := Kd.S_slice HO_10.out; subst eo18; go_wp2
     repeat (go_quiet (fail); try go_wp2)
     go_ret3; exact ⟨qE, qK0 HB.out⟩
 ·rw [if_neg c5] at H; have c5b0 : (t466 == 0) = false := beq_eq_false_iff_ne.mpr c5; have c5b1 : (t466 != 0) = true := bne_iff_ne.mpr c5; simp only [Option.some.injEq, Prod.mk.injEq] at H; obtain ⟨rfl, rfl, rfl⟩ := H; go_enter Try.func29, Try.ntmps29; go_wp2_with (first | ((with_reducible refine gate_dst (N := 3) rfl ?_); refine box_event ?hg (N := 3) ?hd (cs := #[.int .i64 a0_0, .int .i64 a0_1, .bool a0_2]) (t := 26) ?hr ?_; (case hd => rfl); (case hg => rfl); (case hr => first | (go_simp; done) | (go_simp; rfl)); intro gb465 hg w19 hbox hb; have n0_ := A' (W' (qK0 HB.out) hb); have n1_ := A' (hbox); have n2_ := A' ((by rw [hg]; exact (V' (qK0 HB.out)) : w.heap.size ≤ gb465)); have n3_ := A' ((by rw [hg]; exact (V' (qK0 HB.out)) : w.heap.size ≤ gb465)); clear HB; have HB := n0_; have BK465 := n1_; have GW465 := n2_; have GE465 := n3_; clear n0_ n1_ n2_ n3_; clear hb hbox hg; have HI465 := A' (show IsS26 w w19 gb465 a0_0 a0_1 a0_2 from ⟨(qB BK465.out), GE465.out⟩)) | (go_at_call 34; (with_reducible refine (spec_l07Code.calls k gb465 a0_0 a0_1 a0_2 _ _ l1 t466 t467 t468 t469 w _ ?side1 ?side2 ?side3 ?side4 A4.out).mono ?_); (case side1 => repeat (first | (with_reducible first | exact HI465.out | apply IsS26.alloc | apply IsS26.drewN | apply IsS26.drew | apply IsS26.set_0 | apply IsS26.set_1 | apply IsS26.set_2) | exact HI465.out)); (case side2 => repeat (first | (with_reducible first | exact HB.out | apply K' | apply F' | apply J' | refine E' ?_ (IsS26.ge HI465.out)) | exact HB.out)); (case side3 => exact Kd.C_foot_came k53_heap HR1.out (by repeat (first | (with_reducible first | exact HB.out | apply K' | apply F' | apply J' | refine E' ?_ (IsS26.ge HI465.out)) | exact HB.out)) (IsS26.ge HI465.out)); (case side4 => exact HC1.out); rintro e w20 ⟨rfl, hi, hb, hk⟩; have n0_ := A' (hb); have n1_ := A' (hi); clear HB; clear HI465; have HB := n0_; have HI465 := n1_; clear n0_ n1_; (try clear hb); (try clear hb2); (try clear hk); (try clear hi)))
  repeat (go_quiet (first | ((with_reducible refine gate_dst (N := 3) rfl ?_); refine box_event ?hg (N := 3) ?hd (cs := #[.int .i64 a0_0, .int .i64 a0_1, .bool a0_2]) (t := 26) ?hr ?_; (case hd => rfl); (case hg => rfl); (case hr => first | (go_simp; done) | (go_simp; rfl)); intro gb465 hg w19 hbox hb; have n0_ := A' (W' (qK0 HB.out) hb); have n1_ := A' (hbox); have n2_ := A' ((by rw [hg]; exact (V' (qK0 HB.out)) : w.heap.size ≤ gb465)); have n3_ := A' ((by rw [hg]; exact (V' (qK0 HB.out)) : w.heap.size ≤ gb465)); clear HB; have HB := n0_; have BK465 := n1_; have GW465 := n2_; have GE465 := n3_; clear n0_ n1_ n2_ n3_; clear hb hbox hg; have HI465 := A' (show IsS26 w w19 gb465 a0_0 a0_1 a0_2 from ⟨(qB BK465.out), GE465.out⟩)) | (go_at_call 34; (with_reducible refine (spec_l07Code.calls k gb465 a0_0 a0_1 a0_2 _ _ l1 t466 t467 t468 t469 w _ ?side1 ?side2 ?side3 ?side4 A4.out).mono ?_); (case side1 => repeat (first | (with_reducible first | exact HI465.out | apply IsS26.alloc | apply IsS26.drewN | apply IsS26.drew | apply IsS26.set_0 | apply IsS26.set_1 | apply IsS26.set_2) | exact HI465.out)); (case side2 => repeat (first | (with_reducible first | exact HB.out | apply K' | apply F' | apply J' | refine E' ?_ (IsS26.ge HI465.out)) | exact HB.out)); (case side3 => exact Kd.C_foot_came k53_heap HR1.out (by repeat (first | (with_reducible first | exact HB.out | apply K' | apply F' | apply J' | refine E' ?_ (IsS26.ge HI465.out)) | exact HB.out)) (IsS26.ge HI465.out)); (case side4 => exact HC1.out); rintro e w20 ⟨rfl, hi, hb, hk⟩; have n0_ := A' (hb); have n1_ := A' (hi); clear HB; clear HI465; have HB := n0_; have HI465 := n1_; clear n0_ n1_; (try clear hb); (try clear hb2); (try clear hk); (try clear hi))); try go_wp2_with (first | ((with_reducible refine gate_dst (N := 3) rfl ?_); refine box_event ?hg (N := 3) ?hd (cs := #[.int .i64 a0_0, .int .i64 a0_1, .bool a0_2]) (t := 26) ?hr ?_; (case hd => rfl); (case hg => rfl); (case hr => first | (go_simp; done) | (go_simp; rfl)); intro gb465 hg w19 hbox hb; have n0_ := A' (W' (qK0 HB.out) hb); have n1_ := A' (hbox); have n2_ := A' ((by rw [hg]; exact (V' (qK0 HB.out)) : w.heap.size ≤ gb465)); have n3_ := A' ((by rw [hg]; exact (V' (qK0 HB.out)) : w.heap.size ≤ gb465)); clear HB; have HB := n0_; have BK465 := n1_; have GW465 := n2_; have GE465 := n3_; clear n0_ n1_ n2_ n3_; clear hb hbox hg; have HI465 := A' (show IsS26 w w19 gb465 a0_0 a0_1 a0_2 from ⟨(qB BK465.out), GE465.out⟩)) | (go_at_call 34; (with_reducible refine (spec_l07Code.calls k gb465 a0_0 a0_1 a0_2 _ _ l1 t466 t467 t468 t469 w _ ?side1 ?side2 ?side3 ?side4 A4.out).mono ?_); (case side1 => repeat (first | (with_reducible first | exact HI465.out | apply IsS26.alloc | apply IsS26.drewN | apply IsS26.drew | apply IsS26.set_0 | apply IsS26.set_1 | apply IsS26.set_2) | exact HI465.out)); (case side2 => repeat (first | (with_reducible first | exact HB.out | apply K' | apply F' | apply J' | refine E' ?_ (IsS26.ge HI465.out)) | exact HB.out)); (case side3 => exact Kd.C_foot_came k53_heap HR1.out (by repeat (first | (with_reducible first | exact HB.out | apply K' | apply F' | apply J' | refine E' ?_ (IsS26.ge HI465.out)) | exact HB.out)) (IsS26.ge HI465.out)); (case side4 => exact HC1.out); rintro e w20 ⟨rfl, hi, hb, hk⟩; have n0_ := A' (hb); have n1_ := A' (hi); clear HB; clear HI465; have HB := n0_; have HI465 := n1_; clear n0_ n1_; (try clear hb); (try clear hb2); (try clear hk); (try clear hi))))
  go_ret3; exact ⟨qE, by repeat (first | (with_reducible first | exact HB.out | apply K' | apply F' | apply J' | refine E' ?_ (IsS26.ge HI465.out)) | exact HB.out)⟩

/-! ### spec_SameWay: function 30 -/
def spec_SameWay.l0 : Nat → List (S53) → List (S53) → Int → Option (Bool)
 | 0, _, _, _ => none
 | k + 1, x0, x1, x5 => if x5 < (x0.length : Int) then (if 0 ≤ x5 then (if x5 < (x1.length : Int) then (if (!(((rd_T53 x0 x5).f0) == ((rd_T53 x1 x5).f0)) || (!(((rd_T53 x0 x5).f1) == ((rd_T53 x1 x5).f1)))) = true then (some false) else (spec_SameWay.l0 k x0 x1 (wrap64 (x5 + 1)))) else (none)) else (none)) else (some true)
def spec_SameWay.f (k : Nat) (l0 : List (S53)) (l1 : List (S53)) : Option (Bool) := if (l0.length : Int) = (l1.length : Int) then (spec_SameWay.l0 k l0 l1 0) else (some false)
theorem spec_SameWay.mono_l : ∀ k, (∀ y0 y1 y2, LeO (spec_SameWay.l0 k y0 y1 y2) (spec_SameWay.l0 (k + 1) y0 y1 y2))
 | 0 => fun _ _ _ r h => by simp [spec_SameWay.l0] at h
 | k + 1 => by
  have ih0 := spec_SameWay.mono_l k
  ·intro y0 y1 y2
   unfold spec_SameWay.l0
   repeat' first
   | (with_reducible exact ih0 _ _ _)
   | (with_reducible exact LeO.refl _)
   | (with_reducible exact LeO.none _)
   | (with_reducible refine LeO.ite ?_ ?_)
   | (with_reducible refine LeO.bind ?_ (fun _ => ?_))
   | exact ih0 _ _ _
   | exact LeO.none _
   | refine LeO.ite ?_ ?_
   | refine LeO.bind ?_ (fun _ => ?_)
theorem spec_SameWay.mono : ∀ a0 a1 k, LeO (spec_SameWay.f k a0 a1) (spec_SameWay.f (k + 1) a0 a1) := by
 intro a0 a1 k
 have ih0 := spec_SameWay.mono_l k
 unfold spec_SameWay.f
 repeat' first
   | (with_reducible exact ih0 _ _ _)
   | (with_reducible exact LeO.refl _)
   | (with_reducible exact LeO.none _)
   | (with_reducible refine LeO.ite ?_ ?_)
   | (with_reducible refine LeO.bind ?_ (fun _ => ?_))
   | exact ih0 _ _ _
   | exact LeO.none _
   | refine LeO.ite ?_ ?_
   | refine LeO.bind ?_ (fun _ => ?_)
set_option maxHeartbeats 8000000 in
set_option maxRecDepth 100000 in
theorem spec_SameWay.calls (k : Nat) (A0 : Option Addr) (c0 : Nat) (l0 : List (S53)) (A1 : Option Addr) (c1 : Nat) (l1 : List (S53)) (r : Bool) (w : World) (hr0 : Kd.C k53 w A0 l0.length l0) (hc0 : l0.length ≤ c0) (hr1 : Kd.C k53 w A1 l1.length l1) (hc1 : l1.length ≤ c1) (h : spec_SameWay.f k l0 l1 = some r) :
  Calls Try.prog 30 #[.slice A0 l0.length c0, .slice A1 l1.length c1] w fun e w' => e = .returned (.bool r) ∧ Drawn0 w w' := by
 have hu53 := Try.underlying53; have HR0 := A' hr0; have HC0 := A' hc0; clear hr0 hc0; have HR1 := A' hr1; have HC1 := A' hc1; clear hr1 hc1; have H : (if (l0.length : Int) = (l1.length : Int) then (spec_SameWay.l0 k l0 l1 0) else (some false)) = some r := h; clear h
 by_cases c3 : (l0.length : Int) = (l1.length : Int)
 ·rw [if_pos c3] at H; have c3b0 : ((l0.length : Int) == (l1.length : Int)) = true := beq_iff_eq.mpr c3; have c3b1 : ((l0.length : Int) != (l1.length : Int)) = false := bne_eq_false_iff_eq.mpr c3; have c3b2 : (l0.length == l1.length) = true := by first | simpa using c3 | (simp at c3 ⊢; omega)
  clear c3; have H' := A' H; clear H; go_enter Try.func30, Try.ntmps30; go_wp2
  repeat (go_quiet (fail); try go_wp2)
  go_loopg [5] k (fun kq v5 w' => ∃ (x5_1 : Int), v5 = .int .i64 x5_1 ∧ Aside0 (spec_SameWay.l0 kq l0 l1 x5_1 = some r) ∧ Aside0 (kq ≤ k) ∧ Drawn0 w w')
  case atStart => exact ⟨(0), qS, H', ⟨Nat.le_refl _⟩, by repeat (first | exact Drawn0.refl _ | apply Drawn0.step)⟩
  case round =>
   clear H'; try clear c1
   try clear p2
   try clear c3
   try clear c3b0
   try clear c3b1
   try clear c3b2
   obtain ⟨x5_1, rfl, HA, HK1, ⟨m1, rfl⟩⟩ := hrel
   cases gk with
   | zero => exact absurd HA.out (by simp [spec_SameWay.l0])
   | succ k1 =>
    have H := HA.out; clear HA; simp only [spec_SameWay.l0] at H
    by_cases c4 : x5_1 < (l0.length : Int)
    ·rw [if_pos c4] at H; have c4b0 : decide (x5_1 < (l0.length : Int)) = true := dT' c4; clear c4
     by_cases c5 : 0 ≤ x5_1
     ·rw [if_pos c5] at H; have c5b0 : decide (0 ≤ x5_1) = true := dT' c5; clear c5
      by_cases c6 : x5_1 < (l1.length : Int)
      ·rw [if_pos c6] at H; have c6b0 : decide (x5_1 < (l1.length : Int)) = true := dT' c6; clear c6
       by_cases c7 : (!(((rd_T53 l0 x5_1).f0) == ((rd_T53 l1 x5_1).f0)) || (!(((rd_T53 l0 x5_1).f1) == ((rd_T53 l1 x5_1).f1)))) = true
       ·rw [if_pos c7] at H; have c7b0 : (!(((rd_T53 l0 x5_1).f0) == ((rd_T53 l1 x5_1).f0)) || (!(((rd_T53 l0 x5_1).f1) == ((rd_T53 l1 x5_1).f1)))) = true := c7; clear c7; obtain rfl := Option.some.inj H; have p476 : 0 ≤ (x5_1 : Int) := oD' qA; have q476 : x5_1 < (l0.length : Int) := oD' qA; obtain ⟨ad476, e476, hx476_0, hx476_1⟩ := at_T53 HR0.out x5_1 p476 q476
        cases e476
        replace p476 := eq_true p476; replace q476 := eq_true q476; have p477 : 0 ≤ (x5_1 : Int) := oD' qA; have q477 : x5_1 < (l1.length : Int) := oD' qA; obtain ⟨ad477, e477, hx477_0, hx477_1⟩ := at_T53 HR1.out x5_1 p477 q477
        cases e477
        replace p477 := eq_true p477; replace q477 := eq_true q477; go_wp2
        repeat (go_quiet (fail); try go_wp2)
        go_ret; exact ⟨by first | rfl | (simp; done) | (simp [*]; done), by repeat (first | exact Drawn0.refl _ | apply Drawn0.step)⟩
       ·rw [if_neg c7] at H; have c7b0 : (!(((rd_T53 l0 x5_1).f0) == ((rd_T53 l1 x5_1).f0)) || (!(((rd_T53 l0 x5_1).f1) == ((rd_T53 l1 x5_1).f1)))) = false := by simpa using c7
        clear c7; have H' := A' H; clear H; have p476 : 0 ≤ (x5_1 : Int) := oD' qA; have q476 : x5_1 < (l0.length : Int) := oD' qA; obtain ⟨ad476, e476, hx476_0, hx476_1⟩ := at_T53 HR0.out x5_1 p476 q476
        cases e476
        replace p476 := eq_true p476; replace q476 := eq_true q476; have p477 : 0 ≤ (x5_1 : Int) := oD' qA; have q477 : x5_1 < (l1.length : Int) := oD' qA; obtain ⟨ad477, e477, hx477_0, hx477_1⟩ := at_T53 HR1.out x5_1 p477 q477
        cases e477
        replace p477 := eq_true p477; replace q477 := eq_true q477; go_wp2
        repeat (go_quiet (fail); try go_wp2)
        go_roundg k1
        case measure => have := HK1.out; omega
        case rel => exact ⟨(wrap64 (x5_1 + 1)), qS, H', ⟨by have := HK1.out; omega⟩, by repeat (first | exact Drawn0.refl _ | apply Drawn0.step)⟩
      ·rw [if_neg c6] at H; exact absurd H (by simp)
     ·rw [if_neg c5] at H; exact absurd H (by simp)
    ·rw [if_neg c4] at H; have c4b0 : decide (x5_1 < (l0.length : Int)) = false := dF' c4; clear c4; obtain rfl := Option.some.inj H; go_wp2
     repeat (go_quiet (fail); try go_wp2)
     go_ret; exact ⟨by first | rfl | (simp; done) | (simp [*]; done), by repeat (first | exact Drawn0.refl _ | apply Drawn0.step)⟩
 ·rw [if_neg c3] at H; have c3b0 : ((l0.length : Int) == (l1.length : Int)) = false := beq_eq_false_iff_ne.mpr c3; have c3b1 : ((l0.length : Int) != (l1.length : Int)) = true := bne_iff_ne.mpr c3; have c3b2 : (l0.length == l1.length) = false := by first | simpa using c3 | (simp at c3 ⊢; omega)
  obtain rfl := Option.some.inj H; go_enter Try.func30, Try.ntmps30; go_wp2
  repeat (go_quiet (fail); try go_wp2)
  go_ret; exact ⟨by first | rfl | (simp; done) | (simp [*]; done), by repeat (first | exact Drawn0.refl _ | apply Drawn0.step)⟩

end Go.Proofs.Ytifdihbndlmgpaa.HCro
