-- Written by a program for this claim (the functions that the statement reaches, and that the program's code comes to them).
import Derived.Test.YtifdihbndlmgpaaHCrox0
import Derived.Test.YtifdihbndlmgpaaHCrox2
import Derived.Test.YtifdihbndlmgpaaHCrox4
namespace Go.Proofs.Ytifdihbndlmgpaa.HCro
open Go.RowKit Go.Proofs.YtifdihbndlmgpaaW.PrintWords Go.Proofs.YtifdihbndlmgpaaW.PrintLast Go.Proofs.YtifdihbndlmgpaaW.PrintMore
attribute [local go_sem] max2_int min2_int max_two min_two max_three min_three max_four min_four   -- for this text's walks alone
set_option linter.unusedVariables false
set_option linter.unusedSimpArgs false

/-! ### impl_wayFault: function 59 -/
def impl_wayFault.l0 : Nat → List (S53) → List (S53) → Int → Int → Int → Int → Bool → Option (ByteArray × Int)
 | 0, _, _, _, _, _, _, _ => none
 | k + 1, x1, x8, x9, x10, x404000, x404001, x404002 => if x10 < x9 then (if 0 ≤ x10 then (if x10 < (x8.length : Int) then ((impl_blockAt.f x404000 x404001 x404002 x10).bind fun t406 => (if ((rd_T53 x8 x10).f0) = t406 then ((impl_sheavesAt.f x404000 x404001 x404002 ((rd_T53 x8 x10).f0)).bind fun t407 => ((impl_within.f ((rd_T53 x8 x10).f1) 0 (wrap64 (t407 - 1))).bind fun t408 => (if t408 = true then (if x10 ≤ (x1.length : Int) then ((impl_Stop_57.f k (x1.take (x10 : Int).toNat) ((rd_T53 x8 x10).f0) ((rd_T53 x8 x10).f1)).bind fun t413 => (if t413 = true then (some ((⟨#[116, 119, 105, 99, 101]⟩ : ByteArray), x10)) else (impl_wayFault.l0 k x1 x8 x9 (wrap64 (x10 + 1)) x404000 x404001 x404002))) else (none)) else (some ((⟨#[115, 104, 101, 97, 118, 101]⟩ : ByteArray), x10))))) else (some ((⟨#[98, 108, 111, 99, 107]⟩ : ByteArray), x10)))) else (none)) else (none)) else (if (x1.length : Int) < (wrap64 (x404000 + x404001)) then (some ((⟨#[115, 104, 111, 114, 116]⟩ : ByteArray), (x1.length : Int))) else (some ((⟨#[110, 111, 110, 101]⟩ : ByteArray), (-1))))
def impl_wayFault.f (k : Nat) (a0_0 : Int) (a0_1 : Int) (a0_2 : Bool) (l1 : List (S53)) : Option (ByteArray × Int) := impl_wayFault.l0 k l1 l1 (l1.length : Int) 0 a0_0 a0_1 a0_2
theorem impl_wayFault.mono_l : ∀ k, (∀ y0 y1 y2 y3 y4 y5 y6, LeO (impl_wayFault.l0 k y0 y1 y2 y3 y4 y5 y6) (impl_wayFault.l0 (k + 1) y0 y1 y2 y3 y4 y5 y6))
 | 0 => fun _ _ _ _ _ _ _ r h => by simp [impl_wayFault.l0] at h
 | k + 1 => by
  have ih0 := impl_wayFault.mono_l k
  ·intro y0 y1 y2 y3 y4 y5 y6
   unfold impl_wayFault.l0
   repeat' first
   | (with_reducible exact ih0 _ _ _ _ _ _ _)
   | (with_reducible exact impl_Stop_57.mono _ _ _ _)
   | (with_reducible exact LeO.refl _)
   | (with_reducible exact LeO.none _)
   | (with_reducible refine LeO.ite ?_ ?_)
   | (with_reducible refine LeO.bind ?_ (fun _ => ?_))
   | exact ih0 _ _ _ _ _ _ _
   | exact impl_Stop_57.mono _ _ _ _
   | exact LeO.none _
   | refine LeO.ite ?_ ?_
   | refine LeO.bind ?_ (fun _ => ?_)
theorem impl_wayFault.mono : ∀ a0 a1 a2 a3 k, LeO (impl_wayFault.f k a0 a1 a2 a3) (impl_wayFault.f (k + 1) a0 a1 a2 a3) := by
 intro a0 a1 a2 a3 k
 have ih0 := impl_wayFault.mono_l k
 unfold impl_wayFault.f
 repeat' first
   | (with_reducible exact ih0 _ _ _ _ _ _ _)
   | (with_reducible exact impl_Stop_57.mono _ _ _ _)
   | (with_reducible exact LeO.refl _)
   | (with_reducible exact LeO.none _)
   | (with_reducible refine LeO.ite ?_ ?_)
   | (with_reducible refine LeO.bind ?_ (fun _ => ?_))
   | exact ih0 _ _ _ _ _ _ _
   | exact impl_Stop_57.mono _ _ _ _
   | exact LeO.none _
   | refine LeO.ite ?_ ?_
   | refine LeO.bind ?_ (fun _ => ?_)
def impl_wayFault.T6 : Bool × List (List Nat × List Nat) := (true, [([], []), ([0], [0]), ([], []), ([], []), ([3], [3]), ([2, 4], [2, 4]), ([5], [5]), ([1, 6, 5], [1, 6]), ([7], [7]), ([8, 7], [8])])
def impl_wayFault.B6 : List Nat := [0, 1, 0, 0, 8, 28, 60, 127, 255, 511]
theorem impl_wayFault.tab6 : rtab .any (opsOf Try.f59 6) = impl_wayFault.T6 := by kernel_rfl
theorem impl_wayFault.bits6 : waitsOk impl_wayFault.T6.2 impl_wayFault.B6 = true := by kernel_rfl
set_option maxHeartbeats 8000000 in
set_option maxRecDepth 100000 in
theorem impl_wayFault.calls (k : Nat) (a0_0 : Int) (a0_1 : Int) (a0_2 : Bool) (A1 : Option Addr) (c1 : Nat) (l1 : List (S53)) (r1 : ByteArray) (r2 : Int) (w : World) (hr1 : Kd.C k53 w A1 l1.length l1) (hc1 : l1.length ≤ c1) (h : impl_wayFault.f k a0_0 a0_1 a0_2 l1 = some (r1, r2)) :
  Calls Try.prog 59 #[.agg #[.int .i64 a0_0, .int .i64 a0_1, .bool a0_2], .slice A1 l1.length c1] w fun e w' => e = .returned (.tuple #[.string r1, .int .i64 r2]) ∧ Below w.heap.size w w' := by
 have hu26 := Try.underlying26; have hu53 := Try.underlying53; have HR1 := A' hr1; have HC1 := A' hc1; clear hr1 hc1; have HB := A' (Below.refl w.heap.size w); have H : (impl_wayFault.l0 k l1 l1 (l1.length : Int) 0 a0_0 a0_1 a0_2) = some (r1, r2) := h; clear h; have H' := A' H; clear H; go_enter Try.func59, Try.ntmps59; go_wp2_with (first | ((with_reducible refine gate_dst (N := 2) rfl ?_); refine box_event ?hg (N := 2) ?hd (cs := #[.int .i64 a0_0, .int .i64 a0_1, .bool a0_2]) (t := 26) ?hr ?_; (case hd => rfl); (case hg => rfl); (case hr => first | (go_simp; done) | (go_simp; rfl)); intro gb403 hg w3 hbox hb; have n0_ := A' (W' (qK0 HB.out) hb); have n1_ := A' (hbox); have n2_ := A' ((by rw [hg]; exact (V' (qK0 HB.out)) : w.heap.size ≤ gb403)); have n3_ := A' ((by rw [hg]; exact (V' (qK0 HB.out)) : w.heap.size ≤ gb403)); clear HB; have HB := n0_; have BK403 := n1_; have GW403 := n2_; have GE403 := n3_; clear n0_ n1_ n2_ n3_; clear hb hbox hg))
 go_loopg [10] k (fun kq v10 w' => ∃ (x10_1 : Int), v10 = .int .i64 x10_1 ∧ Aside0 (impl_wayFault.l0 kq l1 l1 (l1.length : Int) x10_1 a0_0 a0_1 a0_2 = some (r1, r2)) ∧ Aside0 (kq ≤ k) ∧ Aside0 (w'.heap[gb403]? = some (.cells #[.int .i64 a0_0, .int .i64 a0_1, .bool a0_2] 26 (0, 0))) ∧ Aside0 (Below w.heap.size w w'))
 case atStart => exact ⟨(0), qS, H', ⟨Nat.le_refl _⟩, ⟨qB BK403.out⟩, ⟨qK1 HB.out GE403.out⟩⟩
 case round =>
  clear H'; try clear c1
  try clear p2
  obtain ⟨x10_1, rfl, HA, HK1, BK403, HB⟩ := hrel
  cases gk with
  | zero => exact absurd HA.out (by simp [impl_wayFault.l0])
  | succ k1 =>
   have H := HA.out; clear HA; simp only [impl_wayFault.l0] at H
   by_cases c4 : x10_1 < (l1.length : Int)
   ·rw [if_pos c4] at H; have c4b0 : decide (x10_1 < (l1.length : Int)) = true := dT' c4; clear c4
    by_cases c5 : 0 ≤ x10_1
    ·rw [if_pos c5] at H; have c5b0 : decide (0 ≤ x10_1) = true := dT' c5; clear c5
     by_cases c6 : x10_1 < (l1.length : Int)
     ·rw [if_pos c6] at H; have c6b0 : decide (x10_1 < (l1.length : Int)) = true := dT' c6; clear c6; replace H := Option.bind_eq_some_iff.mp H; obtain ⟨t406, A70, H⟩ := H; replace H : (if ((rd_T53 l1 x10_1).f0) = t406 then ((impl_sheavesAt.f a0_0 a0_1 a0_2 ((rd_T53 l1 x10_1).f0)).bind fun t407 => ((impl_within.f ((rd_T53 l1 x10_1).f1) 0 (wrap64 (t407 - 1))).bind fun t408 => (if t408 = true then (if x10_1 ≤ (l1.length : Int) then ((impl_Stop_57.f k1 (l1.take (x10_1 : Int).toNat) ((rd_T53 l1 x10_1).f0) ((rd_T53 l1 x10_1).f1)).bind fun t413 => (if t413 = true then (some ((⟨#[116, 119, 105, 99, 101]⟩ : ByteArray), x10_1)) else (impl_wayFault.l0 k1 l1 l1 (l1.length : Int) (wrap64 (x10_1 + 1)) a0_0 a0_1 a0_2))) else (none)) else (some ((⟨#[115, 104, 101, 97, 118, 101]⟩ : ByteArray), x10_1))))) else (some ((⟨#[98, 108, 111, 99, 107]⟩ : ByteArray), x10_1))) = some (r1, r2) := H; have A7 := A' A70; clear A70
      by_cases c8 : ((rd_T53 l1 x10_1).f0) = t406
      ·rw [if_pos c8] at H; have c8b0 : (((rd_T53 l1 x10_1).f0) == t406) = true := beq_iff_eq.mpr c8; have c8b1 : (((rd_T53 l1 x10_1).f0) != t406) = false := bne_eq_false_iff_eq.mpr c8; clear c8; replace H := Option.bind_eq_some_iff.mp H; obtain ⟨t407, A90, H⟩ := H; replace H : ((impl_within.f ((rd_T53 l1 x10_1).f1) 0 (wrap64 (t407 - 1))).bind fun t408 => (if t408 = true then (if x10_1 ≤ (l1.length : Int) then ((impl_Stop_57.f k1 (l1.take (x10_1 : Int).toNat) ((rd_T53 l1 x10_1).f0) ((rd_T53 l1 x10_1).f1)).bind fun t413 => (if t413 = true then (some ((⟨#[116, 119, 105, 99, 101]⟩ : ByteArray), x10_1)) else (impl_wayFault.l0 k1 l1 l1 (l1.length : Int) (wrap64 (x10_1 + 1)) a0_0 a0_1 a0_2))) else (none)) else (some ((⟨#[115, 104, 101, 97, 118, 101]⟩ : ByteArray), x10_1)))) = some (r1, r2) := H; have A9 := A' A90; clear A90; replace H := Option.bind_eq_some_iff.mp H; obtain ⟨t408, A100, H⟩ := H; replace H : (if t408 = true then (if x10_1 ≤ (l1.length : Int) then ((impl_Stop_57.f k1 (l1.take (x10_1 : Int).toNat) ((rd_T53 l1 x10_1).f0) ((rd_T53 l1 x10_1).f1)).bind fun t413 => (if t413 = true then (some ((⟨#[116, 119, 105, 99, 101]⟩ : ByteArray), x10_1)) else (impl_wayFault.l0 k1 l1 l1 (l1.length : Int) (wrap64 (x10_1 + 1)) a0_0 a0_1 a0_2))) else (none)) else (some ((⟨#[115, 104, 101, 97, 118, 101]⟩ : ByteArray), x10_1))) = some (r1, r2) := H; have A10 := A' A100; clear A100
       by_cases c11 : t408 = true
       ·subst c11; have H1 : (if x10_1 ≤ (l1.length : Int) then ((impl_Stop_57.f k1 (l1.take (x10_1 : Int).toNat) ((rd_T53 l1 x10_1).f0) ((rd_T53 l1 x10_1).f1)).bind fun t413 => (if t413 = true then (some ((⟨#[116, 119, 105, 99, 101]⟩ : ByteArray), x10_1)) else (impl_wayFault.l0 k1 l1 l1 (l1.length : Int) (wrap64 (x10_1 + 1)) a0_0 a0_1 a0_2))) else (none)) = some (r1, r2) := by rw [if_pos rfl] at H; exact H
        clear H; have H := H1; clear H1; have c12b0 := eq_true (oD' qA : 0 ≤ x10_1)
        by_cases c13 : x10_1 ≤ (l1.length : Int)
        ·rw [if_pos c13] at H; have c13b0 := eq_true c13; have c13b1 : decide (x10_1 ≤ (l1.length : Int)) = true := dT' c13; clear c13; obtain ⟨y409, hy409⟩ : ∃ y_ : List (S53), y_ = (l1.take (x10_1 : Int).toNat) := ⟨_, rfl⟩
         replace H : ((impl_Stop_57.f k1 y409 ((rd_T53 l1 x10_1).f0) ((rd_T53 l1 x10_1).f1)).bind fun t413 => (if t413 = true then (some ((⟨#[116, 119, 105, 99, 101]⟩ : ByteArray), x10_1)) else (impl_wayFault.l0 k1 l1 l1 (l1.length : Int) (wrap64 (x10_1 + 1)) a0_0 a0_1 a0_2))) = some (r1, r2) := by first | (rw [hy409]; with_reducible exact H) | (have H2_ := (Option.bind_some _ _).symm.trans H; rw [hy409]; with_reducible exact H2_) | (have H2_ := (Option.bind_some _ _).symm.trans H; with_reducible exact H2_) | with_reducible exact H | (rw [hy409]; exact H) | exact H
         have Ny409 := A' hy409; clear hy409; replace H := Option.bind_eq_some_iff.mp H; obtain ⟨t413, A140, H⟩ := H; replace H : (if t413 = true then (some ((⟨#[116, 119, 105, 99, 101]⟩ : ByteArray), x10_1)) else (impl_wayFault.l0 k1 l1 l1 (l1.length : Int) (wrap64 (x10_1 + 1)) a0_0 a0_1 a0_2)) = some (r1, r2) := H; have A14 := A' A140; clear A140
         by_cases c15 : t413 = true
         ·subst c15; have H1 : (some ((⟨#[116, 119, 105, 99, 101]⟩ : ByteArray), x10_1)) = some (r1, r2) := by rw [if_pos rfl] at H; exact H
          clear H; have H := H1; clear H1; simp only [Option.some.injEq, Prod.mk.injEq] at H; obtain ⟨rfl, rfl⟩ := H; have p404 : 0 ≤ (x10_1 : Int) := oD' qA; have q404 : x10_1 < (l1.length : Int) := oD' qA; obtain ⟨ad404, e404, hx404_0, hx404_1⟩ := at_T53 HR1.out x10_1 p404 q404
          cases e404
          try replace hx404_0 := qC HB.out hx404_0
          try replace hx404_1 := qC HB.out hx404_1
          replace p404 := eq_true p404; replace q404 := eq_true q404; try go_wp2_with (first | ((with_reducible refine gate_dst (N := 7) rfl ?_); refine box_event ?hg (N := 7) ?hd (cs := #[.int .i64 0, .int .i64 0]) (t := 53) ?hr ?_; (case hd => rfl); (case hg => rfl); (case hr => first | (go_simp; done) | (go_simp; rfl)); intro gb405 hg w16 hbox hb; have n0_ := A' (O' (g := gb403) (qB BK403.out) hb); have n1_ := A' (W' (qK1 HB.out GE403.out) hb); have n2_ := A' (hbox); have n3_ := A' ((by rw [hg]; exact (V' (qK1 HB.out GE403.out)) : w.heap.size ≤ gb405)); have n4_ := A' ((by rw [hg]; exact (V' (qK1 HB.out GE403.out)) : w.heap.size ≤ gb405)); have n5_ := A' ((by rw [hg]; exact Nat.ne_of_lt (bL' (g := gb403) (qB BK403.out)) : gb403 ≠ gb405)); have n6_ := A' ((by rw [hg]; exact Nat.ne_of_gt (bL' (g := gb403) (qB BK403.out)) : gb405 ≠ gb403)); clear BK403; clear HB; have BK403 := n0_; have HB := n1_; have BK405 := n2_; have GW405 := n3_; have GE405 := n4_; have NB403_405 := n5_; have NB405_403 := n6_; clear n0_ n1_ n2_ n3_ n4_ n5_ n6_; clear hb hbox hg; have hnb17 := NB405_403.out; have hnc17 := NB403_405.out; have hcz18_0 : w16.cell? ⟨gb405, 0, none⟩ = some (.int .i64 0) := (N' BK405.out 0).trans rfl; have hcz18_1 : w16.cell? ⟨gb405, 1, none⟩ = some (.int .i64 0) := (N' BK405.out 1).trans rfl; have hfz18_0 := Y' BK405.out 0; have hfz18_1 := Y' BK405.out 1))
          have n0_ : Aside0 (((w16.setCell ⟨gb405, 0, none⟩ (.int .i64 ((rd_T53 l1 x10_1).f0))).setCell ⟨gb405, 1, none⟩ (.int .i64 ((rd_T53 l1 x10_1).f1))).heap[gb403]? = some (.cells #[.int .i64 a0_0, .int .i64 a0_1, .bool a0_2] 26 (0, 0))) := ⟨qG2 BK403.out NB403_405.out NB403_405.out⟩
          have n1_ : Aside0 (((w16.setCell ⟨gb405, 0, none⟩ (.int .i64 ((rd_T53 l1 x10_1).f0))).setCell ⟨gb405, 1, none⟩ (.int .i64 ((rd_T53 l1 x10_1).f1))).heap[gb405]? = some (.cells #[.int .i64 ((rd_T53 l1 x10_1).f0), .int .i64 ((rd_T53 l1 x10_1).f1)] 53 (0, 0))) := ⟨by (with_reducible repeat (first | refine G' ?_ _ | refine I' ?_ | refine H' ?_ _)); refine blk_put (cs := #[.int .i64 ((rd_T53 l1 x10_1).f0), .int .i64 0]) ?_ 1 _ rfl; (with_reducible repeat (first | refine G' ?_ _ | refine I' ?_ | refine H' ?_ _)); refine blk_put (cs := #[.int .i64 0, .int .i64 0]) ?_ 0 _ rfl; (with_reducible repeat (first | refine G' ?_ _ | refine I' ?_ | refine H' ?_ _)); exact BK405.out⟩
          have n2_ : Aside0 (Below w.heap.size w ((w16.setCell ⟨gb405, 0, none⟩ (.int .i64 ((rd_T53 l1 x10_1).f0))).setCell ⟨gb405, 1, none⟩ (.int .i64 ((rd_T53 l1 x10_1).f1)))) := ⟨qK2 HB.out GE403.out GE405.out⟩
          (try clear BK403); (try clear BK405); (try clear HB)
          generalize ((w16.setCell ⟨gb405, 0, none⟩ (.int .i64 ((rd_T53 l1 x10_1).f0))).setCell ⟨gb405, 1, none⟩ (.int .i64 ((rd_T53 l1 x10_1).f1))) = w19 at n0_ n1_ n2_ ⊢
          have BK403 := n0_; have BK405 := n1_; have HB := n2_; clear n0_ n1_ n2_; have n0_ := A' (I' BK403.out); have n1_ := A' (I' BK405.out); have n2_ := A' (J' HB.out); clear BK403; clear BK405; clear HB; have BK403 := n0_; have BK405 := n1_; have HB := n2_; clear n0_ n1_ n2_; refine start_ (n := 7) (S := fun w' => w'.cell? ⟨gb405, 0, none⟩ = some (.int .i64 ((rd_T53 l1 x10_1).f0)) ∧ w'.cell? ⟨gb405, 1, none⟩ = some (.int .i64 ((rd_T53 l1 x10_1).f1)) ∧ w'.cell? ⟨gb403, 0, none⟩ = some (.int .i64 a0_0) ∧ w'.cell? ⟨gb403, 1, none⟩ = some (.int .i64 a0_1) ∧ w'.cell? ⟨gb403, 2, none⟩ = some (.bool a0_2)) (ds := []) #[n', n', n', n', n', n', n'] (by kernel_rfl) rfl rfl ⟨(N' BK405.out 0).trans rfl, (N' BK405.out 1).trans rfl, (N' BK403.out 0).trans rfl, (N' BK403.out 1).trans rfl, (N' BK403.out 2).trans rfl⟩ (fun hHeld => ?_)
          generalize w19.drew = w20 at BK403 BK405 HB hHeld ⊢
          refine pure_ (i := 0) (N := some 16) (v := ?_) (a' := ?_) #[y', n', n', n', n', n', n'] rfl rfl (by kernel_rfl) (fun _ _ _ h => h) (Or.inl ⟨by rfl, ?_⟩) ?_ ?_; rotate_left
          ·exact qI
          rotate_left
          ·exact qP
          refine pure_ (i := 3) (N := some 19) (v := ?_) (a' := ?_) #[y', n', n', y', n', n', n'] rfl rfl (by kernel_rfl) (fun _ _ _ h => h) (Or.inl ⟨by rfl, ?_⟩) ?_ ?_; rotate_left
          ·exact qI
          rotate_left
          ·exact qP
          refine take_ (i := 1) (N := some 17) (v := ?_) (a' := ?_) #[y', y', n', y', n', n', n'] rfl rfl (by kernel_rfl) (fun _ _ _ h => h) (Or.inl ⟨by rfl, ?_⟩) hHeld ?_ ?_; rotate_left
          ·rintro w' ⟨s0, s1, s2, s3, s4⟩; go_simp; with_reducible rfl
          rotate_left
          ·exact qP
          refine take_ (i := 2) (N := some 18) (v := ?_) (a' := ?_) #[y', y', y', y', n', n', n'] rfl rfl (by kernel_rfl) (fun _ _ _ h => h) (Or.inl ⟨by rfl, ?_⟩) hHeld ?_ ?_; rotate_left
          ·rintro w' ⟨s0, s1, s2, s3, s4⟩; go_simp; with_reducible rfl
          rotate_left
          ·exact qP
          refine one_ (i := 4) (N := some 20) #[y', y', y', y', y', n', n'] rfl rfl (by kernel_rfl) (by decide) (fun K hK => ?_); refine goes_ Try.func55 (by kernel_rfl) rfl #[.agg #[.int .i64 a0_0, .int .i64 a0_1, .bool a0_2], .int .i64 x10_1] (by rfl) rfl rfl (by (try simp only [List.map_toArray, List.map_cons, List.map_nil]); first | done | rfl | (simp only [List.length_drop, List.length_take]; rfl)) ?_
          with_reducible refine (impl_blockAt.calls a0_0 a0_1 a0_2 x10_1 t406 _ A7.out).mono ?_
          rintro e w21 ⟨rfl, hb⟩; refine ⟨_, rfl, ?_⟩; have n0_ := A' (O' (g := gb403) (qB BK403.out) hb); have n1_ := A' (O' (g := gb405) (qB BK405.out) hb); have n2_ := A' (W' (qK2 HB.out GE403.out GE405.out) hb); clear BK403; clear BK405; clear HB; have BK403 := n0_; have BK405 := n1_; have HB := n2_; clear n0_ n1_ n2_; (try clear hb); (try clear hb2); (try clear hk); (try clear hi); refine hK.out _ _ ⟨(N' BK405.out 0).trans rfl, (N' BK405.out 1).trans rfl, (N' BK403.out 0).trans rfl, (N' BK403.out 1).trans rfl, (N' BK403.out 2).trans rfl⟩ (fun hHeld => ?_); clear hK K; refine norm_ (a' := ?_) ?_ ?_; rotate_left
          ·show Act.put _ (some 20) _ = _
           exact qP
          refine pure_ (i := 5) (N := some 21) (v := ?_) (a' := ?_) #[y', y', y', y', y', y', n'] rfl rfl (by kernel_rfl) (fun _ _ _ h => h) (Or.inl ⟨by rfl, ?_⟩) ?_ ?_; rotate_left
          ·exact qI
          rotate_left
          ·exact qP
          refine pure_ (i := 6) (N := some 15) (v := ?_) (a' := ?_) #[y', y', y', y', y', y', y'] rfl rfl (by kernel_rfl) (fun _ _ _ h => h) (Or.inl ⟨by rfl, ?_⟩) ?_ ?_; rotate_left
          ·exact qI
          rotate_left
          ·exact qP
          refine done_ (by kernel_rfl) ?_; try go_wp2
          have n0_ := A' (I' BK403.out); have n1_ := A' (I' BK405.out); have n2_ := A' (J' HB.out); clear BK403; clear BK405; clear HB; have BK403 := n0_; have BK405 := n1_; have HB := n2_; clear n0_ n1_ n2_; refine start_ (n := 10) (S := fun w' => w'.cell? ⟨gb405, 0, none⟩ = some (.int .i64 ((rd_T53 l1 x10_1).f0)) ∧ w'.cell? ⟨gb405, 1, none⟩ = some (.int .i64 ((rd_T53 l1 x10_1).f1)) ∧ w'.cell? ⟨gb403, 0, none⟩ = some (.int .i64 a0_0) ∧ w'.cell? ⟨gb403, 1, none⟩ = some (.int .i64 a0_1) ∧ w'.cell? ⟨gb403, 2, none⟩ = some (.bool a0_2)) (ds := []) #[n', n', n', n', n', n', n', n', n', n'] (by kernel_rfl) rfl rfl ⟨(N' BK405.out 0).trans rfl, (N' BK405.out 1).trans rfl, (N' BK403.out 0).trans rfl, (N' BK403.out 1).trans rfl, (N' BK403.out 2).trans rfl⟩ (fun hHeld => ?_); refine with_tabW impl_wayFault.tab6 impl_wayFault.bits6 (fun HT_ HW_ => ?_)
          generalize w21.drew = w22 at BK403 BK405 HB hHeld ⊢
          refine pure_ (i := 0) (N := some 24) (v := ?_) (a' := ?_) #[y', n', n', n', n', n', n', n', n', n'] rfl rfl (any_of HT_.out (by kernel_rfl)) (fun _ _ _ h => h) (Or.inl ⟨by rfl, ?_⟩) ?_ ?_; rotate_left
          ·exact qI
          rotate_left
          ·exact qP
          refine pure_ (i := 3) (N := some 27) (v := ?_) (a' := ?_) #[y', n', n', y', n', n', n', n', n', n'] rfl rfl (any_of HT_.out (by kernel_rfl)) (fun _ _ _ h => h) (Or.inl ⟨by rfl, ?_⟩) ?_ ?_; rotate_left
          ·exact qI
          rotate_left
          ·exact qP
          refine take_ (i := 1) (N := some 25) (v := ?_) (a' := ?_) #[y', y', n', y', n', n', n', n', n', n'] rfl rfl (take_ofW HT_.out HW_.out (by kernel_rfl)) (fun _ _ _ h => h) (Or.inl ⟨by rfl, ?_⟩) hHeld ?_ ?_; rotate_left
          ·rintro w' ⟨s0, s1, s2, s3, s4⟩; go_simp; with_reducible rfl
          rotate_left
          ·exact qP
          refine take_ (i := 2) (N := some 26) (v := ?_) (a' := ?_) #[y', y', y', y', n', n', n', n', n', n'] rfl rfl (take_ofW HT_.out HW_.out (by kernel_rfl)) (fun _ _ _ h => h) (Or.inl ⟨by rfl, ?_⟩) hHeld ?_ ?_; rotate_left
          ·rintro w' ⟨s0, s1, s2, s3, s4⟩; go_simp; with_reducible rfl
          rotate_left
          ·exact qP
          refine take_ (i := 4) (N := some 28) (v := ?_) (a' := ?_) #[y', y', y', y', y', n', n', n', n', n'] rfl rfl (take_ofW HT_.out HW_.out (by kernel_rfl)) (fun _ _ _ h => h) (Or.inl ⟨by rfl, ?_⟩) hHeld ?_ ?_; rotate_left
          ·rintro w' ⟨s0, s1, s2, s3, s4⟩; go_simp; with_reducible rfl
          rotate_left
          ·exact qP
          refine one_ (i := 5) (N := some 29) #[y', y', y', y', y', y', n', n', n', n'] rfl rfl (one_of HT_.out (by kernel_rfl)) (by decide) (fun K hK => ?_); refine goes_ Try.func54 (by kernel_rfl) rfl #[.agg #[.int .i64 a0_0, .int .i64 a0_1, .bool a0_2], .int .i64 ((rd_T53 l1 x10_1).f0)] (by rfl) rfl rfl (by (try simp only [List.map_toArray, List.map_cons, List.map_nil]); first | done | rfl | (simp only [List.length_drop, List.length_take]; rfl)) ?_
          with_reducible refine (impl_sheavesAt.calls a0_0 a0_1 a0_2 ((rd_T53 l1 x10_1).f0) t407 _ A9.out).mono ?_
          rintro e w23 ⟨rfl, hb⟩; refine ⟨_, rfl, ?_⟩; have n0_ := A' (O' (g := gb403) (qB BK403.out) hb); have n1_ := A' (O' (g := gb405) (qB BK405.out) hb); have n2_ := A' (W' (qK2 HB.out GE403.out GE405.out) hb); clear BK403; clear BK405; clear HB; have BK403 := n0_; have BK405 := n1_; have HB := n2_; clear n0_ n1_ n2_; (try clear hb); (try clear hb2); (try clear hk); (try clear hi); refine hK.out _ _ ⟨(N' BK405.out 0).trans rfl, (N' BK405.out 1).trans rfl, (N' BK403.out 0).trans rfl, (N' BK403.out 1).trans rfl, (N' BK403.out 2).trans rfl⟩ (fun hHeld => ?_); clear hK K; refine norm_ (a' := ?_) ?_ ?_; rotate_left
          ·show Act.put _ (some 29) _ = _
           exact qP
          refine pure_ (i := 6) (N := some 30) (v := ?_) (a' := ?_) #[y', y', y', y', y', y', y', n', n', n'] rfl rfl (any_of HT_.out (by kernel_rfl)) (fun _ _ _ h => h) (Or.inl ⟨by rfl, ?_⟩) ?_ ?_; rotate_left
          ·exact qI
          rotate_left
          ·exact qP
          refine one_ (i := 7) (N := some 31) #[y', y', y', y', y', y', y', y', n', n'] rfl rfl (one_of HT_.out (by kernel_rfl)) (by decide) (fun K hK => ?_); refine goes_ Try.func53 (by kernel_rfl) rfl #[.int .i64 ((rd_T53 l1 x10_1).f1), .int .i64 0, .int .i64 (wrap64 (t407 - 1))] (by rfl) rfl rfl (by (try simp only [List.map_toArray, List.map_cons, List.map_nil]); first | done | rfl | (simp only [List.length_drop, List.length_take]; rfl)) ?_
          with_reducible refine (impl_within.calls ((rd_T53 l1 x10_1).f1) 0 (wrap64 (t407 - 1)) true _ A10.out).mono ?_
          rintro e w' ⟨rfl, ⟨nd, rfl⟩⟩; refine ⟨_, rfl, ?_⟩; refine hK.out _ _ ⟨(N' BK405.out 0).trans rfl, (N' BK405.out 1).trans rfl, (N' BK403.out 0).trans rfl, (N' BK403.out 1).trans rfl, (N' BK403.out 2).trans rfl⟩ (fun hHeld => ?_); clear hK K; refine norm_ (a' := ?_) ?_ ?_; rotate_left
          ·show Act.put _ (some 31) _ = _
           exact qP
          refine pure_ (i := 8) (N := some 32) (v := ?_) (a' := ?_) #[y', y', y', y', y', y', y', y', y', n'] rfl rfl (any_of HT_.out (by kernel_rfl)) (fun _ _ _ h => h) (Or.inl ⟨by rfl, ?_⟩) ?_ ?_; rotate_left
          ·exact qI
          rotate_left
          ·exact qP
          refine pure_ (i := 9) (N := some 23) (v := ?_) (a' := ?_) #[y', y', y', y', y', y', y', y', y', y'] rfl rfl (any_of HT_.out (by kernel_rfl)) (fun _ _ _ h => h) (Or.inl ⟨by rfl, ?_⟩) ?_ ?_; rotate_left
          ·exact qI
          rotate_left
          ·exact qP
          refine done_ (done_of HT_.out (by kernel_rfl)) ?_; try go_wp2
          (try (rw [drewN_self w23]; generalize hq_ : World.drewN w23 _ = w23; have n0_ : Aside0 (w23.heap[gb403]? = some (.cells #[.int .i64 a0_0, .int .i64 a0_1, .bool a0_2] 26 (0, 0))) := ⟨by rw [← hq_]; exact (qB BK403.out)⟩; have n1_ : Aside0 (w23.heap[gb405]? = some (.cells #[.int .i64 ((rd_T53 l1 x10_1).f0), .int .i64 ((rd_T53 l1 x10_1).f1)] 53 (0, 0))) := ⟨by rw [← hq_]; exact (qB BK405.out)⟩; have n2_ : Aside0 (Below w.heap.size w w23) := ⟨by rw [← hq_]; exact (qK2 HB.out GE403.out GE405.out)⟩; clear BK403 BK405 HB hq_; have BK403 := n0_; have BK405 := n1_; have HB := n2_; clear n0_ n1_ n2_)); have n0_ := A' (I' BK403.out); have n1_ := A' (I' BK405.out); have n2_ := A' (J' HB.out); clear BK403; clear BK405; clear HB; have BK403 := n0_; have BK405 := n1_; have HB := n2_; clear n0_ n1_ n2_; have q25 : (x10_1 : Int) ≤ ((l1.length : Int) : Int) := oD' qA; obtain ⟨i025, hi025, _, hsz25, _⟩ := info_parts info53; have hroom25 : l1.length ≤ c1 := HC1.out; have hC25 : Kd.C k53 _ (some ad404) l1.length l1 := HR1.out; have hcut25 := cut_to (P := Try.prog) 29 53 .i64 Try.underlying29 hi025 (some ad404) l1.length c1 x10_1 (oD' qA) q25 hroom25; have hr25 := Kd.C_take (m := (x10_1 : Int).toNat) hC25 (by omega); have hy25 : y409.length = (x10_1 : Int).toNat := (by rw [Ny409.out, List.length_take]; omega)
          rw [← Ny409.out] at hr25; rw [← hy25] at hcut25; have HR412 := A' hr25; have HC412 := A' (show y409.length ≤ c1 from by omega); clear hr25 hC25 hroom25 hi025 hsz25; have KY25 := A' hy25; clear hy25; replace q25 := eq_true q25; refine start_ (n := 6) (S := fun w' => w'.cell? ⟨gb405, 0, none⟩ = some (.int .i64 ((rd_T53 l1 x10_1).f0)) ∧ w'.cell? ⟨gb405, 1, none⟩ = some (.int .i64 ((rd_T53 l1 x10_1).f1))) (ds := []) #[n', n', n', n', n', n'] (by kernel_rfl) rfl rfl ⟨(N' BK405.out 0).trans rfl, (N' BK405.out 1).trans rfl⟩ (fun hHeld => ?_)
          generalize w23.drew = w24 at BK403 BK405 HB HR412 hHeld ⊢
          refine pure_ (i := 0) (N := some 35) (v := ?_) (a' := ?_) #[y', n', n', n', n', n'] rfl rfl (by kernel_rfl) (fun _ _ _ h => h) (Or.inl ⟨by rfl, ?_⟩) ?_ ?_; rotate_left
          ·exact qI
          rotate_left
          ·exact qP
          refine pure_ (i := 1) (N := some 36) (v := ?_) (a' := ?_) #[y', y', n', n', n', n'] rfl rfl (by kernel_rfl) (fun _ _ _ h => h) (Or.inl ⟨by rfl, ?_⟩) ?_ ?_; rotate_left
          ·exact qI
          rotate_left
          ·exact qP
          refine pure_ (i := 2) (N := some 37) (v := ?_) (a' := ?_) #[y', y', y', n', n', n'] rfl rfl (by kernel_rfl) (fun _ _ _ h => h) (Or.inl ⟨by rfl, ?_⟩) ?_ ?_; rotate_left
          ·exact qI
          rotate_left
          ·exact qP
          refine take_ (i := 3) (N := some 38) (v := ?_) (a' := ?_) #[y', y', y', y', n', n'] rfl rfl (by kernel_rfl) (fun _ _ _ h => h) (Or.inl ⟨by rfl, ?_⟩) hHeld ?_ ?_; rotate_left
          ·rintro w' ⟨s0, s1⟩; go_simp; with_reducible rfl
          rotate_left
          ·exact qP
          refine one_ (i := 4) (N := some 39) #[y', y', y', y', y', n'] rfl rfl (by kernel_rfl) (by decide) (fun K hK => ?_); refine goes_ Try.func57 (by kernel_rfl) rfl #[.slice (some ad404) y409.length c1, .agg #[.int .i64 ((rd_T53 l1 x10_1).f0), .int .i64 ((rd_T53 l1 x10_1).f1)]] (by rfl) rfl rfl (by (try simp only [List.map_toArray, List.map_cons, List.map_nil]); first | done | rfl | (simp only [List.length_drop, List.length_take]; rfl)) ?_
          with_reducible refine (impl_Stop_57.calls k1 _ _ y409 ((rd_T53 l1 x10_1).f0) ((rd_T53 l1 x10_1).f1) true _ ?side1 ?side2 A14.out).mono ?_
          (case side1 => exact qT (X' HR412.out HB.out)); (case side2 => exact HC412.out); rintro e w26 ⟨rfl, hb⟩; refine ⟨_, rfl, ?_⟩; have n0_ := A' (O' (g := gb403) (qB BK403.out) hb); have n1_ := A' (O' (g := gb405) (qB BK405.out) hb); have n2_ := A' (W' (qK2 HB.out GE403.out GE405.out) hb); clear BK403; clear BK405; clear HB; have BK403 := n0_; have BK405 := n1_; have HB := n2_; clear n0_ n1_ n2_; (try clear hb); (try clear hb2); (try clear hk); (try clear hi); refine hK.out _ _ ⟨(N' BK405.out 0).trans rfl, (N' BK405.out 1).trans rfl⟩ (fun hHeld => ?_); clear hK K; refine norm_ (a' := ?_) ?_ ?_; rotate_left
          ·show Act.put _ (some 39) _ = _
           exact qP
          refine pure_ (i := 5) (N := some 34) (v := ?_) (a' := ?_) #[y', y', y', y', y', y'] rfl rfl (by kernel_rfl) (fun _ _ _ h => h) (Or.inl ⟨by rfl, ?_⟩) ?_ ?_; rotate_left
          ·exact qI
          rotate_left
          ·exact qP
          refine done_ (by kernel_rfl) ?_; try go_wp2
          go_ret2; exact ⟨qE, qK2 HB.out GE403.out GE405.out⟩
         ·replace c15 := Bool.eq_false_iff.mpr c15; subst c15; have H1 : (impl_wayFault.l0 k1 l1 l1 (l1.length : Int) (wrap64 (x10_1 + 1)) a0_0 a0_1 a0_2) = some (r1, r2) := by rw [if_neg (show ¬ (false = true) by decide)] at H; exact H
          clear H; have H := H1; clear H1; have H' := A' H; clear H; have p404 : 0 ≤ (x10_1 : Int) := oD' qA; have q404 : x10_1 < (l1.length : Int) := oD' qA; obtain ⟨ad404, e404, hx404_0, hx404_1⟩ := at_T53 HR1.out x10_1 p404 q404
          cases e404
          try replace hx404_0 := qC HB.out hx404_0
          try replace hx404_1 := qC HB.out hx404_1
          replace p404 := eq_true p404; replace q404 := eq_true q404; try go_wp2_with (first | ((with_reducible refine gate_dst (N := 7) rfl ?_); refine box_event ?hg (N := 7) ?hd (cs := #[.int .i64 0, .int .i64 0]) (t := 53) ?hr ?_; (case hd => rfl); (case hg => rfl); (case hr => first | (go_simp; done) | (go_simp; rfl)); intro gb405 hg w27 hbox hb; have n0_ := A' (O' (g := gb403) (qB BK403.out) hb); have n1_ := A' (W' (qK1 HB.out GE403.out) hb); have n2_ := A' (hbox); have n3_ := A' ((by rw [hg]; exact (V' (qK1 HB.out GE403.out)) : w.heap.size ≤ gb405)); have n4_ := A' ((by rw [hg]; exact (V' (qK1 HB.out GE403.out)) : w.heap.size ≤ gb405)); have n5_ := A' ((by rw [hg]; exact Nat.ne_of_lt (bL' (g := gb403) (qB BK403.out)) : gb403 ≠ gb405)); have n6_ := A' ((by rw [hg]; exact Nat.ne_of_gt (bL' (g := gb403) (qB BK403.out)) : gb405 ≠ gb403)); clear BK403; clear HB; have BK403 := n0_; have HB := n1_; have BK405 := n2_; have GW405 := n3_; have GE405 := n4_; have NB403_405 := n5_; have NB405_403 := n6_; clear n0_ n1_ n2_ n3_ n4_ n5_ n6_; clear hb hbox hg; have hnb28 := NB405_403.out; have hnc28 := NB403_405.out; have hcz29_0 : w27.cell? ⟨gb405, 0, none⟩ = some (.int .i64 0) := (N' BK405.out 0).trans rfl; have hcz29_1 : w27.cell? ⟨gb405, 1, none⟩ = some (.int .i64 0) := (N' BK405.out 1).trans rfl; have hfz29_0 := Y' BK405.out 0; have hfz29_1 := Y' BK405.out 1))
          have n0_ : Aside0 (((w27.setCell ⟨gb405, 0, none⟩ (.int .i64 ((rd_T53 l1 x10_1).f0))).setCell ⟨gb405, 1, none⟩ (.int .i64 ((rd_T53 l1 x10_1).f1))).heap[gb403]? = some (.cells #[.int .i64 a0_0, .int .i64 a0_1, .bool a0_2] 26 (0, 0))) := ⟨qG2 BK403.out NB403_405.out NB403_405.out⟩
          have n1_ : Aside0 (((w27.setCell ⟨gb405, 0, none⟩ (.int .i64 ((rd_T53 l1 x10_1).f0))).setCell ⟨gb405, 1, none⟩ (.int .i64 ((rd_T53 l1 x10_1).f1))).heap[gb405]? = some (.cells #[.int .i64 ((rd_T53 l1 x10_1).f0), .int .i64 ((rd_T53 l1 x10_1).f1)] 53 (0, 0))) := ⟨by (with_reducible repeat (first | refine G' ?_ _ | refine I' ?_ | refine H' ?_ _)); refine blk_put (cs := #[.int .i64 ((rd_T53 l1 x10_1).f0), .int .i64 0]) ?_ 1 _ rfl; (with_reducible repeat (first | refine G' ?_ _ | refine I' ?_ | refine H' ?_ _)); refine blk_put (cs := #[.int .i64 0, .int .i64 0]) ?_ 0 _ rfl; (with_reducible repeat (first | refine G' ?_ _ | refine I' ?_ | refine H' ?_ _)); exact BK405.out⟩
          have n2_ : Aside0 (Below w.heap.size w ((w27.setCell ⟨gb405, 0, none⟩ (.int .i64 ((rd_T53 l1 x10_1).f0))).setCell ⟨gb405, 1, none⟩ (.int .i64 ((rd_T53 l1 x10_1).f1)))) := ⟨qK2 HB.out GE403.out GE405.out⟩
          (try clear BK403); (try clear BK405); (try clear HB)
          generalize ((w27.setCell ⟨gb405, 0, none⟩ (.int .i64 ((rd_T53 l1 x10_1).f0))).setCell ⟨gb405, 1, none⟩ (.int .i64 ((rd_T53 l1 x10_1).f1))) = w30 at n0_ n1_ n2_ ⊢
          have BK403 := n0_; have BK405 := n1_; have HB := n2_; clear n0_ n1_ n2_; have n0_ := A' (I' BK403.out); have n1_ := A' (I' BK405.out); have n2_ := A' (J' HB.out); clear BK403; clear BK405; clear HB; have BK403 := n0_; have BK405 := n1_; have HB := n2_; clear n0_ n1_ n2_; refine start_ (n := 7) (S := fun w' => w'.cell? ⟨gb405, 0, none⟩ = some (.int .i64 ((rd_T53 l1 x10_1).f0)) ∧ w'.cell? ⟨gb405, 1, none⟩ = some (.int .i64 ((rd_T53 l1 x10_1).f1)) ∧ w'.cell? ⟨gb403, 0, none⟩ = some (.int .i64 a0_0) ∧ w'.cell? ⟨gb403, 1, none⟩ = some (.int .i64 a0_1) ∧ w'.cell? ⟨gb403, 2, none⟩ = some (.bool a0_2)) (ds := []) #[n', n', n', n', n', n', n'] (by kernel_rfl) rfl rfl ⟨(N' BK405.out 0).trans rfl, (N' BK405.out 1).trans rfl, (N' BK403.out 0).trans rfl, (N' BK403.out 1).trans rfl, (N' BK403.out 2).trans rfl⟩ (fun hHeld => ?_)
          generalize w30.drew = w31 at BK403 BK405 HB hHeld ⊢
          refine pure_ (i := 0) (N := some 16) (v := ?_) (a' := ?_) #[y', n', n', n', n', n', n'] rfl rfl (by kernel_rfl) (fun _ _ _ h => h) (Or.inl ⟨by rfl, ?_⟩) ?_ ?_; rotate_left
          ·exact qI
          rotate_left
          ·exact qP
          refine pure_ (i := 3) (N := some 19) (v := ?_) (a' := ?_) #[y', n', n', y', n', n', n'] rfl rfl (by kernel_rfl) (fun _ _ _ h => h) (Or.inl ⟨by rfl, ?_⟩) ?_ ?_; rotate_left
          ·exact qI
          rotate_left
          ·exact qP
          refine take_ (i := 1) (N := some 17) (v := ?_) (a' := ?_) #[y', y', n', y', n', n', n'] rfl rfl (by kernel_rfl) (fun _ _ _ h => h) (Or.inl ⟨by rfl, ?_⟩) hHeld ?_ ?_; rotate_left
          ·rintro w' ⟨s0, s1, s2, s3, s4⟩; go_simp; with_reducible rfl
          rotate_left
          ·exact qP
          refine take_ (i := 2) (N := some 18) (v := ?_) (a' := ?_) #[y', y', y', y', n', n', n'] rfl rfl (by kernel_rfl) (fun _ _ _ h => h) (Or.inl ⟨by rfl, ?_⟩) hHeld ?_ ?_; rotate_left
          ·rintro w' ⟨s0, s1, s2, s3, s4⟩; go_simp; with_reducible rfl
          rotate_left
          ·exact qP
          refine one_ (i := 4) (N := some 20) #[y', y', y', y', y', n', n'] rfl rfl (by kernel_rfl) (by decide) (fun K hK => ?_); refine goes_ Try.func55 (by kernel_rfl) rfl #[.agg #[.int .i64 a0_0, .int .i64 a0_1, .bool a0_2], .int .i64 x10_1] (by rfl) rfl rfl (by (try simp only [List.map_toArray, List.map_cons, List.map_nil]); first | done | rfl | (simp only [List.length_drop, List.length_take]; rfl)) ?_
          with_reducible refine (impl_blockAt.calls a0_0 a0_1 a0_2 x10_1 t406 _ A7.out).mono ?_
          rintro e w32 ⟨rfl, hb⟩; refine ⟨_, rfl, ?_⟩; have n0_ := A' (O' (g := gb403) (qB BK403.out) hb); have n1_ := A' (O' (g := gb405) (qB BK405.out) hb); have n2_ := A' (W' (qK2 HB.out GE403.out GE405.out) hb); clear BK403; clear BK405; clear HB; have BK403 := n0_; have BK405 := n1_; have HB := n2_; clear n0_ n1_ n2_; (try clear hb); (try clear hb2); (try clear hk); (try clear hi); refine hK.out _ _ ⟨(N' BK405.out 0).trans rfl, (N' BK405.out 1).trans rfl, (N' BK403.out 0).trans rfl, (N' BK403.out 1).trans rfl, (N' BK403.out 2).trans rfl⟩ (fun hHeld => ?_); clear hK K; refine norm_ (a' := ?_) ?_ ?_; rotate_left
          ·show Act.put _ (some 20) _ = _
           exact qP
          refine pure_ (i := 5) (N := some 21) (v := ?_) (a' := ?_) #[y', y', y', y', y', y', n'] rfl rfl (by kernel_rfl) (fun _ _ _ h => h) (Or.inl ⟨by rfl, ?_⟩) ?_ ?_; rotate_left
          ·exact qI
          rotate_left
          ·exact qP
          refine pure_ (i := 6) (N := some 15) (v := ?_) (a' := ?_) #[y', y', y', y', y', y', y'] rfl rfl (by kernel_rfl) (fun _ _ _ h => h) (Or.inl ⟨by rfl, ?_⟩) ?_ ?_; rotate_left
          ·exact qI
          rotate_left
          ·exact qP
          refine done_ (by kernel_rfl) ?_; try go_wp2
          have n0_ := A' (I' BK403.out); have n1_ := A' (I' BK405.out); have n2_ := A' (J' HB.out); clear BK403; clear BK405; clear HB; have BK403 := n0_; have BK405 := n1_; have HB := n2_; clear n0_ n1_ n2_; refine start_ (n := 10) (S := fun w' => w'.cell? ⟨gb405, 0, none⟩ = some (.int .i64 ((rd_T53 l1 x10_1).f0)) ∧ w'.cell? ⟨gb405, 1, none⟩ = some (.int .i64 ((rd_T53 l1 x10_1).f1)) ∧ w'.cell? ⟨gb403, 0, none⟩ = some (.int .i64 a0_0) ∧ w'.cell? ⟨gb403, 1, none⟩ = some (.int .i64 a0_1) ∧ w'.cell? ⟨gb403, 2, none⟩ = some (.bool a0_2)) (ds := []) #[n', n', n', n', n', n', n', n', n', n'] (by kernel_rfl) rfl rfl ⟨(N' BK405.out 0).trans rfl, (N' BK405.out 1).trans rfl, (N' BK403.out 0).trans rfl, (N' BK403.out 1).trans rfl, (N' BK403.out 2).trans rfl⟩ (fun hHeld => ?_); refine with_tabW impl_wayFault.tab6 impl_wayFault.bits6 (fun HT_ HW_ => ?_)
          generalize w32.drew = w33 at BK403 BK405 HB hHeld ⊢
          refine pure_ (i := 0) (N := some 24) (v := ?_) (a' := ?_) #[y', n', n', n', n', n', n', n', n', n'] rfl rfl (any_of HT_.out (by kernel_rfl)) (fun _ _ _ h => h) (Or.inl ⟨by rfl, ?_⟩) ?_ ?_; rotate_left
          ·exact qI
          rotate_left
          ·exact qP
          refine pure_ (i := 3) (N := some 27) (v := ?_) (a' := ?_) #[y', n', n', y', n', n', n', n', n', n'] rfl rfl (any_of HT_.out (by kernel_rfl)) (fun _ _ _ h => h) (Or.inl ⟨by rfl, ?_⟩) ?_ ?_; rotate_left
          ·exact qI
          rotate_left
          ·exact qP
          refine take_ (i := 1) (N := some 25) (v := ?_) (a' := ?_) #[y', y', n', y', n', n', n', n', n', n'] rfl rfl (take_ofW HT_.out HW_.out (by kernel_rfl)) (fun _ _ _ h => h) (Or.inl ⟨by rfl, ?_⟩) hHeld ?_ ?_; rotate_left
          ·rintro w' ⟨s0, s1, s2, s3, s4⟩; go_simp; with_reducible rfl
          rotate_left
          ·exact qP
          refine take_ (i := 2) (N := some 26) (v := ?_) (a' := ?_) #[y', y', y', y', n', n', n', n', n', n'] rfl rfl (take_ofW HT_.out HW_.out (by kernel_rfl)) (fun _ _ _ h => h) (Or.inl ⟨by rfl, ?_⟩) hHeld ?_ ?_; rotate_left
          ·rintro w' ⟨s0, s1, s2, s3, s4⟩; go_simp; with_reducible rfl
          rotate_left
          ·exact qP
          refine take_ (i := 4) (N := some 28) (v := ?_) (a' := ?_) #[y', y', y', y', y', n', n', n', n', n'] rfl rfl (take_ofW HT_.out HW_.out (by kernel_rfl)) (fun _ _ _ h => h) (Or.inl ⟨by rfl, ?_⟩) hHeld ?_ ?_; rotate_left
          ·rintro w' ⟨s0, s1, s2, s3, s4⟩; go_simp; with_reducible rfl
          rotate_left
          ·exact qP
          refine one_ (i := 5) (N := some 29) #[y', y', y', y', y', y', n', n', n', n'] rfl rfl (one_of HT_.out (by kernel_rfl)) (by decide) (fun K hK => ?_); refine goes_ Try.func54 (by kernel_rfl) rfl #[.agg #[.int .i64 a0_0, .int .i64 a0_1, .bool a0_2], .int .i64 ((rd_T53 l1 x10_1).f0)] (by rfl) rfl rfl (by (try simp only [List.map_toArray, List.map_cons, List.map_nil]); first | done | rfl | (simp only [List.length_drop, List.length_take]; rfl)) ?_
          with_reducible refine (impl_sheavesAt.calls a0_0 a0_1 a0_2 ((rd_T53 l1 x10_1).f0) t407 _ A9.out).mono ?_
          rintro e w34 ⟨rfl, hb⟩; refine ⟨_, rfl, ?_⟩; have n0_ := A' (O' (g := gb403) (qB BK403.out) hb); have n1_ := A' (O' (g := gb405) (qB BK405.out) hb); have n2_ := A' (W' (qK2 HB.out GE403.out GE405.out) hb); clear BK403; clear BK405; clear HB; have BK403 := n0_; have BK405 := n1_; have HB := n2_; clear n0_ n1_ n2_; (try clear hb); (try clear hb2); (try clear hk); (try clear hi); refine hK.out _ _ ⟨(N' BK405.out 0).trans rfl, (N' BK405.out 1).trans rfl, (N' BK403.out 0).trans rfl, (N' BK403.out 1).trans rfl, (N' BK403.out 2).trans rfl⟩ (fun hHeld => ?_); clear hK K; refine norm_ (a' := ?_) ?_ ?_; rotate_left
          ·show Act.put _ (some 29) _ = _
           exact qP
          refine pure_ (i := 6) (N := some 30) (v := ?_) (a' := ?_) #[y', y', y', y', y', y', y', n', n', n'] rfl rfl (any_of HT_.out (by kernel_rfl)) (fun _ _ _ h => h) (Or.inl ⟨by rfl, ?_⟩) ?_ ?_; rotate_left
          ·exact qI
          rotate_left
          ·exact qP
          refine one_ (i := 7) (N := some 31) #[y', y', y', y', y', y', y', y', n', n'] rfl rfl (one_of HT_.out (by kernel_rfl)) (by decide) (fun K hK => ?_); refine goes_ Try.func53 (by kernel_rfl) rfl #[.int .i64 ((rd_T53 l1 x10_1).f1), .int .i64 0, .int .i64 (wrap64 (t407 - 1))] (by rfl) rfl rfl (by (try simp only [List.map_toArray, List.map_cons, List.map_nil]); first | done | rfl | (simp only [List.length_drop, List.length_take]; rfl)) ?_
          with_reducible refine (impl_within.calls ((rd_T53 l1 x10_1).f1) 0 (wrap64 (t407 - 1)) true _ A10.out).mono ?_
          rintro e w' ⟨rfl, ⟨nd, rfl⟩⟩; refine ⟨_, rfl, ?_⟩; refine hK.out _ _ ⟨(N' BK405.out 0).trans rfl, (N' BK405.out 1).trans rfl, (N' BK403.out 0).trans rfl, (N' BK403.out 1).trans rfl, (N' BK403.out 2).trans rfl⟩ (fun hHeld => ?_); clear hK K; refine norm_ (a' := ?_) ?_ ?_; rotate_left
          ·show Act.put _ (some 31) _ = _
           exact qP
          refine pure_ (i := 8) (N := some 32) (v := ?_) (a' := ?_) #[y', y', y', y', y', y', y', y', y', n'] rfl rfl (any_of HT_.out (by kernel_rfl)) (fun _ _ _ h => h) (Or.inl ⟨by rfl, ?_⟩) ?_ ?_; rotate_left
          ·exact qI
          rotate_left
          ·exact qP
          refine pure_ (i := 9) (N := some 23) (v := ?_) (a' := ?_) #[y', y', y', y', y', y', y', y', y', y'] rfl rfl (any_of HT_.out (by kernel_rfl)) (fun _ _ _ h => h) (Or.inl ⟨by rfl, ?_⟩) ?_ ?_; rotate_left
          ·exact qI
          rotate_left
          ·exact qP
          refine done_ (done_of HT_.out (by kernel_rfl)) ?_; try go_wp2
          (try (rw [drewN_self w34]; generalize hq_ : World.drewN w34 _ = w34; have n0_ : Aside0 (w34.heap[gb403]? = some (.cells #[.int .i64 a0_0, .int .i64 a0_1, .bool a0_2] 26 (0, 0))) := ⟨by rw [← hq_]; exact (qB BK403.out)⟩; have n1_ : Aside0 (w34.heap[gb405]? = some (.cells #[.int .i64 ((rd_T53 l1 x10_1).f0), .int .i64 ((rd_T53 l1 x10_1).f1)] 53 (0, 0))) := ⟨by rw [← hq_]; exact (qB BK405.out)⟩; have n2_ : Aside0 (Below w.heap.size w w34) := ⟨by rw [← hq_]; exact (qK2 HB.out GE403.out GE405.out)⟩; clear BK403 BK405 HB hq_; have BK403 := n0_; have BK405 := n1_; have HB := n2_; clear n0_ n1_ n2_)); have n0_ := A' (I' BK403.out); have n1_ := A' (I' BK405.out); have n2_ := A' (J' HB.out); clear BK403; clear BK405; clear HB; have BK403 := n0_; have BK405 := n1_; have HB := n2_; clear n0_ n1_ n2_; have q36 : (x10_1 : Int) ≤ ((l1.length : Int) : Int) := oD' qA; obtain ⟨i036, hi036, _, hsz36, _⟩ := info_parts info53; have hroom36 : l1.length ≤ c1 := HC1.out; have hC36 : Kd.C k53 _ (some ad404) l1.length l1 := HR1.out; have hcut36 := cut_to (P := Try.prog) 29 53 .i64 Try.underlying29 hi036 (some ad404) l1.length c1 x10_1 (oD' qA) q36 hroom36; have hr36 := Kd.C_take (m := (x10_1 : Int).toNat) hC36 (by omega); have hy36 : y409.length = (x10_1 : Int).toNat := (by rw [Ny409.out, List.length_take]; omega)
          rw [← Ny409.out] at hr36; rw [← hy36] at hcut36; have HR412 := A' hr36; have HC412 := A' (show y409.length ≤ c1 from by omega); clear hr36 hC36 hroom36 hi036 hsz36; have KY36 := A' hy36; clear hy36; replace q36 := eq_true q36; refine start_ (n := 6) (S := fun w' => w'.cell? ⟨gb405, 0, none⟩ = some (.int .i64 ((rd_T53 l1 x10_1).f0)) ∧ w'.cell? ⟨gb405, 1, none⟩ = some (.int .i64 ((rd_T53 l1 x10_1).f1))) (ds := []) #[n', n', n', n', n', n'] (by kernel_rfl) rfl rfl ⟨(N' BK405.out 0).trans rfl, (N' BK405.out 1).trans rfl⟩ (fun hHeld => ?_)
          generalize w34.drew = w35 at BK403 BK405 HB HR412 hHeld ⊢
          refine pure_ (i := 0) (N := some 35) (v := ?_) (a' := ?_) #[y', n', n', n', n', n'] rfl rfl (by kernel_rfl) (fun _ _ _ h => h) (Or.inl ⟨by rfl, ?_⟩) ?_ ?_; rotate_left
          ·exact qI
          rotate_left
          ·exact qP
          refine pure_ (i := 1) (N := some 36) (v := ?_) (a' := ?_) #[y', y', n', n', n', n'] rfl rfl (by kernel_rfl) (fun _ _ _ h => h) (Or.inl ⟨by rfl, ?_⟩) ?_ ?_; rotate_left
          ·exact qI
          rotate_left
          ·exact qP
          refine pure_ (i := 2) (N := some 37) (v := ?_) (a' := ?_) #[y', y', y', n', n', n'] rfl rfl (by kernel_rfl) (fun _ _ _ h => h) (Or.inl ⟨by rfl, ?_⟩) ?_ ?_; rotate_left
          ·exact qI
          rotate_left
          ·exact qP
          refine take_ (i := 3) (N := some 38) (v := ?_) (a' := ?_) #[y', y', y', y', n', n'] rfl rfl (by kernel_rfl) (fun _ _ _ h => h) (Or.inl ⟨by rfl, ?_⟩) hHeld ?_ ?_; rotate_left
          ·rintro w' ⟨s0, s1⟩; go_simp; with_reducible rfl
          rotate_left
          ·exact qP
          refine one_ (i := 4) (N := some 39) #[y', y', y', y', y', n'] rfl rfl (by kernel_rfl) (by decide) (fun K hK => ?_); refine goes_ Try.func57 (by kernel_rfl) rfl #[.slice (some ad404) y409.length c1, .agg #[.int .i64 ((rd_T53 l1 x10_1).f0), .int .i64 ((rd_T53 l1 x10_1).f1)]] (by rfl) rfl rfl (by (try simp only [List.map_toArray, List.map_cons, List.map_nil]); first | done | rfl | (simp only [List.length_drop, List.length_take]; rfl)) ?_
          with_reducible refine (impl_Stop_57.calls k1 _ _ y409 ((rd_T53 l1 x10_1).f0) ((rd_T53 l1 x10_1).f1) false _ ?side1 ?side2 A14.out).mono ?_
          (case side1 => exact qT (X' HR412.out HB.out)); (case side2 => exact HC412.out); rintro e w37 ⟨rfl, hb⟩; refine ⟨_, rfl, ?_⟩; have n0_ := A' (O' (g := gb403) (qB BK403.out) hb); have n1_ := A' (O' (g := gb405) (qB BK405.out) hb); have n2_ := A' (W' (qK2 HB.out GE403.out GE405.out) hb); clear BK403; clear BK405; clear HB; have BK403 := n0_; have BK405 := n1_; have HB := n2_; clear n0_ n1_ n2_; (try clear hb); (try clear hb2); (try clear hk); (try clear hi); refine hK.out _ _ ⟨(N' BK405.out 0).trans rfl, (N' BK405.out 1).trans rfl⟩ (fun hHeld => ?_); clear hK K; refine norm_ (a' := ?_) ?_ ?_; rotate_left
          ·show Act.put _ (some 39) _ = _
           exact qP
          refine pure_ (i := 5) (N := some 34) (v := ?_) (a' := ?_) #[y', y', y', y', y', y'] rfl rfl (by kernel_rfl) (fun _ _ _ h => h) (Or.inl ⟨by rfl, ?_⟩) ?_ ?_; rotate_left
          ·exact qI
          rotate_left
          ·exact qP
          refine done_ (by kernel_rfl) ?_; try go_wp2
          go_roundg k1
          case measure => have := HK1.out; omega
          case rel => exact ⟨(wrap64 (x10_1 + 1)), qS, H', ⟨by have := HK1.out; omega⟩, ⟨qB BK403.out⟩, ⟨qK2 HB.out GE403.out GE405.out⟩⟩
        ·rw [if_neg c13] at H; exact absurd H (by simp)
       ·replace c11 := Bool.eq_false_iff.mpr c11; subst c11; have H1 : (some ((⟨#[115, 104, 101, 97, 118, 101]⟩ : ByteArray), x10_1)) = some (r1, r2) := by rw [if_neg (show ¬ (false = true) by decide)] at H; exact H
        clear H; have H := H1; clear H1; simp only [Option.some.injEq, Prod.mk.injEq] at H; obtain ⟨rfl, rfl⟩ := H; have p404 : 0 ≤ (x10_1 : Int) := oD' qA; have q404 : x10_1 < (l1.length : Int) := oD' qA; obtain ⟨ad404, e404, hx404_0, hx404_1⟩ := at_T53 HR1.out x10_1 p404 q404
        cases e404
        try replace hx404_0 := qC HB.out hx404_0
        try replace hx404_1 := qC HB.out hx404_1
        replace p404 := eq_true p404; replace q404 := eq_true q404; try go_wp2_with (first | ((with_reducible refine gate_dst (N := 7) rfl ?_); refine box_event ?hg (N := 7) ?hd (cs := #[.int .i64 0, .int .i64 0]) (t := 53) ?hr ?_; (case hd => rfl); (case hg => rfl); (case hr => first | (go_simp; done) | (go_simp; rfl)); intro gb405 hg w38 hbox hb; have n0_ := A' (O' (g := gb403) (qB BK403.out) hb); have n1_ := A' (W' (qK1 HB.out GE403.out) hb); have n2_ := A' (hbox); have n3_ := A' ((by rw [hg]; exact (V' (qK1 HB.out GE403.out)) : w.heap.size ≤ gb405)); have n4_ := A' ((by rw [hg]; exact (V' (qK1 HB.out GE403.out)) : w.heap.size ≤ gb405)); have n5_ := A' ((by rw [hg]; exact Nat.ne_of_lt (bL' (g := gb403) (qB BK403.out)) : gb403 ≠ gb405)); have n6_ := A' ((by rw [hg]; exact Nat.ne_of_gt (bL' (g := gb403) (qB BK403.out)) : gb405 ≠ gb403)); clear BK403; clear HB; have BK403 := n0_; have HB := n1_; have BK405 := n2_; have GW405 := n3_; have GE405 := n4_; have NB403_405 := n5_; have NB405_403 := n6_; clear n0_ n1_ n2_ n3_ n4_ n5_ n6_; clear hb hbox hg; have hnb39 := NB405_403.out; have hnc39 := NB403_405.out; have hcz40_0 : w38.cell? ⟨gb405, 0, none⟩ = some (.int .i64 0) := (N' BK405.out 0).trans rfl; have hcz40_1 : w38.cell? ⟨gb405, 1, none⟩ = some (.int .i64 0) := (N' BK405.out 1).trans rfl; have hfz40_0 := Y' BK405.out 0; have hfz40_1 := Y' BK405.out 1))
        have n0_ : Aside0 (((w38.setCell ⟨gb405, 0, none⟩ (.int .i64 ((rd_T53 l1 x10_1).f0))).setCell ⟨gb405, 1, none⟩ (.int .i64 ((rd_T53 l1 x10_1).f1))).heap[gb403]? = some (.cells #[.int .i64 a0_0, .int .i64 a0_1, .bool a0_2] 26 (0, 0))) := ⟨qG2 BK403.out NB403_405.out NB403_405.out⟩
        have n1_ : Aside0 (((w38.setCell ⟨gb405, 0, none⟩ (.int .i64 ((rd_T53 l1 x10_1).f0))).setCell ⟨gb405, 1, none⟩ (.int .i64 ((rd_T53 l1 x10_1).f1))).heap[gb405]? = some (.cells #[.int .i64 ((rd_T53 l1 x10_1).f0), .int .i64 ((rd_T53 l1 x10_1).f1)] 53 (0, 0))) := ⟨by (with_reducible repeat (first | refine G' ?_ _ | refine I' ?_ | refine H' ?_ _)); refine blk_put (cs := #[.int .i64 ((rd_T53 l1 x10_1).f0), .int .i64 0]) ?_ 1 _ rfl; (with_reducible repeat (first | refine G' ?_ _ | refine I' ?_ | refine H' ?_ _)); refine blk_put (cs := #[.int .i64 0, .int .i64 0]) ?_ 0 _ rfl; (with_reducible repeat (first | refine G' ?_ _ | refine I' ?_ | refine H' ?_ _)); exact BK405.out⟩
        have n2_ : Aside0 (Below w.heap.size w ((w38.setCell ⟨gb405, 0, none⟩ (.int .i64 ((rd_T53 l1 x10_1).f0))).setCell ⟨gb405, 1, none⟩ (.int .i64 ((rd_T53 l1 x10_1).f1)))) := ⟨qK2 HB.out GE403.out GE405.out⟩
        (try clear BK403); (try clear BK405); (try clear HB)
        generalize ((w38.setCell ⟨gb405, 0, none⟩ (.int .i64 ((rd_T53 l1 x10_1).f0))).setCell ⟨gb405, 1, none⟩ (.int .i64 ((rd_T53 l1 x10_1).f1))) = w41 at n0_ n1_ n2_ ⊢
        have BK403 := n0_; have BK405 := n1_; have HB := n2_; clear n0_ n1_ n2_; have n0_ := A' (I' BK403.out); have n1_ := A' (I' BK405.out); have n2_ := A' (J' HB.out); clear BK403; clear BK405; clear HB; have BK403 := n0_; have BK405 := n1_; have HB := n2_; clear n0_ n1_ n2_; refine start_ (n := 7) (S := fun w' => w'.cell? ⟨gb405, 0, none⟩ = some (.int .i64 ((rd_T53 l1 x10_1).f0)) ∧ w'.cell? ⟨gb405, 1, none⟩ = some (.int .i64 ((rd_T53 l1 x10_1).f1)) ∧ w'.cell? ⟨gb403, 0, none⟩ = some (.int .i64 a0_0) ∧ w'.cell? ⟨gb403, 1, none⟩ = some (.int .i64 a0_1) ∧ w'.cell? ⟨gb403, 2, none⟩ = some (.bool a0_2)) (ds := []) #[n', n', n', n', n', n', n'] (by kernel_rfl) rfl rfl ⟨(N' BK405.out 0).trans rfl, (N' BK405.out 1).trans rfl, (N' BK403.out 0).trans rfl, (N' BK403.out 1).trans rfl, (N' BK403.out 2).trans rfl⟩ (fun hHeld => ?_)
        generalize w41.drew = w42 at BK403 BK405 HB hHeld ⊢
        refine pure_ (i := 0) (N := some 16) (v := ?_) (a' := ?_) #[y', n', n', n', n', n', n'] rfl rfl (by kernel_rfl) (fun _ _ _ h => h) (Or.inl ⟨by rfl, ?_⟩) ?_ ?_; rotate_left
        ·exact qI
        rotate_left
        ·exact qP
        refine pure_ (i := 3) (N := some 19) (v := ?_) (a' := ?_) #[y', n', n', y', n', n', n'] rfl rfl (by kernel_rfl) (fun _ _ _ h => h) (Or.inl ⟨by rfl, ?_⟩) ?_ ?_; rotate_left
        ·exact qI
        rotate_left
        ·exact qP
        refine take_ (i := 1) (N := some 17) (v := ?_) (a' := ?_) #[y', y', n', y', n', n', n'] rfl rfl (by kernel_rfl) (fun _ _ _ h => h) (Or.inl ⟨by rfl, ?_⟩) hHeld ?_ ?_; rotate_left
        ·rintro w' ⟨s0, s1, s2, s3, s4⟩; go_simp; with_reducible rfl
        rotate_left
        ·exact qP
        refine take_ (i := 2) (N := some 18) (v := ?_) (a' := ?_) #[y', y', y', y', n', n', n'] rfl rfl (by kernel_rfl) (fun _ _ _ h => h) (Or.inl ⟨by rfl, ?_⟩) hHeld ?_ ?_; rotate_left
        ·rintro w' ⟨s0, s1, s2, s3, s4⟩; go_simp; with_reducible rfl
        rotate_left
        ·exact qP
        refine one_ (i := 4) (N := some 20) #[y', y', y', y', y', n', n'] rfl rfl (by kernel_rfl) (by decide) (fun K hK => ?_); refine goes_ Try.func55 (by kernel_rfl) rfl #[.agg #[.int .i64 a0_0, .int .i64 a0_1, .bool a0_2], .int .i64 x10_1] (by rfl) rfl rfl (by (try simp only [List.map_toArray, List.map_cons, List.map_nil]); first | done | rfl | (simp only [List.length_drop, List.length_take]; rfl)) ?_
        with_reducible refine (impl_blockAt.calls a0_0 a0_1 a0_2 x10_1 t406 _ A7.out).mono ?_
        rintro e w43 ⟨rfl, hb⟩; refine ⟨_, rfl, ?_⟩; have n0_ := A' (O' (g := gb403) (qB BK403.out) hb); have n1_ := A' (O' (g := gb405) (qB BK405.out) hb); have n2_ := A' (W' (qK2 HB.out GE403.out GE405.out) hb); clear BK403; clear BK405; clear HB; have BK403 := n0_; have BK405 := n1_; have HB := n2_; clear n0_ n1_ n2_; (try clear hb); (try clear hb2); (try clear hk); (try clear hi); refine hK.out _ _ ⟨(N' BK405.out 0).trans rfl, (N' BK405.out 1).trans rfl, (N' BK403.out 0).trans rfl, (N' BK403.out 1).trans rfl, (N' BK403.out 2).trans rfl⟩ (fun hHeld => ?_); clear hK K; refine norm_ (a' := ?_) ?_ ?_; rotate_left
        ·show Act.put _ (some 20) _ = _
         exact qP
        refine pure_ (i := 5) (N := some 21) (v := ?_) (a' := ?_) #[y', y', y', y', y', y', n'] rfl rfl (by kernel_rfl) (fun _ _ _ h => h) (Or.inl ⟨by rfl, ?_⟩) ?_ ?_; rotate_left
        ·exact qI
        rotate_left
        ·exact qP
        refine pure_ (i := 6) (N := some 15) (v := ?_) (a' := ?_) #[y', y', y', y', y', y', y'] rfl rfl (by kernel_rfl) (fun _ _ _ h => h) (Or.inl ⟨by rfl, ?_⟩) ?_ ?_; rotate_left
        ·exact qI
        rotate_left
        ·exact qP
        refine done_ (by kernel_rfl) ?_; try go_wp2
        have n0_ := A' (I' BK403.out); have n1_ := A' (I' BK405.out); have n2_ := A' (J' HB.out); clear BK403; clear BK405; clear HB; have BK403 := n0_; have BK405 := n1_; have HB := n2_; clear n0_ n1_ n2_; refine start_ (n := 10) (S := fun w' => w'.cell? ⟨gb405, 0, none⟩ = some (.int .i64 ((rd_T53 l1 x10_1).f0)) ∧ w'.cell? ⟨gb405, 1, none⟩ = some (.int .i64 ((rd_T53 l1 x10_1).f1)) ∧ w'.cell? ⟨gb403, 0, none⟩ = some (.int .i64 a0_0) ∧ w'.cell? ⟨gb403, 1, none⟩ = some (.int .i64 a0_1) ∧ w'.cell? ⟨gb403, 2, none⟩ = some (.bool a0_2)) (ds := []) #[n', n', n', n', n', n', n', n', n', n'] (by kernel_rfl) rfl rfl ⟨(N' BK405.out 0).trans rfl, (N' BK405.out 1).trans rfl, (N' BK403.out 0).trans rfl, (N' BK403.out 1).trans rfl, (N' BK403.out 2).trans rfl⟩ (fun hHeld => ?_); refine with_tabW impl_wayFault.tab6 impl_wayFault.bits6 (fun HT_ HW_ => ?_)
        generalize w43.drew = w44 at BK403 BK405 HB hHeld ⊢
        refine pure_ (i := 0) (N := some 24) (v := ?_) (a' := ?_) #[y', n', n', n', n', n', n', n', n', n'] rfl rfl (any_of HT_.out (by kernel_rfl)) (fun _ _ _ h => h) (Or.inl ⟨by rfl, ?_⟩) ?_ ?_; rotate_left
        ·exact qI
        rotate_left
        ·exact qP
        refine pure_ (i := 3) (N := some 27) (v := ?_) (a' := ?_) #[y', n', n', y', n', n', n', n', n', n'] rfl rfl (any_of HT_.out (by kernel_rfl)) (fun _ _ _ h => h) (Or.inl ⟨by rfl, ?_⟩) ?_ ?_; rotate_left
        ·exact qI
        rotate_left
        ·exact qP
        refine take_ (i := 1) (N := some 25) (v := ?_) (a' := ?_) #[y', y', n', y', n', n', n', n', n', n'] rfl rfl (take_ofW HT_.out HW_.out (by kernel_rfl)) (fun _ _ _ h => h) (Or.inl ⟨by rfl, ?_⟩) hHeld ?_ ?_; rotate_left
        ·rintro w' ⟨s0, s1, s2, s3, s4⟩; go_simp; with_reducible rfl
        rotate_left
        ·exact qP
        refine take_ (i := 2) (N := some 26) (v := ?_) (a' := ?_) #[y', y', y', y', n', n', n', n', n', n'] rfl rfl (take_ofW HT_.out HW_.out (by kernel_rfl)) (fun _ _ _ h => h) (Or.inl ⟨by rfl, ?_⟩) hHeld ?_ ?_; rotate_left
        ·rintro w' ⟨s0, s1, s2, s3, s4⟩; go_simp; with_reducible rfl
        rotate_left
        ·exact qP
        refine take_ (i := 4) (N := some 28) (v := ?_) (a' := ?_) #[y', y', y', y', y', n', n', n', n', n'] rfl rfl (take_ofW HT_.out HW_.out (by kernel_rfl)) (fun _ _ _ h => h) (Or.inl ⟨by rfl, ?_⟩) hHeld ?_ ?_; rotate_left
        ·rintro w' ⟨s0, s1, s2, s3, s4⟩; go_simp; with_reducible rfl
        rotate_left
        ·exact qP
        refine one_ (i := 5) (N := some 29) #[y', y', y', y', y', y', n', n', n', n'] rfl rfl (one_of HT_.out (by kernel_rfl)) (by decide) (fun K hK => ?_); refine goes_ Try.func54 (by kernel_rfl) rfl #[.agg #[.int .i64 a0_0, .int .i64 a0_1, .bool a0_2], .int .i64 ((rd_T53 l1 x10_1).f0)] (by rfl) rfl rfl (by (try simp only [List.map_toArray, List.map_cons, List.map_nil]); first | done | rfl | (simp only [List.length_drop, List.length_take]; rfl)) ?_
        with_reducible refine (impl_sheavesAt.calls a0_0 a0_1 a0_2 ((rd_T53 l1 x10_1).f0) t407 _ A9.out).mono ?_
        rintro e w45 ⟨rfl, hb⟩; refine ⟨_, rfl, ?_⟩; have n0_ := A' (O' (g := gb403) (qB BK403.out) hb); have n1_ := A' (O' (g := gb405) (qB BK405.out) hb); have n2_ := A' (W' (qK2 HB.out GE403.out GE405.out) hb); clear BK403; clear BK405; clear HB; have BK403 := n0_; have BK405 := n1_; have HB := n2_; clear n0_ n1_ n2_; (try clear hb); (try clear hb2); (try clear hk); (try clear hi); refine hK.out _ _ ⟨(N' BK405.out 0).trans rfl, (N' BK405.out 1).trans rfl, (N' BK403.out 0).trans rfl, (N' BK403.out 1).trans rfl, (N' BK403.out 2).trans rfl⟩ (fun hHeld => ?_); clear hK K; refine norm_ (a' := ?_) ?_ ?_; rotate_left
        ·show Act.put _ (some 29) _ = _
         exact qP
        refine pure_ (i := 6) (N := some 30) (v := ?_) (a' := ?_) #[y', y', y', y', y', y', y', n', n', n'] rfl rfl (any_of HT_.out (by kernel_rfl)) (fun _ _ _ h => h) (Or.inl ⟨by rfl, ?_⟩) ?_ ?_; rotate_left
        ·exact qI
        rotate_left
        ·exact qP
        refine one_ (i := 7) (N := some 31) #[y', y', y', y', y', y', y', y', n', n'] rfl rfl (one_of HT_.out (by kernel_rfl)) (by decide) (fun K hK => ?_); refine goes_ Try.func53 (by kernel_rfl) rfl #[.int .i64 ((rd_T53 l1 x10_1).f1), .int .i64 0, .int .i64 (wrap64 (t407 - 1))] (by rfl) rfl rfl (by (try simp only [List.map_toArray, List.map_cons, List.map_nil]); first | done | rfl | (simp only [List.length_drop, List.length_take]; rfl)) ?_
        with_reducible refine (impl_within.calls ((rd_T53 l1 x10_1).f1) 0 (wrap64 (t407 - 1)) false _ A10.out).mono ?_
        rintro e w' ⟨rfl, ⟨nd, rfl⟩⟩; refine ⟨_, rfl, ?_⟩; refine hK.out _ _ ⟨(N' BK405.out 0).trans rfl, (N' BK405.out 1).trans rfl, (N' BK403.out 0).trans rfl, (N' BK403.out 1).trans rfl, (N' BK403.out 2).trans rfl⟩ (fun hHeld => ?_); clear hK K; refine norm_ (a' := ?_) ?_ ?_; rotate_left
        ·show Act.put _ (some 31) _ = _
         exact qP
        refine pure_ (i := 8) (N := some 32) (v := ?_) (a' := ?_) #[y', y', y', y', y', y', y', y', y', n'] rfl rfl (any_of HT_.out (by kernel_rfl)) (fun _ _ _ h => h) (Or.inl ⟨by rfl, ?_⟩) ?_ ?_; rotate_left
        ·exact qI
        rotate_left
        ·exact qP
        refine pure_ (i := 9) (N := some 23) (v := ?_) (a' := ?_) #[y', y', y', y', y', y', y', y', y', y'] rfl rfl (any_of HT_.out (by kernel_rfl)) (fun _ _ _ h => h) (Or.inl ⟨by rfl, ?_⟩) ?_ ?_; rotate_left
        ·exact qI
        rotate_left
        ·exact qP
        refine done_ (done_of HT_.out (by kernel_rfl)) ?_; try go_wp2
        go_ret2; exact ⟨qE, qK2 HB.out GE403.out GE405.out⟩
      ·rw [if_neg c8] at H; have c8b0 : (((rd_T53 l1 x10_1).f0) == t406) = false := beq_eq_false_iff_ne.mpr c8; have c8b1 : (((rd_T53 l1 x10_1).f0) != t406) = true := bne_iff_ne.mpr c8; simp only [Option.some.injEq, Prod.mk.injEq] at H; obtain ⟨rfl, rfl⟩ := H; have p404 : 0 ≤ (x10_1 : Int) := oD' qA; have q404 : x10_1 < (l1.length : Int) := oD' qA; obtain ⟨ad404, e404, hx404_0, hx404_1⟩ := at_T53 HR1.out x10_1 p404 q404
       cases e404
       try replace hx404_0 := qC HB.out hx404_0
       try replace hx404_1 := qC HB.out hx404_1
       replace p404 := eq_true p404; replace q404 := eq_true q404; try go_wp2_with (first | ((with_reducible refine gate_dst (N := 7) rfl ?_); refine box_event ?hg (N := 7) ?hd (cs := #[.int .i64 0, .int .i64 0]) (t := 53) ?hr ?_; (case hd => rfl); (case hg => rfl); (case hr => first | (go_simp; done) | (go_simp; rfl)); intro gb405 hg w46 hbox hb; have n0_ := A' (O' (g := gb403) (qB BK403.out) hb); have n1_ := A' (W' (qK1 HB.out GE403.out) hb); have n2_ := A' (hbox); have n3_ := A' ((by rw [hg]; exact (V' (qK1 HB.out GE403.out)) : w.heap.size ≤ gb405)); have n4_ := A' ((by rw [hg]; exact (V' (qK1 HB.out GE403.out)) : w.heap.size ≤ gb405)); have n5_ := A' ((by rw [hg]; exact Nat.ne_of_lt (bL' (g := gb403) (qB BK403.out)) : gb403 ≠ gb405)); have n6_ := A' ((by rw [hg]; exact Nat.ne_of_gt (bL' (g := gb403) (qB BK403.out)) : gb405 ≠ gb403)); clear BK403; clear HB; have BK403 := n0_; have HB := n1_; have BK405 := n2_; have GW405 := n3_; have GE405 := n4_; have NB403_405 := n5_; have NB405_403 := n6_; clear n0_ n1_ n2_ n3_ n4_ n5_ n6_; clear hb hbox hg; have hnb47 := NB405_403.out; have hnc47 := NB403_405.out; have hcz48_0 : w46.cell? ⟨gb405, 0, none⟩ = some (.int .i64 0) := (N' BK405.out 0).trans rfl; have hcz48_1 : w46.cell? ⟨gb405, 1, none⟩ = some (.int .i64 0) := (N' BK405.out 1).trans rfl; have hfz48_0 := Y' BK405.out 0; have hfz48_1 := Y' BK405.out 1))
       have n0_ : Aside0 (((w46.setCell ⟨gb405, 0, none⟩ (.int .i64 ((rd_T53 l1 x10_1).f0))).setCell ⟨gb405, 1, none⟩ (.int .i64 ((rd_T53 l1 x10_1).f1))).heap[gb403]? = some (.cells #[.int .i64 a0_0, .int .i64 a0_1, .bool a0_2] 26 (0, 0))) := ⟨qG2 BK403.out NB403_405.out NB403_405.out⟩
       have n1_ : Aside0 (((w46.setCell ⟨gb405, 0, none⟩ (.int .i64 ((rd_T53 l1 x10_1).f0))).setCell ⟨gb405, 1, none⟩ (.int .i64 ((rd_T53 l1 x10_1).f1))).heap[gb405]? = some (.cells #[.int .i64 ((rd_T53 l1 x10_1).f0), .int .i64 ((rd_T53 l1 x10_1).f1)] 53 (0, 0))) := ⟨by (with_reducible repeat (first | refine G' ?_ _ | refine I' ?_ | refine H' ?_ _)); refine blk_put (cs := #[.int .i64 ((rd_T53 l1 x10_1).f0), .int .i64 0]) ?_ 1 _ rfl; (with_reducible repeat (first | refine G' ?_ _ | refine I' ?_ | refine H' ?_ _)); refine blk_put (cs := #[.int .i64 0, .int .i64 0]) ?_ 0 _ rfl; (with_reducible repeat (first | refine G' ?_ _ | refine I' ?_ | refine H' ?_ _)); exact BK405.out⟩
       have n2_ : Aside0 (Below w.heap.size w ((w46.setCell ⟨gb405, 0, none⟩ (.int .i64 ((rd_T53 l1 x10_1).f0))).setCell ⟨gb405, 1, none⟩ (.int .i64 ((rd_T53 l1 x10_1).f1)))) := ⟨qK2 HB.out GE403.out GE405.out⟩
       (try clear BK403); (try clear BK405); (try clear HB)
       generalize ((w46.setCell ⟨gb405, 0, none⟩ (.int .i64 ((rd_T53 l1 x10_1).f0))).setCell ⟨gb405, 1, none⟩ (.int .i64 ((rd_T53 l1 x10_1).f1))) = w49 at n0_ n1_ n2_ ⊢
       have BK403 := n0_; have BK405 := n1_; have HB := n2_; clear n0_ n1_ n2_; have n0_ := A' (I' BK403.out); have n1_ := A' (I' BK405.out); have n2_ := A' (J' HB.out); clear BK403; clear BK405; clear HB; have BK403 := n0_; have BK405 := n1_; have HB := n2_; clear n0_ n1_ n2_; refine start_ (n := 7) (S := fun w' => w'.cell? ⟨gb405, 0, none⟩ = some (.int .i64 ((rd_T53 l1 x10_1).f0)) ∧ w'.cell? ⟨gb405, 1, none⟩ = some (.int .i64 ((rd_T53 l1 x10_1).f1)) ∧ w'.cell? ⟨gb403, 0, none⟩ = some (.int .i64 a0_0) ∧ w'.cell? ⟨gb403, 1, none⟩ = some (.int .i64 a0_1) ∧ w'.cell? ⟨gb403, 2, none⟩ = some (.bool a0_2)) (ds := []) #[n', n', n', n', n', n', n'] (by kernel_rfl) rfl rfl ⟨(N' BK405.out 0).trans rfl, (N' BK405.out 1).trans rfl, (N' BK403.out 0).trans rfl, (N' BK403.out 1).trans rfl, (N' BK403.out 2).trans rfl⟩ (fun hHeld => ?_)
       generalize w49.drew = w50 at BK403 BK405 HB hHeld ⊢
       refine pure_ (i := 0) (N := some 16) (v := ?_) (a' := ?_) #[y', n', n', n', n', n', n'] rfl rfl (by kernel_rfl) (fun _ _ _ h => h) (Or.inl ⟨by rfl, ?_⟩) ?_ ?_; rotate_left
       ·exact qI
       rotate_left
       ·exact qP
       refine pure_ (i := 3) (N := some 19) (v := ?_) (a' := ?_) #[y', n', n', y', n', n', n'] rfl rfl (by kernel_rfl) (fun _ _ _ h => h) (Or.inl ⟨by rfl, ?_⟩) ?_ ?_; rotate_left
       ·exact qI
       rotate_left
       ·exact qP
       refine take_ (i := 1) (N := some 17) (v := ?_) (a' := ?_) #[y', y', n', y', n', n', n'] rfl rfl (by kernel_rfl) (fun _ _ _ h => h) (Or.inl ⟨by rfl, ?_⟩) hHeld ?_ ?_; rotate_left
       ·rintro w' ⟨s0, s1, s2, s3, s4⟩; go_simp; with_reducible rfl
       rotate_left
       ·exact qP
       refine take_ (i := 2) (N := some 18) (v := ?_) (a' := ?_) #[y', y', y', y', n', n', n'] rfl rfl (by kernel_rfl) (fun _ _ _ h => h) (Or.inl ⟨by rfl, ?_⟩) hHeld ?_ ?_; rotate_left
       ·rintro w' ⟨s0, s1, s2, s3, s4⟩; go_simp; with_reducible rfl
       rotate_left
       ·exact qP
       refine one_ (i := 4) (N := some 20) #[y', y', y', y', y', n', n'] rfl rfl (by kernel_rfl) (by decide) (fun K hK => ?_); refine goes_ Try.func55 (by kernel_rfl) rfl #[.agg #[.int .i64 a0_0, .int .i64 a0_1, .bool a0_2], .int .i64 x10_1] (by rfl) rfl rfl (by (try simp only [List.map_toArray, List.map_cons, List.map_nil]); first | done | rfl | (simp only [List.length_drop, List.length_take]; rfl)) ?_
       with_reducible refine (impl_blockAt.calls a0_0 a0_1 a0_2 x10_1 t406 _ A7.out).mono ?_
       rintro e w51 ⟨rfl, hb⟩; refine ⟨_, rfl, ?_⟩; have n0_ := A' (O' (g := gb403) (qB BK403.out) hb); have n1_ := A' (O' (g := gb405) (qB BK405.out) hb); have n2_ := A' (W' (qK2 HB.out GE403.out GE405.out) hb); clear BK403; clear BK405; clear HB; have BK403 := n0_; have BK405 := n1_; have HB := n2_; clear n0_ n1_ n2_; (try clear hb); (try clear hb2); (try clear hk); (try clear hi); refine hK.out _ _ ⟨(N' BK405.out 0).trans rfl, (N' BK405.out 1).trans rfl, (N' BK403.out 0).trans rfl, (N' BK403.out 1).trans rfl, (N' BK403.out 2).trans rfl⟩ (fun hHeld => ?_); clear hK K; refine norm_ (a' := ?_) ?_ ?_; rotate_left
       ·show Act.put _ (some 20) _ = _
        exact qP
       refine pure_ (i := 5) (N := some 21) (v := ?_) (a' := ?_) #[y', y', y', y', y', y', n'] rfl rfl (by kernel_rfl) (fun _ _ _ h => h) (Or.inl ⟨by rfl, ?_⟩) ?_ ?_; rotate_left
       ·exact qI
       rotate_left
       ·exact qP
       refine pure_ (i := 6) (N := some 15) (v := ?_) (a' := ?_) #[y', y', y', y', y', y', y'] rfl rfl (by kernel_rfl) (fun _ _ _ h => h) (Or.inl ⟨by rfl, ?_⟩) ?_ ?_; rotate_left
       ·exact qI
       rotate_left
       ·exact qP
       refine done_ (by kernel_rfl) ?_; try go_wp2
       go_ret2; exact ⟨qE, qK2 HB.out GE403.out GE405.out⟩
     ·rw [if_neg c6] at H; exact absurd H (by simp)
    ·rw [if_neg c5] at H; exact absurd H (by simp)
   ·rw [if_neg c4] at H; have c4b0 : decide (x10_1 < (l1.length : Int)) = false := dF' c4; clear c4
    by_cases c52 : (l1.length : Int) < (wrap64 (a0_0 + a0_1))
    ·rw [if_pos c52] at H; have c52b0 : decide ((l1.length : Int) < (wrap64 (a0_0 + a0_1))) = true := dT' c52; clear c52; simp only [Option.some.injEq, Prod.mk.injEq] at H; obtain ⟨rfl, rfl⟩ := H; have hcz53_0 : wr.cell? ⟨gb403, 0, none⟩ = some (.int .i64 a0_0) := (N' BK403.out 0).trans rfl; have hcz53_1 : wr.cell? ⟨gb403, 1, none⟩ = some (.int .i64 a0_1) := (N' BK403.out 1).trans rfl; have hcz53_2 : wr.cell? ⟨gb403, 2, none⟩ = some (.bool a0_2) := (N' BK403.out 2).trans rfl; have hfz53_0 := Y' BK403.out 0; have hfz53_1 := Y' BK403.out 1; have hfz53_2 := Y' BK403.out 2; go_wp2; go_ret2; exact ⟨qE, qK1 HB.out GE403.out⟩
    ·rw [if_neg c52] at H; have c52b0 : decide ((l1.length : Int) < (wrap64 (a0_0 + a0_1))) = false := dF' c52; clear c52; simp only [Option.some.injEq, Prod.mk.injEq] at H; obtain ⟨rfl, rfl⟩ := H; have hcz54_0 : wr.cell? ⟨gb403, 0, none⟩ = some (.int .i64 a0_0) := (N' BK403.out 0).trans rfl; have hcz54_1 : wr.cell? ⟨gb403, 1, none⟩ = some (.int .i64 a0_1) := (N' BK403.out 1).trans rfl; have hcz54_2 : wr.cell? ⟨gb403, 2, none⟩ = some (.bool a0_2) := (N' BK403.out 2).trans rfl; have hfz54_0 := Y' BK403.out 0; have hfz54_1 := Y' BK403.out 1; have hfz54_2 := Y' BK403.out 2; go_wp2; go_ret2; exact ⟨qE, qK1 HB.out GE403.out⟩

/-! ### impl_wayCode: function 37 -/
def impl_wayCode.f (k : Nat) (a0_0 : Int) (a0_1 : Int) (a0_2 : Bool) (l1 : List (S53)) : Option (Int) := (impl_ValidPurchase.f k a0_0 a0_1 a0_2).bind fun t415 => (if t415 = true then ((impl_wayFault.f k a0_0 a0_1 a0_2 l1).bind fun bt416 => (if bt416.1.toList = ([110, 111, 110, 101] : List UInt8) then (some 0) else (some 8))) else (some 1))
theorem impl_wayCode.mono : ∀ a0 a1 a2 a3 k, LeO (impl_wayCode.f k a0 a1 a2 a3) (impl_wayCode.f (k + 1) a0 a1 a2 a3) := by
 intro a0 a1 a2 a3 k
 unfold impl_wayCode.f
 repeat' first
   | (with_reducible exact impl_ValidPurchase.mono _ _ _ _)
   | (with_reducible exact impl_wayFault.mono _ _ _ _ _)
   | (with_reducible exact LeO.refl _)
   | (with_reducible exact LeO.none _)
   | (with_reducible refine LeO.ite ?_ ?_)
   | (with_reducible refine LeO.bind ?_ (fun _ => ?_))
   | exact impl_ValidPurchase.mono _ _ _ _
   | exact impl_wayFault.mono _ _ _ _ _
   | exact LeO.none _
   | refine LeO.ite ?_ ?_
   | refine LeO.bind ?_ (fun _ => ?_)
set_option maxHeartbeats 8000000 in
set_option maxRecDepth 100000 in
theorem impl_wayCode.calls (k : Nat) (a0_0 : Int) (a0_1 : Int) (a0_2 : Bool) (A1 : Option Addr) (c1 : Nat) (l1 : List (S53)) (r : Int) (w : World) (hr1 : Kd.C k53 w A1 l1.length l1) (hc1 : l1.length ≤ c1) (h : impl_wayCode.f k a0_0 a0_1 a0_2 l1 = some r) :
  Calls Try.prog 37 #[.agg #[.int .i64 a0_0, .int .i64 a0_1, .bool a0_2], .slice A1 l1.length c1] w fun e w' => e = .returned (.int .i64 r) ∧ Below w.heap.size w w' := by
 have hu26 := Try.underlying26; have HR1 := A' hr1; have HC1 := A' hc1; clear hr1 hc1; have HB := A' (Below.refl w.heap.size w); have H : ((impl_ValidPurchase.f k a0_0 a0_1 a0_2).bind fun t415 => (if t415 = true then ((impl_wayFault.f k a0_0 a0_1 a0_2 l1).bind fun bt416 => (if bt416.1.toList = ([110, 111, 110, 101] : List UInt8) then (some 0) else (some 8))) else (some 1))) = some r := h; clear h; replace H := Option.bind_eq_some_iff.mp H; obtain ⟨t415, A30, H⟩ := H; replace H : (if t415 = true then ((impl_wayFault.f k a0_0 a0_1 a0_2 l1).bind fun bt416 => (if bt416.1.toList = ([110, 111, 110, 101] : List UInt8) then (some 0) else (some 8))) else (some 1)) = some r := H; have A3 := A' A30; clear A30
 by_cases c4 : t415 = true
 ·subst c4; have H1 : ((impl_wayFault.f k a0_0 a0_1 a0_2 l1).bind fun bt416 => (if bt416.1.toList = ([110, 111, 110, 101] : List UInt8) then (some 0) else (some 8))) = some r := by rw [if_pos rfl] at H; exact H
  clear H; have H := H1; clear H1; replace H := Option.bind_eq_some_iff.mp H; obtain ⟨⟨t416, t417⟩, A50, H⟩ := H; replace H : (if t416.toList = ([110, 111, 110, 101] : List UInt8) then (some 0) else (some 8)) = some r := H; have A5 := A' A50; clear A50
  by_cases c6 : t416.toList = ([110, 111, 110, 101] : List UInt8)
  ·rw [if_pos c6] at H; have c6b0 : (t416.toList == ([110, 111, 110, 101] : List UInt8)) = true := beq_iff_eq.mpr c6; have c6b1 : (t416.toList != ([110, 111, 110, 101] : List UInt8)) = false := bne_eq_false_iff_eq.mpr c6; clear c6; obtain rfl := Option.some.inj H; go_enter Try.func37, Try.ntmps37; go_wp2_with (first | ((with_reducible refine gate_dst (N := 2) rfl ?_); refine box_event ?hg (N := 2) ?hd (cs := #[.int .i64 a0_0, .int .i64 a0_1, .bool a0_2]) (t := 26) ?hr ?_; (case hd => rfl); (case hg => rfl); (case hr => first | (go_simp; done) | (go_simp; rfl)); intro gb414 hg w7 hbox hb; have n0_ := A' (W' (qK0 HB.out) hb); have n1_ := A' (hbox); have n2_ := A' ((by rw [hg]; exact (V' (qK0 HB.out)) : w.heap.size ≤ gb414)); have n3_ := A' ((by rw [hg]; exact (V' (qK0 HB.out)) : w.heap.size ≤ gb414)); clear HB; have HB := n0_; have BK414 := n1_; have GW414 := n2_; have GE414 := n3_; clear n0_ n1_ n2_ n3_; clear hb hbox hg; have hcz8_0 : w7.cell? ⟨gb414, 0, none⟩ = some (.int .i64 a0_0) := (N' BK414.out 0).trans rfl; have hcz8_1 : w7.cell? ⟨gb414, 1, none⟩ = some (.int .i64 a0_1) := (N' BK414.out 1).trans rfl; have hcz8_2 : w7.cell? ⟨gb414, 2, none⟩ = some (.bool a0_2) := (N' BK414.out 2).trans rfl; have hfz8_0 := Y' BK414.out 0; have hfz8_1 := Y' BK414.out 1; have hfz8_2 := Y' BK414.out 2) | ((with_reducible refine gate_callee (f := 52) rfl ?_); refine goesL_ (some 8) rfl rfl Try.func52 (by kernel_rfl) rfl #[.agg #[.int .i64 a0_0, .int .i64 a0_1, .bool a0_2]] rfl (by (try simp only [List.map_toArray, List.map_cons, List.map_nil]); first | done | rfl | (simp only [List.length_drop, List.length_take]; rfl)) ?_; (with_reducible refine (impl_ValidPurchase.calls k a0_0 a0_1 a0_2 true _ A3.out).mono ?_); rintro e w9 ⟨rfl, hb⟩; refine ⟨_, rfl, ?_⟩; have n0_ := A' (O' (g := gb414) (qB BK414.out) hb); have n1_ := A' (W' (qK1 HB.out GE414.out) hb); clear BK414; clear HB; have BK414 := n0_; have HB := n1_; clear n0_ n1_; (try clear hb); (try clear hb2); (try clear hk); (try clear hi); have hcz10_0 : w9.cell? ⟨gb414, 0, none⟩ = some (.int .i64 a0_0) := (N' BK414.out 0).trans rfl; have hcz10_1 : w9.cell? ⟨gb414, 1, none⟩ = some (.int .i64 a0_1) := (N' BK414.out 1).trans rfl; have hcz10_2 : w9.cell? ⟨gb414, 2, none⟩ = some (.bool a0_2) := (N' BK414.out 2).trans rfl; have hfz10_0 := Y' BK414.out 0; have hfz10_1 := Y' BK414.out 1; have hfz10_2 := Y' BK414.out 2) | ((with_reducible refine gate_callee (f := 59) rfl ?_); refine goesL_ (some 13) rfl rfl Try.func59 (by kernel_rfl) rfl #[.agg #[.int .i64 a0_0, .int .i64 a0_1, .bool a0_2], .slice A1 l1.length c1] rfl (by (try simp only [List.map_toArray, List.map_cons, List.map_nil]); first | done | rfl | (simp only [List.length_drop, List.length_take]; rfl)) ?_; (with_reducible refine (impl_wayFault.calls k a0_0 a0_1 a0_2 _ _ l1 t416 t417 _ ?side1 ?side2 A5.out).mono ?_); (case side1 => exact qT (X' HR1.out HB.out)); (case side2 => exact HC1.out); rintro e w11 ⟨rfl, hb⟩; refine ⟨_, rfl, ?_⟩; have n0_ := A' (O' (g := gb414) (qB BK414.out) hb); have n1_ := A' (W' (qK1 HB.out GE414.out) hb); clear BK414; clear HB; have BK414 := n0_; have HB := n1_; clear n0_ n1_; (try clear hb); (try clear hb2); (try clear hk); (try clear hi))); go_ret; exact ⟨qE, qK1 HB.out GE414.out⟩
  ·rw [if_neg c6] at H; have c6b0 : (t416.toList == ([110, 111, 110, 101] : List UInt8)) = false := beq_eq_false_iff_ne.mpr c6; have c6b1 : (t416.toList != ([110, 111, 110, 101] : List UInt8)) = true := bne_iff_ne.mpr c6; obtain rfl := Option.some.inj H; go_enter Try.func37, Try.ntmps37; go_wp2_with (first | ((with_reducible refine gate_dst (N := 2) rfl ?_); refine box_event ?hg (N := 2) ?hd (cs := #[.int .i64 a0_0, .int .i64 a0_1, .bool a0_2]) (t := 26) ?hr ?_; (case hd => rfl); (case hg => rfl); (case hr => first | (go_simp; done) | (go_simp; rfl)); intro gb414 hg w12 hbox hb; have n0_ := A' (W' (qK0 HB.out) hb); have n1_ := A' (hbox); have n2_ := A' ((by rw [hg]; exact (V' (qK0 HB.out)) : w.heap.size ≤ gb414)); have n3_ := A' ((by rw [hg]; exact (V' (qK0 HB.out)) : w.heap.size ≤ gb414)); clear HB; have HB := n0_; have BK414 := n1_; have GW414 := n2_; have GE414 := n3_; clear n0_ n1_ n2_ n3_; clear hb hbox hg; have hcz13_0 : w12.cell? ⟨gb414, 0, none⟩ = some (.int .i64 a0_0) := (N' BK414.out 0).trans rfl; have hcz13_1 : w12.cell? ⟨gb414, 1, none⟩ = some (.int .i64 a0_1) := (N' BK414.out 1).trans rfl; have hcz13_2 : w12.cell? ⟨gb414, 2, none⟩ = some (.bool a0_2) := (N' BK414.out 2).trans rfl; have hfz13_0 := Y' BK414.out 0; have hfz13_1 := Y' BK414.out 1; have hfz13_2 := Y' BK414.out 2) | ((with_reducible refine gate_callee (f := 52) rfl ?_); refine goesL_ (some 8) rfl rfl Try.func52 (by kernel_rfl) rfl #[.agg #[.int .i64 a0_0, .int .i64 a0_1, .bool a0_2]] rfl (by (try simp only [List.map_toArray, List.map_cons, List.map_nil]); first | done | rfl | (simp only [List.length_drop, List.length_take]; rfl)) ?_; (with_reducible refine (impl_ValidPurchase.calls k a0_0 a0_1 a0_2 true _ A3.out).mono ?_); rintro e w14 ⟨rfl, hb⟩; refine ⟨_, rfl, ?_⟩; have n0_ := A' (O' (g := gb414) (qB BK414.out) hb); have n1_ := A' (W' (qK1 HB.out GE414.out) hb); clear BK414; clear HB; have BK414 := n0_; have HB := n1_; clear n0_ n1_; (try clear hb); (try clear hb2); (try clear hk); (try clear hi); have hcz15_0 : w14.cell? ⟨gb414, 0, none⟩ = some (.int .i64 a0_0) := (N' BK414.out 0).trans rfl; have hcz15_1 : w14.cell? ⟨gb414, 1, none⟩ = some (.int .i64 a0_1) := (N' BK414.out 1).trans rfl; have hcz15_2 : w14.cell? ⟨gb414, 2, none⟩ = some (.bool a0_2) := (N' BK414.out 2).trans rfl; have hfz15_0 := Y' BK414.out 0; have hfz15_1 := Y' BK414.out 1; have hfz15_2 := Y' BK414.out 2) | ((with_reducible refine gate_callee (f := 59) rfl ?_); refine goesL_ (some 13) rfl rfl Try.func59 (by kernel_rfl) rfl #[.agg #[.int .i64 a0_0, .int .i64 a0_1, .bool a0_2], .slice A1 l1.length c1] rfl (by (try simp only [List.map_toArray, List.map_cons, List.map_nil]); first | done | rfl | (simp only [List.length_drop, List.length_take]; rfl)) ?_; (with_reducible refine (impl_wayFault.calls k a0_0 a0_1 a0_2 _ _ l1 t416 t417 _ ?side1 ?side2 A5.out).mono ?_); (case side1 => exact qT (X' HR1.out HB.out)); (case side2 => exact HC1.out); rintro e w16 ⟨rfl, hb⟩; refine ⟨_, rfl, ?_⟩; have n0_ := A' (O' (g := gb414) (qB BK414.out) hb); have n1_ := A' (W' (qK1 HB.out GE414.out) hb); clear BK414; clear HB; have BK414 := n0_; have HB := n1_; clear n0_ n1_; (try clear hb); (try clear hb2); (try clear hk); (try clear hi))); go_ret; exact ⟨qE, qK1 HB.out GE414.out⟩
 ·replace c4 := Bool.eq_false_iff.mpr c4; subst c4; have H1 : (some 1) = some r := by rw [if_neg (show ¬ (false = true) by decide)] at H; exact H
  clear H; have H := H1; clear H1; obtain rfl := Option.some.inj H; go_enter Try.func37, Try.ntmps37; go_wp2_with (first | ((with_reducible refine gate_dst (N := 2) rfl ?_); refine box_event ?hg (N := 2) ?hd (cs := #[.int .i64 a0_0, .int .i64 a0_1, .bool a0_2]) (t := 26) ?hr ?_; (case hd => rfl); (case hg => rfl); (case hr => first | (go_simp; done) | (go_simp; rfl)); intro gb414 hg w17 hbox hb; have n0_ := A' (W' (qK0 HB.out) hb); have n1_ := A' (hbox); have n2_ := A' ((by rw [hg]; exact (V' (qK0 HB.out)) : w.heap.size ≤ gb414)); have n3_ := A' ((by rw [hg]; exact (V' (qK0 HB.out)) : w.heap.size ≤ gb414)); clear HB; have HB := n0_; have BK414 := n1_; have GW414 := n2_; have GE414 := n3_; clear n0_ n1_ n2_ n3_; clear hb hbox hg; have hcz18_0 : w17.cell? ⟨gb414, 0, none⟩ = some (.int .i64 a0_0) := (N' BK414.out 0).trans rfl; have hcz18_1 : w17.cell? ⟨gb414, 1, none⟩ = some (.int .i64 a0_1) := (N' BK414.out 1).trans rfl; have hcz18_2 : w17.cell? ⟨gb414, 2, none⟩ = some (.bool a0_2) := (N' BK414.out 2).trans rfl; have hfz18_0 := Y' BK414.out 0; have hfz18_1 := Y' BK414.out 1; have hfz18_2 := Y' BK414.out 2) | ((with_reducible refine gate_callee (f := 52) rfl ?_); refine goesL_ (some 8) rfl rfl Try.func52 (by kernel_rfl) rfl #[.agg #[.int .i64 a0_0, .int .i64 a0_1, .bool a0_2]] rfl (by (try simp only [List.map_toArray, List.map_cons, List.map_nil]); first | done | rfl | (simp only [List.length_drop, List.length_take]; rfl)) ?_; (with_reducible refine (impl_ValidPurchase.calls k a0_0 a0_1 a0_2 false _ A3.out).mono ?_); rintro e w19 ⟨rfl, hb⟩; refine ⟨_, rfl, ?_⟩; have n0_ := A' (O' (g := gb414) (qB BK414.out) hb); have n1_ := A' (W' (qK1 HB.out GE414.out) hb); clear BK414; clear HB; have BK414 := n0_; have HB := n1_; clear n0_ n1_; (try clear hb); (try clear hb2); (try clear hk); (try clear hi))); go_ret; exact ⟨qE, qK1 HB.out GE414.out⟩

/-! ### impl_CrossingsOf: function 25 -/
def impl_CrossingsOf.f (k : Nat) (a0_0 : Int) (a0_1 : Int) (a0_2 : Bool) (l1 : List (S53)) (a2 : Bool) : Option (Int × Int) := (impl_wayCode.f k a0_0 a0_1 a0_2 l1).bind fun t419 => (if t419 = 0 then ((impl_crossings.f k l1 a2).bind fun t420 => (some ((t420.length : Int), 0))) else (some (0, t419)))
theorem impl_CrossingsOf.mono : ∀ a0 a1 a2 a3 a4 k, LeO (impl_CrossingsOf.f k a0 a1 a2 a3 a4) (impl_CrossingsOf.f (k + 1) a0 a1 a2 a3 a4) := by
 intro a0 a1 a2 a3 a4 k
 unfold impl_CrossingsOf.f
 repeat' first
   | (with_reducible exact impl_crossings.mono _ _ _)
   | (with_reducible exact impl_wayCode.mono _ _ _ _ _)
   | (with_reducible exact LeO.refl _)
   | (with_reducible exact LeO.none _)
   | (with_reducible refine LeO.ite ?_ ?_)
   | (with_reducible refine LeO.bind ?_ (fun _ => ?_))
   | exact impl_crossings.mono _ _ _
   | exact impl_wayCode.mono _ _ _ _ _
   | exact LeO.none _
   | refine LeO.ite ?_ ?_
   | refine LeO.bind ?_ (fun _ => ?_)
set_option maxHeartbeats 8000000 in
set_option maxRecDepth 100000 in
theorem impl_CrossingsOf.calls (k : Nat) (a0_0 : Int) (a0_1 : Int) (a0_2 : Bool) (A1 : Option Addr) (c1 : Nat) (l1 : List (S53)) (a2 : Bool) (r1 : Int) (r2 : Int) (w : World) (hr1 : Kd.C k53 w A1 l1.length l1) (hc1 : l1.length ≤ c1) (h : impl_CrossingsOf.f k a0_0 a0_1 a0_2 l1 a2 = some (r1, r2)) :
  Calls Try.prog 25 #[.agg #[.int .i64 a0_0, .int .i64 a0_1, .bool a0_2], .slice A1 l1.length c1, .bool a2] w fun e w' => e = .returned (.tuple #[.int .i64 r1, .int .i64 r2]) ∧ Below w.heap.size w w' := by
 have hu26 := Try.underlying26; have HR1 := A' hr1; have HC1 := A' hc1; clear hr1 hc1; have HB := A' (Below.refl w.heap.size w); have H : ((impl_wayCode.f k a0_0 a0_1 a0_2 l1).bind fun t419 => (if t419 = 0 then ((impl_crossings.f k l1 a2).bind fun t420 => (some ((t420.length : Int), 0))) else (some (0, t419)))) = some (r1, r2) := h; clear h; replace H := Option.bind_eq_some_iff.mp H; obtain ⟨t419, A40, H⟩ := H; replace H : (if t419 = 0 then ((impl_crossings.f k l1 a2).bind fun t420 => (some ((t420.length : Int), 0))) else (some (0, t419))) = some (r1, r2) := H; have A4 := A' A40; clear A40
 by_cases c5 : t419 = 0
 ·rw [if_pos c5] at H; have c5b0 : (t419 == 0) = true := beq_iff_eq.mpr c5; have c5b1 : (t419 != 0) = false := bne_eq_false_iff_eq.mpr c5; clear c5; replace H := Option.bind_eq_some_iff.mp H; obtain ⟨t420, A60, H⟩ := H; replace H : (some ((t420.length : Int), 0)) = some (r1, r2) := H; have A6 := A' A60; clear A60; simp only [Option.some.injEq, Prod.mk.injEq] at H; obtain ⟨rfl, rfl⟩ := H; go_enter Try.func25, Try.ntmps25; go_wp2_with (first | ((with_reducible refine gate_dst (N := 3) rfl ?_); refine box_event ?hg (N := 3) ?hd (cs := #[.int .i64 a0_0, .int .i64 a0_1, .bool a0_2]) (t := 26) ?hr ?_; (case hd => rfl); (case hg => rfl); (case hr => first | (go_simp; done) | (go_simp; rfl)); intro gb418 hg w7 hbox hb; have n0_ := A' (W' (qK0 HB.out) hb); have n1_ := A' (hbox); have n2_ := A' ((by rw [hg]; exact (V' (qK0 HB.out)) : w.heap.size ≤ gb418)); have n3_ := A' ((by rw [hg]; exact (V' (qK0 HB.out)) : w.heap.size ≤ gb418)); clear HB; have HB := n0_; have BK418 := n1_; have GW418 := n2_; have GE418 := n3_; clear n0_ n1_ n2_ n3_; clear hb hbox hg; have hcz8_0 : w7.cell? ⟨gb418, 0, none⟩ = some (.int .i64 a0_0) := (N' BK418.out 0).trans rfl; have hcz8_1 : w7.cell? ⟨gb418, 1, none⟩ = some (.int .i64 a0_1) := (N' BK418.out 1).trans rfl; have hcz8_2 : w7.cell? ⟨gb418, 2, none⟩ = some (.bool a0_2) := (N' BK418.out 2).trans rfl; have hfz8_0 := Y' BK418.out 0; have hfz8_1 := Y' BK418.out 1; have hfz8_2 := Y' BK418.out 2) | ((with_reducible refine gate_callee (f := 37) rfl ?_); refine goesL_ (some 11) rfl rfl Try.func37 (by kernel_rfl) rfl #[.agg #[.int .i64 a0_0, .int .i64 a0_1, .bool a0_2], .slice A1 l1.length c1] rfl (by (try simp only [List.map_toArray, List.map_cons, List.map_nil]); first | done | rfl | (simp only [List.length_drop, List.length_take]; rfl)) ?_; (with_reducible refine (impl_wayCode.calls k a0_0 a0_1 a0_2 _ _ l1 t419 _ ?side1 ?side2 A4.out).mono ?_); (case side1 => exact qT (X' HR1.out HB.out)); (case side2 => exact HC1.out); rintro e w9 ⟨rfl, hb⟩; refine ⟨_, rfl, ?_⟩; have n0_ := A' (O' (g := gb418) (qB BK418.out) hb); have n1_ := A' (W' (qK1 HB.out GE418.out) hb); clear BK418; clear HB; have BK418 := n0_; have HB := n1_; clear n0_ n1_; (try clear hb); (try clear hb2); (try clear hk); (try clear hi)) | ((with_reducible refine gate_callee (f := 44) rfl ?_); refine goesL_ (some 17) rfl rfl Try.func44 (by kernel_rfl) rfl #[.slice A1 l1.length c1, .bool a2] rfl (by (try simp only [List.map_toArray, List.map_cons, List.map_nil]); first | done | rfl | (simp only [List.length_drop, List.length_take]; rfl)) ?_; (with_reducible refine (impl_crossings.calls k _ _ l1 a2 t420 _ ?side1 ?side2 A6.out).mono ?_); (case side1 => exact qT (X' HR1.out HB.out)); (case side2 => exact HC1.out); rintro e w10 ⟨v421, rfl, ho0, hb⟩; refine ⟨_, rfl, ?_⟩; have n0_ := A' (Kd.R_lower ho0 (V' (qK1 HB.out GE418.out))); have n1_ := A' (O' (g := gb418) (qB BK418.out) hb); have n2_ := A' (W' (qK1 HB.out GE418.out) hb); clear BK418; clear HB; have HO422 := n0_; have BK418 := n1_; have HB := n2_; clear n0_ n1_ n2_; (try clear hb); (try clear hb2); (try clear hk); (try clear hi); (try clear ho0); obtain ⟨Ao11, co11, eo11⟩ := Kd.R_slice HO422.out; subst eo11)); go_ret2; exact ⟨qE, qK1 HB.out GE418.out⟩
 ·rw [if_neg c5] at H; have c5b0 : (t419 == 0) = false := beq_eq_false_iff_ne.mpr c5; have c5b1 : (t419 != 0) = true := bne_iff_ne.mpr c5; simp only [Option.some.injEq, Prod.mk.injEq] at H; obtain ⟨rfl, rfl⟩ := H; go_enter Try.func25, Try.ntmps25; go_wp2_with (first | ((with_reducible refine gate_dst (N := 3) rfl ?_); refine box_event ?hg (N := 3) ?hd (cs := #[.int .i64 a0_0, .int .i64 a0_1, .bool a0_2]) (t := 26) ?hr ?_; (case hd => rfl); (case hg => rfl); (case hr => first | (go_simp; done) | (go_simp; rfl)); intro gb418 hg w12 hbox hb; have n0_ := A' (W' (qK0 HB.out) hb); have n1_ := A' (hbox); have n2_ := A' ((by rw [hg]; exact (V' (qK0 HB.out)) : w.heap.size ≤ gb418)); have n3_ := A' ((by rw [hg]; exact (V' (qK0 HB.out)) : w.heap.size ≤ gb418)); clear HB; have HB := n0_; have BK418 := n1_; have GW418 := n2_; have GE418 := n3_; clear n0_ n1_ n2_ n3_; clear hb hbox hg; have hcz13_0 : w12.cell? ⟨gb418, 0, none⟩ = some (.int .i64 a0_0) := (N' BK418.out 0).trans rfl; have hcz13_1 : w12.cell? ⟨gb418, 1, none⟩ = some (.int .i64 a0_1) := (N' BK418.out 1).trans rfl; have hcz13_2 : w12.cell? ⟨gb418, 2, none⟩ = some (.bool a0_2) := (N' BK418.out 2).trans rfl; have hfz13_0 := Y' BK418.out 0; have hfz13_1 := Y' BK418.out 1; have hfz13_2 := Y' BK418.out 2) | ((with_reducible refine gate_callee (f := 37) rfl ?_); refine goesL_ (some 11) rfl rfl Try.func37 (by kernel_rfl) rfl #[.agg #[.int .i64 a0_0, .int .i64 a0_1, .bool a0_2], .slice A1 l1.length c1] rfl (by (try simp only [List.map_toArray, List.map_cons, List.map_nil]); first | done | rfl | (simp only [List.length_drop, List.length_take]; rfl)) ?_; (with_reducible refine (impl_wayCode.calls k a0_0 a0_1 a0_2 _ _ l1 t419 _ ?side1 ?side2 A4.out).mono ?_); (case side1 => exact qT (X' HR1.out HB.out)); (case side2 => exact HC1.out); rintro e w14 ⟨rfl, hb⟩; refine ⟨_, rfl, ?_⟩; have n0_ := A' (O' (g := gb418) (qB BK418.out) hb); have n1_ := A' (W' (qK1 HB.out GE418.out) hb); clear BK418; clear HB; have BK418 := n0_; have HB := n1_; clear n0_ n1_; (try clear hb); (try clear hb2); (try clear hk); (try clear hi))); go_ret2; exact ⟨qE, qK1 HB.out GE418.out⟩

end Go.Proofs.Ytifdihbndlmgpaa.HCro
