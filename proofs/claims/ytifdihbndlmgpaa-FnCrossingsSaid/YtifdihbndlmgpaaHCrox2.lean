-- Written by a program for this claim (the functions that the statement reaches, and that the program's code comes to them).
import Derived.Test.YtifdihbndlmgpaaHCrox0
import Derived.Test.YtifdihbndlmgpaaHCrox1
namespace Go.Proofs.Ytifdihbndlmgpaa.HCro
open Go.RowKit Go.Proofs.YtifdihbndlmgpaaW.PrintWords Go.Proofs.YtifdihbndlmgpaaW.PrintLast Go.Proofs.YtifdihbndlmgpaaW.PrintMore
attribute [local go_sem] max2_int min2_int max_two min_two max_three min_three max_four min_four   -- for this text's walks alone
set_option linter.unusedVariables false
set_option linter.unusedSimpArgs false

attribute [local go_sem high] eqA53
/-! ### impl_partsOfWay: function 38 -/
def impl_partsOfWay.l0 : Nat → List (S53) → List (List Int) → Int → Option ((List (List Int)))
 | 0, _, _, _ => none
 | k + 1, x0, x3, x4 => if x4 < (x0.length : Int) then (if 2 ≤ 35184372088832 then ((some (List.replicate 2 0 : List Int)).bind fun y104 => (if 0 ≤ (wrap64 (x4 - 1)) then (if (wrap64 (x4 - 1)) < (x0.length : Int) then (if 0 ≤ ((rd_T53 x0 (wrap64 (x4 - 1))).f0) then (if ((rd_T53 x0 (wrap64 (x4 - 1))).f0) < (y104.length : Int) then (if 0 ≤ x4 then (if 0 ≤ ((rd_T53 x0 x4).f0) then (if ((rd_T53 x0 x4).f0) < (y104.length : Int) then (if x3.length < 5864062014805 then (impl_partsOfWay.l0 k x0 (x3 ++ [((y104.set (((rd_T53 x0 (wrap64 (x4 - 1))).f0) : Int).toNat ((rd_T53 x0 (wrap64 (x4 - 1))).f1)).set (((rd_T53 x0 x4).f0) : Int).toNat ((rd_T53 x0 x4).f1))]) (wrap64 (x4 + 1))) else (none)) else (none)) else (none)) else (none)) else (none)) else (none)) else (none)) else (none))) else (none)) else (some x3)
def impl_partsOfWay.f (k : Nat) (l0 : List (S53)) : Option ((List (List Int))) := impl_partsOfWay.l0 k l0 (([] : List (List Int))) 1
theorem impl_partsOfWay.mono_l : ∀ k, (∀ y0 y1 y2, LeO (impl_partsOfWay.l0 k y0 y1 y2) (impl_partsOfWay.l0 (k + 1) y0 y1 y2))
 | 0 => fun _ _ _ r h => by simp [impl_partsOfWay.l0] at h
 | k + 1 => by
  have ih0 := impl_partsOfWay.mono_l k
  ·intro y0 y1 y2
   unfold impl_partsOfWay.l0
   repeat' first
   | (with_reducible exact ih0 _ _ _)
   | (with_reducible exact LeO.refl _)
   | (with_reducible exact LeO.none _)
   | (with_reducible refine LeO.ite ?_ ?_)
   | (with_reducible refine LeO.bind ?_ (fun _ => ?_))
   | exact ih0 _ _ _
   | exact LeO.none _
   | refine LeO.ite ?_ ?_
   | refine LeO.bind ?_ (fun _ => ?_)
theorem impl_partsOfWay.mono : ∀ a0 k, LeO (impl_partsOfWay.f k a0) (impl_partsOfWay.f (k + 1) a0) := by
 intro a0 k
 have ih0 := impl_partsOfWay.mono_l k
 unfold impl_partsOfWay.f
 repeat' first
   | (with_reducible exact ih0 _ _ _)
   | (with_reducible exact LeO.refl _)
   | (with_reducible exact LeO.none _)
   | (with_reducible refine LeO.ite ?_ ?_)
   | (with_reducible refine LeO.bind ?_ (fun _ => ?_))
   | exact ih0 _ _ _
   | exact LeO.none _
   | refine LeO.ite ?_ ?_
   | refine LeO.bind ?_ (fun _ => ?_)
def impl_partsOfWay.T6 : Bool × List (List Nat × List Nat) := (true, [([], []), ([], []), ([], []), ([2], [2]), ([1, 3], [1, 3]), ([4], [4]), ([5], [5]), ([], []), ([], []), ([8], [8]), ([7, 9], [7, 9]), ([10], [10]), ([11], [11]), ([0, 6, 0, 1, 2, 3, 4, 5, 6, 7, 8, 9, 10, 11, 12], [0, 6]), ([13, 12, 0, 1, 2, 3, 4, 5, 6, 7, 8, 9, 10, 11, 12], [12, 13])])
def impl_partsOfWay.B6 : List Nat := [0, 0, 0, 4, 14, 30, 62, 0, 0, 256, 896, 1920, 3968, 8191, 16383]
theorem impl_partsOfWay.tab6 : rtab .any (opsOf Try.f38 6) = impl_partsOfWay.T6 := by kernel_rfl
theorem impl_partsOfWay.bits6 : waitsOk impl_partsOfWay.T6.2 impl_partsOfWay.B6 = true := by kernel_rfl
def impl_partsOfWay.T7 : Bool × List (List Nat × List Nat) := (true, [([], []), ([], []), ([], []), ([1, 2], [1, 2]), ([3], [3]), ([4], [4]), ([], []), ([], []), ([6, 7], [6, 7]), ([8], [8]), ([9], [9]), ([0, 5, 0, 1, 2, 3, 4, 5, 6, 7, 8, 9, 10], [0, 5]), ([11, 10, 0, 1, 2, 3, 4, 5, 6, 7, 8, 9, 10], [10, 11])])
def impl_partsOfWay.B7 : List Nat := [0, 0, 0, 6, 14, 30, 0, 0, 192, 448, 960, 2047, 4095]
theorem impl_partsOfWay.tab7 : rtab .any (opsOf Try.f38 7) = impl_partsOfWay.T7 := by kernel_rfl
theorem impl_partsOfWay.bits7 : waitsOk impl_partsOfWay.T7.2 impl_partsOfWay.B7 = true := by kernel_rfl
@[reducible] def impl_partsOfWay.y' : Bool := true
@[reducible] def impl_partsOfWay.n' : Bool := false
theorem impl_partsOfWay.z1' {α : Type} (l : List α) (i : Nat) (a : α) : l.toArray.setIfInBounds i a = (l.set i a).toArray := List.setIfInBounds_toArray ..
theorem impl_partsOfWay.z2' {α : Type} (a b : α) (l : List α) : (a :: l).set 0 b = b :: l := rfl
theorem impl_partsOfWay.z3' {α : Type} (a b : α) (l : List α) (n : Nat) : (a :: l).set (n + 1) b = a :: l.set n b := rfl
theorem impl_partsOfWay.G : type_of% @Aside0.mk := @Aside0.mk
theorem impl_partsOfWay.J : type_of% @pw_below_drewN := @pw_below_drewN
theorem impl_partsOfWay.L : type_of% @below_drew1 := @below_drew1
theorem impl_partsOfWay.M : type_of% @below_alloc := @below_alloc
set_option maxHeartbeats 8000000 in
set_option maxRecDepth 100000 in
theorem impl_partsOfWay.calls (k : Nat) (A0 : Option Addr) (c0 : Nat) (l0 : List (S53)) (r : List (List Int)) (w : World) (hr0 : Kd.C k53 w A0 l0.length l0) (hc0 : l0.length ≤ c0) (h : impl_partsOfWay.f k l0 = some r) :
  Calls Try.prog 38 #[.slice A0 l0.length c0] w fun e w' => ∃ v0_ : Value, e = .returned (v0_) ∧ Kd.S (Kd.slice 2 (Kd.int .i64)) 69 w' w.heap.size (fun _ => True) v0_ r ∧ Below w.heap.size w w' := by
 have HR0 := G hr0; have HC0 := G hc0; clear hr0 hc0; have HB := G (Below.refl w.heap.size w); have H : (impl_partsOfWay.l0 k l0 (([] : List (List Int))) 1) = some r := h; clear h; obtain ⟨y101, hy101⟩ : ∃ y_ : List (List Int), y_ = (([] : List (List Int))) := ⟨_, rfl⟩
 replace H : (impl_partsOfWay.l0 k l0 y101 1) = some r := by first | (rw [hy101]; with_reducible exact H) | (have H2_ := (Option.bind_some _ _).symm.trans H; rw [hy101]; with_reducible exact H2_) | (have H2_ := (Option.bind_some _ _).symm.trans H; with_reducible exact H2_) | with_reducible exact H | (rw [hy101]; exact H) | exact H
 have Ny101 := G hy101; clear hy101; have H' := G H; clear H; go_enter Try.func38, Try.ntmps38; go_wp2_with (first | ((with_reducible refine gate_dst (N := 6) rfl ?_); refine Kd.S_lit (Kd.slice 2 (Kd.int .i64)) _ 69 ?hg (N := 6) ?hd (xs := ([] : List (List Int))) (inner := []) (ok := fun _ => True) (okp := fun _ => True) ?hr ?hp (fun _ hk => hk) trivial (Below.refl _ _) (Nat.le_refl _) (by simp) ?_; (case hd => rfl); (case hg => rfl); (case hr => first | (go_simp; done) | (go_simp; rfl)); (case hp => exact (Reps.none _ _)); intro v102 w2 ho3 hb hg_ hnew_; clear hg_ hnew_; (first | rw [← Ny101.out] at ho3 | (simp only [Int.reduceToNat] at ho3; rw [← Ny101.out] at ho3)); have n0_ := G (Kd.S_lower ho3 (below_size (by repeat (first | (with_reducible first | exact HB.out | apply M | apply J | apply L) | exact HB.out)))); have n1_ := G (below_step (by repeat (first | (with_reducible first | exact HB.out | apply M | apply J | apply L) | exact HB.out)) hb); clear HB; have HO103 := n0_; have HB := n1_; clear n0_ n1_; clear hb ho3))
 go_loopg [3, 4] k (fun kq v3 v4 w' => ∃ (x3_1 : List (List Int)) (x4_1 : Int), v4 = .int .i64 x4_1 ∧ Aside0 (impl_partsOfWay.l0 kq l0 x3_1 x4_1 = some r) ∧ Aside0 (kq ≤ k) ∧ Aside0 (Kd.S (Kd.slice 2 (Kd.int .i64)) 69 w' w.heap.size (fun _ => True) v3 x3_1) ∧ Aside0 (Below w.heap.size w w'))
 case atStart => exact ⟨(y101), (1), (by first | rfl | (simp; done) | (simp [*]; done)), H', ⟨Nat.le_refl _⟩, ⟨by (with_reducible repeat (first | apply Kd.S_alloc | apply Kd.S_drewN | apply Kd.S_drew)); exact HO103.out⟩, ⟨by repeat (first | (with_reducible first | exact HB.out | apply M | apply J | apply L) | exact HB.out)⟩⟩
 case round =>
  clear H'; try clear p2
  try clear c3
  obtain ⟨x3_1, x4_1, rfl, HA, HK1, HO_3, HB⟩ := hrel
  cases gk with
  | zero => exact absurd HA.out (by simp [impl_partsOfWay.l0])
  | succ k1 =>
   have H := HA.out; clear HA; simp only [impl_partsOfWay.l0] at H
   by_cases c4 : x4_1 < (l0.length : Int)
   ·rw [if_pos c4] at H; have c4b0 : decide (x4_1 < (l0.length : Int)) = true := decide_eq_true c4; clear c4
    by_cases c5 : 2 ≤ 35184372088832
    ·rw [if_pos c5] at H; have c5b0 := eq_true c5; have c5b1 : decide (2 ≤ 35184372088832) = true := decide_eq_true c5; clear c5; obtain ⟨y104, hy104⟩ : ∃ y_ : List Int, y_ = (List.replicate 2 0) := ⟨_, rfl⟩
     replace H : (if 0 ≤ (wrap64 (x4_1 - 1)) then (if (wrap64 (x4_1 - 1)) < (l0.length : Int) then (if 0 ≤ ((rd_T53 l0 (wrap64 (x4_1 - 1))).f0) then (if ((rd_T53 l0 (wrap64 (x4_1 - 1))).f0) < (y104.length : Int) then (if 0 ≤ x4_1 then (if 0 ≤ ((rd_T53 l0 x4_1).f0) then (if ((rd_T53 l0 x4_1).f0) < (y104.length : Int) then (if x3_1.length < 5864062014805 then (impl_partsOfWay.l0 k1 l0 (x3_1 ++ [((y104.set (((rd_T53 l0 (wrap64 (x4_1 - 1))).f0) : Int).toNat ((rd_T53 l0 (wrap64 (x4_1 - 1))).f1)).set (((rd_T53 l0 x4_1).f0) : Int).toNat ((rd_T53 l0 x4_1).f1))]) (wrap64 (x4_1 + 1))) else (none)) else (none)) else (none)) else (none)) else (none)) else (none)) else (none)) else (none)) = some r := by first | (rw [hy104]; with_reducible exact H) | (have H2_ := (Option.bind_some _ _).symm.trans H; rw [hy104]; with_reducible exact H2_) | (have H2_ := (Option.bind_some _ _).symm.trans H; with_reducible exact H2_) | with_reducible exact H | (rw [hy104]; exact H) | exact H
     have Ny104 := G hy104; clear hy104; obtain ⟨ji6, hji6⟩ : ∃ j_ : Int, (wrap64 (x4_1 - 1)) = j_ := ⟨_, rfl⟩
     replace H : (if 0 ≤ (ji6) then (if (ji6) < (l0.length : Int) then (if 0 ≤ ((rd_T53 l0 (ji6)).f0) then (if ((rd_T53 l0 (ji6)).f0) < (y104.length : Int) then (if 0 ≤ x4_1 then (if 0 ≤ ((rd_T53 l0 x4_1).f0) then (if ((rd_T53 l0 x4_1).f0) < (y104.length : Int) then (if x3_1.length < 5864062014805 then (impl_partsOfWay.l0 k1 l0 (x3_1 ++ [((y104.set (((rd_T53 l0 (ji6)).f0) : Int).toNat ((rd_T53 l0 (ji6)).f1)).set (((rd_T53 l0 x4_1).f0) : Int).toNat ((rd_T53 l0 x4_1).f1))]) (wrap64 (x4_1 + 1))) else (none)) else (none)) else (none)) else (none)) else (none)) else (none)) else (none)) else (none)) = some r := by first | (rw [hji6] at H; exact H) | (simp only [hji6] at H ⊢; exact H)
     have hji6w : (IntKind.i64.wrap (x4_1 - 1)) = ji6 := (i64_w _).trans hji6
     by_cases c7 : 0 ≤ (ji6)
     ·rw [if_pos c7] at H; have c7b0 : decide (0 ≤ (ji6)) = true := decide_eq_true c7; clear c7
      by_cases c8 : (ji6) < (l0.length : Int)
      ·rw [if_pos c8] at H; have c8b0 : decide ((ji6) < (l0.length : Int)) = true := decide_eq_true c8; clear c8
       by_cases c9 : 0 ≤ ((rd_T53 l0 (ji6)).f0)
       ·rw [if_pos c9] at H; have c9b0 : decide (0 ≤ ((rd_T53 l0 (ji6)).f0)) = true := decide_eq_true c9; clear c9
        by_cases c10 : ((rd_T53 l0 (ji6)).f0) < (y104.length : Int)
        ·rw [if_pos c10] at H; have c10b0 : decide (((rd_T53 l0 (ji6)).f0) < (y104.length : Int)) = true := decide_eq_true c10; clear c10; obtain ⟨y109, hy109⟩ : ∃ y_ : List Int, y_ = (y104.set (((rd_T53 l0 (ji6)).f0) : Int).toNat ((rd_T53 l0 (ji6)).f1)) := ⟨_, rfl⟩
         replace H : (if 0 ≤ x4_1 then (if 0 ≤ ((rd_T53 l0 x4_1).f0) then (if ((rd_T53 l0 x4_1).f0) < (y104.length : Int) then (if x3_1.length < 5864062014805 then (impl_partsOfWay.l0 k1 l0 (x3_1 ++ [(y109.set (((rd_T53 l0 x4_1).f0) : Int).toNat ((rd_T53 l0 x4_1).f1))]) (wrap64 (x4_1 + 1))) else (none)) else (none)) else (none)) else (none)) = some r := by first | (rw [hy109]; with_reducible exact H) | (have H2_ := (Option.bind_some _ _).symm.trans H; rw [hy109]; with_reducible exact H2_) | (have H2_ := (Option.bind_some _ _).symm.trans H; with_reducible exact H2_) | with_reducible exact H | (rw [hy109]; exact H) | exact H
         have Ny109 := G hy109; clear hy109
         by_cases c12 : 0 ≤ x4_1
         ·rw [if_pos c12] at H; have c12b0 : decide (0 ≤ x4_1) = true := decide_eq_true c12; clear c12
          by_cases c13 : 0 ≤ ((rd_T53 l0 x4_1).f0)
          ·rw [if_pos c13] at H; have c13b0 : decide (0 ≤ ((rd_T53 l0 x4_1).f0)) = true := decide_eq_true c13; clear c13
           by_cases c14 : ((rd_T53 l0 x4_1).f0) < (y104.length : Int)
           ·rw [if_pos c14] at H; have c14b0 : decide (((rd_T53 l0 x4_1).f0) < (y104.length : Int)) = true := decide_eq_true c14; clear c14; obtain ⟨y112, hy112⟩ : ∃ y_ : List Int, y_ = (y109.set (((rd_T53 l0 x4_1).f0) : Int).toNat ((rd_T53 l0 x4_1).f1)) := ⟨_, rfl⟩
            replace H : (if x3_1.length < 5864062014805 then (impl_partsOfWay.l0 k1 l0 (x3_1 ++ [y112]) (wrap64 (x4_1 + 1))) else (none)) = some r := by first | (rw [hy112]; with_reducible exact H) | (have H2_ := (Option.bind_some _ _).symm.trans H; rw [hy112]; with_reducible exact H2_) | (have H2_ := (Option.bind_some _ _).symm.trans H; with_reducible exact H2_) | with_reducible exact H | (rw [hy112]; exact H) | exact H
            have Ny112 := G hy112; clear hy112
            by_cases c16 : x3_1.length < 5864062014805
            ·rw [if_pos c16] at H; have LMc16 := G c16; clear c16; obtain ⟨y113, hy113⟩ : ∃ y_ : List (List Int), y_ = (x3_1 ++ [y112]) := ⟨_, rfl⟩
             replace H : (impl_partsOfWay.l0 k1 l0 y113 (wrap64 (x4_1 + 1))) = some r := by first | (rw [hy113]; with_reducible exact H) | (have H2_ := (Option.bind_some _ _).symm.trans H; rw [hy113]; with_reducible exact H2_) | (have H2_ := (Option.bind_some _ _).symm.trans H; with_reducible exact H2_) | with_reducible exact H | (rw [hy113]; exact H) | exact H
             have Ny113 := G hy113; clear hy113; have H' := G H; clear H; try go_wp2_with (first | ((with_reducible refine gate_dst (N := 13) rfl ?_); refine Kd.R_make (Kd.int .i64) _ 2 rfl (N := 13) rfl 69 _ _ rfl 2 rfl rfl Try.underlying69 (.int .i64 0) 8 info2 rfl (by decide) (by omega) 0 (ok := fun _ => True) (okp := fun _ => True) rfl (fun _ hk => hk) trivial (by omega) (by omega) (Below.refl _ _) (Nat.le_refl _) ?_; intro v105 w17 ho18 hb hg_ hnew_; clear hg_ hnew_; (first | rw [← Ny104.out] at ho18 | (simp only [Int.reduceToNat] at ho18; rw [← Ny104.out] at ho18)); have n0_ := G (Kd.S_elder' (by (with_reducible repeat (first | apply Kd.S_alloc | apply Kd.S_drewN | apply Kd.S_drew)); exact HO_3.out) (Kd.R_base ho18) hb); have n1_ := G (Kd.R_lower ho18 (below_size (by repeat (first | (with_reducible first | exact HB.out | apply M | apply J | apply L) | exact HB.out)))); have n2_ := G (below_step (by repeat (first | (with_reducible first | exact HB.out | apply M | apply J | apply L) | exact HB.out)) hb); clear HO_3; clear HB; have HO_3 := n0_; have HO106 := n1_; have HB := n2_; clear n0_ n1_ n2_; clear hb ho18))
             have n0_ := G (Kd.S_drew HO_3.out); have n1_ := G (Kd.R_drew HO106.out); have n2_ := G (L HB.out); clear HO_3; clear HO106; clear HB; have HO_3 := n0_; have HO106 := n1_; have HB := n2_; clear n0_ n1_ n2_; have p107 : 0 ≤ ((ji6) : Int) := of_decide_eq_true (by first | (with_reducible assumption) | assumption); have q107 : (ji6) < (l0.length : Int) := of_decide_eq_true (by first | (with_reducible assumption) | assumption); obtain ⟨ad107, e107, hx107_0, hx107_1⟩ := at_T53 HR0.out (ji6) p107 q107; have hw107_1 := hx107_1; have hw107_0 := hx107_0
             cases e107
             (first | (replace hx107_0 := (HB.out.cell (World.block_lt_of_cell? w _ hx107_0)).trans hx107_0) | skip); (first | (replace hx107_1 := (HB.out.cell (World.block_lt_of_cell? w _ hx107_1)).trans hx107_1) | skip); replace p107 := eq_true p107; replace q107 := eq_true q107; have p108 : 0 ≤ ((ji6) : Int) := of_decide_eq_true (by first | (with_reducible assumption) | assumption); have q108 : (ji6) < (l0.length : Int) := of_decide_eq_true (by first | (with_reducible assumption) | assumption); obtain ⟨ad108, e108, hx108_0, hx108_1⟩ := at_T53 HR0.out (ji6) p108 q108; have hw108_1 := hx108_1; have hw108_0 := hx108_0; obtain rfl : ad107 = ad108 := (by injection e108)
             (first | (replace hx108_0 := (HB.out.cell (World.block_lt_of_cell? w _ hx108_0)).trans hx108_0) | skip); (first | (replace hx108_1 := (HB.out.cell (World.block_lt_of_cell? w _ hx108_1)).trans hx108_1) | skip); replace p108 := eq_true p108; replace q108 := eq_true q108; have p11 : 0 ≤ (((rd_T53 l0 (ji6)).f0) : Int) := of_decide_eq_true (by first | (with_reducible assumption) | assumption); have q11 : (((rd_T53 l0 (ji6)).f0) : Int) < ((y104.length : Int) : Int) := of_decide_eq_true (by first | (with_reducible assumption) | assumption); obtain ⟨go11, co11, eo11, gb11, gl11, cl11, HG11⟩ := Kd.R_form HO106.out (by omega); (first | cases eo11 | (injection eo11 with ea_ en_ ec_; (first | subst ea_ | (injection ea_ with ea_; subst ea_)); subst ec_; clear en_)); have GB11 := G gb11; have GG11 := G HG11; clear gb11 gl11 HG11; obtain ⟨hx11_0, hf11_0⟩ := Kd.R_celln 0 HO106.out (((rd_T53 l0 (ji6)).f0) : Int) p11 q11; replace p11 := eq_true p11; replace q11 := eq_true q11; have HP20 := Kd.R_putn HO106.out (((rd_T53 l0 (ji6)).f0) : Int) ((rd_T53 l0 (ji6)).f1); rw [← Ny109.out] at HP20; have HQ20 := G HP20; clear HP20; refine start_ (n := 15) (S := fun w' => w'.cell? (ad107.add (((ji6)).toNat * 2)) = some (.int .i64 ((rd_T53 l0 (ji6)).f0)) ∧ w'.cell? ⟨(ad107.add (((ji6)).toNat * 2)).block, (ad107.add (((ji6)).toNat * 2)).off + 1, none⟩ = some (.int .i64 ((rd_T53 l0 (ji6)).f1)) ∧ w'.cell? (ad107.add (((ji6)).toNat * 2)) = some (.int .i64 ((rd_T53 l0 (ji6)).f0)) ∧ w'.cell? ⟨(ad107.add (((ji6)).toNat * 2)).block, (ad107.add (((ji6)).toNat * 2)).off + 1, none⟩ = some (.int .i64 ((rd_T53 l0 (ji6)).f1))) (ds := [14]) #[n', n', n', n', n', n', n', n', n', n', n', n', n', n', n'] (by kernel_rfl) rfl rfl ⟨((HB.out.cell (World.block_lt_of_cell? w _ hw107_0)).trans hw107_0), ((HB.out.cell (World.block_lt_of_cell? w _ hw107_1)).trans hw107_1), ((HB.out.cell (World.block_lt_of_cell? w _ hw108_0)).trans hw108_0), ((HB.out.cell (World.block_lt_of_cell? w _ hw108_1)).trans hw108_1)⟩ (fun hHeld => ?_); refine with_tabW impl_partsOfWay.tab6 impl_partsOfWay.bits6 (fun HT_ HW_ => ?_)
             generalize w17.drew = w19 at HO_3 HO106 HB GG11 HQ20 hf11_0 hx107_0 hx107_1 hx108_0 hx108_1 hx11_0 hHeld ⊢
             refine pure_ (i := 0) (N := some 14) (v := ?_) (a' := ?_) #[y', n', n', n', n', n', n', n', n', n', n', n', n', n', n'] rfl rfl (any_of HT_.out (by kernel_rfl)) (fun _ _ _ h => h) (Or.inl ⟨by rfl, ?_⟩) ?_ ?_; rotate_left
             ·intro w'; go_simp; with_reducible rfl
             rotate_left
             ·simp only [Act.put, z1', z2', z3', i64_w, i32_w]
              rfl
             refine pure_ (i := 1) (N := some 15) (v := ?_) (a' := ?_) #[y', y', n', n', n', n', n', n', n', n', n', n', n', n', n'] rfl rfl (any_of HT_.out (by kernel_rfl)) (fun _ _ _ h => h) (Or.inl ⟨by rfl, ?_⟩) ?_ ?_; rotate_left
             ·intro w'; go_simp; with_reducible rfl
             rotate_left
             ·simp only [Act.put, z1', z2', z3', i64_w, i32_w]
              rfl
             refine pure_ (i := 2) (N := some 16) (v := ?_) (a' := ?_) #[y', y', y', n', n', n', n', n', n', n', n', n', n', n', n'] rfl rfl (any_of HT_.out (by kernel_rfl)) (fun _ _ _ h => h) (Or.inl ⟨by rfl, ?_⟩) ?_ ?_; rotate_left
             ·intro w'; go_simp; with_reducible rfl
             rotate_left
             ·simp only [Act.put, z1', z2', z3', i64_w, i32_w]
              rfl
             refine pure_ (i := 3) (N := some 17) (v := ?_) (a' := ?_) #[y', y', y', y', n', n', n', n', n', n', n', n', n', n', n'] rfl rfl (any_of HT_.out (by kernel_rfl)) (fun _ _ _ h => h) (Or.inl ⟨by rfl, ?_⟩) ?_ ?_; rotate_left
             ·intro w'; go_simp; with_reducible rfl
             rotate_left
             ·simp only [Act.put, z1', z2', z3', i64_w, i32_w]
              rfl
             refine pure_ (i := 4) (N := some 18) (v := ?_) (a' := ?_) #[y', y', y', y', y', n', n', n', n', n', n', n', n', n', n'] rfl rfl (any_of HT_.out (by kernel_rfl)) (fun _ _ _ h => h) (Or.inl ⟨by rfl, ?_⟩) ?_ ?_; rotate_left
             ·intro w'; go_simp; with_reducible rfl
             rotate_left
             ·simp only [Act.put, z1', z2', z3', i64_w, i32_w]
              rfl
             refine pure_ (i := 5) (N := some 19) (v := ?_) (a' := ?_) #[y', y', y', y', y', y', n', n', n', n', n', n', n', n', n'] rfl rfl (any_of HT_.out (by kernel_rfl)) (fun _ _ _ h => h) (Or.inl ⟨by rfl, ?_⟩) ?_ ?_; rotate_left
             ·intro w'; go_simp; with_reducible rfl
             rotate_left
             ·simp only [Act.put, z1', z2', z3', i64_w, i32_w]
              rfl
             refine pure_ (i := 7) (N := some 21) (v := ?_) (a' := ?_) #[y', y', y', y', y', y', n', y', n', n', n', n', n', n', n'] rfl rfl (any_of HT_.out (by kernel_rfl)) (fun _ _ _ h => h) (Or.inl ⟨by rfl, ?_⟩) ?_ ?_; rotate_left
             ·intro w'; go_simp; with_reducible rfl
             rotate_left
             ·simp only [Act.put, z1', z2', z3', i64_w, i32_w]
              rfl
             refine pure_ (i := 8) (N := some 22) (v := ?_) (a' := ?_) #[y', y', y', y', y', y', n', y', y', n', n', n', n', n', n'] rfl rfl (any_of HT_.out (by kernel_rfl)) (fun _ _ _ h => h) (Or.inl ⟨by rfl, ?_⟩) ?_ ?_; rotate_left
             ·intro w'; go_simp; with_reducible rfl
             rotate_left
             ·simp only [Act.put, z1', z2', z3', i64_w, i32_w]
              rfl
             refine pure_ (i := 9) (N := some 23) (v := ?_) (a' := ?_) #[y', y', y', y', y', y', n', y', y', y', n', n', n', n', n'] rfl rfl (any_of HT_.out (by kernel_rfl)) (fun _ _ _ h => h) (Or.inl ⟨by rfl, ?_⟩) ?_ ?_; rotate_left
             ·intro w'; go_simp; with_reducible rfl
             rotate_left
             ·simp only [Act.put, z1', z2', z3', i64_w, i32_w]
              rfl
             refine pure_ (i := 10) (N := some 24) (v := ?_) (a' := ?_) #[y', y', y', y', y', y', n', y', y', y', y', n', n', n', n'] rfl rfl (any_of HT_.out (by kernel_rfl)) (fun _ _ _ h => h) (Or.inl ⟨by rfl, ?_⟩) ?_ ?_; rotate_left
             ·intro w'; go_simp; with_reducible rfl
             rotate_left
             ·simp only [Act.put, z1', z2', z3', i64_w, i32_w]
              rfl
             refine pure_ (i := 11) (N := some 25) (v := ?_) (a' := ?_) #[y', y', y', y', y', y', n', y', y', y', y', y', n', n', n'] rfl rfl (any_of HT_.out (by kernel_rfl)) (fun _ _ _ h => h) (Or.inl ⟨by rfl, ?_⟩) ?_ ?_; rotate_left
             ·intro w'; go_simp; with_reducible rfl
             rotate_left
             ·simp only [Act.put, z1', z2', z3', i64_w, i32_w]
              rfl
             refine take_ (i := 6) (N := some 20) (v := ?_) (a' := ?_) #[y', y', y', y', y', y', y', y', y', y', y', y', n', n', n'] rfl rfl (take_ofW HT_.out HW_.out (by kernel_rfl)) (fun _ _ _ h => h) (Or.inl ⟨by rfl, ?_⟩) hHeld ?_ ?_; rotate_left
             ·rintro w' ⟨s0, s1, s2, s3⟩; go_simp; with_reducible rfl
             rotate_left
             ·simp only [Act.put, z1', z2', z3', i64_w, i32_w]
              rfl
             refine take_ (i := 12) (N := some 26) (v := ?_) (a' := ?_) #[y', y', y', y', y', y', y', y', y', y', y', y', y', n', n'] rfl rfl (take_ofW HT_.out HW_.out (by kernel_rfl)) (fun _ _ _ h => h) (Or.inl ⟨by rfl, ?_⟩) hHeld ?_ ?_; rotate_left
             ·rintro w' ⟨s0, s1, s2, s3⟩; go_simp; with_reducible rfl
             rotate_left
             ·simp only [Act.put, z1', z2', z3', i64_w, i32_w]
              rfl
             refine pure_ (i := 13) (N := some 27) (v := ?_) (a' := ?_) #[y', y', y', y', y', y', y', y', y', y', y', y', y', y', n'] rfl rfl (any_of HT_.out (by kernel_rfl)) (fun _ _ _ h => h) (Or.inl ⟨by rfl, ?_⟩) ?_ ?_; rotate_left
             ·intro w'; go_simp; with_reducible rfl
             rotate_left
             ·simp only [Act.put, z1', z2', z3', i64_w, i32_w]
              rfl
             refine last_ (i := 14) (N := none) #[y', y', y', y', y', y', y', y', y', y', y', y', y', y', y'] rfl rfl (one_of HT_.out (by kernel_rfl)) (by decide) (fun K hK => ?_); refine skip_ (w1 := ?_) (by rfl) rfl ?_ ?_; rotate_left
             ·go_simp
              rfl
             refine hK.out _ _ ?_; clear hK K; refine done_ (done_of HT_.out (by kernel_rfl)) ?_; try go_wp2
             have n0_ : Aside0 (Kd.S (Kd.slice 2 (Kd.int .i64)) 69 (w19.setCell ⟨go11, (((rd_T53 l0 (ji6)).f0) : Int).toNat, none⟩ (.int .i64 ((rd_T53 l0 (ji6)).f1))) w.heap.size (fun k_ => some k_ ≠ (.slice (some ⟨go11, 0, none⟩) y104.length co11 : Value).ownBlock) u3 x3_1) := ⟨by (with_reducible repeat (first | apply Kd.S_alloc | apply Kd.S_drewN | apply Kd.S_drew)); exact Kd.S_mono (Kd.S_far (p := ⟨go11, (((rd_T53 l0 (ji6)).f0) : Int).toNat, none⟩) (Kd.S_mono HO_3.out (fun k_ hk => (⟨hk, fun e_ => hk.2 (by rw [e_]; rfl)⟩ : _ ∧ k_ ≠ go11))) (fun _ hk => hk.2) (.int .i64 ((rd_T53 l0 (ji6)).f1))) (fun _ hk => hk.1.2)⟩
             have n1_ : Aside0 (Kd.R (Kd.int .i64) 2 (w19.setCell ⟨go11, (((rd_T53 l0 (ji6)).f0) : Int).toNat, none⟩ (.int .i64 ((rd_T53 l0 (ji6)).f1))) w.heap.size (fun _ => True) (.slice (some ⟨go11, 0, none⟩) y104.length co11) y109) := ⟨by (with_reducible repeat (first | apply Kd.R_alloc | apply Kd.R_drewN | apply Kd.R_drew)); exact HQ20.out⟩
             have n2_ : Aside0 (Below w.heap.size w (w19.setCell ⟨go11, (((rd_T53 l0 (ji6)).f0) : Int).toNat, none⟩ (.int .i64 ((rd_T53 l0 (ji6)).f1)))) := ⟨by repeat (first | (with_reducible first | exact HB.out | apply M | apply J | apply L | refine below_set ?_ GB11.out) | exact HB.out)⟩
             (try clear HO_3); (try clear HO106); (try clear HB)
             generalize (w19.setCell ⟨go11, (((rd_T53 l0 (ji6)).f0) : Int).toNat, none⟩ (.int .i64 ((rd_T53 l0 (ji6)).f1))) = w21 at n0_ n1_ n2_ ⊢
             have HO_3 := n0_; have HO106 := n1_; have HB := n2_; clear n0_ n1_ n2_; have n0_ := G (Kd.S_drew HO_3.out); have n1_ := G (Kd.R_drew HO106.out); have n2_ := G (L HB.out); clear HO_3; clear HO106; clear HB; have HO_3 := n0_; have HO106 := n1_; have HB := n2_; clear n0_ n1_ n2_; have p110 : 0 ≤ (x4_1 : Int) := of_decide_eq_true (by first | (with_reducible assumption) | assumption); have q110 : x4_1 < (l0.length : Int) := of_decide_eq_true (by first | (with_reducible assumption) | assumption); obtain ⟨ad110, e110, hx110_0, hx110_1⟩ := at_T53 HR0.out x4_1 p110 q110; have hw110_1 := hx110_1; have hw110_0 := hx110_0; obtain rfl : ad107 = ad110 := (by injection e110)
             (first | (replace hx110_0 := (HB.out.cell (World.block_lt_of_cell? w _ hx110_0)).trans hx110_0) | skip); (first | (replace hx110_1 := (HB.out.cell (World.block_lt_of_cell? w _ hx110_1)).trans hx110_1) | skip); replace p110 := eq_true p110; replace q110 := eq_true q110; have p111 : 0 ≤ (x4_1 : Int) := of_decide_eq_true (by first | (with_reducible assumption) | assumption); have q111 : x4_1 < (l0.length : Int) := of_decide_eq_true (by first | (with_reducible assumption) | assumption); obtain ⟨ad111, e111, hx111_0, hx111_1⟩ := at_T53 HR0.out x4_1 p111 q111; have hw111_1 := hx111_1; have hw111_0 := hx111_0; obtain rfl : ad107 = ad111 := (by injection e111)
             (first | (replace hx111_0 := (HB.out.cell (World.block_lt_of_cell? w _ hx111_0)).trans hx111_0) | skip); (first | (replace hx111_1 := (HB.out.cell (World.block_lt_of_cell? w _ hx111_1)).trans hx111_1) | skip); replace p111 := eq_true p111; replace q111 := eq_true q111; have p15 : 0 ≤ (((rd_T53 l0 x4_1).f0) : Int) := of_decide_eq_true (by first | (with_reducible assumption) | assumption); have q15 : (((rd_T53 l0 x4_1).f0) : Int) < ((y104.length : Int) : Int) := of_decide_eq_true (by first | (with_reducible assumption) | assumption); obtain ⟨hx15_0, hf15_0⟩ := Kd.R_celln 0 HO106.out (((rd_T53 l0 x4_1).f0) : Int) p15 q15; replace p15 := eq_true p15; replace q15 := eq_true q15; have HP23 := Kd.R_putn HO106.out (((rd_T53 l0 x4_1).f0) : Int) ((rd_T53 l0 x4_1).f1); rw [← Ny112.out] at HP23; have HQ23 := G HP23; clear HP23; refine start_ (n := 13) (S := fun w' => w'.cell? (ad107.add ((x4_1).toNat * 2)) = some (.int .i64 ((rd_T53 l0 x4_1).f0)) ∧ w'.cell? ⟨(ad107.add ((x4_1).toNat * 2)).block, (ad107.add ((x4_1).toNat * 2)).off + 1, none⟩ = some (.int .i64 ((rd_T53 l0 x4_1).f1)) ∧ w'.cell? (ad107.add ((x4_1).toNat * 2)) = some (.int .i64 ((rd_T53 l0 x4_1).f0)) ∧ w'.cell? ⟨(ad107.add ((x4_1).toNat * 2)).block, (ad107.add ((x4_1).toNat * 2)).off + 1, none⟩ = some (.int .i64 ((rd_T53 l0 x4_1).f1))) (ds := [12]) #[n', n', n', n', n', n', n', n', n', n', n', n', n'] (by kernel_rfl) rfl rfl ⟨((HB.out.cell (World.block_lt_of_cell? w _ hw110_0)).trans hw110_0), ((HB.out.cell (World.block_lt_of_cell? w _ hw110_1)).trans hw110_1), ((HB.out.cell (World.block_lt_of_cell? w _ hw111_0)).trans hw111_0), ((HB.out.cell (World.block_lt_of_cell? w _ hw111_1)).trans hw111_1)⟩ (fun hHeld => ?_); refine with_tabW impl_partsOfWay.tab7 impl_partsOfWay.bits7 (fun HT_ HW_ => ?_)
             generalize w21.drew = w22 at HO_3 HO106 HB HQ20 HQ23 hf15_0 hx110_0 hx110_1 hx111_0 hx111_1 hx15_0 hHeld ⊢
             refine pure_ (i := 0) (N := some 28) (v := ?_) (a' := ?_) #[y', n', n', n', n', n', n', n', n', n', n', n', n'] rfl rfl (any_of HT_.out (by kernel_rfl)) (fun _ _ _ h => h) (Or.inl ⟨by rfl, ?_⟩) ?_ ?_; rotate_left
             ·intro w'; go_simp; with_reducible rfl
             rotate_left
             ·simp only [Act.put, z1', z2', z3', i64_w, i32_w]
              rfl
             refine pure_ (i := 1) (N := some 29) (v := ?_) (a' := ?_) #[y', y', n', n', n', n', n', n', n', n', n', n', n'] rfl rfl (any_of HT_.out (by kernel_rfl)) (fun _ _ _ h => h) (Or.inl ⟨by rfl, ?_⟩) ?_ ?_; rotate_left
             ·intro w'; go_simp; with_reducible rfl
             rotate_left
             ·simp only [Act.put, z1', z2', z3', i64_w, i32_w]
              rfl
             refine pure_ (i := 2) (N := some 30) (v := ?_) (a' := ?_) #[y', y', y', n', n', n', n', n', n', n', n', n', n'] rfl rfl (any_of HT_.out (by kernel_rfl)) (fun _ _ _ h => h) (Or.inl ⟨by rfl, ?_⟩) ?_ ?_; rotate_left
             ·intro w'; go_simp; with_reducible rfl
             rotate_left
             ·simp only [Act.put, z1', z2', z3', i64_w, i32_w]
              rfl
             refine pure_ (i := 3) (N := some 31) (v := ?_) (a' := ?_) #[y', y', y', y', n', n', n', n', n', n', n', n', n'] rfl rfl (any_of HT_.out (by kernel_rfl)) (fun _ _ _ h => h) (Or.inl ⟨by rfl, ?_⟩) ?_ ?_; rotate_left
             ·intro w'; go_simp; with_reducible rfl
             rotate_left
             ·simp only [Act.put, z1', z2', z3', i64_w, i32_w]
              rfl
             refine pure_ (i := 4) (N := some 32) (v := ?_) (a' := ?_) #[y', y', y', y', y', n', n', n', n', n', n', n', n'] rfl rfl (any_of HT_.out (by kernel_rfl)) (fun _ _ _ h => h) (Or.inl ⟨by rfl, ?_⟩) ?_ ?_; rotate_left
             ·intro w'; go_simp; with_reducible rfl
             rotate_left
             ·simp only [Act.put, z1', z2', z3', i64_w, i32_w]
              rfl
             refine pure_ (i := 6) (N := some 34) (v := ?_) (a' := ?_) #[y', y', y', y', y', n', y', n', n', n', n', n', n'] rfl rfl (any_of HT_.out (by kernel_rfl)) (fun _ _ _ h => h) (Or.inl ⟨by rfl, ?_⟩) ?_ ?_; rotate_left
             ·intro w'; go_simp; with_reducible rfl
             rotate_left
             ·simp only [Act.put, z1', z2', z3', i64_w, i32_w]
              rfl
             refine pure_ (i := 7) (N := some 35) (v := ?_) (a' := ?_) #[y', y', y', y', y', n', y', y', n', n', n', n', n'] rfl rfl (any_of HT_.out (by kernel_rfl)) (fun _ _ _ h => h) (Or.inl ⟨by rfl, ?_⟩) ?_ ?_; rotate_left
             ·intro w'; go_simp; with_reducible rfl
             rotate_left
             ·simp only [Act.put, z1', z2', z3', i64_w, i32_w]
              rfl
             refine pure_ (i := 8) (N := some 36) (v := ?_) (a' := ?_) #[y', y', y', y', y', n', y', y', y', n', n', n', n'] rfl rfl (any_of HT_.out (by kernel_rfl)) (fun _ _ _ h => h) (Or.inl ⟨by rfl, ?_⟩) ?_ ?_; rotate_left
             ·intro w'; go_simp; with_reducible rfl
             rotate_left
             ·simp only [Act.put, z1', z2', z3', i64_w, i32_w]
              rfl
             refine pure_ (i := 9) (N := some 37) (v := ?_) (a' := ?_) #[y', y', y', y', y', n', y', y', y', y', n', n', n'] rfl rfl (any_of HT_.out (by kernel_rfl)) (fun _ _ _ h => h) (Or.inl ⟨by rfl, ?_⟩) ?_ ?_; rotate_left
             ·intro w'; go_simp; with_reducible rfl
             rotate_left
             ·simp only [Act.put, z1', z2', z3', i64_w, i32_w]
              rfl
             refine take_ (i := 5) (N := some 33) (v := ?_) (a' := ?_) #[y', y', y', y', y', y', y', y', y', y', n', n', n'] rfl rfl (take_ofW HT_.out HW_.out (by kernel_rfl)) (fun _ _ _ h => h) (Or.inl ⟨by rfl, ?_⟩) hHeld ?_ ?_; rotate_left
             ·rintro w' ⟨s0, s1, s2, s3⟩; go_simp; with_reducible rfl
             rotate_left
             ·simp only [Act.put, z1', z2', z3', i64_w, i32_w]
              rfl
             refine take_ (i := 10) (N := some 38) (v := ?_) (a' := ?_) #[y', y', y', y', y', y', y', y', y', y', y', n', n'] rfl rfl (take_ofW HT_.out HW_.out (by kernel_rfl)) (fun _ _ _ h => h) (Or.inl ⟨by rfl, ?_⟩) hHeld ?_ ?_; rotate_left
             ·rintro w' ⟨s0, s1, s2, s3⟩; go_simp; with_reducible rfl
             rotate_left
             ·simp only [Act.put, z1', z2', z3', i64_w, i32_w]
              rfl
             refine pure_ (i := 11) (N := some 39) (v := ?_) (a' := ?_) #[y', y', y', y', y', y', y', y', y', y', y', y', n'] rfl rfl (any_of HT_.out (by kernel_rfl)) (fun _ _ _ h => h) (Or.inl ⟨by rfl, ?_⟩) ?_ ?_; rotate_left
             ·intro w'; go_simp; with_reducible rfl
             rotate_left
             ·simp only [Act.put, z1', z2', z3', i64_w, i32_w]
              rfl
             refine last_ (i := 12) (N := none) #[y', y', y', y', y', y', y', y', y', y', y', y', y'] rfl rfl (one_of HT_.out (by kernel_rfl)) (by decide) (fun K hK => ?_); refine skip_ (w1 := ?_) (by rfl) rfl ?_ ?_; rotate_left
             ·go_simp
              rfl
             refine hK.out _ _ ?_; clear hK K; refine done_ (done_of HT_.out (by kernel_rfl)) ?_; have n0_ : Aside0 (Kd.S (Kd.slice 2 (Kd.int .i64)) 69 (w22.setCell ⟨go11, (((rd_T53 l0 x4_1).f0) : Int).toNat, none⟩ (.int .i64 ((rd_T53 l0 x4_1).f1))) w.heap.size (fun k_ => some k_ ≠ (.slice (some ⟨go11, 0, none⟩) y104.length co11 : Value).ownBlock) u3 x3_1) := ⟨by (with_reducible repeat (first | apply Kd.S_alloc | apply Kd.S_drewN | apply Kd.S_drew)); exact Kd.S_mono (Kd.S_far (p := ⟨go11, (((rd_T53 l0 x4_1).f0) : Int).toNat, none⟩) (Kd.S_mono HO_3.out (fun k_ hk => (⟨hk, fun e_ => hk (by rw [e_]; rfl)⟩ : _ ∧ k_ ≠ go11))) (fun _ hk => hk.2) (.int .i64 ((rd_T53 l0 x4_1).f1))) (fun _ hk => hk.1)⟩
             have n1_ : Aside0 (Kd.R (Kd.int .i64) 2 (w22.setCell ⟨go11, (((rd_T53 l0 x4_1).f0) : Int).toNat, none⟩ (.int .i64 ((rd_T53 l0 x4_1).f1))) w.heap.size (fun _ => True) (.slice (some ⟨go11, 0, none⟩) y104.length co11) y112) := ⟨by (with_reducible repeat (first | apply Kd.R_alloc | apply Kd.R_drewN | apply Kd.R_drew)); exact HQ23.out⟩
             have n2_ : Aside0 (Below w.heap.size w (w22.setCell ⟨go11, (((rd_T53 l0 x4_1).f0) : Int).toNat, none⟩ (.int .i64 ((rd_T53 l0 x4_1).f1)))) := ⟨by repeat (first | (with_reducible first | exact HB.out | apply M | apply J | apply L | refine below_set ?_ GB11.out) | exact HB.out)⟩
             (try clear HO_3); (try clear HO106); (try clear HB)
             generalize (w22.setCell ⟨go11, (((rd_T53 l0 x4_1).f0) : Int).toNat, none⟩ (.int .i64 ((rd_T53 l0 x4_1).f1))) = w24 at n0_ n1_ n2_ ⊢
             have HO_3 := n0_; have HO106 := n1_; have HB := n2_; clear n0_ n1_ n2_; try go_wp2_with (first | ((with_reducible refine gate_builtin (b := .append) (xs := #[.tmp 40, .tmp 42]) rfl ?_); at_builtin; refine Kd.S_append (Kd.slice 2 (Kd.int .i64)) (w0 := w) w.heap.size rfl (.tmp 40) (.tmp 42) 36 69 (.slice none 0 0) 24 rfl Try.underlying36 info69 rfl (by decide) (by omega) u3 x3_1 y112 [.slice (some ⟨go11, 0, none⟩) y104.length co11] (fun _ => True) (fun k_ => some k_ = (.slice (some ⟨go11, 0, none⟩) y104.length co11 : Value).ownBlock) rfl rfl ?aP (fun k_ hk_ => ((Kd.R_mono (ok' := fun k_ => ((fun _ => True)) k_ ∧ some k_ ≠ (u3 : Value).ownBlock) (Kd.R_apart' (HO106.out) (Kd.S_typed HO_3.out) (by decide)) (fun k_ hk => ⟨trivial, hk.2⟩))).1 k_ hk_.symm) ?aF ?aO ?aB ?aS ?aL ?_; (case aP => exact Kd.M_row (Kd.R_mono (Kd.R_tight rfl (Kd.R_mono (ok' := fun k_ => ((fun _ => True)) k_ ∧ some k_ ≠ (u3 : Value).ownBlock) (Kd.R_apart' (HO106.out) (Kd.S_typed HO_3.out) (by decide)) (fun k_ hk => ⟨trivial, hk.2⟩))) (fun _ h_ => h_))); (case aB => exact (by repeat (first | (with_reducible first | exact HB.out | apply M | apply J | apply L) | exact HB.out))); (case aF => exact (fun _ _ => trivial)); (case aO => exact (by (with_reducible repeat (first | apply Kd.S_alloc | apply Kd.S_drewN | apply Kd.S_drew)); exact Kd.S_mono HO_3.out (fun k_ hk => ⟨trivial, fun e_ => hk e_⟩))); (case aS => exact (below_size (by repeat (first | (with_reducible first | exact HB.out | apply M | apply J | apply L) | exact HB.out)))); (case aL => have := LMc16.out; omega); intro v114 w25 ho hb hg hat; rw [← Ny113.out] at ho; have n0_ := G (hb); have n1_ := G (ho); clear HB; clear HO_3; clear HO106; have HB := n0_; have HO115 := n1_; clear n0_ n1_; clear ho hb hg hat))
             go_roundg k1
             case measure => have := HK1.out; omega
             case rel => exact ⟨(y113), (wrap64 (x4_1 + 1)), (by first | rfl | (simp; done) | (simp [*]; done)), H', ⟨by have := HK1.out; omega⟩, ⟨by (with_reducible repeat (first | apply Kd.S_alloc | apply Kd.S_drewN | apply Kd.S_drew)); exact HO115.out⟩, ⟨by repeat (first | (with_reducible first | exact HB.out | apply M | apply J | apply L) | exact HB.out)⟩⟩
            ·rw [if_neg c16] at H; exact absurd H (by simp)
           ·rw [if_neg c14] at H; exact absurd H (by simp)
          ·rw [if_neg c13] at H; exact absurd H (by simp)
         ·rw [if_neg c12] at H; exact absurd H (by simp)
        ·rw [if_neg c10] at H; exact absurd H (by simp)
       ·rw [if_neg c9] at H; exact absurd H (by simp)
      ·rw [if_neg c8] at H; exact absurd H (by simp)
     ·rw [if_neg c7] at H; exact absurd H (by simp)
    ·rw [if_neg c5] at H; exact absurd H (by simp)
   ·rw [if_neg c4] at H; have c4b0 : decide (x4_1 < (l0.length : Int)) = false := decide_eq_false c4; clear c4; obtain rfl := Option.some.inj H; go_wp2; go_ret; exact ⟨_, by first | rfl | (simp [errW_none, errW_some] <;> rfl) | (simp [*, errW_none, errW_some] <;> rfl), by (with_reducible repeat (first | apply Kd.S_alloc | apply Kd.S_drewN | apply Kd.S_drew)); exact HO_3.out, by repeat (first | (with_reducible first | exact HB.out | apply M | apply J | apply L) | exact HB.out)⟩

/-! ### impl_crossings: function 44 -/
mutual
def impl_crossings.l0 : Nat → Bool → List (S74) → List (List Int) → List (List Int) → Int → Int → Option ((List (S74)))
 | 0, _, _, _, _, _, _ => none
 | k + 1, x1, x5, x6, x14, x15, x16 => if x16 < x15 then (if 0 ≤ x16 then (if x16 < (x14.length : Int) then (impl_crossings.l1 k x1 x5 x6 x16 (rd_L2 x14 x16) (wrap64 (x16 + 1)) x14 x15 x16) else (none)) else (none)) else (some x5)
def impl_crossings.l1 : Nat → Bool → List (S74) → List (List Int) → Int → List Int → Int → List (List Int) → Int → Int → Option ((List (S74)))
 | 0, _, _, _, _, _, _, _, _, _ => none
 | k + 1, x1, x5, x6, x7, x8, x9, x14, x15, x16 => if x9 < (x6.length : Int) then (if 0 < (x8.length : Int) then (if 0 ≤ x9 then (if 0 < ((rd_L2 x6 x9).length : Int) then (if 1 < (x8.length : Int) then (if 1 < ((rd_L2 x6 x9).length : Int) then (if (wrap64 ((wrap64 ((rd x8 0) - (rd (rd_L2 x6 x9) 0))) * (wrap64 ((rd x8 1) - (rd (rd_L2 x6 x9) 1))))) < 0 then (if x1 = true then (if (wrap64 ((wrap64 ((rd x8 0) - (rd (rd_L2 x6 x9) 0))) * (wrap64 ((rd x8 1) - (rd (rd_L2 x6 x9) 1))))) > 0 then (if x5.length < 8796093022208 then (impl_crossings.l1 k x1 (x5 ++ [(⟨x7, x9⟩ : S74)]) x6 x7 x8 (wrap64 (x9 + 1)) x14 x15 x16) else (none)) else (impl_crossings.l1 k x1 x5 x6 x7 x8 (wrap64 (x9 + 1)) x14 x15 x16)) else (if x5.length < 8796093022208 then (impl_crossings.l1 k x1 (x5 ++ [(⟨x7, x9⟩ : S74)]) x6 x7 x8 (wrap64 (x9 + 1)) x14 x15 x16) else (none))) else (if (wrap64 ((wrap64 ((rd x8 0) - (rd (rd_L2 x6 x9) 0))) * (wrap64 ((rd x8 1) - (rd (rd_L2 x6 x9) 1))))) > 0 then (if x1 = true then (if x5.length < 8796093022208 then (impl_crossings.l1 k x1 (x5 ++ [(⟨x7, x9⟩ : S74)]) x6 x7 x8 (wrap64 (x9 + 1)) x14 x15 x16) else (none)) else (impl_crossings.l1 k x1 x5 x6 x7 x8 (wrap64 (x9 + 1)) x14 x15 x16)) else (impl_crossings.l1 k x1 x5 x6 x7 x8 (wrap64 (x9 + 1)) x14 x15 x16))) else (none)) else (none)) else (none)) else (none)) else (none)) else (impl_crossings.l0 k x1 x5 x6 x14 x15 (wrap64 (x16 + 1)))
end
def impl_crossings.f (k : Nat) (l0 : List (S53)) (a1 : Bool) : Option ((List (S74))) := (impl_partsOfWay.f k l0).bind fun t119 => (impl_crossings.l0 k a1 (([] : List (S74))) t119 t119 (t119.length : Int) 0)
theorem impl_crossings.mono_l : ∀ k, (∀ y0 y1 y2 y3 y4 y5, LeO (impl_crossings.l0 k y0 y1 y2 y3 y4 y5) (impl_crossings.l0 (k + 1) y0 y1 y2 y3 y4 y5)) ∧ (∀ y0 y1 y2 y3 y4 y5 y6 y7 y8, LeO (impl_crossings.l1 k y0 y1 y2 y3 y4 y5 y6 y7 y8) (impl_crossings.l1 (k + 1) y0 y1 y2 y3 y4 y5 y6 y7 y8))
 | 0 => ⟨fun _ _ _ _ _ _ r h => by simp [impl_crossings.l0] at h, fun _ _ _ _ _ _ _ _ _ r h => by simp [impl_crossings.l1] at h⟩
 | k + 1 => by
  obtain ⟨ih0, ih1⟩ := impl_crossings.mono_l k
  refine ⟨?_, ?_⟩
  ·intro y0 y1 y2 y3 y4 y5
   unfold impl_crossings.l0
   repeat' first
   | (with_reducible exact ih0 _ _ _ _ _ _)
   | (with_reducible exact ih1 _ _ _ _ _ _ _ _ _)
   | (with_reducible exact impl_partsOfWay.mono _ _)
   | (with_reducible exact LeO.refl _)
   | (with_reducible exact LeO.none _)
   | (with_reducible refine LeO.ite ?_ ?_)
   | (with_reducible refine LeO.bind ?_ (fun _ => ?_))
   | exact ih0 _ _ _ _ _ _
   | exact ih1 _ _ _ _ _ _ _ _ _
   | exact impl_partsOfWay.mono _ _
   | exact LeO.none _
   | refine LeO.ite ?_ ?_
   | refine LeO.bind ?_ (fun _ => ?_)
  ·intro y0 y1 y2 y3 y4 y5 y6 y7 y8
   unfold impl_crossings.l1
   repeat' first
   | (with_reducible exact ih0 _ _ _ _ _ _)
   | (with_reducible exact ih1 _ _ _ _ _ _ _ _ _)
   | (with_reducible exact impl_partsOfWay.mono _ _)
   | (with_reducible exact LeO.refl _)
   | (with_reducible exact LeO.none _)
   | (with_reducible refine LeO.ite ?_ ?_)
   | (with_reducible refine LeO.bind ?_ (fun _ => ?_))
   | exact ih0 _ _ _ _ _ _
   | exact ih1 _ _ _ _ _ _ _ _ _
   | exact impl_partsOfWay.mono _ _
   | exact LeO.none _
   | refine LeO.ite ?_ ?_
   | refine LeO.bind ?_ (fun _ => ?_)
theorem impl_crossings.mono : ∀ a0 a1 k, LeO (impl_crossings.f k a0 a1) (impl_crossings.f (k + 1) a0 a1) := by
 intro a0 a1 k
 obtain ⟨ih0, ih1⟩ := impl_crossings.mono_l k
 unfold impl_crossings.f
 repeat' first
   | (with_reducible exact ih0 _ _ _ _ _ _)
   | (with_reducible exact ih1 _ _ _ _ _ _ _ _ _)
   | (with_reducible exact impl_partsOfWay.mono _ _)
   | (with_reducible exact LeO.refl _)
   | (with_reducible exact LeO.none _)
   | (with_reducible refine LeO.ite ?_ ?_)
   | (with_reducible refine LeO.bind ?_ (fun _ => ?_))
   | exact ih0 _ _ _ _ _ _
   | exact ih1 _ _ _ _ _ _ _ _ _
   | exact impl_partsOfWay.mono _ _
   | exact LeO.none _
   | refine LeO.ite ?_ ?_
   | refine LeO.bind ?_ (fun _ => ?_)
set_option maxHeartbeats 8000000 in
set_option maxRecDepth 100000 in
theorem impl_crossings.calls (k : Nat) (A0 : Option Addr) (c0 : Nat) (l0 : List (S53)) (a1 : Bool) (r : List (S74)) (w : World) (hr0 : Kd.C k53 w A0 l0.length l0) (hc0 : l0.length ≤ c0) (h : impl_crossings.f k l0 a1 = some r) :
  Calls Try.prog 44 #[.slice A0 l0.length c0, .bool a1] w fun e w' => ∃ v0_ : Value, e = .returned (v0_) ∧ Kd.R k74 74 w' w.heap.size (fun _ => True) v0_ r ∧ Below w.heap.size w w' := by
 have hu74 := Try.underlying74; have HR0 := A' hr0; have HC0 := A' hc0; clear hr0 hc0; have HB := A' (Below.refl w.heap.size w); have H : ((impl_partsOfWay.f k l0).bind fun t119 => (impl_crossings.l0 k a1 (([] : List (S74))) t119 t119 (t119.length : Int) 0)) = some r := h; clear h; obtain ⟨y116, hy116⟩ : ∃ y_ : List (S74), y_ = (([] : List (S74))) := ⟨_, rfl⟩
 replace H : ((impl_partsOfWay.f k l0).bind fun t119 => (impl_crossings.l0 k a1 y116 t119 t119 (t119.length : Int) 0)) = some r := by first | (rw [hy116]; with_reducible exact H) | (have H2_ := (Option.bind_some _ _).symm.trans H; rw [hy116]; with_reducible exact H2_) | (have H2_ := (Option.bind_some _ _).symm.trans H; with_reducible exact H2_) | with_reducible exact H | (rw [hy116]; exact H) | exact H
 have Ny116 := A' hy116; clear hy116; replace H := Option.bind_eq_some_iff.mp H; obtain ⟨t119, A30, H⟩ := H; replace H : (impl_crossings.l0 k a1 y116 t119 t119 (t119.length : Int) 0) = some r := H; have A3 := A' A30; clear A30; have H' := A' H; clear H; go_enter Try.func44, Try.ntmps44; go_wp2_with (first | ((with_reducible refine gate_dst (N := 11) rfl ?_); refine Kd.R_lit k74 _ 74 ?hg (N := 11) ?hd (xs := ([] : List (S74))) (inner := []) (ok := fun _ => True) (okp := fun _ => True) ?hr ?hp (fun _ hk => hk) trivial (Below.refl _ _) (Nat.le_refl _) (by simp) ?_; (case hd => rfl); (case hg => rfl); (case hr => first | (go_simp; done) | (go_simp; rfl)); (case hp => exact (Reps.none _ _)); intro v117 w4 ho5 hb hg_ hnew_; clear hg_ hnew_; (first | rw [← Ny116.out] at ho5 | (simp only [Int.reduceToNat] at ho5; rw [← Ny116.out] at ho5)); have n0_ := A' (Kd.R_lower ho5 (V' (qK0 HB.out))); have n1_ := A' (W' (qK0 HB.out) hb); clear HB; have HO118 := n0_; have HB := n1_; clear n0_ n1_; clear hb ho5) | (go_at_call 38; (with_reducible refine (impl_partsOfWay.calls k _ _ l0 t119 _ ?side1 ?side2 A3.out).mono ?_); (case side1 => exact qT (X' HR0.out HB.out)); (case side2 => exact HC0.out); rintro e w6 ⟨v120, rfl, ho0, hb⟩; have n0_ := A' (L' (qR HO118.out) hb); have n1_ := A' (Kd.S_lower ho0 (V' (qK0 HB.out))); have n2_ := A' (W' (qK0 HB.out) hb); clear HO118; clear HB; have HO118 := n0_; have HO121 := n1_; have HB := n2_; clear n0_ n1_ n2_; (try clear hb); (try clear hb2); (try clear hk); (try clear hi); (try clear ho0); obtain ⟨Ao7, co7, eo7⟩ := Kd.S_slice HO121.out; subst eo7))
 repeat (go_quiet (fail); try go_wp2_with (first | ((with_reducible refine gate_dst (N := 11) rfl ?_); refine Kd.R_lit k74 _ 74 ?hg (N := 11) ?hd (xs := ([] : List (S74))) (inner := []) (ok := fun _ => True) (okp := fun _ => True) ?hr ?hp (fun _ hk => hk) trivial (Below.refl _ _) (Nat.le_refl _) (by simp) ?_; (case hd => rfl); (case hg => rfl); (case hr => first | (go_simp; done) | (go_simp; rfl)); (case hp => exact (Reps.none _ _)); intro v117 w4 ho5 hb hg_ hnew_; clear hg_ hnew_; (first | rw [← Ny116.out] at ho5 | (simp only [Int.reduceToNat] at ho5; rw [← Ny116.out] at ho5)); have n0_ := A' (Kd.R_lower ho5 (V' (qK0 HB.out))); have n1_ := A' (W' (qK0 HB.out) hb); clear HB; have HO118 := n0_; have HB := n1_; clear n0_ n1_; clear hb ho5) | (go_at_call 38; (with_reducible refine (impl_partsOfWay.calls k _ _ l0 t119 _ ?side1 ?side2 A3.out).mono ?_); (case side1 => exact qT (X' HR0.out HB.out)); (case side2 => exact HC0.out); rintro e w6 ⟨v120, rfl, ho0, hb⟩; have n0_ := A' (L' (qR HO118.out) hb); have n1_ := A' (Kd.S_lower ho0 (V' (qK0 HB.out))); have n2_ := A' (W' (qK0 HB.out) hb); clear HO118; clear HB; have HO118 := n0_; have HO121 := n1_; have HB := n2_; clear n0_ n1_ n2_; (try clear hb); (try clear hb2); (try clear hk); (try clear hi); (try clear ho0); obtain ⟨Ao7, co7, eo7⟩ := Kd.S_slice HO121.out; subst eo7)))
 go_loopg [5, 16] k (fun kq v5 v16 w' => ∃ (x5_1 : List (S74)) (x16_1 : Int), v16 = .int .i64 x16_1 ∧ Aside0 (impl_crossings.l0 kq a1 x5_1 t119 t119 (t119.length : Int) x16_1 = some r) ∧ Aside0 (kq ≤ k) ∧ Aside0 (Kd.R k74 74 w' w.heap.size (fun _ => True) v5 x5_1) ∧ Aside0 (Kd.S (Kd.slice 2 (Kd.int .i64)) 69 w' w.heap.size (fun _ => True) (.slice Ao7 t119.length co7) t119) ∧ Aside0 (Kd.S (Kd.slice 2 (Kd.int .i64)) 69 w' w.heap.size (fun _ => True) (.slice Ao7 t119.length co7) t119) ∧ Aside0 (Below w.heap.size w w'))
 case atStart => exact ⟨(y116), (0), qS, H', ⟨Nat.le_refl _⟩, ⟨qR HO118.out⟩, ⟨by (with_reducible repeat (first | apply Kd.S_alloc | apply Kd.S_drewN | apply Kd.S_drew)); exact HO121.out⟩, ⟨by (with_reducible repeat (first | apply Kd.S_alloc | apply Kd.S_drewN | apply Kd.S_drew)); exact HO121.out⟩, ⟨qK0 HB.out⟩⟩
 case round =>
  clear H'; try clear p2
  try clear c4
  obtain ⟨x5_1, x16_1, rfl, HA, HK1, HO_5, HO_6, HO_14, HB⟩ := hrel
  cases gk with
  | zero => exact absurd HA.out (by simp [impl_crossings.l0])
  | succ k1 =>
   have H := HA.out; clear HA; simp only [impl_crossings.l0] at H
   by_cases c8 : x16_1 < (t119.length : Int)
   ·rw [if_pos c8] at H; have c8b0 : decide (x16_1 < (t119.length : Int)) = true := dT' c8; clear c8
    by_cases c9 : 0 ≤ x16_1
    ·rw [if_pos c9] at H; have c9b0 : decide (0 ≤ x16_1) = true := dT' c9; clear c9
     by_cases c10 : x16_1 < (t119.length : Int)
     ·rw [if_pos c10] at H; have c10b0 : decide (x16_1 < (t119.length : Int)) = true := dT' c10; clear c10; have H' := A' H; clear H; have p122 : 0 ≤ (x16_1 : Int) := oD' qA; have q122 : x16_1 < (t119.length : Int) := oD' qA; obtain ⟨ad122, A122_0, c122_0, e122, hx122_0, hl122_0, hi122_0⟩ := at_L2 (Kd.S_reads' HO_14.out).2.2 x16_1 p122 q122
      cases e122
      obtain ⟨ce122, hce122, hMe122, hcc122⟩ := Kd.S_get HO_14.out [] x16_1 p122 (by first | exact q122 | exact oD' qA | (have e_ := (Kd.S_reads' HO_14.out).1; omega)); obtain ⟨ve122_0, rfl, ge122_0⟩ := hMe122; have hv122_0 := hcc122 0 _ rfl; rw [Nat.add_zero, show ((Kd.slice 2 (Kd.int .i64))).sz = 1 from rfl, Nat.mul_one] at hv122_0; replace hv122_0 := Option.some.inj (hv122_0.symm.trans hx122_0); rw [hv122_0] at ge122_0; have HL122_0 := A' (show Kd.R (Kd.int .i64) 2 _ _ _ _ (rd_L2 t119 x16_1) from ge122_0); clear hv122_0 ge122_0; clear hcc122 hce122; have HR122_0 := A' hi122_0; have HC122_0 := A' hl122_0; clear hi122_0 hl122_0; replace p122 := eq_true p122; replace q122 := eq_true q122; go_wp2
      repeat (go_quiet (fail); try go_wp2)
      go_loopg [5, 9] k1 (fun kq v5 v9 w' => ∃ (x5_2 : List (S74)) (x9_2 : Int), v9 = .int .i64 x9_2 ∧ Aside0 (impl_crossings.l1 kq a1 x5_2 t119 x16_1 (rd_L2 t119 x16_1) x9_2 t119 (t119.length : Int) x16_1 = some r) ∧ Aside0 (kq ≤ k1) ∧ Aside0 (Kd.R k74 74 w' w.heap.size (fun _ => True) v5 x5_2) ∧ Aside0 (Kd.S (Kd.slice 2 (Kd.int .i64)) 69 w' w.heap.size (fun _ => True) (.slice (some ad122) t119.length co7) t119) ∧ Aside0 (Kd.S (Kd.slice 2 (Kd.int .i64)) 69 w' w.heap.size (fun _ => True) (.slice (some ad122) t119.length co7) t119) ∧ Aside0 (Below w.heap.size w w') ∧ Aside0 (Kd.R (Kd.int .i64) 2 w' w.heap.size (fun _ => True) (.slice A122_0 (rd_L2 t119 x16_1).length c122_0) (rd_L2 t119 x16_1)))
      case atStart => exact ⟨(x5_1), (wrap64 (x16_1 + 1)), qS, H', ⟨Nat.le_refl _⟩, ⟨qR HO_5.out⟩, ⟨by (with_reducible repeat (first | apply Kd.S_alloc | apply Kd.S_drewN | apply Kd.S_drew)); exact HO_6.out⟩, ⟨by (with_reducible repeat (first | apply Kd.S_alloc | apply Kd.S_drewN | apply Kd.S_drew)); exact HO_14.out⟩, ⟨qK0 HB.out⟩, ⟨by (with_reducible repeat (first | apply B' | apply C' | apply D')); exact Q' HL122_0.out (fun _ _ => trivial)⟩⟩
      case round =>
       clear H'; try clear c1
       try clear p1
       try clear q1
       try clear hx1
       try clear p2
       try clear c4
       try clear p6
       try clear c8
       try clear c8b0
       try clear c9
       try clear c9b0
       try clear c10
       try clear c10b0
       try clear hx122_0
       try clear p122
       try clear p2
       try clear q122
       obtain ⟨x5_2, x9_2, rfl, HA, HK2, HO_5, HO_6, HO_14, HB, HLX⟩ := hrel
       cases gk with
       | zero => exact absurd HA.out (by simp [impl_crossings.l1])
       | succ k2 =>
        have H := HA.out; clear HA; simp only [impl_crossings.l1] at H
        by_cases c11 : x9_2 < (t119.length : Int)
        ·rw [if_pos c11] at H; have c11b0 : decide (x9_2 < (t119.length : Int)) = true := dT' c11; clear c11
         by_cases c12 : 0 < ((rd_L2 t119 x16_1).length : Int)
         ·rw [if_pos c12] at H; have c12b0 : decide (0 < ((rd_L2 t119 x16_1).length : Int)) = true := dT' c12; have c12b1 : decide (0 < (rd_L2 t119 x16_1).length) = true := dT' (by omega); clear c12
          by_cases c13 : 0 ≤ x9_2
          ·rw [if_pos c13] at H; have c13b0 : decide (0 ≤ x9_2) = true := dT' c13; clear c13
           by_cases c14 : 0 < ((rd_L2 t119 x9_2).length : Int)
           ·rw [if_pos c14] at H; have c14b0 : decide (0 < ((rd_L2 t119 x9_2).length : Int)) = true := dT' c14; have c14b1 : decide (0 < (rd_L2 t119 x9_2).length) = true := dT' (by omega); clear c14
            by_cases c15 : 1 < ((rd_L2 t119 x16_1).length : Int)
            ·rw [if_pos c15] at H; have c15b0 : decide (1 < ((rd_L2 t119 x16_1).length : Int)) = true := dT' c15; have c15b1 : decide (1 < (rd_L2 t119 x16_1).length) = true := dT' (by omega); clear c15
             by_cases c16 : 1 < ((rd_L2 t119 x9_2).length : Int)
             ·rw [if_pos c16] at H; have c16b0 : decide (1 < ((rd_L2 t119 x9_2).length : Int)) = true := dT' c16; have c16b1 : decide (1 < (rd_L2 t119 x9_2).length) = true := dT' (by omega); clear c16
              by_cases c17 : (wrap64 ((wrap64 ((rd (rd_L2 t119 x16_1) 0) - (rd (rd_L2 t119 x9_2) 0))) * (wrap64 ((rd (rd_L2 t119 x16_1) 1) - (rd (rd_L2 t119 x9_2) 1))))) < 0
              ·rw [if_pos c17] at H; have c17b0 : decide ((wrap64 ((wrap64 ((rd (rd_L2 t119 x16_1) 0) - (rd (rd_L2 t119 x9_2) 0))) * (wrap64 ((rd (rd_L2 t119 x16_1) 1) - (rd (rd_L2 t119 x9_2) 1))))) < 0) = true := dT' c17; clear c17
               by_cases c18 : a1 = true
               ·subst c18; have H1 : (if (wrap64 ((wrap64 ((rd (rd_L2 t119 x16_1) 0) - (rd (rd_L2 t119 x9_2) 0))) * (wrap64 ((rd (rd_L2 t119 x16_1) 1) - (rd (rd_L2 t119 x9_2) 1))))) > 0 then (if x5_2.length < 8796093022208 then (impl_crossings.l1 k2 true (x5_2 ++ [(⟨x16_1, x9_2⟩ : S74)]) t119 x16_1 (rd_L2 t119 x16_1) (wrap64 (x9_2 + 1)) t119 (t119.length : Int) x16_1) else (none)) else (impl_crossings.l1 k2 true x5_2 t119 x16_1 (rd_L2 t119 x16_1) (wrap64 (x9_2 + 1)) t119 (t119.length : Int) x16_1)) = some r := by rw [if_pos rfl] at H; exact H
                clear H; have H := H1; clear H1
                by_cases c19 : (wrap64 ((wrap64 ((rd (rd_L2 t119 x16_1) 0) - (rd (rd_L2 t119 x9_2) 0))) * (wrap64 ((rd (rd_L2 t119 x16_1) 1) - (rd (rd_L2 t119 x9_2) 1))))) > 0
                ·rw [if_pos c19] at H; have c19b0 : decide (0 < (wrap64 ((wrap64 ((rd (rd_L2 t119 x16_1) 0) - (rd (rd_L2 t119 x9_2) 0))) * (wrap64 ((rd (rd_L2 t119 x16_1) 1) - (rd (rd_L2 t119 x9_2) 1)))))) = true := dT' c19; clear c19
                 by_cases c20 : x5_2.length < 8796093022208
                 ·rw [if_pos c20] at H; have LMc20 := A' c20; clear c20; obtain ⟨y129, hy129⟩ : ∃ y_ : List (S74), y_ = (x5_2 ++ [(⟨x16_1, x9_2⟩ : S74)]) := ⟨_, rfl⟩
                  replace H : (impl_crossings.l1 k2 true y129 t119 x16_1 (rd_L2 t119 x16_1) (wrap64 (x9_2 + 1)) t119 (t119.length : Int) x16_1) = some r := by first | (rw [hy129]; with_reducible exact H) | (have H2_ := (Option.bind_some _ _).symm.trans H; rw [hy129]; with_reducible exact H2_) | (have H2_ := (Option.bind_some _ _).symm.trans H; with_reducible exact H2_) | with_reducible exact H | (rw [hy129]; exact H) | exact H
                  have Ny129 := A' hy129; clear hy129; have H' := A' H; clear H; have p123 : 0 ≤ (0 : Int) := (by omega)
                  have q123 : 0 < ((rd_L2 t119 x16_1).length : Int) := oD' qA; obtain ⟨ad123, e123, hx123_0⟩ := Kd.at_int (Kd.R_reads' HLX.out).2.2 0 p123 q123
                  cases e123
                  have qi123 : (0 < (rd_L2 t119 x16_1).length) = True := eq_true (by omega); (try rw [show ((0 : Int)).toNat = 0 from rfl] at hx123_0); (try rw [Addr.add_zero'] at hx123_0); try replace hx123_0 := qC HB.out hx123_0
                  replace p123 := eq_true p123; replace q123 := eq_true q123; have p124 : 0 ≤ (x9_2 : Int) := oD' qA; have q124 : x9_2 < (t119.length : Int) := oD' qA; obtain ⟨ad124, A124_0, c124_0, e124, hx124_0, hl124_0, hi124_0⟩ := at_L2 (Kd.S_reads' HO_6.out).2.2 x9_2 p124 q124; obtain rfl : ad122 = ad124 := (by injection e124)
                  obtain ⟨ce124, hce124, hMe124, hcc124⟩ := Kd.S_get HO_6.out [] x9_2 p124 (by first | exact q124 | exact oD' qA | (have e_ := (Kd.S_reads' HO_6.out).1; omega)); obtain ⟨ve124_0, rfl, ge124_0⟩ := hMe124; have hv124_0 := hcc124 0 _ rfl; rw [Nat.add_zero, show ((Kd.slice 2 (Kd.int .i64))).sz = 1 from rfl, Nat.mul_one] at hv124_0; replace hv124_0 := Option.some.inj (hv124_0.symm.trans hx124_0); rw [hv124_0] at ge124_0; have HL124_0 := A' (show Kd.R (Kd.int .i64) 2 _ _ _ _ (rd_L2 t119 x9_2) from ge124_0); clear hv124_0 ge124_0; clear hcc124 hce124; have HR124_0 := A' hi124_0; have HC124_0 := A' hl124_0; clear hi124_0 hl124_0; replace p124 := eq_true p124; replace q124 := eq_true q124; have p125 : 0 ≤ (0 : Int) := (by omega)
                  have q125 : 0 < ((rd_L2 t119 x9_2).length : Int) := oD' qA; obtain ⟨ad125, e125, hx125_0⟩ := Kd.at_int (by repeat (first | (with_reducible exact HR124_0.out) | (with_reducible refine R' ?_ _) | (with_reducible refine S' ?_ _) | (with_reducible refine T' ?_) | exact HR124_0.out)) 0 p125 q125
                  cases e125
                  have qi125 : (0 < (rd_L2 t119 x9_2).length) = True := eq_true (by omega); (try rw [show ((0 : Int)).toNat = 0 from rfl] at hx125_0); (try rw [Addr.add_zero'] at hx125_0); replace p125 := eq_true p125; replace q125 := eq_true q125; have p126 : 0 ≤ (1 : Int) := (by omega)
                  have q126 : 1 < ((rd_L2 t119 x16_1).length : Int) := oD' qA; obtain ⟨ad126, e126, hx126_0⟩ := Kd.at_int (Kd.R_reads' HLX.out).2.2 1 p126 q126; obtain rfl : ad123 = ad126 := (by injection e126)
                  (try simp only [show (1 : Int).toNat = 1 from rfl, Nat.reduceMul, Nat.reduceEqDiff, Go.Addr.add, ↓reduceIte] at hx126_0); have qi126 : (1 < (rd_L2 t119 x16_1).length) = True := eq_true (by omega); (try rw [show ((1 : Int)).toNat = 1 from rfl] at hx126_0); try replace hx126_0 := qC HB.out hx126_0
                  replace p126 := eq_true p126; replace q126 := eq_true q126; have p127 : 0 ≤ (x9_2 : Int) := oD' qA; have q127 : x9_2 < (t119.length : Int) := oD' qA; obtain ⟨ad127, A127_0, c127_0, e127, hx127_0, hl127_0, hi127_0⟩ := at_L2 (Kd.S_reads' HO_6.out).2.2 x9_2 p127 q127; obtain rfl : ad122 = ad127 := (by injection e127)
                  obtain ⟨ce127, hce127, hMe127, hcc127⟩ := Kd.S_get HO_6.out [] x9_2 p127 (by first | exact q127 | exact oD' qA | (have e_ := (Kd.S_reads' HO_6.out).1; omega)); obtain ⟨ve127_0, rfl, ge127_0⟩ := hMe127; have hv127_0 := hcc127 0 _ rfl; rw [Nat.add_zero, show ((Kd.slice 2 (Kd.int .i64))).sz = 1 from rfl, Nat.mul_one] at hv127_0; replace hv127_0 := Option.some.inj (hv127_0.symm.trans hx127_0); rw [hv127_0] at ge127_0; have HL127_0 := A' (show Kd.R (Kd.int .i64) 2 _ _ _ _ (rd_L2 t119 x9_2) from ge127_0); clear hv127_0 ge127_0; clear hcc127 hce127; have HR127_0 := A' hi127_0; have HC127_0 := A' hl127_0; clear hi127_0 hl127_0; replace p127 := eq_true p127; replace q127 := eq_true q127; have ea_ := Option.some.inj (hx124_0.symm.trans hx127_0)
                  injection ea_ with ea_ en_ ec_
                  subst ea_; subst ec_; clear en_; have p128 : 0 ≤ (1 : Int) := (by omega)
                  have q128 : 1 < ((rd_L2 t119 x9_2).length : Int) := oD' qA; obtain ⟨ad128, e128, hx128_0⟩ := Kd.at_int (by repeat (first | (with_reducible exact HR127_0.out) | (with_reducible refine R' ?_ _) | (with_reducible refine S' ?_ _) | (with_reducible refine T' ?_) | exact HR127_0.out)) 1 p128 q128
                  cases e128
                  (try simp only [show (1 : Int).toNat = 1 from rfl, Nat.reduceMul, Nat.reduceEqDiff, Go.Addr.add, ↓reduceIte] at hx128_0); have qi128 : (1 < (rd_L2 t119 x9_2).length) = True := eq_true (by omega); (try rw [show ((1 : Int)).toNat = 1 from rfl] at hx128_0); replace p128 := eq_true p128; replace q128 := eq_true q128; go_wp2_with (first | ((with_reducible refine gate_builtin (b := .append) (xs := #[.tmp 63, .tmp 67]) rfl ?_); at_builtin; refine Kd.R_append k74 (w0 := w) w.heap.size rfl (.tmp 63) (.tmp 67) 71 74 (.agg #[(.int .i64 0), (.int .i64 0)]) 16 rfl Try.underlying71 info74 rfl (by decide) (by omega) u5 x5_2 (⟨x16_1, x9_2⟩ : S74) [.int .i64 x16_1, .int .i64 x9_2] (fun _ => True) (fun _ => False) rfl rfl ?aP (fun _ hk => hk.elim) ?aF ?aO ?aB ?aS ?aL ?_; (case aP => exact k74_mkM _ _ _ (⟨x16_1, x9_2⟩ : S74)); (case aB => exact (qK0 HB.out)); (case aF => exact (fun _ _ => trivial)); (case aO => exact (qR HO_5.out)); (case aS => exact (V' (qK0 HB.out))); (case aL => have := LMc20.out; omega); intro v130 w21 ho hb hg hat; rw [← Ny129.out] at ho; have n9_ := A' (Kd.R_over' (qR HLX.out) (Kd.R_typed (qR HO_5.out)) (by decide) hg); clear HLX; have HLX := n9_; clear n9_; have n0_ := A' (Kd.S_over' (by (with_reducible repeat (first | apply Kd.S_alloc | apply Kd.S_drewN | apply Kd.S_drew)); exact HO_6.out) (Kd.R_typed (qR HO_5.out)) (by decide) hg); have n1_ := A' (Kd.S_over' (by (with_reducible repeat (first | apply Kd.S_alloc | apply Kd.S_drewN | apply Kd.S_drew)); exact HO_14.out) (Kd.R_typed (qR HO_5.out)) (by decide) hg); have n2_ := A' (Kd.R_over' (qR HL124_0.out) (Kd.R_typed (qR HO_5.out)) (by decide) hg); have n3_ := A' (Kd.R_over' (qR HL127_0.out) (Kd.R_typed (qR HO_5.out)) (by decide) hg); have n4_ := A' (hb); have n5_ := A' (ho); clear HO_6; clear HO_14; clear HL124_0; clear HL127_0; clear HB; clear HO_5; have HO_6 := n0_; have HO_14 := n1_; have HL124_0 := n2_; have HL127_0 := n3_; have HB := n4_; have HO131 := n5_; clear n0_ n1_ n2_ n3_ n4_ n5_; clear ho hb hg hat))
                  repeat (go_quiet (fail); try go_wp2_with (first | ((with_reducible refine gate_builtin (b := .append) (xs := #[.tmp 63, .tmp 67]) rfl ?_); at_builtin; refine Kd.R_append k74 (w0 := w) w.heap.size rfl (.tmp 63) (.tmp 67) 71 74 (.agg #[(.int .i64 0), (.int .i64 0)]) 16 rfl Try.underlying71 info74 rfl (by decide) (by omega) u5 x5_2 (⟨x16_1, x9_2⟩ : S74) [.int .i64 x16_1, .int .i64 x9_2] (fun _ => True) (fun _ => False) rfl rfl ?aP (fun _ hk => hk.elim) ?aF ?aO ?aB ?aS ?aL ?_; (case aP => exact k74_mkM _ _ _ (⟨x16_1, x9_2⟩ : S74)); (case aB => exact (qK0 HB.out)); (case aF => exact (fun _ _ => trivial)); (case aO => exact (qR HO_5.out)); (case aS => exact (V' (qK0 HB.out))); (case aL => have := LMc20.out; omega); intro v130 w21 ho hb hg hat; rw [← Ny129.out] at ho; have n9_ := A' (Kd.R_over' (qR HLX.out) (Kd.R_typed (qR HO_5.out)) (by decide) hg); clear HLX; have HLX := n9_; clear n9_; have n0_ := A' (Kd.S_over' (by (with_reducible repeat (first | apply Kd.S_alloc | apply Kd.S_drewN | apply Kd.S_drew)); exact HO_6.out) (Kd.R_typed (qR HO_5.out)) (by decide) hg); have n1_ := A' (Kd.S_over' (by (with_reducible repeat (first | apply Kd.S_alloc | apply Kd.S_drewN | apply Kd.S_drew)); exact HO_14.out) (Kd.R_typed (qR HO_5.out)) (by decide) hg); have n2_ := A' (Kd.R_over' (qR HL124_0.out) (Kd.R_typed (qR HO_5.out)) (by decide) hg); have n3_ := A' (Kd.R_over' (qR HL127_0.out) (Kd.R_typed (qR HO_5.out)) (by decide) hg); have n4_ := A' (hb); have n5_ := A' (ho); clear HO_6; clear HO_14; clear HL124_0; clear HL127_0; clear HB; clear HO_5; have HO_6 := n0_; have HO_14 := n1_; have HL124_0 := n2_; have HL127_0 := n3_; have HB := n4_; have HO131 := n5_; clear n0_ n1_ n2_ n3_ n4_ n5_; clear ho hb hg hat)))
                  go_roundg k2
                  case measure => have := HK1.out; have := HK2.out; omega
                  case rel => exact ⟨(y129), (wrap64 (x9_2 + 1)), qS, H', ⟨by have := HK1.out; have := HK2.out; omega⟩, ⟨qR HO131.out⟩, ⟨by (with_reducible repeat (first | apply Kd.S_alloc | apply Kd.S_drewN | apply Kd.S_drew)); exact HO_6.out⟩, ⟨by (with_reducible repeat (first | apply Kd.S_alloc | apply Kd.S_drewN | apply Kd.S_drew)); exact HO_14.out⟩, ⟨qK0 HB.out⟩, ⟨by (with_reducible repeat (first | apply B' | apply C' | apply D')); exact Q' HLX.out (fun _ _ => trivial)⟩⟩
                 ·rw [if_neg c20] at H; exact absurd H (by simp)
                ·rw [if_neg c19] at H; have c19b0 : decide (0 < (wrap64 ((wrap64 ((rd (rd_L2 t119 x16_1) 0) - (rd (rd_L2 t119 x9_2) 0))) * (wrap64 ((rd (rd_L2 t119 x16_1) 1) - (rd (rd_L2 t119 x9_2) 1)))))) = false := dF' c19; clear c19; have H' := A' H; clear H; have p123 : 0 ≤ (0 : Int) := (by omega)
                 have q123 : 0 < ((rd_L2 t119 x16_1).length : Int) := oD' qA; obtain ⟨ad123, e123, hx123_0⟩ := Kd.at_int (Kd.R_reads' HLX.out).2.2 0 p123 q123
                 cases e123
                 have qi123 : (0 < (rd_L2 t119 x16_1).length) = True := eq_true (by omega); (try rw [show ((0 : Int)).toNat = 0 from rfl] at hx123_0); (try rw [Addr.add_zero'] at hx123_0); try replace hx123_0 := qC HB.out hx123_0
                 replace p123 := eq_true p123; replace q123 := eq_true q123; have p124 : 0 ≤ (x9_2 : Int) := oD' qA; have q124 : x9_2 < (t119.length : Int) := oD' qA; obtain ⟨ad124, A124_0, c124_0, e124, hx124_0, hl124_0, hi124_0⟩ := at_L2 (Kd.S_reads' HO_6.out).2.2 x9_2 p124 q124; obtain rfl : ad122 = ad124 := (by injection e124)
                 obtain ⟨ce124, hce124, hMe124, hcc124⟩ := Kd.S_get HO_6.out [] x9_2 p124 (by first | exact q124 | exact oD' qA | (have e_ := (Kd.S_reads' HO_6.out).1; omega)); obtain ⟨ve124_0, rfl, ge124_0⟩ := hMe124; have hv124_0 := hcc124 0 _ rfl; rw [Nat.add_zero, show ((Kd.slice 2 (Kd.int .i64))).sz = 1 from rfl, Nat.mul_one] at hv124_0; replace hv124_0 := Option.some.inj (hv124_0.symm.trans hx124_0); rw [hv124_0] at ge124_0; have HL124_0 := A' (show Kd.R (Kd.int .i64) 2 _ _ _ _ (rd_L2 t119 x9_2) from ge124_0); clear hv124_0 ge124_0; clear hcc124 hce124; have HR124_0 := A' hi124_0; have HC124_0 := A' hl124_0; clear hi124_0 hl124_0; replace p124 := eq_true p124; replace q124 := eq_true q124; have p125 : 0 ≤ (0 : Int) := (by omega)
                 have q125 : 0 < ((rd_L2 t119 x9_2).length : Int) := oD' qA; obtain ⟨ad125, e125, hx125_0⟩ := Kd.at_int (by repeat (first | (with_reducible exact HR124_0.out) | (with_reducible refine R' ?_ _) | (with_reducible refine S' ?_ _) | (with_reducible refine T' ?_) | exact HR124_0.out)) 0 p125 q125
                 cases e125
                 have qi125 : (0 < (rd_L2 t119 x9_2).length) = True := eq_true (by omega); (try rw [show ((0 : Int)).toNat = 0 from rfl] at hx125_0); (try rw [Addr.add_zero'] at hx125_0); replace p125 := eq_true p125; replace q125 := eq_true q125; have p126 : 0 ≤ (1 : Int) := (by omega)
                 have q126 : 1 < ((rd_L2 t119 x16_1).length : Int) := oD' qA; obtain ⟨ad126, e126, hx126_0⟩ := Kd.at_int (Kd.R_reads' HLX.out).2.2 1 p126 q126; obtain rfl : ad123 = ad126 := (by injection e126)
                 (try simp only [show (1 : Int).toNat = 1 from rfl, Nat.reduceMul, Nat.reduceEqDiff, Go.Addr.add, ↓reduceIte] at hx126_0); have qi126 : (1 < (rd_L2 t119 x16_1).length) = True := eq_true (by omega); (try rw [show ((1 : Int)).toNat = 1 from rfl] at hx126_0); try replace hx126_0 := qC HB.out hx126_0
                 replace p126 := eq_true p126; replace q126 := eq_true q126; have p127 : 0 ≤ (x9_2 : Int) := oD' qA; have q127 : x9_2 < (t119.length : Int) := oD' qA; obtain ⟨ad127, A127_0, c127_0, e127, hx127_0, hl127_0, hi127_0⟩ := at_L2 (Kd.S_reads' HO_6.out).2.2 x9_2 p127 q127; obtain rfl : ad122 = ad127 := (by injection e127)
                 obtain ⟨ce127, hce127, hMe127, hcc127⟩ := Kd.S_get HO_6.out [] x9_2 p127 (by first | exact q127 | exact oD' qA | (have e_ := (Kd.S_reads' HO_6.out).1; omega)); obtain ⟨ve127_0, rfl, ge127_0⟩ := hMe127; have hv127_0 := hcc127 0 _ rfl; rw [Nat.add_zero, show ((Kd.slice 2 (Kd.int .i64))).sz = 1 from rfl, Nat.mul_one] at hv127_0; replace hv127_0 := Option.some.inj (hv127_0.symm.trans hx127_0); rw [hv127_0] at ge127_0; have HL127_0 := A' (show Kd.R (Kd.int .i64) 2 _ _ _ _ (rd_L2 t119 x9_2) from ge127_0); clear hv127_0 ge127_0; clear hcc127 hce127; have HR127_0 := A' hi127_0; have HC127_0 := A' hl127_0; clear hi127_0 hl127_0; replace p127 := eq_true p127; replace q127 := eq_true q127; have ea_ := Option.some.inj (hx124_0.symm.trans hx127_0)
                 injection ea_ with ea_ en_ ec_
                 subst ea_; subst ec_; clear en_; have p128 : 0 ≤ (1 : Int) := (by omega)
                 have q128 : 1 < ((rd_L2 t119 x9_2).length : Int) := oD' qA; obtain ⟨ad128, e128, hx128_0⟩ := Kd.at_int (by repeat (first | (with_reducible exact HR127_0.out) | (with_reducible refine R' ?_ _) | (with_reducible refine S' ?_ _) | (with_reducible refine T' ?_) | exact HR127_0.out)) 1 p128 q128
                 cases e128
                 (try simp only [show (1 : Int).toNat = 1 from rfl, Nat.reduceMul, Nat.reduceEqDiff, Go.Addr.add, ↓reduceIte] at hx128_0); have qi128 : (1 < (rd_L2 t119 x9_2).length) = True := eq_true (by omega); (try rw [show ((1 : Int)).toNat = 1 from rfl] at hx128_0); replace p128 := eq_true p128; replace q128 := eq_true q128; go_wp2
                 repeat (go_quiet (fail); try go_wp2)
                 go_roundg k2
                 case measure => have := HK1.out; have := HK2.out; omega
                 case rel => exact ⟨(x5_2), (wrap64 (x9_2 + 1)), qS, H', ⟨by have := HK1.out; have := HK2.out; omega⟩, ⟨qR HO_5.out⟩, ⟨by (with_reducible repeat (first | apply Kd.S_alloc | apply Kd.S_drewN | apply Kd.S_drew)); exact HO_6.out⟩, ⟨by (with_reducible repeat (first | apply Kd.S_alloc | apply Kd.S_drewN | apply Kd.S_drew)); exact HO_14.out⟩, ⟨qK0 HB.out⟩, ⟨by (with_reducible repeat (first | apply B' | apply C' | apply D')); exact Q' HLX.out (fun _ _ => trivial)⟩⟩
               ·replace c18 := Bool.eq_false_iff.mpr c18; subst c18; have H1 : (if x5_2.length < 8796093022208 then (impl_crossings.l1 k2 false (x5_2 ++ [(⟨x16_1, x9_2⟩ : S74)]) t119 x16_1 (rd_L2 t119 x16_1) (wrap64 (x9_2 + 1)) t119 (t119.length : Int) x16_1) else (none)) = some r := by rw [if_neg (show ¬ (false = true) by decide)] at H; exact H
                clear H; have H := H1; clear H1
                by_cases c22 : x5_2.length < 8796093022208
                ·rw [if_pos c22] at H; have LMc22 := A' c22; clear c22; obtain ⟨y132, hy132⟩ : ∃ y_ : List (S74), y_ = (x5_2 ++ [(⟨x16_1, x9_2⟩ : S74)]) := ⟨_, rfl⟩
                 replace H : (impl_crossings.l1 k2 false y132 t119 x16_1 (rd_L2 t119 x16_1) (wrap64 (x9_2 + 1)) t119 (t119.length : Int) x16_1) = some r := by first | (rw [hy132]; with_reducible exact H) | (have H2_ := (Option.bind_some _ _).symm.trans H; rw [hy132]; with_reducible exact H2_) | (have H2_ := (Option.bind_some _ _).symm.trans H; with_reducible exact H2_) | with_reducible exact H | (rw [hy132]; exact H) | exact H
                 have Ny132 := A' hy132; clear hy132; have H' := A' H; clear H; have p123 : 0 ≤ (0 : Int) := (by omega)
                 have q123 : 0 < ((rd_L2 t119 x16_1).length : Int) := oD' qA; obtain ⟨ad123, e123, hx123_0⟩ := Kd.at_int (Kd.R_reads' HLX.out).2.2 0 p123 q123
                 cases e123
                 have qi123 : (0 < (rd_L2 t119 x16_1).length) = True := eq_true (by omega); (try rw [show ((0 : Int)).toNat = 0 from rfl] at hx123_0); (try rw [Addr.add_zero'] at hx123_0); try replace hx123_0 := qC HB.out hx123_0
                 replace p123 := eq_true p123; replace q123 := eq_true q123; have p124 : 0 ≤ (x9_2 : Int) := oD' qA; have q124 : x9_2 < (t119.length : Int) := oD' qA; obtain ⟨ad124, A124_0, c124_0, e124, hx124_0, hl124_0, hi124_0⟩ := at_L2 (Kd.S_reads' HO_6.out).2.2 x9_2 p124 q124; obtain rfl : ad122 = ad124 := (by injection e124)
                 obtain ⟨ce124, hce124, hMe124, hcc124⟩ := Kd.S_get HO_6.out [] x9_2 p124 (by first | exact q124 | exact oD' qA | (have e_ := (Kd.S_reads' HO_6.out).1; omega)); obtain ⟨ve124_0, rfl, ge124_0⟩ := hMe124; have hv124_0 := hcc124 0 _ rfl; rw [Nat.add_zero, show ((Kd.slice 2 (Kd.int .i64))).sz = 1 from rfl, Nat.mul_one] at hv124_0; replace hv124_0 := Option.some.inj (hv124_0.symm.trans hx124_0); rw [hv124_0] at ge124_0; have HL124_0 := A' (show Kd.R (Kd.int .i64) 2 _ _ _ _ (rd_L2 t119 x9_2) from ge124_0); clear hv124_0 ge124_0; clear hcc124 hce124; have HR124_0 := A' hi124_0; have HC124_0 := A' hl124_0; clear hi124_0 hl124_0; replace p124 := eq_true p124; replace q124 := eq_true q124; have p125 : 0 ≤ (0 : Int) := (by omega)
                 have q125 : 0 < ((rd_L2 t119 x9_2).length : Int) := oD' qA; obtain ⟨ad125, e125, hx125_0⟩ := Kd.at_int (by repeat (first | (with_reducible exact HR124_0.out) | (with_reducible refine R' ?_ _) | (with_reducible refine S' ?_ _) | (with_reducible refine T' ?_) | exact HR124_0.out)) 0 p125 q125
                 cases e125
                 have qi125 : (0 < (rd_L2 t119 x9_2).length) = True := eq_true (by omega); (try rw [show ((0 : Int)).toNat = 0 from rfl] at hx125_0); (try rw [Addr.add_zero'] at hx125_0); replace p125 := eq_true p125; replace q125 := eq_true q125; have p126 : 0 ≤ (1 : Int) := (by omega)
                 have q126 : 1 < ((rd_L2 t119 x16_1).length : Int) := oD' qA; obtain ⟨ad126, e126, hx126_0⟩ := Kd.at_int (Kd.R_reads' HLX.out).2.2 1 p126 q126; obtain rfl : ad123 = ad126 := (by injection e126)
                 (try simp only [show (1 : Int).toNat = 1 from rfl, Nat.reduceMul, Nat.reduceEqDiff, Go.Addr.add, ↓reduceIte] at hx126_0); have qi126 : (1 < (rd_L2 t119 x16_1).length) = True := eq_true (by omega); (try rw [show ((1 : Int)).toNat = 1 from rfl] at hx126_0); try replace hx126_0 := qC HB.out hx126_0
                 replace p126 := eq_true p126; replace q126 := eq_true q126; have p127 : 0 ≤ (x9_2 : Int) := oD' qA; have q127 : x9_2 < (t119.length : Int) := oD' qA; obtain ⟨ad127, A127_0, c127_0, e127, hx127_0, hl127_0, hi127_0⟩ := at_L2 (Kd.S_reads' HO_6.out).2.2 x9_2 p127 q127; obtain rfl : ad122 = ad127 := (by injection e127)
                 obtain ⟨ce127, hce127, hMe127, hcc127⟩ := Kd.S_get HO_6.out [] x9_2 p127 (by first | exact q127 | exact oD' qA | (have e_ := (Kd.S_reads' HO_6.out).1; omega)); obtain ⟨ve127_0, rfl, ge127_0⟩ := hMe127; have hv127_0 := hcc127 0 _ rfl; rw [Nat.add_zero, show ((Kd.slice 2 (Kd.int .i64))).sz = 1 from rfl, Nat.mul_one] at hv127_0; replace hv127_0 := Option.some.inj (hv127_0.symm.trans hx127_0); rw [hv127_0] at ge127_0; have HL127_0 := A' (show Kd.R (Kd.int .i64) 2 _ _ _ _ (rd_L2 t119 x9_2) from ge127_0); clear hv127_0 ge127_0; clear hcc127 hce127; have HR127_0 := A' hi127_0; have HC127_0 := A' hl127_0; clear hi127_0 hl127_0; replace p127 := eq_true p127; replace q127 := eq_true q127; have ea_ := Option.some.inj (hx124_0.symm.trans hx127_0)
                 injection ea_ with ea_ en_ ec_
                 subst ea_; subst ec_; clear en_; have p128 : 0 ≤ (1 : Int) := (by omega)
                 have q128 : 1 < ((rd_L2 t119 x9_2).length : Int) := oD' qA; obtain ⟨ad128, e128, hx128_0⟩ := Kd.at_int (by repeat (first | (with_reducible exact HR127_0.out) | (with_reducible refine R' ?_ _) | (with_reducible refine S' ?_ _) | (with_reducible refine T' ?_) | exact HR127_0.out)) 1 p128 q128
                 cases e128
                 (try simp only [show (1 : Int).toNat = 1 from rfl, Nat.reduceMul, Nat.reduceEqDiff, Go.Addr.add, ↓reduceIte] at hx128_0); have qi128 : (1 < (rd_L2 t119 x9_2).length) = True := eq_true (by omega); (try rw [show ((1 : Int)).toNat = 1 from rfl] at hx128_0); replace p128 := eq_true p128; replace q128 := eq_true q128; go_wp2_with (first | ((with_reducible refine gate_builtin (b := .append) (xs := #[.tmp 63, .tmp 67]) rfl ?_); at_builtin; refine Kd.R_append k74 (w0 := w) w.heap.size rfl (.tmp 63) (.tmp 67) 71 74 (.agg #[(.int .i64 0), (.int .i64 0)]) 16 rfl Try.underlying71 info74 rfl (by decide) (by omega) u5 x5_2 (⟨x16_1, x9_2⟩ : S74) [.int .i64 x16_1, .int .i64 x9_2] (fun _ => True) (fun _ => False) rfl rfl ?aP (fun _ hk => hk.elim) ?aF ?aO ?aB ?aS ?aL ?_; (case aP => exact k74_mkM _ _ _ (⟨x16_1, x9_2⟩ : S74)); (case aB => exact (qK0 HB.out)); (case aF => exact (fun _ _ => trivial)); (case aO => exact (qR HO_5.out)); (case aS => exact (V' (qK0 HB.out))); (case aL => have := LMc22.out; omega); intro v133 w23 ho hb hg hat; rw [← Ny132.out] at ho; have n9_ := A' (Kd.R_over' (qR HLX.out) (Kd.R_typed (qR HO_5.out)) (by decide) hg); clear HLX; have HLX := n9_; clear n9_; have n0_ := A' (Kd.S_over' (by (with_reducible repeat (first | apply Kd.S_alloc | apply Kd.S_drewN | apply Kd.S_drew)); exact HO_6.out) (Kd.R_typed (qR HO_5.out)) (by decide) hg); have n1_ := A' (Kd.S_over' (by (with_reducible repeat (first | apply Kd.S_alloc | apply Kd.S_drewN | apply Kd.S_drew)); exact HO_14.out) (Kd.R_typed (qR HO_5.out)) (by decide) hg); have n2_ := A' (Kd.R_over' (qR HL124_0.out) (Kd.R_typed (qR HO_5.out)) (by decide) hg); have n3_ := A' (Kd.R_over' (qR HL127_0.out) (Kd.R_typed (qR HO_5.out)) (by decide) hg); have n4_ := A' (hb); have n5_ := A' (ho); clear HO_6; clear HO_14; clear HL124_0; clear HL127_0; clear HB; clear HO_5; have HO_6 := n0_; have HO_14 := n1_; have HL124_0 := n2_; have HL127_0 := n3_; have HB := n4_; have HO134 := n5_; clear n0_ n1_ n2_ n3_ n4_ n5_; clear ho hb hg hat))
                 repeat (go_quiet (fail); try go_wp2_with (first | ((with_reducible refine gate_builtin (b := .append) (xs := #[.tmp 63, .tmp 67]) rfl ?_); at_builtin; refine Kd.R_append k74 (w0 := w) w.heap.size rfl (.tmp 63) (.tmp 67) 71 74 (.agg #[(.int .i64 0), (.int .i64 0)]) 16 rfl Try.underlying71 info74 rfl (by decide) (by omega) u5 x5_2 (⟨x16_1, x9_2⟩ : S74) [.int .i64 x16_1, .int .i64 x9_2] (fun _ => True) (fun _ => False) rfl rfl ?aP (fun _ hk => hk.elim) ?aF ?aO ?aB ?aS ?aL ?_; (case aP => exact k74_mkM _ _ _ (⟨x16_1, x9_2⟩ : S74)); (case aB => exact (qK0 HB.out)); (case aF => exact (fun _ _ => trivial)); (case aO => exact (qR HO_5.out)); (case aS => exact (V' (qK0 HB.out))); (case aL => have := LMc22.out; omega); intro v133 w23 ho hb hg hat; rw [← Ny132.out] at ho; have n9_ := A' (Kd.R_over' (qR HLX.out) (Kd.R_typed (qR HO_5.out)) (by decide) hg); clear HLX; have HLX := n9_; clear n9_; have n0_ := A' (Kd.S_over' (by (with_reducible repeat (first | apply Kd.S_alloc | apply Kd.S_drewN | apply Kd.S_drew)); exact HO_6.out) (Kd.R_typed (qR HO_5.out)) (by decide) hg); have n1_ := A' (Kd.S_over' (by (with_reducible repeat (first | apply Kd.S_alloc | apply Kd.S_drewN | apply Kd.S_drew)); exact HO_14.out) (Kd.R_typed (qR HO_5.out)) (by decide) hg); have n2_ := A' (Kd.R_over' (qR HL124_0.out) (Kd.R_typed (qR HO_5.out)) (by decide) hg); have n3_ := A' (Kd.R_over' (qR HL127_0.out) (Kd.R_typed (qR HO_5.out)) (by decide) hg); have n4_ := A' (hb); have n5_ := A' (ho); clear HO_6; clear HO_14; clear HL124_0; clear HL127_0; clear HB; clear HO_5; have HO_6 := n0_; have HO_14 := n1_; have HL124_0 := n2_; have HL127_0 := n3_; have HB := n4_; have HO134 := n5_; clear n0_ n1_ n2_ n3_ n4_ n5_; clear ho hb hg hat)))
                 go_roundg k2
                 case measure => have := HK1.out; have := HK2.out; omega
                 case rel => exact ⟨(y132), (wrap64 (x9_2 + 1)), qS, H', ⟨by have := HK1.out; have := HK2.out; omega⟩, ⟨qR HO134.out⟩, ⟨by (with_reducible repeat (first | apply Kd.S_alloc | apply Kd.S_drewN | apply Kd.S_drew)); exact HO_6.out⟩, ⟨by (with_reducible repeat (first | apply Kd.S_alloc | apply Kd.S_drewN | apply Kd.S_drew)); exact HO_14.out⟩, ⟨qK0 HB.out⟩, ⟨by (with_reducible repeat (first | apply B' | apply C' | apply D')); exact Q' HLX.out (fun _ _ => trivial)⟩⟩
                ·rw [if_neg c22] at H; exact absurd H (by simp)
              ·rw [if_neg c17] at H; have c17b0 : decide ((wrap64 ((wrap64 ((rd (rd_L2 t119 x16_1) 0) - (rd (rd_L2 t119 x9_2) 0))) * (wrap64 ((rd (rd_L2 t119 x16_1) 1) - (rd (rd_L2 t119 x9_2) 1))))) < 0) = false := dF' c17; clear c17
               by_cases c24 : (wrap64 ((wrap64 ((rd (rd_L2 t119 x16_1) 0) - (rd (rd_L2 t119 x9_2) 0))) * (wrap64 ((rd (rd_L2 t119 x16_1) 1) - (rd (rd_L2 t119 x9_2) 1))))) > 0
               ·rw [if_pos c24] at H; have c24b0 : decide (0 < (wrap64 ((wrap64 ((rd (rd_L2 t119 x16_1) 0) - (rd (rd_L2 t119 x9_2) 0))) * (wrap64 ((rd (rd_L2 t119 x16_1) 1) - (rd (rd_L2 t119 x9_2) 1)))))) = true := dT' c24; clear c24
                by_cases c25 : a1 = true
                ·subst c25; have H1 : (if x5_2.length < 8796093022208 then (impl_crossings.l1 k2 true (x5_2 ++ [(⟨x16_1, x9_2⟩ : S74)]) t119 x16_1 (rd_L2 t119 x16_1) (wrap64 (x9_2 + 1)) t119 (t119.length : Int) x16_1) else (none)) = some r := by rw [if_pos rfl] at H; exact H
                 clear H; have H := H1; clear H1
                 by_cases c26 : x5_2.length < 8796093022208
                 ·rw [if_pos c26] at H; have LMc26 := A' c26; clear c26; obtain ⟨y135, hy135⟩ : ∃ y_ : List (S74), y_ = (x5_2 ++ [(⟨x16_1, x9_2⟩ : S74)]) := ⟨_, rfl⟩
                  replace H : (impl_crossings.l1 k2 true y135 t119 x16_1 (rd_L2 t119 x16_1) (wrap64 (x9_2 + 1)) t119 (t119.length : Int) x16_1) = some r := by first | (rw [hy135]; with_reducible exact H) | (have H2_ := (Option.bind_some _ _).symm.trans H; rw [hy135]; with_reducible exact H2_) | (have H2_ := (Option.bind_some _ _).symm.trans H; with_reducible exact H2_) | with_reducible exact H | (rw [hy135]; exact H) | exact H
                  have Ny135 := A' hy135; clear hy135; have H' := A' H; clear H; have p123 : 0 ≤ (0 : Int) := (by omega)
                  have q123 : 0 < ((rd_L2 t119 x16_1).length : Int) := oD' qA; obtain ⟨ad123, e123, hx123_0⟩ := Kd.at_int (Kd.R_reads' HLX.out).2.2 0 p123 q123
                  cases e123
                  have qi123 : (0 < (rd_L2 t119 x16_1).length) = True := eq_true (by omega); (try rw [show ((0 : Int)).toNat = 0 from rfl] at hx123_0); (try rw [Addr.add_zero'] at hx123_0); try replace hx123_0 := qC HB.out hx123_0
                  replace p123 := eq_true p123; replace q123 := eq_true q123; have p124 : 0 ≤ (x9_2 : Int) := oD' qA; have q124 : x9_2 < (t119.length : Int) := oD' qA; obtain ⟨ad124, A124_0, c124_0, e124, hx124_0, hl124_0, hi124_0⟩ := at_L2 (Kd.S_reads' HO_6.out).2.2 x9_2 p124 q124; obtain rfl : ad122 = ad124 := (by injection e124)
                  obtain ⟨ce124, hce124, hMe124, hcc124⟩ := Kd.S_get HO_6.out [] x9_2 p124 (by first | exact q124 | exact oD' qA | (have e_ := (Kd.S_reads' HO_6.out).1; omega)); obtain ⟨ve124_0, rfl, ge124_0⟩ := hMe124; have hv124_0 := hcc124 0 _ rfl; rw [Nat.add_zero, show ((Kd.slice 2 (Kd.int .i64))).sz = 1 from rfl, Nat.mul_one] at hv124_0; replace hv124_0 := Option.some.inj (hv124_0.symm.trans hx124_0); rw [hv124_0] at ge124_0; have HL124_0 := A' (show Kd.R (Kd.int .i64) 2 _ _ _ _ (rd_L2 t119 x9_2) from ge124_0); clear hv124_0 ge124_0; clear hcc124 hce124; have HR124_0 := A' hi124_0; have HC124_0 := A' hl124_0; clear hi124_0 hl124_0; replace p124 := eq_true p124; replace q124 := eq_true q124; have p125 : 0 ≤ (0 : Int) := (by omega)
                  have q125 : 0 < ((rd_L2 t119 x9_2).length : Int) := oD' qA; obtain ⟨ad125, e125, hx125_0⟩ := Kd.at_int (by repeat (first | (with_reducible exact HR124_0.out) | (with_reducible refine R' ?_ _) | (with_reducible refine S' ?_ _) | (with_reducible refine T' ?_) | exact HR124_0.out)) 0 p125 q125
                  cases e125
                  have qi125 : (0 < (rd_L2 t119 x9_2).length) = True := eq_true (by omega); (try rw [show ((0 : Int)).toNat = 0 from rfl] at hx125_0); (try rw [Addr.add_zero'] at hx125_0); replace p125 := eq_true p125; replace q125 := eq_true q125; have p126 : 0 ≤ (1 : Int) := (by omega)
                  have q126 : 1 < ((rd_L2 t119 x16_1).length : Int) := oD' qA; obtain ⟨ad126, e126, hx126_0⟩ := Kd.at_int (Kd.R_reads' HLX.out).2.2 1 p126 q126; obtain rfl : ad123 = ad126 := (by injection e126)
                  (try simp only [show (1 : Int).toNat = 1 from rfl, Nat.reduceMul, Nat.reduceEqDiff, Go.Addr.add, ↓reduceIte] at hx126_0); have qi126 : (1 < (rd_L2 t119 x16_1).length) = True := eq_true (by omega); (try rw [show ((1 : Int)).toNat = 1 from rfl] at hx126_0); try replace hx126_0 := qC HB.out hx126_0
                  replace p126 := eq_true p126; replace q126 := eq_true q126; have p127 : 0 ≤ (x9_2 : Int) := oD' qA; have q127 : x9_2 < (t119.length : Int) := oD' qA; obtain ⟨ad127, A127_0, c127_0, e127, hx127_0, hl127_0, hi127_0⟩ := at_L2 (Kd.S_reads' HO_6.out).2.2 x9_2 p127 q127; obtain rfl : ad122 = ad127 := (by injection e127)
                  obtain ⟨ce127, hce127, hMe127, hcc127⟩ := Kd.S_get HO_6.out [] x9_2 p127 (by first | exact q127 | exact oD' qA | (have e_ := (Kd.S_reads' HO_6.out).1; omega)); obtain ⟨ve127_0, rfl, ge127_0⟩ := hMe127; have hv127_0 := hcc127 0 _ rfl; rw [Nat.add_zero, show ((Kd.slice 2 (Kd.int .i64))).sz = 1 from rfl, Nat.mul_one] at hv127_0; replace hv127_0 := Option.some.inj (hv127_0.symm.trans hx127_0); rw [hv127_0] at ge127_0; have HL127_0 := A' (show Kd.R (Kd.int .i64) 2 _ _ _ _ (rd_L2 t119 x9_2) from ge127_0); clear hv127_0 ge127_0; clear hcc127 hce127; have HR127_0 := A' hi127_0; have HC127_0 := A' hl127_0; clear hi127_0 hl127_0; replace p127 := eq_true p127; replace q127 := eq_true q127; have ea_ := Option.some.inj (hx124_0.symm.trans hx127_0)
                  injection ea_ with ea_ en_ ec_
                  subst ea_; subst ec_; clear en_; have p128 : 0 ≤ (1 : Int) := (by omega)
                  have q128 : 1 < ((rd_L2 t119 x9_2).length : Int) := oD' qA; obtain ⟨ad128, e128, hx128_0⟩ := Kd.at_int (by repeat (first | (with_reducible exact HR127_0.out) | (with_reducible refine R' ?_ _) | (with_reducible refine S' ?_ _) | (with_reducible refine T' ?_) | exact HR127_0.out)) 1 p128 q128
                  cases e128
                  (try simp only [show (1 : Int).toNat = 1 from rfl, Nat.reduceMul, Nat.reduceEqDiff, Go.Addr.add, ↓reduceIte] at hx128_0); have qi128 : (1 < (rd_L2 t119 x9_2).length) = True := eq_true (by omega); (try rw [show ((1 : Int)).toNat = 1 from rfl] at hx128_0); replace p128 := eq_true p128; replace q128 := eq_true q128; go_wp2_with (first | ((with_reducible refine gate_builtin (b := .append) (xs := #[.tmp 63, .tmp 67]) rfl ?_); at_builtin; refine Kd.R_append k74 (w0 := w) w.heap.size rfl (.tmp 63) (.tmp 67) 71 74 (.agg #[(.int .i64 0), (.int .i64 0)]) 16 rfl Try.underlying71 info74 rfl (by decide) (by omega) u5 x5_2 (⟨x16_1, x9_2⟩ : S74) [.int .i64 x16_1, .int .i64 x9_2] (fun _ => True) (fun _ => False) rfl rfl ?aP (fun _ hk => hk.elim) ?aF ?aO ?aB ?aS ?aL ?_; (case aP => exact k74_mkM _ _ _ (⟨x16_1, x9_2⟩ : S74)); (case aB => exact (qK0 HB.out)); (case aF => exact (fun _ _ => trivial)); (case aO => exact (qR HO_5.out)); (case aS => exact (V' (qK0 HB.out))); (case aL => have := LMc26.out; omega); intro v136 w27 ho hb hg hat; rw [← Ny135.out] at ho; have n9_ := A' (Kd.R_over' (qR HLX.out) (Kd.R_typed (qR HO_5.out)) (by decide) hg); clear HLX; have HLX := n9_; clear n9_; have n0_ := A' (Kd.S_over' (by (with_reducible repeat (first | apply Kd.S_alloc | apply Kd.S_drewN | apply Kd.S_drew)); exact HO_6.out) (Kd.R_typed (qR HO_5.out)) (by decide) hg); have n1_ := A' (Kd.S_over' (by (with_reducible repeat (first | apply Kd.S_alloc | apply Kd.S_drewN | apply Kd.S_drew)); exact HO_14.out) (Kd.R_typed (qR HO_5.out)) (by decide) hg); have n2_ := A' (Kd.R_over' (qR HL124_0.out) (Kd.R_typed (qR HO_5.out)) (by decide) hg); have n3_ := A' (Kd.R_over' (qR HL127_0.out) (Kd.R_typed (qR HO_5.out)) (by decide) hg); have n4_ := A' (hb); have n5_ := A' (ho); clear HO_6; clear HO_14; clear HL124_0; clear HL127_0; clear HB; clear HO_5; have HO_6 := n0_; have HO_14 := n1_; have HL124_0 := n2_; have HL127_0 := n3_; have HB := n4_; have HO137 := n5_; clear n0_ n1_ n2_ n3_ n4_ n5_; clear ho hb hg hat))
                  repeat (go_quiet (fail); try go_wp2_with (first | ((with_reducible refine gate_builtin (b := .append) (xs := #[.tmp 63, .tmp 67]) rfl ?_); at_builtin; refine Kd.R_append k74 (w0 := w) w.heap.size rfl (.tmp 63) (.tmp 67) 71 74 (.agg #[(.int .i64 0), (.int .i64 0)]) 16 rfl Try.underlying71 info74 rfl (by decide) (by omega) u5 x5_2 (⟨x16_1, x9_2⟩ : S74) [.int .i64 x16_1, .int .i64 x9_2] (fun _ => True) (fun _ => False) rfl rfl ?aP (fun _ hk => hk.elim) ?aF ?aO ?aB ?aS ?aL ?_; (case aP => exact k74_mkM _ _ _ (⟨x16_1, x9_2⟩ : S74)); (case aB => exact (qK0 HB.out)); (case aF => exact (fun _ _ => trivial)); (case aO => exact (qR HO_5.out)); (case aS => exact (V' (qK0 HB.out))); (case aL => have := LMc26.out; omega); intro v136 w27 ho hb hg hat; rw [← Ny135.out] at ho; have n9_ := A' (Kd.R_over' (qR HLX.out) (Kd.R_typed (qR HO_5.out)) (by decide) hg); clear HLX; have HLX := n9_; clear n9_; have n0_ := A' (Kd.S_over' (by (with_reducible repeat (first | apply Kd.S_alloc | apply Kd.S_drewN | apply Kd.S_drew)); exact HO_6.out) (Kd.R_typed (qR HO_5.out)) (by decide) hg); have n1_ := A' (Kd.S_over' (by (with_reducible repeat (first | apply Kd.S_alloc | apply Kd.S_drewN | apply Kd.S_drew)); exact HO_14.out) (Kd.R_typed (qR HO_5.out)) (by decide) hg); have n2_ := A' (Kd.R_over' (qR HL124_0.out) (Kd.R_typed (qR HO_5.out)) (by decide) hg); have n3_ := A' (Kd.R_over' (qR HL127_0.out) (Kd.R_typed (qR HO_5.out)) (by decide) hg); have n4_ := A' (hb); have n5_ := A' (ho); clear HO_6; clear HO_14; clear HL124_0; clear HL127_0; clear HB; clear HO_5; have HO_6 := n0_; have HO_14 := n1_; have HL124_0 := n2_; have HL127_0 := n3_; have HB := n4_; have HO137 := n5_; clear n0_ n1_ n2_ n3_ n4_ n5_; clear ho hb hg hat)))
                  go_roundg k2
                  case measure => have := HK1.out; have := HK2.out; omega
                  case rel => exact ⟨(y135), (wrap64 (x9_2 + 1)), qS, H', ⟨by have := HK1.out; have := HK2.out; omega⟩, ⟨qR HO137.out⟩, ⟨by (with_reducible repeat (first | apply Kd.S_alloc | apply Kd.S_drewN | apply Kd.S_drew)); exact HO_6.out⟩, ⟨by (with_reducible repeat (first | apply Kd.S_alloc | apply Kd.S_drewN | apply Kd.S_drew)); exact HO_14.out⟩, ⟨qK0 HB.out⟩, ⟨by (with_reducible repeat (first | apply B' | apply C' | apply D')); exact Q' HLX.out (fun _ _ => trivial)⟩⟩
                 ·rw [if_neg c26] at H; exact absurd H (by simp)
                ·replace c25 := Bool.eq_false_iff.mpr c25; subst c25; have H1 : (impl_crossings.l1 k2 false x5_2 t119 x16_1 (rd_L2 t119 x16_1) (wrap64 (x9_2 + 1)) t119 (t119.length : Int) x16_1) = some r := by rw [if_neg (show ¬ (false = true) by decide)] at H; exact H
                 clear H; have H := H1; clear H1; have H' := A' H; clear H; have p123 : 0 ≤ (0 : Int) := (by omega)
                 have q123 : 0 < ((rd_L2 t119 x16_1).length : Int) := oD' qA; obtain ⟨ad123, e123, hx123_0⟩ := Kd.at_int (Kd.R_reads' HLX.out).2.2 0 p123 q123
                 cases e123
                 have qi123 : (0 < (rd_L2 t119 x16_1).length) = True := eq_true (by omega); (try rw [show ((0 : Int)).toNat = 0 from rfl] at hx123_0); (try rw [Addr.add_zero'] at hx123_0); try replace hx123_0 := qC HB.out hx123_0
                 replace p123 := eq_true p123; replace q123 := eq_true q123; have p124 : 0 ≤ (x9_2 : Int) := oD' qA; have q124 : x9_2 < (t119.length : Int) := oD' qA; obtain ⟨ad124, A124_0, c124_0, e124, hx124_0, hl124_0, hi124_0⟩ := at_L2 (Kd.S_reads' HO_6.out).2.2 x9_2 p124 q124; obtain rfl : ad122 = ad124 := (by injection e124)
                 obtain ⟨ce124, hce124, hMe124, hcc124⟩ := Kd.S_get HO_6.out [] x9_2 p124 (by first | exact q124 | exact oD' qA | (have e_ := (Kd.S_reads' HO_6.out).1; omega)); obtain ⟨ve124_0, rfl, ge124_0⟩ := hMe124; have hv124_0 := hcc124 0 _ rfl; rw [Nat.add_zero, show ((Kd.slice 2 (Kd.int .i64))).sz = 1 from rfl, Nat.mul_one] at hv124_0; replace hv124_0 := Option.some.inj (hv124_0.symm.trans hx124_0); rw [hv124_0] at ge124_0; have HL124_0 := A' (show Kd.R (Kd.int .i64) 2 _ _ _ _ (rd_L2 t119 x9_2) from ge124_0); clear hv124_0 ge124_0; clear hcc124 hce124; have HR124_0 := A' hi124_0; have HC124_0 := A' hl124_0; clear hi124_0 hl124_0; replace p124 := eq_true p124; replace q124 := eq_true q124; have p125 : 0 ≤ (0 : Int) := (by omega)
                 have q125 : 0 < ((rd_L2 t119 x9_2).length : Int) := oD' qA; obtain ⟨ad125, e125, hx125_0⟩ := Kd.at_int (by repeat (first | (with_reducible exact HR124_0.out) | (with_reducible refine R' ?_ _) | (with_reducible refine S' ?_ _) | (with_reducible refine T' ?_) | exact HR124_0.out)) 0 p125 q125
                 cases e125
                 have qi125 : (0 < (rd_L2 t119 x9_2).length) = True := eq_true (by omega); (try rw [show ((0 : Int)).toNat = 0 from rfl] at hx125_0); (try rw [Addr.add_zero'] at hx125_0); replace p125 := eq_true p125; replace q125 := eq_true q125; have p126 : 0 ≤ (1 : Int) := (by omega)
                 have q126 : 1 < ((rd_L2 t119 x16_1).length : Int) := oD' qA; obtain ⟨ad126, e126, hx126_0⟩ := Kd.at_int (Kd.R_reads' HLX.out).2.2 1 p126 q126; obtain rfl : ad123 = ad126 := (by injection e126)
                 (try simp only [show (1 : Int).toNat = 1 from rfl, Nat.reduceMul, Nat.reduceEqDiff, Go.Addr.add, ↓reduceIte] at hx126_0); have qi126 : (1 < (rd_L2 t119 x16_1).length) = True := eq_true (by omega); (try rw [show ((1 : Int)).toNat = 1 from rfl] at hx126_0); try replace hx126_0 := qC HB.out hx126_0
                 replace p126 := eq_true p126; replace q126 := eq_true q126; have p127 : 0 ≤ (x9_2 : Int) := oD' qA; have q127 : x9_2 < (t119.length : Int) := oD' qA; obtain ⟨ad127, A127_0, c127_0, e127, hx127_0, hl127_0, hi127_0⟩ := at_L2 (Kd.S_reads' HO_6.out).2.2 x9_2 p127 q127; obtain rfl : ad122 = ad127 := (by injection e127)
                 obtain ⟨ce127, hce127, hMe127, hcc127⟩ := Kd.S_get HO_6.out [] x9_2 p127 (by first | exact q127 | exact oD' qA | (have e_ := (Kd.S_reads' HO_6.out).1; omega)); obtain ⟨ve127_0, rfl, ge127_0⟩ := hMe127; have hv127_0 := hcc127 0 _ rfl; rw [Nat.add_zero, show ((Kd.slice 2 (Kd.int .i64))).sz = 1 from rfl, Nat.mul_one] at hv127_0; replace hv127_0 := Option.some.inj (hv127_0.symm.trans hx127_0); rw [hv127_0] at ge127_0; have HL127_0 := A' (show Kd.R (Kd.int .i64) 2 _ _ _ _ (rd_L2 t119 x9_2) from ge127_0); clear hv127_0 ge127_0; clear hcc127 hce127; have HR127_0 := A' hi127_0; have HC127_0 := A' hl127_0; clear hi127_0 hl127_0; replace p127 := eq_true p127; replace q127 := eq_true q127; have ea_ := Option.some.inj (hx124_0.symm.trans hx127_0)
                 injection ea_ with ea_ en_ ec_
                 subst ea_; subst ec_; clear en_; have p128 : 0 ≤ (1 : Int) := (by omega)
                 have q128 : 1 < ((rd_L2 t119 x9_2).length : Int) := oD' qA; obtain ⟨ad128, e128, hx128_0⟩ := Kd.at_int (by repeat (first | (with_reducible exact HR127_0.out) | (with_reducible refine R' ?_ _) | (with_reducible refine S' ?_ _) | (with_reducible refine T' ?_) | exact HR127_0.out)) 1 p128 q128
                 cases e128
                 (try simp only [show (1 : Int).toNat = 1 from rfl, Nat.reduceMul, Nat.reduceEqDiff, Go.Addr.add, ↓reduceIte] at hx128_0); have qi128 : (1 < (rd_L2 t119 x9_2).length) = True := eq_true (by omega); (try rw [show ((1 : Int)).toNat = 1 from rfl] at hx128_0); replace p128 := eq_true p128; replace q128 := eq_true q128; go_wp2
                 repeat (go_quiet (fail); try go_wp2)
                 go_roundg k2
                 case measure => have := HK1.out; have := HK2.out; omega
                 case rel => exact ⟨(x5_2), (wrap64 (x9_2 + 1)), qS, H', ⟨by have := HK1.out; have := HK2.out; omega⟩, ⟨qR HO_5.out⟩, ⟨by (with_reducible repeat (first | apply Kd.S_alloc | apply Kd.S_drewN | apply Kd.S_drew)); exact HO_6.out⟩, ⟨by (with_reducible repeat (first | apply Kd.S_alloc | apply Kd.S_drewN | apply Kd.S_drew)); exact HO_14.out⟩, ⟨qK0 HB.out⟩, ⟨by (with_reducible repeat (first | apply B' | apply C' | apply D')); exact Q' HLX.out (fun _ _ => trivial)⟩⟩
               ·rw [if_neg c24] at H; have c24b0 : decide (0 < (wrap64 ((wrap64 ((rd (rd_L2 t119 x16_1) 0) - (rd (rd_L2 t119 x9_2) 0))) * (wrap64 ((rd (rd_L2 t119 x16_1) 1) - (rd (rd_L2 t119 x9_2) 1)))))) = false := dF' c24; clear c24; have H' := A' H; clear H; have p123 : 0 ≤ (0 : Int) := (by omega)
                have q123 : 0 < ((rd_L2 t119 x16_1).length : Int) := oD' qA; obtain ⟨ad123, e123, hx123_0⟩ := Kd.at_int (Kd.R_reads' HLX.out).2.2 0 p123 q123
                cases e123
                have qi123 : (0 < (rd_L2 t119 x16_1).length) = True := eq_true (by omega); (try rw [show ((0 : Int)).toNat = 0 from rfl] at hx123_0); (try rw [Addr.add_zero'] at hx123_0); try replace hx123_0 := qC HB.out hx123_0
                replace p123 := eq_true p123; replace q123 := eq_true q123; have p124 : 0 ≤ (x9_2 : Int) := oD' qA; have q124 : x9_2 < (t119.length : Int) := oD' qA; obtain ⟨ad124, A124_0, c124_0, e124, hx124_0, hl124_0, hi124_0⟩ := at_L2 (Kd.S_reads' HO_6.out).2.2 x9_2 p124 q124; obtain rfl : ad122 = ad124 := (by injection e124)
                obtain ⟨ce124, hce124, hMe124, hcc124⟩ := Kd.S_get HO_6.out [] x9_2 p124 (by first | exact q124 | exact oD' qA | (have e_ := (Kd.S_reads' HO_6.out).1; omega)); obtain ⟨ve124_0, rfl, ge124_0⟩ := hMe124; have hv124_0 := hcc124 0 _ rfl; rw [Nat.add_zero, show ((Kd.slice 2 (Kd.int .i64))).sz = 1 from rfl, Nat.mul_one] at hv124_0; replace hv124_0 := Option.some.inj (hv124_0.symm.trans hx124_0); rw [hv124_0] at ge124_0; have HL124_0 := A' (show Kd.R (Kd.int .i64) 2 _ _ _ _ (rd_L2 t119 x9_2) from ge124_0); clear hv124_0 ge124_0; clear hcc124 hce124; have HR124_0 := A' hi124_0; have HC124_0 := A' hl124_0; clear hi124_0 hl124_0; replace p124 := eq_true p124; replace q124 := eq_true q124; have p125 : 0 ≤ (0 : Int) := (by omega)
                have q125 : 0 < ((rd_L2 t119 x9_2).length : Int) := oD' qA; obtain ⟨ad125, e125, hx125_0⟩ := Kd.at_int (by repeat (first | (with_reducible exact HR124_0.out) | (with_reducible refine R' ?_ _) | (with_reducible refine S' ?_ _) | (with_reducible refine T' ?_) | exact HR124_0.out)) 0 p125 q125
                cases e125
                have qi125 : (0 < (rd_L2 t119 x9_2).length) = True := eq_true (by omega); (try rw [show ((0 : Int)).toNat = 0 from rfl] at hx125_0); (try rw [Addr.add_zero'] at hx125_0); replace p125 := eq_true p125; replace q125 := eq_true q125; have p126 : 0 ≤ (1 : Int) := (by omega)
                have q126 : 1 < ((rd_L2 t119 x16_1).length : Int) := oD' qA; obtain ⟨ad126, e126, hx126_0⟩ := Kd.at_int (Kd.R_reads' HLX.out).2.2 1 p126 q126; obtain rfl : ad123 = ad126 := (by injection e126)
                (try simp only [show (1 : Int).toNat = 1 from rfl, Nat.reduceMul, Nat.reduceEqDiff, Go.Addr.add, ↓reduceIte] at hx126_0); have qi126 : (1 < (rd_L2 t119 x16_1).length) = True := eq_true (by omega); (try rw [show ((1 : Int)).toNat = 1 from rfl] at hx126_0); try replace hx126_0 := qC HB.out hx126_0
                replace p126 := eq_true p126; replace q126 := eq_true q126; have p127 : 0 ≤ (x9_2 : Int) := oD' qA; have q127 : x9_2 < (t119.length : Int) := oD' qA; obtain ⟨ad127, A127_0, c127_0, e127, hx127_0, hl127_0, hi127_0⟩ := at_L2 (Kd.S_reads' HO_6.out).2.2 x9_2 p127 q127; obtain rfl : ad122 = ad127 := (by injection e127)
                obtain ⟨ce127, hce127, hMe127, hcc127⟩ := Kd.S_get HO_6.out [] x9_2 p127 (by first | exact q127 | exact oD' qA | (have e_ := (Kd.S_reads' HO_6.out).1; omega)); obtain ⟨ve127_0, rfl, ge127_0⟩ := hMe127; have hv127_0 := hcc127 0 _ rfl; rw [Nat.add_zero, show ((Kd.slice 2 (Kd.int .i64))).sz = 1 from rfl, Nat.mul_one] at hv127_0; replace hv127_0 := Option.some.inj (hv127_0.symm.trans hx127_0); rw [hv127_0] at ge127_0; have HL127_0 := A' (show Kd.R (Kd.int .i64) 2 _ _ _ _ (rd_L2 t119 x9_2) from ge127_0); clear hv127_0 ge127_0; clear hcc127 hce127; have HR127_0 := A' hi127_0; have HC127_0 := A' hl127_0; clear hi127_0 hl127_0; replace p127 := eq_true p127; replace q127 := eq_true q127; have ea_ := Option.some.inj (hx124_0.symm.trans hx127_0)
                injection ea_ with ea_ en_ ec_
                subst ea_; subst ec_; clear en_; have p128 : 0 ≤ (1 : Int) := (by omega)
                have q128 : 1 < ((rd_L2 t119 x9_2).length : Int) := oD' qA; obtain ⟨ad128, e128, hx128_0⟩ := Kd.at_int (by repeat (first | (with_reducible exact HR127_0.out) | (with_reducible refine R' ?_ _) | (with_reducible refine S' ?_ _) | (with_reducible refine T' ?_) | exact HR127_0.out)) 1 p128 q128
                cases e128
                (try simp only [show (1 : Int).toNat = 1 from rfl, Nat.reduceMul, Nat.reduceEqDiff, Go.Addr.add, ↓reduceIte] at hx128_0); have qi128 : (1 < (rd_L2 t119 x9_2).length) = True := eq_true (by omega); (try rw [show ((1 : Int)).toNat = 1 from rfl] at hx128_0); replace p128 := eq_true p128; replace q128 := eq_true q128; go_wp2
                repeat (go_quiet (fail); try go_wp2)
                go_roundg k2
                case measure => have := HK1.out; have := HK2.out; omega
                case rel => exact ⟨(x5_2), (wrap64 (x9_2 + 1)), qS, H', ⟨by have := HK1.out; have := HK2.out; omega⟩, ⟨qR HO_5.out⟩, ⟨by (with_reducible repeat (first | apply Kd.S_alloc | apply Kd.S_drewN | apply Kd.S_drew)); exact HO_6.out⟩, ⟨by (with_reducible repeat (first | apply Kd.S_alloc | apply Kd.S_drewN | apply Kd.S_drew)); exact HO_14.out⟩, ⟨qK0 HB.out⟩, ⟨by (with_reducible repeat (first | apply B' | apply C' | apply D')); exact Q' HLX.out (fun _ _ => trivial)⟩⟩
             ·rw [if_neg c16] at H; exact absurd H (by simp)
            ·rw [if_neg c15] at H; exact absurd H (by simp)
           ·rw [if_neg c14] at H; exact absurd H (by simp)
          ·rw [if_neg c13] at H; exact absurd H (by simp)
         ·rw [if_neg c12] at H; exact absurd H (by simp)
        ·rw [if_neg c11] at H; have c11b0 : decide (x9_2 < (t119.length : Int)) = false := dF' c11; clear c11; have H' := A' H; clear H; go_wp2
         repeat (go_quiet (fail); try go_wp2)
         go_roundg k2
         case measure => have := HK1.out; have := HK2.out; omega
         case rel => exact ⟨(x5_2), (wrap64 (x16_1 + 1)), qS, H', ⟨by have := HK1.out; have := HK2.out; omega⟩, ⟨qR HO_5.out⟩, ⟨by (with_reducible repeat (first | apply Kd.S_alloc | apply Kd.S_drewN | apply Kd.S_drew)); exact HO_6.out⟩, ⟨by (with_reducible repeat (first | apply Kd.S_alloc | apply Kd.S_drewN | apply Kd.S_drew)); exact HO_14.out⟩, ⟨qK0 HB.out⟩⟩
     ·rw [if_neg c10] at H; exact absurd H (by simp)
    ·rw [if_neg c9] at H; exact absurd H (by simp)
   ·rw [if_neg c8] at H; have c8b0 : decide (x16_1 < (t119.length : Int)) = false := dF' c8; clear c8; obtain rfl := Option.some.inj H; go_wp2
    repeat (go_quiet (fail); try go_wp2)
    go_ret; exact ⟨_, qE, qR HO_5.out, qK0 HB.out⟩

/-! ### impl_blockAt: function 55 -/
def impl_blockAt.f (a0_0 : Int) (a0_1 : Int) (a0_2 : Bool) (a1 : Int) : Option (Int) := if a0_2 = true then (if (Int.tmod (wrap64 ((wrap64 ((wrap64 (a0_0 + a0_1)) - 1)) - a1)) 2) = 0 then (some 1) else (some (1 - 1))) else (if (Int.tmod (wrap64 ((wrap64 ((wrap64 (a0_0 + a0_1)) - 1)) - a1)) 2) = 0 then (some 0) else (some (1 - 0)))
set_option maxHeartbeats 8000000 in
set_option maxRecDepth 100000 in
theorem impl_blockAt.calls (a0_0 : Int) (a0_1 : Int) (a0_2 : Bool) (a1 : Int) (r : Int) (w : World) (h : impl_blockAt.f a0_0 a0_1 a0_2 a1 = some r) :
  Calls Try.prog 55 #[.agg #[.int .i64 a0_0, .int .i64 a0_1, .bool a0_2], .int .i64 a1] w fun e w' => e = .returned (.int .i64 r) ∧ Below w.heap.size w w' := by
 have hu26 := Try.underlying26; have HB := A' (Below.refl w.heap.size w); have H : (if a0_2 = true then (if (Int.tmod (wrap64 ((wrap64 ((wrap64 (a0_0 + a0_1)) - 1)) - a1)) 2) = 0 then (some 1) else (some (1 - 1))) else (if (Int.tmod (wrap64 ((wrap64 ((wrap64 (a0_0 + a0_1)) - 1)) - a1)) 2) = 0 then (some 0) else (some (1 - 0)))) = some r := h; clear h
 by_cases c3 : a0_2 = true
 ·subst c3; have H1 : (if (Int.tmod (wrap64 ((wrap64 ((wrap64 (a0_0 + a0_1)) - 1)) - a1)) 2) = 0 then (some 1) else (some (1 - 1))) = some r := by rw [if_pos rfl] at H; exact H
  clear H; have H := H1; clear H1
  by_cases c4 : (Int.tmod (wrap64 ((wrap64 ((wrap64 (a0_0 + a0_1)) - 1)) - a1)) 2) = 0
  ·rw [if_pos c4] at H; have c4b0 : ((Int.tmod (wrap64 ((wrap64 ((wrap64 (a0_0 + a0_1)) - 1)) - a1)) 2) == 0) = true := beq_iff_eq.mpr c4; have c4b1 : ((Int.tmod (wrap64 ((wrap64 ((wrap64 (a0_0 + a0_1)) - 1)) - a1)) 2) != 0) = false := bne_eq_false_iff_eq.mpr c4; clear c4; obtain rfl := Option.some.inj H; go_enter Try.func55, Try.ntmps55; go_wp2_with (first | ((with_reducible refine gate_dst (N := 2) rfl ?_); refine box_event ?hg (N := 2) ?hd (cs := #[.int .i64 a0_0, .int .i64 a0_1, .bool true]) (t := 26) ?hr ?_; (case hd => rfl); (case hg => rfl); (case hr => first | (go_simp; done) | (go_simp; rfl)); intro gb138 hg w5 hbox hb; have n0_ := A' (W' (qK0 HB.out) hb); have n1_ := A' (hbox); have n2_ := A' ((by rw [hg]; exact (V' (qK0 HB.out)) : w.heap.size ≤ gb138)); have n3_ := A' ((by rw [hg]; exact (V' (qK0 HB.out)) : w.heap.size ≤ gb138)); clear HB; have HB := n0_; have BK138 := n1_; have GW138 := n2_; have GE138 := n3_; clear n0_ n1_ n2_ n3_; clear hb hbox hg; have hcz6_0 : w5.cell? ⟨gb138, 0, none⟩ = some (.int .i64 a0_0) := (N' BK138.out 0).trans rfl; have hcz6_1 : w5.cell? ⟨gb138, 1, none⟩ = some (.int .i64 a0_1) := (N' BK138.out 1).trans rfl; have hcz6_2 : w5.cell? ⟨gb138, 2, none⟩ = some (.bool true) := (N' BK138.out 2).trans rfl; have hfz6_0 := Y' BK138.out 0; have hfz6_1 := Y' BK138.out 1; have hfz6_2 := Y' BK138.out 2)); go_ret; exact ⟨qE, qK1 HB.out GE138.out⟩
  ·rw [if_neg c4] at H; have c4b0 : ((Int.tmod (wrap64 ((wrap64 ((wrap64 (a0_0 + a0_1)) - 1)) - a1)) 2) == 0) = false := beq_eq_false_iff_ne.mpr c4; have c4b1 : ((Int.tmod (wrap64 ((wrap64 ((wrap64 (a0_0 + a0_1)) - 1)) - a1)) 2) != 0) = true := bne_iff_ne.mpr c4; obtain rfl := Option.some.inj H; go_enter Try.func55, Try.ntmps55; go_wp2_with (first | ((with_reducible refine gate_dst (N := 2) rfl ?_); refine box_event ?hg (N := 2) ?hd (cs := #[.int .i64 a0_0, .int .i64 a0_1, .bool true]) (t := 26) ?hr ?_; (case hd => rfl); (case hg => rfl); (case hr => first | (go_simp; done) | (go_simp; rfl)); intro gb138 hg w7 hbox hb; have n0_ := A' (W' (qK0 HB.out) hb); have n1_ := A' (hbox); have n2_ := A' ((by rw [hg]; exact (V' (qK0 HB.out)) : w.heap.size ≤ gb138)); have n3_ := A' ((by rw [hg]; exact (V' (qK0 HB.out)) : w.heap.size ≤ gb138)); clear HB; have HB := n0_; have BK138 := n1_; have GW138 := n2_; have GE138 := n3_; clear n0_ n1_ n2_ n3_; clear hb hbox hg; have hcz8_0 : w7.cell? ⟨gb138, 0, none⟩ = some (.int .i64 a0_0) := (N' BK138.out 0).trans rfl; have hcz8_1 : w7.cell? ⟨gb138, 1, none⟩ = some (.int .i64 a0_1) := (N' BK138.out 1).trans rfl; have hcz8_2 : w7.cell? ⟨gb138, 2, none⟩ = some (.bool true) := (N' BK138.out 2).trans rfl; have hfz8_0 := Y' BK138.out 0; have hfz8_1 := Y' BK138.out 1; have hfz8_2 := Y' BK138.out 2)); go_ret; exact ⟨qE, qK1 HB.out GE138.out⟩
 ·replace c3 := Bool.eq_false_iff.mpr c3; subst c3; have H1 : (if (Int.tmod (wrap64 ((wrap64 ((wrap64 (a0_0 + a0_1)) - 1)) - a1)) 2) = 0 then (some 0) else (some (1 - 0))) = some r := by rw [if_neg (show ¬ (false = true) by decide)] at H; exact H
  clear H; have H := H1; clear H1
  by_cases c9 : (Int.tmod (wrap64 ((wrap64 ((wrap64 (a0_0 + a0_1)) - 1)) - a1)) 2) = 0
  ·rw [if_pos c9] at H; have c9b0 : ((Int.tmod (wrap64 ((wrap64 ((wrap64 (a0_0 + a0_1)) - 1)) - a1)) 2) == 0) = true := beq_iff_eq.mpr c9; have c9b1 : ((Int.tmod (wrap64 ((wrap64 ((wrap64 (a0_0 + a0_1)) - 1)) - a1)) 2) != 0) = false := bne_eq_false_iff_eq.mpr c9; clear c9; obtain rfl := Option.some.inj H; go_enter Try.func55, Try.ntmps55; go_wp2_with (first | ((with_reducible refine gate_dst (N := 2) rfl ?_); refine box_event ?hg (N := 2) ?hd (cs := #[.int .i64 a0_0, .int .i64 a0_1, .bool false]) (t := 26) ?hr ?_; (case hd => rfl); (case hg => rfl); (case hr => first | (go_simp; done) | (go_simp; rfl)); intro gb138 hg w10 hbox hb; have n0_ := A' (W' (qK0 HB.out) hb); have n1_ := A' (hbox); have n2_ := A' ((by rw [hg]; exact (V' (qK0 HB.out)) : w.heap.size ≤ gb138)); have n3_ := A' ((by rw [hg]; exact (V' (qK0 HB.out)) : w.heap.size ≤ gb138)); clear HB; have HB := n0_; have BK138 := n1_; have GW138 := n2_; have GE138 := n3_; clear n0_ n1_ n2_ n3_; clear hb hbox hg; have hcz11_0 : w10.cell? ⟨gb138, 0, none⟩ = some (.int .i64 a0_0) := (N' BK138.out 0).trans rfl; have hcz11_1 : w10.cell? ⟨gb138, 1, none⟩ = some (.int .i64 a0_1) := (N' BK138.out 1).trans rfl; have hcz11_2 : w10.cell? ⟨gb138, 2, none⟩ = some (.bool false) := (N' BK138.out 2).trans rfl; have hfz11_0 := Y' BK138.out 0; have hfz11_1 := Y' BK138.out 1; have hfz11_2 := Y' BK138.out 2)); go_ret; exact ⟨qE, qK1 HB.out GE138.out⟩
  ·rw [if_neg c9] at H; have c9b0 : ((Int.tmod (wrap64 ((wrap64 ((wrap64 (a0_0 + a0_1)) - 1)) - a1)) 2) == 0) = false := beq_eq_false_iff_ne.mpr c9; have c9b1 : ((Int.tmod (wrap64 ((wrap64 ((wrap64 (a0_0 + a0_1)) - 1)) - a1)) 2) != 0) = true := bne_iff_ne.mpr c9; obtain rfl := Option.some.inj H; go_enter Try.func55, Try.ntmps55; go_wp2_with (first | ((with_reducible refine gate_dst (N := 2) rfl ?_); refine box_event ?hg (N := 2) ?hd (cs := #[.int .i64 a0_0, .int .i64 a0_1, .bool false]) (t := 26) ?hr ?_; (case hd => rfl); (case hg => rfl); (case hr => first | (go_simp; done) | (go_simp; rfl)); intro gb138 hg w12 hbox hb; have n0_ := A' (W' (qK0 HB.out) hb); have n1_ := A' (hbox); have n2_ := A' ((by rw [hg]; exact (V' (qK0 HB.out)) : w.heap.size ≤ gb138)); have n3_ := A' ((by rw [hg]; exact (V' (qK0 HB.out)) : w.heap.size ≤ gb138)); clear HB; have HB := n0_; have BK138 := n1_; have GW138 := n2_; have GE138 := n3_; clear n0_ n1_ n2_ n3_; clear hb hbox hg; have hcz13_0 : w12.cell? ⟨gb138, 0, none⟩ = some (.int .i64 a0_0) := (N' BK138.out 0).trans rfl; have hcz13_1 : w12.cell? ⟨gb138, 1, none⟩ = some (.int .i64 a0_1) := (N' BK138.out 1).trans rfl; have hcz13_2 : w12.cell? ⟨gb138, 2, none⟩ = some (.bool false) := (N' BK138.out 2).trans rfl; have hfz13_0 := Y' BK138.out 0; have hfz13_1 := Y' BK138.out 1; have hfz13_2 := Y' BK138.out 2)); go_ret; exact ⟨qE, qK1 HB.out GE138.out⟩

/-! ### impl_sheavesAt: function 54 -/
def impl_sheavesAt.f (a0_0 : Int) (a0_1 : Int) (a0_2 : Bool) (a1 : Int) : Option (Int) := if a1 = 1 then (some a0_1) else (some a0_0)
set_option maxHeartbeats 8000000 in
set_option maxRecDepth 100000 in
theorem impl_sheavesAt.calls (a0_0 : Int) (a0_1 : Int) (a0_2 : Bool) (a1 : Int) (r : Int) (w : World) (h : impl_sheavesAt.f a0_0 a0_1 a0_2 a1 = some r) :
  Calls Try.prog 54 #[.agg #[.int .i64 a0_0, .int .i64 a0_1, .bool a0_2], .int .i64 a1] w fun e w' => e = .returned (.int .i64 r) ∧ Below w.heap.size w w' := by
 have hu26 := Try.underlying26; have HB := A' (Below.refl w.heap.size w); have H : (if a1 = 1 then (some a0_1) else (some a0_0)) = some r := h; clear h
 by_cases c3 : a1 = 1
 ·rw [if_pos c3] at H; have c3b0 : (a1 == 1) = true := beq_iff_eq.mpr c3; have c3b1 : (a1 != 1) = false := bne_eq_false_iff_eq.mpr c3; clear c3; obtain rfl := Option.some.inj H; go_enter Try.func54, Try.ntmps54; go_wp2_with (first | ((with_reducible refine gate_dst (N := 2) rfl ?_); refine box_event ?hg (N := 2) ?hd (cs := #[.int .i64 a0_0, .int .i64 a0_1, .bool a0_2]) (t := 26) ?hr ?_; (case hd => rfl); (case hg => rfl); (case hr => first | (go_simp; done) | (go_simp; rfl)); intro gb139 hg w4 hbox hb; have n0_ := A' (W' (qK0 HB.out) hb); have n1_ := A' (hbox); have n2_ := A' ((by rw [hg]; exact (V' (qK0 HB.out)) : w.heap.size ≤ gb139)); have n3_ := A' ((by rw [hg]; exact (V' (qK0 HB.out)) : w.heap.size ≤ gb139)); clear HB; have HB := n0_; have BK139 := n1_; have GW139 := n2_; have GE139 := n3_; clear n0_ n1_ n2_ n3_; clear hb hbox hg; have hcz5_0 : w4.cell? ⟨gb139, 0, none⟩ = some (.int .i64 a0_0) := (N' BK139.out 0).trans rfl; have hcz5_1 : w4.cell? ⟨gb139, 1, none⟩ = some (.int .i64 a0_1) := (N' BK139.out 1).trans rfl; have hcz5_2 : w4.cell? ⟨gb139, 2, none⟩ = some (.bool a0_2) := (N' BK139.out 2).trans rfl; have hfz5_0 := Y' BK139.out 0; have hfz5_1 := Y' BK139.out 1; have hfz5_2 := Y' BK139.out 2)); go_ret; exact ⟨qE, qK1 HB.out GE139.out⟩
 ·rw [if_neg c3] at H; have c3b0 : (a1 == 1) = false := beq_eq_false_iff_ne.mpr c3; have c3b1 : (a1 != 1) = true := bne_iff_ne.mpr c3; obtain rfl := Option.some.inj H; go_enter Try.func54, Try.ntmps54; go_wp2_with (first | ((with_reducible refine gate_dst (N := 2) rfl ?_); refine box_event ?hg (N := 2) ?hd (cs := #[.int .i64 a0_0, .int .i64 a0_1, .bool a0_2]) (t := 26) ?hr ?_; (case hd => rfl); (case hg => rfl); (case hr => first | (go_simp; done) | (go_simp; rfl)); intro gb139 hg w6 hbox hb; have n0_ := A' (W' (qK0 HB.out) hb); have n1_ := A' (hbox); have n2_ := A' ((by rw [hg]; exact (V' (qK0 HB.out)) : w.heap.size ≤ gb139)); have n3_ := A' ((by rw [hg]; exact (V' (qK0 HB.out)) : w.heap.size ≤ gb139)); clear HB; have HB := n0_; have BK139 := n1_; have GW139 := n2_; have GE139 := n3_; clear n0_ n1_ n2_ n3_; clear hb hbox hg; have hcz7_0 : w6.cell? ⟨gb139, 0, none⟩ = some (.int .i64 a0_0) := (N' BK139.out 0).trans rfl; have hcz7_1 : w6.cell? ⟨gb139, 1, none⟩ = some (.int .i64 a0_1) := (N' BK139.out 1).trans rfl; have hcz7_2 : w6.cell? ⟨gb139, 2, none⟩ = some (.bool a0_2) := (N' BK139.out 2).trans rfl; have hfz7_0 := Y' BK139.out 0; have hfz7_1 := Y' BK139.out 1; have hfz7_2 := Y' BK139.out 2)); go_ret; exact ⟨qE, qK1 HB.out GE139.out⟩

/-! ### impl_Stop_65: function 65 -/
def impl_Stop_65.l0 : Nat → List (S53) → Int → Int → Int → Int → Option (Int)
 | 0, _, _, _, _, _ => none
 | k + 1, x0, x7, x8, x141000, x141001 => if x8 < x7 then (if 0 ≤ x8 then (if x8 < (x0.length : Int) then (if (x141000 == ((rd_T53 x0 x8).f0) && (x141001 == ((rd_T53 x0 x8).f1))) = true then (some x8) else (impl_Stop_65.l0 k x0 x7 (wrap64 (x8 + 1)) x141000 x141001)) else (none)) else (none)) else (some (-1))
def impl_Stop_65.f (k : Nat) (l0 : List (S53)) (a1_0 : Int) (a1_1 : Int) : Option (Int) := impl_Stop_65.l0 k l0 (l0.length : Int) 0 a1_0 a1_1
theorem impl_Stop_65.mono_l : ∀ k, (∀ y0 y1 y2 y3 y4, LeO (impl_Stop_65.l0 k y0 y1 y2 y3 y4) (impl_Stop_65.l0 (k + 1) y0 y1 y2 y3 y4))
 | 0 => fun _ _ _ _ _ r h => by simp [impl_Stop_65.l0] at h
 | k + 1 => by
  have ih0 := impl_Stop_65.mono_l k
  ·intro y0 y1 y2 y3 y4
   unfold impl_Stop_65.l0
   repeat' first
   | (with_reducible exact ih0 _ _ _ _ _)
   | (with_reducible exact LeO.refl _)
   | (with_reducible exact LeO.none _)
   | (with_reducible refine LeO.ite ?_ ?_)
   | (with_reducible refine LeO.bind ?_ (fun _ => ?_))
   | exact ih0 _ _ _ _ _
   | exact LeO.none _
   | refine LeO.ite ?_ ?_
   | refine LeO.bind ?_ (fun _ => ?_)
theorem impl_Stop_65.mono : ∀ a0 a1 a2 k, LeO (impl_Stop_65.f k a0 a1 a2) (impl_Stop_65.f (k + 1) a0 a1 a2) := by
 intro a0 a1 a2 k
 have ih0 := impl_Stop_65.mono_l k
 unfold impl_Stop_65.f
 repeat' first
   | (with_reducible exact ih0 _ _ _ _ _)
   | (with_reducible exact LeO.refl _)
   | (with_reducible exact LeO.none _)
   | (with_reducible refine LeO.ite ?_ ?_)
   | (with_reducible refine LeO.bind ?_ (fun _ => ?_))
   | exact ih0 _ _ _ _ _
   | exact LeO.none _
   | refine LeO.ite ?_ ?_
   | refine LeO.bind ?_ (fun _ => ?_)
set_option maxHeartbeats 8000000 in
set_option maxRecDepth 100000 in
theorem impl_Stop_65.calls (k : Nat) (A0 : Option Addr) (c0 : Nat) (l0 : List (S53)) (a1_0 : Int) (a1_1 : Int) (r : Int) (w : World) (hr0 : Kd.C k53 w A0 l0.length l0) (hc0 : l0.length ≤ c0) (h : impl_Stop_65.f k l0 a1_0 a1_1 = some r) :
  Calls Try.prog 65 #[.slice A0 l0.length c0, .agg #[.int .i64 a1_0, .int .i64 a1_1]] w fun e w' => e = .returned (.int .i64 r) ∧ Below w.heap.size w w' := by
 have hu53 := Try.underlying53; have HR0 := A' hr0; have HC0 := A' hc0; clear hr0 hc0; have HB := A' (Below.refl w.heap.size w); have H : (impl_Stop_65.l0 k l0 (l0.length : Int) 0 a1_0 a1_1) = some r := h; clear h; have H' := A' H; clear H; go_enter Try.func65, Try.ntmps65; go_wp2_with (first | ((with_reducible refine gate_dst (N := 3) rfl ?_); refine box_event ?hg (N := 3) ?hd (cs := #[.int .i64 a1_0, .int .i64 a1_1]) (t := 53) ?hr ?_; (case hd => rfl); (case hg => rfl); (case hr => first | (go_simp; done) | (go_simp; rfl)); intro gb140 hg w3 hbox hb; have n0_ := A' (W' (qK0 HB.out) hb); have n1_ := A' (hbox); have n2_ := A' ((by rw [hg]; exact (V' (qK0 HB.out)) : w.heap.size ≤ gb140)); have n3_ := A' ((by rw [hg]; exact (V' (qK0 HB.out)) : w.heap.size ≤ gb140)); clear HB; have HB := n0_; have BK140 := n1_; have GW140 := n2_; have GE140 := n3_; clear n0_ n1_ n2_ n3_; clear hb hbox hg))
 repeat (go_quiet (first | ((with_reducible refine gate_dst (N := 3) rfl ?_); refine box_event ?hg (N := 3) ?hd (cs := #[.int .i64 a1_0, .int .i64 a1_1]) (t := 53) ?hr ?_; (case hd => rfl); (case hg => rfl); (case hr => first | (go_simp; done) | (go_simp; rfl)); intro gb140 hg w3 hbox hb; have n0_ := A' (W' (qK0 HB.out) hb); have n1_ := A' (hbox); have n2_ := A' ((by rw [hg]; exact (V' (qK0 HB.out)) : w.heap.size ≤ gb140)); have n3_ := A' ((by rw [hg]; exact (V' (qK0 HB.out)) : w.heap.size ≤ gb140)); clear HB; have HB := n0_; have BK140 := n1_; have GW140 := n2_; have GE140 := n3_; clear n0_ n1_ n2_ n3_; clear hb hbox hg)); try go_wp2_with (first | ((with_reducible refine gate_dst (N := 3) rfl ?_); refine box_event ?hg (N := 3) ?hd (cs := #[.int .i64 a1_0, .int .i64 a1_1]) (t := 53) ?hr ?_; (case hd => rfl); (case hg => rfl); (case hr => first | (go_simp; done) | (go_simp; rfl)); intro gb140 hg w3 hbox hb; have n0_ := A' (W' (qK0 HB.out) hb); have n1_ := A' (hbox); have n2_ := A' ((by rw [hg]; exact (V' (qK0 HB.out)) : w.heap.size ≤ gb140)); have n3_ := A' ((by rw [hg]; exact (V' (qK0 HB.out)) : w.heap.size ≤ gb140)); clear HB; have HB := n0_; have BK140 := n1_; have GW140 := n2_; have GE140 := n3_; clear n0_ n1_ n2_ n3_; clear hb hbox hg)))
 go_loopg [8] k (fun kq v8 w' => ∃ (x8_1 : Int), v8 = .int .i64 x8_1 ∧ Aside0 (impl_Stop_65.l0 kq l0 (l0.length : Int) x8_1 a1_0 a1_1 = some r) ∧ Aside0 (kq ≤ k) ∧ Aside0 (w'.heap[gb140]? = some (.cells #[.int .i64 a1_0, .int .i64 a1_1] 53 (0, 0))) ∧ Aside0 (Below w.heap.size w w'))
 case atStart => exact ⟨(0), qS, H', ⟨Nat.le_refl _⟩, ⟨qB BK140.out⟩, ⟨qK1 HB.out GE140.out⟩⟩
 case round =>
  clear H'; try clear p2
  obtain ⟨x8_1, rfl, HA, HK1, BK140, HB⟩ := hrel
  cases gk with
  | zero => exact absurd HA.out (by simp [impl_Stop_65.l0])
  | succ k1 =>
   have H := HA.out; clear HA; simp only [impl_Stop_65.l0] at H
   by_cases c4 : x8_1 < (l0.length : Int)
   ·rw [if_pos c4] at H; have c4b0 : decide (x8_1 < (l0.length : Int)) = true := dT' c4; clear c4
    by_cases c5 : 0 ≤ x8_1
    ·rw [if_pos c5] at H; have c5b0 : decide (0 ≤ x8_1) = true := dT' c5; clear c5
     by_cases c6 : x8_1 < (l0.length : Int)
     ·rw [if_pos c6] at H; have c6b0 : decide (x8_1 < (l0.length : Int)) = true := dT' c6; clear c6
      by_cases c7 : (a1_0 == ((rd_T53 l0 x8_1).f0) && (a1_1 == ((rd_T53 l0 x8_1).f1))) = true
      ·rw [if_pos c7] at H; have c7b0 : (a1_0 == ((rd_T53 l0 x8_1).f0) && (a1_1 == ((rd_T53 l0 x8_1).f1))) = true := c7; (try (have c7b1 : decide (a1_0 = ((rd_T53 l0 x8_1).f0) && (a1_1 == ((rd_T53 l0 x8_1).f1))) = true := by simpa using c7)); (try (have c7b2 : (a1_0 == ((rd_T53 l0 x8_1).f0) && (a1_1 == ((rd_T53 l0 x8_1).f1))) = true := by simpa using c7)); clear c7; obtain rfl := Option.some.inj H; have hcz8_0 : wr.cell? ⟨gb140, 0, none⟩ = some (.int .i64 a1_0) := (N' BK140.out 0).trans rfl; have hcz8_1 : wr.cell? ⟨gb140, 1, none⟩ = some (.int .i64 a1_1) := (N' BK140.out 1).trans rfl; have hfz8_0 := Y' BK140.out 0; have hfz8_1 := Y' BK140.out 1; have p141 : 0 ≤ (x8_1 : Int) := oD' qA; have q141 : x8_1 < (l0.length : Int) := oD' qA; obtain ⟨ad141, e141, hx141_0, hx141_1⟩ := at_T53 HR0.out x8_1 p141 q141
       cases e141
       try replace hx141_0 := qC HB.out hx141_0
       try replace hx141_1 := qC HB.out hx141_1
       replace p141 := eq_true p141; replace q141 := eq_true q141; go_wp2
       repeat (go_quiet (fail); try go_wp2)
       go_ret; exact ⟨qE, qK1 HB.out GE140.out⟩
      ·rw [if_neg c7] at H; have c7b0 : (a1_0 == ((rd_T53 l0 x8_1).f0) && (a1_1 == ((rd_T53 l0 x8_1).f1))) = false := by simpa using c7
       (try (have c7b1 : decide (a1_0 = ((rd_T53 l0 x8_1).f0) && (a1_1 == ((rd_T53 l0 x8_1).f1))) = false := by simpa using c7)); (try (have c7b2 : (a1_0 == ((rd_T53 l0 x8_1).f0) && (a1_1 == ((rd_T53 l0 x8_1).f1))) = false := by simpa using c7)); (try (have c7b3 : ¬ (a1_0 = ((rd_T53 l0 x8_1).f0) && (a1_1 == ((rd_T53 l0 x8_1).f1))) := by simpa using c7)); clear c7; have H' := A' H; clear H; have hcz9_0 : wr.cell? ⟨gb140, 0, none⟩ = some (.int .i64 a1_0) := (N' BK140.out 0).trans rfl; have hcz9_1 : wr.cell? ⟨gb140, 1, none⟩ = some (.int .i64 a1_1) := (N' BK140.out 1).trans rfl; have hfz9_0 := Y' BK140.out 0; have hfz9_1 := Y' BK140.out 1; have p141 : 0 ≤ (x8_1 : Int) := oD' qA; have q141 : x8_1 < (l0.length : Int) := oD' qA; obtain ⟨ad141, e141, hx141_0, hx141_1⟩ := at_T53 HR0.out x8_1 p141 q141
       cases e141
       try replace hx141_0 := qC HB.out hx141_0
       try replace hx141_1 := qC HB.out hx141_1
       replace p141 := eq_true p141; replace q141 := eq_true q141; go_wp2
       repeat (go_quiet (fail); try go_wp2)
       go_roundg k1
       case measure => have := HK1.out; omega
       case rel => exact ⟨(wrap64 (x8_1 + 1)), qS, H', ⟨by have := HK1.out; omega⟩, ⟨qB BK140.out⟩, ⟨qK1 HB.out GE140.out⟩⟩
     ·rw [if_neg c6] at H; exact absurd H (by simp)
    ·rw [if_neg c5] at H; exact absurd H (by simp)
   ·rw [if_neg c4] at H; have c4b0 : decide (x8_1 < (l0.length : Int)) = false := dF' c4; clear c4; obtain rfl := Option.some.inj H; go_wp2
    repeat (go_quiet (fail); try go_wp2)
    go_ret; exact ⟨qE, qK1 HB.out GE140.out⟩

/-! ### impl_Stop_57: function 57 -/
def impl_Stop_57.f (k : Nat) (l0 : List (S53)) (a1_0 : Int) (a1_1 : Int) : Option (Bool) := (impl_Stop_65.f k l0 a1_0 a1_1).bind fun t143 => (some (decide (t143 ≥ 0)))
theorem impl_Stop_57.mono : ∀ a0 a1 a2 k, LeO (impl_Stop_57.f k a0 a1 a2) (impl_Stop_57.f (k + 1) a0 a1 a2) := by
 intro a0 a1 a2 k
 unfold impl_Stop_57.f
 repeat' first
   | (with_reducible exact impl_Stop_65.mono _ _ _ _)
   | (with_reducible exact LeO.refl _)
   | (with_reducible exact LeO.none _)
   | (with_reducible refine LeO.ite ?_ ?_)
   | (with_reducible refine LeO.bind ?_ (fun _ => ?_))
   | exact impl_Stop_65.mono _ _ _ _
   | exact LeO.none _
   | refine LeO.ite ?_ ?_
   | refine LeO.bind ?_ (fun _ => ?_)
set_option maxHeartbeats 8000000 in
set_option maxRecDepth 100000 in
theorem impl_Stop_57.calls (k : Nat) (A0 : Option Addr) (c0 : Nat) (l0 : List (S53)) (a1_0 : Int) (a1_1 : Int) (r : Bool) (w : World) (hr0 : Kd.C k53 w A0 l0.length l0) (hc0 : l0.length ≤ c0) (h : impl_Stop_57.f k l0 a1_0 a1_1 = some r) :
  Calls Try.prog 57 #[.slice A0 l0.length c0, .agg #[.int .i64 a1_0, .int .i64 a1_1]] w fun e w' => e = .returned (.bool r) ∧ Below w.heap.size w w' := by
 have hu53 := Try.underlying53; have HR0 := A' hr0; have HC0 := A' hc0; clear hr0 hc0; have HB := A' (Below.refl w.heap.size w); have H : ((impl_Stop_65.f k l0 a1_0 a1_1).bind fun t143 => (some (decide (t143 ≥ 0)))) = some r := h; clear h; replace H := Option.bind_eq_some_iff.mp H; obtain ⟨t143, A30, H⟩ := H; replace H : (some (decide (t143 ≥ 0))) = some r := H; have A3 := A' A30; clear A30; obtain rfl := Option.some.inj H; go_enter Try.func57, Try.ntmps57; go_wp2_with (first | ((with_reducible refine gate_dst (N := 3) rfl ?_); refine box_event ?hg (N := 3) ?hd (cs := #[.int .i64 a1_0, .int .i64 a1_1]) (t := 53) ?hr ?_; (case hd => rfl); (case hg => rfl); (case hr => first | (go_simp; done) | (go_simp; rfl)); intro gb142 hg w4 hbox hb; have n0_ := A' (W' (qK0 HB.out) hb); have n1_ := A' (hbox); have n2_ := A' ((by rw [hg]; exact (V' (qK0 HB.out)) : w.heap.size ≤ gb142)); have n3_ := A' ((by rw [hg]; exact (V' (qK0 HB.out)) : w.heap.size ≤ gb142)); clear HB; have HB := n0_; have BK142 := n1_; have GW142 := n2_; have GE142 := n3_; clear n0_ n1_ n2_ n3_; clear hb hbox hg; have hcz5_0 : w4.cell? ⟨gb142, 0, none⟩ = some (.int .i64 a1_0) := (N' BK142.out 0).trans rfl; have hcz5_1 : w4.cell? ⟨gb142, 1, none⟩ = some (.int .i64 a1_1) := (N' BK142.out 1).trans rfl; have hfz5_0 := Y' BK142.out 0; have hfz5_1 := Y' BK142.out 1) | ((with_reducible refine gate_callee (f := 65) rfl ?_); refine goesL_ (some 7) rfl rfl Try.func65 (by kernel_rfl) rfl #[.slice A0 l0.length c0, .agg #[.int .i64 a1_0, .int .i64 a1_1]] rfl (by (try simp only [List.map_toArray, List.map_cons, List.map_nil]); first | done | rfl | (simp only [List.length_drop, List.length_take]; rfl)) ?_; (with_reducible refine (impl_Stop_65.calls k _ _ l0 a1_0 a1_1 t143 _ ?side1 ?side2 A3.out).mono ?_); (case side1 => exact qT (X' HR0.out HB.out)); (case side2 => exact HC0.out); rintro e w6 ⟨rfl, hb⟩; refine ⟨_, rfl, ?_⟩; have n0_ := A' (O' (g := gb142) (qB BK142.out) hb); have n1_ := A' (W' (qK1 HB.out GE142.out) hb); clear BK142; clear HB; have BK142 := n0_; have HB := n1_; clear n0_ n1_; (try clear hb); (try clear hb2); (try clear hk); (try clear hi))); go_ret; exact ⟨qE, qK1 HB.out GE142.out⟩

/-! ### spec_l00In: function 48 -/
def spec_l00In.f (a0 : Int) (a1 : Int) (a2 : Int) : Option (Bool) := if a0 ≥ a1 then (some (decide (a0 ≤ a2))) else (some false)
set_option maxHeartbeats 8000000 in
set_option maxRecDepth 100000 in
theorem spec_l00In.calls (a0 : Int) (a1 : Int) (a2 : Int) (r : Bool) (w : World) (h : spec_l00In.f a0 a1 a2 = some r) :
  Calls Try.prog 48 #[.int .i64 a0, .int .i64 a1, .int .i64 a2] w fun e w' => e = .returned (.bool r) ∧ Drawn0 w w' := by
 have H : (if a0 ≥ a1 then (some (decide (a0 ≤ a2))) else (some false)) = some r := h; clear h
 by_cases c4 : a0 ≥ a1
 ·rw [if_pos c4] at H; have c4b0 : decide (a1 ≤ a0) = true := dT' c4; clear c4; obtain rfl := Option.some.inj H; go_enter Try.func48, Try.ntmps48; go_wp2; go_ret; exact ⟨by first | rfl | (simp; done) | (simp [*]; done), by repeat (first | exact Drawn0.refl _ | apply Drawn0.step)⟩
 ·rw [if_neg c4] at H; have c4b0 : decide (a1 ≤ a0) = false := dF' c4; clear c4; obtain rfl := Option.some.inj H; go_enter Try.func48, Try.ntmps48; go_wp2; go_ret; exact ⟨by first | rfl | (simp; done) | (simp [*]; done), by repeat (first | exact Drawn0.refl _ | apply Drawn0.step)⟩

end Go.Proofs.Ytifdihbndlmgpaa.HCro
