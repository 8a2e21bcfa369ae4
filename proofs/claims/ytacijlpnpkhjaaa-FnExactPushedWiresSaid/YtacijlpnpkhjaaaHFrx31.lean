-- Written by a program for this claim (the functions that the statement reaches, and that the program's code comes to them).
import Derived.Test.YtacijlpnpkhjaaaHFrx0
import Derived.Test.YtacijlpnpkhjaaaHFrx6
import Derived.Test.YtacijlpnpkhjaaaHFrx14
import Derived.Test.YtacijlpnpkhjaaaHFrx15
namespace Go.Proofs.Ytacijlpnpkhjaaa.HFr
open Go.RowKit Go.Proofs.YtacijlpnpkhjaaaW.PrintWords Go.Proofs.YtacijlpnpkhjaaaW.PrintLast Go.Proofs.YtacijlpnpkhjaaaW.PrintMore
attribute [local go_sem] max2_int min2_int max_two min_two max_three min_three max_four min_four   -- for this text's walks alone
set_option linter.unusedVariables false
set_option linter.unusedSimpArgs false

/-! ### spec_l09Pushed: function 83 -/
def spec_l09Pushed.l0 : Nat → List Int → Int → List (S82) → List (S84) → List Int → Int → Option (List Int)
 | 0, _, _, _, _, _, _ => none
 | k + 1, x5, x6, x1000, x1001, x2000, x2001 => if x6 < (x1001.length : Int) then (if 0 ≤ x6 then (if ((rd_T84 x1001 x6).f2 = true) then (spec_l09Pushed.l0 k x5 (wrap64 (x6 + 1)) x1000 x1001 x2000 x2001) else (if x6 < (x2000.length : Int) then (if (rd x2000 x6) < 0 then (if x5.length < 17592186044416 then (spec_l09Pushed.l0 k (x5 ++ [x6]) (wrap64 (x6 + 1)) x1000 x1001 x2000 x2001) else (none)) else (spec_l09Pushed.l0 k x5 (wrap64 (x6 + 1)) x1000 x1001 x2000 x2001)) else (none))) else (none)) else (some x5)
def spec_l09Pushed.f (k : Nat) (l0_0 : List (S82)) (l0_1 : List (S84)) (l1_0 : List Int) (a1_1 : Int) : Option (List Int) := spec_l09Pushed.l0 k (([] : List Int)) 0 l0_0 l0_1 l1_0 a1_1
theorem spec_l09Pushed.mono_l : ∀ k, (∀ y0 y1 y2 y3 y4 y5, LeO (spec_l09Pushed.l0 k y0 y1 y2 y3 y4 y5) (spec_l09Pushed.l0 (k + 1) y0 y1 y2 y3 y4 y5))
 | 0 => fun _ _ _ _ _ _ r h => by simp [spec_l09Pushed.l0] at h
 | k + 1 => by
  have ih0 := spec_l09Pushed.mono_l k
  ·intro y0 y1 y2 y3 y4 y5
   unfold spec_l09Pushed.l0
   repeat' first
   | (with_reducible exact ih0 _ _ _ _ _ _)
   | (with_reducible exact LeO.refl _)
   | (with_reducible exact LeO.none _)
   | (with_reducible refine LeO.ite ?_ ?_)
   | (with_reducible refine LeO.bind ?_ (fun _ => ?_))
   | exact ih0 _ _ _ _ _ _
   | exact LeO.none _
   | refine LeO.ite ?_ ?_
   | refine LeO.bind ?_ (fun _ => ?_)
theorem spec_l09Pushed.mono : ∀ a0 a1 a2 a3 k, LeO (spec_l09Pushed.f k a0 a1 a2 a3) (spec_l09Pushed.f (k + 1) a0 a1 a2 a3) := by
 intro a0 a1 a2 a3 k
 have ih0 := spec_l09Pushed.mono_l k
 unfold spec_l09Pushed.f
 repeat' first
   | (with_reducible exact ih0 _ _ _ _ _ _)
   | (with_reducible exact LeO.refl _)
   | (with_reducible exact LeO.none _)
   | (with_reducible refine LeO.ite ?_ ?_)
   | (with_reducible refine LeO.bind ?_ (fun _ => ?_))
   | exact ih0 _ _ _ _ _ _
   | exact LeO.none _
   | refine LeO.ite ?_ ?_
   | refine LeO.bind ?_ (fun _ => ?_)
@[reducible] def spec_l09Pushed.y' : Bool := true
@[reducible] def spec_l09Pushed.n' : Bool := false
theorem spec_l09Pushed.z1' {α : Type} (l : List α) (i : Nat) (a : α) : l.toArray.setIfInBounds i a = (l.set i a).toArray := List.setIfInBounds_toArray ..
theorem spec_l09Pushed.z2' {α : Type} (a b : α) (l : List α) : (a :: l).set 0 b = b :: l := rfl
theorem spec_l09Pushed.z3' {α : Type} (a b : α) (l : List α) (n : Nat) : (a :: l).set (n + 1) b = a :: l.set n b := rfl
theorem spec_l09Pushed.G : type_of% @Aside0.mk := @Aside0.mk
theorem spec_l09Pushed.J : type_of% @below_set := @below_set
theorem spec_l09Pushed.L : type_of% @pw_below_drewN := @pw_below_drewN
theorem spec_l09Pushed.M : type_of% @blk_drewN := @blk_drewN
theorem spec_l09Pushed.O : type_of% @blk_alloc := @blk_alloc
theorem spec_l09Pushed.T : type_of% @blk_drew := @blk_drew
theorem spec_l09Pushed.U : type_of% @below_drew1 := @below_drew1
theorem spec_l09Pushed.V : type_of% @below_alloc := @below_alloc
theorem spec_l09Pushed.X : type_of% @blk_cell := @blk_cell
theorem spec_l09Pushed.Y : type_of% @blk_frozen := @blk_frozen
set_option maxHeartbeats 8000000 in
set_option maxRecDepth 100000 in
theorem spec_l09Pushed.calls (k : Nat) (gp0 : Nat) (A0_0 : Option Addr) (c0_0 : Nat) (l0_0 : List (S82)) (A0_1 : Option Addr) (c0_1 : Nat) (l0_1 : List (S84)) (gp1 : Nat) (A1_0 : Option Addr) (c1_0 : Nat) (l1_0 : List Int) (a1_1 : Int) (r : List Int) (w : World) (hb0 : w.heap[gp0]? = some (.cells #[.slice A0_0 l0_0.length c0_0, .slice A0_1 l0_1.length c0_1] 39 (0, 0))) (hb1 : w.heap[gp1]? = some (.cells #[.slice A1_0 l1_0.length c1_0, .int .i64 a1_1] 27 (0, 0))) (hr0_0 : Kd.C k82 w A0_0 l0_0.length l0_0) (hc0_0 : l0_0.length ≤ c0_0) (hr0_1 : Kd.C k84 w A0_1 l0_1.length l0_1) (hc0_1 : l0_1.length ≤ c0_1) (hr1_0 : Kd.C (Kd.int .i64) w A1_0 l1_0.length l1_0) (hc1_0 : l1_0.length ≤ c1_0) (h : spec_l09Pushed.f k l0_0 l0_1 l1_0 a1_1 = some r) :
  Calls Try.prog 83 #[.pointer (some ⟨gp0, 0, none⟩), .pointer (some ⟨gp1, 0, none⟩)] w fun e w' => ∃ v0_ : Value, e = .returned (v0_) ∧ Kd.R (Kd.int .i64) 2 w' w.heap.size (fun _ => True) v0_ r ∧ Below w.heap.size w w' := by
 have HR0_0 := G hr0_0
 have HC0_0 := G hc0_0
 clear hr0_0 hc0_0
 have HR0_1 := G hr0_1
 have HC0_1 := G hc0_1
 clear hr0_1 hc0_1
 have HR1_0 := G hr1_0
 have HC1_0 := G hc1_0
 clear hr1_0 hc1_0
 have NE0_1 : gp0 ≠ gp1 := fun e_ => by have h_ := hb1; rw [← e_] at h_; have h2_ := hb0.symm.trans h_; simp at h2_
 have NB0_1 := G NE0_1
 have NB1_0 := G (Ne.symm NE0_1)
 clear NE0_1
 have BK0 := G hb0
 clear hb0
 have BK1 := G hb1
 clear hb1
 have HB := G (Below.refl w.heap.size w)
 have H : (spec_l09Pushed.l0 k (([] : List Int)) 0 l0_0 l0_1 l1_0 a1_1) = some r := h
 clear h
 obtain ⟨y629, hy629⟩ : ∃ y_ : List Int, y_ = (([] : List Int)) := ⟨_, rfl⟩
 replace H : (spec_l09Pushed.l0 k y629 0 l0_0 l0_1 l1_0 a1_1) = some r := by first | (rw [hy629]; with_reducible exact H) | (have H2_ := (Option.bind_some _ _).symm.trans H; rw [hy629]; with_reducible exact H2_) | (have H2_ := (Option.bind_some _ _).symm.trans H; with_reducible exact H2_) | with_reducible exact H | (rw [hy629]; exact H) | exact H
 have Ny629 := G hy629
 clear hy629
 have H' := G H
 clear H
 go_enter Try.func83, Try.ntmps83
 go_wp2_with (first | ((with_reducible refine gate_dst (N := 7) rfl ?_); refine Kd.R_lit (Kd.int .i64) _ 2 ?hg (N := 7) ?hd (xs := ([] : List Int)) (inner := []) (ok := fun _ => True) (okp := fun _ => True) ?hr ?hp (fun _ hk => hk) trivial (Below.refl _ _) (Nat.le_refl _) (by simp) ?_; (case hd => rfl); (case hg => rfl); (case hr => first | (go_simp; done) | (go_simp; rfl)); (case hp => exact (Reps.none _ _)); intro v630 w3 ho4 hb hg_ hnew_; clear hg_ hnew_; (first | rw [← Ny629.out] at ho4 | (simp only [Int.reduceToNat] at ho4; rw [← Ny629.out] at ho4)); have n0_ := G (Kd.R_lower ho4 (below_size (by repeat (first | (with_reducible first | exact HB.out | apply V | apply L | apply U | refine J ?_ GE0.out | refine J ?_ GE1.out) | exact HB.out)))); have n1_ := G (blk_below (g := gp0) (o := .cells #[.slice A0_0 l0_0.length c0_0, .slice A0_1 l0_1.length c0_1] 39 (0, 0)) (by (with_reducible repeat (first | refine M ?_ _ | refine T ?_ | refine O ?_ _)); exact BK0.out) hb); have n2_ := G (blk_below (g := gp1) (o := .cells #[.slice A1_0 l1_0.length c1_0, .int .i64 a1_1] 27 (0, 0)) (by (with_reducible repeat (first | refine M ?_ _ | refine T ?_ | refine O ?_ _)); exact BK1.out) hb); have n3_ := G (below_step (by repeat (first | (with_reducible first | exact HB.out | apply V | apply L | apply U | refine J ?_ GE0.out | refine J ?_ GE1.out) | exact HB.out)) hb); clear BK0; clear BK1; clear HB; have HO631 := n0_; have BK0 := n1_; have BK1 := n2_; have HB := n3_; clear n0_ n1_ n2_ n3_; clear hb ho4))
 go_loopg [5, 6] k (fun kq v5 v6 w' => ∃ (x5_1 : List Int) (x6_1 : Int), v6 = .int .i64 x6_1 ∧ Aside0 (spec_l09Pushed.l0 kq x5_1 x6_1 l0_0 l0_1 l1_0 a1_1 = some r) ∧ Aside0 (kq ≤ k) ∧ Aside0 (Kd.R (Kd.int .i64) 2 w' w.heap.size (fun _ => True) v5 x5_1) ∧ Aside0 (w'.heap[gp0]? = some (.cells #[(.slice A0_0 l0_0.length c0_0), (.slice A0_1 l0_1.length c0_1)] 39 (0, 0))) ∧ Aside0 (w'.heap[gp1]? = some (.cells #[(.slice A1_0 l1_0.length c1_0), .int .i64 a1_1] 27 (0, 0))) ∧ Aside0 (Below w.heap.size w w'))
 case atStart => exact ⟨(y629), (0), (by first | rfl | (simp; done) | (simp [*]; done)), H', ⟨Nat.le_refl _⟩, ⟨by (with_reducible repeat (first | apply Kd.R_alloc | apply Kd.R_drewN | apply Kd.R_drew)); exact HO631.out⟩, ⟨by (with_reducible repeat (first | refine M ?_ _ | refine T ?_ | refine O ?_ _)); exact BK0.out⟩, ⟨by (with_reducible repeat (first | refine M ?_ _ | refine T ?_ | refine O ?_ _)); exact BK1.out⟩, ⟨by repeat (first | (with_reducible first | exact HB.out | apply V | apply L | apply U | refine J ?_ GE0.out | refine J ?_ GE1.out) | exact HB.out)⟩⟩
 case round =>
  clear H'
  try clear c1
  try clear p1
  try clear p2
  obtain ⟨x5_1, x6_1, rfl, HA, HK1, HO_5, BK0, BK1, HB⟩ := hrel
  cases gk with
  | zero => exact absurd HA.out (by simp [spec_l09Pushed.l0])
  | succ k1 =>
   have H := HA.out
   clear HA
   simp only [spec_l09Pushed.l0] at H
   by_cases c5 : x6_1 < (l0_1.length : Int)
   ·rw [if_pos c5] at H
    have c5b0 : decide (x6_1 < (l0_1.length : Int)) = true := decide_eq_true c5
    clear c5
    by_cases c6 : 0 ≤ x6_1
    ·rw [if_pos c6] at H
     have c6b0 : decide (0 ≤ x6_1) = true := decide_eq_true c6
     clear c6
     obtain ⟨bq7, hbq7⟩ : ∃ b_ : Bool, b_ = ((rd_T84 l0_1 x6_1).f2) := ⟨_, rfl⟩
     replace H : (if (bq7 = true) then (spec_l09Pushed.l0 k1 x5_1 (wrap64 (x6_1 + 1)) l0_0 l0_1 l1_0 a1_1) else (if x6_1 < (l1_0.length : Int) then (if (rd l1_0 x6_1) < 0 then (if x5_1.length < 17592186044416 then (spec_l09Pushed.l0 k1 (x5_1 ++ [x6_1]) (wrap64 (x6_1 + 1)) l0_0 l0_1 l1_0 a1_1) else (none)) else (spec_l09Pushed.l0 k1 x5_1 (wrap64 (x6_1 + 1)) l0_0 l0_1 l1_0 a1_1)) else (none))) = some r := by rw [← hbq7] at H; exact H
     have Nbq7 := G hbq7
     clear hbq7
     by_cases c8 : (bq7 = true)
     ·subst c8
      have H1 : (spec_l09Pushed.l0 k1 x5_1 (wrap64 (x6_1 + 1)) l0_0 l0_1 l1_0 a1_1) = some r := by rw [if_pos rfl] at H; exact H
      clear H
      have H := H1
      clear H1
      have H' := G H
      clear H
      have hnb9 := NB0_1.out
      have hnc9 := NB1_0.out
      have hcz10_0 : wr.cell? ⟨gp0, 0, none⟩ = some (.slice A0_0 l0_0.length c0_0) := (X BK0.out 0).trans rfl
      have hcz10_1 : wr.cell? ⟨gp0, 1, none⟩ = some (.slice A0_1 l0_1.length c0_1) := (X BK0.out 1).trans rfl
      have hfz10_0 := Y BK0.out 0
      have hfz10_1 := Y BK0.out 1
      have p632 : 0 ≤ (x6_1 : Int) := of_decide_eq_true (by first | (with_reducible assumption) | assumption)
      have q632 : x6_1 < (l0_1.length : Int) := of_decide_eq_true (by first | (with_reducible assumption) | assumption)
      obtain ⟨ad632, e632, hx632_0, hx632_1, hx632_2⟩ := at_T84 HR0_1.out x6_1 p632 q632
      (try rw [← Nbq7.out] at hx632_2)
      (try rw [← Nbq7.out] at hw632_2)
      cases e632
      (first | (replace hx632_0 := (HB.out.cell (World.block_lt_of_cell? w _ hx632_0)).trans hx632_0) | skip)
      (first | (replace hx632_1 := (HB.out.cell (World.block_lt_of_cell? w _ hx632_1)).trans hx632_1) | skip)
      (first | (replace hx632_2 := (HB.out.cell (World.block_lt_of_cell? w _ hx632_2)).trans hx632_2) | skip)
      replace p632 := eq_true p632
      replace q632 := eq_true q632
      go_wp2
      go_roundg k1
      case measure => have := HK1.out; omega
      case rel => exact ⟨(x5_1), (wrap64 (x6_1 + 1)), (by first | rfl | (simp; done) | (simp [*]; done)), H', ⟨by have := HK1.out; omega⟩, ⟨by (with_reducible repeat (first | apply Kd.R_alloc | apply Kd.R_drewN | apply Kd.R_drew)); exact HO_5.out⟩, ⟨by (with_reducible repeat (first | refine M ?_ _ | refine T ?_ | refine O ?_ _)); exact BK0.out⟩, ⟨by (with_reducible repeat (first | refine M ?_ _ | refine T ?_ | refine O ?_ _)); exact BK1.out⟩, ⟨by repeat (first | (with_reducible first | exact HB.out | apply V | apply L | apply U | refine J ?_ GE0.out | refine J ?_ GE1.out) | exact HB.out)⟩⟩
     ·replace c8 := Bool.eq_false_iff.mpr c8
      subst c8
      have H1 : (if x6_1 < (l1_0.length : Int) then (if (rd l1_0 x6_1) < 0 then (if x5_1.length < 17592186044416 then (spec_l09Pushed.l0 k1 (x5_1 ++ [x6_1]) (wrap64 (x6_1 + 1)) l0_0 l0_1 l1_0 a1_1) else (none)) else (spec_l09Pushed.l0 k1 x5_1 (wrap64 (x6_1 + 1)) l0_0 l0_1 l1_0 a1_1)) else (none)) = some r := by rw [if_neg (show ¬ (false = true) by decide)] at H; exact H
      clear H
      have H := H1
      clear H1
      by_cases c11 : x6_1 < (l1_0.length : Int)
      ·rw [if_pos c11] at H
       have c11b0 : decide (x6_1 < (l1_0.length : Int)) = true := decide_eq_true c11
       clear c11
       by_cases c12 : (rd l1_0 x6_1) < 0
       ·rw [if_pos c12] at H
        have c12b0 : decide ((rd l1_0 x6_1) < 0) = true := decide_eq_true c12
        clear c12
        by_cases c13 : x5_1.length < 17592186044416
        ·rw [if_pos c13] at H
         have LMc13 := G c13
         clear c13
         obtain ⟨y634, hy634⟩ : ∃ y_ : List Int, y_ = (x5_1 ++ [x6_1]) := ⟨_, rfl⟩
         replace H : (spec_l09Pushed.l0 k1 y634 (wrap64 (x6_1 + 1)) l0_0 l0_1 l1_0 a1_1) = some r := by first | (rw [hy634]; with_reducible exact H) | (have H2_ := (Option.bind_some _ _).symm.trans H; rw [hy634]; with_reducible exact H2_) | (have H2_ := (Option.bind_some _ _).symm.trans H; with_reducible exact H2_) | with_reducible exact H | (rw [hy634]; exact H) | exact H
         have Ny634 := G hy634
         clear hy634
         have H' := G H
         clear H
         have hnb14 := NB0_1.out
         have hnc14 := NB1_0.out
         have hcz15_0 : wr.cell? ⟨gp0, 0, none⟩ = some (.slice A0_0 l0_0.length c0_0) := (X BK0.out 0).trans rfl
         have hcz15_1 : wr.cell? ⟨gp0, 1, none⟩ = some (.slice A0_1 l0_1.length c0_1) := (X BK0.out 1).trans rfl
         have hfz15_0 := Y BK0.out 0
         have hfz15_1 := Y BK0.out 1
         have p632 : 0 ≤ (x6_1 : Int) := of_decide_eq_true (by first | (with_reducible assumption) | assumption)
         have q632 : x6_1 < (l0_1.length : Int) := of_decide_eq_true (by first | (with_reducible assumption) | assumption)
         obtain ⟨ad632, e632, hx632_0, hx632_1, hx632_2⟩ := at_T84 HR0_1.out x6_1 p632 q632
         (try rw [← Nbq7.out] at hx632_2)
         (try rw [← Nbq7.out] at hw632_2)
         cases e632
         (first | (replace hx632_0 := (HB.out.cell (World.block_lt_of_cell? w _ hx632_0)).trans hx632_0) | skip)
         (first | (replace hx632_1 := (HB.out.cell (World.block_lt_of_cell? w _ hx632_1)).trans hx632_1) | skip)
         (first | (replace hx632_2 := (HB.out.cell (World.block_lt_of_cell? w _ hx632_2)).trans hx632_2) | skip)
         replace p632 := eq_true p632
         replace q632 := eq_true q632
         have hcz16_0 : wr.cell? ⟨gp1, 0, none⟩ = some (.slice A1_0 l1_0.length c1_0) := (X BK1.out 0).trans rfl
         have hcz16_1 : wr.cell? ⟨gp1, 1, none⟩ = some (.int .i64 a1_1) := (X BK1.out 1).trans rfl
         have hfz16_0 := Y BK1.out 0
         have hfz16_1 := Y BK1.out 1
         have p633 : 0 ≤ (x6_1 : Int) := of_decide_eq_true (by first | (with_reducible assumption) | assumption)
         have q633 : x6_1 < (l1_0.length : Int) := of_decide_eq_true (by first | (with_reducible assumption) | assumption)
         obtain ⟨ad633, e633, hx633_0⟩ := Kd.at_int HR1_0.out x6_1 p633 q633
         cases e633
         (first | (replace hx633_0 := (HB.out.cell (World.block_lt_of_cell? w _ hx633_0)).trans hx633_0) | skip)
         replace p633 := eq_true p633
         replace q633 := eq_true q633
         go_wp2_with (first | ((with_reducible refine gate_builtin (b := .append) (xs := #[.tmp 36, .tmp 38]) rfl ?_); at_builtin; refine Kd.R_append (Kd.int .i64) (w0 := w) w.heap.size rfl (.tmp 36) (.tmp 38) 22 2 (.int .i64 0) 8 rfl Try.underlying22 info2 rfl (by decide) (by omega) u5 x5_1 x6_1 [.int .i64 x6_1] (fun _ => True) (fun _ => False) rfl rfl ?aP (fun _ hk => hk.elim) ?aF ?aO ?aB ?aS ?aL ?_; (case aP => exact rfl); (case aB => exact (by repeat (first | (with_reducible first | exact HB.out | apply V | apply L | apply U | refine J ?_ GE0.out | refine J ?_ GE1.out) | exact HB.out))); (case aF => exact (fun _ _ => trivial)); (case aO => exact (by (with_reducible repeat (first | apply Kd.R_alloc | apply Kd.R_drewN | apply Kd.R_drew)); exact HO_5.out)); (case aS => exact (below_size (by repeat (first | (with_reducible first | exact HB.out | apply V | apply L | apply U | refine J ?_ GE0.out | refine J ?_ GE1.out) | exact HB.out)))); (case aL => have := LMc13.out; omega); intro v635 w17 ho hb hg hat; rw [← Ny634.out] at ho; have n0_ := G (blk_grown (g := gp0) (o := .cells #[.slice A0_0 l0_0.length c0_0, .slice (some ad632) l0_1.length c0_1] 39 (0, 0)) (by (with_reducible repeat (first | refine M ?_ _ | refine T ?_ | refine O ?_ _)); exact BK0.out) hg (Kd.R_ne HO_5.out BK0.out (by decide))); have n1_ := G (blk_grown (g := gp1) (o := .cells #[.slice (some ad633) l1_0.length c1_0, .int .i64 a1_1] 27 (0, 0)) (by (with_reducible repeat (first | refine M ?_ _ | refine T ?_ | refine O ?_ _)); exact BK1.out) hg (Kd.R_ne HO_5.out BK1.out (by decide))); have n2_ := G (hb); have n3_ := G (ho); clear BK0; clear BK1; clear HB; clear HO_5; have BK0 := n0_; have BK1 := n1_; have HB := n2_; have HO636 := n3_; clear n0_ n1_ n2_ n3_; clear ho hb hg hat))
         go_roundg k1
         case measure => have := HK1.out; omega
         case rel => exact ⟨(y634), (wrap64 (x6_1 + 1)), (by first | rfl | (simp; done) | (simp [*]; done)), H', ⟨by have := HK1.out; omega⟩, ⟨by (with_reducible repeat (first | apply Kd.R_alloc | apply Kd.R_drewN | apply Kd.R_drew)); exact HO636.out⟩, ⟨by (with_reducible repeat (first | refine M ?_ _ | refine T ?_ | refine O ?_ _)); exact BK0.out⟩, ⟨by (with_reducible repeat (first | refine M ?_ _ | refine T ?_ | refine O ?_ _)); exact BK1.out⟩, ⟨by repeat (first | (with_reducible first | exact HB.out | apply V | apply L | apply U | refine J ?_ GE0.out | refine J ?_ GE1.out) | exact HB.out)⟩⟩
        ·rw [if_neg c13] at H
         exact absurd H (by simp)
       ·rw [if_neg c12] at H
        have c12b0 : decide ((rd l1_0 x6_1) < 0) = false := decide_eq_false c12
        clear c12
        have H' := G H
        clear H
        have hnb18 := NB0_1.out
        have hnc18 := NB1_0.out
        have hcz19_0 : wr.cell? ⟨gp0, 0, none⟩ = some (.slice A0_0 l0_0.length c0_0) := (X BK0.out 0).trans rfl
        have hcz19_1 : wr.cell? ⟨gp0, 1, none⟩ = some (.slice A0_1 l0_1.length c0_1) := (X BK0.out 1).trans rfl
        have hfz19_0 := Y BK0.out 0
        have hfz19_1 := Y BK0.out 1
        have p632 : 0 ≤ (x6_1 : Int) := of_decide_eq_true (by first | (with_reducible assumption) | assumption)
        have q632 : x6_1 < (l0_1.length : Int) := of_decide_eq_true (by first | (with_reducible assumption) | assumption)
        obtain ⟨ad632, e632, hx632_0, hx632_1, hx632_2⟩ := at_T84 HR0_1.out x6_1 p632 q632
        (try rw [← Nbq7.out] at hx632_2)
        (try rw [← Nbq7.out] at hw632_2)
        cases e632
        (first | (replace hx632_0 := (HB.out.cell (World.block_lt_of_cell? w _ hx632_0)).trans hx632_0) | skip)
        (first | (replace hx632_1 := (HB.out.cell (World.block_lt_of_cell? w _ hx632_1)).trans hx632_1) | skip)
        (first | (replace hx632_2 := (HB.out.cell (World.block_lt_of_cell? w _ hx632_2)).trans hx632_2) | skip)
        replace p632 := eq_true p632
        replace q632 := eq_true q632
        have hcz20_0 : wr.cell? ⟨gp1, 0, none⟩ = some (.slice A1_0 l1_0.length c1_0) := (X BK1.out 0).trans rfl
        have hcz20_1 : wr.cell? ⟨gp1, 1, none⟩ = some (.int .i64 a1_1) := (X BK1.out 1).trans rfl
        have hfz20_0 := Y BK1.out 0
        have hfz20_1 := Y BK1.out 1
        have p633 : 0 ≤ (x6_1 : Int) := of_decide_eq_true (by first | (with_reducible assumption) | assumption)
        have q633 : x6_1 < (l1_0.length : Int) := of_decide_eq_true (by first | (with_reducible assumption) | assumption)
        obtain ⟨ad633, e633, hx633_0⟩ := Kd.at_int HR1_0.out x6_1 p633 q633
        cases e633
        (first | (replace hx633_0 := (HB.out.cell (World.block_lt_of_cell? w _ hx633_0)).trans hx633_0) | skip)
        replace p633 := eq_true p633
        replace q633 := eq_true q633
        go_wp2
        go_roundg k1
        case measure => have := HK1.out; omega
        case rel => exact ⟨(x5_1), (wrap64 (x6_1 + 1)), (by first | rfl | (simp; done) | (simp [*]; done)), H', ⟨by have := HK1.out; omega⟩, ⟨by (with_reducible repeat (first | apply Kd.R_alloc | apply Kd.R_drewN | apply Kd.R_drew)); exact HO_5.out⟩, ⟨by (with_reducible repeat (first | refine M ?_ _ | refine T ?_ | refine O ?_ _)); exact BK0.out⟩, ⟨by (with_reducible repeat (first | refine M ?_ _ | refine T ?_ | refine O ?_ _)); exact BK1.out⟩, ⟨by repeat (first | (with_reducible first | exact HB.out | apply V | apply L | apply U | refine J ?_ GE0.out | refine J ?_ GE1.out) | exact HB.out)⟩⟩
      ·rw [if_neg c11] at H
       exact absurd H (by simp)
    ·rw [if_neg c6] at H
     exact absurd H (by simp)
   ·rw [if_neg c5] at H
    have c5b0 : decide (x6_1 < (l0_1.length : Int)) = false := decide_eq_false c5
    clear c5
    obtain rfl := Option.some.inj H
    have hnb21 := NB0_1.out
    have hnc21 := NB1_0.out
    have hcz22_0 : wr.cell? ⟨gp0, 0, none⟩ = some (.slice A0_0 l0_0.length c0_0) := (X BK0.out 0).trans rfl
    have hcz22_1 : wr.cell? ⟨gp0, 1, none⟩ = some (.slice A0_1 l0_1.length c0_1) := (X BK0.out 1).trans rfl
    have hfz22_0 := Y BK0.out 0
    have hfz22_1 := Y BK0.out 1
    go_wp2
    go_ret
    exact ⟨_, by first | rfl | (simp [errW_none, errW_some] <;> rfl) | (simp [*, errW_none, errW_some] <;> rfl), by (with_reducible repeat (first | apply Kd.R_alloc | apply Kd.R_drewN | apply Kd.R_drew)); exact HO_5.out, by repeat (first | (with_reducible first | exact HB.out | apply V | apply L | apply U | refine J ?_ GE0.out | refine J ?_ GE1.out) | exact HB.out)⟩

/-! ### spec_PushedWires: function 49 -/
def spec_PushedWires.f (k : Nat) (l0_0 : List (S82)) (l0_1 : List (S84)) (l1_0 : List Int) (a1_1 : Int) : Option (List Int × Int) := (spec_l09Ok.f k l0_0 l0_1).bind fun t639 => (if t639 = true then ((spec_l09Dense.f k l0_0 l0_1 l1_0 a1_1).bind fun t640 => (if t640 = true then ((spec_l09Pushed.f k l0_0 l0_1 l1_0 a1_1).bind fun t641 => (some (t641, 0))) else (some (([] : List Int), 1)))) else (some (([] : List Int), 1)))
theorem spec_PushedWires.mono : ∀ a0 a1 a2 a3 k, LeO (spec_PushedWires.f k a0 a1 a2 a3) (spec_PushedWires.f (k + 1) a0 a1 a2 a3) := by
 intro a0 a1 a2 a3 k
 unfold spec_PushedWires.f
 repeat' first
   | (with_reducible exact spec_l09Dense.mono _ _ _ _ _)
   | (with_reducible exact spec_l09Ok.mono _ _ _)
   | (with_reducible exact spec_l09Pushed.mono _ _ _ _ _)
   | (with_reducible exact LeO.refl _)
   | (with_reducible exact LeO.none _)
   | (with_reducible refine LeO.ite ?_ ?_)
   | (with_reducible refine LeO.bind ?_ (fun _ => ?_))
   | exact spec_l09Dense.mono _ _ _ _ _
   | exact spec_l09Ok.mono _ _ _
   | exact spec_l09Pushed.mono _ _ _ _ _
   | exact LeO.none _
   | refine LeO.ite ?_ ?_
   | refine LeO.bind ?_ (fun _ => ?_)
@[reducible] def spec_PushedWires.y' : Bool := true
@[reducible] def spec_PushedWires.n' : Bool := false
theorem spec_PushedWires.z1' {α : Type} (l : List α) (i : Nat) (a : α) : l.toArray.setIfInBounds i a = (l.set i a).toArray := List.setIfInBounds_toArray ..
theorem spec_PushedWires.z2' {α : Type} (a b : α) (l : List α) : (a :: l).set 0 b = b :: l := rfl
theorem spec_PushedWires.z3' {α : Type} (a b : α) (l : List α) (n : Nat) : (a :: l).set (n + 1) b = a :: l.set n b := rfl
theorem spec_PushedWires.G : type_of% @Aside0.mk := @Aside0.mk
theorem spec_PushedWires.J : type_of% @below_set := @below_set
theorem spec_PushedWires.L : type_of% @pw_below_drewN := @pw_below_drewN
theorem spec_PushedWires.M : type_of% @blk_drewN := @blk_drewN
theorem spec_PushedWires.O : type_of% @blk_alloc := @blk_alloc
theorem spec_PushedWires.T : type_of% @blk_drew := @blk_drew
theorem spec_PushedWires.U : type_of% @below_drew1 := @below_drew1
theorem spec_PushedWires.V : type_of% @below_alloc := @below_alloc
theorem spec_PushedWires.X : type_of% @blk_below := @blk_below
theorem spec_PushedWires.Y : type_of% @Kd.C_alloc := @Kd.C_alloc
theorem spec_PushedWires.Z : type_of% @Kd.C_drewN := @Kd.C_drewN
theorem spec_PushedWires.B : type_of% @Kd.C_drew := @Kd.C_drew
theorem spec_PushedWires.D : type_of% @below_size := @below_size
theorem spec_PushedWires.E : type_of% @below_step := @below_step
theorem spec_PushedWires.F : type_of% @Kd.C_below := @Kd.C_below
set_option maxHeartbeats 8000000 in
set_option maxRecDepth 100000 in
theorem spec_PushedWires.calls (k : Nat) (A0_0 : Option Addr) (c0_0 : Nat) (l0_0 : List (S82)) (A0_1 : Option Addr) (c0_1 : Nat) (l0_1 : List (S84)) (A1_0 : Option Addr) (c1_0 : Nat) (l1_0 : List Int) (a1_1 : Int) (r1 : List Int) (r2 : Int) (w : World) (hr0_0 : Kd.C k82 w A0_0 l0_0.length l0_0) (hc0_0 : l0_0.length ≤ c0_0) (hr0_1 : Kd.C k84 w A0_1 l0_1.length l0_1) (hc0_1 : l0_1.length ≤ c0_1) (hr1_0 : Kd.C (Kd.int .i64) w A1_0 l1_0.length l1_0) (hc1_0 : l1_0.length ≤ c1_0) (h : spec_PushedWires.f k l0_0 l0_1 l1_0 a1_1 = some (r1, r2)) :
  Calls Try.prog 49 #[.agg #[.slice A0_0 l0_0.length c0_0, .slice A0_1 l0_1.length c0_1], .agg #[.slice A1_0 l1_0.length c1_0, .int .i64 a1_1]] w fun e w' => ∃ v0_ : Value, e = .returned (.tuple #[v0_, .int .i64 r2]) ∧ Kd.R (Kd.int .i64) 2 w' w.heap.size (fun _ => True) v0_ r1 ∧ Below w.heap.size w w' := by
 have hu39 := Try.underlying39
 have hu27 := Try.underlying27
 have HR0_0 := G hr0_0
 have HC0_0 := G hc0_0
 clear hr0_0 hc0_0
 have HR0_1 := G hr0_1
 have HC0_1 := G hc0_1
 clear hr0_1 hc0_1
 have HR1_0 := G hr1_0
 have HC1_0 := G hc1_0
 clear hr1_0 hc1_0
 have HB := G (Below.refl w.heap.size w)
 have H : ((spec_l09Ok.f k l0_0 l0_1).bind fun t639 => (if t639 = true then ((spec_l09Dense.f k l0_0 l0_1 l1_0 a1_1).bind fun t640 => (if t640 = true then ((spec_l09Pushed.f k l0_0 l0_1 l1_0 a1_1).bind fun t641 => (some (t641, 0))) else (some (([] : List Int), 1)))) else (some (([] : List Int), 1)))) = some (r1, r2) := h
 clear h
 replace H := Option.bind_eq_some_iff.mp H
 obtain ⟨t639, A30, H⟩ := H
 replace H : (if t639 = true then ((spec_l09Dense.f k l0_0 l0_1 l1_0 a1_1).bind fun t640 => (if t640 = true then ((spec_l09Pushed.f k l0_0 l0_1 l1_0 a1_1).bind fun t641 => (some (t641, 0))) else (some (([] : List Int), 1)))) else (some (([] : List Int), 1))) = some (r1, r2) := H
 have A3 := G A30
 clear A30
 by_cases c4 : t639 = true
 ·subst c4
  have H1 : ((spec_l09Dense.f k l0_0 l0_1 l1_0 a1_1).bind fun t640 => (if t640 = true then ((spec_l09Pushed.f k l0_0 l0_1 l1_0 a1_1).bind fun t641 => (some (t641, 0))) else (some (([] : List Int), 1)))) = some (r1, r2) := by rw [if_pos rfl] at H; exact H
  clear H
  have H := H1
  clear H1
  replace H := Option.bind_eq_some_iff.mp H
  obtain ⟨t640, A50, H⟩ := H
  replace H : (if t640 = true then ((spec_l09Pushed.f k l0_0 l0_1 l1_0 a1_1).bind fun t641 => (some (t641, 0))) else (some (([] : List Int), 1))) = some (r1, r2) := H
  have A5 := G A50
  clear A50
  by_cases c6 : t640 = true
  ·subst c6
   have H1 : ((spec_l09Pushed.f k l0_0 l0_1 l1_0 a1_1).bind fun t641 => (some (t641, 0))) = some (r1, r2) := by rw [if_pos rfl] at H; exact H
   clear H
   have H := H1
   clear H1
   replace H := Option.bind_eq_some_iff.mp H
   obtain ⟨t641, A70, H⟩ := H
   replace H : (some (t641, 0)) = some (r1, r2) := H
   have A7 := G A70
   clear A70
   simp only [Option.some.injEq, Prod.mk.injEq] at H
   obtain ⟨rfl, rfl⟩ := H
   go_enter Try.func49, Try.ntmps49
   go_wp2_with (first | ((with_reducible refine gate_dst (N := 2) rfl ?_); refine box_event ?hg (N := 2) ?hd (cs := #[.slice A0_0 l0_0.length c0_0, .slice A0_1 l0_1.length c0_1]) (t := 39) ?hr ?_; (case hd => rfl); (case hg => rfl); (case hr => first | (go_simp; done) | (go_simp; rfl)); intro gb637 hg w8 hbox hb; have n0_ := G (E (by repeat (first | (with_reducible first | exact HB.out | apply V | apply L | apply U) | exact HB.out)) hb); have n1_ := G (hbox); have n2_ := G ((by rw [hg]; exact (D (by repeat (first | (with_reducible first | exact HB.out | apply V | apply L | apply U) | exact HB.out))) : w.heap.size ≤ gb637)); have n3_ := G ((by rw [hg]; exact (D (by repeat (first | (with_reducible first | exact HB.out | apply V | apply L | apply U) | exact HB.out))) : w.heap.size ≤ gb637)); clear HB; have HB := n0_; have BK637 := n1_; have GW637 := n2_; have GE637 := n3_; clear n0_ n1_ n2_ n3_; clear hb hbox hg) | ((with_reducible refine gate_dst (N := 3) rfl ?_); refine box_event ?hg (N := 3) ?hd (cs := #[.slice A1_0 l1_0.length c1_0, .int .i64 a1_1]) (t := 27) ?hr ?_; (case hd => rfl); (case hg => rfl); (case hr => first | (go_simp; done) | (go_simp; rfl)); intro gb638 hg w9 hbox hb; have n0_ := G (X (g := gb637) (o := .cells #[.slice A0_0 l0_0.length c0_0, .slice A0_1 l0_1.length c0_1] 39 (0, 0)) (by (with_reducible repeat (first | refine M ?_ _ | refine T ?_ | refine O ?_ _)); exact BK637.out) hb); have n1_ := G (E (by repeat (first | (with_reducible first | exact HB.out | apply V | apply L | apply U | refine J ?_ GE637.out) | exact HB.out)) hb); have n2_ := G (hbox); have n3_ := G ((by rw [hg]; exact (D (by repeat (first | (with_reducible first | exact HB.out | apply V | apply L | apply U | refine J ?_ GE637.out) | exact HB.out))) : w.heap.size ≤ gb638)); have n4_ := G ((by rw [hg]; exact (D (by repeat (first | (with_reducible first | exact HB.out | apply V | apply L | apply U | refine J ?_ GE637.out) | exact HB.out))) : w.heap.size ≤ gb638)); have n5_ := G ((by rw [hg]; exact Nat.ne_of_lt (blk_lt (g := gb637) (o := .cells #[.slice A0_0 l0_0.length c0_0, .slice A0_1 l0_1.length c0_1] 39 (0, 0)) (by (with_reducible repeat (first | refine M ?_ _ | refine T ?_ | refine O ?_ _)); exact BK637.out)) : gb637 ≠ gb638)); have n6_ := G ((by rw [hg]; exact Nat.ne_of_gt (blk_lt (g := gb637) (o := .cells #[.slice A0_0 l0_0.length c0_0, .slice A0_1 l0_1.length c0_1] 39 (0, 0)) (by (with_reducible repeat (first | refine M ?_ _ | refine T ?_ | refine O ?_ _)); exact BK637.out)) : gb638 ≠ gb637)); clear BK637; clear HB; have BK637 := n0_; have HB := n1_; have BK638 := n2_; have GW638 := n3_; have GE638 := n4_; have NB637_638 := n5_; have NB638_637 := n6_; clear n0_ n1_ n2_ n3_ n4_ n5_ n6_; clear hb hbox hg) | ((with_reducible refine gate_callee (f := 66) rfl ?_); refine goesL_ (some 6) rfl rfl Try.func66 (by kernel_rfl) rfl #[.pointer (some ⟨gb637, 0, none⟩)] rfl (by (try simp only [List.map_toArray, List.map_cons, List.map_nil]); first | done | rfl | (simp only [List.length_drop, List.length_take]; rfl)) ?_; (with_reducible refine (spec_l09Ok.calls k gb637 A0_0 c0_0 l0_0 A0_1 c0_1 l0_1 true _ ?side5 ?side1 ?side2 ?side3 ?side4 A3.out).mono ?_); (case side1 => repeat (first | exact (F HR0_0.out HB.out) | (with_reducible refine Y ?_ _) | (with_reducible refine Z ?_ _) | (with_reducible refine B ?_))); (case side2 => exact HC0_0.out); (case side3 => repeat (first | exact (F HR0_1.out HB.out) | (with_reducible refine Y ?_ _) | (with_reducible refine Z ?_ _) | (with_reducible refine B ?_))); (case side4 => exact HC0_1.out); (case side5 => (with_reducible repeat (first | refine M ?_ _ | refine T ?_ | refine O ?_ _)); exact BK637.out); rintro e w10 ⟨rfl, hb⟩; refine ⟨_, rfl, ?_⟩; have n0_ := G (X (g := gb637) (o := .cells #[.slice A0_0 l0_0.length c0_0, .slice A0_1 l0_1.length c0_1] 39 (0, 0)) (by (with_reducible repeat (first | refine M ?_ _ | refine T ?_ | refine O ?_ _)); exact BK637.out) hb); have n1_ := G (X (g := gb638) (o := .cells #[.slice A1_0 l1_0.length c1_0, .int .i64 a1_1] 27 (0, 0)) (by (with_reducible repeat (first | refine M ?_ _ | refine T ?_ | refine O ?_ _)); exact BK638.out) hb); have n2_ := G (E (by repeat (first | (with_reducible first | exact HB.out | apply V | apply L | apply U | refine J ?_ GE637.out | refine J ?_ GE638.out) | exact HB.out)) hb); clear BK637; clear BK638; clear HB; have BK637 := n0_; have BK638 := n1_; have HB := n2_; clear n0_ n1_ n2_; (try clear hb); (try clear hb2); (try clear hk); (try clear hi)) | (go_at_call 77; (with_reducible refine (spec_l09Dense.calls k gb637 A0_0 c0_0 l0_0 A0_1 c0_1 l0_1 gb638 A1_0 c1_0 l1_0 a1_1 true _ ?side8 ?side7 ?side1 ?side2 ?side3 ?side4 ?side5 ?side6 A5.out).mono ?_); (case side1 => repeat (first | exact (F HR0_0.out HB.out) | (with_reducible refine Y ?_ _) | (with_reducible refine Z ?_ _) | (with_reducible refine B ?_))); (case side2 => exact HC0_0.out); (case side3 => repeat (first | exact (F HR0_1.out HB.out) | (with_reducible refine Y ?_ _) | (with_reducible refine Z ?_ _) | (with_reducible refine B ?_))); (case side4 => exact HC0_1.out); (case side5 => repeat (first | exact (F HR1_0.out HB.out) | (with_reducible refine Y ?_ _) | (with_reducible refine Z ?_ _) | (with_reducible refine B ?_))); (case side6 => exact HC1_0.out); (case side7 => (with_reducible repeat (first | refine M ?_ _ | refine T ?_ | refine O ?_ _)); exact BK638.out); (case side8 => (with_reducible repeat (first | refine M ?_ _ | refine T ?_ | refine O ?_ _)); exact BK637.out); rintro e w11 ⟨rfl, hb⟩; have n0_ := G (X (g := gb637) (o := .cells #[.slice A0_0 l0_0.length c0_0, .slice A0_1 l0_1.length c0_1] 39 (0, 0)) (by (with_reducible repeat (first | refine M ?_ _ | refine T ?_ | refine O ?_ _)); exact BK637.out) hb); have n1_ := G (X (g := gb638) (o := .cells #[.slice A1_0 l1_0.length c1_0, .int .i64 a1_1] 27 (0, 0)) (by (with_reducible repeat (first | refine M ?_ _ | refine T ?_ | refine O ?_ _)); exact BK638.out) hb); have n2_ := G (E (by repeat (first | (with_reducible first | exact HB.out | apply V | apply L | apply U | refine J ?_ GE637.out | refine J ?_ GE638.out) | exact HB.out)) hb); clear BK637; clear BK638; clear HB; have BK637 := n0_; have BK638 := n1_; have HB := n2_; clear n0_ n1_ n2_; (try clear hb); (try clear hb2); (try clear hk); (try clear hi)) | ((with_reducible refine gate_callee (f := 83) rfl ?_); refine goesL_ (some 12) rfl rfl Try.func83 (by kernel_rfl) rfl #[.pointer (some ⟨gb637, 0, none⟩), .pointer (some ⟨gb638, 0, none⟩)] rfl (by (try simp only [List.map_toArray, List.map_cons, List.map_nil]); first | done | rfl | (simp only [List.length_drop, List.length_take]; rfl)) ?_; (with_reducible refine (spec_l09Pushed.calls k gb637 A0_0 c0_0 l0_0 A0_1 c0_1 l0_1 gb638 A1_0 c1_0 l1_0 a1_1 t641 _ ?side8 ?side7 ?side1 ?side2 ?side3 ?side4 ?side5 ?side6 A7.out).mono ?_); (case side1 => repeat (first | exact (F HR0_0.out HB.out) | (with_reducible refine Y ?_ _) | (with_reducible refine Z ?_ _) | (with_reducible refine B ?_))); (case side2 => exact HC0_0.out); (case side3 => repeat (first | exact (F HR0_1.out HB.out) | (with_reducible refine Y ?_ _) | (with_reducible refine Z ?_ _) | (with_reducible refine B ?_))); (case side4 => exact HC0_1.out); (case side5 => repeat (first | exact (F HR1_0.out HB.out) | (with_reducible refine Y ?_ _) | (with_reducible refine Z ?_ _) | (with_reducible refine B ?_))); (case side6 => exact HC1_0.out); (case side7 => (with_reducible repeat (first | refine M ?_ _ | refine T ?_ | refine O ?_ _)); exact BK638.out); (case side8 => (with_reducible repeat (first | refine M ?_ _ | refine T ?_ | refine O ?_ _)); exact BK637.out); rintro e w12 ⟨v642, rfl, ho0, hb⟩; refine ⟨_, rfl, ?_⟩; have n0_ := G (Kd.R_lower ho0 (D (by repeat (first | (with_reducible first | exact HB.out | apply V | apply L | apply U | refine J ?_ GE637.out | refine J ?_ GE638.out) | exact HB.out)))); have n1_ := G (X (g := gb637) (o := .cells #[.slice A0_0 l0_0.length c0_0, .slice A0_1 l0_1.length c0_1] 39 (0, 0)) (by (with_reducible repeat (first | refine M ?_ _ | refine T ?_ | refine O ?_ _)); exact BK637.out) hb); have n2_ := G (X (g := gb638) (o := .cells #[.slice A1_0 l1_0.length c1_0, .int .i64 a1_1] 27 (0, 0)) (by (with_reducible repeat (first | refine M ?_ _ | refine T ?_ | refine O ?_ _)); exact BK638.out) hb); have n3_ := G (E (by repeat (first | (with_reducible first | exact HB.out | apply V | apply L | apply U | refine J ?_ GE637.out | refine J ?_ GE638.out) | exact HB.out)) hb); clear BK637; clear BK638; clear HB; have HO643 := n0_; have BK637 := n1_; have BK638 := n2_; have HB := n3_; clear n0_ n1_ n2_ n3_; (try clear hb); (try clear hb2); (try clear hk); (try clear hi); (try clear ho0)))
   go_ret2
   exact ⟨_, by first | rfl | (simp [errW_none, errW_some] <;> rfl) | (simp [*, errW_none, errW_some] <;> rfl), by (with_reducible repeat (first | apply Kd.R_alloc | apply Kd.R_drewN | apply Kd.R_drew)); exact HO643.out, by repeat (first | (with_reducible first | exact HB.out | apply V | apply L | apply U | refine J ?_ GE637.out | refine J ?_ GE638.out) | exact HB.out)⟩
  ·replace c6 := Bool.eq_false_iff.mpr c6
   subst c6
   have H1 : (some (([] : List Int), 1)) = some (r1, r2) := by rw [if_neg (show ¬ (false = true) by decide)] at H; exact H
   clear H
   have H := H1
   clear H1
   simp only [Option.some.injEq, Prod.mk.injEq] at H
   obtain ⟨rfl, rfl⟩ := H
   go_enter Try.func49, Try.ntmps49
   go_wp2_with (first | ((with_reducible refine gate_dst (N := 2) rfl ?_); refine box_event ?hg (N := 2) ?hd (cs := #[.slice A0_0 l0_0.length c0_0, .slice A0_1 l0_1.length c0_1]) (t := 39) ?hr ?_; (case hd => rfl); (case hg => rfl); (case hr => first | (go_simp; done) | (go_simp; rfl)); intro gb637 hg w13 hbox hb; have n0_ := G (E (by repeat (first | (with_reducible first | exact HB.out | apply V | apply L | apply U) | exact HB.out)) hb); have n1_ := G (hbox); have n2_ := G ((by rw [hg]; exact (D (by repeat (first | (with_reducible first | exact HB.out | apply V | apply L | apply U) | exact HB.out))) : w.heap.size ≤ gb637)); have n3_ := G ((by rw [hg]; exact (D (by repeat (first | (with_reducible first | exact HB.out | apply V | apply L | apply U) | exact HB.out))) : w.heap.size ≤ gb637)); clear HB; have HB := n0_; have BK637 := n1_; have GW637 := n2_; have GE637 := n3_; clear n0_ n1_ n2_ n3_; clear hb hbox hg) | ((with_reducible refine gate_dst (N := 3) rfl ?_); refine box_event ?hg (N := 3) ?hd (cs := #[.slice A1_0 l1_0.length c1_0, .int .i64 a1_1]) (t := 27) ?hr ?_; (case hd => rfl); (case hg => rfl); (case hr => first | (go_simp; done) | (go_simp; rfl)); intro gb638 hg w14 hbox hb; have n0_ := G (X (g := gb637) (o := .cells #[.slice A0_0 l0_0.length c0_0, .slice A0_1 l0_1.length c0_1] 39 (0, 0)) (by (with_reducible repeat (first | refine M ?_ _ | refine T ?_ | refine O ?_ _)); exact BK637.out) hb); have n1_ := G (E (by repeat (first | (with_reducible first | exact HB.out | apply V | apply L | apply U | refine J ?_ GE637.out) | exact HB.out)) hb); have n2_ := G (hbox); have n3_ := G ((by rw [hg]; exact (D (by repeat (first | (with_reducible first | exact HB.out | apply V | apply L | apply U | refine J ?_ GE637.out) | exact HB.out))) : w.heap.size ≤ gb638)); have n4_ := G ((by rw [hg]; exact (D (by repeat (first | (with_reducible first | exact HB.out | apply V | apply L | apply U | refine J ?_ GE637.out) | exact HB.out))) : w.heap.size ≤ gb638)); have n5_ := G ((by rw [hg]; exact Nat.ne_of_lt (blk_lt (g := gb637) (o := .cells #[.slice A0_0 l0_0.length c0_0, .slice A0_1 l0_1.length c0_1] 39 (0, 0)) (by (with_reducible repeat (first | refine M ?_ _ | refine T ?_ | refine O ?_ _)); exact BK637.out)) : gb637 ≠ gb638)); have n6_ := G ((by rw [hg]; exact Nat.ne_of_gt (blk_lt (g := gb637) (o := .cells #[.slice A0_0 l0_0.length c0_0, .slice A0_1 l0_1.length c0_1] 39 (0, 0)) (by (with_reducible repeat (first | refine M ?_ _ | refine T ?_ | refine O ?_ _)); exact BK637.out)) : gb638 ≠ gb637)); clear BK637; clear HB; have BK637 := n0_; have HB := n1_; have BK638 := n2_; have GW638 := n3_; have GE638 := n4_; have NB637_638 := n5_; have NB638_637 := n6_; clear n0_ n1_ n2_ n3_ n4_ n5_ n6_; clear hb hbox hg) | ((with_reducible refine gate_callee (f := 66) rfl ?_); refine goesL_ (some 6) rfl rfl Try.func66 (by kernel_rfl) rfl #[.pointer (some ⟨gb637, 0, none⟩)] rfl (by (try simp only [List.map_toArray, List.map_cons, List.map_nil]); first | done | rfl | (simp only [List.length_drop, List.length_take]; rfl)) ?_; (with_reducible refine (spec_l09Ok.calls k gb637 A0_0 c0_0 l0_0 A0_1 c0_1 l0_1 true _ ?side5 ?side1 ?side2 ?side3 ?side4 A3.out).mono ?_); (case side1 => repeat (first | exact (F HR0_0.out HB.out) | (with_reducible refine Y ?_ _) | (with_reducible refine Z ?_ _) | (with_reducible refine B ?_))); (case side2 => exact HC0_0.out); (case side3 => repeat (first | exact (F HR0_1.out HB.out) | (with_reducible refine Y ?_ _) | (with_reducible refine Z ?_ _) | (with_reducible refine B ?_))); (case side4 => exact HC0_1.out); (case side5 => (with_reducible repeat (first | refine M ?_ _ | refine T ?_ | refine O ?_ _)); exact BK637.out); rintro e w15 ⟨rfl, hb⟩; refine ⟨_, rfl, ?_⟩; have n0_ := G (X (g := gb637) (o := .cells #[.slice A0_0 l0_0.length c0_0, .slice A0_1 l0_1.length c0_1] 39 (0, 0)) (by (with_reducible repeat (first | refine M ?_ _ | refine T ?_ | refine O ?_ _)); exact BK637.out) hb); have n1_ := G (X (g := gb638) (o := .cells #[.slice A1_0 l1_0.length c1_0, .int .i64 a1_1] 27 (0, 0)) (by (with_reducible repeat (first | refine M ?_ _ | refine T ?_ | refine O ?_ _)); exact BK638.out) hb); have n2_ := G (E (by repeat (first | (with_reducible first | exact HB.out | apply V | apply L | apply U | refine J ?_ GE637.out | refine J ?_ GE638.out) | exact HB.out)) hb); clear BK637; clear BK638; clear HB; have BK637 := n0_; have BK638 := n1_; have HB := n2_; clear n0_ n1_ n2_; (try clear hb); (try clear hb2); (try clear hk); (try clear hi)) | (go_at_call 77; (with_reducible refine (spec_l09Dense.calls k gb637 A0_0 c0_0 l0_0 A0_1 c0_1 l0_1 gb638 A1_0 c1_0 l1_0 a1_1 false _ ?side8 ?side7 ?side1 ?side2 ?side3 ?side4 ?side5 ?side6 A5.out).mono ?_); (case side1 => repeat (first | exact (F HR0_0.out HB.out) | (with_reducible refine Y ?_ _) | (with_reducible refine Z ?_ _) | (with_reducible refine B ?_))); (case side2 => exact HC0_0.out); (case side3 => repeat (first | exact (F HR0_1.out HB.out) | (with_reducible refine Y ?_ _) | (with_reducible refine Z ?_ _) | (with_reducible refine B ?_))); (case side4 => exact HC0_1.out); (case side5 => repeat (first | exact (F HR1_0.out HB.out) | (with_reducible refine Y ?_ _) | (with_reducible refine Z ?_ _) | (with_reducible refine B ?_))); (case side6 => exact HC1_0.out); (case side7 => (with_reducible repeat (first | refine M ?_ _ | refine T ?_ | refine O ?_ _)); exact BK638.out); (case side8 => (with_reducible repeat (first | refine M ?_ _ | refine T ?_ | refine O ?_ _)); exact BK637.out); rintro e w16 ⟨rfl, hb⟩; have n0_ := G (X (g := gb637) (o := .cells #[.slice A0_0 l0_0.length c0_0, .slice A0_1 l0_1.length c0_1] 39 (0, 0)) (by (with_reducible repeat (first | refine M ?_ _ | refine T ?_ | refine O ?_ _)); exact BK637.out) hb); have n1_ := G (X (g := gb638) (o := .cells #[.slice A1_0 l1_0.length c1_0, .int .i64 a1_1] 27 (0, 0)) (by (with_reducible repeat (first | refine M ?_ _ | refine T ?_ | refine O ?_ _)); exact BK638.out) hb); have n2_ := G (E (by repeat (first | (with_reducible first | exact HB.out | apply V | apply L | apply U | refine J ?_ GE637.out | refine J ?_ GE638.out) | exact HB.out)) hb); clear BK637; clear BK638; clear HB; have BK637 := n0_; have BK638 := n1_; have HB := n2_; clear n0_ n1_ n2_; (try clear hb); (try clear hb2); (try clear hk); (try clear hi)))
   go_ret2
   exact ⟨_, by first | rfl | (simp [errW_none, errW_some] <;> rfl) | (simp [*, errW_none, errW_some] <;> rfl), by first | exact Kd.R_nil _ _ _ _ _ | exact Kd.N_nil _ _ _ _ _ | exact Kd.V_nil _ _ _ _ _ | exact Kd.Q_nil _ _ _ _ _ | exact Kd.S_nil _ _ _ _ _, by repeat (first | (with_reducible first | exact HB.out | apply V | apply L | apply U | refine J ?_ GE637.out | refine J ?_ GE638.out) | exact HB.out)⟩
 ·replace c4 := Bool.eq_false_iff.mpr c4
  subst c4
  have H1 : (some (([] : List Int), 1)) = some (r1, r2) := by rw [if_neg (show ¬ (false = true) by decide)] at H; exact H
  clear H
  have H := H1
  clear H1
  simp only [Option.some.injEq, Prod.mk.injEq] at H
  obtain ⟨rfl, rfl⟩ := H
  go_enter Try.func49, Try.ntmps49
  go_wp2_with (first | ((with_reducible refine gate_dst (N := 2) rfl ?_); refine box_event ?hg (N := 2) ?hd (cs := #[.slice A0_0 l0_0.length c0_0, .slice A0_1 l0_1.length c0_1]) (t := 39) ?hr ?_; (case hd => rfl); (case hg => rfl); (case hr => first | (go_simp; done) | (go_simp; rfl)); intro gb637 hg w17 hbox hb; have n0_ := G (E (by repeat (first | (with_reducible first | exact HB.out | apply V | apply L | apply U) | exact HB.out)) hb); have n1_ := G (hbox); have n2_ := G ((by rw [hg]; exact (D (by repeat (first | (with_reducible first | exact HB.out | apply V | apply L | apply U) | exact HB.out))) : w.heap.size ≤ gb637)); have n3_ := G ((by rw [hg]; exact (D (by repeat (first | (with_reducible first | exact HB.out | apply V | apply L | apply U) | exact HB.out))) : w.heap.size ≤ gb637)); clear HB; have HB := n0_; have BK637 := n1_; have GW637 := n2_; have GE637 := n3_; clear n0_ n1_ n2_ n3_; clear hb hbox hg) | ((with_reducible refine gate_dst (N := 3) rfl ?_); refine box_event ?hg (N := 3) ?hd (cs := #[.slice A1_0 l1_0.length c1_0, .int .i64 a1_1]) (t := 27) ?hr ?_; (case hd => rfl); (case hg => rfl); (case hr => first | (go_simp; done) | (go_simp; rfl)); intro gb638 hg w18 hbox hb; have n0_ := G (X (g := gb637) (o := .cells #[.slice A0_0 l0_0.length c0_0, .slice A0_1 l0_1.length c0_1] 39 (0, 0)) (by (with_reducible repeat (first | refine M ?_ _ | refine T ?_ | refine O ?_ _)); exact BK637.out) hb); have n1_ := G (E (by repeat (first | (with_reducible first | exact HB.out | apply V | apply L | apply U | refine J ?_ GE637.out) | exact HB.out)) hb); have n2_ := G (hbox); have n3_ := G ((by rw [hg]; exact (D (by repeat (first | (with_reducible first | exact HB.out | apply V | apply L | apply U | refine J ?_ GE637.out) | exact HB.out))) : w.heap.size ≤ gb638)); have n4_ := G ((by rw [hg]; exact (D (by repeat (first | (with_reducible first | exact HB.out | apply V | apply L | apply U | refine J ?_ GE637.out) | exact HB.out))) : w.heap.size ≤ gb638)); have n5_ := G ((by rw [hg]; exact Nat.ne_of_lt (blk_lt (g := gb637) (o := .cells #[.slice A0_0 l0_0.length c0_0, .slice A0_1 l0_1.length c0_1] 39 (0, 0)) (by (with_reducible repeat (first | refine M ?_ _ | refine T ?_ | refine O ?_ _)); exact BK637.out)) : gb637 ≠ gb638)); have n6_ := G ((by rw [hg]; exact Nat.ne_of_gt (blk_lt (g := gb637) (o := .cells #[.slice A0_0 l0_0.length c0_0, .slice A0_1 l0_1.length c0_1] 39 (0, 0)) (by (with_reducible repeat (first | refine M ?_ _ | refine T ?_ | refine O ?_ _)); exact BK637.out)) : gb638 ≠ gb637)); clear BK637; clear HB; have BK637 := n0_; have HB := n1_; have BK638 := n2_; have GW638 := n3_; have GE638 := n4_; have NB637_638 := n5_; have NB638_637 := n6_; clear n0_ n1_ n2_ n3_ n4_ n5_ n6_; clear hb hbox hg) | ((with_reducible refine gate_callee (f := 66) rfl ?_); refine goesL_ (some 6) rfl rfl Try.func66 (by kernel_rfl) rfl #[.pointer (some ⟨gb637, 0, none⟩)] rfl (by (try simp only [List.map_toArray, List.map_cons, List.map_nil]); first | done | rfl | (simp only [List.length_drop, List.length_take]; rfl)) ?_; (with_reducible refine (spec_l09Ok.calls k gb637 A0_0 c0_0 l0_0 A0_1 c0_1 l0_1 false _ ?side5 ?side1 ?side2 ?side3 ?side4 A3.out).mono ?_); (case side1 => repeat (first | exact (F HR0_0.out HB.out) | (with_reducible refine Y ?_ _) | (with_reducible refine Z ?_ _) | (with_reducible refine B ?_))); (case side2 => exact HC0_0.out); (case side3 => repeat (first | exact (F HR0_1.out HB.out) | (with_reducible refine Y ?_ _) | (with_reducible refine Z ?_ _) | (with_reducible refine B ?_))); (case side4 => exact HC0_1.out); (case side5 => (with_reducible repeat (first | refine M ?_ _ | refine T ?_ | refine O ?_ _)); exact BK637.out); rintro e w19 ⟨rfl, hb⟩; refine ⟨_, rfl, ?_⟩; have n0_ := G (X (g := gb637) (o := .cells #[.slice A0_0 l0_0.length c0_0, .slice A0_1 l0_1.length c0_1] 39 (0, 0)) (by (with_reducible repeat (first | refine M ?_ _ | refine T ?_ | refine O ?_ _)); exact BK637.out) hb); have n1_ := G (X (g := gb638) (o := .cells #[.slice A1_0 l1_0.length c1_0, .int .i64 a1_1] 27 (0, 0)) (by (with_reducible repeat (first | refine M ?_ _ | refine T ?_ | refine O ?_ _)); exact BK638.out) hb); have n2_ := G (E (by repeat (first | (with_reducible first | exact HB.out | apply V | apply L | apply U | refine J ?_ GE637.out | refine J ?_ GE638.out) | exact HB.out)) hb); clear BK637; clear BK638; clear HB; have BK637 := n0_; have BK638 := n1_; have HB := n2_; clear n0_ n1_ n2_; (try clear hb); (try clear hb2); (try clear hk); (try clear hi)))
  go_ret2
  exact ⟨_, by first | rfl | (simp [errW_none, errW_some] <;> rfl) | (simp [*, errW_none, errW_some] <;> rfl), by first | exact Kd.R_nil _ _ _ _ _ | exact Kd.N_nil _ _ _ _ _ | exact Kd.V_nil _ _ _ _ _ | exact Kd.Q_nil _ _ _ _ _ | exact Kd.S_nil _ _ _ _ _, by repeat (first | (with_reducible first | exact HB.out | apply V | apply L | apply U | refine J ?_ GE637.out | refine J ?_ GE638.out) | exact HB.out)⟩

/-! ### impl_pushedWires: function 84 -/
def impl_pushedWires.l0 : Nat → List Int → List (S84) → Int → Int → List Int → Int → Option (List Int)
 | 0, _, _, _, _, _, _ => none
 | k + 1, x5, x10, x11, x12, x646000, x646001 => if x12 < x11 then (if 0 ≤ x12 then (if x12 < (x10.length : Int) then (if ((rd_T84 x10 x12).f2 = true) then (impl_pushedWires.l0 k x5 x10 x11 (wrap64 (x12 + 1)) x646000 x646001) else (if x12 < (x646000.length : Int) then (if (rd x646000 x12) < 0 then (if x5.length < 17592186044416 then (impl_pushedWires.l0 k (x5 ++ [x12]) x10 x11 (wrap64 (x12 + 1)) x646000 x646001) else (none)) else (impl_pushedWires.l0 k x5 x10 x11 (wrap64 (x12 + 1)) x646000 x646001)) else (none))) else (none)) else (none)) else (some x5)
def impl_pushedWires.f (k : Nat) (l0_0 : List (S82)) (l0_1 : List (S84)) (l1_0 : List Int) (a1_1 : Int) : Option (List Int) := impl_pushedWires.l0 k (([] : List Int)) l0_1 (l0_1.length : Int) 0 l1_0 a1_1
theorem impl_pushedWires.mono_l : ∀ k, (∀ y0 y1 y2 y3 y4 y5, LeO (impl_pushedWires.l0 k y0 y1 y2 y3 y4 y5) (impl_pushedWires.l0 (k + 1) y0 y1 y2 y3 y4 y5))
 | 0 => fun _ _ _ _ _ _ r h => by simp [impl_pushedWires.l0] at h
 | k + 1 => by
  have ih0 := impl_pushedWires.mono_l k
  ·intro y0 y1 y2 y3 y4 y5
   unfold impl_pushedWires.l0
   repeat' first
   | (with_reducible exact ih0 _ _ _ _ _ _)
   | (with_reducible exact LeO.refl _)
   | (with_reducible exact LeO.none _)
   | (with_reducible refine LeO.ite ?_ ?_)
   | (with_reducible refine LeO.bind ?_ (fun _ => ?_))
   | exact ih0 _ _ _ _ _ _
   | exact LeO.none _
   | refine LeO.ite ?_ ?_
   | refine LeO.bind ?_ (fun _ => ?_)
theorem impl_pushedWires.mono : ∀ a0 a1 a2 a3 k, LeO (impl_pushedWires.f k a0 a1 a2 a3) (impl_pushedWires.f (k + 1) a0 a1 a2 a3) := by
 intro a0 a1 a2 a3 k
 have ih0 := impl_pushedWires.mono_l k
 unfold impl_pushedWires.f
 repeat' first
   | (with_reducible exact ih0 _ _ _ _ _ _)
   | (with_reducible exact LeO.refl _)
   | (with_reducible exact LeO.none _)
   | (with_reducible refine LeO.ite ?_ ?_)
   | (with_reducible refine LeO.bind ?_ (fun _ => ?_))
   | exact ih0 _ _ _ _ _ _
   | exact LeO.none _
   | refine LeO.ite ?_ ?_
   | refine LeO.bind ?_ (fun _ => ?_)
@[reducible] def impl_pushedWires.y' : Bool := true
@[reducible] def impl_pushedWires.n' : Bool := false
theorem impl_pushedWires.z1' {α : Type} (l : List α) (i : Nat) (a : α) : l.toArray.setIfInBounds i a = (l.set i a).toArray := List.setIfInBounds_toArray ..
theorem impl_pushedWires.z2' {α : Type} (a b : α) (l : List α) : (a :: l).set 0 b = b :: l := rfl
theorem impl_pushedWires.z3' {α : Type} (a b : α) (l : List α) (n : Nat) : (a :: l).set (n + 1) b = a :: l.set n b := rfl
theorem impl_pushedWires.G : type_of% @Aside0.mk := @Aside0.mk
theorem impl_pushedWires.J : type_of% @below_set := @below_set
theorem impl_pushedWires.L : type_of% @pw_below_drewN := @pw_below_drewN
theorem impl_pushedWires.M : type_of% @blk_drewN := @blk_drewN
theorem impl_pushedWires.O : type_of% @blk_alloc := @blk_alloc
theorem impl_pushedWires.T : type_of% @blk_drew := @blk_drew
theorem impl_pushedWires.U : type_of% @below_drew1 := @below_drew1
theorem impl_pushedWires.V : type_of% @below_alloc := @below_alloc
theorem impl_pushedWires.X : type_of% @blk_cell := @blk_cell
theorem impl_pushedWires.Y : type_of% @below_size := @below_size
theorem impl_pushedWires.Z : type_of% @blk_frozen := @blk_frozen
set_option maxHeartbeats 8000000 in
set_option maxRecDepth 100000 in
theorem impl_pushedWires.calls (k : Nat) (A0_0 : Option Addr) (c0_0 : Nat) (l0_0 : List (S82)) (A0_1 : Option Addr) (c0_1 : Nat) (l0_1 : List (S84)) (A1_0 : Option Addr) (c1_0 : Nat) (l1_0 : List Int) (a1_1 : Int) (r : List Int) (w : World) (hr0_0 : Kd.C k82 w A0_0 l0_0.length l0_0) (hc0_0 : l0_0.length ≤ c0_0) (hr0_1 : Kd.C k84 w A0_1 l0_1.length l0_1) (hc0_1 : l0_1.length ≤ c0_1) (hr1_0 : Kd.C (Kd.int .i64) w A1_0 l1_0.length l1_0) (hc1_0 : l1_0.length ≤ c1_0) (h : impl_pushedWires.f k l0_0 l0_1 l1_0 a1_1 = some r) :
  Calls Try.prog 84 #[.agg #[.slice A0_0 l0_0.length c0_0, .slice A0_1 l0_1.length c0_1], .agg #[.slice A1_0 l1_0.length c1_0, .int .i64 a1_1]] w fun e w' => ∃ v0_ : Value, e = .returned (v0_) ∧ Kd.R (Kd.int .i64) 2 w' w.heap.size (fun _ => True) v0_ r ∧ Below w.heap.size w w' := by
 have hu39 := Try.underlying39
 have hu27 := Try.underlying27
 have hu84 := Try.underlying84
 have HR0_0 := G hr0_0
 have HC0_0 := G hc0_0
 clear hr0_0 hc0_0
 have HR0_1 := G hr0_1
 have HC0_1 := G hc0_1
 clear hr0_1 hc0_1
 have HR1_0 := G hr1_0
 have HC1_0 := G hc1_0
 clear hr1_0 hc1_0
 have HB := G (Below.refl w.heap.size w)
 have H : (impl_pushedWires.l0 k (([] : List Int)) l0_1 (l0_1.length : Int) 0 l1_0 a1_1) = some r := h
 clear h
 obtain ⟨y646, hy646⟩ : ∃ y_ : List Int, y_ = (([] : List Int)) := ⟨_, rfl⟩
 replace H : (impl_pushedWires.l0 k y646 l0_1 (l0_1.length : Int) 0 l1_0 a1_1) = some r := by first | (rw [hy646]; with_reducible exact H) | (have H2_ := (Option.bind_some _ _).symm.trans H; rw [hy646]; with_reducible exact H2_) | (have H2_ := (Option.bind_some _ _).symm.trans H; with_reducible exact H2_) | with_reducible exact H | (rw [hy646]; exact H) | exact H
 have Ny646 := G hy646
 clear hy646
 have H' := G H
 clear H
 go_enter Try.func84, Try.ntmps84
 go_wp2_with (first | ((with_reducible refine gate_dst (N := 2) rfl ?_); refine box_event ?hg (N := 2) ?hd (cs := #[.slice A0_0 l0_0.length c0_0, .slice A0_1 l0_1.length c0_1]) (t := 39) ?hr ?_; (case hd => rfl); (case hg => rfl); (case hr => first | (go_simp; done) | (go_simp; rfl)); intro gb644 hg w3 hbox hb; have n0_ := G (below_step (by repeat (first | (with_reducible first | exact HB.out | apply V | apply L | apply U) | exact HB.out)) hb); have n1_ := G (hbox); have n2_ := G ((by rw [hg]; exact (Y (by repeat (first | (with_reducible first | exact HB.out | apply V | apply L | apply U) | exact HB.out))) : w.heap.size ≤ gb644)); have n3_ := G ((by rw [hg]; exact (Y (by repeat (first | (with_reducible first | exact HB.out | apply V | apply L | apply U) | exact HB.out))) : w.heap.size ≤ gb644)); clear HB; have HB := n0_; have BK644 := n1_; have GW644 := n2_; have GE644 := n3_; clear n0_ n1_ n2_ n3_; clear hb hbox hg) | ((with_reducible refine gate_dst (N := 3) rfl ?_); refine box_event ?hg (N := 3) ?hd (cs := #[.slice A1_0 l1_0.length c1_0, .int .i64 a1_1]) (t := 27) ?hr ?_; (case hd => rfl); (case hg => rfl); (case hr => first | (go_simp; done) | (go_simp; rfl)); intro gb645 hg w4 hbox hb; have n0_ := G (blk_below (g := gb644) (o := .cells #[.slice A0_0 l0_0.length c0_0, .slice A0_1 l0_1.length c0_1] 39 (0, 0)) (by (with_reducible repeat (first | refine M ?_ _ | refine T ?_ | refine O ?_ _)); exact BK644.out) hb); have n1_ := G (below_step (by repeat (first | (with_reducible first | exact HB.out | apply V | apply L | apply U | refine J ?_ GE644.out) | exact HB.out)) hb); have n2_ := G (hbox); have n3_ := G ((by rw [hg]; exact (Y (by repeat (first | (with_reducible first | exact HB.out | apply V | apply L | apply U | refine J ?_ GE644.out) | exact HB.out))) : w.heap.size ≤ gb645)); have n4_ := G ((by rw [hg]; exact (Y (by repeat (first | (with_reducible first | exact HB.out | apply V | apply L | apply U | refine J ?_ GE644.out) | exact HB.out))) : w.heap.size ≤ gb645)); have n5_ := G ((by rw [hg]; exact Nat.ne_of_lt (blk_lt (g := gb644) (o := .cells #[.slice A0_0 l0_0.length c0_0, .slice A0_1 l0_1.length c0_1] 39 (0, 0)) (by (with_reducible repeat (first | refine M ?_ _ | refine T ?_ | refine O ?_ _)); exact BK644.out)) : gb644 ≠ gb645)); have n6_ := G ((by rw [hg]; exact Nat.ne_of_gt (blk_lt (g := gb644) (o := .cells #[.slice A0_0 l0_0.length c0_0, .slice A0_1 l0_1.length c0_1] 39 (0, 0)) (by (with_reducible repeat (first | refine M ?_ _ | refine T ?_ | refine O ?_ _)); exact BK644.out)) : gb645 ≠ gb644)); clear BK644; clear HB; have BK644 := n0_; have HB := n1_; have BK645 := n2_; have GW645 := n3_; have GE645 := n4_; have NB644_645 := n5_; have NB645_644 := n6_; clear n0_ n1_ n2_ n3_ n4_ n5_ n6_; clear hb hbox hg) | ((with_reducible refine gate_dst (N := 8) rfl ?_); refine Kd.R_lit (Kd.int .i64) _ 2 ?hg (N := 8) ?hd (xs := ([] : List Int)) (inner := []) (ok := fun _ => True) (okp := fun _ => True) ?hr ?hp (fun _ hk => hk) trivial (Below.refl _ _) (Nat.le_refl _) (by simp) ?_; (case hd => rfl); (case hg => rfl); (case hr => first | (go_simp; done) | (go_simp; rfl)); (case hp => exact (Reps.none _ _)); intro v647 w5 ho6 hb hg_ hnew_; clear hg_ hnew_; (first | rw [← Ny646.out] at ho6 | (simp only [Int.reduceToNat] at ho6; rw [← Ny646.out] at ho6)); have n0_ := G (Kd.R_lower ho6 (Y (by repeat (first | (with_reducible first | exact HB.out | apply V | apply L | apply U | refine J ?_ GE644.out | refine J ?_ GE645.out) | exact HB.out)))); have n1_ := G (blk_below (g := gb644) (o := .cells #[.slice A0_0 l0_0.length c0_0, .slice A0_1 l0_1.length c0_1] 39 (0, 0)) (by (with_reducible repeat (first | refine M ?_ _ | refine T ?_ | refine O ?_ _)); exact BK644.out) hb); have n2_ := G (blk_below (g := gb645) (o := .cells #[.slice A1_0 l1_0.length c1_0, .int .i64 a1_1] 27 (0, 0)) (by (with_reducible repeat (first | refine M ?_ _ | refine T ?_ | refine O ?_ _)); exact BK645.out) hb); have n3_ := G (below_step (by repeat (first | (with_reducible first | exact HB.out | apply V | apply L | apply U | refine J ?_ GE644.out | refine J ?_ GE645.out) | exact HB.out)) hb); clear BK644; clear BK645; clear HB; have HO648 := n0_; have BK644 := n1_; have BK645 := n2_; have HB := n3_; clear n0_ n1_ n2_ n3_; clear hb ho6; have hnb7 := NB644_645.out; have hnc7 := NB645_644.out; have hcz8_0 : w5.cell? ⟨gb644, 0, none⟩ = some (.slice A0_0 l0_0.length c0_0) := (X BK644.out 0).trans rfl; have hcz8_1 : w5.cell? ⟨gb644, 1, none⟩ = some (.slice A0_1 l0_1.length c0_1) := (X BK644.out 1).trans rfl; have hfz8_0 := Z BK644.out 0; have hfz8_1 := Z BK644.out 1))
 go_loopg [5, 12] k (fun kq v5 v12 w' => ∃ (x5_1 : List Int) (x12_1 : Int), v12 = .int .i64 x12_1 ∧ Aside0 (impl_pushedWires.l0 kq x5_1 l0_1 (l0_1.length : Int) x12_1 l1_0 a1_1 = some r) ∧ Aside0 (kq ≤ k) ∧ Aside0 (Kd.R (Kd.int .i64) 2 w' w.heap.size (fun _ => True) v5 x5_1) ∧ Aside0 (w'.heap[gb644]? = some (.cells #[(.slice A0_0 l0_0.length c0_0), (.slice A0_1 l0_1.length c0_1)] 39 (0, 0))) ∧ Aside0 (w'.heap[gb645]? = some (.cells #[(.slice A1_0 l1_0.length c1_0), .int .i64 a1_1] 27 (0, 0))) ∧ Aside0 (Below w.heap.size w w'))
 case atStart => exact ⟨(y646), (0), (by first | rfl | (simp; done) | (simp [*]; done)), H', ⟨Nat.le_refl _⟩, ⟨by (with_reducible repeat (first | apply Kd.R_alloc | apply Kd.R_drewN | apply Kd.R_drew)); exact HO648.out⟩, ⟨by (with_reducible repeat (first | refine M ?_ _ | refine T ?_ | refine O ?_ _)); exact BK644.out⟩, ⟨by (with_reducible repeat (first | refine M ?_ _ | refine T ?_ | refine O ?_ _)); exact BK645.out⟩, ⟨by repeat (first | (with_reducible first | exact HB.out | apply V | apply L | apply U | refine J ?_ GE644.out | refine J ?_ GE645.out) | exact HB.out)⟩⟩
 case round =>
  clear H'
  try clear c1
  try clear p2
  try clear c7
  try clear c8
  try clear hcz8_0
  try clear hcz8_1
  try clear hfz8_0
  try clear hfz8_1
  obtain ⟨x5_1, x12_1, rfl, HA, HK1, HO_5, BK644, BK645, HB⟩ := hrel
  cases gk with
  | zero => exact absurd HA.out (by simp [impl_pushedWires.l0])
  | succ k1 =>
   have H := HA.out
   clear HA
   simp only [impl_pushedWires.l0] at H
   by_cases c9 : x12_1 < (l0_1.length : Int)
   ·rw [if_pos c9] at H
    have c9b0 : decide (x12_1 < (l0_1.length : Int)) = true := decide_eq_true c9
    clear c9
    by_cases c10 : 0 ≤ x12_1
    ·rw [if_pos c10] at H
     have c10b0 : decide (0 ≤ x12_1) = true := decide_eq_true c10
     clear c10
     by_cases c11 : x12_1 < (l0_1.length : Int)
     ·rw [if_pos c11] at H
      have c11b0 : decide (x12_1 < (l0_1.length : Int)) = true := decide_eq_true c11
      clear c11
      obtain ⟨bq12, hbq12⟩ : ∃ b_ : Bool, b_ = ((rd_T84 l0_1 x12_1).f2) := ⟨_, rfl⟩
      replace H : (if (bq12 = true) then (impl_pushedWires.l0 k1 x5_1 l0_1 (l0_1.length : Int) (wrap64 (x12_1 + 1)) l1_0 a1_1) else (if x12_1 < (l1_0.length : Int) then (if (rd l1_0 x12_1) < 0 then (if x5_1.length < 17592186044416 then (impl_pushedWires.l0 k1 (x5_1 ++ [x12_1]) l0_1 (l0_1.length : Int) (wrap64 (x12_1 + 1)) l1_0 a1_1) else (none)) else (impl_pushedWires.l0 k1 x5_1 l0_1 (l0_1.length : Int) (wrap64 (x12_1 + 1)) l1_0 a1_1)) else (none))) = some r := by rw [← hbq12] at H; exact H
      have Nbq12 := G hbq12
      clear hbq12
      by_cases c13 : (bq12 = true)
      ·subst c13
       have H1 : (impl_pushedWires.l0 k1 x5_1 l0_1 (l0_1.length : Int) (wrap64 (x12_1 + 1)) l1_0 a1_1) = some r := by rw [if_pos rfl] at H; exact H
       clear H
       have H := H1
       clear H1
       have H' := G H
       clear H
       have p649 : 0 ≤ (x12_1 : Int) := of_decide_eq_true (by first | (with_reducible assumption) | assumption)
       have q649 : x12_1 < (l0_1.length : Int) := of_decide_eq_true (by first | (with_reducible assumption) | assumption)
       obtain ⟨ad649, e649, hx649_0, hx649_1, hx649_2⟩ := at_T84 HR0_1.out x12_1 p649 q649
       (try rw [← Nbq12.out] at hx649_2)
       (try rw [← Nbq12.out] at hw649_2)
       cases e649
       (first | (replace hx649_0 := (HB.out.cell (World.block_lt_of_cell? w _ hx649_0)).trans hx649_0) | skip)
       (first | (replace hx649_1 := (HB.out.cell (World.block_lt_of_cell? w _ hx649_1)).trans hx649_1) | skip)
       (first | (replace hx649_2 := (HB.out.cell (World.block_lt_of_cell? w _ hx649_2)).trans hx649_2) | skip)
       replace p649 := eq_true p649
       replace q649 := eq_true q649
       go_wp2_with (first | ((with_reducible refine gate_dst (N := 7) rfl ?_); refine box_event ?hg (N := 7) ?hd (cs := #[.int .i64 0, .int .i64 0, .bool false]) (t := 84) ?hr ?_; (case hd => rfl); (case hg => rfl); (case hr => first | (go_simp; done) | (go_simp; rfl)); intro gb650 hg w14 hbox hb; have n0_ := G (Kd.R_below (by (with_reducible repeat (first | apply Kd.R_alloc | apply Kd.R_drewN | apply Kd.R_drew)); exact HO_5.out) hb); have n1_ := G (blk_below (g := gb644) (o := .cells #[.slice A0_0 l0_0.length c0_0, .slice (some ad649) l0_1.length c0_1] 39 (0, 0)) (by (with_reducible repeat (first | refine M ?_ _ | refine T ?_ | refine O ?_ _)); exact BK644.out) hb); have n2_ := G (blk_below (g := gb645) (o := .cells #[.slice A1_0 l1_0.length c1_0, .int .i64 a1_1] 27 (0, 0)) (by (with_reducible repeat (first | refine M ?_ _ | refine T ?_ | refine O ?_ _)); exact BK645.out) hb); have n3_ := G (below_step (by repeat (first | (with_reducible first | exact HB.out | apply V | apply L | apply U | refine J ?_ GE644.out | refine J ?_ GE645.out) | exact HB.out)) hb); have n4_ := G (hbox); have n5_ := G ((by rw [hg]; exact (Y (by repeat (first | (with_reducible first | exact HB.out | apply V | apply L | apply U | refine J ?_ GE644.out | refine J ?_ GE645.out) | exact HB.out))) : w.heap.size ≤ gb650)); have n6_ := G ((by rw [hg]; exact (Y (by repeat (first | (with_reducible first | exact HB.out | apply V | apply L | apply U | refine J ?_ GE644.out | refine J ?_ GE645.out) | exact HB.out))) : w.heap.size ≤ gb650)); have n7_ := G ((by rw [hg]; exact Nat.ne_of_lt (blk_lt (g := gb644) (o := .cells #[.slice A0_0 l0_0.length c0_0, .slice (some ad649) l0_1.length c0_1] 39 (0, 0)) (by (with_reducible repeat (first | refine M ?_ _ | refine T ?_ | refine O ?_ _)); exact BK644.out)) : gb644 ≠ gb650)); have n8_ := G ((by rw [hg]; exact Nat.ne_of_gt (blk_lt (g := gb644) (o := .cells #[.slice A0_0 l0_0.length c0_0, .slice (some ad649) l0_1.length c0_1] 39 (0, 0)) (by (with_reducible repeat (first | refine M ?_ _ | refine T ?_ | refine O ?_ _)); exact BK644.out)) : gb650 ≠ gb644)); have n9_ := G ((by rw [hg]; exact Nat.ne_of_lt (blk_lt (g := gb645) (o := .cells #[.slice A1_0 l1_0.length c1_0, .int .i64 a1_1] 27 (0, 0)) (by (with_reducible repeat (first | refine M ?_ _ | refine T ?_ | refine O ?_ _)); exact BK645.out)) : gb645 ≠ gb650)); have n10_ := G ((by rw [hg]; exact Nat.ne_of_gt (blk_lt (g := gb645) (o := .cells #[.slice A1_0 l1_0.length c1_0, .int .i64 a1_1] 27 (0, 0)) (by (with_reducible repeat (first | refine M ?_ _ | refine T ?_ | refine O ?_ _)); exact BK645.out)) : gb650 ≠ gb645)); clear HO_5; clear BK644; clear BK645; clear HB; have HO_5 := n0_; have BK644 := n1_; have BK645 := n2_; have HB := n3_; have BK650 := n4_; have GW650 := n5_; have GE650 := n6_; have NB644_650 := n7_; have NB650_644 := n8_; have NB645_650 := n9_; have NB650_645 := n10_; clear n0_ n1_ n2_ n3_ n4_ n5_ n6_ n7_ n8_ n9_ n10_; clear hb hbox hg; have hnb15 := NB650_644.out; have hnc15 := NB644_650.out; have hnb16 := NB650_645.out; have hnc16 := NB645_650.out; have hcz17_0 : w14.cell? ⟨gb650, 0, none⟩ = some (.int .i64 0) := (X BK650.out 0).trans rfl; have hcz17_1 : w14.cell? ⟨gb650, 1, none⟩ = some (.int .i64 0) := (X BK650.out 1).trans rfl; have hcz17_2 : w14.cell? ⟨gb650, 2, none⟩ = some (.bool false) := (X BK650.out 2).trans rfl; have hfz17_0 := Z BK650.out 0; have hfz17_1 := Z BK650.out 1; have hfz17_2 := Z BK650.out 2))
       go_roundg k1
       case measure => have := HK1.out; omega
       case rel => exact ⟨(x5_1), (wrap64 (x12_1 + 1)), (by first | rfl | (simp; done) | (simp [*]; done)), H', ⟨by have := HK1.out; omega⟩, ⟨by (with_reducible repeat (first | apply Kd.R_alloc | apply Kd.R_drewN | apply Kd.R_drew)); exact Kd.R_mono (Kd.R_far (p := ⟨gb650, 2, none⟩) (Kd.R_far (p := ⟨gb650, 1, none⟩) (Kd.R_far (p := ⟨gb650, 0, none⟩) (Kd.R_types HO_5.out BK650.out (by decide)) (fun _ hk => hk.2) (.int .i64 ((rd_T84 l0_1 x12_1).f0))) (fun _ hk => hk.2) (.int .i64 ((rd_T84 l0_1 x12_1).f1))) (fun _ hk => hk.2) (.bool true)) (fun _ hk => trivial)⟩, ⟨by (with_reducible repeat (first | refine M ?_ _ | refine T ?_ | refine O ?_ _)); refine blk_far ?_ NB644_650.out _; (with_reducible repeat (first | refine M ?_ _ | refine T ?_ | refine O ?_ _)); refine blk_far ?_ NB644_650.out _; (with_reducible repeat (first | refine M ?_ _ | refine T ?_ | refine O ?_ _)); refine blk_far ?_ NB644_650.out _; (with_reducible repeat (first | refine M ?_ _ | refine T ?_ | refine O ?_ _)); exact BK644.out⟩, ⟨by (with_reducible repeat (first | refine M ?_ _ | refine T ?_ | refine O ?_ _)); refine blk_far ?_ NB645_650.out _; (with_reducible repeat (first | refine M ?_ _ | refine T ?_ | refine O ?_ _)); refine blk_far ?_ NB645_650.out _; (with_reducible repeat (first | refine M ?_ _ | refine T ?_ | refine O ?_ _)); refine blk_far ?_ NB645_650.out _; (with_reducible repeat (first | refine M ?_ _ | refine T ?_ | refine O ?_ _)); exact BK645.out⟩, ⟨by repeat (first | (with_reducible first | exact HB.out | apply V | apply L | apply U | refine J ?_ GE644.out | refine J ?_ GE645.out | refine J ?_ GE650.out) | exact HB.out)⟩⟩
      ·replace c13 := Bool.eq_false_iff.mpr c13
       subst c13
       have H1 : (if x12_1 < (l1_0.length : Int) then (if (rd l1_0 x12_1) < 0 then (if x5_1.length < 17592186044416 then (impl_pushedWires.l0 k1 (x5_1 ++ [x12_1]) l0_1 (l0_1.length : Int) (wrap64 (x12_1 + 1)) l1_0 a1_1) else (none)) else (impl_pushedWires.l0 k1 x5_1 l0_1 (l0_1.length : Int) (wrap64 (x12_1 + 1)) l1_0 a1_1)) else (none)) = some r := by rw [if_neg (show ¬ (false = true) by decide)] at H; exact H
       clear H
       have H := H1
       clear H1
       by_cases c18 : x12_1 < (l1_0.length : Int)
       ·rw [if_pos c18] at H
        have c18b0 : decide (x12_1 < (l1_0.length : Int)) = true := decide_eq_true c18
        clear c18
        by_cases c19 : (rd l1_0 x12_1) < 0
        ·rw [if_pos c19] at H
         have c19b0 : decide ((rd l1_0 x12_1) < 0) = true := decide_eq_true c19
         clear c19
         by_cases c20 : x5_1.length < 17592186044416
         ·rw [if_pos c20] at H
          have LMc20 := G c20
          clear c20
          obtain ⟨y652, hy652⟩ : ∃ y_ : List Int, y_ = (x5_1 ++ [x12_1]) := ⟨_, rfl⟩
          replace H : (impl_pushedWires.l0 k1 y652 l0_1 (l0_1.length : Int) (wrap64 (x12_1 + 1)) l1_0 a1_1) = some r := by first | (rw [hy652]; with_reducible exact H) | (have H2_ := (Option.bind_some _ _).symm.trans H; rw [hy652]; with_reducible exact H2_) | (have H2_ := (Option.bind_some _ _).symm.trans H; with_reducible exact H2_) | with_reducible exact H | (rw [hy652]; exact H) | exact H
          have Ny652 := G hy652
          clear hy652
          have H' := G H
          clear H
          have p649 : 0 ≤ (x12_1 : Int) := of_decide_eq_true (by first | (with_reducible assumption) | assumption)
          have q649 : x12_1 < (l0_1.length : Int) := of_decide_eq_true (by first | (with_reducible assumption) | assumption)
          obtain ⟨ad649, e649, hx649_0, hx649_1, hx649_2⟩ := at_T84 HR0_1.out x12_1 p649 q649
          (try rw [← Nbq12.out] at hx649_2)
          (try rw [← Nbq12.out] at hw649_2)
          cases e649
          (first | (replace hx649_0 := (HB.out.cell (World.block_lt_of_cell? w _ hx649_0)).trans hx649_0) | skip)
          (first | (replace hx649_1 := (HB.out.cell (World.block_lt_of_cell? w _ hx649_1)).trans hx649_1) | skip)
          (first | (replace hx649_2 := (HB.out.cell (World.block_lt_of_cell? w _ hx649_2)).trans hx649_2) | skip)
          replace p649 := eq_true p649
          replace q649 := eq_true q649
          go_wp2_with (first | ((with_reducible refine gate_dst (N := 7) rfl ?_); refine box_event ?hg (N := 7) ?hd (cs := #[.int .i64 0, .int .i64 0, .bool false]) (t := 84) ?hr ?_; (case hd => rfl); (case hg => rfl); (case hr => first | (go_simp; done) | (go_simp; rfl)); intro gb650 hg w21 hbox hb; have n0_ := G (Kd.R_below (by (with_reducible repeat (first | apply Kd.R_alloc | apply Kd.R_drewN | apply Kd.R_drew)); exact HO_5.out) hb); have n1_ := G (blk_below (g := gb644) (o := .cells #[.slice A0_0 l0_0.length c0_0, .slice (some ad649) l0_1.length c0_1] 39 (0, 0)) (by (with_reducible repeat (first | refine M ?_ _ | refine T ?_ | refine O ?_ _)); exact BK644.out) hb); have n2_ := G (blk_below (g := gb645) (o := .cells #[.slice A1_0 l1_0.length c1_0, .int .i64 a1_1] 27 (0, 0)) (by (with_reducible repeat (first | refine M ?_ _ | refine T ?_ | refine O ?_ _)); exact BK645.out) hb); have n3_ := G (below_step (by repeat (first | (with_reducible first | exact HB.out | apply V | apply L | apply U | refine J ?_ GE644.out | refine J ?_ GE645.out) | exact HB.out)) hb); have n4_ := G (hbox); have n5_ := G ((by rw [hg]; exact (Y (by repeat (first | (with_reducible first | exact HB.out | apply V | apply L | apply U | refine J ?_ GE644.out | refine J ?_ GE645.out) | exact HB.out))) : w.heap.size ≤ gb650)); have n6_ := G ((by rw [hg]; exact (Y (by repeat (first | (with_reducible first | exact HB.out | apply V | apply L | apply U | refine J ?_ GE644.out | refine J ?_ GE645.out) | exact HB.out))) : w.heap.size ≤ gb650)); have n7_ := G ((by rw [hg]; exact Nat.ne_of_lt (blk_lt (g := gb644) (o := .cells #[.slice A0_0 l0_0.length c0_0, .slice (some ad649) l0_1.length c0_1] 39 (0, 0)) (by (with_reducible repeat (first | refine M ?_ _ | refine T ?_ | refine O ?_ _)); exact BK644.out)) : gb644 ≠ gb650)); have n8_ := G ((by rw [hg]; exact Nat.ne_of_gt (blk_lt (g := gb644) (o := .cells #[.slice A0_0 l0_0.length c0_0, .slice (some ad649) l0_1.length c0_1] 39 (0, 0)) (by (with_reducible repeat (first | refine M ?_ _ | refine T ?_ | refine O ?_ _)); exact BK644.out)) : gb650 ≠ gb644)); have n9_ := G ((by rw [hg]; exact Nat.ne_of_lt (blk_lt (g := gb645) (o := .cells #[.slice A1_0 l1_0.length c1_0, .int .i64 a1_1] 27 (0, 0)) (by (with_reducible repeat (first | refine M ?_ _ | refine T ?_ | refine O ?_ _)); exact BK645.out)) : gb645 ≠ gb650)); have n10_ := G ((by rw [hg]; exact Nat.ne_of_gt (blk_lt (g := gb645) (o := .cells #[.slice A1_0 l1_0.length c1_0, .int .i64 a1_1] 27 (0, 0)) (by (with_reducible repeat (first | refine M ?_ _ | refine T ?_ | refine O ?_ _)); exact BK645.out)) : gb650 ≠ gb645)); clear HO_5; clear BK644; clear BK645; clear HB; have HO_5 := n0_; have BK644 := n1_; have BK645 := n2_; have HB := n3_; have BK650 := n4_; have GW650 := n5_; have GE650 := n6_; have NB644_650 := n7_; have NB650_644 := n8_; have NB645_650 := n9_; have NB650_645 := n10_; clear n0_ n1_ n2_ n3_ n4_ n5_ n6_ n7_ n8_ n9_ n10_; clear hb hbox hg; have hnb22 := NB650_644.out; have hnc22 := NB644_650.out; have hnb23 := NB650_645.out; have hnc23 := NB645_650.out; have hcz24_0 : w21.cell? ⟨gb650, 0, none⟩ = some (.int .i64 0) := (X BK650.out 0).trans rfl; have hcz24_1 : w21.cell? ⟨gb650, 1, none⟩ = some (.int .i64 0) := (X BK650.out 1).trans rfl; have hcz24_2 : w21.cell? ⟨gb650, 2, none⟩ = some (.bool false) := (X BK650.out 2).trans rfl; have hfz24_0 := Z BK650.out 0; have hfz24_1 := Z BK650.out 1; have hfz24_2 := Z BK650.out 2; have hnb25 := NB645_644.out; have hnc25 := NB644_645.out; have hcz26_0 : w21.cell? ⟨gb645, 0, none⟩ = some (.slice A1_0 l1_0.length c1_0) := (X BK645.out 0).trans rfl; have hcz26_1 : w21.cell? ⟨gb645, 1, none⟩ = some (.int .i64 a1_1) := (X BK645.out 1).trans rfl; have hfz26_0 := Z BK645.out 0; have hfz26_1 := Z BK645.out 1; have p651 : 0 ≤ (x12_1 : Int) := of_decide_eq_true (by first | (with_reducible assumption) | assumption); have q651 : x12_1 < (l1_0.length : Int) := of_decide_eq_true (by first | (with_reducible assumption) | assumption); obtain ⟨ad651, e651, hx651_0⟩ := Kd.at_int HR1_0.out x12_1 p651 q651; cases e651; have hn651_0 : ad651.block ≠ gb650 := Nat.ne_of_lt (Nat.lt_of_lt_of_le (by have := World.block_lt_of_cell? _ _ hx651_0; first | rwa [add_block] at this | exact this) GW650.out); have hn651_1 : ad651.block ≠ gb650 := Nat.ne_of_lt (Nat.lt_of_lt_of_le (by have := World.block_lt_of_cell? _ _ hx651_0; first | rwa [add_block] at this | exact this) GW650.out); have hn651_2 : ad651.block ≠ gb650 := Nat.ne_of_lt (Nat.lt_of_lt_of_le (by have := World.block_lt_of_cell? _ _ hx651_0; first | rwa [add_block] at this | exact this) GW650.out); (first | (replace hx651_0 := (HB.out.cell (World.block_lt_of_cell? w _ hx651_0)).trans hx651_0) | skip); replace hx651_0 := (cell_far (p := ⟨gb650, 0, none⟩) (by first | (rw [add_block]; exact hn651_0) | (show (Addr.add _ _).block ≠ _; rw [add_block]; exact hn651_0) | exact hn651_0) (.int .i64 ((rd_T84 l0_1 x12_1).f0))).trans hx651_0; replace hx651_0 := (cell_far (p := ⟨gb650, 1, none⟩) (by first | (rw [add_block]; exact hn651_1) | (show (Addr.add _ _).block ≠ _; rw [add_block]; exact hn651_1) | exact hn651_1) (.int .i64 ((rd_T84 l0_1 x12_1).f1))).trans hx651_0; replace hx651_0 := (cell_far (p := ⟨gb650, 2, none⟩) (by first | (rw [add_block]; exact hn651_2) | (show (Addr.add _ _).block ≠ _; rw [add_block]; exact hn651_2) | exact hn651_2) (.bool false)).trans hx651_0; clear hn651_0; clear hn651_1; clear hn651_2; replace p651 := eq_true p651; replace q651 := eq_true q651) | ((with_reducible refine gate_builtin (b := .append) (xs := #[.tmp 28, .tmp 30]) rfl ?_); at_builtin; refine Kd.R_append (Kd.int .i64) (w0 := w) w.heap.size rfl (.tmp 28) (.tmp 30) 22 2 (.int .i64 0) 8 rfl Try.underlying22 info2 rfl (by decide) (by omega) u5 x5_1 x12_1 [.int .i64 x12_1] (fun _ => True) (fun _ => False) rfl (by first | (go_simp; done) | (go_simp; rfl)) ?aP (fun _ hk => hk.elim) ?aF ?aO ?aB ?aS ?aL ?_; (case aP => exact rfl); (case aB => exact (by repeat (first | (with_reducible first | exact HB.out | apply V | apply L | apply U | refine J ?_ GE644.out | refine J ?_ GE645.out | refine J ?_ GE650.out) | exact HB.out))); (case aF => exact (fun _ _ => trivial)); (case aO => exact (by (with_reducible repeat (first | apply Kd.R_alloc | apply Kd.R_drewN | apply Kd.R_drew)); exact Kd.R_mono (Kd.R_far (p := ⟨gb650, 2, none⟩) (Kd.R_far (p := ⟨gb650, 1, none⟩) (Kd.R_far (p := ⟨gb650, 0, none⟩) (Kd.R_types HO_5.out BK650.out (by decide)) (fun _ hk => hk.2) (.int .i64 ((rd_T84 l0_1 x12_1).f0))) (fun _ hk => hk.2) (.int .i64 ((rd_T84 l0_1 x12_1).f1))) (fun _ hk => hk.2) (.bool false)) (fun _ hk => trivial))); (case aS => exact (Y (by repeat (first | (with_reducible first | exact HB.out | apply V | apply L | apply U | refine J ?_ GE644.out | refine J ?_ GE645.out | refine J ?_ GE650.out) | exact HB.out)))); (case aL => have := LMc20.out; omega); intro v653 w27 ho hb hg hat; rw [← Ny652.out] at ho; have n0_ := G (blk_grown (g := gb644) (o := .cells #[.slice A0_0 l0_0.length c0_0, .slice (some ad649) l0_1.length c0_1] 39 (0, 0)) (by (with_reducible repeat (first | refine M ?_ _ | refine T ?_ | refine O ?_ _)); refine blk_far ?_ NB644_650.out _; (with_reducible repeat (first | refine M ?_ _ | refine T ?_ | refine O ?_ _)); refine blk_far ?_ NB644_650.out _; (with_reducible repeat (first | refine M ?_ _ | refine T ?_ | refine O ?_ _)); refine blk_far ?_ NB644_650.out _; (with_reducible repeat (first | refine M ?_ _ | refine T ?_ | refine O ?_ _)); exact BK644.out) hg (Kd.R_ne HO_5.out BK644.out (by decide))); have n1_ := G (blk_grown (g := gb645) (o := .cells #[.slice (some ad651) l1_0.length c1_0, .int .i64 a1_1] 27 (0, 0)) (by (with_reducible repeat (first | refine M ?_ _ | refine T ?_ | refine O ?_ _)); refine blk_far ?_ NB645_650.out _; (with_reducible repeat (first | refine M ?_ _ | refine T ?_ | refine O ?_ _)); refine blk_far ?_ NB645_650.out _; (with_reducible repeat (first | refine M ?_ _ | refine T ?_ | refine O ?_ _)); refine blk_far ?_ NB645_650.out _; (with_reducible repeat (first | refine M ?_ _ | refine T ?_ | refine O ?_ _)); exact BK645.out) hg (Kd.R_ne HO_5.out BK645.out (by decide))); have n2_ := G (blk_grown (g := gb650) (o := .cells #[.int .i64 ((rd_T84 l0_1 x12_1).f0), .int .i64 ((rd_T84 l0_1 x12_1).f1), .bool false] 84 (0, 0)) (by (with_reducible repeat (first | refine M ?_ _ | refine T ?_ | refine O ?_ _)); refine blk_put (cs := #[.int .i64 ((rd_T84 l0_1 x12_1).f0), .int .i64 ((rd_T84 l0_1 x12_1).f1), .bool false]) ?_ 2 _ rfl; (with_reducible repeat (first | refine M ?_ _ | refine T ?_ | refine O ?_ _)); refine blk_put (cs := #[.int .i64 ((rd_T84 l0_1 x12_1).f0), .int .i64 0, .bool false]) ?_ 1 _ rfl; (with_reducible repeat (first | refine M ?_ _ | refine T ?_ | refine O ?_ _)); refine blk_put (cs := #[.int .i64 0, .int .i64 0, .bool false]) ?_ 0 _ rfl; (with_reducible repeat (first | refine M ?_ _ | refine T ?_ | refine O ?_ _)); exact BK650.out) hg (Kd.R_ne HO_5.out BK650.out (by decide))); have n3_ := G (hb); have n4_ := G (ho); clear BK644; clear BK645; clear BK650; clear HB; clear HO_5; have BK644 := n0_; have BK645 := n1_; have BK650 := n2_; have HB := n3_; have HO654 := n4_; clear n0_ n1_ n2_ n3_ n4_; clear ho hb hg hat))
          go_roundg k1
          case measure => have := HK1.out; omega
          case rel => exact ⟨(y652), (wrap64 (x12_1 + 1)), (by first | rfl | (simp; done) | (simp [*]; done)), H', ⟨by have := HK1.out; omega⟩, ⟨by (with_reducible repeat (first | apply Kd.R_alloc | apply Kd.R_drewN | apply Kd.R_drew)); exact HO654.out⟩, ⟨by (with_reducible repeat (first | refine M ?_ _ | refine T ?_ | refine O ?_ _)); exact BK644.out⟩, ⟨by (with_reducible repeat (first | refine M ?_ _ | refine T ?_ | refine O ?_ _)); exact BK645.out⟩, ⟨by repeat (first | (with_reducible first | exact HB.out | apply V | apply L | apply U | refine J ?_ GE644.out | refine J ?_ GE645.out | refine J ?_ GE650.out) | exact HB.out)⟩⟩
         ·rw [if_neg c20] at H
          exact absurd H (by simp)
        ·rw [if_neg c19] at H
         have c19b0 : decide ((rd l1_0 x12_1) < 0) = false := decide_eq_false c19
         clear c19
         have H' := G H
         clear H
         have p649 : 0 ≤ (x12_1 : Int) := of_decide_eq_true (by first | (with_reducible assumption) | assumption)
         have q649 : x12_1 < (l0_1.length : Int) := of_decide_eq_true (by first | (with_reducible assumption) | assumption)
         obtain ⟨ad649, e649, hx649_0, hx649_1, hx649_2⟩ := at_T84 HR0_1.out x12_1 p649 q649
         (try rw [← Nbq12.out] at hx649_2)
         (try rw [← Nbq12.out] at hw649_2)
         cases e649
         (first | (replace hx649_0 := (HB.out.cell (World.block_lt_of_cell? w _ hx649_0)).trans hx649_0) | skip)
         (first | (replace hx649_1 := (HB.out.cell (World.block_lt_of_cell? w _ hx649_1)).trans hx649_1) | skip)
         (first | (replace hx649_2 := (HB.out.cell (World.block_lt_of_cell? w _ hx649_2)).trans hx649_2) | skip)
         replace p649 := eq_true p649
         replace q649 := eq_true q649
         go_wp2_with (first | ((with_reducible refine gate_dst (N := 7) rfl ?_); refine box_event ?hg (N := 7) ?hd (cs := #[.int .i64 0, .int .i64 0, .bool false]) (t := 84) ?hr ?_; (case hd => rfl); (case hg => rfl); (case hr => first | (go_simp; done) | (go_simp; rfl)); intro gb650 hg w28 hbox hb; have n0_ := G (Kd.R_below (by (with_reducible repeat (first | apply Kd.R_alloc | apply Kd.R_drewN | apply Kd.R_drew)); exact HO_5.out) hb); have n1_ := G (blk_below (g := gb644) (o := .cells #[.slice A0_0 l0_0.length c0_0, .slice (some ad649) l0_1.length c0_1] 39 (0, 0)) (by (with_reducible repeat (first | refine M ?_ _ | refine T ?_ | refine O ?_ _)); exact BK644.out) hb); have n2_ := G (blk_below (g := gb645) (o := .cells #[.slice A1_0 l1_0.length c1_0, .int .i64 a1_1] 27 (0, 0)) (by (with_reducible repeat (first | refine M ?_ _ | refine T ?_ | refine O ?_ _)); exact BK645.out) hb); have n3_ := G (below_step (by repeat (first | (with_reducible first | exact HB.out | apply V | apply L | apply U | refine J ?_ GE644.out | refine J ?_ GE645.out) | exact HB.out)) hb); have n4_ := G (hbox); have n5_ := G ((by rw [hg]; exact (Y (by repeat (first | (with_reducible first | exact HB.out | apply V | apply L | apply U | refine J ?_ GE644.out | refine J ?_ GE645.out) | exact HB.out))) : w.heap.size ≤ gb650)); have n6_ := G ((by rw [hg]; exact (Y (by repeat (first | (with_reducible first | exact HB.out | apply V | apply L | apply U | refine J ?_ GE644.out | refine J ?_ GE645.out) | exact HB.out))) : w.heap.size ≤ gb650)); have n7_ := G ((by rw [hg]; exact Nat.ne_of_lt (blk_lt (g := gb644) (o := .cells #[.slice A0_0 l0_0.length c0_0, .slice (some ad649) l0_1.length c0_1] 39 (0, 0)) (by (with_reducible repeat (first | refine M ?_ _ | refine T ?_ | refine O ?_ _)); exact BK644.out)) : gb644 ≠ gb650)); have n8_ := G ((by rw [hg]; exact Nat.ne_of_gt (blk_lt (g := gb644) (o := .cells #[.slice A0_0 l0_0.length c0_0, .slice (some ad649) l0_1.length c0_1] 39 (0, 0)) (by (with_reducible repeat (first | refine M ?_ _ | refine T ?_ | refine O ?_ _)); exact BK644.out)) : gb650 ≠ gb644)); have n9_ := G ((by rw [hg]; exact Nat.ne_of_lt (blk_lt (g := gb645) (o := .cells #[.slice A1_0 l1_0.length c1_0, .int .i64 a1_1] 27 (0, 0)) (by (with_reducible repeat (first | refine M ?_ _ | refine T ?_ | refine O ?_ _)); exact BK645.out)) : gb645 ≠ gb650)); have n10_ := G ((by rw [hg]; exact Nat.ne_of_gt (blk_lt (g := gb645) (o := .cells #[.slice A1_0 l1_0.length c1_0, .int .i64 a1_1] 27 (0, 0)) (by (with_reducible repeat (first | refine M ?_ _ | refine T ?_ | refine O ?_ _)); exact BK645.out)) : gb650 ≠ gb645)); clear HO_5; clear BK644; clear BK645; clear HB; have HO_5 := n0_; have BK644 := n1_; have BK645 := n2_; have HB := n3_; have BK650 := n4_; have GW650 := n5_; have GE650 := n6_; have NB644_650 := n7_; have NB650_644 := n8_; have NB645_650 := n9_; have NB650_645 := n10_; clear n0_ n1_ n2_ n3_ n4_ n5_ n6_ n7_ n8_ n9_ n10_; clear hb hbox hg; have hnb29 := NB650_644.out; have hnc29 := NB644_650.out; have hnb30 := NB650_645.out; have hnc30 := NB645_650.out; have hcz31_0 : w28.cell? ⟨gb650, 0, none⟩ = some (.int .i64 0) := (X BK650.out 0).trans rfl; have hcz31_1 : w28.cell? ⟨gb650, 1, none⟩ = some (.int .i64 0) := (X BK650.out 1).trans rfl; have hcz31_2 : w28.cell? ⟨gb650, 2, none⟩ = some (.bool false) := (X BK650.out 2).trans rfl; have hfz31_0 := Z BK650.out 0; have hfz31_1 := Z BK650.out 1; have hfz31_2 := Z BK650.out 2; have hnb32 := NB645_644.out; have hnc32 := NB644_645.out; have hcz33_0 : w28.cell? ⟨gb645, 0, none⟩ = some (.slice A1_0 l1_0.length c1_0) := (X BK645.out 0).trans rfl; have hcz33_1 : w28.cell? ⟨gb645, 1, none⟩ = some (.int .i64 a1_1) := (X BK645.out 1).trans rfl; have hfz33_0 := Z BK645.out 0; have hfz33_1 := Z BK645.out 1; have p651 : 0 ≤ (x12_1 : Int) := of_decide_eq_true (by first | (with_reducible assumption) | assumption); have q651 : x12_1 < (l1_0.length : Int) := of_decide_eq_true (by first | (with_reducible assumption) | assumption); obtain ⟨ad651, e651, hx651_0⟩ := Kd.at_int HR1_0.out x12_1 p651 q651; cases e651; have hn651_0 : ad651.block ≠ gb650 := Nat.ne_of_lt (Nat.lt_of_lt_of_le (by have := World.block_lt_of_cell? _ _ hx651_0; first | rwa [add_block] at this | exact this) GW650.out); have hn651_1 : ad651.block ≠ gb650 := Nat.ne_of_lt (Nat.lt_of_lt_of_le (by have := World.block_lt_of_cell? _ _ hx651_0; first | rwa [add_block] at this | exact this) GW650.out); have hn651_2 : ad651.block ≠ gb650 := Nat.ne_of_lt (Nat.lt_of_lt_of_le (by have := World.block_lt_of_cell? _ _ hx651_0; first | rwa [add_block] at this | exact this) GW650.out); (first | (replace hx651_0 := (HB.out.cell (World.block_lt_of_cell? w _ hx651_0)).trans hx651_0) | skip); replace hx651_0 := (cell_far (p := ⟨gb650, 0, none⟩) (by first | (rw [add_block]; exact hn651_0) | (show (Addr.add _ _).block ≠ _; rw [add_block]; exact hn651_0) | exact hn651_0) (.int .i64 ((rd_T84 l0_1 x12_1).f0))).trans hx651_0; replace hx651_0 := (cell_far (p := ⟨gb650, 1, none⟩) (by first | (rw [add_block]; exact hn651_1) | (show (Addr.add _ _).block ≠ _; rw [add_block]; exact hn651_1) | exact hn651_1) (.int .i64 ((rd_T84 l0_1 x12_1).f1))).trans hx651_0; replace hx651_0 := (cell_far (p := ⟨gb650, 2, none⟩) (by first | (rw [add_block]; exact hn651_2) | (show (Addr.add _ _).block ≠ _; rw [add_block]; exact hn651_2) | exact hn651_2) (.bool false)).trans hx651_0; clear hn651_0; clear hn651_1; clear hn651_2; replace p651 := eq_true p651; replace q651 := eq_true q651))
         go_roundg k1
         case measure => have := HK1.out; omega
         case rel => exact ⟨(x5_1), (wrap64 (x12_1 + 1)), (by first | rfl | (simp; done) | (simp [*]; done)), H', ⟨by have := HK1.out; omega⟩, ⟨by (with_reducible repeat (first | apply Kd.R_alloc | apply Kd.R_drewN | apply Kd.R_drew)); exact Kd.R_mono (Kd.R_far (p := ⟨gb650, 2, none⟩) (Kd.R_far (p := ⟨gb650, 1, none⟩) (Kd.R_far (p := ⟨gb650, 0, none⟩) (Kd.R_types HO_5.out BK650.out (by decide)) (fun _ hk => hk.2) (.int .i64 ((rd_T84 l0_1 x12_1).f0))) (fun _ hk => hk.2) (.int .i64 ((rd_T84 l0_1 x12_1).f1))) (fun _ hk => hk.2) (.bool false)) (fun _ hk => trivial)⟩, ⟨by (with_reducible repeat (first | refine M ?_ _ | refine T ?_ | refine O ?_ _)); refine blk_far ?_ NB644_650.out _; (with_reducible repeat (first | refine M ?_ _ | refine T ?_ | refine O ?_ _)); refine blk_far ?_ NB644_650.out _; (with_reducible repeat (first | refine M ?_ _ | refine T ?_ | refine O ?_ _)); refine blk_far ?_ NB644_650.out _; (with_reducible repeat (first | refine M ?_ _ | refine T ?_ | refine O ?_ _)); exact BK644.out⟩, ⟨by (with_reducible repeat (first | refine M ?_ _ | refine T ?_ | refine O ?_ _)); refine blk_far ?_ NB645_650.out _; (with_reducible repeat (first | refine M ?_ _ | refine T ?_ | refine O ?_ _)); refine blk_far ?_ NB645_650.out _; (with_reducible repeat (first | refine M ?_ _ | refine T ?_ | refine O ?_ _)); refine blk_far ?_ NB645_650.out _; (with_reducible repeat (first | refine M ?_ _ | refine T ?_ | refine O ?_ _)); exact BK645.out⟩, ⟨by repeat (first | (with_reducible first | exact HB.out | apply V | apply L | apply U | refine J ?_ GE644.out | refine J ?_ GE645.out | refine J ?_ GE650.out) | exact HB.out)⟩⟩
       ·rw [if_neg c18] at H
        exact absurd H (by simp)
     ·rw [if_neg c11] at H
      exact absurd H (by simp)
    ·rw [if_neg c10] at H
     exact absurd H (by simp)
   ·rw [if_neg c9] at H
    have c9b0 : decide (x12_1 < (l0_1.length : Int)) = false := decide_eq_false c9
    clear c9
    obtain rfl := Option.some.inj H
    go_wp2
    go_ret
    exact ⟨_, by first | rfl | (simp [errW_none, errW_some] <;> rfl) | (simp [*, errW_none, errW_some] <;> rfl), by (with_reducible repeat (first | apply Kd.R_alloc | apply Kd.R_drewN | apply Kd.R_drew)); exact HO_5.out, by repeat (first | (with_reducible first | exact HB.out | apply V | apply L | apply U | refine J ?_ GE644.out | refine J ?_ GE645.out) | exact HB.out)⟩

/-! ### impl_PushedWires: function 50 -/
def impl_PushedWires.f (k : Nat) (l0_0 : List (S82)) (l0_1 : List (S84)) (l1_0 : List Int) (a1_1 : Int) : Option (List Int × Int) := (impl_ValidDensities.f k l0_0 l0_1 l1_0 a1_1).bind fun t657 => (if t657 = true then ((impl_pushedWires.f k l0_0 l0_1 l1_0 a1_1).bind fun t658 => (some (t658, 0))) else (some (([] : List Int), 1)))
theorem impl_PushedWires.mono : ∀ a0 a1 a2 a3 k, LeO (impl_PushedWires.f k a0 a1 a2 a3) (impl_PushedWires.f (k + 1) a0 a1 a2 a3) := by
 intro a0 a1 a2 a3 k
 unfold impl_PushedWires.f
 repeat' first
   | (with_reducible exact impl_ValidDensities.mono _ _ _ _ _)
   | (with_reducible exact impl_pushedWires.mono _ _ _ _ _)
   | (with_reducible exact LeO.refl _)
   | (with_reducible exact LeO.none _)
   | (with_reducible refine LeO.ite ?_ ?_)
   | (with_reducible refine LeO.bind ?_ (fun _ => ?_))
   | exact impl_ValidDensities.mono _ _ _ _ _
   | exact impl_pushedWires.mono _ _ _ _ _
   | exact LeO.none _
   | refine LeO.ite ?_ ?_
   | refine LeO.bind ?_ (fun _ => ?_)
@[reducible] def impl_PushedWires.y' : Bool := true
@[reducible] def impl_PushedWires.n' : Bool := false
theorem impl_PushedWires.z1' {α : Type} (l : List α) (i : Nat) (a : α) : l.toArray.setIfInBounds i a = (l.set i a).toArray := List.setIfInBounds_toArray ..
theorem impl_PushedWires.z2' {α : Type} (a b : α) (l : List α) : (a :: l).set 0 b = b :: l := rfl
theorem impl_PushedWires.z3' {α : Type} (a b : α) (l : List α) (n : Nat) : (a :: l).set (n + 1) b = a :: l.set n b := rfl
theorem impl_PushedWires.G : type_of% @Aside0.mk := @Aside0.mk
theorem impl_PushedWires.J : type_of% @below_set := @below_set
theorem impl_PushedWires.L : type_of% @pw_below_drewN := @pw_below_drewN
theorem impl_PushedWires.M : type_of% @blk_drewN := @blk_drewN
theorem impl_PushedWires.O : type_of% @blk_alloc := @blk_alloc
theorem impl_PushedWires.T : type_of% @below_drew1 := @below_drew1
theorem impl_PushedWires.U : type_of% @below_alloc := @below_alloc
theorem impl_PushedWires.V : type_of% @blk_frozen := @blk_frozen
set_option maxHeartbeats 8000000 in
set_option maxRecDepth 100000 in
theorem impl_PushedWires.calls (k : Nat) (A0_0 : Option Addr) (c0_0 : Nat) (l0_0 : List (S82)) (A0_1 : Option Addr) (c0_1 : Nat) (l0_1 : List (S84)) (A1_0 : Option Addr) (c1_0 : Nat) (l1_0 : List Int) (a1_1 : Int) (r1 : List Int) (r2 : Int) (w : World) (hr0_0 : Kd.C k82 w A0_0 l0_0.length l0_0) (hc0_0 : l0_0.length ≤ c0_0) (hr0_1 : Kd.C k84 w A0_1 l0_1.length l0_1) (hc0_1 : l0_1.length ≤ c0_1) (hr1_0 : Kd.C (Kd.int .i64) w A1_0 l1_0.length l1_0) (hc1_0 : l1_0.length ≤ c1_0) (h : impl_PushedWires.f k l0_0 l0_1 l1_0 a1_1 = some (r1, r2)) :
  Calls Try.prog 50 #[.agg #[.slice A0_0 l0_0.length c0_0, .slice A0_1 l0_1.length c0_1], .agg #[.slice A1_0 l1_0.length c1_0, .int .i64 a1_1]] w fun e w' => ∃ v0_ : Value, e = .returned (.tuple #[v0_, .int .i64 r2]) ∧ Kd.R (Kd.int .i64) 2 w' w.heap.size (fun _ => True) v0_ r1 ∧ Below w.heap.size w w' := by
 have hu39 := Try.underlying39
 have hu27 := Try.underlying27
 have HR0_0 := G hr0_0
 have HC0_0 := G hc0_0
 clear hr0_0 hc0_0
 have HR0_1 := G hr0_1
 have HC0_1 := G hc0_1
 clear hr0_1 hc0_1
 have HR1_0 := G hr1_0
 have HC1_0 := G hc1_0
 clear hr1_0 hc1_0
 have HB := G (Below.refl w.heap.size w)
 have H : ((impl_ValidDensities.f k l0_0 l0_1 l1_0 a1_1).bind fun t657 => (if t657 = true then ((impl_pushedWires.f k l0_0 l0_1 l1_0 a1_1).bind fun t658 => (some (t658, 0))) else (some (([] : List Int), 1)))) = some (r1, r2) := h
 clear h
 replace H := Option.bind_eq_some_iff.mp H
 obtain ⟨t657, A30, H⟩ := H
 replace H : (if t657 = true then ((impl_pushedWires.f k l0_0 l0_1 l1_0 a1_1).bind fun t658 => (some (t658, 0))) else (some (([] : List Int), 1))) = some (r1, r2) := H
 have A3 := G A30
 clear A30
 by_cases c4 : t657 = true
 ·subst c4
  have H1 : ((impl_pushedWires.f k l0_0 l0_1 l1_0 a1_1).bind fun t658 => (some (t658, 0))) = some (r1, r2) := by rw [if_pos rfl] at H; exact H
  clear H
  have H := H1
  clear H1
  replace H := Option.bind_eq_some_iff.mp H
  obtain ⟨t658, A50, H⟩ := H
  replace H : (some (t658, 0)) = some (r1, r2) := H
  have A5 := G A50
  clear A50
  simp only [Option.some.injEq, Prod.mk.injEq] at H
  obtain ⟨rfl, rfl⟩ := H
  go_enter Try.func50, Try.ntmps50
  go_wp2_with (first | ((with_reducible refine gate_dst (N := 2) rfl ?_); refine box_event ?hg (N := 2) ?hd (cs := #[.slice A0_0 l0_0.length c0_0, .slice A0_1 l0_1.length c0_1]) (t := 39) ?hr ?_; (case hd => rfl); (case hg => rfl); (case hr => first | (go_simp; done) | (go_simp; rfl)); intro gb655 hg w6 hbox hb; have n0_ := G (below_step (by repeat (first | (with_reducible first | exact HB.out | apply U | apply L | apply T) | exact HB.out)) hb); have n1_ := G (hbox); have n2_ := G ((by rw [hg]; exact (below_size (by repeat (first | (with_reducible first | exact HB.out | apply U | apply L | apply T) | exact HB.out))) : w.heap.size ≤ gb655)); have n3_ := G ((by rw [hg]; exact (below_size (by repeat (first | (with_reducible first | exact HB.out | apply U | apply L | apply T) | exact HB.out))) : w.heap.size ≤ gb655)); clear HB; have HB := n0_; have BK655 := n1_; have GW655 := n2_; have GE655 := n3_; clear n0_ n1_ n2_ n3_; clear hb hbox hg) | ((with_reducible refine gate_dst (N := 3) rfl ?_); refine box_event ?hg (N := 3) ?hd (cs := #[.slice A1_0 l1_0.length c1_0, .int .i64 a1_1]) (t := 27) ?hr ?_; (case hd => rfl); (case hg => rfl); (case hr => first | (go_simp; done) | (go_simp; rfl)); intro gb656 hg w7 hbox hb; have n0_ := G (blk_below (g := gb655) (o := .cells #[.slice A0_0 l0_0.length c0_0, .slice A0_1 l0_1.length c0_1] 39 (0, 0)) (by (with_reducible repeat (first | refine M ?_ _ | refine blk_drew ?_ | refine O ?_ _)); exact BK655.out) hb); have n1_ := G (below_step (by repeat (first | (with_reducible first | exact HB.out | apply U | apply L | apply T | refine J ?_ GE655.out) | exact HB.out)) hb); have n2_ := G (hbox); have n3_ := G ((by rw [hg]; exact (below_size (by repeat (first | (with_reducible first | exact HB.out | apply U | apply L | apply T | refine J ?_ GE655.out) | exact HB.out))) : w.heap.size ≤ gb656)); have n4_ := G ((by rw [hg]; exact (below_size (by repeat (first | (with_reducible first | exact HB.out | apply U | apply L | apply T | refine J ?_ GE655.out) | exact HB.out))) : w.heap.size ≤ gb656)); have n5_ := G ((by rw [hg]; exact Nat.ne_of_lt (blk_lt (g := gb655) (o := .cells #[.slice A0_0 l0_0.length c0_0, .slice A0_1 l0_1.length c0_1] 39 (0, 0)) (by (with_reducible repeat (first | refine M ?_ _ | refine blk_drew ?_ | refine O ?_ _)); exact BK655.out)) : gb655 ≠ gb656)); have n6_ := G ((by rw [hg]; exact Nat.ne_of_gt (blk_lt (g := gb655) (o := .cells #[.slice A0_0 l0_0.length c0_0, .slice A0_1 l0_1.length c0_1] 39 (0, 0)) (by (with_reducible repeat (first | refine M ?_ _ | refine blk_drew ?_ | refine O ?_ _)); exact BK655.out)) : gb656 ≠ gb655)); clear BK655; clear HB; have BK655 := n0_; have HB := n1_; have BK656 := n2_; have GW656 := n3_; have GE656 := n4_; have NB655_656 := n5_; have NB656_655 := n6_; clear n0_ n1_ n2_ n3_ n4_ n5_ n6_; clear hb hbox hg; have hnb8 := NB655_656.out; have hnc8 := NB656_655.out; have hcz9_0 : w7.cell? ⟨gb655, 0, none⟩ = some (.slice A0_0 l0_0.length c0_0) := (blk_cell BK655.out 0).trans rfl; have hcz9_1 : w7.cell? ⟨gb655, 1, none⟩ = some (.slice A0_1 l0_1.length c0_1) := (blk_cell BK655.out 1).trans rfl; have hfz9_0 := V BK655.out 0; have hfz9_1 := V BK655.out 1; have hcz10_0 : w7.cell? ⟨gb656, 0, none⟩ = some (.slice A1_0 l1_0.length c1_0) := (blk_cell BK656.out 0).trans rfl; have hcz10_1 : w7.cell? ⟨gb656, 1, none⟩ = some (.int .i64 a1_1) := (blk_cell BK656.out 1).trans rfl; have hfz10_0 := V BK656.out 0; have hfz10_1 := V BK656.out 1) | ((with_reducible refine gate_callee (f := 40) rfl ?_); refine goesL_ (some 8) rfl rfl Try.func40 (by kernel_rfl) rfl #[.agg #[.slice A0_0 l0_0.length c0_0, .slice A0_1 l0_1.length c0_1], .agg #[.slice A1_0 l1_0.length c1_0, .int .i64 a1_1]] rfl (by (try simp only [List.map_toArray, List.map_cons, List.map_nil]); first | done | rfl | (simp only [List.length_drop, List.length_take]; rfl)) ?_; (with_reducible refine (impl_ValidDensities.calls k _ _ l0_0 _ _ l0_1 _ _ l1_0 a1_1 true _ ?side1 ?side2 ?side3 ?side4 ?side5 ?side6 A3.out).mono ?_); (case side1 => repeat (first | exact (Kd.C_below HR0_0.out HB.out) | (with_reducible refine Kd.C_alloc ?_ _) | (with_reducible refine Kd.C_drewN ?_ _) | (with_reducible refine Kd.C_drew ?_))); (case side2 => exact HC0_0.out); (case side3 => repeat (first | exact (Kd.C_below HR0_1.out HB.out) | (with_reducible refine Kd.C_alloc ?_ _) | (with_reducible refine Kd.C_drewN ?_ _) | (with_reducible refine Kd.C_drew ?_))); (case side4 => exact HC0_1.out); (case side5 => repeat (first | exact (Kd.C_below HR1_0.out HB.out) | (with_reducible refine Kd.C_alloc ?_ _) | (with_reducible refine Kd.C_drewN ?_ _) | (with_reducible refine Kd.C_drew ?_))); (case side6 => exact HC1_0.out); rintro e w11 ⟨rfl, hb⟩; refine ⟨_, rfl, ?_⟩; have n0_ := G (blk_below (g := gb655) (o := .cells #[.slice A0_0 l0_0.length c0_0, .slice A0_1 l0_1.length c0_1] 39 (0, 0)) (by (with_reducible repeat (first | refine M ?_ _ | refine blk_drew ?_ | refine O ?_ _)); exact BK655.out) hb); have n1_ := G (blk_below (g := gb656) (o := .cells #[.slice A1_0 l1_0.length c1_0, .int .i64 a1_1] 27 (0, 0)) (by (with_reducible repeat (first | refine M ?_ _ | refine blk_drew ?_ | refine O ?_ _)); exact BK656.out) hb); have n2_ := G (below_step (by repeat (first | (with_reducible first | exact HB.out | apply U | apply L | apply T | refine J ?_ GE655.out | refine J ?_ GE656.out) | exact HB.out)) hb); clear BK655; clear BK656; clear HB; have BK655 := n0_; have BK656 := n1_; have HB := n2_; clear n0_ n1_ n2_; (try clear hb); (try clear hb2); (try clear hk); (try clear hi); have hcz12_0 : w11.cell? ⟨gb655, 0, none⟩ = some (.slice A0_0 l0_0.length c0_0) := (blk_cell BK655.out 0).trans rfl; have hcz12_1 : w11.cell? ⟨gb655, 1, none⟩ = some (.slice A0_1 l0_1.length c0_1) := (blk_cell BK655.out 1).trans rfl; have hfz12_0 := V BK655.out 0; have hfz12_1 := V BK655.out 1; have hcz13_0 : w11.cell? ⟨gb656, 0, none⟩ = some (.slice A1_0 l1_0.length c1_0) := (blk_cell BK656.out 0).trans rfl; have hcz13_1 : w11.cell? ⟨gb656, 1, none⟩ = some (.int .i64 a1_1) := (blk_cell BK656.out 1).trans rfl; have hfz13_0 := V BK656.out 0; have hfz13_1 := V BK656.out 1) | ((with_reducible refine gate_callee (f := 84) rfl ?_); refine goesL_ (some 12) rfl rfl Try.func84 (by kernel_rfl) rfl #[.agg #[.slice A0_0 l0_0.length c0_0, .slice A0_1 l0_1.length c0_1], .agg #[.slice A1_0 l1_0.length c1_0, .int .i64 a1_1]] rfl (by (try simp only [List.map_toArray, List.map_cons, List.map_nil]); first | done | rfl | (simp only [List.length_drop, List.length_take]; rfl)) ?_; (with_reducible refine (impl_pushedWires.calls k _ _ l0_0 _ _ l0_1 _ _ l1_0 a1_1 t658 _ ?side1 ?side2 ?side3 ?side4 ?side5 ?side6 A5.out).mono ?_); (case side1 => repeat (first | exact (Kd.C_below HR0_0.out HB.out) | (with_reducible refine Kd.C_alloc ?_ _) | (with_reducible refine Kd.C_drewN ?_ _) | (with_reducible refine Kd.C_drew ?_))); (case side2 => exact HC0_0.out); (case side3 => repeat (first | exact (Kd.C_below HR0_1.out HB.out) | (with_reducible refine Kd.C_alloc ?_ _) | (with_reducible refine Kd.C_drewN ?_ _) | (with_reducible refine Kd.C_drew ?_))); (case side4 => exact HC0_1.out); (case side5 => repeat (first | exact (Kd.C_below HR1_0.out HB.out) | (with_reducible refine Kd.C_alloc ?_ _) | (with_reducible refine Kd.C_drewN ?_ _) | (with_reducible refine Kd.C_drew ?_))); (case side6 => exact HC1_0.out); rintro e w14 ⟨v659, rfl, ho0, hb⟩; refine ⟨_, rfl, ?_⟩; have n0_ := G (Kd.R_lower ho0 (below_size (by repeat (first | (with_reducible first | exact HB.out | apply U | apply L | apply T | refine J ?_ GE655.out | refine J ?_ GE656.out) | exact HB.out)))); have n1_ := G (blk_below (g := gb655) (o := .cells #[.slice A0_0 l0_0.length c0_0, .slice A0_1 l0_1.length c0_1] 39 (0, 0)) (by (with_reducible repeat (first | refine M ?_ _ | refine blk_drew ?_ | refine O ?_ _)); exact BK655.out) hb); have n2_ := G (blk_below (g := gb656) (o := .cells #[.slice A1_0 l1_0.length c1_0, .int .i64 a1_1] 27 (0, 0)) (by (with_reducible repeat (first | refine M ?_ _ | refine blk_drew ?_ | refine O ?_ _)); exact BK656.out) hb); have n3_ := G (below_step (by repeat (first | (with_reducible first | exact HB.out | apply U | apply L | apply T | refine J ?_ GE655.out | refine J ?_ GE656.out) | exact HB.out)) hb); clear BK655; clear BK656; clear HB; have HO660 := n0_; have BK655 := n1_; have BK656 := n2_; have HB := n3_; clear n0_ n1_ n2_ n3_; (try clear hb); (try clear hb2); (try clear hk); (try clear hi); (try clear ho0)))
  go_ret2
  exact ⟨_, by first | rfl | (simp [errW_none, errW_some] <;> rfl) | (simp [*, errW_none, errW_some] <;> rfl), by (with_reducible repeat (first | apply Kd.R_alloc | apply Kd.R_drewN | apply Kd.R_drew)); exact HO660.out, by repeat (first | (with_reducible first | exact HB.out | apply U | apply L | apply T | refine J ?_ GE655.out | refine J ?_ GE656.out) | exact HB.out)⟩
 ·replace c4 := Bool.eq_false_iff.mpr c4
  subst c4
  have H1 : (some (([] : List Int), 1)) = some (r1, r2) := by rw [if_neg (show ¬ (false = true) by decide)] at H; exact H
  clear H
  have H := H1
  clear H1
  simp only [Option.some.injEq, Prod.mk.injEq] at H
  obtain ⟨rfl, rfl⟩ := H
  go_enter Try.func50, Try.ntmps50
  go_wp2_with (first | ((with_reducible refine gate_dst (N := 2) rfl ?_); refine box_event ?hg (N := 2) ?hd (cs := #[.slice A0_0 l0_0.length c0_0, .slice A0_1 l0_1.length c0_1]) (t := 39) ?hr ?_; (case hd => rfl); (case hg => rfl); (case hr => first | (go_simp; done) | (go_simp; rfl)); intro gb655 hg w15 hbox hb; have n0_ := G (below_step (by repeat (first | (with_reducible first | exact HB.out | apply U | apply L | apply T) | exact HB.out)) hb); have n1_ := G (hbox); have n2_ := G ((by rw [hg]; exact (below_size (by repeat (first | (with_reducible first | exact HB.out | apply U | apply L | apply T) | exact HB.out))) : w.heap.size ≤ gb655)); have n3_ := G ((by rw [hg]; exact (below_size (by repeat (first | (with_reducible first | exact HB.out | apply U | apply L | apply T) | exact HB.out))) : w.heap.size ≤ gb655)); clear HB; have HB := n0_; have BK655 := n1_; have GW655 := n2_; have GE655 := n3_; clear n0_ n1_ n2_ n3_; clear hb hbox hg) | ((with_reducible refine gate_dst (N := 3) rfl ?_); refine box_event ?hg (N := 3) ?hd (cs := #[.slice A1_0 l1_0.length c1_0, .int .i64 a1_1]) (t := 27) ?hr ?_; (case hd => rfl); (case hg => rfl); (case hr => first | (go_simp; done) | (go_simp; rfl)); intro gb656 hg w16 hbox hb; have n0_ := G (blk_below (g := gb655) (o := .cells #[.slice A0_0 l0_0.length c0_0, .slice A0_1 l0_1.length c0_1] 39 (0, 0)) (by (with_reducible repeat (first | refine M ?_ _ | refine blk_drew ?_ | refine O ?_ _)); exact BK655.out) hb); have n1_ := G (below_step (by repeat (first | (with_reducible first | exact HB.out | apply U | apply L | apply T | refine J ?_ GE655.out) | exact HB.out)) hb); have n2_ := G (hbox); have n3_ := G ((by rw [hg]; exact (below_size (by repeat (first | (with_reducible first | exact HB.out | apply U | apply L | apply T | refine J ?_ GE655.out) | exact HB.out))) : w.heap.size ≤ gb656)); have n4_ := G ((by rw [hg]; exact (below_size (by repeat (first | (with_reducible first | exact HB.out | apply U | apply L | apply T | refine J ?_ GE655.out) | exact HB.out))) : w.heap.size ≤ gb656)); have n5_ := G ((by rw [hg]; exact Nat.ne_of_lt (blk_lt (g := gb655) (o := .cells #[.slice A0_0 l0_0.length c0_0, .slice A0_1 l0_1.length c0_1] 39 (0, 0)) (by (with_reducible repeat (first | refine M ?_ _ | refine blk_drew ?_ | refine O ?_ _)); exact BK655.out)) : gb655 ≠ gb656)); have n6_ := G ((by rw [hg]; exact Nat.ne_of_gt (blk_lt (g := gb655) (o := .cells #[.slice A0_0 l0_0.length c0_0, .slice A0_1 l0_1.length c0_1] 39 (0, 0)) (by (with_reducible repeat (first | refine M ?_ _ | refine blk_drew ?_ | refine O ?_ _)); exact BK655.out)) : gb656 ≠ gb655)); clear BK655; clear HB; have BK655 := n0_; have HB := n1_; have BK656 := n2_; have GW656 := n3_; have GE656 := n4_; have NB655_656 := n5_; have NB656_655 := n6_; clear n0_ n1_ n2_ n3_ n4_ n5_ n6_; clear hb hbox hg; have hnb17 := NB655_656.out; have hnc17 := NB656_655.out; have hcz18_0 : w16.cell? ⟨gb655, 0, none⟩ = some (.slice A0_0 l0_0.length c0_0) := (blk_cell BK655.out 0).trans rfl; have hcz18_1 : w16.cell? ⟨gb655, 1, none⟩ = some (.slice A0_1 l0_1.length c0_1) := (blk_cell BK655.out 1).trans rfl; have hfz18_0 := V BK655.out 0; have hfz18_1 := V BK655.out 1; have hcz19_0 : w16.cell? ⟨gb656, 0, none⟩ = some (.slice A1_0 l1_0.length c1_0) := (blk_cell BK656.out 0).trans rfl; have hcz19_1 : w16.cell? ⟨gb656, 1, none⟩ = some (.int .i64 a1_1) := (blk_cell BK656.out 1).trans rfl; have hfz19_0 := V BK656.out 0; have hfz19_1 := V BK656.out 1) | ((with_reducible refine gate_callee (f := 40) rfl ?_); refine goesL_ (some 8) rfl rfl Try.func40 (by kernel_rfl) rfl #[.agg #[.slice A0_0 l0_0.length c0_0, .slice A0_1 l0_1.length c0_1], .agg #[.slice A1_0 l1_0.length c1_0, .int .i64 a1_1]] rfl (by (try simp only [List.map_toArray, List.map_cons, List.map_nil]); first | done | rfl | (simp only [List.length_drop, List.length_take]; rfl)) ?_; (with_reducible refine (impl_ValidDensities.calls k _ _ l0_0 _ _ l0_1 _ _ l1_0 a1_1 false _ ?side1 ?side2 ?side3 ?side4 ?side5 ?side6 A3.out).mono ?_); (case side1 => repeat (first | exact (Kd.C_below HR0_0.out HB.out) | (with_reducible refine Kd.C_alloc ?_ _) | (with_reducible refine Kd.C_drewN ?_ _) | (with_reducible refine Kd.C_drew ?_))); (case side2 => exact HC0_0.out); (case side3 => repeat (first | exact (Kd.C_below HR0_1.out HB.out) | (with_reducible refine Kd.C_alloc ?_ _) | (with_reducible refine Kd.C_drewN ?_ _) | (with_reducible refine Kd.C_drew ?_))); (case side4 => exact HC0_1.out); (case side5 => repeat (first | exact (Kd.C_below HR1_0.out HB.out) | (with_reducible refine Kd.C_alloc ?_ _) | (with_reducible refine Kd.C_drewN ?_ _) | (with_reducible refine Kd.C_drew ?_))); (case side6 => exact HC1_0.out); rintro e w20 ⟨rfl, hb⟩; refine ⟨_, rfl, ?_⟩; have n0_ := G (blk_below (g := gb655) (o := .cells #[.slice A0_0 l0_0.length c0_0, .slice A0_1 l0_1.length c0_1] 39 (0, 0)) (by (with_reducible repeat (first | refine M ?_ _ | refine blk_drew ?_ | refine O ?_ _)); exact BK655.out) hb); have n1_ := G (blk_below (g := gb656) (o := .cells #[.slice A1_0 l1_0.length c1_0, .int .i64 a1_1] 27 (0, 0)) (by (with_reducible repeat (first | refine M ?_ _ | refine blk_drew ?_ | refine O ?_ _)); exact BK656.out) hb); have n2_ := G (below_step (by repeat (first | (with_reducible first | exact HB.out | apply U | apply L | apply T | refine J ?_ GE655.out | refine J ?_ GE656.out) | exact HB.out)) hb); clear BK655; clear BK656; clear HB; have BK655 := n0_; have BK656 := n1_; have HB := n2_; clear n0_ n1_ n2_; (try clear hb); (try clear hb2); (try clear hk); (try clear hi)))
  go_ret2
  exact ⟨_, by first | rfl | (simp [errW_none, errW_some] <;> rfl) | (simp [*, errW_none, errW_some] <;> rfl), by first | exact Kd.R_nil _ _ _ _ _ | exact Kd.N_nil _ _ _ _ _ | exact Kd.V_nil _ _ _ _ _ | exact Kd.Q_nil _ _ _ _ _ | exact Kd.S_nil _ _ _ _ _, by repeat (first | (with_reducible first | exact HB.out | apply U | apply L | apply T | refine J ?_ GE655.out | refine J ?_ GE656.out) | exact HB.out)⟩

/-! ### laws_markDensities: function 51 -/
def laws_markDensities.f (k : Nat) (l0_0 : List Int) (a0_1 : Int) (a1 : Int) : Option (Int × List Int) := (laws_markInt64S.f k l0_0 a1).bind fun bt662 => (some (bt662.1, bt662.2))
theorem laws_markDensities.mono : ∀ a0 a1 a2 k, LeO (laws_markDensities.f k a0 a1 a2) (laws_markDensities.f (k + 1) a0 a1 a2) := by
  intro a0 a1 a2 k
  unfold laws_markDensities.f
  repeat' first
      | (with_reducible exact laws_markInt64S.mono _ _ _)
      | (with_reducible exact LeO.refl _)
      | (with_reducible exact LeO.none _)
      | (with_reducible refine LeO.ite ?_ ?_)
      | (with_reducible refine LeO.bind ?_ (fun _ => ?_))
      | exact laws_markInt64S.mono _ _ _
      | exact LeO.none _
      | refine LeO.ite ?_ ?_
      | refine LeO.bind ?_ (fun _ => ?_)
set_option maxHeartbeats 8000000 in
set_option maxRecDepth 100000 in
theorem laws_markDensities.calls (k : Nat) (P0_0_ : Nat → Prop) (u9000_ : Value) (l0_0 : List Int) (a0_1 : Int) (a1 : Int) (r1 : Int) (r2 : List Int) (w0 w : World) (hB : Below w0.heap.size w0 w) (ho0_0 : Kd.R (Kd.int .i64) 2 w w0.heap.size P0_0_ u9000_ l0_0) (h : laws_markDensities.f k l0_0 a0_1 a1 = some (r1, r2)) :
    Calls Try.prog 51 #[.agg #[u9000_, .int .i64 a0_1], .int .i64 a1] w fun e w' => e = .returned (.int .i64 r1) ∧ Kd.R (Kd.int .i64) 2 w' w0.heap.size (fun k_ => (P0_0_ k_ ∨ w.heap.size ≤ k_)) u9000_ r2 ∧ Below w0.heap.size w0 w' ∧ Kept w w' (fun k_ => P0_0_ k_) := by
  have hu27 := Try.underlying27
  have HO0_0 := Aside0.mk (show Kd.R (Kd.int .i64) 2 w w0.heap.size (fun k_ => (P0_0_ k_ ∨ w.heap.size ≤ k_)) u9000_ l0_0 from Kd.R_mono ho0_0 (fun k_ hk => (.inl hk)))
  have HK := Aside0.mk (Kept.refl w (fun k_ => P0_0_ k_))
  have HW0 := Aside0.mk hB.size
  have HB := Aside0.mk hB
  clear hB
  have H : ((laws_markInt64S.f k l0_0 a1).bind fun bt662 => (some (bt662.1, bt662.2))) = some (r1, r2) := h
  clear h
  replace H := Option.bind_eq_some_iff.mp H
  obtain ⟨⟨t662, t663⟩, A30, H⟩ := H
  replace H : (some (t662, t663)) = some (r1, r2) := H
  have A3 := Aside0.mk A30
  clear A30
  simp only [Option.some.injEq, Prod.mk.injEq] at H
  obtain ⟨rfl, rfl⟩ := H
  obtain ⟨Ao4, co4, eo4⟩ := Kd.R_slice HO0_0.out
  subst eo4
  go_enter Try.func51, Try.ntmps51
  go_wp2_with (first | ((with_reducible refine gate_dst (N := 2) rfl ?_); refine box_event ?hg (N := 2) ?hd (cs := #[.slice Ao4 l0_0.length co4, .int .i64 a0_1]) (t := 27) ?hr ?_; (case hd => rfl); (case hg => rfl); (case hr => first | (go_simp; done) | (go_simp; rfl)); intro gb661 hg w5 hbox hb; have n0_ := Aside0.mk (Kd.R_below (by (with_reducible repeat (first | apply Kd.R_alloc | apply Kd.R_drewN | apply Kd.R_drew)); exact HO0_0.out) hb); have n1_ := Aside0.mk (Kept.below (S := (fun k_ => P0_0_ k_)) (by repeat (first | (with_reducible first | exact HK.out | apply Kept.alloc | apply Kept.drewN | apply Kept.drew) | exact HK.out)) hb); have n2_ := Aside0.mk (below_step (by repeat (first | (with_reducible first | exact HB.out | apply below_alloc | apply pw_below_drewN | apply below_drew1) | exact HB.out)) hb); have n3_ := Aside0.mk (hbox); have n4_ := Aside0.mk ((by rw [hg]; exact (by first | exact HK.out.1 | exact (show Kept w _ (fun k_ => P0_0_ k_) from by repeat (first | (with_reducible first | exact HK.out | apply Kept.alloc | apply Kept.drewN | apply Kept.drew) | exact HK.out)).1) : w.heap.size ≤ gb661)); have n5_ := Aside0.mk ((by rw [hg]; exact (below_size (by repeat (first | (with_reducible first | exact HB.out | apply below_alloc | apply pw_below_drewN | apply below_drew1) | exact HB.out))) : w0.heap.size ≤ gb661)); clear HO0_0; clear HK; clear HB; have HO0_0 := n0_; have HK := n1_; have HB := n2_; have BK661 := n3_; have GW661 := n4_; have GE661 := n5_; clear n0_ n1_ n2_ n3_ n4_ n5_; clear hb hbox hg; have hcz6_0 : w5.cell? ⟨gb661, 0, none⟩ = some (.slice Ao4 l0_0.length co4) := (blk_cell BK661.out 0).trans rfl; have hcz6_1 : w5.cell? ⟨gb661, 1, none⟩ = some (.int .i64 a0_1) := (blk_cell BK661.out 1).trans rfl; have hfz6_0 := blk_frozen BK661.out 0; have hfz6_1 := blk_frozen BK661.out 1) | ((with_reducible refine gate_callee (f := 37) rfl ?_); refine goesL_ (some 8) rfl rfl Try.func37 (by kernel_rfl) rfl #[.slice Ao4 l0_0.length co4, .int .i64 a1] rfl (by (try simp only [List.map_toArray, List.map_cons, List.map_nil]); first | done | rfl | (simp only [List.length_drop, List.length_take]; rfl)) ?_; (with_reducible refine (laws_markInt64S.calls k (fun k_ => some k_ = (.slice Ao4 l0_0.length co4 : Value).ownBlock) (.slice Ao4 l0_0.length co4) l0_0 a1 t662 t663 w0 _ ?side1 ?side2 A3.out).mono ?_); (case side1 => repeat (first | (with_reducible first | exact HB.out | apply below_alloc | apply pw_below_drewN | apply below_drew1 | refine below_set ?_ GE661.out) | exact HB.out)); (case side2 => exact Kd.R_tight rfl HO0_0.out); rintro e w7 ⟨rfl, hy0, hb, hkp⟩; refine ⟨_, rfl, ?_⟩; have n0_ := Aside0.mk (Kd.R_reok rfl hy0 (fun k_ e_ => HO0_0.out.1 k_ e_)); have n1_ := Aside0.mk (blk_kept (by (with_reducible repeat (first | refine blk_drewN ?_ _ | refine blk_drew ?_ | refine blk_alloc ?_ _)); exact BK661.out) hkp (fun hs_ => (fun e_ => (Kd.R_ne HO0_0.out BK661.out (by decide)) e_) hs_)); have n2_ := Aside0.mk (Kept.then_ (S := (fun k_ => P0_0_ k_)) (by repeat (first | (with_reducible first | exact HK.out | apply Kept.alloc | apply Kept.drewN | apply Kept.drew | refine Kept.setCell ?_ (.inr GW661.out) _) | exact HK.out)) hkp (fun k_ hs_ => (fun e_ => (HO0_0.out.1 k_ e_.symm)) hs_)); have n3_ := Aside0.mk (hb); clear HO0_0; clear BK661; clear HK; clear HB; have HO0_0 := n0_; have BK661 := n1_; have HK := n2_; have HB := n3_; clear n0_ n1_ n2_ n3_; (try clear hb); (try clear hkp); (try clear hy0)))
  go_ret
  exact ⟨by first | rfl | (simp [errW_none, errW_some] <;> rfl) | (simp [*, errW_none, errW_some] <;> rfl), by (with_reducible repeat (first | apply Kd.R_alloc | apply Kd.R_drewN | apply Kd.R_drew)); exact HO0_0.out, by repeat (first | (with_reducible first | exact HB.out | apply below_alloc | apply pw_below_drewN | apply below_drew1 | refine below_set ?_ GE661.out) | exact HB.out), by repeat (first | (with_reducible first | exact HK.out | apply Kept.alloc | apply Kept.drewN | apply Kept.drew | refine Kept.setCell ?_ (.inr GW661.out) _) | exact HK.out)⟩

end Go.Proofs.Ytacijlpnpkhjaaa.HFr
