-- Written by a program for this claim (the functions that the statement reaches, and that the program's code comes to them).
import Derived.Test.YtcjandlemjfojaaGreatDoorHTksx0
import Derived.Test.YtcjandlemjfojaaGreatDoorHTksx2
import Derived.Test.YtcjandlemjfojaaGreatDoorHTksx3
namespace Go.Proofs.YtcjandlemjfojaaGreatDoor.HTks
open Go.RowKit Go.Proofs.YtcjandlemjfojaaGreatDoorW.PrintWords Go.Proofs.YtcjandlemjfojaaGreatDoorW.PrintLast Go.Proofs.YtcjandlemjfojaaGreatDoorW.PrintMore
attribute [local go_sem] max2_int min2_int max_two min_two max_three min_three max_four min_four   -- for this text's walks alone
set_option linter.unusedVariables false
set_option linter.unusedSimpArgs false

/-! ### impl_PullsOf: function 10 -/
def impl_PullsOf.l0 : Nat → List Int → Int → List (S35) → Int → Int → Option (List Int × Int)
 | 0, _, _, _, _, _ => none
 | k + 1, x4, x5, x12, x13, x14 => if x14 < x13 then (if 0 ≤ x14 then (if x14 < (x12.length : Int) then (if x4.length < 17592186044416 then ((impl_partsOf.f ((rd_T35 x12 x14).f0) ((rd_T35 x12 x14).f1) ((rd_T35 x12 x14).f2)).bind fun t246 => (impl_PullsOf.l0 k (x4 ++ [x5]) (wrap64 (x5 * t246)) x12 x13 (wrap64 (x14 + 1)))) else (none)) else (none)) else (none)) else (some (x4, 0))
def impl_PullsOf.f (k : Nat) (l0 : List (S35)) : Option (List Int × Int) := (impl_ValidTackle.f k l0).bind fun t237 => (if t237 = true then (impl_PullsOf.l0 k (([] : List Int)) 1 l0 (l0.length : Int) 0) else (some (([] : List Int), 1)))
theorem impl_PullsOf.mono_l : ∀ k, (∀ y0 y1 y2 y3 y4, LeO (impl_PullsOf.l0 k y0 y1 y2 y3 y4) (impl_PullsOf.l0 (k + 1) y0 y1 y2 y3 y4))
 | 0 => fun _ _ _ _ _ r h => by simp [impl_PullsOf.l0] at h
 | k + 1 => by
  have ih0 := impl_PullsOf.mono_l k
  ·intro y0 y1 y2 y3 y4
   unfold impl_PullsOf.l0
   repeat' first
   | (with_reducible exact ih0 _ _ _ _ _)
   | (with_reducible exact impl_ValidTackle.mono _ _)
   | (with_reducible exact LeO.refl _)
   | (with_reducible exact LeO.none _)
   | (with_reducible refine LeO.ite ?_ ?_)
   | (with_reducible refine LeO.bind ?_ (fun _ => ?_))
   | exact ih0 _ _ _ _ _
   | exact impl_ValidTackle.mono _ _
   | exact LeO.none _
   | refine LeO.ite ?_ ?_
   | refine LeO.bind ?_ (fun _ => ?_)
theorem impl_PullsOf.mono : ∀ a0 k, LeO (impl_PullsOf.f k a0) (impl_PullsOf.f (k + 1) a0) := by
 intro a0 k
 have ih0 := impl_PullsOf.mono_l k
 unfold impl_PullsOf.f
 repeat' first
   | (with_reducible exact ih0 _ _ _ _ _)
   | (with_reducible exact impl_ValidTackle.mono _ _)
   | (with_reducible exact LeO.refl _)
   | (with_reducible exact LeO.none _)
   | (with_reducible refine LeO.ite ?_ ?_)
   | (with_reducible refine LeO.bind ?_ (fun _ => ?_))
   | exact ih0 _ _ _ _ _
   | exact impl_ValidTackle.mono _ _
   | exact LeO.none _
   | refine LeO.ite ?_ ?_
   | refine LeO.bind ?_ (fun _ => ?_)
set_option maxHeartbeats 8000000 in
set_option maxRecDepth 100000 in
theorem impl_PullsOf.calls (k : Nat) (A0 : Option Addr) (c0 : Nat) (l0 : List (S35)) (r1 : List Int) (r2 : Int) (w : World) (hr0 : Kd.C k35 w A0 l0.length l0) (hc0 : l0.length ≤ c0) (h : impl_PullsOf.f k l0 = some (r1, r2)) :
  Calls Tryz.prog 10 #[.slice A0 l0.length c0] w fun e w' => ∃ v0_ : Value, e = .returned (.tuple #[v0_, .int .i64 r2]) ∧ Kd.R (Kd.int .i64) 2 w' w.heap.size (fun _ => True) v0_ r1 ∧ Below w.heap.size w w' := by
 have hu35 := Tryz.underlying35; have HR0 := A' hr0; have HC0 := A' hc0; clear hr0 hc0; have HB := A' (Below.refl w.heap.size w); have H : ((impl_ValidTackle.f k l0).bind fun t237 => (if t237 = true then (impl_PullsOf.l0 k (([] : List Int)) 1 l0 (l0.length : Int) 0) else (some (([] : List Int), 1)))) = some (r1, r2) := h; clear h; replace H := Option.bind_eq_some_iff.mp H; obtain ⟨t237, A20, H⟩ := H; replace H : (if t237 = true then (impl_PullsOf.l0 k (([] : List Int)) 1 l0 (l0.length : Int) 0) else (some (([] : List Int), 1))) = some (r1, r2) := H; have A2 := A' A20; clear A20
 by_cases c3 : t237 = true
 ·subst c3; have H1 : (impl_PullsOf.l0 k (([] : List Int)) 1 l0 (l0.length : Int) 0) = some (r1, r2) := by rw [if_pos rfl] at H; exact H
  clear H; have H := H1; clear H1; obtain ⟨y238, hy238⟩ : ∃ y_ : List Int, y_ = (([] : List Int)) := ⟨_, rfl⟩
  replace H : (impl_PullsOf.l0 k y238 1 l0 (l0.length : Int) 0) = some (r1, r2) := by first | (rw [hy238]; with_reducible exact H) | (have H2_ := (Option.bind_some _ _).symm.trans H; rw [hy238]; with_reducible exact H2_) | (have H2_ := (Option.bind_some _ _).symm.trans H; with_reducible exact H2_) | with_reducible exact H | (rw [hy238]; exact H) | exact H
  have Ny238 := A' hy238; clear hy238; have H' := A' H; clear H; go_enter Tryz.func10, Tryz.ntmps10; go_wp2_with (first | ((with_reducible refine gate_callee (f := 28) rfl ?_); refine goesL_ (some 9) rfl rfl Tryz.func28 (by kernel_rfl) rfl #[.slice A0 l0.length c0] rfl (by (try simp only [List.map_toArray, List.map_cons, List.map_nil]); first | done | rfl | (simp only [List.length_drop, List.length_take]; rfl)) ?_; (with_reducible refine (impl_ValidTackle.calls k _ _ l0 true _ ?side1 ?side2 A2.out).mono ?_); (case side1 => exact qT HR0.out); (case side2 => exact HC0.out); rintro e w4 ⟨rfl, hb⟩; refine ⟨_, rfl, ?_⟩; have n0_ := A' (W' (qK0 HB.out) hb); clear HB; have HB := n0_; clear n0_; (try clear hb); (try clear hb2); (try clear hk); (try clear hi)) | ((with_reducible refine gate_dst (N := 11) rfl ?_); refine Kd.R_lit (Kd.int .i64) _ 2 ?hg (N := 11) ?hd (xs := ([] : List Int)) (inner := []) (ok := fun _ => True) (okp := fun _ => True) ?hr ?hp (fun _ hk => hk) trivial (Below.refl _ _) (Nat.le_refl _) (by simp) ?_; (case hd => rfl); (case hg => rfl); (case hr => first | (go_simp; done) | (go_simp; rfl)); (case hp => exact (Reps.none _ _)); intro v239 w5 ho6 hb hg_ hnew_; clear hg_ hnew_; (first | rw [← Ny238.out] at ho6 | (simp only [Int.reduceToNat] at ho6; rw [← Ny238.out] at ho6)); have n0_ := A' (Kd.R_lower ho6 (V' (qK0 HB.out))); have n1_ := A' (W' (qK0 HB.out) hb); clear HB; have HO240 := n0_; have HB := n1_; clear n0_ n1_; clear hb ho6))
  go_loopg [4, 5, 14] k (fun kq v4 v5 v14 w' => ∃ (x4_1 : List Int) (x5_1 : Int) (x14_1 : Int), v5 = .int .i64 x5_1 ∧ v14 = .int .i64 x14_1 ∧ Aside0 (impl_PullsOf.l0 kq x4_1 x5_1 l0 (l0.length : Int) x14_1 = some (r1, r2)) ∧ Aside0 (kq ≤ k) ∧ Aside0 (Kd.R (Kd.int .i64) 2 w' w.heap.size (fun _ => True) v4 x4_1) ∧ Aside0 (Below w.heap.size w w'))
  case atStart => exact ⟨(y238), (1), (0), qS, qS, H', ⟨Nat.le_refl _⟩, ⟨qR HO240.out⟩, ⟨qK0 HB.out⟩⟩
  case round =>
   clear H'; try clear c1
   try clear c2
   try clear p2
   try clear c3
   obtain ⟨x4_1, x5_1, x14_1, rfl, rfl, HA, HK1, HO_4, HB⟩ := hrel
   cases gk with
   | zero => exact absurd HA.out (by simp [impl_PullsOf.l0])
   | succ k1 =>
    have H := HA.out; clear HA; simp only [impl_PullsOf.l0] at H
    by_cases c7 : x14_1 < (l0.length : Int)
    ·rw [if_pos c7] at H; have c7b0 : decide (x14_1 < (l0.length : Int)) = true := dT' c7; clear c7
     by_cases c8 : 0 ≤ x14_1
     ·rw [if_pos c8] at H; have c8b0 : decide (0 ≤ x14_1) = true := dT' c8; clear c8
      by_cases c9 : x14_1 < (l0.length : Int)
      ·rw [if_pos c9] at H; have c9b0 : decide (x14_1 < (l0.length : Int)) = true := dT' c9; clear c9
       by_cases c10 : x4_1.length < 17592186044416
       ·rw [if_pos c10] at H; have LMc10 := A' c10; clear c10; obtain ⟨y243, hy243⟩ : ∃ y_ : List Int, y_ = (x4_1 ++ [x5_1]) := ⟨_, rfl⟩
        replace H : ((impl_partsOf.f ((rd_T35 l0 x14_1).f0) ((rd_T35 l0 x14_1).f1) ((rd_T35 l0 x14_1).f2)).bind fun t246 => (impl_PullsOf.l0 k1 y243 (wrap64 (x5_1 * t246)) l0 (l0.length : Int) (wrap64 (x14_1 + 1)))) = some (r1, r2) := by first | (rw [hy243]; with_reducible exact H) | (have H2_ := (Option.bind_some _ _).symm.trans H; rw [hy243]; with_reducible exact H2_) | (have H2_ := (Option.bind_some _ _).symm.trans H; with_reducible exact H2_) | with_reducible exact H | (rw [hy243]; exact H) | exact H
        have Ny243 := A' hy243; clear hy243; replace H := Option.bind_eq_some_iff.mp H; obtain ⟨t246, A110, H⟩ := H; replace H : (impl_PullsOf.l0 k1 y243 (wrap64 (x5_1 * t246)) l0 (l0.length : Int) (wrap64 (x14_1 + 1))) = some (r1, r2) := H; have A11 := A' A110; clear A110; have H' := A' H; clear H; have p241 : 0 ≤ (x14_1 : Int) := oD' qA; have q241 : x14_1 < (l0.length : Int) := oD' qA; obtain ⟨ad241, e241, hx241_0, hx241_1, hx241_2⟩ := at_T35 HR0.out x14_1 p241 q241
        cases e241
        try replace hx241_0 := qC HB.out hx241_0
        try replace hx241_1 := qC HB.out hx241_1
        try replace hx241_2 := qC HB.out hx241_2
        replace p241 := eq_true p241; replace q241 := eq_true q241; go_wp2_with (first | ((with_reducible refine gate_dst (N := 7) rfl ?_); refine box_event ?hg (N := 7) ?hd (cs := #[.int .i64 0, .int .i64 0, .bool false]) (t := 35) ?hr ?_; (case hd => rfl); (case hg => rfl); (case hr => first | (go_simp; done) | (go_simp; rfl)); intro gb242 hg w12 hbox hb; have n0_ := A' (L' (qR HO_4.out) hb); have n1_ := A' (W' (qK0 HB.out) hb); have n2_ := A' (hbox); have n3_ := A' ((by rw [hg]; exact (V' (qK0 HB.out)) : w.heap.size ≤ gb242)); have n4_ := A' ((by rw [hg]; exact (V' (qK0 HB.out)) : w.heap.size ≤ gb242)); clear HO_4; clear HB; have HO_4 := n0_; have HB := n1_; have BK242 := n2_; have GW242 := n3_; have GE242 := n4_; clear n0_ n1_ n2_ n3_ n4_; clear hb hbox hg; have hcz13_0 : w12.cell? ⟨gb242, 0, none⟩ = some (.int .i64 0) := (N' BK242.out 0).trans rfl; have hcz13_1 : w12.cell? ⟨gb242, 1, none⟩ = some (.int .i64 0) := (N' BK242.out 1).trans rfl; have hcz13_2 : w12.cell? ⟨gb242, 2, none⟩ = some (.bool false) := (N' BK242.out 2).trans rfl; have hfz13_0 := Y' BK242.out 0; have hfz13_1 := Y' BK242.out 1; have hfz13_2 := Y' BK242.out 2) | ((with_reducible refine gate_builtin (b := .append) (xs := #[.tmp 18, .tmp 20]) rfl ?_); at_builtin; refine Kd.R_append (Kd.int .i64) (w0 := w) w.heap.size rfl (.tmp 18) (.tmp 20) 30 2 (.int .i64 0) 8 rfl Tryz.underlying30 info2 rfl (by decide) (by omega) u4 x4_1 x5_1 [.int .i64 x5_1] (fun _ => True) (fun _ => False) rfl (by first | (go_simp; done) | (go_simp; rfl)) ?aP (fun _ hk => hk.elim) ?aF ?aO ?aB ?aS ?aL ?_; (case aP => exact rfl); (case aB => exact (qK1 HB.out GE242.out)); (case aF => exact (fun _ _ => trivial)); (case aO => exact (by (with_reducible repeat (first | apply B' | apply C' | apply D')); exact Q' (M' (p := ⟨gb242, 2, none⟩) (M' (p := ⟨gb242, 1, none⟩) (M' (p := ⟨gb242, 0, none⟩) (P' HO_4.out BK242.out (by decide)) (fun _ hk => hk.2) (.int .i64 ((rd_T35 l0 x14_1).f0))) (fun _ hk => hk.2) (.int .i64 ((rd_T35 l0 x14_1).f1))) (fun _ hk => hk.2) (.bool ((rd_T35 l0 x14_1).f2))) (fun _ hk => trivial))); (case aS => exact (V' (qK1 HB.out GE242.out))); (case aL => have := LMc10.out; omega); intro v244 w14 ho hb hg hat; rw [← Ny243.out] at ho; have n0_ := A' (blk_grown (g := gb242) (o := .cells #[.int .i64 ((rd_T35 l0 x14_1).f0), .int .i64 ((rd_T35 l0 x14_1).f1), .bool ((rd_T35 l0 x14_1).f2)] 35 (0, 0)) (by (with_reducible repeat (first | refine G' ?_ _ | refine I' ?_ | refine hA' ?_ _)); refine blk_put (cs := #[.int .i64 ((rd_T35 l0 x14_1).f0), .int .i64 ((rd_T35 l0 x14_1).f1), .bool false]) ?_ 2 _ rfl; (with_reducible repeat (first | refine G' ?_ _ | refine I' ?_ | refine hA' ?_ _)); refine blk_put (cs := #[.int .i64 ((rd_T35 l0 x14_1).f0), .int .i64 0, .bool false]) ?_ 1 _ rfl; (with_reducible repeat (first | refine G' ?_ _ | refine I' ?_ | refine hA' ?_ _)); refine blk_put (cs := #[.int .i64 0, .int .i64 0, .bool false]) ?_ 0 _ rfl; (with_reducible repeat (first | refine G' ?_ _ | refine I' ?_ | refine hA' ?_ _)); exact BK242.out) hg (Kd.R_ne HO_4.out BK242.out (by decide))); have n1_ := A' (hb); have n2_ := A' (ho); clear BK242; clear HB; clear HO_4; have BK242 := n0_; have HB := n1_; have HO245 := n2_; clear n0_ n1_ n2_; clear ho hb hg hat; have hcz15_0 : w14.cell? ⟨gb242, 0, none⟩ = some (.int .i64 ((rd_T35 l0 x14_1).f0)) := (N' BK242.out 0).trans rfl; have hcz15_1 : w14.cell? ⟨gb242, 1, none⟩ = some (.int .i64 ((rd_T35 l0 x14_1).f1)) := (N' BK242.out 1).trans rfl; have hcz15_2 : w14.cell? ⟨gb242, 2, none⟩ = some (.bool ((rd_T35 l0 x14_1).f2)) := (N' BK242.out 2).trans rfl; have hfz15_0 := Y' BK242.out 0; have hfz15_1 := Y' BK242.out 1; have hfz15_2 := Y' BK242.out 2) | ((with_reducible refine gate_callee (f := 40) rfl ?_); refine goesL_ (some 24) rfl rfl Tryz.func40 (by kernel_rfl) rfl #[.agg #[.int .i64 ((rd_T35 l0 x14_1).f0), .int .i64 ((rd_T35 l0 x14_1).f1), .bool ((rd_T35 l0 x14_1).f2)]] rfl (by (try simp only [List.map_toArray, List.map_cons, List.map_nil]); first | done | rfl | (simp only [List.length_drop, List.length_take]; rfl)) ?_; (with_reducible refine (impl_partsOf.calls ((rd_T35 l0 x14_1).f0) ((rd_T35 l0 x14_1).f1) ((rd_T35 l0 x14_1).f2) t246 _ A11.out).mono ?_); rintro e w16 ⟨rfl, hb⟩; refine ⟨_, rfl, ?_⟩; have n0_ := A' (L' (qR HO245.out) hb); have n1_ := A' (O' (g := gb242) (qB BK242.out) hb); have n2_ := A' (W' (qK1 HB.out GE242.out) hb); clear HO245; clear BK242; clear HB; have HO245 := n0_; have BK242 := n1_; have HB := n2_; clear n0_ n1_ n2_; (try clear hb); (try clear hb2); (try clear hk); (try clear hi)))
        go_roundg k1
        case measure => have := HK1.out; omega
        case rel => exact ⟨(y243), (wrap64 (x5_1 * t246)), (wrap64 (x14_1 + 1)), qS, qS, H', ⟨by have := HK1.out; omega⟩, ⟨qR HO245.out⟩, ⟨qK1 HB.out GE242.out⟩⟩
       ·rw [if_neg c10] at H; exact absurd H (by simp)
      ·rw [if_neg c9] at H; exact absurd H (by simp)
     ·rw [if_neg c8] at H; exact absurd H (by simp)
    ·rw [if_neg c7] at H; have c7b0 : decide (x14_1 < (l0.length : Int)) = false := dF' c7; clear c7; simp only [Option.some.injEq, Prod.mk.injEq] at H; obtain ⟨rfl, rfl⟩ := H; go_wp2; go_ret2; exact ⟨_, qE, qR HO_4.out, qK0 HB.out⟩
 ·replace c3 := Bool.eq_false_iff.mpr c3; subst c3; have H1 : (some (([] : List Int), 1)) = some (r1, r2) := by rw [if_neg (show ¬ (false = true) by decide)] at H; exact H
  clear H; have H := H1; clear H1; simp only [Option.some.injEq, Prod.mk.injEq] at H; obtain ⟨rfl, rfl⟩ := H; go_enter Tryz.func10, Tryz.ntmps10; go_wp2_with (first | ((with_reducible refine gate_callee (f := 28) rfl ?_); refine goesL_ (some 9) rfl rfl Tryz.func28 (by kernel_rfl) rfl #[.slice A0 l0.length c0] rfl (by (try simp only [List.map_toArray, List.map_cons, List.map_nil]); first | done | rfl | (simp only [List.length_drop, List.length_take]; rfl)) ?_; (with_reducible refine (impl_ValidTackle.calls k _ _ l0 false _ ?side1 ?side2 A2.out).mono ?_); (case side1 => exact qT HR0.out); (case side2 => exact HC0.out); rintro e w17 ⟨rfl, hb⟩; refine ⟨_, rfl, ?_⟩; have n0_ := A' (W' (qK0 HB.out) hb); clear HB; have HB := n0_; clear n0_; (try clear hb); (try clear hb2); (try clear hk); (try clear hi))); go_ret2; exact ⟨_, qE, by first | exact Kd.R_nil _ _ _ _ _ | exact Kd.N_nil _ _ _ _ _ | exact Kd.V_nil _ _ _ _ _ | exact Kd.Q_nil _ _ _ _ _ | exact Kd.S_nil _ _ _ _ _, qK0 HB.out⟩

/-! ### spec_PullsOf: function 11 -/
def spec_PullsOf.l0 : Nat → List (S35) → List Int → Int → Int → Option (List Int × Int)
 | 0, _, _, _, _ => none
 | k + 1, x0, x4, x5, x6 => if x6 < (x0.length : Int) then (if x4.length < 17592186044416 then (if 0 ≤ x6 then ((spec_l05Parts_at.f ((rd_T35 x0 x6).f0) ((rd_T35 x0 x6).f1) ((rd_T35 x0 x6).f2)).bind fun t255 => (spec_PullsOf.l0 k x0 (x4 ++ [x5]) (wrap64 (x5 * t255)) (wrap64 (x6 + 1)))) else (none)) else (none)) else (some (x4, 0))
def spec_PullsOf.f (k : Nat) (l0 : List (S35)) : Option (List Int × Int) := (spec_l05Ok.f k l0).bind fun t247 => (if t247 = true then (spec_PullsOf.l0 k l0 (([] : List Int)) 1 0) else (some (([] : List Int), 1)))
theorem spec_PullsOf.mono_l : ∀ k, (∀ y0 y1 y2 y3, LeO (spec_PullsOf.l0 k y0 y1 y2 y3) (spec_PullsOf.l0 (k + 1) y0 y1 y2 y3))
 | 0 => fun _ _ _ _ r h => by simp [spec_PullsOf.l0] at h
 | k + 1 => by
  have ih0 := spec_PullsOf.mono_l k
  ·intro y0 y1 y2 y3
   unfold spec_PullsOf.l0
   repeat' first
   | (with_reducible exact ih0 _ _ _ _)
   | (with_reducible exact spec_l05Ok.mono _ _)
   | (with_reducible exact LeO.refl _)
   | (with_reducible exact LeO.none _)
   | (with_reducible refine LeO.ite ?_ ?_)
   | (with_reducible refine LeO.bind ?_ (fun _ => ?_))
   | exact ih0 _ _ _ _
   | exact spec_l05Ok.mono _ _
   | exact LeO.none _
   | refine LeO.ite ?_ ?_
   | refine LeO.bind ?_ (fun _ => ?_)
theorem spec_PullsOf.mono : ∀ a0 k, LeO (spec_PullsOf.f k a0) (spec_PullsOf.f (k + 1) a0) := by
 intro a0 k
 have ih0 := spec_PullsOf.mono_l k
 unfold spec_PullsOf.f
 repeat' first
   | (with_reducible exact ih0 _ _ _ _)
   | (with_reducible exact spec_l05Ok.mono _ _)
   | (with_reducible exact LeO.refl _)
   | (with_reducible exact LeO.none _)
   | (with_reducible refine LeO.ite ?_ ?_)
   | (with_reducible refine LeO.bind ?_ (fun _ => ?_))
   | exact ih0 _ _ _ _
   | exact spec_l05Ok.mono _ _
   | exact LeO.none _
   | refine LeO.ite ?_ ?_
   | refine LeO.bind ?_ (fun _ => ?_)
set_option maxHeartbeats 8000000 in
set_option maxRecDepth 100000 in
theorem spec_PullsOf.calls (k : Nat) (A0 : Option Addr) (c0 : Nat) (l0 : List (S35)) (r1 : List Int) (r2 : Int) (w : World) (hr0 : Kd.C k35 w A0 l0.length l0) (hc0 : l0.length ≤ c0) (h : spec_PullsOf.f k l0 = some (r1, r2)) :
  Calls Tryz.prog 11 #[.slice A0 l0.length c0] w fun e w' => ∃ v0_ : Value, e = .returned (.tuple #[v0_, .int .i64 r2]) ∧ Kd.R (Kd.int .i64) 2 w' w.heap.size (fun _ => True) v0_ r1 ∧ Below w.heap.size w w' := by
 have HR0 := A' hr0; have HC0 := A' hc0; clear hr0 hc0; have HB := A' (Below.refl w.heap.size w); have H : ((spec_l05Ok.f k l0).bind fun t247 => (if t247 = true then (spec_PullsOf.l0 k l0 (([] : List Int)) 1 0) else (some (([] : List Int), 1)))) = some (r1, r2) := h; clear h; replace H := Option.bind_eq_some_iff.mp H; obtain ⟨t247, A20, H⟩ := H; replace H : (if t247 = true then (spec_PullsOf.l0 k l0 (([] : List Int)) 1 0) else (some (([] : List Int), 1))) = some (r1, r2) := H; have A2 := A' A20; clear A20
 by_cases c3 : t247 = true
 ·subst c3; have H1 : (spec_PullsOf.l0 k l0 (([] : List Int)) 1 0) = some (r1, r2) := by rw [if_pos rfl] at H; exact H
  clear H; have H := H1; clear H1; obtain ⟨y248, hy248⟩ : ∃ y_ : List Int, y_ = (([] : List Int)) := ⟨_, rfl⟩
  replace H : (spec_PullsOf.l0 k l0 y248 1 0) = some (r1, r2) := by first | (rw [hy248]; with_reducible exact H) | (have H2_ := (Option.bind_some _ _).symm.trans H; rw [hy248]; with_reducible exact H2_) | (have H2_ := (Option.bind_some _ _).symm.trans H; with_reducible exact H2_) | with_reducible exact H | (rw [hy248]; exact H) | exact H
  have Ny248 := A' hy248; clear hy248; have H' := A' H; clear H; go_enter Tryz.func11, Tryz.ntmps11; go_wp2_with (first | ((with_reducible refine gate_callee (f := 37) rfl ?_); refine goesL_ (some 8) rfl rfl Tryz.func37 (by kernel_rfl) rfl #[.slice A0 l0.length c0] rfl (by (try simp only [List.map_toArray, List.map_cons, List.map_nil]); first | done | rfl | (simp only [List.length_drop, List.length_take]; rfl)) ?_; (with_reducible refine (spec_l05Ok.calls k _ _ l0 true _ ?side1 ?side2 A2.out).mono ?_); (case side1 => exact qT HR0.out); (case side2 => exact HC0.out); rintro e w4 ⟨rfl, hb⟩; refine ⟨_, rfl, ?_⟩; have n0_ := A' (W' (qK0 HB.out) hb); clear HB; have HB := n0_; clear n0_; (try clear hb); (try clear hb2); (try clear hk); (try clear hi)) | ((with_reducible refine gate_dst (N := 10) rfl ?_); refine Kd.R_lit (Kd.int .i64) _ 2 ?hg (N := 10) ?hd (xs := ([] : List Int)) (inner := []) (ok := fun _ => True) (okp := fun _ => True) ?hr ?hp (fun _ hk => hk) trivial (Below.refl _ _) (Nat.le_refl _) (by simp) ?_; (case hd => rfl); (case hg => rfl); (case hr => first | (go_simp; done) | (go_simp; rfl)); (case hp => exact (Reps.none _ _)); intro v249 w5 ho6 hb hg_ hnew_; clear hg_ hnew_; (first | rw [← Ny248.out] at ho6 | (simp only [Int.reduceToNat] at ho6; rw [← Ny248.out] at ho6)); have n0_ := A' (Kd.R_lower ho6 (V' (qK0 HB.out))); have n1_ := A' (W' (qK0 HB.out) hb); clear HB; have HO250 := n0_; have HB := n1_; clear n0_ n1_; clear hb ho6))
  go_loopg [4, 5, 6] k (fun kq v4 v5 v6 w' => ∃ (x4_1 : List Int) (x5_1 : Int) (x6_1 : Int), v5 = .int .i64 x5_1 ∧ v6 = .int .i64 x6_1 ∧ Aside0 (spec_PullsOf.l0 kq l0 x4_1 x5_1 x6_1 = some (r1, r2)) ∧ Aside0 (kq ≤ k) ∧ Aside0 (Kd.R (Kd.int .i64) 2 w' w.heap.size (fun _ => True) v4 x4_1) ∧ Aside0 (Below w.heap.size w w'))
  case atStart => exact ⟨(y248), (1), (0), qS, qS, H', ⟨Nat.le_refl _⟩, ⟨qR HO250.out⟩, ⟨qK0 HB.out⟩⟩
  case round =>
   clear H'; try clear c1
   try clear p2
   try clear c3
   obtain ⟨x4_1, x5_1, x6_1, rfl, rfl, HA, HK1, HO_4, HB⟩ := hrel
   cases gk with
   | zero => exact absurd HA.out (by simp [spec_PullsOf.l0])
   | succ k1 =>
    have H := HA.out; clear HA; simp only [spec_PullsOf.l0] at H
    by_cases c7 : x6_1 < (l0.length : Int)
    ·rw [if_pos c7] at H; have c7b0 : decide (x6_1 < (l0.length : Int)) = true := dT' c7; clear c7
     by_cases c8 : x4_1.length < 17592186044416
     ·rw [if_pos c8] at H; have LMc8 := A' c8; clear c8; obtain ⟨y251, hy251⟩ : ∃ y_ : List Int, y_ = (x4_1 ++ [x5_1]) := ⟨_, rfl⟩
      replace H : (if 0 ≤ x6_1 then ((spec_l05Parts_at.f ((rd_T35 l0 x6_1).f0) ((rd_T35 l0 x6_1).f1) ((rd_T35 l0 x6_1).f2)).bind fun t255 => (spec_PullsOf.l0 k1 l0 y251 (wrap64 (x5_1 * t255)) (wrap64 (x6_1 + 1)))) else (none)) = some (r1, r2) := by first | (rw [hy251]; with_reducible exact H) | (have H2_ := (Option.bind_some _ _).symm.trans H; rw [hy251]; with_reducible exact H2_) | (have H2_ := (Option.bind_some _ _).symm.trans H; with_reducible exact H2_) | with_reducible exact H | (rw [hy251]; exact H) | exact H
      have Ny251 := A' hy251; clear hy251
      by_cases c9 : 0 ≤ x6_1
      ·rw [if_pos c9] at H; have c9b0 : decide (0 ≤ x6_1) = true := dT' c9; clear c9; replace H := Option.bind_eq_some_iff.mp H; obtain ⟨t255, A100, H⟩ := H; replace H : (spec_PullsOf.l0 k1 l0 y251 (wrap64 (x5_1 * t255)) (wrap64 (x6_1 + 1))) = some (r1, r2) := H; have A10 := A' A100; clear A100; have H' := A' H; clear H; go_wp2_with (first | ((with_reducible refine gate_builtin (b := .append) (xs := #[.tmp 17, .tmp 19]) rfl ?_); at_builtin; refine Kd.R_append (Kd.int .i64) (w0 := w) w.heap.size rfl (.tmp 17) (.tmp 19) 30 2 (.int .i64 0) 8 rfl Tryz.underlying30 info2 rfl (by decide) (by omega) u4 x4_1 x5_1 [.int .i64 x5_1] (fun _ => True) (fun _ => False) rfl rfl ?aP (fun _ hk => hk.elim) ?aF ?aO ?aB ?aS ?aL ?_; (case aP => exact rfl); (case aB => exact (qK0 HB.out)); (case aF => exact (fun _ _ => trivial)); (case aO => exact (qR HO_4.out)); (case aS => exact (V' (qK0 HB.out))); (case aL => have := LMc8.out; omega); intro v252 w11 ho hb hg hat; rw [← Ny251.out] at ho; have n0_ := A' (hb); have n1_ := A' (ho); clear HB; clear HO_4; have HB := n0_; have HO253 := n1_; clear n0_ n1_; clear ho hb hg hat; have p254 : 0 ≤ (x6_1 : Int) := oD' qA; have q254 : x6_1 < (l0.length : Int) := oD' qA; obtain ⟨ad254, e254, hx254_0, hx254_1, hx254_2⟩ := at_T35 HR0.out x6_1 p254 q254; cases e254; try replace hx254_0 := qC HB.out hx254_0; try replace hx254_1 := qC HB.out hx254_1; try replace hx254_2 := qC HB.out hx254_2; replace p254 := eq_true p254; replace q254 := eq_true q254) | ((with_reducible refine gate_callee (f := 41) rfl ?_); refine goesL_ (some 25) rfl rfl Tryz.func41 (by kernel_rfl) rfl #[.pointer (some (ad254.add ((x6_1).toNat * 3)))] rfl (by (try simp only [List.map_toArray, List.map_cons, List.map_nil]); first | done | rfl | (simp only [List.length_drop, List.length_take]; rfl)) ?_; (with_reducible refine (spec_l05Parts_at.calls _ ((rd_T35 l0 x6_1).f0) ((rd_T35 l0 x6_1).f1) ((rd_T35 l0 x6_1).f2) t255 _ ?side1 A10.out).mono ?_); (case side1 => exact ⟨hx254_0, hx254_1, hx254_2⟩); rintro e w12 ⟨rfl, hb⟩; refine ⟨_, rfl, ?_⟩; have n0_ := A' (L' (qR HO253.out) hb); have n1_ := A' (W' (qK0 HB.out) hb); clear HO253; clear HB; have HO253 := n0_; have HB := n1_; clear n0_ n1_; (try clear hb); (try clear hb2); (try clear hk); (try clear hi)))
       go_roundg k1
       case measure => have := HK1.out; omega
       case rel => exact ⟨(y251), (wrap64 (x5_1 * t255)), (wrap64 (x6_1 + 1)), qS, qS, H', ⟨by have := HK1.out; omega⟩, ⟨qR HO253.out⟩, ⟨qK0 HB.out⟩⟩
      ·rw [if_neg c9] at H; exact absurd H (by simp)
     ·rw [if_neg c8] at H; exact absurd H (by simp)
    ·rw [if_neg c7] at H; have c7b0 : decide (x6_1 < (l0.length : Int)) = false := dF' c7; clear c7; simp only [Option.some.injEq, Prod.mk.injEq] at H; obtain ⟨rfl, rfl⟩ := H; go_wp2; go_ret2; exact ⟨_, qE, qR HO_4.out, qK0 HB.out⟩
 ·replace c3 := Bool.eq_false_iff.mpr c3; subst c3; have H1 : (some (([] : List Int), 1)) = some (r1, r2) := by rw [if_neg (show ¬ (false = true) by decide)] at H; exact H
  clear H; have H := H1; clear H1; simp only [Option.some.injEq, Prod.mk.injEq] at H; obtain ⟨rfl, rfl⟩ := H; go_enter Tryz.func11, Tryz.ntmps11; go_wp2_with (first | ((with_reducible refine gate_callee (f := 37) rfl ?_); refine goesL_ (some 8) rfl rfl Tryz.func37 (by kernel_rfl) rfl #[.slice A0 l0.length c0] rfl (by (try simp only [List.map_toArray, List.map_cons, List.map_nil]); first | done | rfl | (simp only [List.length_drop, List.length_take]; rfl)) ?_; (with_reducible refine (spec_l05Ok.calls k _ _ l0 false _ ?side1 ?side2 A2.out).mono ?_); (case side1 => exact qT HR0.out); (case side2 => exact HC0.out); rintro e w13 ⟨rfl, hb⟩; refine ⟨_, rfl, ?_⟩; have n0_ := A' (W' (qK0 HB.out) hb); clear HB; have HB := n0_; clear n0_; (try clear hb); (try clear hb2); (try clear hk); (try clear hi))); go_ret2; exact ⟨_, qE, by first | exact Kd.R_nil _ _ _ _ _ | exact Kd.N_nil _ _ _ _ _ | exact Kd.V_nil _ _ _ _ _ | exact Kd.Q_nil _ _ _ _ _ | exact Kd.S_nil _ _ _ _ _, qK0 HB.out⟩

/-! ### spec_DrawRopeLengths: function 12 -/
def spec_DrawRopeLengths.f (k : Nat) (l0 : List Int) : Option ((List (S35)) × Int) := (spec_l05With.f k l0).bind fun bt256 => (some (bt256.1, bt256.2))
theorem spec_DrawRopeLengths.mono : ∀ a0 k, LeO (spec_DrawRopeLengths.f k a0) (spec_DrawRopeLengths.f (k + 1) a0) := by
 intro a0 k
 unfold spec_DrawRopeLengths.f
 repeat' first
   | (with_reducible exact spec_l05With.mono _ _)
   | (with_reducible exact LeO.refl _)
   | (with_reducible exact LeO.none _)
   | (with_reducible refine LeO.ite ?_ ?_)
   | (with_reducible refine LeO.bind ?_ (fun _ => ?_))
   | exact spec_l05With.mono _ _
   | exact LeO.none _
   | refine LeO.ite ?_ ?_
   | refine LeO.bind ?_ (fun _ => ?_)
set_option maxHeartbeats 8000000 in
set_option maxRecDepth 100000 in
theorem spec_DrawRopeLengths.calls (k : Nat) (A0 : Option Addr) (c0 : Nat) (l0 : List Int) (r1 : List (S35)) (r2 : Int) (w : World) (hr0 : Kd.C (Kd.int .u8) w A0 l0.length l0) (hc0 : l0.length ≤ c0) (h : spec_DrawRopeLengths.f k l0 = some (r1, r2)) :
  Calls Tryz.prog 12 #[.slice A0 l0.length c0] w fun e w' => ∃ v0_ : Value, e = .returned (.tuple #[v0_, .int .i64 r2]) ∧ Kd.R k35 35 w' w.heap.size (fun _ => True) v0_ r1 ∧ Below w.heap.size w w' := by
 have HR0 := A' hr0; have HC0 := A' hc0; clear hr0 hc0; have HB := A' (Below.refl w.heap.size w); have H : ((spec_l05With.f k l0).bind fun bt256 => (some (bt256.1, bt256.2))) = some (r1, r2) := h; clear h; replace H := Option.bind_eq_some_iff.mp H; obtain ⟨⟨t256, t257⟩, A20, H⟩ := H; replace H : (some (t256, t257)) = some (r1, r2) := H; have A2 := A' A20; clear A20; simp only [Option.some.injEq, Prod.mk.injEq] at H; obtain ⟨rfl, rfl⟩ := H; go_enter Tryz.func12, Tryz.ntmps12; go_wp2_with (first | ((with_reducible refine gate_callee (f := 34) rfl ?_); refine goesL_ (some 5) rfl rfl Tryz.func34 (by kernel_rfl) rfl #[.slice A0 l0.length c0] rfl (by (try simp only [List.map_toArray, List.map_cons, List.map_nil]); first | done | rfl | (simp only [List.length_drop, List.length_take]; rfl)) ?_; (with_reducible refine (spec_l05With.calls k _ _ l0 t256 t257 _ ?side1 ?side2 A2.out).mono ?_); (case side1 => exact qT HR0.out); (case side2 => exact HC0.out); rintro e w3 ⟨v258, rfl, ho0, hb⟩; refine ⟨_, rfl, ?_⟩; have n0_ := A' (Kd.R_lower ho0 (V' (qK0 HB.out))); have n1_ := A' (W' (qK0 HB.out) hb); clear HB; have HO259 := n0_; have HB := n1_; clear n0_ n1_; (try clear hb); (try clear hb2); (try clear hk); (try clear hi); (try clear ho0))); go_ret2; exact ⟨_, qE, qR HO259.out, qK0 HB.out⟩

/-! ### impl_RopeLengths: function 13 -/
def impl_RopeLengths.l0 : Nat → List (S35) → List Int → Int → Int → Option (List Int × Int)
 | 0, _, _, _, _ => none
 | k + 1, x0, x6, x7, x8 => if x8 ≥ 0 then (if 0 ≤ x8 then (if x8 < (x0.length : Int) then (if x8 < (x6.length : Int) then ((impl_partsOf.f ((rd_T35 x0 x8).f0) ((rd_T35 x0 x8).f1) ((rd_T35 x0 x8).f2)).bind fun t269 => (impl_RopeLengths.l0 k x0 (x6.set (x8 : Int).toNat (wrap64 (x7 * (wrap64 ((wrap64 (((rd_T35 x0 x8).f0) + ((rd_T35 x0 x8).f1))) + 1))))) (wrap64 (x7 * t269)) (wrap64 (x8 - 1)))) else (none)) else (none)) else (none)) else (some (x6, 0))
def impl_RopeLengths.f (k : Nat) (l0 : List (S35)) (a1 : Int) : Option (List Int × Int) := (impl_ValidTackle.f k l0).bind fun t260 => (if t260 = true then ((impl_within.f a1 0 100000).bind fun t261 => (if t261 = true then (if 0 ≤ (l0.length : Int) then (if ((l0.length : Int) : Int).toNat ≤ 35184372088832 then (impl_RopeLengths.l0 k l0 (List.replicate ((l0.length : Int) : Int).toNat 0) a1 (wrap64 ((l0.length : Int) - 1))) else (none)) else (none)) else (some (([] : List Int), 2)))) else (some (([] : List Int), 1)))
theorem impl_RopeLengths.mono_l : ∀ k, (∀ y0 y1 y2 y3, LeO (impl_RopeLengths.l0 k y0 y1 y2 y3) (impl_RopeLengths.l0 (k + 1) y0 y1 y2 y3))
 | 0 => fun _ _ _ _ r h => by simp [impl_RopeLengths.l0] at h
 | k + 1 => by
  have ih0 := impl_RopeLengths.mono_l k
  ·intro y0 y1 y2 y3
   unfold impl_RopeLengths.l0
   repeat' first
   | (with_reducible exact ih0 _ _ _ _)
   | (with_reducible exact impl_ValidTackle.mono _ _)
   | (with_reducible exact LeO.refl _)
   | (with_reducible exact LeO.none _)
   | (with_reducible refine LeO.ite ?_ ?_)
   | (with_reducible refine LeO.bind ?_ (fun _ => ?_))
   | exact ih0 _ _ _ _
   | exact impl_ValidTackle.mono _ _
   | exact LeO.none _
   | refine LeO.ite ?_ ?_
   | refine LeO.bind ?_ (fun _ => ?_)
theorem impl_RopeLengths.mono : ∀ a0 a1 k, LeO (impl_RopeLengths.f k a0 a1) (impl_RopeLengths.f (k + 1) a0 a1) := by
 intro a0 a1 k
 have ih0 := impl_RopeLengths.mono_l k
 unfold impl_RopeLengths.f
 repeat' first
   | (with_reducible exact ih0 _ _ _ _)
   | (with_reducible exact impl_ValidTackle.mono _ _)
   | (with_reducible exact LeO.refl _)
   | (with_reducible exact LeO.none _)
   | (with_reducible refine LeO.ite ?_ ?_)
   | (with_reducible refine LeO.bind ?_ (fun _ => ?_))
   | exact ih0 _ _ _ _
   | exact impl_ValidTackle.mono _ _
   | exact LeO.none _
   | refine LeO.ite ?_ ?_
   | refine LeO.bind ?_ (fun _ => ?_)
def impl_RopeLengths.T10 : Bool × List (List Nat × List Nat) := (true, [([], []), ([], []), ([], []), ([], []), ([], []), ([3, 4], [3, 4]), ([5], [5]), ([6], [6]), ([], []), ([], []), ([8, 9], [8, 9]), ([10], [10]), ([11], [11]), ([7, 12], [7, 12]), ([13], [13]), ([2, 14], [2, 14]), ([0, 1, 0, 1, 2, 3, 4, 5, 6, 7, 8, 9, 10, 11, 12, 13, 14, 15], [0, 1]), ([16, 15, 0, 1, 2, 3, 4, 5, 6, 7, 8, 9, 10, 11, 12, 13, 14, 15], [15, 16])])
def impl_RopeLengths.B10 : List Nat := [0, 0, 0, 0, 0, 24, 56, 120, 0, 0, 768, 1792, 3840, 8184, 16376, 32764, 65535, 131071]
theorem impl_RopeLengths.tab10 : rtab .any (opsOf Tryz.f13 10) = impl_RopeLengths.T10 := by kernel_rfl
theorem impl_RopeLengths.bits10 : waitsOk impl_RopeLengths.T10.2 impl_RopeLengths.B10 = true := by kernel_rfl
@[reducible] def impl_RopeLengths.y' : Bool := true
@[reducible] def impl_RopeLengths.n' : Bool := false
theorem impl_RopeLengths.z1' {α : Type} (l : List α) (i : Nat) (a : α) : l.toArray.setIfInBounds i a = (l.set i a).toArray := List.setIfInBounds_toArray ..
theorem impl_RopeLengths.z2' {α : Type} (a b : α) (l : List α) : (a :: l).set 0 b = b :: l := rfl
theorem impl_RopeLengths.z3' {α : Type} (a b : α) (l : List α) (n : Nat) : (a :: l).set (n + 1) b = a :: l.set n b := rfl
theorem impl_RopeLengths.G : type_of% @Aside0.mk := @Aside0.mk
theorem impl_RopeLengths.J : type_of% @pw_below_drewN := @pw_below_drewN
theorem impl_RopeLengths.L : type_of% @below_drew1 := @below_drew1
theorem impl_RopeLengths.M : type_of% @below_alloc := @below_alloc
set_option maxHeartbeats 8000000 in
set_option maxRecDepth 100000 in
theorem impl_RopeLengths.calls (k : Nat) (A0 : Option Addr) (c0 : Nat) (l0 : List (S35)) (a1 : Int) (r1 : List Int) (r2 : Int) (w : World) (hr0 : Kd.C k35 w A0 l0.length l0) (hc0 : l0.length ≤ c0) (h : impl_RopeLengths.f k l0 a1 = some (r1, r2)) :
  Calls Tryz.prog 13 #[.slice A0 l0.length c0, .int .i64 a1] w fun e w' => ∃ v0_ : Value, e = .returned (.tuple #[v0_, .int .i64 r2]) ∧ Kd.R (Kd.int .i64) 2 w' w.heap.size (fun _ => True) v0_ r1 ∧ Below w.heap.size w w' := by
 have hu35 := Tryz.underlying35; have HR0 := G hr0; have HC0 := G hc0; clear hr0 hc0; have HB := G (Below.refl w.heap.size w); have H : ((impl_ValidTackle.f k l0).bind fun t260 => (if t260 = true then ((impl_within.f a1 0 100000).bind fun t261 => (if t261 = true then (if 0 ≤ (l0.length : Int) then (if ((l0.length : Int) : Int).toNat ≤ 35184372088832 then (impl_RopeLengths.l0 k l0 (List.replicate ((l0.length : Int) : Int).toNat 0) a1 (wrap64 ((l0.length : Int) - 1))) else (none)) else (none)) else (some (([] : List Int), 2)))) else (some (([] : List Int), 1)))) = some (r1, r2) := h; clear h; replace H := Option.bind_eq_some_iff.mp H; obtain ⟨t260, A30, H⟩ := H; replace H : (if t260 = true then ((impl_within.f a1 0 100000).bind fun t261 => (if t261 = true then (if 0 ≤ (l0.length : Int) then (if ((l0.length : Int) : Int).toNat ≤ 35184372088832 then (impl_RopeLengths.l0 k l0 (List.replicate ((l0.length : Int) : Int).toNat 0) a1 (wrap64 ((l0.length : Int) - 1))) else (none)) else (none)) else (some (([] : List Int), 2)))) else (some (([] : List Int), 1))) = some (r1, r2) := H; have A3 := G A30; clear A30
 by_cases c4 : t260 = true
 ·subst c4; have H1 : ((impl_within.f a1 0 100000).bind fun t261 => (if t261 = true then (if 0 ≤ (l0.length : Int) then (if ((l0.length : Int) : Int).toNat ≤ 35184372088832 then (impl_RopeLengths.l0 k l0 (List.replicate ((l0.length : Int) : Int).toNat 0) a1 (wrap64 ((l0.length : Int) - 1))) else (none)) else (none)) else (some (([] : List Int), 2)))) = some (r1, r2) := by rw [if_pos rfl] at H; exact H
  clear H; have H := H1; clear H1; replace H := Option.bind_eq_some_iff.mp H; obtain ⟨t261, A50, H⟩ := H; replace H : (if t261 = true then (if 0 ≤ (l0.length : Int) then (if ((l0.length : Int) : Int).toNat ≤ 35184372088832 then (impl_RopeLengths.l0 k l0 (List.replicate ((l0.length : Int) : Int).toNat 0) a1 (wrap64 ((l0.length : Int) - 1))) else (none)) else (none)) else (some (([] : List Int), 2))) = some (r1, r2) := H; have A5 := G A50; clear A50
  by_cases c6 : t261 = true
  ·subst c6; have H1 : (if 0 ≤ (l0.length : Int) then (if ((l0.length : Int) : Int).toNat ≤ 35184372088832 then (impl_RopeLengths.l0 k l0 (List.replicate ((l0.length : Int) : Int).toNat 0) a1 (wrap64 ((l0.length : Int) - 1))) else (none)) else (none)) = some (r1, r2) := by rw [if_pos rfl] at H; exact H
   clear H; have H := H1; clear H1
   by_cases c7 : 0 ≤ (l0.length : Int)
   ·rw [if_pos c7] at H; have c7b0 := eq_true c7; have c7b1 : decide (0 ≤ (l0.length : Int)) = true := decide_eq_true c7; clear c7
    by_cases c8 : ((l0.length : Int) : Int).toNat ≤ 35184372088832
    ·rw [if_pos c8] at H; have c8b0 := eq_true c8; have c8b1 : decide (((l0.length : Int) : Int).toNat ≤ 35184372088832) = true := decide_eq_true c8; clear c8; obtain ⟨y262, hy262⟩ : ∃ y_ : List Int, y_ = (List.replicate ((l0.length : Int) : Int).toNat 0) := ⟨_, rfl⟩
     replace H : (impl_RopeLengths.l0 k l0 y262 a1 (wrap64 ((l0.length : Int) - 1))) = some (r1, r2) := by first | (rw [hy262]; with_reducible exact H) | (have H2_ := (Option.bind_some _ _).symm.trans H; rw [hy262]; with_reducible exact H2_) | (have H2_ := (Option.bind_some _ _).symm.trans H; with_reducible exact H2_) | with_reducible exact H | (rw [hy262]; exact H) | exact H
     have Ny262 := G hy262; clear hy262; have H' := G H; clear H; go_enter Tryz.func13, Tryz.ntmps13; go_wp2_with (first | ((with_reducible refine gate_callee (f := 28) rfl ?_); refine goesL_ (some 10) rfl rfl Tryz.func28 (by kernel_rfl) rfl #[.slice A0 l0.length c0] rfl (by (try simp only [List.map_toArray, List.map_cons, List.map_nil]); first | done | rfl | (simp only [List.length_drop, List.length_take]; rfl)) ?_; (with_reducible refine (impl_ValidTackle.calls k _ _ l0 true _ ?side1 ?side2 A3.out).mono ?_); (case side1 => repeat (first | exact HR0.out | (with_reducible refine Kd.C_alloc ?_ _) | (with_reducible refine Kd.C_drewN ?_ _) | (with_reducible refine Kd.C_drew ?_))); (case side2 => exact HC0.out); rintro e w9 ⟨rfl, hb⟩; refine ⟨_, rfl, ?_⟩; have n0_ := G (below_step (by repeat (first | (with_reducible first | exact HB.out | apply M | apply J | apply L) | exact HB.out)) hb); clear HB; have HB := n0_; clear n0_; (try clear hb); (try clear hb2); (try clear hk); (try clear hi)) | ((with_reducible refine gate_callee (f := 35) rfl ?_); refine goesL_ (some 13) rfl rfl Tryz.func35 (by kernel_rfl) rfl #[.int .i64 a1, .int .i64 0, .int .i64 100000] rfl (by (try simp only [List.map_toArray, List.map_cons, List.map_nil]); first | done | rfl | (simp only [List.length_drop, List.length_take]; rfl)) ?_; (with_reducible refine (impl_within.calls a1 0 100000 true _ A5.out).mono ?_); rintro e w' ⟨rfl, ⟨nd, rfl⟩⟩; refine ⟨_, rfl, ?_⟩) | ((with_reducible refine gate_dst (N := 17) rfl ?_); refine Kd.R_make (Kd.int .i64) _ 2 rfl (N := 17) rfl 30 _ _ rfl (l0.length : Int) rfl rfl Tryz.underlying30 (.int .i64 0) 8 info2 rfl (by decide) (by omega) 0 (ok := fun _ => True) (okp := fun _ => True) rfl (fun _ hk => hk) trivial (of_decide_eq_true (by first | (with_reducible assumption) | assumption)) (Nat.le_trans (Nat.mul_le_mul_right _ (of_decide_eq_true (by first | (with_reducible assumption) | assumption) : (l0.length : Int).toNat ≤ 35184372088832)) (by omega)) (Below.refl _ _) (Nat.le_refl _) ?_; intro v263 w10 ho11 hb hg_ hnew_; clear hg_ hnew_; (first | rw [← Ny262.out] at ho11 | (simp only [Int.reduceToNat] at ho11; rw [← Ny262.out] at ho11)); have n0_ := G (Kd.R_lower ho11 (below_size (by repeat (first | (with_reducible first | exact HB.out | apply M | apply J | apply L) | exact HB.out)))); have n1_ := G (below_step (by repeat (first | (with_reducible first | exact HB.out | apply M | apply J | apply L) | exact HB.out)) hb); clear HB; have HO264 := n0_; have HB := n1_; clear n0_ n1_; clear hb ho11))
     go_loopg [7, 8] k (fun kq v7 v8 w' => ∃ (x6_1 : List Int) (x7_1 : Int) (x8_1 : Int), v7 = .int .i64 x7_1 ∧ v8 = .int .i64 x8_1 ∧ Aside0 (impl_RopeLengths.l0 kq l0 x6_1 x7_1 x8_1 = some (r1, r2)) ∧ Aside0 (kq ≤ k) ∧ Aside0 (Kd.R (Kd.int .i64) 2 w' w.heap.size (fun _ => True) v263 x6_1) ∧ Aside0 (Below w.heap.size w w'))
     case atStart => exact ⟨(y262), (a1), (wrap64 ((l0.length : Int) - 1)), (by first | rfl | (simp; done) | (simp [*]; done)), (by first | rfl | (simp; done) | (simp [*]; done)), H', ⟨Nat.le_refl _⟩, ⟨by (with_reducible repeat (first | apply Kd.R_alloc | apply Kd.R_drewN | apply Kd.R_drew)); exact HO264.out⟩, ⟨by repeat (first | (with_reducible first | exact HB.out | apply M | apply J | apply L) | exact HB.out)⟩⟩
     case round =>
      clear H'; try clear c1
      try clear c2
      try clear p2
      try clear c3
      try clear c4
      try clear c6
      try clear p6
      try clear c7
      try clear c7b0
      try clear c7b1
      try clear c8
      try clear c8b0
      try clear c8b1
      obtain ⟨x6_1, x7_1, x8_1, rfl, rfl, HA, HK1, HO_6, HB⟩ := hrel
      cases gk with
      | zero => exact absurd HA.out (by simp [impl_RopeLengths.l0])
      | succ k1 =>
       have H := HA.out; clear HA; simp only [impl_RopeLengths.l0] at H
       by_cases c12 : x8_1 ≥ 0
       ·rw [if_pos c12] at H; have c12b0 : decide (0 ≤ x8_1) = true := decide_eq_true c12; clear c12
        by_cases c13 : 0 ≤ x8_1
        ·rw [if_pos c13] at H; have c13b0 : decide (0 ≤ x8_1) = true := decide_eq_true c13; clear c13
         by_cases c14 : x8_1 < (l0.length : Int)
         ·rw [if_pos c14] at H; have c14b0 : decide (x8_1 < (l0.length : Int)) = true := decide_eq_true c14; clear c14
          by_cases c15 : x8_1 < (x6_1.length : Int)
          ·rw [if_pos c15] at H; have c15b0 : decide (x8_1 < (x6_1.length : Int)) = true := decide_eq_true c15; clear c15; obtain ⟨y267, hy267⟩ : ∃ y_ : List Int, y_ = (x6_1.set (x8_1 : Int).toNat (wrap64 (x7_1 * (wrap64 ((wrap64 (((rd_T35 l0 x8_1).f0) + ((rd_T35 l0 x8_1).f1))) + 1))))) := ⟨_, rfl⟩
           replace H : ((impl_partsOf.f ((rd_T35 l0 x8_1).f0) ((rd_T35 l0 x8_1).f1) ((rd_T35 l0 x8_1).f2)).bind fun t269 => (impl_RopeLengths.l0 k1 l0 y267 (wrap64 (x7_1 * t269)) (wrap64 (x8_1 - 1)))) = some (r1, r2) := by first | (rw [hy267]; with_reducible exact H) | (have H2_ := (Option.bind_some _ _).symm.trans H; rw [hy267]; with_reducible exact H2_) | (have H2_ := (Option.bind_some _ _).symm.trans H; with_reducible exact H2_) | with_reducible exact H | (rw [hy267]; exact H) | exact H
           have Ny267 := G hy267; clear hy267; replace H := Option.bind_eq_some_iff.mp H; obtain ⟨t269, A170, H⟩ := H; replace H : (impl_RopeLengths.l0 k1 l0 y267 (wrap64 (x7_1 * t269)) (wrap64 (x8_1 - 1))) = some (r1, r2) := H; have A17 := G A170; clear A170; have H' := G H; clear H; try go_wp2
           have n0_ := G (Kd.R_drew HO_6.out); have n1_ := G (L HB.out); clear HO_6; clear HB; have HO_6 := n0_; have HB := n1_; clear n0_ n1_; have p265 : 0 ≤ (x8_1 : Int) := of_decide_eq_true (by first | (with_reducible assumption) | assumption); have q265 : x8_1 < (l0.length : Int) := of_decide_eq_true (by first | (with_reducible assumption) | assumption); obtain ⟨ad265, e265, hx265_0, hx265_1, hx265_2⟩ := at_T35 HR0.out x8_1 p265 q265; have hw265_2 := hx265_2; have hw265_1 := hx265_1; have hw265_0 := hx265_0
           cases e265
           (first | (replace hx265_0 := (HB.out.cell (World.block_lt_of_cell? w _ hx265_0)).trans hx265_0) | skip); (first | (replace hx265_1 := (HB.out.cell (World.block_lt_of_cell? w _ hx265_1)).trans hx265_1) | skip); (first | (replace hx265_2 := (HB.out.cell (World.block_lt_of_cell? w _ hx265_2)).trans hx265_2) | skip); replace p265 := eq_true p265; replace q265 := eq_true q265; have p266 : 0 ≤ (x8_1 : Int) := of_decide_eq_true (by first | (with_reducible assumption) | assumption); have q266 : x8_1 < (l0.length : Int) := of_decide_eq_true (by first | (with_reducible assumption) | assumption); obtain ⟨ad266, e266, hx266_0, hx266_1, hx266_2⟩ := at_T35 HR0.out x8_1 p266 q266; have hw266_2 := hx266_2; have hw266_1 := hx266_1; have hw266_0 := hx266_0; obtain rfl : ad265 = ad266 := (by injection e266)
           (first | (replace hx266_0 := (HB.out.cell (World.block_lt_of_cell? w _ hx266_0)).trans hx266_0) | skip); (first | (replace hx266_1 := (HB.out.cell (World.block_lt_of_cell? w _ hx266_1)).trans hx266_1) | skip); (first | (replace hx266_2 := (HB.out.cell (World.block_lt_of_cell? w _ hx266_2)).trans hx266_2) | skip); replace p266 := eq_true p266; replace q266 := eq_true q266; have p16 : 0 ≤ (x8_1 : Int) := of_decide_eq_true (by first | (with_reducible assumption) | assumption); have q16 : (x8_1 : Int) < ((x6_1.length : Int) : Int) := of_decide_eq_true (by first | (with_reducible assumption) | assumption); obtain ⟨go16, co16, eo16, gb16, gl16, cl16, HG16⟩ := Kd.R_form HO_6.out (by omega); (first | cases eo16 | (injection eo16 with ea_ en_ ec_; (first | subst ea_ | (injection ea_ with ea_; subst ea_)); subst ec_; clear en_)); have GB16 := G gb16; have GG16 := G HG16; clear gb16 gl16 HG16; obtain ⟨hx16_0, hf16_0⟩ := Kd.R_celln 0 HO_6.out (x8_1 : Int) p16 q16; replace p16 := eq_true p16; replace q16 := eq_true q16; have HP19 := Kd.R_putn HO_6.out (x8_1 : Int) (wrap64 (x7_1 * (wrap64 ((wrap64 (((rd_T35 l0 x8_1).f0) + ((rd_T35 l0 x8_1).f1))) + 1)))); rw [← Ny267.out] at HP19; have HQ19 := G HP19; clear HP19; refine start_ (n := 18) (S := fun w' => w'.cell? (ad265.add ((x8_1).toNat * 3)) = some (.int .i64 ((rd_T35 l0 x8_1).f0)) ∧ w'.cell? ⟨(ad265.add ((x8_1).toNat * 3)).block, (ad265.add ((x8_1).toNat * 3)).off + 1, none⟩ = some (.int .i64 ((rd_T35 l0 x8_1).f1)) ∧ w'.cell? ⟨(ad265.add ((x8_1).toNat * 3)).block, (ad265.add ((x8_1).toNat * 3)).off + 2, none⟩ = some (.bool ((rd_T35 l0 x8_1).f2)) ∧ w'.cell? (ad265.add ((x8_1).toNat * 3)) = some (.int .i64 ((rd_T35 l0 x8_1).f0)) ∧ w'.cell? ⟨(ad265.add ((x8_1).toNat * 3)).block, (ad265.add ((x8_1).toNat * 3)).off + 1, none⟩ = some (.int .i64 ((rd_T35 l0 x8_1).f1)) ∧ w'.cell? ⟨(ad265.add ((x8_1).toNat * 3)).block, (ad265.add ((x8_1).toNat * 3)).off + 2, none⟩ = some (.bool ((rd_T35 l0 x8_1).f2))) (ds := [17]) #[n', n', n', n', n', n', n', n', n', n', n', n', n', n', n', n', n', n'] (by kernel_rfl) rfl rfl ⟨((HB.out.cell (World.block_lt_of_cell? w _ hw265_0)).trans hw265_0), ((HB.out.cell (World.block_lt_of_cell? w _ hw265_1)).trans hw265_1), ((HB.out.cell (World.block_lt_of_cell? w _ hw265_2)).trans hw265_2), ((HB.out.cell (World.block_lt_of_cell? w _ hw266_0)).trans hw266_0), ((HB.out.cell (World.block_lt_of_cell? w _ hw266_1)).trans hw266_1), ((HB.out.cell (World.block_lt_of_cell? w _ hw266_2)).trans hw266_2)⟩ (fun hHeld => ?_); refine with_tabW impl_RopeLengths.tab10 impl_RopeLengths.bits10 (fun HT_ HW_ => ?_)
           generalize wr.drew = w18 at HO_6 HB GG16 HQ19 hf16_0 hx16_0 hx265_0 hx265_1 hx265_2 hx266_0 hx266_1 hx266_2 hHeld ⊢
           refine pure_ (i := 0) (N := some 26) (v := ?_) (a' := ?_) #[y', n', n', n', n', n', n', n', n', n', n', n', n', n', n', n', n', n'] rfl rfl (any_of HT_.out (by kernel_rfl)) (fun _ _ _ h => h) (Or.inl ⟨by rfl, ?_⟩) ?_ ?_; rotate_left
           ·intro w'; go_simp; with_reducible rfl
           rotate_left
           ·simp only [Act.put, z1', z2', z3', i64_w, i32_w]
            rfl
           refine pure_ (i := 1) (N := some 27) (v := ?_) (a' := ?_) #[y', y', n', n', n', n', n', n', n', n', n', n', n', n', n', n', n', n'] rfl rfl (any_of HT_.out (by kernel_rfl)) (fun _ _ _ h => h) (Or.inl ⟨by rfl, ?_⟩) ?_ ?_; rotate_left
           ·intro w'; go_simp; with_reducible rfl
           rotate_left
           ·simp only [Act.put, z1', z2', z3', i64_w, i32_w]
            rfl
           refine pure_ (i := 2) (N := some 28) (v := ?_) (a' := ?_) #[y', y', y', n', n', n', n', n', n', n', n', n', n', n', n', n', n', n'] rfl rfl (any_of HT_.out (by kernel_rfl)) (fun _ _ _ h => h) (Or.inl ⟨by rfl, ?_⟩) ?_ ?_; rotate_left
           ·intro w'; go_simp; with_reducible rfl
           rotate_left
           ·simp only [Act.put, z1', z2', z3', i64_w, i32_w]
            rfl
           refine pure_ (i := 3) (N := some 29) (v := ?_) (a' := ?_) #[y', y', y', y', n', n', n', n', n', n', n', n', n', n', n', n', n', n'] rfl rfl (any_of HT_.out (by kernel_rfl)) (fun _ _ _ h => h) (Or.inl ⟨by rfl, ?_⟩) ?_ ?_; rotate_left
           ·intro w'; go_simp; with_reducible rfl
           rotate_left
           ·simp only [Act.put, z1', z2', z3', i64_w, i32_w]
            rfl
           refine pure_ (i := 4) (N := some 30) (v := ?_) (a' := ?_) #[y', y', y', y', y', n', n', n', n', n', n', n', n', n', n', n', n', n'] rfl rfl (any_of HT_.out (by kernel_rfl)) (fun _ _ _ h => h) (Or.inl ⟨by rfl, ?_⟩) ?_ ?_; rotate_left
           ·intro w'; go_simp; with_reducible rfl
           rotate_left
           ·simp only [Act.put, z1', z2', z3', i64_w, i32_w]
            rfl
           refine pure_ (i := 5) (N := some 31) (v := ?_) (a' := ?_) #[y', y', y', y', y', y', n', n', n', n', n', n', n', n', n', n', n', n'] rfl rfl (any_of HT_.out (by kernel_rfl)) (fun _ _ _ h => h) (Or.inl ⟨by rfl, ?_⟩) ?_ ?_; rotate_left
           ·intro w'; go_simp; with_reducible rfl
           rotate_left
           ·simp only [Act.put, z1', z2', z3', i64_w, i32_w]
            rfl
           refine pure_ (i := 6) (N := some 32) (v := ?_) (a' := ?_) #[y', y', y', y', y', y', y', n', n', n', n', n', n', n', n', n', n', n'] rfl rfl (any_of HT_.out (by kernel_rfl)) (fun _ _ _ h => h) (Or.inl ⟨by rfl, ?_⟩) ?_ ?_; rotate_left
           ·intro w'; go_simp; with_reducible rfl
           rotate_left
           ·simp only [Act.put, z1', z2', z3', i64_w, i32_w]
            rfl
           refine pure_ (i := 8) (N := some 34) (v := ?_) (a' := ?_) #[y', y', y', y', y', y', y', n', y', n', n', n', n', n', n', n', n', n'] rfl rfl (any_of HT_.out (by kernel_rfl)) (fun _ _ _ h => h) (Or.inl ⟨by rfl, ?_⟩) ?_ ?_; rotate_left
           ·intro w'; go_simp; with_reducible rfl
           rotate_left
           ·simp only [Act.put, z1', z2', z3', i64_w, i32_w]
            rfl
           refine pure_ (i := 9) (N := some 35) (v := ?_) (a' := ?_) #[y', y', y', y', y', y', y', n', y', y', n', n', n', n', n', n', n', n'] rfl rfl (any_of HT_.out (by kernel_rfl)) (fun _ _ _ h => h) (Or.inl ⟨by rfl, ?_⟩) ?_ ?_; rotate_left
           ·intro w'; go_simp; with_reducible rfl
           rotate_left
           ·simp only [Act.put, z1', z2', z3', i64_w, i32_w]
            rfl
           refine pure_ (i := 10) (N := some 36) (v := ?_) (a' := ?_) #[y', y', y', y', y', y', y', n', y', y', y', n', n', n', n', n', n', n'] rfl rfl (any_of HT_.out (by kernel_rfl)) (fun _ _ _ h => h) (Or.inl ⟨by rfl, ?_⟩) ?_ ?_; rotate_left
           ·intro w'; go_simp; with_reducible rfl
           rotate_left
           ·simp only [Act.put, z1', z2', z3', i64_w, i32_w]
            rfl
           refine pure_ (i := 11) (N := some 37) (v := ?_) (a' := ?_) #[y', y', y', y', y', y', y', n', y', y', y', y', n', n', n', n', n', n'] rfl rfl (any_of HT_.out (by kernel_rfl)) (fun _ _ _ h => h) (Or.inl ⟨by rfl, ?_⟩) ?_ ?_; rotate_left
           ·intro w'; go_simp; with_reducible rfl
           rotate_left
           ·simp only [Act.put, z1', z2', z3', i64_w, i32_w]
            rfl
           refine take_ (i := 7) (N := some 33) (v := ?_) (a' := ?_) #[y', y', y', y', y', y', y', y', y', y', y', y', n', n', n', n', n', n'] rfl rfl (take_ofW HT_.out HW_.out (by kernel_rfl)) (fun _ _ _ h => h) (Or.inl ⟨by rfl, ?_⟩) hHeld ?_ ?_; rotate_left
           ·rintro w' ⟨s0, s1, s2, s3, s4, s5⟩; go_simp; with_reducible rfl
           rotate_left
           ·simp only [Act.put, z1', z2', z3', i64_w, i32_w]
            rfl
           refine take_ (i := 12) (N := some 38) (v := ?_) (a' := ?_) #[y', y', y', y', y', y', y', y', y', y', y', y', y', n', n', n', n', n'] rfl rfl (take_ofW HT_.out HW_.out (by kernel_rfl)) (fun _ _ _ h => h) (Or.inl ⟨by rfl, ?_⟩) hHeld ?_ ?_; rotate_left
           ·rintro w' ⟨s0, s1, s2, s3, s4, s5⟩; go_simp; with_reducible rfl
           rotate_left
           ·simp only [Act.put, z1', z2', z3', i64_w, i32_w]
            rfl
           refine pure_ (i := 13) (N := some 39) (v := ?_) (a' := ?_) #[y', y', y', y', y', y', y', y', y', y', y', y', y', y', n', n', n', n'] rfl rfl (any_of HT_.out (by kernel_rfl)) (fun _ _ _ h => h) (Or.inl ⟨by rfl, ?_⟩) ?_ ?_; rotate_left
           ·intro w'; go_simp; with_reducible rfl
           rotate_left
           ·simp only [Act.put, z1', z2', z3', i64_w, i32_w]
            rfl
           refine pure_ (i := 14) (N := some 40) (v := ?_) (a' := ?_) #[y', y', y', y', y', y', y', y', y', y', y', y', y', y', y', n', n', n'] rfl rfl (any_of HT_.out (by kernel_rfl)) (fun _ _ _ h => h) (Or.inl ⟨by rfl, ?_⟩) ?_ ?_; rotate_left
           ·intro w'; go_simp; with_reducible rfl
           rotate_left
           ·simp only [Act.put, z1', z2', z3', i64_w, i32_w]
            rfl
           refine pure_ (i := 15) (N := some 41) (v := ?_) (a' := ?_) #[y', y', y', y', y', y', y', y', y', y', y', y', y', y', y', y', n', n'] rfl rfl (any_of HT_.out (by kernel_rfl)) (fun _ _ _ h => h) (Or.inl ⟨by rfl, ?_⟩) ?_ ?_; rotate_left
           ·intro w'; go_simp; with_reducible rfl
           rotate_left
           ·simp only [Act.put, z1', z2', z3', i64_w, i32_w]
            rfl
           refine pure_ (i := 16) (N := some 42) (v := ?_) (a' := ?_) #[y', y', y', y', y', y', y', y', y', y', y', y', y', y', y', y', y', n'] rfl rfl (any_of HT_.out (by kernel_rfl)) (fun _ _ _ h => h) (Or.inl ⟨by rfl, ?_⟩) ?_ ?_; rotate_left
           ·intro w'; go_simp; with_reducible rfl
           rotate_left
           ·simp only [Act.put, z1', z2', z3', i64_w, i32_w]
            rfl
           refine last_ (i := 17) (N := none) #[y', y', y', y', y', y', y', y', y', y', y', y', y', y', y', y', y', y'] rfl rfl (one_of HT_.out (by kernel_rfl)) (by decide) (fun K hK => ?_); refine skip_ (w1 := ?_) (by rfl) rfl ?_ ?_; rotate_left
           ·go_simp
            rfl
           refine hK.out _ _ ?_; clear hK K; refine done_ (done_of HT_.out (by kernel_rfl)) ?_; have p268 : 0 ≤ (x8_1 : Int) := of_decide_eq_true (by first | (with_reducible assumption) | assumption); have q268 : x8_1 < (l0.length : Int) := of_decide_eq_true (by first | (with_reducible assumption) | assumption); obtain ⟨ad268, e268, hx268_0, hx268_1, hx268_2⟩ := at_T35 HR0.out x8_1 p268 q268; obtain rfl : ad265 = ad268 := (by injection e268)
           have hn268_0 : ad265.block ≠ go16 := Nat.ne_of_lt (Nat.lt_of_lt_of_le (by have := World.block_lt_of_cell? _ _ hx268_0; first | rwa [add_block] at this | exact this) GB16.out); (first | (replace hx268_0 := (HB.out.cell (World.block_lt_of_cell? w _ hx268_0)).trans hx268_0) | skip); (first | (replace hx268_1 := (HB.out.cell (World.block_lt_of_cell? w _ hx268_1)).trans hx268_1) | skip); (first | (replace hx268_2 := (HB.out.cell (World.block_lt_of_cell? w _ hx268_2)).trans hx268_2) | skip); replace hx268_0 := (cell_far (p := ⟨go16, (x8_1 : Int).toNat, none⟩) (by first | (rw [add_block]; exact hn268_0) | (show (Addr.add _ _).block ≠ _; rw [add_block]; exact hn268_0) | exact hn268_0 | (dsimp only; exact hn268_0)) (.int .i64 (wrap64 (x7_1 * (wrap64 ((wrap64 (((rd_T35 l0 x8_1).f0) + ((rd_T35 l0 x8_1).f1))) + 1)))))).trans hx268_0; replace hx268_1 := (cell_far (p := ⟨go16, (x8_1 : Int).toNat, none⟩) (by first | (rw [add_block]; exact hn268_0) | (show (Addr.add _ _).block ≠ _; rw [add_block]; exact hn268_0) | exact hn268_0 | (dsimp only; exact hn268_0)) (.int .i64 (wrap64 (x7_1 * (wrap64 ((wrap64 (((rd_T35 l0 x8_1).f0) + ((rd_T35 l0 x8_1).f1))) + 1)))))).trans hx268_1; replace hx268_2 := (cell_far (p := ⟨go16, (x8_1 : Int).toNat, none⟩) (by first | (rw [add_block]; exact hn268_0) | (show (Addr.add _ _).block ≠ _; rw [add_block]; exact hn268_0) | exact hn268_0 | (dsimp only; exact hn268_0)) (.int .i64 (wrap64 (x7_1 * (wrap64 ((wrap64 (((rd_T35 l0 x8_1).f0) + ((rd_T35 l0 x8_1).f1))) + 1)))))).trans hx268_2; clear hn268_0; replace p268 := eq_true p268; replace q268 := eq_true q268; try go_wp2_with (first | ((with_reducible refine gate_callee (f := 40) rfl ?_); refine goesL_ (some 48) rfl rfl Tryz.func40 (by kernel_rfl) rfl #[.agg #[.int .i64 ((rd_T35 l0 x8_1).f0), .int .i64 ((rd_T35 l0 x8_1).f1), .bool ((rd_T35 l0 x8_1).f2)]] rfl (by (try simp only [List.map_toArray, List.map_cons, List.map_nil]); first | done | rfl | (simp only [List.length_drop, List.length_take]; rfl)) ?_; (with_reducible refine (impl_partsOf.calls ((rd_T35 l0 x8_1).f0) ((rd_T35 l0 x8_1).f1) ((rd_T35 l0 x8_1).f2) t269 _ A17.out).mono ?_); rintro e w20 ⟨rfl, hb⟩; refine ⟨_, rfl, ?_⟩; have n0_ := G (Kd.R_below (by (with_reducible repeat (first | apply Kd.R_alloc | apply Kd.R_drewN | apply Kd.R_drew)); exact HQ19.out) hb); have n1_ := G (below_step (by repeat (first | (with_reducible first | exact HB.out | apply M | apply J | apply L | refine below_set ?_ GB16.out) | exact HB.out)) hb); clear HO_6; clear HB; have HO_6 := n0_; have HB := n1_; clear n0_ n1_; (try clear hb); (try clear hb2); (try clear hk); (try clear hi)))
           go_roundg k1
           case measure => have := HK1.out; omega
           case rel => exact ⟨(y267), (wrap64 (x7_1 * t269)), (wrap64 (x8_1 - 1)), (by first | rfl | (simp; done) | (simp [*]; done)), (by first | rfl | (simp; done) | (simp [*]; done)), H', ⟨by have := HK1.out; omega⟩, ⟨by (with_reducible repeat (first | apply Kd.R_alloc | apply Kd.R_drewN | apply Kd.R_drew)); exact HO_6.out⟩, ⟨by repeat (first | (with_reducible first | exact HB.out | apply M | apply J | apply L) | exact HB.out)⟩⟩
          ·rw [if_neg c15] at H; exact absurd H (by simp)
         ·rw [if_neg c14] at H; exact absurd H (by simp)
        ·rw [if_neg c13] at H; exact absurd H (by simp)
       ·rw [if_neg c12] at H; have c12b0 : decide (0 ≤ x8_1) = false := decide_eq_false c12; clear c12; simp only [Option.some.injEq, Prod.mk.injEq] at H; obtain ⟨rfl, rfl⟩ := H; go_wp2; go_ret2; exact ⟨_, by first | rfl | (simp [errW_none, errW_some] <;> rfl) | (simp [*, errW_none, errW_some] <;> rfl), by (with_reducible repeat (first | apply Kd.R_alloc | apply Kd.R_drewN | apply Kd.R_drew)); exact HO_6.out, by repeat (first | (with_reducible first | exact HB.out | apply M | apply J | apply L) | exact HB.out)⟩
    ·rw [if_neg c8] at H; exact absurd H (by simp)
   ·rw [if_neg c7] at H; exact absurd H (by simp)
  ·replace c6 := Bool.eq_false_iff.mpr c6; subst c6; have H1 : (some (([] : List Int), 2)) = some (r1, r2) := by rw [if_neg (show ¬ (false = true) by decide)] at H; exact H
   clear H; have H := H1; clear H1; simp only [Option.some.injEq, Prod.mk.injEq] at H; obtain ⟨rfl, rfl⟩ := H; go_enter Tryz.func13, Tryz.ntmps13; go_wp2_with (first | ((with_reducible refine gate_callee (f := 28) rfl ?_); refine goesL_ (some 10) rfl rfl Tryz.func28 (by kernel_rfl) rfl #[.slice A0 l0.length c0] rfl (by (try simp only [List.map_toArray, List.map_cons, List.map_nil]); first | done | rfl | (simp only [List.length_drop, List.length_take]; rfl)) ?_; (with_reducible refine (impl_ValidTackle.calls k _ _ l0 true _ ?side1 ?side2 A3.out).mono ?_); (case side1 => repeat (first | exact HR0.out | (with_reducible refine Kd.C_alloc ?_ _) | (with_reducible refine Kd.C_drewN ?_ _) | (with_reducible refine Kd.C_drew ?_))); (case side2 => exact HC0.out); rintro e w21 ⟨rfl, hb⟩; refine ⟨_, rfl, ?_⟩; have n0_ := G (below_step (by repeat (first | (with_reducible first | exact HB.out | apply M | apply J | apply L) | exact HB.out)) hb); clear HB; have HB := n0_; clear n0_; (try clear hb); (try clear hb2); (try clear hk); (try clear hi)) | ((with_reducible refine gate_callee (f := 35) rfl ?_); refine goesL_ (some 13) rfl rfl Tryz.func35 (by kernel_rfl) rfl #[.int .i64 a1, .int .i64 0, .int .i64 100000] rfl (by (try simp only [List.map_toArray, List.map_cons, List.map_nil]); first | done | rfl | (simp only [List.length_drop, List.length_take]; rfl)) ?_; (with_reducible refine (impl_within.calls a1 0 100000 false _ A5.out).mono ?_); rintro e w' ⟨rfl, ⟨nd, rfl⟩⟩; refine ⟨_, rfl, ?_⟩)); go_ret2; exact ⟨_, by first | rfl | (simp [errW_none, errW_some] <;> rfl) | (simp [*, errW_none, errW_some] <;> rfl), by first | exact Kd.R_nil _ _ _ _ _ | exact Kd.N_nil _ _ _ _ _ | exact Kd.V_nil _ _ _ _ _ | exact Kd.Q_nil _ _ _ _ _ | exact Kd.S_nil _ _ _ _ _, by repeat (first | (with_reducible first | exact HB.out | apply M | apply J | apply L) | exact HB.out)⟩
 ·replace c4 := Bool.eq_false_iff.mpr c4; subst c4; have H1 : (some (([] : List Int), 1)) = some (r1, r2) := by rw [if_neg (show ¬ (false = true) by decide)] at H; exact H
  clear H; have H := H1; clear H1; simp only [Option.some.injEq, Prod.mk.injEq] at H; obtain ⟨rfl, rfl⟩ := H; go_enter Tryz.func13, Tryz.ntmps13; go_wp2_with (first | ((with_reducible refine gate_callee (f := 28) rfl ?_); refine goesL_ (some 10) rfl rfl Tryz.func28 (by kernel_rfl) rfl #[.slice A0 l0.length c0] rfl (by (try simp only [List.map_toArray, List.map_cons, List.map_nil]); first | done | rfl | (simp only [List.length_drop, List.length_take]; rfl)) ?_; (with_reducible refine (impl_ValidTackle.calls k _ _ l0 false _ ?side1 ?side2 A3.out).mono ?_); (case side1 => repeat (first | exact HR0.out | (with_reducible refine Kd.C_alloc ?_ _) | (with_reducible refine Kd.C_drewN ?_ _) | (with_reducible refine Kd.C_drew ?_))); (case side2 => exact HC0.out); rintro e w22 ⟨rfl, hb⟩; refine ⟨_, rfl, ?_⟩; have n0_ := G (below_step (by repeat (first | (with_reducible first | exact HB.out | apply M | apply J | apply L) | exact HB.out)) hb); clear HB; have HB := n0_; clear n0_; (try clear hb); (try clear hb2); (try clear hk); (try clear hi))); go_ret2; exact ⟨_, by first | rfl | (simp [errW_none, errW_some] <;> rfl) | (simp [*, errW_none, errW_some] <;> rfl), by first | exact Kd.R_nil _ _ _ _ _ | exact Kd.N_nil _ _ _ _ _ | exact Kd.V_nil _ _ _ _ _ | exact Kd.Q_nil _ _ _ _ _ | exact Kd.S_nil _ _ _ _ _, by repeat (first | (with_reducible first | exact HB.out | apply M | apply J | apply L) | exact HB.out)⟩

/-! ### spec_RopeLengths: function 14 -/
def spec_RopeLengths.l0 : Nat → List (S35) → List Int → Int → Int → Option (List Int × Int)
 | 0, _, _, _, _ => none
 | k + 1, x0, x6, x7, x8 => if x8 ≥ 0 then (if 0 ≤ x8 then (if x8 < (x0.length : Int) then ((some (([wrap64 ((wrap64 (x7 * (wrap64 (((rd_T35 x0 x8).f0) + ((rd_T35 x0 x8).f1))))) + x7)] : List Int) : List Int)).bind fun y277 => (if y277.length + x6.length < 17592186044416 then ((spec_l05Parts_at.f ((rd_T35 x0 x8).f0) ((rd_T35 x0 x8).f1) ((rd_T35 x0 x8).f2)).bind fun t284 => (spec_RopeLengths.l0 k x0 (y277 ++ x6) (wrap64 (x7 * t284)) (wrap64 (x8 - 1)))) else (none))) else (none)) else (none)) else (some (x6, 0))
def spec_RopeLengths.f (k : Nat) (l0 : List (S35)) (a1 : Int) : Option (List Int × Int) := (spec_l05Ok.f k l0).bind fun t270 => (if t270 = true then ((spec_l05Way.f a1).bind fun t271 => (if t271 = true then (spec_RopeLengths.l0 k l0 (([] : List Int)) a1 (wrap64 ((l0.length : Int) - 1))) else (some (([] : List Int), 2)))) else (some (([] : List Int), 1)))
theorem spec_RopeLengths.mono_l : ∀ k, (∀ y0 y1 y2 y3, LeO (spec_RopeLengths.l0 k y0 y1 y2 y3) (spec_RopeLengths.l0 (k + 1) y0 y1 y2 y3))
 | 0 => fun _ _ _ _ r h => by simp [spec_RopeLengths.l0] at h
 | k + 1 => by
  have ih0 := spec_RopeLengths.mono_l k
  ·intro y0 y1 y2 y3
   unfold spec_RopeLengths.l0
   repeat' first
   | (with_reducible exact ih0 _ _ _ _)
   | (with_reducible exact spec_l05Ok.mono _ _)
   | (with_reducible exact LeO.refl _)
   | (with_reducible exact LeO.none _)
   | (with_reducible refine LeO.ite ?_ ?_)
   | (with_reducible refine LeO.bind ?_ (fun _ => ?_))
   | exact ih0 _ _ _ _
   | exact spec_l05Ok.mono _ _
   | exact LeO.none _
   | refine LeO.ite ?_ ?_
   | refine LeO.bind ?_ (fun _ => ?_)
theorem spec_RopeLengths.mono : ∀ a0 a1 k, LeO (spec_RopeLengths.f k a0 a1) (spec_RopeLengths.f (k + 1) a0 a1) := by
 intro a0 a1 k
 have ih0 := spec_RopeLengths.mono_l k
 unfold spec_RopeLengths.f
 repeat' first
   | (with_reducible exact ih0 _ _ _ _)
   | (with_reducible exact spec_l05Ok.mono _ _)
   | (with_reducible exact LeO.refl _)
   | (with_reducible exact LeO.none _)
   | (with_reducible refine LeO.ite ?_ ?_)
   | (with_reducible refine LeO.bind ?_ (fun _ => ?_))
   | exact ih0 _ _ _ _
   | exact spec_l05Ok.mono _ _
   | exact LeO.none _
   | refine LeO.ite ?_ ?_
   | refine LeO.bind ?_ (fun _ => ?_)
set_option maxHeartbeats 8000000 in
set_option maxRecDepth 100000 in
theorem spec_RopeLengths.calls (k : Nat) (A0 : Option Addr) (c0 : Nat) (l0 : List (S35)) (a1 : Int) (r1 : List Int) (r2 : Int) (w : World) (hr0 : Kd.C k35 w A0 l0.length l0) (hc0 : l0.length ≤ c0) (h : spec_RopeLengths.f k l0 a1 = some (r1, r2)) :
  Calls Tryz.prog 14 #[.slice A0 l0.length c0, .int .i64 a1] w fun e w' => ∃ v0_ : Value, e = .returned (.tuple #[v0_, .int .i64 r2]) ∧ Kd.R (Kd.int .i64) 2 w' w.heap.size (fun _ => True) v0_ r1 ∧ Below w.heap.size w w' := by
 have HR0 := A' hr0; have HC0 := A' hc0; clear hr0 hc0; have HB := A' (Below.refl w.heap.size w); have H : ((spec_l05Ok.f k l0).bind fun t270 => (if t270 = true then ((spec_l05Way.f a1).bind fun t271 => (if t271 = true then (spec_RopeLengths.l0 k l0 (([] : List Int)) a1 (wrap64 ((l0.length : Int) - 1))) else (some (([] : List Int), 2)))) else (some (([] : List Int), 1)))) = some (r1, r2) := h; clear h; replace H := Option.bind_eq_some_iff.mp H; obtain ⟨t270, A30, H⟩ := H; replace H : (if t270 = true then ((spec_l05Way.f a1).bind fun t271 => (if t271 = true then (spec_RopeLengths.l0 k l0 (([] : List Int)) a1 (wrap64 ((l0.length : Int) - 1))) else (some (([] : List Int), 2)))) else (some (([] : List Int), 1))) = some (r1, r2) := H; have A3 := A' A30; clear A30
 by_cases c4 : t270 = true
 ·subst c4; have H1 : ((spec_l05Way.f a1).bind fun t271 => (if t271 = true then (spec_RopeLengths.l0 k l0 (([] : List Int)) a1 (wrap64 ((l0.length : Int) - 1))) else (some (([] : List Int), 2)))) = some (r1, r2) := by rw [if_pos rfl] at H; exact H
  clear H; have H := H1; clear H1; replace H := Option.bind_eq_some_iff.mp H; obtain ⟨t271, A50, H⟩ := H; replace H : (if t271 = true then (spec_RopeLengths.l0 k l0 (([] : List Int)) a1 (wrap64 ((l0.length : Int) - 1))) else (some (([] : List Int), 2))) = some (r1, r2) := H; have A5 := A' A50; clear A50
  by_cases c6 : t271 = true
  ·subst c6; have H1 : (spec_RopeLengths.l0 k l0 (([] : List Int)) a1 (wrap64 ((l0.length : Int) - 1))) = some (r1, r2) := by rw [if_pos rfl] at H; exact H
   clear H; have H := H1; clear H1; obtain ⟨y272, hy272⟩ : ∃ y_ : List Int, y_ = (([] : List Int)) := ⟨_, rfl⟩
   replace H : (spec_RopeLengths.l0 k l0 y272 a1 (wrap64 ((l0.length : Int) - 1))) = some (r1, r2) := by first | (rw [hy272]; with_reducible exact H) | (have H2_ := (Option.bind_some _ _).symm.trans H; rw [hy272]; with_reducible exact H2_) | (have H2_ := (Option.bind_some _ _).symm.trans H; with_reducible exact H2_) | with_reducible exact H | (rw [hy272]; exact H) | exact H
   have Ny272 := A' hy272; clear hy272; have H' := A' H; clear H; go_enter Tryz.func14, Tryz.ntmps14; go_wp2_with (first | (go_at_call 37; (with_reducible refine (spec_l05Ok.calls k _ _ l0 true _ ?side1 ?side2 A3.out).mono ?_); (case side1 => exact qT HR0.out); (case side2 => exact HC0.out); rintro e w7 ⟨rfl, hb⟩; have n0_ := A' (W' (qK0 HB.out) hb); clear HB; have HB := n0_; clear n0_; (try clear hb); (try clear hb2); (try clear hk); (try clear hi)) | (go_at_call 38; (with_reducible refine (spec_l05Way.calls a1 true _ A5.out).mono ?_); rintro e w' ⟨rfl, ⟨nd, rfl⟩⟩; (try first | exact ⟨rfl, _, World.drewN_drewN _ _ _⟩ | exact ⟨rfl, _, Eq.trans (World.drewN_drewN _ _ _) (congrArg (World.drewN _) (Nat.add_assoc _ _ _))⟩)) | ((with_reducible refine gate_dst (N := 16) rfl ?_); refine Kd.R_lit (Kd.int .i64) _ 2 ?hg (N := 16) ?hd (xs := ([] : List Int)) (inner := []) (ok := fun _ => True) (okp := fun _ => True) ?hr ?hp (fun _ hk => hk) trivial (Below.refl _ _) (Nat.le_refl _) (by simp) ?_; (case hd => rfl); (case hg => rfl); (case hr => first | (go_simp; done) | (go_simp; rfl)); (case hp => exact (Reps.none _ _)); intro v273 w8 ho9 hb hg_ hnew_; clear hg_ hnew_; (first | rw [← Ny272.out] at ho9 | (simp only [Int.reduceToNat] at ho9; rw [← Ny272.out] at ho9)); have n0_ := A' (Kd.R_lower ho9 (V' (qK0 HB.out))); have n1_ := A' (W' (qK0 HB.out) hb); clear HB; have HO274 := n0_; have HB := n1_; clear n0_ n1_; clear hb ho9))
   repeat (go_quiet (first | (go_at_call 37; (with_reducible refine (spec_l05Ok.calls k _ _ l0 true _ ?side1 ?side2 A3.out).mono ?_); (case side1 => exact qT HR0.out); (case side2 => exact HC0.out); rintro e w7 ⟨rfl, hb⟩; have n0_ := A' (W' (qK0 HB.out) hb); clear HB; have HB := n0_; clear n0_; (try clear hb); (try clear hb2); (try clear hk); (try clear hi)) | (go_at_call 38; (with_reducible refine (spec_l05Way.calls a1 true _ A5.out).mono ?_); rintro e w' ⟨rfl, ⟨nd, rfl⟩⟩; (try first | exact ⟨rfl, _, World.drewN_drewN _ _ _⟩ | exact ⟨rfl, _, Eq.trans (World.drewN_drewN _ _ _) (congrArg (World.drewN _) (Nat.add_assoc _ _ _))⟩)) | ((with_reducible refine gate_dst (N := 16) rfl ?_); refine Kd.R_lit (Kd.int .i64) _ 2 ?hg (N := 16) ?hd (xs := ([] : List Int)) (inner := []) (ok := fun _ => True) (okp := fun _ => True) ?hr ?hp (fun _ hk => hk) trivial (Below.refl _ _) (Nat.le_refl _) (by simp) ?_; (case hd => rfl); (case hg => rfl); (case hr => first | (go_simp; done) | (go_simp; rfl)); (case hp => exact (Reps.none _ _)); intro v273 w8 ho9 hb hg_ hnew_; clear hg_ hnew_; (first | rw [← Ny272.out] at ho9 | (simp only [Int.reduceToNat] at ho9; rw [← Ny272.out] at ho9)); have n0_ := A' (Kd.R_lower ho9 (V' (qK0 HB.out))); have n1_ := A' (W' (qK0 HB.out) hb); clear HB; have HO274 := n0_; have HB := n1_; clear n0_ n1_; clear hb ho9)); try go_wp2_with (first | (go_at_call 37; (with_reducible refine (spec_l05Ok.calls k _ _ l0 true _ ?side1 ?side2 A3.out).mono ?_); (case side1 => exact qT HR0.out); (case side2 => exact HC0.out); rintro e w7 ⟨rfl, hb⟩; have n0_ := A' (W' (qK0 HB.out) hb); clear HB; have HB := n0_; clear n0_; (try clear hb); (try clear hb2); (try clear hk); (try clear hi)) | (go_at_call 38; (with_reducible refine (spec_l05Way.calls a1 true _ A5.out).mono ?_); rintro e w' ⟨rfl, ⟨nd, rfl⟩⟩; (try first | exact ⟨rfl, _, World.drewN_drewN _ _ _⟩ | exact ⟨rfl, _, Eq.trans (World.drewN_drewN _ _ _) (congrArg (World.drewN _) (Nat.add_assoc _ _ _))⟩)) | ((with_reducible refine gate_dst (N := 16) rfl ?_); refine Kd.R_lit (Kd.int .i64) _ 2 ?hg (N := 16) ?hd (xs := ([] : List Int)) (inner := []) (ok := fun _ => True) (okp := fun _ => True) ?hr ?hp (fun _ hk => hk) trivial (Below.refl _ _) (Nat.le_refl _) (by simp) ?_; (case hd => rfl); (case hg => rfl); (case hr => first | (go_simp; done) | (go_simp; rfl)); (case hp => exact (Reps.none _ _)); intro v273 w8 ho9 hb hg_ hnew_; clear hg_ hnew_; (first | rw [← Ny272.out] at ho9 | (simp only [Int.reduceToNat] at ho9; rw [← Ny272.out] at ho9)); have n0_ := A' (Kd.R_lower ho9 (V' (qK0 HB.out))); have n1_ := A' (W' (qK0 HB.out) hb); clear HB; have HO274 := n0_; have HB := n1_; clear n0_ n1_; clear hb ho9)))
   go_loopg [6, 7, 8] k (fun kq v6 v7 v8 w' => ∃ (x6_1 : List Int) (x7_1 : Int) (x8_1 : Int), v7 = .int .i64 x7_1 ∧ v8 = .int .i64 x8_1 ∧ Aside0 (spec_RopeLengths.l0 kq l0 x6_1 x7_1 x8_1 = some (r1, r2)) ∧ Aside0 (kq ≤ k) ∧ Aside0 (Kd.R (Kd.int .i64) 2 w' w.heap.size (fun _ => True) v6 x6_1) ∧ Aside0 (Below w.heap.size w w'))
   case atStart => exact ⟨(y272), (a1), (wrap64 ((l0.length : Int) - 1)), qS, qS, H', ⟨Nat.le_refl _⟩, ⟨qR HO274.out⟩, ⟨qK0 HB.out⟩⟩
   case round =>
    clear H'; try clear c1
    try clear p2
    try clear c4
    try clear c6
    try clear p6
    obtain ⟨x6_1, x7_1, x8_1, rfl, rfl, HA, HK1, HO_6, HB⟩ := hrel
    cases gk with
    | zero => exact absurd HA.out (by simp [spec_RopeLengths.l0])
    | succ k1 =>
     have H := HA.out; clear HA; simp only [spec_RopeLengths.l0] at H
     by_cases c10 : x8_1 ≥ 0
     ·rw [if_pos c10] at H; have c10b0 : decide (0 ≤ x8_1) = true := dT' c10; clear c10
      by_cases c11 : 0 ≤ x8_1
      ·rw [if_pos c11] at H; have c11b0 : decide (0 ≤ x8_1) = true := dT' c11; clear c11
       by_cases c12 : x8_1 < (l0.length : Int)
       ·rw [if_pos c12] at H; have c12b0 : decide (x8_1 < (l0.length : Int)) = true := dT' c12; clear c12; obtain ⟨y277, hy277⟩ : ∃ y_ : List Int, y_ = (([wrap64 ((wrap64 (x7_1 * (wrap64 (((rd_T35 l0 x8_1).f0) + ((rd_T35 l0 x8_1).f1))))) + x7_1)] : List Int)) := ⟨_, rfl⟩
        replace H : (if y277.length + x6_1.length < 17592186044416 then ((spec_l05Parts_at.f ((rd_T35 l0 x8_1).f0) ((rd_T35 l0 x8_1).f1) ((rd_T35 l0 x8_1).f2)).bind fun t284 => (spec_RopeLengths.l0 k1 l0 (y277 ++ x6_1) (wrap64 (x7_1 * t284)) (wrap64 (x8_1 - 1)))) else (none)) = some (r1, r2) := by first | (rw [hy277]; with_reducible exact H) | (have H2_ := (Option.bind_some _ _).symm.trans H; rw [hy277]; with_reducible exact H2_) | (have H2_ := (Option.bind_some _ _).symm.trans H; with_reducible exact H2_) | with_reducible exact H | (rw [hy277]; exact H) | exact H
        have Ny277 := A' hy277; clear hy277
        by_cases c13 : y277.length + x6_1.length < 17592186044416
        ·rw [if_pos c13] at H; have LMc13 := A' c13; clear c13; obtain ⟨y280, hy280⟩ : ∃ y_ : List Int, y_ = (y277 ++ x6_1) := ⟨_, rfl⟩
         replace H : ((spec_l05Parts_at.f ((rd_T35 l0 x8_1).f0) ((rd_T35 l0 x8_1).f1) ((rd_T35 l0 x8_1).f2)).bind fun t284 => (spec_RopeLengths.l0 k1 l0 y280 (wrap64 (x7_1 * t284)) (wrap64 (x8_1 - 1)))) = some (r1, r2) := by first | (rw [hy280]; with_reducible exact H) | (have H2_ := (Option.bind_some _ _).symm.trans H; rw [hy280]; with_reducible exact H2_) | (have H2_ := (Option.bind_some _ _).symm.trans H; with_reducible exact H2_) | with_reducible exact H | (rw [hy280]; exact H) | exact H
         have Ny280 := A' hy280; clear hy280; replace H := Option.bind_eq_some_iff.mp H; obtain ⟨t284, A140, H⟩ := H; replace H : (spec_RopeLengths.l0 k1 l0 y280 (wrap64 (x7_1 * t284)) (wrap64 (x8_1 - 1))) = some (r1, r2) := H; have A14 := A' A140; clear A140; have H' := A' H; clear H; have p275 : 0 ≤ (x8_1 : Int) := oD' qA; have q275 : x8_1 < (l0.length : Int) := oD' qA; obtain ⟨ad275, e275, hx275_0, hx275_1, hx275_2⟩ := at_T35 HR0.out x8_1 p275 q275
         cases e275
         try replace hx275_0 := qC HB.out hx275_0
         try replace hx275_1 := qC HB.out hx275_1
         try replace hx275_2 := qC HB.out hx275_2
         replace p275 := eq_true p275; replace q275 := eq_true q275; have p276 : 0 ≤ (x8_1 : Int) := oD' qA; have q276 : x8_1 < (l0.length : Int) := oD' qA; obtain ⟨ad276, e276, hx276_0, hx276_1, hx276_2⟩ := at_T35 HR0.out x8_1 p276 q276; obtain rfl : ad275 = ad276 := (by injection e276)
         try replace hx276_0 := qC HB.out hx276_0
         try replace hx276_1 := qC HB.out hx276_1
         try replace hx276_2 := qC HB.out hx276_2
         replace p276 := eq_true p276; replace q276 := eq_true q276; go_wp2_with (first | ((with_reducible refine gate_dst (N := 41) rfl ?_); refine Kd.R_lit (Kd.int .i64) _ 2 ?hg (N := 41) ?hd (xs := ([wrap64 ((wrap64 (x7_1 * (wrap64 (((rd_T35 l0 x8_1).f0) + ((rd_T35 l0 x8_1).f1))))) + x7_1)] : List Int)) (inner := [.int .i64 (wrap64 ((wrap64 (x7_1 * (wrap64 (((rd_T35 l0 x8_1).f0) + ((rd_T35 l0 x8_1).f1))))) + x7_1))]) (ok := fun _ => True) (okp := fun _ => True) ?hr ?hp (fun _ hk => hk) trivial (Below.refl _ _) (Nat.le_refl _) (by simp) ?_; (case hd => rfl); (case hg => rfl); (case hr => first | (go_simp; done) | (go_simp; rfl)); (case hp => exact (Reps.one (show Kd.M (Kd.int .i64) _ _ _ (wrap64 ((wrap64 (x7_1 * (wrap64 (((rd_T35 l0 x8_1).f0) + ((rd_T35 l0 x8_1).f1))))) + x7_1)) [.int .i64 (wrap64 ((wrap64 (x7_1 * (wrap64 (((rd_T35 l0 x8_1).f0) + ((rd_T35 l0 x8_1).f1))))) + x7_1))] from rfl) (Reps.none _ _))); intro v278 w15 ho16 hb hg_ hnew_; clear hg_ hnew_; (first | rw [← Ny277.out] at ho16 | (simp only [Int.reduceToNat] at ho16; rw [← Ny277.out] at ho16)); have n0_ := A' (Kd.R_elder' (qR HO_6.out) (Kd.R_base ho16) hb); have n1_ := A' (Kd.R_lower (U' ho16 (Kd.R_lt (qR HO_6.out))) (V' (qK0 HB.out))); have n2_ := A' (W' (qK0 HB.out) hb); clear HO_6; clear HB; have HO_6 := n0_; have HO279 := n1_; have HB := n2_; clear n0_ n1_ n2_; clear hb ho16; obtain ⟨Ao18, co18, eo18⟩ := Kd.R_slice HO_6.out; subst eo18) | ((with_reducible refine gate_builtin (b := .append) (xs := #[.tmp 41, .tmp 42]) rfl ?_); at_builtin; refine Kd.R_append_rows (Kd.int .i64) (w0 := w) w.heap.size rfl (.tmp 41) (.tmp 42) 30 2 (.int .i64 0) 8 rfl Tryz.underlying30 info2 rfl (by decide) (by omega) v278 y277 x6_1 _ _ _ (fun k_ => some k_ ≠ (.slice Ao18 x6_1.length co18 : Value).ownBlock) (fun _ => False) rfl rfl ?aO ?aR (fun _ _ h => h) (fun _ h => h.elim) ?aF ?aB ?aS ?aL ?_; (case aR => repeat (first | exact (Kd.R_reads' HO_6.out).2.2 | (with_reducible refine R' ?_ _) | (with_reducible refine S' ?_ _) | (with_reducible refine T' ?_))); (case aB => exact (qK0 HB.out)); (case aF => exact (fun k_ hk => Kd.fresh' (Kd.R_lt (qR HO_6.out)) k_ hk)); (case aO => exact (by (with_reducible repeat (first | apply B' | apply C' | apply D')); exact Q' HO279.out (fun _ hk => hk.2))); (case aS => exact (V' (qK0 HB.out))); (case aL => have := LMc13.out; omega); intro v281 w17 ho hb hg hat; rw [← Ny280.out] at ho; have n0_ := A' (Kd.R_after (ok := (fun _ => True)) (qR HO_6.out) hg hat); have n1_ := A' (hb); have n2_ := A' (ho); clear HO_6; clear HB; clear HO279; have HO_6 := n0_; have HB := n1_; have HO282 := n2_; clear n0_ n1_ n2_; clear ho hb hg hat; have p283 : 0 ≤ (x8_1 : Int) := oD' qA; have q283 : x8_1 < (l0.length : Int) := oD' qA; obtain ⟨ad283, e283, hx283_0, hx283_1, hx283_2⟩ := at_T35 HR0.out x8_1 p283 q283; obtain rfl : ad275 = ad283 := (by injection e283); try replace hx283_0 := qC HB.out hx283_0; try replace hx283_1 := qC HB.out hx283_1; try replace hx283_2 := qC HB.out hx283_2; replace p283 := eq_true p283; replace q283 := eq_true q283) | (go_at_call 41; (with_reducible refine (spec_l05Parts_at.calls _ ((rd_T35 l0 x8_1).f0) ((rd_T35 l0 x8_1).f1) ((rd_T35 l0 x8_1).f2) t284 _ ?side1 A14.out).mono ?_); (case side1 => exact ⟨hx283_0, hx283_1, hx283_2⟩); rintro e w19 ⟨rfl, hb⟩; have n0_ := A' (L' (qR HO_6.out) hb); have n1_ := A' (L' (qR HO282.out) hb); have n2_ := A' (W' (qK0 HB.out) hb); clear HO_6; clear HO282; clear HB; have HO_6 := n0_; have HO282 := n1_; have HB := n2_; clear n0_ n1_ n2_; (try clear hb); (try clear hb2); (try clear hk); (try clear hi)))
         repeat (go_quiet (first | ((with_reducible refine gate_dst (N := 41) rfl ?_); refine Kd.R_lit (Kd.int .i64) _ 2 ?hg (N := 41) ?hd (xs := ([wrap64 ((wrap64 (x7_1 * (wrap64 (((rd_T35 l0 x8_1).f0) + ((rd_T35 l0 x8_1).f1))))) + x7_1)] : List Int)) (inner := [.int .i64 (wrap64 ((wrap64 (x7_1 * (wrap64 (((rd_T35 l0 x8_1).f0) + ((rd_T35 l0 x8_1).f1))))) + x7_1))]) (ok := fun _ => True) (okp := fun _ => True) ?hr ?hp (fun _ hk => hk) trivial (Below.refl _ _) (Nat.le_refl _) (by simp) ?_; (case hd => rfl); (case hg => rfl); (case hr => first | (go_simp; done) | (go_simp; rfl)); (case hp => exact (Reps.one (show Kd.M (Kd.int .i64) _ _ _ (wrap64 ((wrap64 (x7_1 * (wrap64 (((rd_T35 l0 x8_1).f0) + ((rd_T35 l0 x8_1).f1))))) + x7_1)) [.int .i64 (wrap64 ((wrap64 (x7_1 * (wrap64 (((rd_T35 l0 x8_1).f0) + ((rd_T35 l0 x8_1).f1))))) + x7_1))] from rfl) (Reps.none _ _))); intro v278 w15 ho16 hb hg_ hnew_; clear hg_ hnew_; (first | rw [← Ny277.out] at ho16 | (simp only [Int.reduceToNat] at ho16; rw [← Ny277.out] at ho16)); have n0_ := A' (Kd.R_elder' (qR HO_6.out) (Kd.R_base ho16) hb); have n1_ := A' (Kd.R_lower (U' ho16 (Kd.R_lt (qR HO_6.out))) (V' (qK0 HB.out))); have n2_ := A' (W' (qK0 HB.out) hb); clear HO_6; clear HB; have HO_6 := n0_; have HO279 := n1_; have HB := n2_; clear n0_ n1_ n2_; clear hb ho16; obtain ⟨Ao18, co18, eo18⟩ := Kd.R_slice HO_6.out; subst eo18) | ((with_reducible refine gate_builtin (b := .append) (xs := #[.tmp 41, .tmp 42]) rfl ?_); at_builtin; refine Kd.R_append_rows (Kd.int .i64) (w0 := w) w.heap.size rfl (.tmp 41) (.tmp 42) 30 2 (.int .i64 0) 8 rfl Tryz.underlying30 info2 rfl (by decide) (by omega) v278 y277 x6_1 _ _ _ (fun k_ => some k_ ≠ (.slice Ao18 x6_1.length co18 : Value).ownBlock) (fun _ => False) rfl rfl ?aO ?aR (fun _ _ h => h) (fun _ h => h.elim) ?aF ?aB ?aS ?aL ?_; (case aR => repeat (first | exact (Kd.R_reads' HO_6.out).2.2 | (with_reducible refine R' ?_ _) | (with_reducible refine S' ?_ _) | (with_reducible refine T' ?_))); (case aB => exact (qK0 HB.out)); (case aF => exact (fun k_ hk => Kd.fresh' (Kd.R_lt (qR HO_6.out)) k_ hk)); (case aO => exact (by (with_reducible repeat (first | apply B' | apply C' | apply D')); exact Q' HO279.out (fun _ hk => hk.2))); (case aS => exact (V' (qK0 HB.out))); (case aL => have := LMc13.out; omega); intro v281 w17 ho hb hg hat; rw [← Ny280.out] at ho; have n0_ := A' (Kd.R_after (ok := (fun _ => True)) (qR HO_6.out) hg hat); have n1_ := A' (hb); have n2_ := A' (ho); clear HO_6; clear HB; clear HO279; have HO_6 := n0_; have HB := n1_; have HO282 := n2_; clear n0_ n1_ n2_; clear ho hb hg hat; have p283 : 0 ≤ (x8_1 : Int) := oD' qA; have q283 : x8_1 < (l0.length : Int) := oD' qA; obtain ⟨ad283, e283, hx283_0, hx283_1, hx283_2⟩ := at_T35 HR0.out x8_1 p283 q283; obtain rfl : ad275 = ad283 := (by injection e283); try replace hx283_0 := qC HB.out hx283_0; try replace hx283_1 := qC HB.out hx283_1; try replace hx283_2 := qC HB.out hx283_2; replace p283 := eq_true p283; replace q283 := eq_true q283) | (go_at_call 41; (with_reducible refine (spec_l05Parts_at.calls _ ((rd_T35 l0 x8_1).f0) ((rd_T35 l0 x8_1).f1) ((rd_T35 l0 x8_1).f2) t284 _ ?side1 A14.out).mono ?_); (case side1 => exact ⟨hx283_0, hx283_1, hx283_2⟩); rintro e w19 ⟨rfl, hb⟩; have n0_ := A' (L' (qR HO_6.out) hb); have n1_ := A' (L' (qR HO282.out) hb); have n2_ := A' (W' (qK0 HB.out) hb); clear HO_6; clear HO282; clear HB; have HO_6 := n0_; have HO282 := n1_; have HB := n2_; clear n0_ n1_ n2_; (try clear hb); (try clear hb2); (try clear hk); (try clear hi))); try go_wp2_with (first | ((with_reducible refine gate_dst (N := 41) rfl ?_); refine Kd.R_lit (Kd.int .i64) _ 2 ?hg (N := 41) ?hd (xs := ([wrap64 ((wrap64 (x7_1 * (wrap64 (((rd_T35 l0 x8_1).f0) + ((rd_T35 l0 x8_1).f1))))) + x7_1)] : List Int)) (inner := [.int .i64 (wrap64 ((wrap64 (x7_1 * (wrap64 (((rd_T35 l0 x8_1).f0) + ((rd_T35 l0 x8_1).f1))))) + x7_1))]) (ok := fun _ => True) (okp := fun _ => True) ?hr ?hp (fun _ hk => hk) trivial (Below.refl _ _) (Nat.le_refl _) (by simp) ?_; (case hd => rfl); (case hg => rfl); (case hr => first | (go_simp; done) | (go_simp; rfl)); (case hp => exact (Reps.one (show Kd.M (Kd.int .i64) _ _ _ (wrap64 ((wrap64 (x7_1 * (wrap64 (((rd_T35 l0 x8_1).f0) + ((rd_T35 l0 x8_1).f1))))) + x7_1)) [.int .i64 (wrap64 ((wrap64 (x7_1 * (wrap64 (((rd_T35 l0 x8_1).f0) + ((rd_T35 l0 x8_1).f1))))) + x7_1))] from rfl) (Reps.none _ _))); intro v278 w15 ho16 hb hg_ hnew_; clear hg_ hnew_; (first | rw [← Ny277.out] at ho16 | (simp only [Int.reduceToNat] at ho16; rw [← Ny277.out] at ho16)); have n0_ := A' (Kd.R_elder' (qR HO_6.out) (Kd.R_base ho16) hb); have n1_ := A' (Kd.R_lower (U' ho16 (Kd.R_lt (qR HO_6.out))) (V' (qK0 HB.out))); have n2_ := A' (W' (qK0 HB.out) hb); clear HO_6; clear HB; have HO_6 := n0_; have HO279 := n1_; have HB := n2_; clear n0_ n1_ n2_; clear hb ho16; obtain ⟨Ao18, co18, eo18⟩ := Kd.R_slice HO_6.out; subst eo18) | ((with_reducible refine gate_builtin (b := .append) (xs := #[.tmp 41, .tmp 42]) rfl ?_); at_builtin; refine Kd.R_append_rows (Kd.int .i64) (w0 := w) w.heap.size rfl (.tmp 41) (.tmp 42) 30 2 (.int .i64 0) 8 rfl Tryz.underlying30 info2 rfl (by decide) (by omega) v278 y277 x6_1 _ _ _ (fun k_ => some k_ ≠ (.slice Ao18 x6_1.length co18 : Value).ownBlock) (fun _ => False) rfl rfl ?aO ?aR (fun _ _ h => h) (fun _ h => h.elim) ?aF ?aB ?aS ?aL ?_; (case aR => repeat (first | exact (Kd.R_reads' HO_6.out).2.2 | (with_reducible refine R' ?_ _) | (with_reducible refine S' ?_ _) | (with_reducible refine T' ?_))); (case aB => exact (qK0 HB.out)); (case aF => exact (fun k_ hk => Kd.fresh' (Kd.R_lt (qR HO_6.out)) k_ hk)); (case aO => exact (by (with_reducible repeat (first | apply B' | apply C' | apply D')); exact Q' HO279.out (fun _ hk => hk.2))); (case aS => exact (V' (qK0 HB.out))); (case aL => have := LMc13.out; omega); intro v281 w17 ho hb hg hat; rw [← Ny280.out] at ho; have n0_ := A' (Kd.R_after (ok := (fun _ => True)) (qR HO_6.out) hg hat); have n1_ := A' (hb); have n2_ := A' (ho); clear HO_6; clear HB; clear HO279; have HO_6 := n0_; have HB := n1_; have HO282 := n2_; clear n0_ n1_ n2_; clear ho hb hg hat; have p283 : 0 ≤ (x8_1 : Int) := oD' qA; have q283 : x8_1 < (l0.length : Int) := oD' qA; obtain ⟨ad283, e283, hx283_0, hx283_1, hx283_2⟩ := at_T35 HR0.out x8_1 p283 q283; obtain rfl : ad275 = ad283 := (by injection e283); try replace hx283_0 := qC HB.out hx283_0; try replace hx283_1 := qC HB.out hx283_1; try replace hx283_2 := qC HB.out hx283_2; replace p283 := eq_true p283; replace q283 := eq_true q283) | (go_at_call 41; (with_reducible refine (spec_l05Parts_at.calls _ ((rd_T35 l0 x8_1).f0) ((rd_T35 l0 x8_1).f1) ((rd_T35 l0 x8_1).f2) t284 _ ?side1 A14.out).mono ?_); (case side1 => exact ⟨hx283_0, hx283_1, hx283_2⟩); rintro e w19 ⟨rfl, hb⟩; have n0_ := A' (L' (qR HO_6.out) hb); have n1_ := A' (L' (qR HO282.out) hb); have n2_ := A' (W' (qK0 HB.out) hb); clear HO_6; clear HO282; clear HB; have HO_6 := n0_; have HO282 := n1_; have HB := n2_; clear n0_ n1_ n2_; (try clear hb); (try clear hb2); (try clear hk); (try clear hi))))
         go_roundg k1
         case measure => have := HK1.out; omega
         case rel => exact ⟨(y280), (wrap64 (x7_1 * t284)), (wrap64 (x8_1 - 1)), qS, qS, H', ⟨by have := HK1.out; omega⟩, ⟨by (with_reducible repeat (first | apply B' | apply C' | apply D')); exact Q' HO282.out (fun _ hk => trivial)⟩, ⟨qK0 HB.out⟩⟩
        ·rw [if_neg c13] at H; exact absurd H (by simp)
       ·rw [if_neg c12] at H; exact absurd H (by simp)
      ·rw [if_neg c11] at H; exact absurd H (by simp)
     ·rw [if_neg c10] at H; have c10b0 : decide (0 ≤ x8_1) = false := dF' c10; clear c10; simp only [Option.some.injEq, Prod.mk.injEq] at H; obtain ⟨rfl, rfl⟩ := H; go_wp2
      repeat (go_quiet (fail); try go_wp2)
      go_ret2; exact ⟨_, qE, qR HO_6.out, qK0 HB.out⟩
  ·replace c6 := Bool.eq_false_iff.mpr c6; subst c6; have H1 : (some (([] : List Int), 2)) = some (r1, r2) := by rw [if_neg (show ¬ (false = true) by decide)] at H; exact H
   clear H; have H := H1; clear H1; simp only [Option.some.injEq, Prod.mk.injEq] at H; obtain ⟨rfl, rfl⟩ := H; go_enter Tryz.func14, Tryz.ntmps14; go_wp2_with (first | (go_at_call 37; (with_reducible refine (spec_l05Ok.calls k _ _ l0 true _ ?side1 ?side2 A3.out).mono ?_); (case side1 => exact qT HR0.out); (case side2 => exact HC0.out); rintro e w20 ⟨rfl, hb⟩; have n0_ := A' (W' (qK0 HB.out) hb); clear HB; have HB := n0_; clear n0_; (try clear hb); (try clear hb2); (try clear hk); (try clear hi)) | (go_at_call 38; (with_reducible refine (spec_l05Way.calls a1 false _ A5.out).mono ?_); rintro e w' ⟨rfl, ⟨nd, rfl⟩⟩; (try first | exact ⟨rfl, _, World.drewN_drewN _ _ _⟩ | exact ⟨rfl, _, Eq.trans (World.drewN_drewN _ _ _) (congrArg (World.drewN _) (Nat.add_assoc _ _ _))⟩)))
   repeat (go_quiet (first | (go_at_call 37; (with_reducible refine (spec_l05Ok.calls k _ _ l0 true _ ?side1 ?side2 A3.out).mono ?_); (case side1 => exact qT HR0.out); (case side2 => exact HC0.out); rintro e w20 ⟨rfl, hb⟩; have n0_ := A' (W' (qK0 HB.out) hb); clear HB; have HB := n0_; clear n0_; (try clear hb); (try clear hb2); (try clear hk); (try clear hi)) | (go_at_call 38; (with_reducible refine (spec_l05Way.calls a1 false _ A5.out).mono ?_); rintro e w' ⟨rfl, ⟨nd, rfl⟩⟩; (try first | exact ⟨rfl, _, World.drewN_drewN _ _ _⟩ | exact ⟨rfl, _, Eq.trans (World.drewN_drewN _ _ _) (congrArg (World.drewN _) (Nat.add_assoc _ _ _))⟩))); try go_wp2_with (first | (go_at_call 37; (with_reducible refine (spec_l05Ok.calls k _ _ l0 true _ ?side1 ?side2 A3.out).mono ?_); (case side1 => exact qT HR0.out); (case side2 => exact HC0.out); rintro e w20 ⟨rfl, hb⟩; have n0_ := A' (W' (qK0 HB.out) hb); clear HB; have HB := n0_; clear n0_; (try clear hb); (try clear hb2); (try clear hk); (try clear hi)) | (go_at_call 38; (with_reducible refine (spec_l05Way.calls a1 false _ A5.out).mono ?_); rintro e w' ⟨rfl, ⟨nd, rfl⟩⟩; (try first | exact ⟨rfl, _, World.drewN_drewN _ _ _⟩ | exact ⟨rfl, _, Eq.trans (World.drewN_drewN _ _ _) (congrArg (World.drewN _) (Nat.add_assoc _ _ _))⟩))))
   go_ret2; exact ⟨_, qE, by first | exact Kd.R_nil _ _ _ _ _ | exact Kd.N_nil _ _ _ _ _ | exact Kd.V_nil _ _ _ _ _ | exact Kd.Q_nil _ _ _ _ _ | exact Kd.S_nil _ _ _ _ _, qK0 HB.out⟩
 ·replace c4 := Bool.eq_false_iff.mpr c4; subst c4; have H1 : (some (([] : List Int), 1)) = some (r1, r2) := by rw [if_neg (show ¬ (false = true) by decide)] at H; exact H
  clear H; have H := H1; clear H1; simp only [Option.some.injEq, Prod.mk.injEq] at H; obtain ⟨rfl, rfl⟩ := H; go_enter Tryz.func14, Tryz.ntmps14; go_wp2_with (first | (go_at_call 37; (with_reducible refine (spec_l05Ok.calls k _ _ l0 false _ ?side1 ?side2 A3.out).mono ?_); (case side1 => exact qT HR0.out); (case side2 => exact HC0.out); rintro e w21 ⟨rfl, hb⟩; have n0_ := A' (W' (qK0 HB.out) hb); clear HB; have HB := n0_; clear n0_; (try clear hb); (try clear hb2); (try clear hk); (try clear hi)))
  repeat (go_quiet (first | (go_at_call 37; (with_reducible refine (spec_l05Ok.calls k _ _ l0 false _ ?side1 ?side2 A3.out).mono ?_); (case side1 => exact qT HR0.out); (case side2 => exact HC0.out); rintro e w21 ⟨rfl, hb⟩; have n0_ := A' (W' (qK0 HB.out) hb); clear HB; have HB := n0_; clear n0_; (try clear hb); (try clear hb2); (try clear hk); (try clear hi))); try go_wp2_with (first | (go_at_call 37; (with_reducible refine (spec_l05Ok.calls k _ _ l0 false _ ?side1 ?side2 A3.out).mono ?_); (case side1 => exact qT HR0.out); (case side2 => exact HC0.out); rintro e w21 ⟨rfl, hb⟩; have n0_ := A' (W' (qK0 HB.out) hb); clear HB; have HB := n0_; clear n0_; (try clear hb); (try clear hb2); (try clear hk); (try clear hi))))
  go_ret2; exact ⟨_, qE, by first | exact Kd.R_nil _ _ _ _ _ | exact Kd.N_nil _ _ _ _ _ | exact Kd.V_nil _ _ _ _ _ | exact Kd.Q_nil _ _ _ _ _ | exact Kd.S_nil _ _ _ _ _, qK0 HB.out⟩

/-! ### spec_l05Any: function 42 -/
def spec_l05Any.f (k : Nat) (s0_0 : List Int) (s0_1 : Int) (s0_2 : Int) : Option (Int × Int × Bool × Int × Int) := (spec_l05Bent.f k s0_0 s0_1 s0_2).bind fun bt286 => (if (bt286.1.length : Int) = 0 then (some (0, 0, false, bt286.2.1, bt286.2.2)) else (if 0 < (bt286.1.length : Int) then (some ((rd_T35 bt286.1 0).f0, (rd_T35 bt286.1 0).f1, (rd_T35 bt286.1 0).f2, bt286.2.1, bt286.2.2)) else (none)))
theorem spec_l05Any.mono : ∀ a0 a1 a2 k, LeO (spec_l05Any.f k a0 a1 a2) (spec_l05Any.f (k + 1) a0 a1 a2) := by
 intro a0 a1 a2 k
 unfold spec_l05Any.f
 repeat' first
   | (with_reducible exact spec_l05Bent.mono _ _ _ _)
   | (with_reducible exact LeO.refl _)
   | (with_reducible exact LeO.none _)
   | (with_reducible refine LeO.ite ?_ ?_)
   | (with_reducible refine LeO.bind ?_ (fun _ => ?_))
   | exact spec_l05Bent.mono _ _ _ _
   | exact LeO.none _
   | refine LeO.ite ?_ ?_
   | refine LeO.bind ?_ (fun _ => ?_)
set_option maxHeartbeats 8000000 in
set_option maxRecDepth 100000 in
theorem spec_l05Any.calls (k : Nat) (g : Nat) (s0_0 : List Int) (s0_1 : Int) (s0_2 : Int) (r1 : Int) (r2 : Int) (r3 : Bool) (r4 : Int) (r5 : Int) (w0 w : World) (hI : IsS76 w0 w g s0_0 s0_1 s0_2) (hB : Below w0.heap.size w0 w) (h : spec_l05Any.f k s0_0 s0_1 s0_2 = some (r1, r2, r3, r4, r5)) :
  Calls Tryz.prog 42 #[.pointer (some ⟨g, 0, none⟩)] w fun e w' => e = .returned (.agg #[.int .i64 r1, .int .i64 r2, .bool r3]) ∧ IsS76 w0 w' g s0_0 r4 r5 ∧ Below w0.heap.size w0 w' ∧ KeepBut w w' g none := by
 have hu35 := Tryz.underlying35; have HI0 := A' hI; have HK := A' (KeepBut.refl w g none); have HL := A' hB.size; clear hI; have HW0 := A' hB.size; have HB := A' hB; clear hB; have H : ((spec_l05Bent.f k s0_0 s0_1 s0_2).bind fun bt286 => (if (bt286.1.length : Int) = 0 then (some (0, 0, false, bt286.2.1, bt286.2.2)) else (if 0 < (bt286.1.length : Int) then (some ((rd_T35 bt286.1 0).f0, (rd_T35 bt286.1 0).f1, (rd_T35 bt286.1 0).f2, bt286.2.1, bt286.2.2)) else (none)))) = some (r1, r2, r3, r4, r5) := h; clear h; replace H := Option.bind_eq_some_iff.mp H; obtain ⟨⟨t286, t289, t290⟩, A20, H⟩ := H; replace H : (if (t286.length : Int) = 0 then (some (0, 0, false, t289, t290)) else (if 0 < (t286.length : Int) then (some ((rd_T35 t286 0).f0, (rd_T35 t286 0).f1, (rd_T35 t286 0).f2, t289, t290)) else (none))) = some (r1, r2, r3, r4, r5) := H; have A2 := A' A20; clear A20
 by_cases c3 : (t286.length : Int) = 0
 ·rw [if_pos c3] at H; have c3b0 : ((t286.length : Int) == 0) = true := beq_iff_eq.mpr c3; have c3b1 : ((t286.length : Int) != 0) = false := bne_eq_false_iff_eq.mpr c3; clear c3; simp only [Option.some.injEq, Prod.mk.injEq] at H; obtain ⟨rfl, rfl, rfl, rfl, rfl⟩ := H; go_enter Tryz.func42, Tryz.ntmps42; go_wp2_with (first | ((with_reducible refine gate_dst (N := 2) rfl ?_); refine box_event ?hg (N := 2) ?hd (cs := #[.int .i64 0, .int .i64 0, .bool false]) (t := 35) ?hr ?_; (case hd => rfl); (case hg => rfl); (case hr => first | (go_simp; done) | (go_simp; rfl)); intro gb285 hg w4 hbox hb; have n0_ := A' (IsS76.below (by repeat (first | (with_reducible first | exact HI0.out | apply IsS76.alloc | apply IsS76.drewN | apply IsS76.drew | apply IsS76.set_1 | apply IsS76.set_2) | exact HI0.out)) hb); have n1_ := A' (KeepBut.trans (by repeat (first | (with_reducible first | exact HK.out | apply KeepBut.set_ | apply keep_drewN | apply keep_drew | apply keep_alloc) | exact HK.out)) (KeepBut.of_below hb g none) (.inl rfl)); have n2_ := A' (W' (by repeat (first | (with_reducible first | exact HB.out | apply K' | apply F' | apply J' | refine E' ?_ (IsS76.ge HI0.out)) | exact HB.out)) hb); have n3_ := A' (hbox); have n4_ := A' ((by rw [hg]; exact (keep_size (w := w) (g := g) (row := none) (by repeat (first | (with_reducible first | exact HK.out | apply KeepBut.set_ | apply keep_drewN | apply keep_drew | apply keep_alloc) | exact HK.out))) : w.heap.size ≤ gb285)); have n5_ := A' ((Nat.le_trans HW0.out (by rw [hg]; exact (keep_size (w := w) (g := g) (row := none) (by repeat (first | (with_reducible first | exact HK.out | apply KeepBut.set_ | apply keep_drewN | apply keep_drew | apply keep_alloc) | exact HK.out))) : w.heap.size ≤ gb285) : w0.heap.size ≤ gb285)); have n6_ := A' ((by rw [hg]; exact Nat.ne_of_lt (IsS76.lt (show IsS76 w0 _ g s0_0 s0_1 s0_2 from by repeat (first | (with_reducible first | exact HI0.out | apply IsS76.alloc | apply IsS76.drewN | apply IsS76.drew | apply IsS76.set_1 | apply IsS76.set_2) | exact HI0.out))) : g ≠ gb285)); have n7_ := A' ((by rw [hg]; exact Nat.ne_of_gt (IsS76.lt (show IsS76 w0 _ g s0_0 s0_1 s0_2 from by repeat (first | (with_reducible first | exact HI0.out | apply IsS76.alloc | apply IsS76.drewN | apply IsS76.drew | apply IsS76.set_1 | apply IsS76.set_2) | exact HI0.out))) : gb285 ≠ g)); clear HI0; clear HK; clear HB; have HI0 := n0_; have HK := n1_; have HB := n2_; have BK285 := n3_; have GW285 := n4_; have GE285 := n5_; have NB0_285 := n6_; have NB285_0 := n7_; clear n0_ n1_ n2_ n3_ n4_ n5_ n6_ n7_; clear hb hbox hg) | ((with_reducible refine gate_callee (f := 45) rfl ?_); refine goesL_ (some 5) rfl rfl Tryz.func45 (by kernel_rfl) rfl #[.pointer (some ⟨g, 0, none⟩)] rfl (by (try simp only [List.map_toArray, List.map_cons, List.map_nil]); first | done | rfl | (simp only [List.length_drop, List.length_take]; rfl)) ?_; (with_reducible refine (spec_l05Bent.calls k g s0_0 s0_1 s0_2 t286 t289 t290 w0 _ ?side1 ?side2 A2.out).mono ?_); (case side1 => repeat (first | (with_reducible first | exact HI0.out | apply IsS76.alloc | apply IsS76.drewN | apply IsS76.drew | apply IsS76.set_1 | apply IsS76.set_2 | refine IsS76.far ?_ NB0_285.out _) | exact HI0.out)); (case side2 => repeat (first | (with_reducible first | exact HB.out | apply K' | apply F' | apply J' | refine E' ?_ (IsS76.ge HI0.out) | refine E' ?_ GE285.out) | exact HB.out)); rintro e w5 ⟨v287, rfl, ho0, hi, hb, hk⟩; refine ⟨_, rfl, ?_⟩; have n0_ := A' (KeepBut.blk hk (g' := gb285) (o := .cells #[.int .i64 0, .int .i64 0, .bool false] 35 (0, 0)) (qB BK285.out) NB285_0.out (by simp)); have n1_ := A' (Kd.R_lower (Kd.R_newB ho0 (g := gb285) (o := .cells #[.int .i64 0, .int .i64 0, .bool false] 35 (0, 0)) (qB BK285.out)) (keep_size (w := w) (g := g) (row := none) (by repeat (first | (with_reducible first | exact HK.out | apply KeepBut.set_ | apply keep_drewN | apply keep_drew | apply keep_alloc | refine keep_far ?_ GW285.out _) | exact HK.out)))); have n2_ := A' (KeepBut.trans (by repeat (first | (with_reducible first | exact HK.out | apply KeepBut.set_ | apply keep_drewN | apply keep_drew | apply keep_alloc | refine keep_far ?_ GW285.out _) | exact HK.out)) hk (.inl rfl)); have n3_ := A' (hb); have n4_ := A' (hi); clear BK285; clear HK; clear HB; clear HI0; have BK285 := n0_; have HO288 := n1_; have HK := n2_; have HB := n3_; have HI0 := n4_; clear n0_ n1_ n2_ n3_ n4_; (try clear hb); (try clear hb2); (try clear hk); (try clear hi); (try clear ho0); obtain ⟨Ao6, co6, eo6⟩ := Kd.R_slice HO288.out; subst eo6; have hnb7 := NB285_0.out; have hnc7 := NB0_285.out; have hcz8_0 : w5.cell? ⟨gb285, 0, none⟩ = some (.int .i64 0) := (N' BK285.out 0).trans rfl; have hcz8_1 : w5.cell? ⟨gb285, 1, none⟩ = some (.int .i64 0) := (N' BK285.out 1).trans rfl; have hcz8_2 : w5.cell? ⟨gb285, 2, none⟩ = some (.bool false) := (N' BK285.out 2).trans rfl; have hfz8_0 := Y' BK285.out 0; have hfz8_1 := Y' BK285.out 1; have hfz8_2 := Y' BK285.out 2)); refine bodyPost_ret (results_cell_row rfl _ _ gb285 35 #[.int .i64 0, .int .i64 0, .bool false] (0, 0) _ rfl (by (with_reducible repeat (first | refine G' ?_ _ | refine I' ?_ | refine hA' ?_ _)); refine blk_put (cs := #[.int .i64 0, .int .i64 0, .bool false]) ?_ 2 _ rfl; (with_reducible repeat (first | refine G' ?_ _ | refine I' ?_ | refine hA' ?_ _)); refine blk_put (cs := #[.int .i64 0, .int .i64 0, .bool false]) ?_ 1 _ rfl; (with_reducible repeat (first | refine G' ?_ _ | refine I' ?_ | refine hA' ?_ _)); refine blk_put (cs := #[.int .i64 0, .int .i64 0, .bool false]) ?_ 0 _ rfl; (with_reducible repeat (first | refine G' ?_ _ | refine I' ?_ | refine hA' ?_ _)); exact BK285.out) Tryz.underlying35 rfl (by kernel_rfl)) rfl ?_; exact ⟨qE, by repeat (first | (with_reducible first | exact HI0.out | apply IsS76.alloc | apply IsS76.drewN | apply IsS76.drew | apply IsS76.set_1 | apply IsS76.set_2 | refine IsS76.far ?_ NB0_285.out _) | exact HI0.out), by repeat (first | (with_reducible first | exact HB.out | apply K' | apply F' | apply J' | refine E' ?_ (IsS76.ge HI0.out) | refine E' ?_ GE285.out) | exact HB.out), by repeat (first | (with_reducible first | exact HK.out | apply KeepBut.set_ | apply keep_drewN | apply keep_drew | apply keep_alloc | refine keep_far ?_ GW285.out _) | exact HK.out)⟩
 ·rw [if_neg c3] at H; have c3b0 : ((t286.length : Int) == 0) = false := beq_eq_false_iff_ne.mpr c3; have c3b1 : ((t286.length : Int) != 0) = true := bne_iff_ne.mpr c3; have c3b2 : ¬ (t286 = []) := fun h_ => c3 (by rw [h_]; rfl)
  by_cases c9 : 0 < (t286.length : Int)
  ·rw [if_pos c9] at H; have c9b0 : decide (0 < (t286.length : Int)) = true := dT' c9; have c9b1 : decide (0 < t286.length) = true := dT' (by omega); clear c9; simp only [Option.some.injEq, Prod.mk.injEq] at H; obtain ⟨rfl, rfl, rfl, rfl, rfl⟩ := H; go_enter Tryz.func42, Tryz.ntmps42; go_wp2_with (first | ((with_reducible refine gate_dst (N := 2) rfl ?_); refine box_event ?hg (N := 2) ?hd (cs := #[.int .i64 0, .int .i64 0, .bool false]) (t := 35) ?hr ?_; (case hd => rfl); (case hg => rfl); (case hr => first | (go_simp; done) | (go_simp; rfl)); intro gb285 hg w10 hbox hb; have n0_ := A' (IsS76.below (by repeat (first | (with_reducible first | exact HI0.out | apply IsS76.alloc | apply IsS76.drewN | apply IsS76.drew | apply IsS76.set_1 | apply IsS76.set_2) | exact HI0.out)) hb); have n1_ := A' (KeepBut.trans (by repeat (first | (with_reducible first | exact HK.out | apply KeepBut.set_ | apply keep_drewN | apply keep_drew | apply keep_alloc) | exact HK.out)) (KeepBut.of_below hb g none) (.inl rfl)); have n2_ := A' (W' (by repeat (first | (with_reducible first | exact HB.out | apply K' | apply F' | apply J' | refine E' ?_ (IsS76.ge HI0.out)) | exact HB.out)) hb); have n3_ := A' (hbox); have n4_ := A' ((by rw [hg]; exact (keep_size (w := w) (g := g) (row := none) (by repeat (first | (with_reducible first | exact HK.out | apply KeepBut.set_ | apply keep_drewN | apply keep_drew | apply keep_alloc) | exact HK.out))) : w.heap.size ≤ gb285)); have n5_ := A' ((Nat.le_trans HW0.out (by rw [hg]; exact (keep_size (w := w) (g := g) (row := none) (by repeat (first | (with_reducible first | exact HK.out | apply KeepBut.set_ | apply keep_drewN | apply keep_drew | apply keep_alloc) | exact HK.out))) : w.heap.size ≤ gb285) : w0.heap.size ≤ gb285)); have n6_ := A' ((by rw [hg]; exact Nat.ne_of_lt (IsS76.lt (show IsS76 w0 _ g s0_0 s0_1 s0_2 from by repeat (first | (with_reducible first | exact HI0.out | apply IsS76.alloc | apply IsS76.drewN | apply IsS76.drew | apply IsS76.set_1 | apply IsS76.set_2) | exact HI0.out))) : g ≠ gb285)); have n7_ := A' ((by rw [hg]; exact Nat.ne_of_gt (IsS76.lt (show IsS76 w0 _ g s0_0 s0_1 s0_2 from by repeat (first | (with_reducible first | exact HI0.out | apply IsS76.alloc | apply IsS76.drewN | apply IsS76.drew | apply IsS76.set_1 | apply IsS76.set_2) | exact HI0.out))) : gb285 ≠ g)); clear HI0; clear HK; clear HB; have HI0 := n0_; have HK := n1_; have HB := n2_; have BK285 := n3_; have GW285 := n4_; have GE285 := n5_; have NB0_285 := n6_; have NB285_0 := n7_; clear n0_ n1_ n2_ n3_ n4_ n5_ n6_ n7_; clear hb hbox hg) | ((with_reducible refine gate_callee (f := 45) rfl ?_); refine goesL_ (some 5) rfl rfl Tryz.func45 (by kernel_rfl) rfl #[.pointer (some ⟨g, 0, none⟩)] rfl (by (try simp only [List.map_toArray, List.map_cons, List.map_nil]); first | done | rfl | (simp only [List.length_drop, List.length_take]; rfl)) ?_; (with_reducible refine (spec_l05Bent.calls k g s0_0 s0_1 s0_2 t286 t289 t290 w0 _ ?side1 ?side2 A2.out).mono ?_); (case side1 => repeat (first | (with_reducible first | exact HI0.out | apply IsS76.alloc | apply IsS76.drewN | apply IsS76.drew | apply IsS76.set_1 | apply IsS76.set_2 | refine IsS76.far ?_ NB0_285.out _) | exact HI0.out)); (case side2 => repeat (first | (with_reducible first | exact HB.out | apply K' | apply F' | apply J' | refine E' ?_ (IsS76.ge HI0.out) | refine E' ?_ GE285.out) | exact HB.out)); rintro e w11 ⟨v287, rfl, ho0, hi, hb, hk⟩; refine ⟨_, rfl, ?_⟩; have n0_ := A' (KeepBut.blk hk (g' := gb285) (o := .cells #[.int .i64 0, .int .i64 0, .bool false] 35 (0, 0)) (qB BK285.out) NB285_0.out (by simp)); have n1_ := A' (Kd.R_lower (Kd.R_newB ho0 (g := gb285) (o := .cells #[.int .i64 0, .int .i64 0, .bool false] 35 (0, 0)) (qB BK285.out)) (keep_size (w := w) (g := g) (row := none) (by repeat (first | (with_reducible first | exact HK.out | apply KeepBut.set_ | apply keep_drewN | apply keep_drew | apply keep_alloc | refine keep_far ?_ GW285.out _) | exact HK.out)))); have n2_ := A' (KeepBut.trans (by repeat (first | (with_reducible first | exact HK.out | apply KeepBut.set_ | apply keep_drewN | apply keep_drew | apply keep_alloc | refine keep_far ?_ GW285.out _) | exact HK.out)) hk (.inl rfl)); have n3_ := A' (hb); have n4_ := A' (hi); clear BK285; clear HK; clear HB; clear HI0; have BK285 := n0_; have HO288 := n1_; have HK := n2_; have HB := n3_; have HI0 := n4_; clear n0_ n1_ n2_ n3_ n4_; (try clear hb); (try clear hb2); (try clear hk); (try clear hi); (try clear ho0); obtain ⟨Ao12, co12, eo12⟩ := Kd.R_slice HO288.out; subst eo12; have p291 : 0 ≤ (0 : Int) := (by omega); have q291 : 0 < (t286.length : Int) := oD' qA; obtain ⟨ad291, e291, hx291_0, hx291_1, hx291_2⟩ := at_T35 (Kd.R_reads' HO288.out).2.2 0 p291 q291; cases e291; have qi291 : (0 < t286.length) = True := eq_true (by omega); (try rw [show ((0 : Int)).toNat = 0 from rfl] at hx291_0); (try rw [show 0 * 3 = 0 from rfl] at hx291_0); (try rw [Addr.add_zero'] at hx291_0); (try rw [show ((0 : Int)).toNat = 0 from rfl] at hx291_1); (try rw [show 0 * 3 = 0 from rfl] at hx291_1); (try rw [Addr.add_zero'] at hx291_1); (try rw [show ((0 : Int)).toNat = 0 from rfl] at hx291_2); (try rw [show 0 * 3 = 0 from rfl] at hx291_2); (try rw [Addr.add_zero'] at hx291_2); replace p291 := eq_true p291; replace q291 := eq_true q291; have hnb13 := NB285_0.out; have hnc13 := NB0_285.out; have hcz14_0 : w11.cell? ⟨gb285, 0, none⟩ = some (.int .i64 0) := (N' BK285.out 0).trans rfl; have hcz14_1 : w11.cell? ⟨gb285, 1, none⟩ = some (.int .i64 0) := (N' BK285.out 1).trans rfl; have hcz14_2 : w11.cell? ⟨gb285, 2, none⟩ = some (.bool false) := (N' BK285.out 2).trans rfl; have hfz14_0 := Y' BK285.out 0; have hfz14_1 := Y' BK285.out 1; have hfz14_2 := Y' BK285.out 2)); refine bodyPost_ret (results_cell_row rfl _ _ gb285 35 #[.int .i64 ((rd_T35 t286 0).f0), .int .i64 ((rd_T35 t286 0).f1), .bool ((rd_T35 t286 0).f2)] (0, 0) _ rfl (by (with_reducible repeat (first | refine G' ?_ _ | refine I' ?_ | refine hA' ?_ _)); refine blk_put (cs := #[.int .i64 ((rd_T35 t286 0).f0), .int .i64 ((rd_T35 t286 0).f1), .bool false]) ?_ 2 _ rfl; (with_reducible repeat (first | refine G' ?_ _ | refine I' ?_ | refine hA' ?_ _)); refine blk_put (cs := #[.int .i64 ((rd_T35 t286 0).f0), .int .i64 0, .bool false]) ?_ 1 _ rfl; (with_reducible repeat (first | refine G' ?_ _ | refine I' ?_ | refine hA' ?_ _)); refine blk_put (cs := #[.int .i64 0, .int .i64 0, .bool false]) ?_ 0 _ rfl; (with_reducible repeat (first | refine G' ?_ _ | refine I' ?_ | refine hA' ?_ _)); exact BK285.out) Tryz.underlying35 rfl (by kernel_rfl)) rfl ?_; exact ⟨qE, by repeat (first | (with_reducible first | exact HI0.out | apply IsS76.alloc | apply IsS76.drewN | apply IsS76.drew | apply IsS76.set_1 | apply IsS76.set_2 | refine IsS76.far ?_ NB0_285.out _) | exact HI0.out), by repeat (first | (with_reducible first | exact HB.out | apply K' | apply F' | apply J' | refine E' ?_ (IsS76.ge HI0.out) | refine E' ?_ GE285.out) | exact HB.out), by repeat (first | (with_reducible first | exact HK.out | apply KeepBut.set_ | apply keep_drewN | apply keep_drew | apply keep_alloc | refine keep_far ?_ GW285.out _) | exact HK.out)⟩
  ·rw [if_neg c9] at H; exact absurd H (by simp)

/-! ### spec_DrawTurnPurchase: function 15 -/
def spec_DrawTurnPurchase.f (k : Nat) (l0 : List Int) : Option (Int × Int × Bool) := (spec_l00From.f l0).bind fun bt293 => ((spec_l05Any.f k bt293.1 bt293.2.1 bt293.2.2).bind fun bt297 => (some (bt297.1, bt297.2.1, bt297.2.2.1)))
theorem spec_DrawTurnPurchase.mono : ∀ a0 k, LeO (spec_DrawTurnPurchase.f k a0) (spec_DrawTurnPurchase.f (k + 1) a0) := by
 intro a0 k
 unfold spec_DrawTurnPurchase.f
 repeat' first
   | (with_reducible exact spec_l05Any.mono _ _ _ _)
   | (with_reducible exact LeO.refl _)
   | (with_reducible exact LeO.none _)
   | (with_reducible refine LeO.ite ?_ ?_)
   | (with_reducible refine LeO.bind ?_ (fun _ => ?_))
   | exact spec_l05Any.mono _ _ _ _
   | exact LeO.none _
   | refine LeO.ite ?_ ?_
   | refine LeO.bind ?_ (fun _ => ?_)
set_option maxHeartbeats 8000000 in
set_option maxRecDepth 100000 in
theorem spec_DrawTurnPurchase.calls (k : Nat) (A0 : Option Addr) (c0 : Nat) (l0 : List Int) (r1 : Int) (r2 : Int) (r3 : Bool) (w : World) (hr0 : Kd.C (Kd.int .u8) w A0 l0.length l0) (hc0 : l0.length ≤ c0) (h : spec_DrawTurnPurchase.f k l0 = some (r1, r2, r3)) :
  Calls Tryz.prog 15 #[.slice A0 l0.length c0] w fun e w' => e = .returned (.agg #[.int .i64 r1, .int .i64 r2, .bool r3]) ∧ Below w.heap.size w w' := by
 have hu35 := Tryz.underlying35; have HR0 := A' hr0; have HC0 := A' hc0; clear hr0 hc0; have HB := A' (Below.refl w.heap.size w); have H : ((spec_l00From.f l0).bind fun bt293 => ((spec_l05Any.f k bt293.1 bt293.2.1 bt293.2.2).bind fun bt297 => (some (bt297.1, bt297.2.1, bt297.2.2.1)))) = some (r1, r2, r3) := h; clear h; replace H := Option.bind_eq_some_iff.mp H; obtain ⟨⟨t293, t294, t295⟩, A20, H⟩ := H; replace H : ((spec_l05Any.f k t293 t294 t295).bind fun bt297 => (some (bt297.1, bt297.2.1, bt297.2.2.1))) = some (r1, r2, r3) := H; have A2 := A' A20; clear A20; replace H := Option.bind_eq_some_iff.mp H; obtain ⟨⟨t297, t298, t299, t300, t301⟩, A30, H⟩ := H; replace H : (some (t297, t298, t299)) = some (r1, r2, r3) := H; have A3 := A' A30; clear A30; simp only [Option.some.injEq, Prod.mk.injEq] at H; obtain ⟨rfl, rfl, rfl⟩ := H; go_enter Tryz.func15, Tryz.ntmps15; go_wp2_with (first | ((with_reducible refine gate_dst (N := 2) rfl ?_); refine box_event ?hg (N := 2) ?hd (cs := #[.int .i64 0, .int .i64 0, .bool false]) (t := 35) ?hr ?_; (case hd => rfl); (case hg => rfl); (case hr => first | (go_simp; done) | (go_simp; rfl)); intro gb292 hg w4 hbox hb; have n0_ := A' (W' (qK0 HB.out) hb); have n1_ := A' (hbox); have n2_ := A' ((by rw [hg]; exact (V' (qK0 HB.out)) : w.heap.size ≤ gb292)); have n3_ := A' ((by rw [hg]; exact (V' (qK0 HB.out)) : w.heap.size ≤ gb292)); clear HB; have HB := n0_; have BK292 := n1_; have GW292 := n2_; have GE292 := n3_; clear n0_ n1_ n2_ n3_; clear hb hbox hg) | ((with_reducible refine gate_callee (f := 43) rfl ?_); refine goesL_ (some 4) rfl rfl Tryz.func43 (by kernel_rfl) rfl #[.slice A0 l0.length c0] rfl (by (try simp only [List.map_toArray, List.map_cons, List.map_nil]); first | done | rfl | (simp only [List.length_drop, List.length_take]; rfl)) ?_; (with_reducible refine (spec_l00From.calls _ _ l0 t293 t294 t295 w _ ?side1 ?side2 ?side3 A2.out).mono ?_); (case side1 => repeat (first | (with_reducible first | exact HB.out | apply K' | apply F' | apply J' | refine E' ?_ GE292.out) | exact HB.out)); (case side2 => exact HR0.out); (case side3 => exact HC0.out); rintro e w5 ⟨g296, rfl, hi, hb, hb2⟩; refine ⟨_, rfl, ?_⟩; have n0_ := A' (O' (g := gb292) (qB BK292.out) hb2); have n1_ := A' (hb); have n2_ := A' (hi); have n3_ := A' (IsS76.ne_blk hi (O' (g := gb292) (qB BK292.out) hb2) (by decide)); have n4_ := A' (Ne.symm (IsS76.ne_blk hi (O' (g := gb292) (qB BK292.out) hb2) (by decide))); clear BK292; clear HB; have BK292 := n0_; have HB := n1_; have HI296 := n2_; have NB296_292 := n3_; have NB292_296 := n4_; clear n0_ n1_ n2_ n3_ n4_; (try clear hb); (try clear hb2); (try clear hk); (try clear hi)) | ((with_reducible refine gate_callee (f := 42) rfl ?_); refine goesL_ (some 5) rfl rfl Tryz.func42 (by kernel_rfl) rfl #[.pointer (some ⟨g296, 0, none⟩)] rfl (by (try simp only [List.map_toArray, List.map_cons, List.map_nil]); first | done | rfl | (simp only [List.length_drop, List.length_take]; rfl)) ?_; (with_reducible refine (spec_l05Any.calls k g296 t293 t294 t295 t297 t298 t299 t300 t301 w _ ?side1 ?side2 A3.out).mono ?_); (case side1 => repeat (first | (with_reducible first | exact HI296.out | apply IsS76.alloc | apply IsS76.drewN | apply IsS76.drew | apply IsS76.set_1 | apply IsS76.set_2 | refine IsS76.far ?_ NB296_292.out _) | exact HI296.out)); (case side2 => repeat (first | (with_reducible first | exact HB.out | apply K' | apply F' | apply J' | refine E' ?_ (IsS76.ge HI296.out) | refine E' ?_ GE292.out) | exact HB.out)); rintro e w6 ⟨rfl, hi, hb, hk⟩; refine ⟨_, rfl, ?_⟩; have n0_ := A' (KeepBut.blk hk (g' := gb292) (o := .cells #[.int .i64 0, .int .i64 0, .bool false] 35 (0, 0)) (qB BK292.out) NB292_296.out (by simp)); have n1_ := A' (hb); have n2_ := A' (hi); clear BK292; clear HB; clear HI296; have BK292 := n0_; have HB := n1_; have HI296 := n2_; clear n0_ n1_ n2_; (try clear hb); (try clear hb2); (try clear hk); (try clear hi); have hnb7 := NB292_296.out; have hnc7 := NB296_292.out; have hcz8_0 : w6.cell? ⟨gb292, 0, none⟩ = some (.int .i64 0) := (N' BK292.out 0).trans rfl; have hcz8_1 : w6.cell? ⟨gb292, 1, none⟩ = some (.int .i64 0) := (N' BK292.out 1).trans rfl; have hcz8_2 : w6.cell? ⟨gb292, 2, none⟩ = some (.bool false) := (N' BK292.out 2).trans rfl; have hfz8_0 := Y' BK292.out 0; have hfz8_1 := Y' BK292.out 1; have hfz8_2 := Y' BK292.out 2)); refine bodyPost_ret (results_cell_row rfl _ _ gb292 35 #[.int .i64 t297, .int .i64 t298, .bool t299] (0, 0) _ rfl (by (with_reducible repeat (first | refine G' ?_ _ | refine I' ?_ | refine hA' ?_ _)); refine blk_put (cs := #[.int .i64 t297, .int .i64 t298, .bool false]) ?_ 2 _ rfl; (with_reducible repeat (first | refine G' ?_ _ | refine I' ?_ | refine hA' ?_ _)); refine blk_put (cs := #[.int .i64 t297, .int .i64 0, .bool false]) ?_ 1 _ rfl; (with_reducible repeat (first | refine G' ?_ _ | refine I' ?_ | refine hA' ?_ _)); refine blk_put (cs := #[.int .i64 0, .int .i64 0, .bool false]) ?_ 0 _ rfl; (with_reducible repeat (first | refine G' ?_ _ | refine I' ?_ | refine hA' ?_ _)); exact BK292.out) Tryz.underlying35 rfl (by kernel_rfl)) rfl ?_; exact ⟨qE, by repeat (first | (with_reducible first | exact HB.out | apply K' | apply F' | apply J' | refine E' ?_ (IsS76.ge HI296.out) | refine E' ?_ GE292.out) | exact HB.out)⟩

/-! ### impl_TurnPurchase: function 16 -/
def impl_TurnPurchase.f (k : Nat) (a0_0 : Int) (a0_1 : Int) (a0_2 : Bool) : Option (Int × Int × Bool × Int) := (impl_ValidPurchase.f k a0_0 a0_1 a0_2).bind fun t304 => (if t304 = true then (some (a0_1, a0_0, !a0_2, 0)) else (some (0, 0, false, 1)))
theorem impl_TurnPurchase.mono : ∀ a0 a1 a2 k, LeO (impl_TurnPurchase.f k a0 a1 a2) (impl_TurnPurchase.f (k + 1) a0 a1 a2) := by
 intro a0 a1 a2 k
 unfold impl_TurnPurchase.f
 repeat' first
   | (with_reducible exact impl_ValidPurchase.mono _ _ _ _)
   | (with_reducible exact LeO.refl _)
   | (with_reducible exact LeO.none _)
   | (with_reducible refine LeO.ite ?_ ?_)
   | (with_reducible refine LeO.bind ?_ (fun _ => ?_))
   | exact impl_ValidPurchase.mono _ _ _ _
   | exact LeO.none _
   | refine LeO.ite ?_ ?_
   | refine LeO.bind ?_ (fun _ => ?_)
set_option maxHeartbeats 8000000 in
set_option maxRecDepth 100000 in
theorem impl_TurnPurchase.calls (k : Nat) (a0_0 : Int) (a0_1 : Int) (a0_2 : Bool) (r1 : Int) (r2 : Int) (r3 : Bool) (r4 : Int) (w : World) (h : impl_TurnPurchase.f k a0_0 a0_1 a0_2 = some (r1, r2, r3, r4)) :
  Calls Tryz.prog 16 #[.agg #[.int .i64 a0_0, .int .i64 a0_1, .bool a0_2]] w fun e w' => e = .returned (.tuple #[.agg #[.int .i64 r1, .int .i64 r2, .bool r3], .int .i64 r4]) ∧ Below w.heap.size w w' := by
 have hu35 := Tryz.underlying35; have HB := A' (Below.refl w.heap.size w); have H : ((impl_ValidPurchase.f k a0_0 a0_1 a0_2).bind fun t304 => (if t304 = true then (some (a0_1, a0_0, !a0_2, 0)) else (some (0, 0, false, 1)))) = some (r1, r2, r3, r4) := h; clear h; replace H := Option.bind_eq_some_iff.mp H; obtain ⟨t304, A20, H⟩ := H; replace H : (if t304 = true then (some (a0_1, a0_0, !a0_2, 0)) else (some (0, 0, false, 1))) = some (r1, r2, r3, r4) := H; have A2 := A' A20; clear A20
 by_cases c3 : t304 = true
 ·subst c3; have H1 : (some (a0_1, a0_0, !a0_2, 0)) = some (r1, r2, r3, r4) := by rw [if_pos rfl] at H; exact H
  clear H; have H := H1; clear H1; simp only [Option.some.injEq, Prod.mk.injEq] at H; obtain ⟨rfl, rfl, rfl, rfl⟩ := H; go_enter Tryz.func16, Tryz.ntmps16; go_wp2_with (first | ((with_reducible refine gate_dst (N := 1) rfl ?_); refine box_event ?hg (N := 1) ?hd (cs := #[.int .i64 a0_0, .int .i64 a0_1, .bool a0_2]) (t := 35) ?hr ?_; (case hd => rfl); (case hg => rfl); (case hr => first | (go_simp; done) | (go_simp; rfl)); intro gb302 hg w4 hbox hb; have n0_ := A' (W' (qK0 HB.out) hb); have n1_ := A' (hbox); have n2_ := A' ((by rw [hg]; exact (V' (qK0 HB.out)) : w.heap.size ≤ gb302)); have n3_ := A' ((by rw [hg]; exact (V' (qK0 HB.out)) : w.heap.size ≤ gb302)); clear HB; have HB := n0_; have BK302 := n1_; have GW302 := n2_; have GE302 := n3_; clear n0_ n1_ n2_ n3_; clear hb hbox hg) | ((with_reducible refine gate_dst (N := 2) rfl ?_); refine box_event ?hg (N := 2) ?hd (cs := #[.int .i64 0, .int .i64 0, .bool false]) (t := 35) ?hr ?_; (case hd => rfl); (case hg => rfl); (case hr => first | (go_simp; done) | (go_simp; rfl)); intro gb303 hg w5 hbox hb; have n0_ := A' (O' (g := gb302) (qB BK302.out) hb); have n1_ := A' (W' (qK1 HB.out GE302.out) hb); have n2_ := A' (hbox); have n3_ := A' ((by rw [hg]; exact (V' (qK1 HB.out GE302.out)) : w.heap.size ≤ gb303)); have n4_ := A' ((by rw [hg]; exact (V' (qK1 HB.out GE302.out)) : w.heap.size ≤ gb303)); have n5_ := A' ((by rw [hg]; exact Nat.ne_of_lt (bL' (g := gb302) (qB BK302.out)) : gb302 ≠ gb303)); have n6_ := A' ((by rw [hg]; exact Nat.ne_of_gt (bL' (g := gb302) (qB BK302.out)) : gb303 ≠ gb302)); clear BK302; clear HB; have BK302 := n0_; have HB := n1_; have BK303 := n2_; have GW303 := n3_; have GE303 := n4_; have NB302_303 := n5_; have NB303_302 := n6_; clear n0_ n1_ n2_ n3_ n4_ n5_ n6_; clear hb hbox hg; have hnb6 := NB302_303.out; have hnc6 := NB303_302.out; have hcz7_0 : w5.cell? ⟨gb302, 0, none⟩ = some (.int .i64 a0_0) := (N' BK302.out 0).trans rfl; have hcz7_1 : w5.cell? ⟨gb302, 1, none⟩ = some (.int .i64 a0_1) := (N' BK302.out 1).trans rfl; have hcz7_2 : w5.cell? ⟨gb302, 2, none⟩ = some (.bool a0_2) := (N' BK302.out 2).trans rfl; have hfz7_0 := Y' BK302.out 0; have hfz7_1 := Y' BK302.out 1; have hfz7_2 := Y' BK302.out 2) | ((with_reducible refine gate_callee (f := 30) rfl ?_); refine goesL_ (some 5) rfl rfl Tryz.func30 (by kernel_rfl) rfl #[.agg #[.int .i64 a0_0, .int .i64 a0_1, .bool a0_2]] rfl (by (try simp only [List.map_toArray, List.map_cons, List.map_nil]); first | done | rfl | (simp only [List.length_drop, List.length_take]; rfl)) ?_; (with_reducible refine (impl_ValidPurchase.calls k a0_0 a0_1 a0_2 true _ A2.out).mono ?_); rintro e w8 ⟨rfl, hb⟩; refine ⟨_, rfl, ?_⟩; have n0_ := A' (O' (g := gb302) (qB BK302.out) hb); have n1_ := A' (O' (g := gb303) (qB BK303.out) hb); have n2_ := A' (W' (qK2 HB.out GE302.out GE303.out) hb); clear BK302; clear BK303; clear HB; have BK302 := n0_; have BK303 := n1_; have HB := n2_; clear n0_ n1_ n2_; (try clear hb); (try clear hb2); (try clear hk); (try clear hi); have hcz9_0 : w8.cell? ⟨gb302, 0, none⟩ = some (.int .i64 a0_0) := (N' BK302.out 0).trans rfl; have hcz9_1 : w8.cell? ⟨gb302, 1, none⟩ = some (.int .i64 a0_1) := (N' BK302.out 1).trans rfl; have hcz9_2 : w8.cell? ⟨gb302, 2, none⟩ = some (.bool a0_2) := (N' BK302.out 2).trans rfl; have hfz9_0 := Y' BK302.out 0; have hfz9_1 := Y' BK302.out 1; have hfz9_2 := Y' BK302.out 2; have hcz10_0 : w8.cell? ⟨gb303, 0, none⟩ = some (.int .i64 0) := (N' BK303.out 0).trans rfl; have hcz10_1 : w8.cell? ⟨gb303, 1, none⟩ = some (.int .i64 0) := (N' BK303.out 1).trans rfl; have hcz10_2 : w8.cell? ⟨gb303, 2, none⟩ = some (.bool false) := (N' BK303.out 2).trans rfl; have hfz10_0 := Y' BK303.out 0; have hfz10_1 := Y' BK303.out 1; have hfz10_2 := Y' BK303.out 2)); refine bodyPost_ret (results_ct rfl _ _ gb303 35 #[.int .i64 a0_1, .int .i64 a0_0, .bool (!a0_2)] (0, 0) _ rfl (by (with_reducible repeat (first | refine G' ?_ _ | refine I' ?_ | refine hA' ?_ _)); refine blk_put (cs := #[.int .i64 a0_1, .int .i64 a0_0, .bool false]) ?_ 2 _ rfl; (with_reducible repeat (first | refine G' ?_ _ | refine I' ?_ | refine hA' ?_ _)); refine blk_put (cs := #[.int .i64 a0_1, .int .i64 0, .bool false]) ?_ 1 _ rfl; (with_reducible repeat (first | refine G' ?_ _ | refine I' ?_ | refine hA' ?_ _)); refine blk_put (cs := #[.int .i64 0, .int .i64 0, .bool false]) ?_ 0 _ rfl; (with_reducible repeat (first | refine G' ?_ _ | refine I' ?_ | refine hA' ?_ _)); exact BK303.out) Tryz.underlying35 rfl (by kernel_rfl)) rfl ?_; exact ⟨qE, qK2 HB.out GE302.out GE303.out⟩
 ·replace c3 := Bool.eq_false_iff.mpr c3; subst c3; have H1 : (some (0, 0, false, 1)) = some (r1, r2, r3, r4) := by rw [if_neg (show ¬ (false = true) by decide)] at H; exact H
  clear H; have H := H1; clear H1; simp only [Option.some.injEq, Prod.mk.injEq] at H; obtain ⟨rfl, rfl, rfl, rfl⟩ := H; go_enter Tryz.func16, Tryz.ntmps16; go_wp2_with (first | ((with_reducible refine gate_dst (N := 1) rfl ?_); refine box_event ?hg (N := 1) ?hd (cs := #[.int .i64 a0_0, .int .i64 a0_1, .bool a0_2]) (t := 35) ?hr ?_; (case hd => rfl); (case hg => rfl); (case hr => first | (go_simp; done) | (go_simp; rfl)); intro gb302 hg w11 hbox hb; have n0_ := A' (W' (qK0 HB.out) hb); have n1_ := A' (hbox); have n2_ := A' ((by rw [hg]; exact (V' (qK0 HB.out)) : w.heap.size ≤ gb302)); have n3_ := A' ((by rw [hg]; exact (V' (qK0 HB.out)) : w.heap.size ≤ gb302)); clear HB; have HB := n0_; have BK302 := n1_; have GW302 := n2_; have GE302 := n3_; clear n0_ n1_ n2_ n3_; clear hb hbox hg) | ((with_reducible refine gate_dst (N := 2) rfl ?_); refine box_event ?hg (N := 2) ?hd (cs := #[.int .i64 0, .int .i64 0, .bool false]) (t := 35) ?hr ?_; (case hd => rfl); (case hg => rfl); (case hr => first | (go_simp; done) | (go_simp; rfl)); intro gb303 hg w12 hbox hb; have n0_ := A' (O' (g := gb302) (qB BK302.out) hb); have n1_ := A' (W' (qK1 HB.out GE302.out) hb); have n2_ := A' (hbox); have n3_ := A' ((by rw [hg]; exact (V' (qK1 HB.out GE302.out)) : w.heap.size ≤ gb303)); have n4_ := A' ((by rw [hg]; exact (V' (qK1 HB.out GE302.out)) : w.heap.size ≤ gb303)); have n5_ := A' ((by rw [hg]; exact Nat.ne_of_lt (bL' (g := gb302) (qB BK302.out)) : gb302 ≠ gb303)); have n6_ := A' ((by rw [hg]; exact Nat.ne_of_gt (bL' (g := gb302) (qB BK302.out)) : gb303 ≠ gb302)); clear BK302; clear HB; have BK302 := n0_; have HB := n1_; have BK303 := n2_; have GW303 := n3_; have GE303 := n4_; have NB302_303 := n5_; have NB303_302 := n6_; clear n0_ n1_ n2_ n3_ n4_ n5_ n6_; clear hb hbox hg; have hnb13 := NB302_303.out; have hnc13 := NB303_302.out; have hcz14_0 : w12.cell? ⟨gb302, 0, none⟩ = some (.int .i64 a0_0) := (N' BK302.out 0).trans rfl; have hcz14_1 : w12.cell? ⟨gb302, 1, none⟩ = some (.int .i64 a0_1) := (N' BK302.out 1).trans rfl; have hcz14_2 : w12.cell? ⟨gb302, 2, none⟩ = some (.bool a0_2) := (N' BK302.out 2).trans rfl; have hfz14_0 := Y' BK302.out 0; have hfz14_1 := Y' BK302.out 1; have hfz14_2 := Y' BK302.out 2) | ((with_reducible refine gate_callee (f := 30) rfl ?_); refine goesL_ (some 5) rfl rfl Tryz.func30 (by kernel_rfl) rfl #[.agg #[.int .i64 a0_0, .int .i64 a0_1, .bool a0_2]] rfl (by (try simp only [List.map_toArray, List.map_cons, List.map_nil]); first | done | rfl | (simp only [List.length_drop, List.length_take]; rfl)) ?_; (with_reducible refine (impl_ValidPurchase.calls k a0_0 a0_1 a0_2 false _ A2.out).mono ?_); rintro e w15 ⟨rfl, hb⟩; refine ⟨_, rfl, ?_⟩; have n0_ := A' (O' (g := gb302) (qB BK302.out) hb); have n1_ := A' (O' (g := gb303) (qB BK303.out) hb); have n2_ := A' (W' (qK2 HB.out GE302.out GE303.out) hb); clear BK302; clear BK303; clear HB; have BK302 := n0_; have BK303 := n1_; have HB := n2_; clear n0_ n1_ n2_; (try clear hb); (try clear hb2); (try clear hk); (try clear hi); have hcz16_0 : w15.cell? ⟨gb303, 0, none⟩ = some (.int .i64 0) := (N' BK303.out 0).trans rfl; have hcz16_1 : w15.cell? ⟨gb303, 1, none⟩ = some (.int .i64 0) := (N' BK303.out 1).trans rfl; have hcz16_2 : w15.cell? ⟨gb303, 2, none⟩ = some (.bool false) := (N' BK303.out 2).trans rfl; have hfz16_0 := Y' BK303.out 0; have hfz16_1 := Y' BK303.out 1; have hfz16_2 := Y' BK303.out 2)); refine bodyPost_ret (results_ct rfl _ _ gb303 35 #[.int .i64 0, .int .i64 0, .bool false] (0, 0) _ rfl (by (with_reducible repeat (first | refine G' ?_ _ | refine I' ?_ | refine hA' ?_ _)); refine blk_put (cs := #[.int .i64 0, .int .i64 0, .bool false]) ?_ 2 _ rfl; (with_reducible repeat (first | refine G' ?_ _ | refine I' ?_ | refine hA' ?_ _)); refine blk_put (cs := #[.int .i64 0, .int .i64 0, .bool false]) ?_ 1 _ rfl; (with_reducible repeat (first | refine G' ?_ _ | refine I' ?_ | refine hA' ?_ _)); refine blk_put (cs := #[.int .i64 0, .int .i64 0, .bool false]) ?_ 0 _ rfl; (with_reducible repeat (first | refine G' ?_ _ | refine I' ?_ | refine hA' ?_ _)); exact BK303.out) Tryz.underlying35 rfl (by kernel_rfl)) rfl ?_; exact ⟨qE, qK2 HB.out GE302.out GE303.out⟩

/-! ### spec_TurnPurchase: function 17 -/
def spec_TurnPurchase.f (k : Nat) (a0_0 : Int) (a0_1 : Int) (a0_2 : Bool) : Option (Int × Int × Bool × Int) := (spec_l05One.f k a0_0 a0_1 a0_2).bind fun bt307 => (if bt307.1 = true then (some (bt307.2.2.1, bt307.2.1, !bt307.2.2.2, 0)) else (some (0, 0, false, 1)))
theorem spec_TurnPurchase.mono : ∀ a0 a1 a2 k, LeO (spec_TurnPurchase.f k a0 a1 a2) (spec_TurnPurchase.f (k + 1) a0 a1 a2) := by
 intro a0 a1 a2 k
 unfold spec_TurnPurchase.f
 repeat' first
   | (with_reducible exact spec_l05One.mono _ _ _ _)
   | (with_reducible exact LeO.refl _)
   | (with_reducible exact LeO.none _)
   | (with_reducible refine LeO.ite ?_ ?_)
   | (with_reducible refine LeO.bind ?_ (fun _ => ?_))
   | exact spec_l05One.mono _ _ _ _
   | exact LeO.none _
   | refine LeO.ite ?_ ?_
   | refine LeO.bind ?_ (fun _ => ?_)
set_option maxHeartbeats 8000000 in
set_option maxRecDepth 100000 in
theorem spec_TurnPurchase.calls (k : Nat) (a0_0 : Int) (a0_1 : Int) (a0_2 : Bool) (r1 : Int) (r2 : Int) (r3 : Bool) (r4 : Int) (w : World) (h : spec_TurnPurchase.f k a0_0 a0_1 a0_2 = some (r1, r2, r3, r4)) :
  Calls Tryz.prog 17 #[.agg #[.int .i64 a0_0, .int .i64 a0_1, .bool a0_2]] w fun e w' => e = .returned (.tuple #[.agg #[.int .i64 r1, .int .i64 r2, .bool r3], .int .i64 r4]) ∧ Below w.heap.size w w' := by
 have hu35 := Tryz.underlying35; have HB := A' (Below.refl w.heap.size w); have H : ((spec_l05One.f k a0_0 a0_1 a0_2).bind fun bt307 => (if bt307.1 = true then (some (bt307.2.2.1, bt307.2.1, !bt307.2.2.2, 0)) else (some (0, 0, false, 1)))) = some (r1, r2, r3, r4) := h; clear h; replace H := Option.bind_eq_some_iff.mp H; obtain ⟨⟨t307, t308, t309, t310⟩, A20, H⟩ := H; replace H : (if t307 = true then (some (t309, t308, !t310, 0)) else (some (0, 0, false, 1))) = some (r1, r2, r3, r4) := H; have A2 := A' A20; clear A20
 by_cases c3 : t307 = true
 ·subst c3; have H1 : (some (t309, t308, !t310, 0)) = some (r1, r2, r3, r4) := by rw [if_pos rfl] at H; exact H
  clear H; have H := H1; clear H1; simp only [Option.some.injEq, Prod.mk.injEq] at H; obtain ⟨rfl, rfl, rfl, rfl⟩ := H; go_enter Tryz.func17, Tryz.ntmps17; go_wp2_with (first | ((with_reducible refine gate_dst (N := 1) rfl ?_); refine box_event ?hg (N := 1) ?hd (cs := #[.int .i64 a0_0, .int .i64 a0_1, .bool a0_2]) (t := 35) ?hr ?_; (case hd => rfl); (case hg => rfl); (case hr => first | (go_simp; done) | (go_simp; rfl)); intro gb305 hg w4 hbox hb; have n0_ := A' (W' (qK0 HB.out) hb); have n1_ := A' (hbox); have n2_ := A' ((by rw [hg]; exact (V' (qK0 HB.out)) : w.heap.size ≤ gb305)); have n3_ := A' ((by rw [hg]; exact (V' (qK0 HB.out)) : w.heap.size ≤ gb305)); clear HB; have HB := n0_; have BK305 := n1_; have GW305 := n2_; have GE305 := n3_; clear n0_ n1_ n2_ n3_; clear hb hbox hg) | ((with_reducible refine gate_dst (N := 2) rfl ?_); refine box_event ?hg (N := 2) ?hd (cs := #[.int .i64 0, .int .i64 0, .bool false]) (t := 35) ?hr ?_; (case hd => rfl); (case hg => rfl); (case hr => first | (go_simp; done) | (go_simp; rfl)); intro gb306 hg w5 hbox hb; have n0_ := A' (O' (g := gb305) (qB BK305.out) hb); have n1_ := A' (W' (qK1 HB.out GE305.out) hb); have n2_ := A' (hbox); have n3_ := A' ((by rw [hg]; exact (V' (qK1 HB.out GE305.out)) : w.heap.size ≤ gb306)); have n4_ := A' ((by rw [hg]; exact (V' (qK1 HB.out GE305.out)) : w.heap.size ≤ gb306)); have n5_ := A' ((by rw [hg]; exact Nat.ne_of_lt (bL' (g := gb305) (qB BK305.out)) : gb305 ≠ gb306)); have n6_ := A' ((by rw [hg]; exact Nat.ne_of_gt (bL' (g := gb305) (qB BK305.out)) : gb306 ≠ gb305)); clear BK305; clear HB; have BK305 := n0_; have HB := n1_; have BK306 := n2_; have GW306 := n3_; have GE306 := n4_; have NB305_306 := n5_; have NB306_305 := n6_; clear n0_ n1_ n2_ n3_ n4_ n5_ n6_; clear hb hbox hg; have HI305 := A' (show IsS35 w w5 gb305 a0_0 a0_1 a0_2 from ⟨(qB BK305.out), GE305.out⟩)) | ((with_reducible refine gate_callee (f := 44) rfl ?_); refine goesL_ (some 4) rfl rfl Tryz.func44 (by kernel_rfl) rfl #[.pointer (some ⟨gb305, 0, none⟩)] rfl (by (try simp only [List.map_toArray, List.map_cons, List.map_nil]); first | done | rfl | (simp only [List.length_drop, List.length_take]; rfl)) ?_; (with_reducible refine (spec_l05One.calls k gb305 a0_0 a0_1 a0_2 true t308 t309 t310 w _ ?side1 ?side2 A2.out).mono ?_); (case side1 => repeat (first | (with_reducible first | exact HI305.out | apply IsS35.alloc | apply IsS35.drewN | apply IsS35.drew | apply IsS35.set_0 | apply IsS35.set_1 | apply IsS35.set_2 | refine IsS35.far ?_ NB305_306.out _) | exact HI305.out)); (case side2 => repeat (first | (with_reducible first | exact HB.out | apply K' | apply F' | apply J' | refine E' ?_ (IsS35.ge HI305.out) | refine E' ?_ GE306.out) | exact HB.out)); rintro e w6 ⟨rfl, hi, hb, hk⟩; refine ⟨_, rfl, ?_⟩; have n0_ := A' (KeepBut.blk hk (g' := gb306) (o := .cells #[.int .i64 0, .int .i64 0, .bool false] 35 (0, 0)) (qB BK306.out) NB306_305.out (by simp)); have n1_ := A' (hb); have n2_ := A' (hi); clear BK306; clear HB; clear HI305; have BK306 := n0_; have HB := n1_; have HI305 := n2_; clear n0_ n1_ n2_; (try clear hb); (try clear hb2); (try clear hk); (try clear hi); obtain ⟨HGz7, hgz7⟩ := HI305.out; have hcz7_0 := cellS35_0 HGz7; have hcz7_1 := cellS35_1 HGz7; have hcz7_2 := cellS35_2 HGz7; have hfz7_0 := Y' HGz7 0; have hfz7_1 := Y' HGz7 1; have hfz7_2 := Y' HGz7 2; clear HGz7 hgz7; have hnb8 := NB306_305.out; have hnc8 := NB305_306.out; have hcz9_0 : w6.cell? ⟨gb306, 0, none⟩ = some (.int .i64 0) := (N' BK306.out 0).trans rfl; have hcz9_1 : w6.cell? ⟨gb306, 1, none⟩ = some (.int .i64 0) := (N' BK306.out 1).trans rfl; have hcz9_2 : w6.cell? ⟨gb306, 2, none⟩ = some (.bool false) := (N' BK306.out 2).trans rfl; have hfz9_0 := Y' BK306.out 0; have hfz9_1 := Y' BK306.out 1; have hfz9_2 := Y' BK306.out 2)); refine bodyPost_ret (results_ct rfl _ _ gb306 35 #[.int .i64 t309, .int .i64 t308, .bool (!t310)] (0, 0) _ rfl (by (with_reducible repeat (first | refine G' ?_ _ | refine I' ?_ | refine hA' ?_ _)); refine blk_put (cs := #[.int .i64 t309, .int .i64 t308, .bool false]) ?_ 2 _ rfl; (with_reducible repeat (first | refine G' ?_ _ | refine I' ?_ | refine hA' ?_ _)); refine blk_put (cs := #[.int .i64 t309, .int .i64 0, .bool false]) ?_ 1 _ rfl; (with_reducible repeat (first | refine G' ?_ _ | refine I' ?_ | refine hA' ?_ _)); refine blk_put (cs := #[.int .i64 0, .int .i64 0, .bool false]) ?_ 0 _ rfl; (with_reducible repeat (first | refine G' ?_ _ | refine I' ?_ | refine hA' ?_ _)); exact BK306.out) Tryz.underlying35 rfl (by kernel_rfl)) rfl ?_; exact ⟨qE, by repeat (first | (with_reducible first | exact HB.out | apply K' | apply F' | apply J' | refine E' ?_ (IsS35.ge HI305.out) | refine E' ?_ GE306.out) | exact HB.out)⟩
 ·replace c3 := Bool.eq_false_iff.mpr c3; subst c3; have H1 : (some (0, 0, false, 1)) = some (r1, r2, r3, r4) := by rw [if_neg (show ¬ (false = true) by decide)] at H; exact H
  clear H; have H := H1; clear H1; simp only [Option.some.injEq, Prod.mk.injEq] at H; obtain ⟨rfl, rfl, rfl, rfl⟩ := H; go_enter Tryz.func17, Tryz.ntmps17; go_wp2_with (first | ((with_reducible refine gate_dst (N := 1) rfl ?_); refine box_event ?hg (N := 1) ?hd (cs := #[.int .i64 a0_0, .int .i64 a0_1, .bool a0_2]) (t := 35) ?hr ?_; (case hd => rfl); (case hg => rfl); (case hr => first | (go_simp; done) | (go_simp; rfl)); intro gb305 hg w10 hbox hb; have n0_ := A' (W' (qK0 HB.out) hb); have n1_ := A' (hbox); have n2_ := A' ((by rw [hg]; exact (V' (qK0 HB.out)) : w.heap.size ≤ gb305)); have n3_ := A' ((by rw [hg]; exact (V' (qK0 HB.out)) : w.heap.size ≤ gb305)); clear HB; have HB := n0_; have BK305 := n1_; have GW305 := n2_; have GE305 := n3_; clear n0_ n1_ n2_ n3_; clear hb hbox hg) | ((with_reducible refine gate_dst (N := 2) rfl ?_); refine box_event ?hg (N := 2) ?hd (cs := #[.int .i64 0, .int .i64 0, .bool false]) (t := 35) ?hr ?_; (case hd => rfl); (case hg => rfl); (case hr => first | (go_simp; done) | (go_simp; rfl)); intro gb306 hg w11 hbox hb; have n0_ := A' (O' (g := gb305) (qB BK305.out) hb); have n1_ := A' (W' (qK1 HB.out GE305.out) hb); have n2_ := A' (hbox); have n3_ := A' ((by rw [hg]; exact (V' (qK1 HB.out GE305.out)) : w.heap.size ≤ gb306)); have n4_ := A' ((by rw [hg]; exact (V' (qK1 HB.out GE305.out)) : w.heap.size ≤ gb306)); have n5_ := A' ((by rw [hg]; exact Nat.ne_of_lt (bL' (g := gb305) (qB BK305.out)) : gb305 ≠ gb306)); have n6_ := A' ((by rw [hg]; exact Nat.ne_of_gt (bL' (g := gb305) (qB BK305.out)) : gb306 ≠ gb305)); clear BK305; clear HB; have BK305 := n0_; have HB := n1_; have BK306 := n2_; have GW306 := n3_; have GE306 := n4_; have NB305_306 := n5_; have NB306_305 := n6_; clear n0_ n1_ n2_ n3_ n4_ n5_ n6_; clear hb hbox hg; have HI305 := A' (show IsS35 w w11 gb305 a0_0 a0_1 a0_2 from ⟨(qB BK305.out), GE305.out⟩)) | ((with_reducible refine gate_callee (f := 44) rfl ?_); refine goesL_ (some 4) rfl rfl Tryz.func44 (by kernel_rfl) rfl #[.pointer (some ⟨gb305, 0, none⟩)] rfl (by (try simp only [List.map_toArray, List.map_cons, List.map_nil]); first | done | rfl | (simp only [List.length_drop, List.length_take]; rfl)) ?_; (with_reducible refine (spec_l05One.calls k gb305 a0_0 a0_1 a0_2 false t308 t309 t310 w _ ?side1 ?side2 A2.out).mono ?_); (case side1 => repeat (first | (with_reducible first | exact HI305.out | apply IsS35.alloc | apply IsS35.drewN | apply IsS35.drew | apply IsS35.set_0 | apply IsS35.set_1 | apply IsS35.set_2 | refine IsS35.far ?_ NB305_306.out _) | exact HI305.out)); (case side2 => repeat (first | (with_reducible first | exact HB.out | apply K' | apply F' | apply J' | refine E' ?_ (IsS35.ge HI305.out) | refine E' ?_ GE306.out) | exact HB.out)); rintro e w12 ⟨rfl, hi, hb, hk⟩; refine ⟨_, rfl, ?_⟩; have n0_ := A' (KeepBut.blk hk (g' := gb306) (o := .cells #[.int .i64 0, .int .i64 0, .bool false] 35 (0, 0)) (qB BK306.out) NB306_305.out (by simp)); have n1_ := A' (hb); have n2_ := A' (hi); clear BK306; clear HB; clear HI305; have BK306 := n0_; have HB := n1_; have HI305 := n2_; clear n0_ n1_ n2_; (try clear hb); (try clear hb2); (try clear hk); (try clear hi); have hnb13 := NB306_305.out; have hnc13 := NB305_306.out; have hcz14_0 : w12.cell? ⟨gb306, 0, none⟩ = some (.int .i64 0) := (N' BK306.out 0).trans rfl; have hcz14_1 : w12.cell? ⟨gb306, 1, none⟩ = some (.int .i64 0) := (N' BK306.out 1).trans rfl; have hcz14_2 : w12.cell? ⟨gb306, 2, none⟩ = some (.bool false) := (N' BK306.out 2).trans rfl; have hfz14_0 := Y' BK306.out 0; have hfz14_1 := Y' BK306.out 1; have hfz14_2 := Y' BK306.out 2)); refine bodyPost_ret (results_ct rfl _ _ gb306 35 #[.int .i64 0, .int .i64 0, .bool false] (0, 0) _ rfl (by (with_reducible repeat (first | refine G' ?_ _ | refine I' ?_ | refine hA' ?_ _)); refine blk_put (cs := #[.int .i64 0, .int .i64 0, .bool false]) ?_ 2 _ rfl; (with_reducible repeat (first | refine G' ?_ _ | refine I' ?_ | refine hA' ?_ _)); refine blk_put (cs := #[.int .i64 0, .int .i64 0, .bool false]) ?_ 1 _ rfl; (with_reducible repeat (first | refine G' ?_ _ | refine I' ?_ | refine hA' ?_ _)); refine blk_put (cs := #[.int .i64 0, .int .i64 0, .bool false]) ?_ 0 _ rfl; (with_reducible repeat (first | refine G' ?_ _ | refine I' ?_ | refine hA' ?_ _)); exact BK306.out) Tryz.underlying35 rfl (by kernel_rfl)) rfl ?_; exact ⟨qE, by repeat (first | (with_reducible first | exact HB.out | apply K' | apply F' | apply J' | refine E' ?_ (IsS35.ge HI305.out) | refine E' ?_ GE306.out) | exact HB.out)⟩

/-! ### spec_DrawTackleText: function 18 -/
def spec_DrawTackleText.f (k : Nat) (l0 : List Int) : Option ((List (S35))) := (spec_l00From.f l0).bind fun bt311 => ((spec_l05Bent.f k bt311.1 bt311.2.1 bt311.2.2).bind fun bt315 => (some bt315.1))
theorem spec_DrawTackleText.mono : ∀ a0 k, LeO (spec_DrawTackleText.f k a0) (spec_DrawTackleText.f (k + 1) a0) := by
 intro a0 k
 unfold spec_DrawTackleText.f
 repeat' first
   | (with_reducible exact spec_l05Bent.mono _ _ _ _)
   | (with_reducible exact LeO.refl _)
   | (with_reducible exact LeO.none _)
   | (with_reducible refine LeO.ite ?_ ?_)
   | (with_reducible refine LeO.bind ?_ (fun _ => ?_))
   | exact spec_l05Bent.mono _ _ _ _
   | exact LeO.none _
   | refine LeO.ite ?_ ?_
   | refine LeO.bind ?_ (fun _ => ?_)
set_option maxHeartbeats 8000000 in
set_option maxRecDepth 100000 in
theorem spec_DrawTackleText.calls (k : Nat) (A0 : Option Addr) (c0 : Nat) (l0 : List Int) (r : List (S35)) (w : World) (hr0 : Kd.C (Kd.int .u8) w A0 l0.length l0) (hc0 : l0.length ≤ c0) (h : spec_DrawTackleText.f k l0 = some r) :
  Calls Tryz.prog 18 #[.slice A0 l0.length c0] w fun e w' => ∃ v0_ : Value, e = .returned (v0_) ∧ Kd.R k35 35 w' w.heap.size (fun _ => True) v0_ r ∧ Below w.heap.size w w' := by
 have HR0 := A' hr0; have HC0 := A' hc0; clear hr0 hc0; have HB := A' (Below.refl w.heap.size w); have H : ((spec_l00From.f l0).bind fun bt311 => ((spec_l05Bent.f k bt311.1 bt311.2.1 bt311.2.2).bind fun bt315 => (some bt315.1))) = some r := h; clear h; replace H := Option.bind_eq_some_iff.mp H; obtain ⟨⟨t311, t312, t313⟩, A20, H⟩ := H; replace H : ((spec_l05Bent.f k t311 t312 t313).bind fun bt315 => (some bt315.1)) = some r := H; have A2 := A' A20; clear A20; replace H := Option.bind_eq_some_iff.mp H; obtain ⟨⟨t315, t318, t319⟩, A30, H⟩ := H; replace H : (some t315) = some r := H; have A3 := A' A30; clear A30; obtain rfl := Option.some.inj H; go_enter Tryz.func18, Tryz.ntmps18; go_wp2_with (first | ((with_reducible refine gate_callee (f := 43) rfl ?_); refine goesL_ (some 4) rfl rfl Tryz.func43 (by kernel_rfl) rfl #[.slice A0 l0.length c0] rfl (by (try simp only [List.map_toArray, List.map_cons, List.map_nil]); first | done | rfl | (simp only [List.length_drop, List.length_take]; rfl)) ?_; (with_reducible refine (spec_l00From.calls _ _ l0 t311 t312 t313 w _ ?side1 ?side2 ?side3 A2.out).mono ?_); (case side1 => repeat (first | (with_reducible first | exact HB.out | apply K' | apply F' | apply J') | exact HB.out)); (case side2 => exact HR0.out); (case side3 => exact HC0.out); rintro e w4 ⟨g314, rfl, hi, hb, hb2⟩; refine ⟨_, rfl, ?_⟩; have n0_ := A' (hb); have n1_ := A' (hi); clear HB; have HB := n0_; have HI314 := n1_; clear n0_ n1_; (try clear hb); (try clear hb2); (try clear hk); (try clear hi)) | ((with_reducible refine gate_callee (f := 45) rfl ?_); refine goesL_ (some 5) rfl rfl Tryz.func45 (by kernel_rfl) rfl #[.pointer (some ⟨g314, 0, none⟩)] rfl (by (try simp only [List.map_toArray, List.map_cons, List.map_nil]); first | done | rfl | (simp only [List.length_drop, List.length_take]; rfl)) ?_; (with_reducible refine (spec_l05Bent.calls k g314 t311 t312 t313 t315 t318 t319 w _ ?side1 ?side2 A3.out).mono ?_); (case side1 => repeat (first | (with_reducible first | exact HI314.out | apply IsS76.alloc | apply IsS76.drewN | apply IsS76.drew | apply IsS76.set_1 | apply IsS76.set_2) | exact HI314.out)); (case side2 => repeat (first | (with_reducible first | exact HB.out | apply K' | apply F' | apply J' | refine E' ?_ (IsS76.ge HI314.out)) | exact HB.out)); rintro e w5 ⟨v316, rfl, ho0, hi, hb, hk⟩; refine ⟨_, rfl, ?_⟩; have n0_ := A' (Kd.R_lower ho0 (V' (by repeat (first | (with_reducible first | exact HB.out | apply K' | apply F' | apply J' | refine E' ?_ (IsS76.ge HI314.out)) | exact HB.out)))); have n1_ := A' (hb); have n2_ := A' (hi); clear HB; clear HI314; have HO317 := n0_; have HB := n1_; have HI314 := n2_; clear n0_ n1_ n2_; (try clear hb); (try clear hb2); (try clear hk); (try clear hi); (try clear ho0))); go_ret; exact ⟨_, qE, qR HO317.out, by repeat (first | (with_reducible first | exact HB.out | apply K' | apply F' | apply J' | refine E' ?_ (IsS76.ge HI314.out)) | exact HB.out)⟩

/-! ### strings_Split: function 48 (by hand) -/
/-- What the library's variables hold: the table of powers, and some number. -/
structure LwT (w : World) : Prop where
  tab : Go.Lib.TabIs Tryz.prog w "internal/strconv.uint64pow10" .u64 Go.Lib.pow10Tab
  mx : ∃ m, w.cell? ⟨0, 0, none⟩ = some (.int .i64 m)
theorem powNamed : ∃ g, Tryz.prog.globalNamed "internal/strconv.uint64pow10" = some g := Option.isSome_iff_exists.mp (by kernel_rfl)
protected theorem LwT.below {w w' : World} (h : LwT w) (hb : Below w.heap.size w w') : LwT w' := by
  obtain ⟨m, hm⟩ := h.mx
  obtain ⟨g, hg⟩ := powNamed
  exact ⟨Go.Joins.tab_stays hg h.tab hb (Nat.le_refl _), m, by rw [hb.cell (World.block_lt_of_cell? w _ hm)]; exact hm⟩
def strings_Split.f (a0 a1 : ByteArray) : Option (List ByteArray) := if a0.size < 4294967281 then (if 1 ≤ a1.size then some (Go.Lib.splitB a1 0 (Go.Lib.countB a0 a1) a0) else none) else none
theorem reps_strings (w : World) (b : Nat) (ok : Nat → Prop) : ∀ xs : List ByteArray, Reps (Kd.M Kd.string w b ok) 1 xs (xs.map Value.string)
  | [] => Reps.none _ _
  | x :: xs => Reps.one rfl (reps_strings w b ok xs)
theorem alloc_at (W : World) (o : Obj) : (W.alloc o).heap[W.heap.size]? = some o := by show (W.heap.push o)[W.heap.size]? = _; rw [Array.getElem?_push, if_pos rfl]
theorem splitB_len (sep s : ByteArray) (h1 : 1 ≤ sep.size) : (Go.Lib.splitB sep 0 (Go.Lib.countB s sep) s).length = Go.Lib.countB s sep + 1 ∧ Go.Lib.countB s sep ≤ s.size :=
  ⟨Go.Lib.splitB_all sep h1 0 _ s rfl, Go.Lib.countB_le sep h1 s.size s (Nat.le_refl _)⟩
theorem strings_Split.calls (a0 a1 : ByteArray) (r : List ByteArray) (w : World) (h : strings_Split.f a0 a1 = some r) (hT : LwT w) :
    Calls Tryz.prog 48 #[.string a0, .string a1] w fun e w' => ∃ v0_ : Value, e = .returned (v0_) ∧ Kd.R Kd.string 9 w' w.heap.size (fun _ => True) v0_ r ∧ Below w.heap.size w w' := by
  unfold strings_Split.f at h
  by_cases h0 : a0.size < 4294967281
  · rw [if_pos h0] at h
    by_cases h1 : 1 ≤ a1.size
    · rw [if_pos h1] at h
      have h := Option.some.inj h
      subst h
      obtain ⟨m, hm⟩ := hT.mx
      have hl := splitB_len a1 a0 h1
      refine (Tryz.strings_Split a0 a1 m w h0 hm h1).mono fun e w' ⟨he, hw⟩ => ⟨_, he, ?_, hw ▸ below_alloc (Below.refl _ _) _⟩
      rw [hw, ← hl.1]
      generalize hx : Go.Lib.splitB a1 0 (Go.Lib.countB a0 a1) a0 = xs at *
      have hrep : ∀ w b ok, Reps (Kd.M Kd.string w b ok) 1 xs (xs.map Value.string) := fun w b ok => reps_strings w b ok xs
      refine ⟨fun _ _ => trivial, xs.map Value.string, ⟨by simp [Kd.string, Kd.scalar], .inr ⟨w.heap.size, xs.length, (xs.map Value.string).toArray, rfl, Nat.le_refl _, alloc_at _ _, Nat.le_refl _, by unfold maxLen; omega, by simp [Kd.string, Kd.scalar], List.take_of_length_le (by simp [Kd.string, Kd.scalar])⟩⟩, hrep _ _ _⟩
    · rw [if_neg h1] at h; cases h
  · rw [if_neg h0] at h; cases h

/-! ### impl_Decimal: function 46 (by hand) -/
theorem below_grows (w : World) (k : Nat) (os : Array Obj) : Below w.heap.size w (Go.Sort.grow (w.drewN k) os) :=
  (pw_below_drewN (Below.refl w.heap.size w) k).grown (row := none) ⟨rfl, rfl, rfl, by simp [Go.Sort.grow], fun i hi _ => by show ((w.drewN k).heap ++ os)[i]? = _; rw [Array.getElem?_append_left hi]⟩ (Nat.le_refl _) (by simp)
def impl_Decimal.f (a0 : Int) : Option (ByteArray) := if -9223372036854775808 ≤ a0 then (if a0 ≤ 9223372036854775807 then (some (⟨(Go.Lib.itoa a0).toArray⟩ : ByteArray)) else none) else none
set_option maxHeartbeats 8000000 in
set_option maxRecDepth 100000 in
theorem impl_Decimal.calls (a0 : Int) (r : ByteArray) (w : World) (h : impl_Decimal.f a0 = some r) (hT : LwT w) :
    Calls Tryz.prog 46 #[.int .i64 a0] w fun e w' => e = .returned (.string r) ∧ Below w.heap.size w w' := by
  unfold impl_Decimal.f at h
  by_cases h0 : -9223372036854775808 ≤ a0
  · rw [if_pos h0] at h
    by_cases h1 : a0 ≤ 9223372036854775807
    · rw [if_pos h1] at h
      have h := Option.some.inj h
      subst h
      have HT := Aside0.mk hT
      clear hT
      go_enter Tryz.func46, Tryz.ntmps46
      go_wp2_with (go_at_call 62; refine (Tryz.strconv_FormatInt_10 a0 h0 h1 _ HT.out.tab).mono ?_; rintro e w' ⟨rfl, k, os, rfl⟩)
      go_ret
      exact ⟨rfl, below_grows w k os⟩
    · rw [if_neg h1] at h; cases h
  · rw [if_neg h0] at h; cases h

/-! ### strings_Join: function 47 (by hand) -/
def strings_Join.f (l0 : List ByteArray) (a1 : ByteArray) : Option (ByteArray) := if l0.length ≤ 140737488355328 then (if (Go.Lib.join (l0.map (·.data.toList)) a1.data.toList).length ≤ 140737488355328 then (some (⟨(Go.Lib.join (l0.map (·.data.toList)) a1.data.toList).toArray⟩ : ByteArray)) else none) else none
theorem strings_Join.calls (A0 : Option Addr) (c0 : Nat) (l0 : List ByteArray) (a1 : ByteArray) (r : ByteArray) (w : World) (hr0 : Kd.C Kd.string w A0 l0.length l0) (hc0 : l0.length ≤ c0) (h : strings_Join.f l0 a1 = some r) :
    Calls Tryz.prog 47 #[.slice A0 l0.length c0, .string a1] w fun e w' => e = .returned (.string r) ∧ Below w.heap.size w w' := by
  unfold strings_Join.f at h
  by_cases h0 : l0.length ≤ 140737488355328
  · rw [if_pos h0] at h
    by_cases h1 : (Go.Lib.join (l0.map (·.data.toList)) a1.data.toList).length ≤ 140737488355328
    · rw [if_pos h1] at h
      have h := Option.some.inj h
      subst h
      by_cases hz : l0 = []
      · subst hz
        exact (Tryz.strings_Join_none A0 c0 a1 w).mono fun e w' ⟨he, hw⟩ => ⟨he, hw ▸ Below.refl _ _⟩
      · have hl : 0 < l0.length := List.length_pos_iff.2 hz
        obtain ⟨ad, rfl, hc⟩ := hr0.2.2 hl
        have cell : ∀ (j : Nat) x, l0[j]? = some x → w.cell? (ad.add j) = some (.string x) := by
          intro j x hj
          obtain ⟨c, h1, h2, h3⟩ := hc j x hj
          have e : c = [Value.string x] := h2
          have := h3 0 (.string x) (by rw [e]; rfl)
          simpa [Kd.string, Kd.scalar] using this
        have first := cell 0 _ (List.getElem?_eq_getElem hl)
        obtain ⟨b, o, s⟩ := ad
        have hs : s = none := by
          cases s with
          | none => rfl
          | some z =>
            exfalso
            simp only [Addr.add, if_true, World.cell?] at first
            split at first <;> simp at first
        subst hs
        have hb : b < w.heap.size := World.block_lt_of_cell? w ⟨b, o, none⟩ (by simpa [Addr.add] using first)
        refine (Tryz.strings_Join b o c0 l0 a1 w (fun j x hj => ?_) hb h0 hc0 h1)
        have := cell j x hj
        by_cases hj0 : j = 0
        · subst hj0; simpa [Addr.add] using this
        · simpa [Addr.add, hj0] using this
    · rw [if_neg h1] at h; cases h
  · rw [if_neg h0] at h; cases h

end Go.Proofs.YtcjandlemjfojaaGreatDoor.HTks
