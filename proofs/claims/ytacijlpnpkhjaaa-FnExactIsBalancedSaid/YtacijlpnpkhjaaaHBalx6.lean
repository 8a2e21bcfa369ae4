-- Written by a program for this claim (the functions that the statement reaches, and that the program's code comes to them).
import Derived.Test.YtacijlpnpkhjaaaHBalx0
namespace Go.Proofs.Ytacijlpnpkhjaaa.HBal
open Go.RowKit Go.Proofs.YtacijlpnpkhjaaaW.PrintWords Go.Proofs.YtacijlpnpkhjaaaW.PrintLast Go.Proofs.YtacijlpnpkhjaaaW.PrintMore
attribute [local go_sem] max2_int min2_int max_two min_two max_three min_three max_four min_four   -- for this text's walks alone
set_option linter.unusedVariables false
set_option linter.unusedSimpArgs false

/-! ### impl_freeKnots: function 67 -/
def impl_freeKnots.l0 : Nat → List Int → List (S82) → Int → Int → Option (List Int)
 | 0, _, _, _, _ => none
 | k + 1, x3, x8, x9, x10 => if x10 < x9 then (if 0 ≤ x10 then (if x10 < (x8.length : Int) then (if ((rd_T82 x8 x10).f2 = true) then (impl_freeKnots.l0 k x3 x8 x9 (wrap64 (x10 + 1))) else (if x3.length < 17592186044416 then (impl_freeKnots.l0 k (x3 ++ [x10]) x8 x9 (wrap64 (x10 + 1))) else (none))) else (none)) else (none)) else (some x3)
def impl_freeKnots.f (k : Nat) (l0_0 : List (S82)) (l0_1 : List (S84)) : Option (List Int) := impl_freeKnots.l0 k (([] : List Int)) l0_0 (l0_0.length : Int) 0
theorem impl_freeKnots.mono_l : ∀ k, (∀ y0 y1 y2 y3, LeO (impl_freeKnots.l0 k y0 y1 y2 y3) (impl_freeKnots.l0 (k + 1) y0 y1 y2 y3))
 | 0 => fun _ _ _ _ r h => by simp [impl_freeKnots.l0] at h
 | k + 1 => by
  have ih0 := impl_freeKnots.mono_l k
  ·intro y0 y1 y2 y3
   unfold impl_freeKnots.l0
   repeat' first
   | (with_reducible exact ih0 _ _ _ _)
   | (with_reducible exact LeO.refl _)
   | (with_reducible exact LeO.none _)
   | (with_reducible refine LeO.ite ?_ ?_)
   | (with_reducible refine LeO.bind ?_ (fun _ => ?_))
   | exact ih0 _ _ _ _
   | exact LeO.none _
   | refine LeO.ite ?_ ?_
   | refine LeO.bind ?_ (fun _ => ?_)
theorem impl_freeKnots.mono : ∀ a0 a1 k, LeO (impl_freeKnots.f k a0 a1) (impl_freeKnots.f (k + 1) a0 a1) := by
 intro a0 a1 k
 have ih0 := impl_freeKnots.mono_l k
 unfold impl_freeKnots.f
 repeat' first
   | (with_reducible exact ih0 _ _ _ _)
   | (with_reducible exact LeO.refl _)
   | (with_reducible exact LeO.none _)
   | (with_reducible refine LeO.ite ?_ ?_)
   | (with_reducible refine LeO.bind ?_ (fun _ => ?_))
   | exact ih0 _ _ _ _
   | exact LeO.none _
   | refine LeO.ite ?_ ?_
   | refine LeO.bind ?_ (fun _ => ?_)
set_option maxHeartbeats 8000000 in
set_option maxRecDepth 100000 in
theorem impl_freeKnots.calls (k : Nat) (A0_0 : Option Addr) (c0_0 : Nat) (l0_0 : List (S82)) (A0_1 : Option Addr) (c0_1 : Nat) (l0_1 : List (S84)) (r : List Int) (w : World) (hr0_0 : Kd.C k82 w A0_0 l0_0.length l0_0) (hc0_0 : l0_0.length ≤ c0_0) (hr0_1 : Kd.C k84 w A0_1 l0_1.length l0_1) (hc0_1 : l0_1.length ≤ c0_1) (h : impl_freeKnots.f k l0_0 l0_1 = some r) :
  Calls Try.prog 67 #[.agg #[.slice A0_0 l0_0.length c0_0, .slice A0_1 l0_1.length c0_1]] w fun e w' => ∃ v0_ : Value, e = .returned (v0_) ∧ Kd.R (Kd.int .i64) 2 w' w.heap.size (fun _ => True) v0_ r ∧ Below w.heap.size w w' := by
 have hu39 := Try.underlying39; have hu82 := Try.underlying82; have HR0_0 := A' hr0_0; have HC0_0 := A' hc0_0; clear hr0_0 hc0_0; have HR0_1 := A' hr0_1; have HC0_1 := A' hc0_1; clear hr0_1 hc0_1; have HB := A' (Below.refl w.heap.size w); have H : (impl_freeKnots.l0 k (([] : List Int)) l0_0 (l0_0.length : Int) 0) = some r := h; clear h; obtain ⟨y226, hy226⟩ : ∃ y_ : List Int, y_ = (([] : List Int)) := ⟨_, rfl⟩
 replace H : (impl_freeKnots.l0 k y226 l0_0 (l0_0.length : Int) 0) = some r := by first | (rw [hy226]; with_reducible exact H) | (have H2_ := (Option.bind_some _ _).symm.trans H; rw [hy226]; with_reducible exact H2_) | (have H2_ := (Option.bind_some _ _).symm.trans H; with_reducible exact H2_) | with_reducible exact H | (rw [hy226]; exact H) | exact H
 have Ny226 := A' hy226; clear hy226; have H' := A' H; clear H; go_enter Try.func67, Try.ntmps67; go_wp2_with (first | ((with_reducible refine gate_dst (N := 1) rfl ?_); refine box_event ?hg (N := 1) ?hd (cs := #[.slice A0_0 l0_0.length c0_0, .slice A0_1 l0_1.length c0_1]) (t := 39) ?hr ?_; (case hd => rfl); (case hg => rfl); (case hr => first | (go_simp; done) | (go_simp; rfl)); intro gb225 hg w2 hbox hb; have n0_ := A' (W' (qK0 HB.out) hb); have n1_ := A' (hbox); have n2_ := A' ((by rw [hg]; exact (V' (qK0 HB.out)) : w.heap.size ≤ gb225)); have n3_ := A' ((by rw [hg]; exact (V' (qK0 HB.out)) : w.heap.size ≤ gb225)); clear HB; have HB := n0_; have BK225 := n1_; have GW225 := n2_; have GE225 := n3_; clear n0_ n1_ n2_ n3_; clear hb hbox hg) | ((with_reducible refine gate_dst (N := 6) rfl ?_); refine Kd.R_lit (Kd.int .i64) _ 2 ?hg (N := 6) ?hd (xs := ([] : List Int)) (inner := []) (ok := fun _ => True) (okp := fun _ => True) ?hr ?hp (fun _ hk => hk) trivial (Below.refl _ _) (Nat.le_refl _) (by simp) ?_; (case hd => rfl); (case hg => rfl); (case hr => first | (go_simp; done) | (go_simp; rfl)); (case hp => exact (Reps.none _ _)); intro v227 w3 ho4 hb hg_ hnew_; clear hg_ hnew_; (first | rw [← Ny226.out] at ho4 | (simp only [Int.reduceToNat] at ho4; rw [← Ny226.out] at ho4)); have n0_ := A' (Kd.R_lower ho4 (V' (qK1 HB.out GE225.out))); have n1_ := A' (O' (g := gb225) (qB BK225.out) hb); have n2_ := A' (W' (qK1 HB.out GE225.out) hb); clear BK225; clear HB; have HO228 := n0_; have BK225 := n1_; have HB := n2_; clear n0_ n1_ n2_; clear hb ho4; have hcz5_0 : w3.cell? ⟨gb225, 0, none⟩ = some (.slice A0_0 l0_0.length c0_0) := (N' BK225.out 0).trans rfl; have hcz5_1 : w3.cell? ⟨gb225, 1, none⟩ = some (.slice A0_1 l0_1.length c0_1) := (N' BK225.out 1).trans rfl; have hfz5_0 := Y' BK225.out 0; have hfz5_1 := Y' BK225.out 1))
 go_loopg [3, 10] k (fun kq v3 v10 w' => ∃ (x3_1 : List Int) (x10_1 : Int), v10 = .int .i64 x10_1 ∧ Aside0 (impl_freeKnots.l0 kq x3_1 l0_0 (l0_0.length : Int) x10_1 = some r) ∧ Aside0 (kq ≤ k) ∧ Aside0 (Kd.R (Kd.int .i64) 2 w' w.heap.size (fun _ => True) v3 x3_1) ∧ Aside0 (w'.heap[gb225]? = some (.cells #[(.slice A0_0 l0_0.length c0_0), (.slice A0_1 l0_1.length c0_1)] 39 (0, 0))) ∧ Aside0 (Below w.heap.size w w'))
 case atStart => exact ⟨(y226), (0), qS, H', ⟨Nat.le_refl _⟩, ⟨qR HO228.out⟩, ⟨qB BK225.out⟩, ⟨qK1 HB.out GE225.out⟩⟩
 case round =>
  clear H'; try clear p2
  try clear hcz5_0
  try clear hcz5_1
  try clear hfz5_0
  try clear hfz5_1
  obtain ⟨x3_1, x10_1, rfl, HA, HK1, HO_3, BK225, HB⟩ := hrel
  cases gk with
  | zero => exact absurd HA.out (by simp [impl_freeKnots.l0])
  | succ k1 =>
   have H := HA.out; clear HA; simp only [impl_freeKnots.l0] at H
   by_cases c6 : x10_1 < (l0_0.length : Int)
   ·rw [if_pos c6] at H; have c6b0 : decide (x10_1 < (l0_0.length : Int)) = true := dT' c6; clear c6
    by_cases c7 : 0 ≤ x10_1
    ·rw [if_pos c7] at H; have c7b0 : decide (0 ≤ x10_1) = true := dT' c7; clear c7
     by_cases c8 : x10_1 < (l0_0.length : Int)
     ·rw [if_pos c8] at H; have c8b0 : decide (x10_1 < (l0_0.length : Int)) = true := dT' c8; clear c8; obtain ⟨bq9, hbq9⟩ : ∃ b_ : Bool, b_ = ((rd_T82 l0_0 x10_1).f2) := ⟨_, rfl⟩
      replace H : (if (bq9 = true) then (impl_freeKnots.l0 k1 x3_1 l0_0 (l0_0.length : Int) (wrap64 (x10_1 + 1))) else (if x3_1.length < 17592186044416 then (impl_freeKnots.l0 k1 (x3_1 ++ [x10_1]) l0_0 (l0_0.length : Int) (wrap64 (x10_1 + 1))) else (none))) = some r := by rw [← hbq9] at H; exact H
      have Nbq9 := A' hbq9; clear hbq9
      by_cases c10 : (bq9 = true)
      ·subst c10; have H1 : (impl_freeKnots.l0 k1 x3_1 l0_0 (l0_0.length : Int) (wrap64 (x10_1 + 1))) = some r := by rw [if_pos rfl] at H; exact H
       clear H; have H := H1; clear H1; have H' := A' H; clear H; have p229 : 0 ≤ (x10_1 : Int) := oD' qA; have q229 : x10_1 < (l0_0.length : Int) := oD' qA; obtain ⟨ad229, e229, hx229_0, hx229_1, hx229_2⟩ := at_T82 HR0_0.out x10_1 p229 q229; (try rw [← Nbq9.out] at hx229_2); (try rw [← Nbq9.out] at hw229_2)
       cases e229
       try replace hx229_0 := qC HB.out hx229_0
       try replace hx229_1 := qC HB.out hx229_1
       try replace hx229_2 := qC HB.out hx229_2
       replace p229 := eq_true p229; replace q229 := eq_true q229; go_wp2_with (first | ((with_reducible refine gate_dst (N := 5) rfl ?_); refine box_event ?hg (N := 5) ?hd (cs := #[.int .i64 0, .int .i64 0, .bool false]) (t := 82) ?hr ?_; (case hd => rfl); (case hg => rfl); (case hr => first | (go_simp; done) | (go_simp; rfl)); intro gb230 hg w11 hbox hb; have n0_ := A' (L' (qR HO_3.out) hb); have n1_ := A' (O' (g := gb225) (qB BK225.out) hb); have n2_ := A' (W' (qK1 HB.out GE225.out) hb); have n3_ := A' (hbox); have n4_ := A' ((by rw [hg]; exact (V' (qK1 HB.out GE225.out)) : w.heap.size ≤ gb230)); have n5_ := A' ((by rw [hg]; exact (V' (qK1 HB.out GE225.out)) : w.heap.size ≤ gb230)); have n6_ := A' ((by rw [hg]; exact Nat.ne_of_lt (bL' (g := gb225) (qB BK225.out)) : gb225 ≠ gb230)); have n7_ := A' ((by rw [hg]; exact Nat.ne_of_gt (bL' (g := gb225) (qB BK225.out)) : gb230 ≠ gb225)); clear HO_3; clear BK225; clear HB; have HO_3 := n0_; have BK225 := n1_; have HB := n2_; have BK230 := n3_; have GW230 := n4_; have GE230 := n5_; have NB225_230 := n6_; have NB230_225 := n7_; clear n0_ n1_ n2_ n3_ n4_ n5_ n6_ n7_; clear hb hbox hg; have hnb12 := NB230_225.out; have hnc12 := NB225_230.out; have hcz13_0 : w11.cell? ⟨gb230, 0, none⟩ = some (.int .i64 0) := (N' BK230.out 0).trans rfl; have hcz13_1 : w11.cell? ⟨gb230, 1, none⟩ = some (.int .i64 0) := (N' BK230.out 1).trans rfl; have hcz13_2 : w11.cell? ⟨gb230, 2, none⟩ = some (.bool false) := (N' BK230.out 2).trans rfl; have hfz13_0 := Y' BK230.out 0; have hfz13_1 := Y' BK230.out 1; have hfz13_2 := Y' BK230.out 2))
       go_roundg k1
       case measure => have := HK1.out; omega
       case rel => exact ⟨(x3_1), (wrap64 (x10_1 + 1)), qS, H', ⟨by have := HK1.out; omega⟩, ⟨by (with_reducible repeat (first | apply B' | apply C' | apply D')); exact Q' (M' (p := ⟨gb230, 2, none⟩) (M' (p := ⟨gb230, 1, none⟩) (M' (p := ⟨gb230, 0, none⟩) (P' HO_3.out BK230.out (by decide)) (fun _ hk => hk.2) (.int .i64 ((rd_T82 l0_0 x10_1).f0))) (fun _ hk => hk.2) (.int .i64 ((rd_T82 l0_0 x10_1).f1))) (fun _ hk => hk.2) (.bool true)) (fun _ hk => trivial)⟩, ⟨qG3 BK225.out NB225_230.out NB225_230.out NB225_230.out⟩, ⟨qK2 HB.out GE225.out GE230.out⟩⟩
      ·replace c10 := Bool.eq_false_iff.mpr c10; subst c10; have H1 : (if x3_1.length < 17592186044416 then (impl_freeKnots.l0 k1 (x3_1 ++ [x10_1]) l0_0 (l0_0.length : Int) (wrap64 (x10_1 + 1))) else (none)) = some r := by rw [if_neg (show ¬ (false = true) by decide)] at H; exact H
       clear H; have H := H1; clear H1
       by_cases c14 : x3_1.length < 17592186044416
       ·rw [if_pos c14] at H; have LMc14 := A' c14; clear c14; obtain ⟨y231, hy231⟩ : ∃ y_ : List Int, y_ = (x3_1 ++ [x10_1]) := ⟨_, rfl⟩
        replace H : (impl_freeKnots.l0 k1 y231 l0_0 (l0_0.length : Int) (wrap64 (x10_1 + 1))) = some r := by first | (rw [hy231]; with_reducible exact H) | (have H2_ := (Option.bind_some _ _).symm.trans H; rw [hy231]; with_reducible exact H2_) | (have H2_ := (Option.bind_some _ _).symm.trans H; with_reducible exact H2_) | with_reducible exact H | (rw [hy231]; exact H) | exact H
        have Ny231 := A' hy231; clear hy231; have H' := A' H; clear H; have p229 : 0 ≤ (x10_1 : Int) := oD' qA; have q229 : x10_1 < (l0_0.length : Int) := oD' qA; obtain ⟨ad229, e229, hx229_0, hx229_1, hx229_2⟩ := at_T82 HR0_0.out x10_1 p229 q229; (try rw [← Nbq9.out] at hx229_2); (try rw [← Nbq9.out] at hw229_2)
        cases e229
        try replace hx229_0 := qC HB.out hx229_0
        try replace hx229_1 := qC HB.out hx229_1
        try replace hx229_2 := qC HB.out hx229_2
        replace p229 := eq_true p229; replace q229 := eq_true q229; go_wp2_with (first | ((with_reducible refine gate_dst (N := 5) rfl ?_); refine box_event ?hg (N := 5) ?hd (cs := #[.int .i64 0, .int .i64 0, .bool false]) (t := 82) ?hr ?_; (case hd => rfl); (case hg => rfl); (case hr => first | (go_simp; done) | (go_simp; rfl)); intro gb230 hg w15 hbox hb; have n0_ := A' (L' (qR HO_3.out) hb); have n1_ := A' (O' (g := gb225) (qB BK225.out) hb); have n2_ := A' (W' (qK1 HB.out GE225.out) hb); have n3_ := A' (hbox); have n4_ := A' ((by rw [hg]; exact (V' (qK1 HB.out GE225.out)) : w.heap.size ≤ gb230)); have n5_ := A' ((by rw [hg]; exact (V' (qK1 HB.out GE225.out)) : w.heap.size ≤ gb230)); have n6_ := A' ((by rw [hg]; exact Nat.ne_of_lt (bL' (g := gb225) (qB BK225.out)) : gb225 ≠ gb230)); have n7_ := A' ((by rw [hg]; exact Nat.ne_of_gt (bL' (g := gb225) (qB BK225.out)) : gb230 ≠ gb225)); clear HO_3; clear BK225; clear HB; have HO_3 := n0_; have BK225 := n1_; have HB := n2_; have BK230 := n3_; have GW230 := n4_; have GE230 := n5_; have NB225_230 := n6_; have NB230_225 := n7_; clear n0_ n1_ n2_ n3_ n4_ n5_ n6_ n7_; clear hb hbox hg; have hnb16 := NB230_225.out; have hnc16 := NB225_230.out; have hcz17_0 : w15.cell? ⟨gb230, 0, none⟩ = some (.int .i64 0) := (N' BK230.out 0).trans rfl; have hcz17_1 : w15.cell? ⟨gb230, 1, none⟩ = some (.int .i64 0) := (N' BK230.out 1).trans rfl; have hcz17_2 : w15.cell? ⟨gb230, 2, none⟩ = some (.bool false) := (N' BK230.out 2).trans rfl; have hfz17_0 := Y' BK230.out 0; have hfz17_1 := Y' BK230.out 1; have hfz17_2 := Y' BK230.out 2) | ((with_reducible refine gate_builtin (b := .append) (xs := #[.tmp 18, .tmp 20]) rfl ?_); at_builtin; refine Kd.R_append (Kd.int .i64) (w0 := w) w.heap.size rfl (.tmp 18) (.tmp 20) 22 2 (.int .i64 0) 8 rfl Try.underlying22 info2 rfl (by decide) (by omega) u3 x3_1 x10_1 [.int .i64 x10_1] (fun _ => True) (fun _ => False) rfl (by first | (go_simp; done) | (go_simp; rfl)) ?aP (fun _ hk => hk.elim) ?aF ?aO ?aB ?aS ?aL ?_; (case aP => exact rfl); (case aB => exact (qK2 HB.out GE225.out GE230.out)); (case aF => exact (fun _ _ => trivial)); (case aO => exact (by (with_reducible repeat (first | apply B' | apply C' | apply D')); exact Q' (M' (p := ⟨gb230, 2, none⟩) (M' (p := ⟨gb230, 1, none⟩) (M' (p := ⟨gb230, 0, none⟩) (P' HO_3.out BK230.out (by decide)) (fun _ hk => hk.2) (.int .i64 ((rd_T82 l0_0 x10_1).f0))) (fun _ hk => hk.2) (.int .i64 ((rd_T82 l0_0 x10_1).f1))) (fun _ hk => hk.2) (.bool false)) (fun _ hk => trivial))); (case aS => exact (V' (qK2 HB.out GE225.out GE230.out))); (case aL => have := LMc14.out; omega); intro v232 w18 ho hb hg hat; rw [← Ny231.out] at ho; have n0_ := A' (blk_grown (g := gb225) (o := .cells #[.slice (some ad229) l0_0.length c0_0, .slice A0_1 l0_1.length c0_1] 39 (0, 0)) (qG3 BK225.out NB225_230.out NB225_230.out NB225_230.out) hg (Kd.R_ne HO_3.out BK225.out (by decide))); have n1_ := A' (blk_grown (g := gb230) (o := .cells #[.int .i64 ((rd_T82 l0_0 x10_1).f0), .int .i64 ((rd_T82 l0_0 x10_1).f1), .bool false] 82 (0, 0)) (by (with_reducible repeat (first | refine G' ?_ _ | refine I' ?_ | refine H' ?_ _)); refine blk_put (cs := #[.int .i64 ((rd_T82 l0_0 x10_1).f0), .int .i64 ((rd_T82 l0_0 x10_1).f1), .bool false]) ?_ 2 _ rfl; (with_reducible repeat (first | refine G' ?_ _ | refine I' ?_ | refine H' ?_ _)); refine blk_put (cs := #[.int .i64 ((rd_T82 l0_0 x10_1).f0), .int .i64 0, .bool false]) ?_ 1 _ rfl; (with_reducible repeat (first | refine G' ?_ _ | refine I' ?_ | refine H' ?_ _)); refine blk_put (cs := #[.int .i64 0, .int .i64 0, .bool false]) ?_ 0 _ rfl; (with_reducible repeat (first | refine G' ?_ _ | refine I' ?_ | refine H' ?_ _)); exact BK230.out) hg (Kd.R_ne HO_3.out BK230.out (by decide))); have n2_ := A' (hb); have n3_ := A' (ho); clear BK225; clear BK230; clear HB; clear HO_3; have BK225 := n0_; have BK230 := n1_; have HB := n2_; have HO233 := n3_; clear n0_ n1_ n2_ n3_; clear ho hb hg hat))
        go_roundg k1
        case measure => have := HK1.out; omega
        case rel => exact ⟨(y231), (wrap64 (x10_1 + 1)), qS, H', ⟨by have := HK1.out; omega⟩, ⟨qR HO233.out⟩, ⟨qB BK225.out⟩, ⟨qK2 HB.out GE225.out GE230.out⟩⟩
       ·rw [if_neg c14] at H; exact absurd H (by simp)
     ·rw [if_neg c8] at H; exact absurd H (by simp)
    ·rw [if_neg c7] at H; exact absurd H (by simp)
   ·rw [if_neg c6] at H; have c6b0 : decide (x10_1 < (l0_0.length : Int)) = false := dF' c6; clear c6; obtain rfl := Option.some.inj H; go_wp2; go_ret; exact ⟨_, qE, qR HO_3.out, qK1 HB.out GE225.out⟩

/-! ### impl_within: function 68 -/
def impl_within.f (a0 : Int) (a1 : Int) (a2 : Int) : Option (Bool) := if a0 ≥ a1 then (some (decide (a0 ≤ a2))) else (some false)
set_option maxHeartbeats 8000000 in
set_option maxRecDepth 100000 in
theorem impl_within.calls (a0 : Int) (a1 : Int) (a2 : Int) (r : Bool) (w : World) (h : impl_within.f a0 a1 a2 = some r) :
    Calls Try.prog 68 #[.int .i64 a0, .int .i64 a1, .int .i64 a2] w fun e w' => e = .returned (.bool r) ∧ Drawn0 w w' := by
  have H : (if a0 ≥ a1 then (some (decide (a0 ≤ a2))) else (some false)) = some r := h
  clear h
  by_cases c4 : a0 ≥ a1
  · rw [if_pos c4] at H
    have c4b0 : decide (a1 ≤ a0) = true := decide_eq_true c4
    clear c4
    obtain rfl := Option.some.inj H
    go_enter Try.func68, Try.ntmps68
    go_wp2
    go_ret
    exact ⟨by first | rfl | (simp; done) | (simp [*]; done), by repeat (first | exact Drawn0.refl _ | apply Drawn0.step)⟩
  · rw [if_neg c4] at H
    have c4b0 : decide (a1 ≤ a0) = false := decide_eq_false c4
    clear c4
    obtain rfl := Option.some.inj H
    go_enter Try.func68, Try.ntmps68
    go_wp2
    go_ret
    exact ⟨by first | rfl | (simp; done) | (simp [*]; done), by repeat (first | exact Drawn0.refl _ | apply Drawn0.step)⟩

end Go.Proofs.Ytacijlpnpkhjaaa.HBal
