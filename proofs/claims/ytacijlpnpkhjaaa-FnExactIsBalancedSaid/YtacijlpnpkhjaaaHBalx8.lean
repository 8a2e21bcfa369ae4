-- Written by a program for this claim (the functions that the statement reaches, and that the program's code comes to them).
import Derived.Test.YtacijlpnpkhjaaaHBalx0
import Derived.Test.YtacijlpnpkhjaaaHBalx6
import Derived.Test.YtacijlpnpkhjaaaHBalx7
namespace Go.Proofs.Ytacijlpnpkhjaaa.HBal
open Go.RowKit Go.Proofs.YtacijlpnpkhjaaaW.PrintWords Go.Proofs.YtacijlpnpkhjaaaW.PrintLast Go.Proofs.YtacijlpnpkhjaaaW.PrintMore
attribute [local go_sem] max2_int min2_int max_two min_two max_three min_three max_four min_four   -- for this text's walks alone
set_option linter.unusedVariables false
set_option linter.unusedSimpArgs false

/-! ### impl_ValidLoads: function 31 -/
mutual
def impl_ValidLoads.j0 : Nat → List (S97) → Bool → Option (Bool)
 | 0, _, _ => none
 | k + 1, x1, x17 => if x17 = true then (some false) else (impl_ValidLoads.l0 k x1 (x1.length : Int) 0)
def impl_ValidLoads.l0 : Nat → List (S97) → Int → Int → Option (Bool)
 | 0, _, _, _ => none
 | k + 1, x18, x19, x20 => if x20 < x19 then (if 0 ≤ x20 then (if x20 < (x18.length : Int) then ((impl_within.f ((rd_T97 x18 x20).f0) (-100) 100).bind fun t262 => (if t262 = true then ((impl_within.f ((rd_T97 x18 x20).f1) (-100) 100).bind fun t263 => (if t263 = true then (impl_ValidLoads.l0 k x18 x19 (wrap64 (x20 + 1))) else (some false))) else (some false))) else (none)) else (none)) else (some true)
end
def impl_ValidLoads.f (k : Nat) (l0_0 : List (S82)) (l0_1 : List (S84)) (l1 : List (S97)) : Option (Bool) := (impl_ValidFrame.f k l0_0 l0_1).bind fun t259 => (if t259 = true then (impl_ValidLoads.j0 k l1 ((l1.length : Int) != (l0_0.length : Int))) else (impl_ValidLoads.j0 k l1 true))
theorem impl_ValidLoads.mono_l : ∀ k, (∀ y0 y1, LeO (impl_ValidLoads.j0 k y0 y1) (impl_ValidLoads.j0 (k + 1) y0 y1)) ∧ (∀ y0 y1 y2, LeO (impl_ValidLoads.l0 k y0 y1 y2) (impl_ValidLoads.l0 (k + 1) y0 y1 y2))
 | 0 => ⟨fun _ _ r h => by simp [impl_ValidLoads.j0] at h, fun _ _ _ r h => by simp [impl_ValidLoads.l0] at h⟩
 | k + 1 => by
  obtain ⟨ih0, ih1⟩ := impl_ValidLoads.mono_l k
  refine ⟨?_, ?_⟩
  ·intro y0 y1
   unfold impl_ValidLoads.j0
   repeat' first
   | (with_reducible exact ih0 _ _)
   | (with_reducible exact ih1 _ _ _)
   | (with_reducible exact impl_ValidFrame.mono _ _ _)
   | (with_reducible exact LeO.refl _)
   | (with_reducible exact LeO.none _)
   | (with_reducible refine LeO.ite ?_ ?_)
   | (with_reducible refine LeO.bind ?_ (fun _ => ?_))
   | exact ih0 _ _
   | exact ih1 _ _ _
   | exact impl_ValidFrame.mono _ _ _
   | exact LeO.none _
   | refine LeO.ite ?_ ?_
   | refine LeO.bind ?_ (fun _ => ?_)
  ·intro y0 y1 y2
   unfold impl_ValidLoads.l0
   repeat' first
   | (with_reducible exact ih0 _ _)
   | (with_reducible exact ih1 _ _ _)
   | (with_reducible exact impl_ValidFrame.mono _ _ _)
   | (with_reducible exact LeO.refl _)
   | (with_reducible exact LeO.none _)
   | (with_reducible refine LeO.ite ?_ ?_)
   | (with_reducible refine LeO.bind ?_ (fun _ => ?_))
   | exact ih0 _ _
   | exact ih1 _ _ _
   | exact impl_ValidFrame.mono _ _ _
   | exact LeO.none _
   | refine LeO.ite ?_ ?_
   | refine LeO.bind ?_ (fun _ => ?_)
theorem impl_ValidLoads.mono : ∀ a0 a1 a2 k, LeO (impl_ValidLoads.f k a0 a1 a2) (impl_ValidLoads.f (k + 1) a0 a1 a2) := by
 intro a0 a1 a2 k
 obtain ⟨ih0, ih1⟩ := impl_ValidLoads.mono_l k
 unfold impl_ValidLoads.f
 repeat' first
   | (with_reducible exact ih0 _ _)
   | (with_reducible exact ih1 _ _ _)
   | (with_reducible exact impl_ValidFrame.mono _ _ _)
   | (with_reducible exact LeO.refl _)
   | (with_reducible exact LeO.none _)
   | (with_reducible refine LeO.ite ?_ ?_)
   | (with_reducible refine LeO.bind ?_ (fun _ => ?_))
   | exact ih0 _ _
   | exact ih1 _ _ _
   | exact impl_ValidFrame.mono _ _ _
   | exact LeO.none _
   | refine LeO.ite ?_ ?_
   | refine LeO.bind ?_ (fun _ => ?_)
set_option maxHeartbeats 8000000 in
set_option maxRecDepth 100000 in
theorem impl_ValidLoads.calls (k : Nat) (A0_0 : Option Addr) (c0_0 : Nat) (l0_0 : List (S82)) (A0_1 : Option Addr) (c0_1 : Nat) (l0_1 : List (S84)) (A1 : Option Addr) (c1 : Nat) (l1 : List (S97)) (r : Bool) (w : World) (hr0_0 : Kd.C k82 w A0_0 l0_0.length l0_0) (hc0_0 : l0_0.length ≤ c0_0) (hr0_1 : Kd.C k84 w A0_1 l0_1.length l0_1) (hc0_1 : l0_1.length ≤ c0_1) (hr1 : Kd.C k97 w A1 l1.length l1) (hc1 : l1.length ≤ c1) (h : impl_ValidLoads.f k l0_0 l0_1 l1 = some r) :
  Calls Try.prog 31 #[.agg #[.slice A0_0 l0_0.length c0_0, .slice A0_1 l0_1.length c0_1], .slice A1 l1.length c1] w fun e w' => e = .returned (.bool r) ∧ Below w.heap.size w w' := by
 have hu39 := Try.underlying39; have hu97 := Try.underlying97; have HR0_0 := A' hr0_0; have HC0_0 := A' hc0_0; clear hr0_0 hc0_0; have HR0_1 := A' hr0_1; have HC0_1 := A' hc0_1; clear hr0_1 hc0_1; have HR1 := A' hr1; have HC1 := A' hc1; clear hr1 hc1; have HB := A' (Below.refl w.heap.size w); have H : ((impl_ValidFrame.f k l0_0 l0_1).bind fun t259 => (if t259 = true then (impl_ValidLoads.j0 k l1 ((l1.length : Int) != (l0_0.length : Int))) else (impl_ValidLoads.j0 k l1 true))) = some r := h; clear h; have HC3 := A' H; clear H; go_enter Try.func31, Try.ntmps31; go_upto_region 1 with (first | ((with_reducible refine gate_dst (N := 2) rfl ?_); (try (refine gate_guard (by rfl) ?_; dsimp only)); refine box_event ?hg (N := 2) ?hd (cs := #[.slice A0_0 l0_0.length c0_0, .slice A0_1 l0_1.length c0_1]) (t := 39) ?hr ?_; (case hd => rfl); (case hg => rfl); (case hr => first | (go_simp; done) | (go_simp; rfl)); intro gb258 hg w4 hbox hb; have n0_ := A' (W' (qK0 HB.out) hb); have n1_ := A' (hbox); have n2_ := A' ((by rw [hg]; exact (V' (qK0 HB.out)) : w.heap.size ≤ gb258)); have n3_ := A' ((by rw [hg]; exact (V' (qK0 HB.out)) : w.heap.size ≤ gb258)); clear HB; have HB := n0_; have BK258 := n1_; have GW258 := n2_; have GE258 := n3_; clear n0_ n1_ n2_ n3_; clear hb hbox hg))
 (try simp only [Act.put, List.setIfInBounds_toArray, List.set_cons_zero, List.set_cons_succ])
 go_cut [17] (fun v17 wc => ∃ (kq : Nat) (x17_2 : Bool), v17 = .bool x17_2 ∧ Aside0 (impl_ValidLoads.j0 kq l1 x17_2 = some r) ∧ Aside0 (kq ≤ k) ∧ Aside0 (wc.heap[gb258]? = some (.cells #[(.slice A0_0 l0_0.length c0_0), (.slice A0_1 l0_1.length c0_1)] 39 (0, 0))) ∧ Aside0 (Below w.heap.size w wc))
 case first =>
  have H := HC3.out; clear HC3; replace H := Option.bind_eq_some_iff.mp H; obtain ⟨t259, A50, H⟩ := H; replace H : (if t259 = true then (impl_ValidLoads.j0 k l1 ((l1.length : Int) != (l0_0.length : Int))) else (impl_ValidLoads.j0 k l1 true)) = some r := H; have A5 := A' A50; clear A50
  by_cases c6 : t259 = true
  ·subst c6; have H1 : (impl_ValidLoads.j0 k l1 ((l1.length : Int) != (l0_0.length : Int))) = some r := by rw [if_pos rfl] at H; exact H
   clear H; have H := H1; clear H1; have H' := A' H; clear H; have hcz7_0 : w4.cell? ⟨gb258, 0, none⟩ = some (.slice A0_0 l0_0.length c0_0) := (N' BK258.out 0).trans rfl; have hcz7_1 : w4.cell? ⟨gb258, 1, none⟩ = some (.slice A0_1 l0_1.length c0_1) := (N' BK258.out 1).trans rfl; have hfz7_0 := Y' BK258.out 0; have hfz7_1 := Y' BK258.out 1; go_wp2_with (first | ((with_reducible refine gate_callee (f := 25) rfl ?_); refine goesL_ (some 8) rfl rfl Try.func25 (by kernel_rfl) rfl #[.agg #[.slice A0_0 l0_0.length c0_0, .slice A0_1 l0_1.length c0_1]] rfl (by (try simp only [List.map_toArray, List.map_cons, List.map_nil]); first | done | rfl | (simp only [List.length_drop, List.length_take]; rfl)) ?_; (with_reducible refine (impl_ValidFrame.calls k _ _ l0_0 _ _ l0_1 true _ ?side1 ?side2 ?side3 ?side4 A5.out).mono ?_); (case side1 => exact qT (X' HR0_0.out HB.out)); (case side2 => exact HC0_0.out); (case side3 => exact qT (X' HR0_1.out HB.out)); (case side4 => exact HC0_1.out); rintro e w8 ⟨rfl, hb⟩; refine ⟨_, rfl, ?_⟩; have n0_ := A' (O' (g := gb258) (qB BK258.out) hb); have n1_ := A' (W' (qK1 HB.out GE258.out) hb); clear BK258; clear HB; have BK258 := n0_; have HB := n1_; clear n0_ n1_; (try clear hb); (try clear hb2); (try clear hk); (try clear hi); have hcz9_0 : w8.cell? ⟨gb258, 0, none⟩ = some (.slice A0_0 l0_0.length c0_0) := (N' BK258.out 0).trans rfl; have hcz9_1 : w8.cell? ⟨gb258, 1, none⟩ = some (.slice A0_1 l0_1.length c0_1) := (N' BK258.out 1).trans rfl; have hfz9_0 := Y' BK258.out 0; have hfz9_1 := Y' BK258.out 1))
   go_meet
   case rel => exact ⟨_, (((l1.length : Int) != (l0_0.length : Int))), qS, H', ⟨by first | omega | exact Nat.le_refl _⟩, ⟨qB BK258.out⟩, ⟨qK1 HB.out GE258.out⟩⟩
  ·replace c6 := Bool.eq_false_iff.mpr c6; subst c6; have H1 : (impl_ValidLoads.j0 k l1 true) = some r := by rw [if_neg (show ¬ (false = true) by decide)] at H; exact H
   clear H; have H := H1; clear H1; have H' := A' H; clear H; have hcz10_0 : w4.cell? ⟨gb258, 0, none⟩ = some (.slice A0_0 l0_0.length c0_0) := (N' BK258.out 0).trans rfl; have hcz10_1 : w4.cell? ⟨gb258, 1, none⟩ = some (.slice A0_1 l0_1.length c0_1) := (N' BK258.out 1).trans rfl; have hfz10_0 := Y' BK258.out 0; have hfz10_1 := Y' BK258.out 1; go_wp2_with (first | ((with_reducible refine gate_callee (f := 25) rfl ?_); refine goesL_ (some 8) rfl rfl Try.func25 (by kernel_rfl) rfl #[.agg #[.slice A0_0 l0_0.length c0_0, .slice A0_1 l0_1.length c0_1]] rfl (by (try simp only [List.map_toArray, List.map_cons, List.map_nil]); first | done | rfl | (simp only [List.length_drop, List.length_take]; rfl)) ?_; (with_reducible refine (impl_ValidFrame.calls k _ _ l0_0 _ _ l0_1 false _ ?side1 ?side2 ?side3 ?side4 A5.out).mono ?_); (case side1 => exact qT (X' HR0_0.out HB.out)); (case side2 => exact HC0_0.out); (case side3 => exact qT (X' HR0_1.out HB.out)); (case side4 => exact HC0_1.out); rintro e w11 ⟨rfl, hb⟩; refine ⟨_, rfl, ?_⟩; have n0_ := A' (O' (g := gb258) (qB BK258.out) hb); have n1_ := A' (W' (qK1 HB.out GE258.out) hb); clear BK258; clear HB; have BK258 := n0_; have HB := n1_; clear n0_ n1_; (try clear hb); (try clear hb2); (try clear hk); (try clear hi)))
   go_meet
   case rel => exact ⟨_, (true), qS, H', ⟨by first | omega | exact Nat.le_refl _⟩, ⟨qB BK258.out⟩, ⟨qK1 HB.out GE258.out⟩⟩
 case rest =>
  clear HC3; try clear c1
  try clear c2
  try clear p2
  try clear c3
  try clear c6
  try clear hcz10_0
  try clear hcz10_1
  try clear hcz7_0
  try clear hcz7_1
  try clear hcz9_0
  try clear hcz9_1
  try clear hfz10_0
  try clear hfz10_1
  try clear hfz7_0
  try clear hfz7_1
  try clear hfz9_0
  try clear hfz9_1
  obtain ⟨kq, x17_2, rfl, HA, HJ2, BK258, HB⟩ := hcut
  cases kq with
  | zero => exact absurd HA.out (by simp [impl_ValidLoads.j0])
  | succ kj2 =>
   have H := HA.out; clear HA; simp only [impl_ValidLoads.j0] at H
   by_cases c12 : x17_2 = true
   ·subst c12; have H1 : (some false) = some r := by rw [if_pos rfl] at H; exact H
    clear H; have H := H1; clear H1; obtain rfl := Option.some.inj H; go_wp2; go_ret; exact ⟨qE, qK1 HB.out GE258.out⟩
   ·replace c12 := Bool.eq_false_iff.mpr c12; subst c12; have H1 : (impl_ValidLoads.l0 kj2 l1 (l1.length : Int) 0) = some r := by rw [if_neg (show ¬ (false = true) by decide)] at H; exact H
    clear H; have H := H1; clear H1; have H' := A' H; clear H; go_wp2
    go_loopg [20] kj2 (fun kq v20 w' => ∃ (x20_2 : Int), v20 = .int .i64 x20_2 ∧ Aside0 (impl_ValidLoads.l0 kq l1 (l1.length : Int) x20_2 = some r) ∧ Aside0 (kq ≤ kj2) ∧ Aside0 (w'.heap[gb258]? = some (.cells #[(.slice A0_0 l0_0.length c0_0), (.slice A0_1 l0_1.length c0_1)] 39 (0, 0))) ∧ Aside0 (Below w.heap.size w w'))
    case atStart => exact ⟨(0), qS, H', ⟨Nat.le_refl _⟩, ⟨qB BK258.out⟩, ⟨qK1 HB.out GE258.out⟩⟩
    case round =>
     clear H'; try clear c1
     try clear c2
     try clear p2
     try clear c3
     try clear c6
     try clear c12
     try clear hcz10_0
     try clear hcz10_1
     try clear hcz7_0
     try clear hcz7_1
     try clear hcz9_0
     try clear hcz9_1
     try clear hfz10_0
     try clear hfz10_1
     try clear hfz7_0
     try clear hfz7_1
     try clear hfz9_0
     try clear hfz9_1
     try clear p2
     obtain ⟨x20_2, rfl, HA, HK2, BK258, HB⟩ := hrel
     cases gk with
     | zero => exact absurd HA.out (by simp [impl_ValidLoads.l0])
     | succ k2 =>
      have H := HA.out; clear HA; simp only [impl_ValidLoads.l0] at H
      by_cases c13 : x20_2 < (l1.length : Int)
      ·rw [if_pos c13] at H; have c13b0 : decide (x20_2 < (l1.length : Int)) = true := dT' c13; clear c13
       by_cases c14 : 0 ≤ x20_2
       ·rw [if_pos c14] at H; have c14b0 : decide (0 ≤ x20_2) = true := dT' c14; clear c14
        by_cases c15 : x20_2 < (l1.length : Int)
        ·rw [if_pos c15] at H; have c15b0 : decide (x20_2 < (l1.length : Int)) = true := dT' c15; clear c15; replace H := Option.bind_eq_some_iff.mp H; obtain ⟨t262, A160, H⟩ := H; replace H : (if t262 = true then ((impl_within.f ((rd_T97 l1 x20_2).f1) (-100) 100).bind fun t263 => (if t263 = true then (impl_ValidLoads.l0 k2 l1 (l1.length : Int) (wrap64 (x20_2 + 1))) else (some false))) else (some false)) = some r := H; have A16 := A' A160; clear A160
         by_cases c17 : t262 = true
         ·subst c17; have H1 : ((impl_within.f ((rd_T97 l1 x20_2).f1) (-100) 100).bind fun t263 => (if t263 = true then (impl_ValidLoads.l0 k2 l1 (l1.length : Int) (wrap64 (x20_2 + 1))) else (some false))) = some r := by rw [if_pos rfl] at H; exact H
          clear H; have H := H1; clear H1; replace H := Option.bind_eq_some_iff.mp H; obtain ⟨t263, A180, H⟩ := H; replace H : (if t263 = true then (impl_ValidLoads.l0 k2 l1 (l1.length : Int) (wrap64 (x20_2 + 1))) else (some false)) = some r := H; have A18 := A' A180; clear A180
          by_cases c19 : t263 = true
          ·subst c19; have H1 : (impl_ValidLoads.l0 k2 l1 (l1.length : Int) (wrap64 (x20_2 + 1))) = some r := by rw [if_pos rfl] at H; exact H
           clear H; have H := H1; clear H1; have H' := A' H; clear H; have p260 : 0 ≤ (x20_2 : Int) := oD' qA; have q260 : x20_2 < (l1.length : Int) := oD' qA; obtain ⟨ad260, e260, hx260_0, hx260_1⟩ := at_T97 HR1.out x20_2 p260 q260
           cases e260
           try replace hx260_0 := qC HB.out hx260_0
           try replace hx260_1 := qC HB.out hx260_1
           replace p260 := eq_true p260; replace q260 := eq_true q260; go_wp2_with (first | ((with_reducible refine gate_dst (N := 6) rfl ?_); (try (refine gate_guard (by rfl) ?_; dsimp only)); refine box_event ?hg (N := 6) ?hd (cs := #[.int .i64 0, .int .i64 0]) (t := 97) ?hr ?_; (case hd => rfl); (case hg => rfl); (case hr => first | (go_simp; done) | (go_simp; rfl)); intro gb261 hg w20 hbox hb; have n0_ := A' (O' (g := gb258) (qB BK258.out) hb); have n1_ := A' (W' (qK1 HB.out GE258.out) hb); have n2_ := A' (hbox); have n3_ := A' ((by rw [hg]; exact (V' (qK1 HB.out GE258.out)) : w.heap.size ≤ gb261)); have n4_ := A' ((by rw [hg]; exact (V' (qK1 HB.out GE258.out)) : w.heap.size ≤ gb261)); have n5_ := A' ((by rw [hg]; exact Nat.ne_of_lt (bL' (g := gb258) (qB BK258.out)) : gb258 ≠ gb261)); have n6_ := A' ((by rw [hg]; exact Nat.ne_of_gt (bL' (g := gb258) (qB BK258.out)) : gb261 ≠ gb258)); clear BK258; clear HB; have BK258 := n0_; have HB := n1_; have BK261 := n2_; have GW261 := n3_; have GE261 := n4_; have NB258_261 := n5_; have NB261_258 := n6_; clear n0_ n1_ n2_ n3_ n4_ n5_ n6_; clear hb hbox hg; have hnb21 := NB261_258.out; have hnc21 := NB258_261.out; have hcz22_0 : w20.cell? ⟨gb261, 0, none⟩ = some (.int .i64 0) := (N' BK261.out 0).trans rfl; have hcz22_1 : w20.cell? ⟨gb261, 1, none⟩ = some (.int .i64 0) := (N' BK261.out 1).trans rfl; have hfz22_0 := Y' BK261.out 0; have hfz22_1 := Y' BK261.out 1) | ((with_reducible refine gate_callee (f := 68) rfl ?_); refine goesL_ (some 26) rfl rfl Try.func68 (by kernel_rfl) rfl #[.int .i64 ((rd_T97 l1 x20_2).f0), .int .i64 (-100), .int .i64 100] rfl (by (try simp only [List.map_toArray, List.map_cons, List.map_nil]); first | done | rfl | (simp only [List.length_drop, List.length_take]; rfl)) ?_; (with_reducible refine (impl_within.calls ((rd_T97 l1 x20_2).f0) (-100) 100 true _ A16.out).mono ?_); rintro e w' ⟨rfl, ⟨nd, rfl⟩⟩; refine ⟨_, rfl, ?_⟩) | (go_at_call 68; (with_reducible refine (impl_within.calls ((rd_T97 l1 x20_2).f1) (-100) 100 true _ A18.out).mono ?_); rintro e w' ⟨rfl, ⟨nd, rfl⟩⟩))
           go_roundg k2
           case measure => have := HJ2.out; have := HK2.out; omega
           case rel => exact ⟨(wrap64 (x20_2 + 1)), qS, H', ⟨by have := HJ2.out; have := HK2.out; omega⟩, ⟨qG2 BK258.out NB258_261.out NB258_261.out⟩, ⟨qK2 HB.out GE258.out GE261.out⟩⟩
          ·replace c19 := Bool.eq_false_iff.mpr c19; subst c19; have H1 : (some false) = some r := by rw [if_neg (show ¬ (false = true) by decide)] at H; exact H
           clear H; have H := H1; clear H1; obtain rfl := Option.some.inj H; have p260 : 0 ≤ (x20_2 : Int) := oD' qA; have q260 : x20_2 < (l1.length : Int) := oD' qA; obtain ⟨ad260, e260, hx260_0, hx260_1⟩ := at_T97 HR1.out x20_2 p260 q260
           cases e260
           try replace hx260_0 := qC HB.out hx260_0
           try replace hx260_1 := qC HB.out hx260_1
           replace p260 := eq_true p260; replace q260 := eq_true q260; go_wp2_with (first | ((with_reducible refine gate_dst (N := 6) rfl ?_); (try (refine gate_guard (by rfl) ?_; dsimp only)); refine box_event ?hg (N := 6) ?hd (cs := #[.int .i64 0, .int .i64 0]) (t := 97) ?hr ?_; (case hd => rfl); (case hg => rfl); (case hr => first | (go_simp; done) | (go_simp; rfl)); intro gb261 hg w23 hbox hb; have n0_ := A' (O' (g := gb258) (qB BK258.out) hb); have n1_ := A' (W' (qK1 HB.out GE258.out) hb); have n2_ := A' (hbox); have n3_ := A' ((by rw [hg]; exact (V' (qK1 HB.out GE258.out)) : w.heap.size ≤ gb261)); have n4_ := A' ((by rw [hg]; exact (V' (qK1 HB.out GE258.out)) : w.heap.size ≤ gb261)); have n5_ := A' ((by rw [hg]; exact Nat.ne_of_lt (bL' (g := gb258) (qB BK258.out)) : gb258 ≠ gb261)); have n6_ := A' ((by rw [hg]; exact Nat.ne_of_gt (bL' (g := gb258) (qB BK258.out)) : gb261 ≠ gb258)); clear BK258; clear HB; have BK258 := n0_; have HB := n1_; have BK261 := n2_; have GW261 := n3_; have GE261 := n4_; have NB258_261 := n5_; have NB261_258 := n6_; clear n0_ n1_ n2_ n3_ n4_ n5_ n6_; clear hb hbox hg; have hnb24 := NB261_258.out; have hnc24 := NB258_261.out; have hcz25_0 : w23.cell? ⟨gb261, 0, none⟩ = some (.int .i64 0) := (N' BK261.out 0).trans rfl; have hcz25_1 : w23.cell? ⟨gb261, 1, none⟩ = some (.int .i64 0) := (N' BK261.out 1).trans rfl; have hfz25_0 := Y' BK261.out 0; have hfz25_1 := Y' BK261.out 1) | ((with_reducible refine gate_callee (f := 68) rfl ?_); refine goesL_ (some 26) rfl rfl Try.func68 (by kernel_rfl) rfl #[.int .i64 ((rd_T97 l1 x20_2).f0), .int .i64 (-100), .int .i64 100] rfl (by (try simp only [List.map_toArray, List.map_cons, List.map_nil]); first | done | rfl | (simp only [List.length_drop, List.length_take]; rfl)) ?_; (with_reducible refine (impl_within.calls ((rd_T97 l1 x20_2).f0) (-100) 100 true _ A16.out).mono ?_); rintro e w' ⟨rfl, ⟨nd, rfl⟩⟩; refine ⟨_, rfl, ?_⟩) | (go_at_call 68; (with_reducible refine (impl_within.calls ((rd_T97 l1 x20_2).f1) (-100) 100 false _ A18.out).mono ?_); rintro e w' ⟨rfl, ⟨nd, rfl⟩⟩)); go_ret; exact ⟨qE, qK2 HB.out GE258.out GE261.out⟩
         ·replace c17 := Bool.eq_false_iff.mpr c17; subst c17; have H1 : (some false) = some r := by rw [if_neg (show ¬ (false = true) by decide)] at H; exact H
          clear H; have H := H1; clear H1; obtain rfl := Option.some.inj H; have p260 : 0 ≤ (x20_2 : Int) := oD' qA; have q260 : x20_2 < (l1.length : Int) := oD' qA; obtain ⟨ad260, e260, hx260_0, hx260_1⟩ := at_T97 HR1.out x20_2 p260 q260
          cases e260
          try replace hx260_0 := qC HB.out hx260_0
          try replace hx260_1 := qC HB.out hx260_1
          replace p260 := eq_true p260; replace q260 := eq_true q260; go_wp2_with (first | ((with_reducible refine gate_dst (N := 6) rfl ?_); (try (refine gate_guard (by rfl) ?_; dsimp only)); refine box_event ?hg (N := 6) ?hd (cs := #[.int .i64 0, .int .i64 0]) (t := 97) ?hr ?_; (case hd => rfl); (case hg => rfl); (case hr => first | (go_simp; done) | (go_simp; rfl)); intro gb261 hg w26 hbox hb; have n0_ := A' (O' (g := gb258) (qB BK258.out) hb); have n1_ := A' (W' (qK1 HB.out GE258.out) hb); have n2_ := A' (hbox); have n3_ := A' ((by rw [hg]; exact (V' (qK1 HB.out GE258.out)) : w.heap.size ≤ gb261)); have n4_ := A' ((by rw [hg]; exact (V' (qK1 HB.out GE258.out)) : w.heap.size ≤ gb261)); have n5_ := A' ((by rw [hg]; exact Nat.ne_of_lt (bL' (g := gb258) (qB BK258.out)) : gb258 ≠ gb261)); have n6_ := A' ((by rw [hg]; exact Nat.ne_of_gt (bL' (g := gb258) (qB BK258.out)) : gb261 ≠ gb258)); clear BK258; clear HB; have BK258 := n0_; have HB := n1_; have BK261 := n2_; have GW261 := n3_; have GE261 := n4_; have NB258_261 := n5_; have NB261_258 := n6_; clear n0_ n1_ n2_ n3_ n4_ n5_ n6_; clear hb hbox hg; have hnb27 := NB261_258.out; have hnc27 := NB258_261.out; have hcz28_0 : w26.cell? ⟨gb261, 0, none⟩ = some (.int .i64 0) := (N' BK261.out 0).trans rfl; have hcz28_1 : w26.cell? ⟨gb261, 1, none⟩ = some (.int .i64 0) := (N' BK261.out 1).trans rfl; have hfz28_0 := Y' BK261.out 0; have hfz28_1 := Y' BK261.out 1) | ((with_reducible refine gate_callee (f := 68) rfl ?_); refine goesL_ (some 26) rfl rfl Try.func68 (by kernel_rfl) rfl #[.int .i64 ((rd_T97 l1 x20_2).f0), .int .i64 (-100), .int .i64 100] rfl (by (try simp only [List.map_toArray, List.map_cons, List.map_nil]); first | done | rfl | (simp only [List.length_drop, List.length_take]; rfl)) ?_; (with_reducible refine (impl_within.calls ((rd_T97 l1 x20_2).f0) (-100) 100 false _ A16.out).mono ?_); rintro e w' ⟨rfl, ⟨nd, rfl⟩⟩; refine ⟨_, rfl, ?_⟩)); go_ret; exact ⟨qE, qK2 HB.out GE258.out GE261.out⟩
        ·rw [if_neg c15] at H; exact absurd H (by simp)
       ·rw [if_neg c14] at H; exact absurd H (by simp)
      ·rw [if_neg c13] at H; have c13b0 : decide (x20_2 < (l1.length : Int)) = false := dF' c13; clear c13; obtain rfl := Option.some.inj H; go_wp2; go_ret; exact ⟨qE, qK1 HB.out GE258.out⟩

/-! ### impl_gcd: function 78 -/
mutual
def impl_gcd.j0 : Nat → Int → Int → Option (Int)
 | 0, _, _ => none
 | k + 1, x0, x1 => impl_gcd.l0 k x0 x1
def impl_gcd.l0 : Nat → Int → Int → Option (Int)
 | 0, _, _ => none
 | k + 1, x0, x1 => if x1 = 0 then (some x0) else (impl_gcd.l0 k x1 (Int.tmod x0 x1))
end
def impl_gcd.f (k : Nat) (a0 : Int) (a1 : Int) : Option (Int) := if a0 < 0 then (impl_gcd.j0 k (wrap64 (-a0)) a1) else (impl_gcd.j0 k a0 a1)
theorem impl_gcd.mono_l : ∀ k, (∀ y0 y1, LeO (impl_gcd.j0 k y0 y1) (impl_gcd.j0 (k + 1) y0 y1)) ∧ (∀ y0 y1, LeO (impl_gcd.l0 k y0 y1) (impl_gcd.l0 (k + 1) y0 y1))
 | 0 => ⟨fun _ _ r h => by simp [impl_gcd.j0] at h, fun _ _ r h => by simp [impl_gcd.l0] at h⟩
 | k + 1 => by
  obtain ⟨ih0, ih1⟩ := impl_gcd.mono_l k
  refine ⟨?_, ?_⟩
  ·intro y0 y1
   unfold impl_gcd.j0
   repeat' first
   | (with_reducible exact ih0 _ _)
   | (with_reducible exact ih1 _ _)
   | (with_reducible exact LeO.refl _)
   | (with_reducible exact LeO.none _)
   | (with_reducible refine LeO.ite ?_ ?_)
   | (with_reducible refine LeO.bind ?_ (fun _ => ?_))
   | exact ih0 _ _
   | exact ih1 _ _
   | exact LeO.none _
   | refine LeO.ite ?_ ?_
   | refine LeO.bind ?_ (fun _ => ?_)
  ·intro y0 y1
   unfold impl_gcd.l0
   repeat' first
   | (with_reducible exact ih0 _ _)
   | (with_reducible exact ih1 _ _)
   | (with_reducible exact LeO.refl _)
   | (with_reducible exact LeO.none _)
   | (with_reducible refine LeO.ite ?_ ?_)
   | (with_reducible refine LeO.bind ?_ (fun _ => ?_))
   | exact ih0 _ _
   | exact ih1 _ _
   | exact LeO.none _
   | refine LeO.ite ?_ ?_
   | refine LeO.bind ?_ (fun _ => ?_)
theorem impl_gcd.mono : ∀ a0 a1 k, LeO (impl_gcd.f k a0 a1) (impl_gcd.f (k + 1) a0 a1) := by
 intro a0 a1 k
 obtain ⟨ih0, ih1⟩ := impl_gcd.mono_l k
 unfold impl_gcd.f
 repeat' first
   | (with_reducible exact ih0 _ _)
   | (with_reducible exact ih1 _ _)
   | (with_reducible exact LeO.refl _)
   | (with_reducible exact LeO.none _)
   | (with_reducible refine LeO.ite ?_ ?_)
   | (with_reducible refine LeO.bind ?_ (fun _ => ?_))
   | exact ih0 _ _
   | exact ih1 _ _
   | exact LeO.none _
   | refine LeO.ite ?_ ?_
   | refine LeO.bind ?_ (fun _ => ?_)
set_option maxHeartbeats 8000000 in
set_option maxRecDepth 100000 in
theorem impl_gcd.calls (k : Nat) (a0 : Int) (a1 : Int) (r : Int) (w : World) (h : impl_gcd.f k a0 a1 = some r) :
  Calls Try.prog 78 #[.int .i64 a0, .int .i64 a1] w fun e w' => e = .returned (.int .i64 r) ∧ Drawn0 w w' := by
 have H : (if a0 < 0 then (impl_gcd.j0 k (wrap64 (-a0)) a1) else (impl_gcd.j0 k a0 a1)) = some r := h; clear h; have HC3 := A' H; clear H; go_enter Try.func78, Try.ntmps78; go_upto_if 6 with (fail)
 repeat (go_quiet (fail); go_upto_if 6 with (fail))
 go_cut [0] (fun v0 wc => ∃ (kq : Nat) (x0_2 : Int), v0 = .int .i64 x0_2 ∧ Aside0 (impl_gcd.j0 kq x0_2 a1 = some r) ∧ Aside0 (kq ≤ k) ∧ Drawn0 w wc)
 case first =>
  have H := HC3.out; clear HC3
  by_cases c4 : a0 < 0
  ·rw [if_pos c4] at H; have c4b0 : decide (a0 < 0) = true := dT' c4; clear c4; (first | rw [c4b0] | (simp only [i64_w, i32_w]; rw [c4b0]) | skip); have H' := A' H; clear H; go_wp2
   repeat (go_quiet (fail); try go_wp2)
   go_meet
   case rel => exact ⟨_, (wrap64 (-a0)), qS, H', ⟨by first | omega | exact Nat.le_refl _⟩, by repeat (first | exact Drawn0.refl _ | apply Drawn0.step)⟩
  ·rw [if_neg c4] at H; have c4b0 : decide (a0 < 0) = false := dF' c4; clear c4; (first | rw [c4b0] | (simp only [i64_w, i32_w]; rw [c4b0]) | skip); have H' := A' H; clear H; go_wp2
   repeat (go_quiet (fail); try go_wp2)
   go_meet
   case rel => exact ⟨_, (a0), qS, H', ⟨by first | omega | exact Nat.le_refl _⟩, by repeat (first | exact Drawn0.refl _ | apply Drawn0.step)⟩
 case rest =>
  clear HC3; try clear p2
  try clear c4
  try clear c4b0
  obtain ⟨kq, x0_2, rfl, HA, HJ2, ⟨mc2, rfl⟩⟩ := hcut
  cases kq with
  | zero => exact absurd HA.out (by simp [impl_gcd.j0])
  | succ kj2 =>
   have H := HA.out; clear HA; simp only [impl_gcd.j0] at H; have H' := A' H; clear H; go_wp2
   repeat (go_quiet (fail); try go_wp2)
   go_loopg [0, 1] kj2 (fun kq v0 v1 w' => ∃ (x0_2 : Int) (x1_2 : Int), v0 = .int .i64 x0_2 ∧ v1 = .int .i64 x1_2 ∧ Aside0 (impl_gcd.l0 kq x0_2 x1_2 = some r) ∧ Aside0 (kq ≤ kj2) ∧ Drawn0 w w')
   case atStart => exact ⟨(x0_2), (a1), qS, qS, H', ⟨Nat.le_refl _⟩, by repeat (first | exact Drawn0.refl _ | apply Drawn0.step)⟩
   case round =>
    clear H'; try clear c2
    try clear p2
    try clear c4
    try clear c4b0
    try clear p2
    obtain ⟨x0_2, x1_2, rfl, rfl, HA, HK2, ⟨m2, rfl⟩⟩ := hrel
    cases gk with
    | zero => exact absurd HA.out (by simp [impl_gcd.l0])
    | succ k2 =>
     have H := HA.out; clear HA; simp only [impl_gcd.l0] at H
     by_cases c5 : x1_2 = 0
     ·rw [if_pos c5] at H; have c5b0 : (x1_2 == 0) = true := beq_iff_eq.mpr c5; have c5b1 : (x1_2 != 0) = false := bne_eq_false_iff_eq.mpr c5; clear c5; obtain rfl := Option.some.inj H; go_wp2
      repeat (go_quiet (fail); try go_wp2)
      go_ret; exact ⟨by first | rfl | (simp; done) | (simp [*]; done), by repeat (first | exact Drawn0.refl _ | apply Drawn0.step)⟩
     ·rw [if_neg c5] at H; have c5b0 : (x1_2 == 0) = false := beq_eq_false_iff_ne.mpr c5; have c5b1 : (x1_2 != 0) = true := bne_iff_ne.mpr c5; have H' := A' H; clear H; go_wp2
      repeat (go_quiet (fail); try go_wp2)
      go_roundg k2
      case measure => have := HJ2.out; have := HK2.out; omega
      case rel => exact ⟨(x1_2), (Int.tmod x0_2 x1_2), qS, qS, H', ⟨by have := HJ2.out; have := HK2.out; omega⟩, by repeat (first | exact Drawn0.refl _ | apply Drawn0.step)⟩

/-! ### impl_ValidDensities: function 40 -/
mutual
def impl_ValidDensities.j0 : Nat → Bool → List Int → Int → Option (Bool)
 | 0, _, _, _ => none
 | k + 1, x25, x266000, x266001 => if x25 = true then (some false) else (impl_ValidDensities.l0 k x266001 x266000 (x266000.length : Int) 0)
def impl_ValidDensities.l0 : Nat → Int → List Int → Int → Int → Option (Bool)
 | 0, _, _, _, _ => none
 | k + 1, x5, x29, x30, x31 => if x31 < x30 then (if 0 ≤ x31 then (if x31 < (x29.length : Int) then ((impl_within.f (rd x29 x31) (-10000000000) 10000000000).bind fun t269 => (if t269 = true then ((impl_gcd.f k x5 (rd x29 x31)).bind fun t270 => (impl_ValidDensities.l0 k t270 x29 x30 (wrap64 (x31 + 1)))) else (some false))) else (none)) else (none)) else (if x5 = 1 then (some true) else (some (x5 == (-1))))
end
def impl_ValidDensities.f (k : Nat) (l0_0 : List (S82)) (l0_1 : List (S84)) (l1_0 : List Int) (a1_1 : Int) : Option (Bool) := (impl_ValidFrame.f k l0_0 l0_1).bind fun t266 => (if t266 = true then (if (l1_0.length : Int) = (l0_1.length : Int) then ((impl_within.f a1_1 1 1000000000).bind fun t267 => (impl_ValidDensities.j0 k (!t267) l1_0 a1_1)) else (impl_ValidDensities.j0 k true l1_0 a1_1)) else (impl_ValidDensities.j0 k true l1_0 a1_1))
theorem impl_ValidDensities.mono_l : ∀ k, (∀ y0 y1 y2, LeO (impl_ValidDensities.j0 k y0 y1 y2) (impl_ValidDensities.j0 (k + 1) y0 y1 y2)) ∧ (∀ y0 y1 y2 y3, LeO (impl_ValidDensities.l0 k y0 y1 y2 y3) (impl_ValidDensities.l0 (k + 1) y0 y1 y2 y3))
 | 0 => ⟨fun _ _ _ r h => by simp [impl_ValidDensities.j0] at h, fun _ _ _ _ r h => by simp [impl_ValidDensities.l0] at h⟩
 | k + 1 => by
  obtain ⟨ih0, ih1⟩ := impl_ValidDensities.mono_l k
  refine ⟨?_, ?_⟩
  ·intro y0 y1 y2
   unfold impl_ValidDensities.j0
   repeat' first
   | (with_reducible exact ih0 _ _ _)
   | (with_reducible exact ih1 _ _ _ _)
   | (with_reducible exact impl_ValidFrame.mono _ _ _)
   | (with_reducible exact impl_gcd.mono _ _ _)
   | (with_reducible exact LeO.refl _)
   | (with_reducible exact LeO.none _)
   | (with_reducible refine LeO.ite ?_ ?_)
   | (with_reducible refine LeO.bind ?_ (fun _ => ?_))
   | exact ih0 _ _ _
   | exact ih1 _ _ _ _
   | exact impl_ValidFrame.mono _ _ _
   | exact impl_gcd.mono _ _ _
   | exact LeO.none _
   | refine LeO.ite ?_ ?_
   | refine LeO.bind ?_ (fun _ => ?_)
  ·intro y0 y1 y2 y3
   unfold impl_ValidDensities.l0
   repeat' first
   | (with_reducible exact ih0 _ _ _)
   | (with_reducible exact ih1 _ _ _ _)
   | (with_reducible exact impl_ValidFrame.mono _ _ _)
   | (with_reducible exact impl_gcd.mono _ _ _)
   | (with_reducible exact LeO.refl _)
   | (with_reducible exact LeO.none _)
   | (with_reducible refine LeO.ite ?_ ?_)
   | (with_reducible refine LeO.bind ?_ (fun _ => ?_))
   | exact ih0 _ _ _
   | exact ih1 _ _ _ _
   | exact impl_ValidFrame.mono _ _ _
   | exact impl_gcd.mono _ _ _
   | exact LeO.none _
   | refine LeO.ite ?_ ?_
   | refine LeO.bind ?_ (fun _ => ?_)
theorem impl_ValidDensities.mono : ∀ a0 a1 a2 a3 k, LeO (impl_ValidDensities.f k a0 a1 a2 a3) (impl_ValidDensities.f (k + 1) a0 a1 a2 a3) := by
 intro a0 a1 a2 a3 k
 obtain ⟨ih0, ih1⟩ := impl_ValidDensities.mono_l k
 unfold impl_ValidDensities.f
 repeat' first
   | (with_reducible exact ih0 _ _ _)
   | (with_reducible exact ih1 _ _ _ _)
   | (with_reducible exact impl_ValidFrame.mono _ _ _)
   | (with_reducible exact impl_gcd.mono _ _ _)
   | (with_reducible exact LeO.refl _)
   | (with_reducible exact LeO.none _)
   | (with_reducible refine LeO.ite ?_ ?_)
   | (with_reducible refine LeO.bind ?_ (fun _ => ?_))
   | exact ih0 _ _ _
   | exact ih1 _ _ _ _
   | exact impl_ValidFrame.mono _ _ _
   | exact impl_gcd.mono _ _ _
   | exact LeO.none _
   | refine LeO.ite ?_ ?_
   | refine LeO.bind ?_ (fun _ => ?_)
set_option maxHeartbeats 8000000 in
set_option maxRecDepth 100000 in
theorem impl_ValidDensities.calls (k : Nat) (A0_0 : Option Addr) (c0_0 : Nat) (l0_0 : List (S82)) (A0_1 : Option Addr) (c0_1 : Nat) (l0_1 : List (S84)) (A1_0 : Option Addr) (c1_0 : Nat) (l1_0 : List Int) (a1_1 : Int) (r : Bool) (w : World) (hr0_0 : Kd.C k82 w A0_0 l0_0.length l0_0) (hc0_0 : l0_0.length ≤ c0_0) (hr0_1 : Kd.C k84 w A0_1 l0_1.length l0_1) (hc0_1 : l0_1.length ≤ c0_1) (hr1_0 : Kd.C (Kd.int .i64) w A1_0 l1_0.length l1_0) (hc1_0 : l1_0.length ≤ c1_0) (h : impl_ValidDensities.f k l0_0 l0_1 l1_0 a1_1 = some r) :
  Calls Try.prog 40 #[.agg #[.slice A0_0 l0_0.length c0_0, .slice A0_1 l0_1.length c0_1], .agg #[.slice A1_0 l1_0.length c1_0, .int .i64 a1_1]] w fun e w' => e = .returned (.bool r) ∧ Below w.heap.size w w' := by
 have hu39 := Try.underlying39; have hu27 := Try.underlying27; have HR0_0 := A' hr0_0; have HC0_0 := A' hc0_0; clear hr0_0 hc0_0; have HR0_1 := A' hr0_1; have HC0_1 := A' hc0_1; clear hr0_1 hc0_1; have HR1_0 := A' hr1_0; have HC1_0 := A' hc1_0; clear hr1_0 hc1_0; have HB := A' (Below.refl w.heap.size w); have H : ((impl_ValidFrame.f k l0_0 l0_1).bind fun t266 => (if t266 = true then (if (l1_0.length : Int) = (l0_1.length : Int) then ((impl_within.f a1_1 1 1000000000).bind fun t267 => (impl_ValidDensities.j0 k (!t267) l1_0 a1_1)) else (impl_ValidDensities.j0 k true l1_0 a1_1)) else (impl_ValidDensities.j0 k true l1_0 a1_1))) = some r := h; clear h; have HC3 := A' H; clear H; go_enter Try.func40, Try.ntmps40; go_upto_region 1 with (first | ((with_reducible refine gate_dst (N := 2) rfl ?_); (try (refine gate_guard (by rfl) ?_; dsimp only)); refine box_event ?hg (N := 2) ?hd (cs := #[.slice A0_0 l0_0.length c0_0, .slice A0_1 l0_1.length c0_1]) (t := 39) ?hr ?_; (case hd => rfl); (case hg => rfl); (case hr => first | (go_simp; done) | (go_simp; rfl)); intro gb264 hg w4 hbox hb; have n0_ := A' (W' (qK0 HB.out) hb); have n1_ := A' (hbox); have n2_ := A' ((by rw [hg]; exact (V' (qK0 HB.out)) : w.heap.size ≤ gb264)); have n3_ := A' ((by rw [hg]; exact (V' (qK0 HB.out)) : w.heap.size ≤ gb264)); clear HB; have HB := n0_; have BK264 := n1_; have GW264 := n2_; have GE264 := n3_; clear n0_ n1_ n2_ n3_; clear hb hbox hg) | ((with_reducible refine gate_dst (N := 3) rfl ?_); (try (refine gate_guard (by rfl) ?_; dsimp only)); refine box_event ?hg (N := 3) ?hd (cs := #[.slice A1_0 l1_0.length c1_0, .int .i64 a1_1]) (t := 27) ?hr ?_; (case hd => rfl); (case hg => rfl); (case hr => first | (go_simp; done) | (go_simp; rfl)); intro gb265 hg w5 hbox hb; have n0_ := A' (O' (g := gb264) (qB BK264.out) hb); have n1_ := A' (W' (qK1 HB.out GE264.out) hb); have n2_ := A' (hbox); have n3_ := A' ((by rw [hg]; exact (V' (qK1 HB.out GE264.out)) : w.heap.size ≤ gb265)); have n4_ := A' ((by rw [hg]; exact (V' (qK1 HB.out GE264.out)) : w.heap.size ≤ gb265)); have n5_ := A' ((by rw [hg]; exact Nat.ne_of_lt (bL' (g := gb264) (qB BK264.out)) : gb264 ≠ gb265)); have n6_ := A' ((by rw [hg]; exact Nat.ne_of_gt (bL' (g := gb264) (qB BK264.out)) : gb265 ≠ gb264)); clear BK264; clear HB; have BK264 := n0_; have HB := n1_; have BK265 := n2_; have GW265 := n3_; have GE265 := n4_; have NB264_265 := n5_; have NB265_264 := n6_; clear n0_ n1_ n2_ n3_ n4_ n5_ n6_; clear hb hbox hg))
 (try simp only [Act.put, List.setIfInBounds_toArray, List.set_cons_zero, List.set_cons_succ])
 go_cut [25] (fun v25 wc => ∃ (kq : Nat) (x25_2 : Bool), v25 = .bool x25_2 ∧ Aside0 (impl_ValidDensities.j0 kq x25_2 l1_0 a1_1 = some r) ∧ Aside0 (kq ≤ k) ∧ Aside0 (wc.heap[gb264]? = some (.cells #[(.slice A0_0 l0_0.length c0_0), (.slice A0_1 l0_1.length c0_1)] 39 (0, 0))) ∧ Aside0 (wc.heap[gb265]? = some (.cells #[(.slice A1_0 l1_0.length c1_0), .int .i64 a1_1] 27 (0, 0))) ∧ Aside0 (Below w.heap.size w wc))
 case first =>
  have H := HC3.out; clear HC3; replace H := Option.bind_eq_some_iff.mp H; obtain ⟨t266, A60, H⟩ := H; replace H : (if t266 = true then (if (l1_0.length : Int) = (l0_1.length : Int) then ((impl_within.f a1_1 1 1000000000).bind fun t267 => (impl_ValidDensities.j0 k (!t267) l1_0 a1_1)) else (impl_ValidDensities.j0 k true l1_0 a1_1)) else (impl_ValidDensities.j0 k true l1_0 a1_1)) = some r := H; have A6 := A' A60; clear A60
  by_cases c7 : t266 = true
  ·subst c7; have H1 : (if (l1_0.length : Int) = (l0_1.length : Int) then ((impl_within.f a1_1 1 1000000000).bind fun t267 => (impl_ValidDensities.j0 k (!t267) l1_0 a1_1)) else (impl_ValidDensities.j0 k true l1_0 a1_1)) = some r := by rw [if_pos rfl] at H; exact H
   clear H; have H := H1; clear H1
   by_cases c8 : (l1_0.length : Int) = (l0_1.length : Int)
   ·rw [if_pos c8] at H; have c8b0 : ((l1_0.length : Int) == (l0_1.length : Int)) = true := beq_iff_eq.mpr c8; have c8b1 : ((l1_0.length : Int) != (l0_1.length : Int)) = false := bne_eq_false_iff_eq.mpr c8; have c8b2 : (l1_0.length == l0_1.length) = true := by first | simpa using c8 | (simp at c8 ⊢; omega)
    clear c8; (first | rw [c8b0] | (simp only [i64_w, i32_w]; rw [c8b0]) | skip); replace H := Option.bind_eq_some_iff.mp H; obtain ⟨t267, A90, H⟩ := H; replace H : (impl_ValidDensities.j0 k (!t267) l1_0 a1_1) = some r := H; have A9 := A' A90; clear A90; have H' := A' H; clear H; have hnb10 := NB264_265.out; have hnc10 := NB265_264.out; have hcz11_0 : w5.cell? ⟨gb264, 0, none⟩ = some (.slice A0_0 l0_0.length c0_0) := (N' BK264.out 0).trans rfl; have hcz11_1 : w5.cell? ⟨gb264, 1, none⟩ = some (.slice A0_1 l0_1.length c0_1) := (N' BK264.out 1).trans rfl; have hfz11_0 := Y' BK264.out 0; have hfz11_1 := Y' BK264.out 1; go_wp2_with (first | ((with_reducible refine gate_callee (f := 25) rfl ?_); refine goesL_ (some 9) rfl rfl Try.func25 (by kernel_rfl) rfl #[.agg #[.slice A0_0 l0_0.length c0_0, .slice A0_1 l0_1.length c0_1]] rfl (by (try simp only [List.map_toArray, List.map_cons, List.map_nil]); first | done | rfl | (simp only [List.length_drop, List.length_take]; rfl)) ?_; (with_reducible refine (impl_ValidFrame.calls k _ _ l0_0 _ _ l0_1 true _ ?side1 ?side2 ?side3 ?side4 A6.out).mono ?_); (case side1 => exact qT (X' HR0_0.out HB.out)); (case side2 => exact HC0_0.out); (case side3 => exact qT (X' HR0_1.out HB.out)); (case side4 => exact HC0_1.out); rintro e w12 ⟨rfl, hb⟩; refine ⟨_, rfl, ?_⟩; have n0_ := A' (O' (g := gb264) (qB BK264.out) hb); have n1_ := A' (O' (g := gb265) (qB BK265.out) hb); have n2_ := A' (W' (qK2 HB.out GE264.out GE265.out) hb); clear BK264; clear BK265; clear HB; have BK264 := n0_; have BK265 := n1_; have HB := n2_; clear n0_ n1_ n2_; (try clear hb); (try clear hb2); (try clear hk); (try clear hi); have hcz13_0 : w12.cell? ⟨gb265, 0, none⟩ = some (.slice A1_0 l1_0.length c1_0) := (N' BK265.out 0).trans rfl; have hcz13_1 : w12.cell? ⟨gb265, 1, none⟩ = some (.int .i64 a1_1) := (N' BK265.out 1).trans rfl; have hfz13_0 := Y' BK265.out 0; have hfz13_1 := Y' BK265.out 1; have hcz14_0 : w12.cell? ⟨gb264, 0, none⟩ = some (.slice A0_0 l0_0.length c0_0) := (N' BK264.out 0).trans rfl; have hcz14_1 : w12.cell? ⟨gb264, 1, none⟩ = some (.slice A0_1 l0_1.length c0_1) := (N' BK264.out 1).trans rfl; have hfz14_0 := Y' BK264.out 0; have hfz14_1 := Y' BK264.out 1) | (go_at_call 68; (with_reducible refine (impl_within.calls a1_1 1 1000000000 t267 _ A9.out).mono ?_); rintro e w' ⟨rfl, ⟨nd, rfl⟩⟩))
    go_meet
    case rel => exact ⟨_, (!t267), qS, H', ⟨by first | omega | exact Nat.le_refl _⟩, ⟨qB BK264.out⟩, ⟨qB BK265.out⟩, ⟨qK2 HB.out GE264.out GE265.out⟩⟩
   ·rw [if_neg c8] at H; have c8b0 : ((l1_0.length : Int) == (l0_1.length : Int)) = false := beq_eq_false_iff_ne.mpr c8; have c8b1 : ((l1_0.length : Int) != (l0_1.length : Int)) = true := bne_iff_ne.mpr c8; have c8b2 : (l1_0.length == l0_1.length) = false := by first | simpa using c8 | (simp at c8 ⊢; omega)
    (first | rw [c8b0] | (simp only [i64_w, i32_w]; rw [c8b0]) | skip); have H' := A' H; clear H; have hnb15 := NB264_265.out; have hnc15 := NB265_264.out; have hcz16_0 : w5.cell? ⟨gb264, 0, none⟩ = some (.slice A0_0 l0_0.length c0_0) := (N' BK264.out 0).trans rfl; have hcz16_1 : w5.cell? ⟨gb264, 1, none⟩ = some (.slice A0_1 l0_1.length c0_1) := (N' BK264.out 1).trans rfl; have hfz16_0 := Y' BK264.out 0; have hfz16_1 := Y' BK264.out 1; go_wp2_with (first | ((with_reducible refine gate_callee (f := 25) rfl ?_); refine goesL_ (some 9) rfl rfl Try.func25 (by kernel_rfl) rfl #[.agg #[.slice A0_0 l0_0.length c0_0, .slice A0_1 l0_1.length c0_1]] rfl (by (try simp only [List.map_toArray, List.map_cons, List.map_nil]); first | done | rfl | (simp only [List.length_drop, List.length_take]; rfl)) ?_; (with_reducible refine (impl_ValidFrame.calls k _ _ l0_0 _ _ l0_1 true _ ?side1 ?side2 ?side3 ?side4 A6.out).mono ?_); (case side1 => exact qT (X' HR0_0.out HB.out)); (case side2 => exact HC0_0.out); (case side3 => exact qT (X' HR0_1.out HB.out)); (case side4 => exact HC0_1.out); rintro e w17 ⟨rfl, hb⟩; refine ⟨_, rfl, ?_⟩; have n0_ := A' (O' (g := gb264) (qB BK264.out) hb); have n1_ := A' (O' (g := gb265) (qB BK265.out) hb); have n2_ := A' (W' (qK2 HB.out GE264.out GE265.out) hb); clear BK264; clear BK265; clear HB; have BK264 := n0_; have BK265 := n1_; have HB := n2_; clear n0_ n1_ n2_; (try clear hb); (try clear hb2); (try clear hk); (try clear hi); have hcz18_0 : w17.cell? ⟨gb265, 0, none⟩ = some (.slice A1_0 l1_0.length c1_0) := (N' BK265.out 0).trans rfl; have hcz18_1 : w17.cell? ⟨gb265, 1, none⟩ = some (.int .i64 a1_1) := (N' BK265.out 1).trans rfl; have hfz18_0 := Y' BK265.out 0; have hfz18_1 := Y' BK265.out 1; have hcz19_0 : w17.cell? ⟨gb264, 0, none⟩ = some (.slice A0_0 l0_0.length c0_0) := (N' BK264.out 0).trans rfl; have hcz19_1 : w17.cell? ⟨gb264, 1, none⟩ = some (.slice A0_1 l0_1.length c0_1) := (N' BK264.out 1).trans rfl; have hfz19_0 := Y' BK264.out 0; have hfz19_1 := Y' BK264.out 1))
    go_meet
    case rel => exact ⟨_, (true), qS, H', ⟨by first | omega | exact Nat.le_refl _⟩, ⟨qB BK264.out⟩, ⟨qB BK265.out⟩, ⟨qK2 HB.out GE264.out GE265.out⟩⟩
  ·replace c7 := Bool.eq_false_iff.mpr c7; subst c7; have H1 : (impl_ValidDensities.j0 k true l1_0 a1_1) = some r := by rw [if_neg (show ¬ (false = true) by decide)] at H; exact H
   clear H; have H := H1; clear H1; have H' := A' H; clear H; have hnb20 := NB264_265.out; have hnc20 := NB265_264.out; have hcz21_0 : w5.cell? ⟨gb264, 0, none⟩ = some (.slice A0_0 l0_0.length c0_0) := (N' BK264.out 0).trans rfl; have hcz21_1 : w5.cell? ⟨gb264, 1, none⟩ = some (.slice A0_1 l0_1.length c0_1) := (N' BK264.out 1).trans rfl; have hfz21_0 := Y' BK264.out 0; have hfz21_1 := Y' BK264.out 1; go_wp2_with (first | ((with_reducible refine gate_callee (f := 25) rfl ?_); refine goesL_ (some 9) rfl rfl Try.func25 (by kernel_rfl) rfl #[.agg #[.slice A0_0 l0_0.length c0_0, .slice A0_1 l0_1.length c0_1]] rfl (by (try simp only [List.map_toArray, List.map_cons, List.map_nil]); first | done | rfl | (simp only [List.length_drop, List.length_take]; rfl)) ?_; (with_reducible refine (impl_ValidFrame.calls k _ _ l0_0 _ _ l0_1 false _ ?side1 ?side2 ?side3 ?side4 A6.out).mono ?_); (case side1 => exact qT (X' HR0_0.out HB.out)); (case side2 => exact HC0_0.out); (case side3 => exact qT (X' HR0_1.out HB.out)); (case side4 => exact HC0_1.out); rintro e w22 ⟨rfl, hb⟩; refine ⟨_, rfl, ?_⟩; have n0_ := A' (O' (g := gb264) (qB BK264.out) hb); have n1_ := A' (O' (g := gb265) (qB BK265.out) hb); have n2_ := A' (W' (qK2 HB.out GE264.out GE265.out) hb); clear BK264; clear BK265; clear HB; have BK264 := n0_; have BK265 := n1_; have HB := n2_; clear n0_ n1_ n2_; (try clear hb); (try clear hb2); (try clear hk); (try clear hi)))
   go_meet
   case rel => exact ⟨_, (true), qS, H', ⟨by first | omega | exact Nat.le_refl _⟩, ⟨qB BK264.out⟩, ⟨qB BK265.out⟩, ⟨qK2 HB.out GE264.out GE265.out⟩⟩
 case rest =>
  clear HC3; try clear c1
  try clear c2
  try clear p2
  try clear c4
  try clear c7
  try clear c8
  try clear c8b0
  try clear c8b1
  try clear c8b2
  try clear c10
  try clear c15
  try clear c20
  try clear hcz11_0
  try clear hcz11_1
  try clear hcz13_0
  try clear hcz13_1
  try clear hcz14_0
  try clear hcz14_1
  try clear hcz16_0
  try clear hcz16_1
  try clear hcz18_0
  try clear hcz18_1
  try clear hcz19_0
  try clear hcz19_1
  try clear hcz21_0
  try clear hcz21_1
  try clear hfz11_0
  try clear hfz11_1
  try clear hfz13_0
  try clear hfz13_1
  try clear hfz14_0
  try clear hfz14_1
  try clear hfz16_0
  try clear hfz16_1
  try clear hfz18_0
  try clear hfz18_1
  try clear hfz19_0
  try clear hfz19_1
  try clear hfz21_0
  try clear hfz21_1
  obtain ⟨kq, x25_2, rfl, HA, HJ2, BK264, BK265, HB⟩ := hcut
  cases kq with
  | zero => exact absurd HA.out (by simp [impl_ValidDensities.j0])
  | succ kj2 =>
   have H := HA.out; clear HA; simp only [impl_ValidDensities.j0] at H
   by_cases c23 : x25_2 = true
   ·subst c23; have H1 : (some false) = some r := by rw [if_pos rfl] at H; exact H
    clear H; have H := H1; clear H1; obtain rfl := Option.some.inj H; go_wp2; go_ret; exact ⟨qE, qK2 HB.out GE264.out GE265.out⟩
   ·replace c23 := Bool.eq_false_iff.mpr c23; subst c23; have H1 : (impl_ValidDensities.l0 kj2 a1_1 l1_0 (l1_0.length : Int) 0) = some r := by rw [if_neg (show ¬ (false = true) by decide)] at H; exact H
    clear H; have H := H1; clear H1; have H' := A' H; clear H; have hnb24 := NB265_264.out; have hnc24 := NB264_265.out; have hcz25_0 : wc.cell? ⟨gb265, 0, none⟩ = some (.slice A1_0 l1_0.length c1_0) := (N' BK265.out 0).trans rfl; have hcz25_1 : wc.cell? ⟨gb265, 1, none⟩ = some (.int .i64 a1_1) := (N' BK265.out 1).trans rfl; have hfz25_0 := Y' BK265.out 0; have hfz25_1 := Y' BK265.out 1; go_wp2
    go_loopg [5, 31] kj2 (fun kq v5 v31 w' => ∃ (x5_2 : Int) (x31_2 : Int), v5 = .int .i64 x5_2 ∧ v31 = .int .i64 x31_2 ∧ Aside0 (impl_ValidDensities.l0 kq x5_2 l1_0 (l1_0.length : Int) x31_2 = some r) ∧ Aside0 (kq ≤ kj2) ∧ Aside0 (w'.heap[gb264]? = some (.cells #[(.slice A0_0 l0_0.length c0_0), (.slice A0_1 l0_1.length c0_1)] 39 (0, 0))) ∧ Aside0 (w'.heap[gb265]? = some (.cells #[(.slice A1_0 l1_0.length c1_0), .int .i64 a1_1] 27 (0, 0))) ∧ Aside0 (Below w.heap.size w w'))
    case atStart => exact ⟨(a1_1), (0), qS, qS, H', ⟨Nat.le_refl _⟩, ⟨qB BK264.out⟩, ⟨qB BK265.out⟩, ⟨qK2 HB.out GE264.out GE265.out⟩⟩
    case round =>
     clear H'; try clear c1
     try clear c2
     try clear p2
     try clear c4
     try clear c7
     try clear c8
     try clear c8b0
     try clear c8b1
     try clear c8b2
     try clear c10
     try clear c15
     try clear c20
     try clear c23
     try clear c24
     try clear c25
     try clear hcz11_0
     try clear hcz11_1
     try clear hcz13_0
     try clear hcz13_1
     try clear hcz14_0
     try clear hcz14_1
     try clear hcz16_0
     try clear hcz16_1
     try clear hcz18_0
     try clear hcz18_1
     try clear hcz19_0
     try clear hcz19_1
     try clear hcz21_0
     try clear hcz21_1
     try clear hcz25_0
     try clear hcz25_1
     try clear hfz11_0
     try clear hfz11_1
     try clear hfz13_0
     try clear hfz13_1
     try clear hfz14_0
     try clear hfz14_1
     try clear hfz16_0
     try clear hfz16_1
     try clear hfz18_0
     try clear hfz18_1
     try clear hfz19_0
     try clear hfz19_1
     try clear hfz21_0
     try clear hfz21_1
     try clear hfz25_0
     try clear hfz25_1
     try clear p2
     obtain ⟨x5_2, x31_2, rfl, rfl, HA, HK2, BK264, BK265, HB⟩ := hrel
     cases gk with
     | zero => exact absurd HA.out (by simp [impl_ValidDensities.l0])
     | succ k2 =>
      have H := HA.out; clear HA; simp only [impl_ValidDensities.l0] at H
      by_cases c26 : x31_2 < (l1_0.length : Int)
      ·rw [if_pos c26] at H; have c26b0 : decide (x31_2 < (l1_0.length : Int)) = true := dT' c26; clear c26
       by_cases c27 : 0 ≤ x31_2
       ·rw [if_pos c27] at H; have c27b0 : decide (0 ≤ x31_2) = true := dT' c27; clear c27
        by_cases c28 : x31_2 < (l1_0.length : Int)
        ·rw [if_pos c28] at H; have c28b0 : decide (x31_2 < (l1_0.length : Int)) = true := dT' c28; clear c28; replace H := Option.bind_eq_some_iff.mp H; obtain ⟨t269, A290, H⟩ := H; replace H : (if t269 = true then ((impl_gcd.f k2 x5_2 (rd l1_0 x31_2)).bind fun t270 => (impl_ValidDensities.l0 k2 t270 l1_0 (l1_0.length : Int) (wrap64 (x31_2 + 1)))) else (some false)) = some r := H; have A29 := A' A290; clear A290
         by_cases c30 : t269 = true
         ·subst c30; have H1 : ((impl_gcd.f k2 x5_2 (rd l1_0 x31_2)).bind fun t270 => (impl_ValidDensities.l0 k2 t270 l1_0 (l1_0.length : Int) (wrap64 (x31_2 + 1)))) = some r := by rw [if_pos rfl] at H; exact H
          clear H; have H := H1; clear H1; replace H := Option.bind_eq_some_iff.mp H; obtain ⟨t270, A310, H⟩ := H; replace H : (impl_ValidDensities.l0 k2 t270 l1_0 (l1_0.length : Int) (wrap64 (x31_2 + 1))) = some r := H; have A31 := A' A310; clear A310; have H' := A' H; clear H; have p268 : 0 ≤ (x31_2 : Int) := oD' qA; have q268 : x31_2 < (l1_0.length : Int) := oD' qA; obtain ⟨ad268, e268, hx268_0⟩ := Kd.at_int HR1_0.out x31_2 p268 q268
          cases e268
          try replace hx268_0 := qC HB.out hx268_0
          replace p268 := eq_true p268; replace q268 := eq_true q268; go_wp2_with (first | ((with_reducible refine gate_callee (f := 68) rfl ?_); refine goesL_ (some 36) rfl rfl Try.func68 (by kernel_rfl) rfl #[.int .i64 (rd l1_0 x31_2), .int .i64 (-10000000000), .int .i64 10000000000] rfl (by (try simp only [List.map_toArray, List.map_cons, List.map_nil]); first | done | rfl | (simp only [List.length_drop, List.length_take]; rfl)) ?_; (with_reducible refine (impl_within.calls (rd l1_0 x31_2) (-10000000000) 10000000000 true _ A29.out).mono ?_); rintro e w' ⟨rfl, ⟨nd, rfl⟩⟩; refine ⟨_, rfl, ?_⟩) | ((with_reducible refine gate_callee (f := 78) rfl ?_); refine goesL_ (some 40) rfl rfl Try.func78 (by kernel_rfl) rfl #[.int .i64 x5_2, .int .i64 (rd l1_0 x31_2)] rfl (by (try simp only [List.map_toArray, List.map_cons, List.map_nil]); first | done | rfl | (simp only [List.length_drop, List.length_take]; rfl)) ?_; (with_reducible refine (impl_gcd.calls k2 x5_2 (rd l1_0 x31_2) t270 _ A31.out).mono ?_); rintro e w' ⟨rfl, ⟨nd, rfl⟩⟩; refine ⟨_, rfl, ?_⟩))
          go_roundg k2
          case measure => have := HJ2.out; have := HK2.out; omega
          case rel => exact ⟨(t270), (wrap64 (x31_2 + 1)), qS, qS, H', ⟨by have := HJ2.out; have := HK2.out; omega⟩, ⟨qB BK264.out⟩, ⟨qB BK265.out⟩, ⟨qK2 HB.out GE264.out GE265.out⟩⟩
         ·replace c30 := Bool.eq_false_iff.mpr c30; subst c30; have H1 : (some false) = some r := by rw [if_neg (show ¬ (false = true) by decide)] at H; exact H
          clear H; have H := H1; clear H1; obtain rfl := Option.some.inj H; have p268 : 0 ≤ (x31_2 : Int) := oD' qA; have q268 : x31_2 < (l1_0.length : Int) := oD' qA; obtain ⟨ad268, e268, hx268_0⟩ := Kd.at_int HR1_0.out x31_2 p268 q268
          cases e268
          try replace hx268_0 := qC HB.out hx268_0
          replace p268 := eq_true p268; replace q268 := eq_true q268; go_wp2_with (first | ((with_reducible refine gate_callee (f := 68) rfl ?_); refine goesL_ (some 36) rfl rfl Try.func68 (by kernel_rfl) rfl #[.int .i64 (rd l1_0 x31_2), .int .i64 (-10000000000), .int .i64 10000000000] rfl (by (try simp only [List.map_toArray, List.map_cons, List.map_nil]); first | done | rfl | (simp only [List.length_drop, List.length_take]; rfl)) ?_; (with_reducible refine (impl_within.calls (rd l1_0 x31_2) (-10000000000) 10000000000 false _ A29.out).mono ?_); rintro e w' ⟨rfl, ⟨nd, rfl⟩⟩; refine ⟨_, rfl, ?_⟩)); go_ret; exact ⟨qE, qK2 HB.out GE264.out GE265.out⟩
        ·rw [if_neg c28] at H; exact absurd H (by simp)
       ·rw [if_neg c27] at H; exact absurd H (by simp)
      ·rw [if_neg c26] at H; have c26b0 : decide (x31_2 < (l1_0.length : Int)) = false := dF' c26; clear c26
       by_cases c32 : x5_2 = 1
       ·rw [if_pos c32] at H; have c32b0 : (x5_2 == 1) = true := beq_iff_eq.mpr c32; have c32b1 : (x5_2 != 1) = false := bne_eq_false_iff_eq.mpr c32; clear c32; obtain rfl := Option.some.inj H; go_wp2; go_ret; exact ⟨qE, qK2 HB.out GE264.out GE265.out⟩
       ·rw [if_neg c32] at H; have c32b0 : (x5_2 == 1) = false := beq_eq_false_iff_ne.mpr c32; have c32b1 : (x5_2 != 1) = true := bne_iff_ne.mpr c32; obtain rfl := Option.some.inj H; go_wp2; go_ret; exact ⟨qE, qK2 HB.out GE264.out GE265.out⟩

/-! ### impl_pullOf: function 86 -/
def impl_pullOf.f (l0_0 : List (S82)) (l0_1 : List (S84)) (a1_0 : Int) (a1_1 : Int) (a1_2 : Bool) (a2 : Int) : Option (Int × Int) := if 0 ≤ a1_1 then (if a1_1 < (l0_0.length : Int) then (if 0 ≤ a1_0 then (if a1_0 < (l0_0.length : Int) then (if a2 = a1_0 then (some (wrap64 (((rd_T82 l0_0 a1_1).f0) - ((rd_T82 l0_0 a1_0).f0)), wrap64 (((rd_T82 l0_0 a1_1).f1) - ((rd_T82 l0_0 a1_0).f1)))) else (if a2 = a1_1 then (some (wrap64 (-(wrap64 (((rd_T82 l0_0 a1_1).f0) - ((rd_T82 l0_0 a1_0).f0)))), wrap64 (-(wrap64 (((rd_T82 l0_0 a1_1).f1) - ((rd_T82 l0_0 a1_0).f1)))))) else (some (0, 0)))) else (none)) else (none)) else (none)) else (none)
set_option maxHeartbeats 8000000 in
set_option maxRecDepth 100000 in
theorem impl_pullOf.calls (A0_0 : Option Addr) (c0_0 : Nat) (l0_0 : List (S82)) (A0_1 : Option Addr) (c0_1 : Nat) (l0_1 : List (S84)) (a1_0 : Int) (a1_1 : Int) (a1_2 : Bool) (a2 : Int) (r1 : Int) (r2 : Int) (w : World) (hr0_0 : Kd.C k82 w A0_0 l0_0.length l0_0) (hc0_0 : l0_0.length ≤ c0_0) (hr0_1 : Kd.C k84 w A0_1 l0_1.length l0_1) (hc0_1 : l0_1.length ≤ c0_1) (h : impl_pullOf.f l0_0 l0_1 a1_0 a1_1 a1_2 a2 = some (r1, r2)) :
  Calls Try.prog 86 #[.agg #[.slice A0_0 l0_0.length c0_0, .slice A0_1 l0_1.length c0_1], .agg #[.int .i64 a1_0, .int .i64 a1_1, .bool a1_2], .int .i64 a2] w fun e w' => e = .returned (.tuple #[.int .i64 r1, .int .i64 r2]) ∧ Below w.heap.size w w' := by
 have hu39 := Try.underlying39; have hu84 := Try.underlying84; have HR0_0 := A' hr0_0; have HC0_0 := A' hc0_0; clear hr0_0 hc0_0; have HR0_1 := A' hr0_1; have HC0_1 := A' hc0_1; clear hr0_1 hc0_1; have HB := A' (Below.refl w.heap.size w); have H : (if 0 ≤ a1_1 then (if a1_1 < (l0_0.length : Int) then (if 0 ≤ a1_0 then (if a1_0 < (l0_0.length : Int) then (if a2 = a1_0 then (some (wrap64 (((rd_T82 l0_0 a1_1).f0) - ((rd_T82 l0_0 a1_0).f0)), wrap64 (((rd_T82 l0_0 a1_1).f1) - ((rd_T82 l0_0 a1_0).f1)))) else (if a2 = a1_1 then (some (wrap64 (-(wrap64 (((rd_T82 l0_0 a1_1).f0) - ((rd_T82 l0_0 a1_0).f0)))), wrap64 (-(wrap64 (((rd_T82 l0_0 a1_1).f1) - ((rd_T82 l0_0 a1_0).f1)))))) else (some (0, 0)))) else (none)) else (none)) else (none)) else (none)) = some (r1, r2) := h; clear h
 by_cases c4 : 0 ≤ a1_1
 ·rw [if_pos c4] at H; have c4b0 : decide (0 ≤ a1_1) = true := dT' c4; clear c4
  by_cases c5 : a1_1 < (l0_0.length : Int)
  ·rw [if_pos c5] at H; have c5b0 : decide (a1_1 < (l0_0.length : Int)) = true := dT' c5; clear c5
   by_cases c6 : 0 ≤ a1_0
   ·rw [if_pos c6] at H; have c6b0 : decide (0 ≤ a1_0) = true := dT' c6; clear c6
    by_cases c7 : a1_0 < (l0_0.length : Int)
    ·rw [if_pos c7] at H; have c7b0 : decide (a1_0 < (l0_0.length : Int)) = true := dT' c7; clear c7
     by_cases c8 : a2 = a1_0
     ·rw [if_pos c8] at H; have c8b0 : (a2 == a1_0) = true := beq_iff_eq.mpr c8; have c8b1 : (a2 != a1_0) = false := bne_eq_false_iff_eq.mpr c8; clear c8; simp only [Option.some.injEq, Prod.mk.injEq] at H; obtain ⟨rfl, rfl⟩ := H; go_enter Try.func86, Try.ntmps86; go_wp2_with (first | ((with_reducible refine gate_dst (N := 3) rfl ?_); refine box_event ?hg (N := 3) ?hd (cs := #[.slice A0_0 l0_0.length c0_0, .slice A0_1 l0_1.length c0_1]) (t := 39) ?hr ?_; (case hd => rfl); (case hg => rfl); (case hr => first | (go_simp; done) | (go_simp; rfl)); intro gb271 hg w9 hbox hb; have n0_ := A' (W' (qK0 HB.out) hb); have n1_ := A' (hbox); have n2_ := A' ((by rw [hg]; exact (V' (qK0 HB.out)) : w.heap.size ≤ gb271)); have n3_ := A' ((by rw [hg]; exact (V' (qK0 HB.out)) : w.heap.size ≤ gb271)); clear HB; have HB := n0_; have BK271 := n1_; have GW271 := n2_; have GE271 := n3_; clear n0_ n1_ n2_ n3_; clear hb hbox hg) | ((with_reducible refine gate_dst (N := 4) rfl ?_); refine box_event ?hg (N := 4) ?hd (cs := #[.int .i64 a1_0, .int .i64 a1_1, .bool a1_2]) (t := 84) ?hr ?_; (case hd => rfl); (case hg => rfl); (case hr => first | (go_simp; done) | (go_simp; rfl)); intro gb272 hg w10 hbox hb; have n0_ := A' (O' (g := gb271) (qB BK271.out) hb); have n1_ := A' (W' (qK1 HB.out GE271.out) hb); have n2_ := A' (hbox); have n3_ := A' ((by rw [hg]; exact (V' (qK1 HB.out GE271.out)) : w.heap.size ≤ gb272)); have n4_ := A' ((by rw [hg]; exact (V' (qK1 HB.out GE271.out)) : w.heap.size ≤ gb272)); have n5_ := A' ((by rw [hg]; exact Nat.ne_of_lt (bL' (g := gb271) (qB BK271.out)) : gb271 ≠ gb272)); have n6_ := A' ((by rw [hg]; exact Nat.ne_of_gt (bL' (g := gb271) (qB BK271.out)) : gb272 ≠ gb271)); clear BK271; clear HB; have BK271 := n0_; have HB := n1_; have BK272 := n2_; have GW272 := n3_; have GE272 := n4_; have NB271_272 := n5_; have NB272_271 := n6_; clear n0_ n1_ n2_ n3_ n4_ n5_ n6_; clear hb hbox hg; have hnb11 := NB271_272.out; have hnc11 := NB272_271.out; have hcz12_0 : w10.cell? ⟨gb271, 0, none⟩ = some (.slice A0_0 l0_0.length c0_0) := (N' BK271.out 0).trans rfl; have hcz12_1 : w10.cell? ⟨gb271, 1, none⟩ = some (.slice A0_1 l0_1.length c0_1) := (N' BK271.out 1).trans rfl; have hfz12_0 := Y' BK271.out 0; have hfz12_1 := Y' BK271.out 1; have hcz13_0 : w10.cell? ⟨gb272, 0, none⟩ = some (.int .i64 a1_0) := (N' BK272.out 0).trans rfl; have hcz13_1 : w10.cell? ⟨gb272, 1, none⟩ = some (.int .i64 a1_1) := (N' BK272.out 1).trans rfl; have hcz13_2 : w10.cell? ⟨gb272, 2, none⟩ = some (.bool a1_2) := (N' BK272.out 2).trans rfl; have hfz13_0 := Y' BK272.out 0; have hfz13_1 := Y' BK272.out 1; have hfz13_2 := Y' BK272.out 2; have p273 : 0 ≤ (a1_1 : Int) := oD' qA; have q273 : a1_1 < (l0_0.length : Int) := oD' qA; obtain ⟨ad273, e273, hx273_0, hx273_1, hx273_2⟩ := at_T82 HR0_0.out a1_1 p273 q273; cases e273; try replace hx273_0 := qC HB.out hx273_0; try replace hx273_1 := qC HB.out hx273_1; try replace hx273_2 := qC HB.out hx273_2; replace p273 := eq_true p273; replace q273 := eq_true q273; have p274 : 0 ≤ (a1_0 : Int) := oD' qA; have q274 : a1_0 < (l0_0.length : Int) := oD' qA; obtain ⟨ad274, e274, hx274_0, hx274_1, hx274_2⟩ := at_T82 HR0_0.out a1_0 p274 q274; obtain rfl : ad273 = ad274 := (by injection e274); try replace hx274_0 := qC HB.out hx274_0; try replace hx274_1 := qC HB.out hx274_1; try replace hx274_2 := qC HB.out hx274_2; replace p274 := eq_true p274; replace q274 := eq_true q274; have p275 : 0 ≤ (a1_1 : Int) := oD' qA; have q275 : a1_1 < (l0_0.length : Int) := oD' qA; obtain ⟨ad275, e275, hx275_0, hx275_1, hx275_2⟩ := at_T82 HR0_0.out a1_1 p275 q275; obtain rfl : ad273 = ad275 := (by injection e275); try replace hx275_0 := qC HB.out hx275_0; try replace hx275_1 := qC HB.out hx275_1; try replace hx275_2 := qC HB.out hx275_2; replace p275 := eq_true p275; replace q275 := eq_true q275; have p276 : 0 ≤ (a1_0 : Int) := oD' qA; have q276 : a1_0 < (l0_0.length : Int) := oD' qA; obtain ⟨ad276, e276, hx276_0, hx276_1, hx276_2⟩ := at_T82 HR0_0.out a1_0 p276 q276; obtain rfl : ad273 = ad276 := (by injection e276); try replace hx276_0 := qC HB.out hx276_0; try replace hx276_1 := qC HB.out hx276_1; try replace hx276_2 := qC HB.out hx276_2; replace p276 := eq_true p276; replace q276 := eq_true q276))
      repeat (go_quiet (first | ((with_reducible refine gate_dst (N := 3) rfl ?_); refine box_event ?hg (N := 3) ?hd (cs := #[.slice A0_0 l0_0.length c0_0, .slice A0_1 l0_1.length c0_1]) (t := 39) ?hr ?_; (case hd => rfl); (case hg => rfl); (case hr => first | (go_simp; done) | (go_simp; rfl)); intro gb271 hg w9 hbox hb; have n0_ := A' (W' (qK0 HB.out) hb); have n1_ := A' (hbox); have n2_ := A' ((by rw [hg]; exact (V' (qK0 HB.out)) : w.heap.size ≤ gb271)); have n3_ := A' ((by rw [hg]; exact (V' (qK0 HB.out)) : w.heap.size ≤ gb271)); clear HB; have HB := n0_; have BK271 := n1_; have GW271 := n2_; have GE271 := n3_; clear n0_ n1_ n2_ n3_; clear hb hbox hg) | ((with_reducible refine gate_dst (N := 4) rfl ?_); refine box_event ?hg (N := 4) ?hd (cs := #[.int .i64 a1_0, .int .i64 a1_1, .bool a1_2]) (t := 84) ?hr ?_; (case hd => rfl); (case hg => rfl); (case hr => first | (go_simp; done) | (go_simp; rfl)); intro gb272 hg w10 hbox hb; have n0_ := A' (O' (g := gb271) (qB BK271.out) hb); have n1_ := A' (W' (qK1 HB.out GE271.out) hb); have n2_ := A' (hbox); have n3_ := A' ((by rw [hg]; exact (V' (qK1 HB.out GE271.out)) : w.heap.size ≤ gb272)); have n4_ := A' ((by rw [hg]; exact (V' (qK1 HB.out GE271.out)) : w.heap.size ≤ gb272)); have n5_ := A' ((by rw [hg]; exact Nat.ne_of_lt (bL' (g := gb271) (qB BK271.out)) : gb271 ≠ gb272)); have n6_ := A' ((by rw [hg]; exact Nat.ne_of_gt (bL' (g := gb271) (qB BK271.out)) : gb272 ≠ gb271)); clear BK271; clear HB; have BK271 := n0_; have HB := n1_; have BK272 := n2_; have GW272 := n3_; have GE272 := n4_; have NB271_272 := n5_; have NB272_271 := n6_; clear n0_ n1_ n2_ n3_ n4_ n5_ n6_; clear hb hbox hg; have hnb11 := NB271_272.out; have hnc11 := NB272_271.out; have hcz12_0 : w10.cell? ⟨gb271, 0, none⟩ = some (.slice A0_0 l0_0.length c0_0) := (N' BK271.out 0).trans rfl; have hcz12_1 : w10.cell? ⟨gb271, 1, none⟩ = some (.slice A0_1 l0_1.length c0_1) := (N' BK271.out 1).trans rfl; have hfz12_0 := Y' BK271.out 0; have hfz12_1 := Y' BK271.out 1; have hcz13_0 : w10.cell? ⟨gb272, 0, none⟩ = some (.int .i64 a1_0) := (N' BK272.out 0).trans rfl; have hcz13_1 : w10.cell? ⟨gb272, 1, none⟩ = some (.int .i64 a1_1) := (N' BK272.out 1).trans rfl; have hcz13_2 : w10.cell? ⟨gb272, 2, none⟩ = some (.bool a1_2) := (N' BK272.out 2).trans rfl; have hfz13_0 := Y' BK272.out 0; have hfz13_1 := Y' BK272.out 1; have hfz13_2 := Y' BK272.out 2; have p273 : 0 ≤ (a1_1 : Int) := oD' qA; have q273 : a1_1 < (l0_0.length : Int) := oD' qA; obtain ⟨ad273, e273, hx273_0, hx273_1, hx273_2⟩ := at_T82 HR0_0.out a1_1 p273 q273; cases e273; try replace hx273_0 := qC HB.out hx273_0; try replace hx273_1 := qC HB.out hx273_1; try replace hx273_2 := qC HB.out hx273_2; replace p273 := eq_true p273; replace q273 := eq_true q273; have p274 : 0 ≤ (a1_0 : Int) := oD' qA; have q274 : a1_0 < (l0_0.length : Int) := oD' qA; obtain ⟨ad274, e274, hx274_0, hx274_1, hx274_2⟩ := at_T82 HR0_0.out a1_0 p274 q274; obtain rfl : ad273 = ad274 := (by injection e274); try replace hx274_0 := qC HB.out hx274_0; try replace hx274_1 := qC HB.out hx274_1; try replace hx274_2 := qC HB.out hx274_2; replace p274 := eq_true p274; replace q274 := eq_true q274; have p275 : 0 ≤ (a1_1 : Int) := oD' qA; have q275 : a1_1 < (l0_0.length : Int) := oD' qA; obtain ⟨ad275, e275, hx275_0, hx275_1, hx275_2⟩ := at_T82 HR0_0.out a1_1 p275 q275; obtain rfl : ad273 = ad275 := (by injection e275); try replace hx275_0 := qC HB.out hx275_0; try replace hx275_1 := qC HB.out hx275_1; try replace hx275_2 := qC HB.out hx275_2; replace p275 := eq_true p275; replace q275 := eq_true q275; have p276 : 0 ≤ (a1_0 : Int) := oD' qA; have q276 : a1_0 < (l0_0.length : Int) := oD' qA; obtain ⟨ad276, e276, hx276_0, hx276_1, hx276_2⟩ := at_T82 HR0_0.out a1_0 p276 q276; obtain rfl : ad273 = ad276 := (by injection e276); try replace hx276_0 := qC HB.out hx276_0; try replace hx276_1 := qC HB.out hx276_1; try replace hx276_2 := qC HB.out hx276_2; replace p276 := eq_true p276; replace q276 := eq_true q276)); try go_wp2_with (first | ((with_reducible refine gate_dst (N := 3) rfl ?_); refine box_event ?hg (N := 3) ?hd (cs := #[.slice A0_0 l0_0.length c0_0, .slice A0_1 l0_1.length c0_1]) (t := 39) ?hr ?_; (case hd => rfl); (case hg => rfl); (case hr => first | (go_simp; done) | (go_simp; rfl)); intro gb271 hg w9 hbox hb; have n0_ := A' (W' (qK0 HB.out) hb); have n1_ := A' (hbox); have n2_ := A' ((by rw [hg]; exact (V' (qK0 HB.out)) : w.heap.size ≤ gb271)); have n3_ := A' ((by rw [hg]; exact (V' (qK0 HB.out)) : w.heap.size ≤ gb271)); clear HB; have HB := n0_; have BK271 := n1_; have GW271 := n2_; have GE271 := n3_; clear n0_ n1_ n2_ n3_; clear hb hbox hg) | ((with_reducible refine gate_dst (N := 4) rfl ?_); refine box_event ?hg (N := 4) ?hd (cs := #[.int .i64 a1_0, .int .i64 a1_1, .bool a1_2]) (t := 84) ?hr ?_; (case hd => rfl); (case hg => rfl); (case hr => first | (go_simp; done) | (go_simp; rfl)); intro gb272 hg w10 hbox hb; have n0_ := A' (O' (g := gb271) (qB BK271.out) hb); have n1_ := A' (W' (qK1 HB.out GE271.out) hb); have n2_ := A' (hbox); have n3_ := A' ((by rw [hg]; exact (V' (qK1 HB.out GE271.out)) : w.heap.size ≤ gb272)); have n4_ := A' ((by rw [hg]; exact (V' (qK1 HB.out GE271.out)) : w.heap.size ≤ gb272)); have n5_ := A' ((by rw [hg]; exact Nat.ne_of_lt (bL' (g := gb271) (qB BK271.out)) : gb271 ≠ gb272)); have n6_ := A' ((by rw [hg]; exact Nat.ne_of_gt (bL' (g := gb271) (qB BK271.out)) : gb272 ≠ gb271)); clear BK271; clear HB; have BK271 := n0_; have HB := n1_; have BK272 := n2_; have GW272 := n3_; have GE272 := n4_; have NB271_272 := n5_; have NB272_271 := n6_; clear n0_ n1_ n2_ n3_ n4_ n5_ n6_; clear hb hbox hg; have hnb11 := NB271_272.out; have hnc11 := NB272_271.out; have hcz12_0 : w10.cell? ⟨gb271, 0, none⟩ = some (.slice A0_0 l0_0.length c0_0) := (N' BK271.out 0).trans rfl; have hcz12_1 : w10.cell? ⟨gb271, 1, none⟩ = some (.slice A0_1 l0_1.length c0_1) := (N' BK271.out 1).trans rfl; have hfz12_0 := Y' BK271.out 0; have hfz12_1 := Y' BK271.out 1; have hcz13_0 : w10.cell? ⟨gb272, 0, none⟩ = some (.int .i64 a1_0) := (N' BK272.out 0).trans rfl; have hcz13_1 : w10.cell? ⟨gb272, 1, none⟩ = some (.int .i64 a1_1) := (N' BK272.out 1).trans rfl; have hcz13_2 : w10.cell? ⟨gb272, 2, none⟩ = some (.bool a1_2) := (N' BK272.out 2).trans rfl; have hfz13_0 := Y' BK272.out 0; have hfz13_1 := Y' BK272.out 1; have hfz13_2 := Y' BK272.out 2; have p273 : 0 ≤ (a1_1 : Int) := oD' qA; have q273 : a1_1 < (l0_0.length : Int) := oD' qA; obtain ⟨ad273, e273, hx273_0, hx273_1, hx273_2⟩ := at_T82 HR0_0.out a1_1 p273 q273; cases e273; try replace hx273_0 := qC HB.out hx273_0; try replace hx273_1 := qC HB.out hx273_1; try replace hx273_2 := qC HB.out hx273_2; replace p273 := eq_true p273; replace q273 := eq_true q273; have p274 : 0 ≤ (a1_0 : Int) := oD' qA; have q274 : a1_0 < (l0_0.length : Int) := oD' qA; obtain ⟨ad274, e274, hx274_0, hx274_1, hx274_2⟩ := at_T82 HR0_0.out a1_0 p274 q274; obtain rfl : ad273 = ad274 := (by injection e274); try replace hx274_0 := qC HB.out hx274_0; try replace hx274_1 := qC HB.out hx274_1; try replace hx274_2 := qC HB.out hx274_2; replace p274 := eq_true p274; replace q274 := eq_true q274; have p275 : 0 ≤ (a1_1 : Int) := oD' qA; have q275 : a1_1 < (l0_0.length : Int) := oD' qA; obtain ⟨ad275, e275, hx275_0, hx275_1, hx275_2⟩ := at_T82 HR0_0.out a1_1 p275 q275; obtain rfl : ad273 = ad275 := (by injection e275); try replace hx275_0 := qC HB.out hx275_0; try replace hx275_1 := qC HB.out hx275_1; try replace hx275_2 := qC HB.out hx275_2; replace p275 := eq_true p275; replace q275 := eq_true q275; have p276 : 0 ≤ (a1_0 : Int) := oD' qA; have q276 : a1_0 < (l0_0.length : Int) := oD' qA; obtain ⟨ad276, e276, hx276_0, hx276_1, hx276_2⟩ := at_T82 HR0_0.out a1_0 p276 q276; obtain rfl : ad273 = ad276 := (by injection e276); try replace hx276_0 := qC HB.out hx276_0; try replace hx276_1 := qC HB.out hx276_1; try replace hx276_2 := qC HB.out hx276_2; replace p276 := eq_true p276; replace q276 := eq_true q276)))
      go_ret2; exact ⟨qE, qK2 HB.out GE271.out GE272.out⟩
     ·rw [if_neg c8] at H; have c8b0 : (a2 == a1_0) = false := beq_eq_false_iff_ne.mpr c8; have c8b1 : (a2 != a1_0) = true := bne_iff_ne.mpr c8
      by_cases c14 : a2 = a1_1
      ·rw [if_pos c14] at H; have c14b0 : (a2 == a1_1) = true := beq_iff_eq.mpr c14; have c14b1 : (a2 != a1_1) = false := bne_eq_false_iff_eq.mpr c14; clear c14; simp only [Option.some.injEq, Prod.mk.injEq] at H; obtain ⟨rfl, rfl⟩ := H; go_enter Try.func86, Try.ntmps86; go_wp2_with (first | ((with_reducible refine gate_dst (N := 3) rfl ?_); refine box_event ?hg (N := 3) ?hd (cs := #[.slice A0_0 l0_0.length c0_0, .slice A0_1 l0_1.length c0_1]) (t := 39) ?hr ?_; (case hd => rfl); (case hg => rfl); (case hr => first | (go_simp; done) | (go_simp; rfl)); intro gb271 hg w15 hbox hb; have n0_ := A' (W' (qK0 HB.out) hb); have n1_ := A' (hbox); have n2_ := A' ((by rw [hg]; exact (V' (qK0 HB.out)) : w.heap.size ≤ gb271)); have n3_ := A' ((by rw [hg]; exact (V' (qK0 HB.out)) : w.heap.size ≤ gb271)); clear HB; have HB := n0_; have BK271 := n1_; have GW271 := n2_; have GE271 := n3_; clear n0_ n1_ n2_ n3_; clear hb hbox hg) | ((with_reducible refine gate_dst (N := 4) rfl ?_); refine box_event ?hg (N := 4) ?hd (cs := #[.int .i64 a1_0, .int .i64 a1_1, .bool a1_2]) (t := 84) ?hr ?_; (case hd => rfl); (case hg => rfl); (case hr => first | (go_simp; done) | (go_simp; rfl)); intro gb272 hg w16 hbox hb; have n0_ := A' (O' (g := gb271) (qB BK271.out) hb); have n1_ := A' (W' (qK1 HB.out GE271.out) hb); have n2_ := A' (hbox); have n3_ := A' ((by rw [hg]; exact (V' (qK1 HB.out GE271.out)) : w.heap.size ≤ gb272)); have n4_ := A' ((by rw [hg]; exact (V' (qK1 HB.out GE271.out)) : w.heap.size ≤ gb272)); have n5_ := A' ((by rw [hg]; exact Nat.ne_of_lt (bL' (g := gb271) (qB BK271.out)) : gb271 ≠ gb272)); have n6_ := A' ((by rw [hg]; exact Nat.ne_of_gt (bL' (g := gb271) (qB BK271.out)) : gb272 ≠ gb271)); clear BK271; clear HB; have BK271 := n0_; have HB := n1_; have BK272 := n2_; have GW272 := n3_; have GE272 := n4_; have NB271_272 := n5_; have NB272_271 := n6_; clear n0_ n1_ n2_ n3_ n4_ n5_ n6_; clear hb hbox hg; have hnb17 := NB271_272.out; have hnc17 := NB272_271.out; have hcz18_0 : w16.cell? ⟨gb271, 0, none⟩ = some (.slice A0_0 l0_0.length c0_0) := (N' BK271.out 0).trans rfl; have hcz18_1 : w16.cell? ⟨gb271, 1, none⟩ = some (.slice A0_1 l0_1.length c0_1) := (N' BK271.out 1).trans rfl; have hfz18_0 := Y' BK271.out 0; have hfz18_1 := Y' BK271.out 1; have hcz19_0 : w16.cell? ⟨gb272, 0, none⟩ = some (.int .i64 a1_0) := (N' BK272.out 0).trans rfl; have hcz19_1 : w16.cell? ⟨gb272, 1, none⟩ = some (.int .i64 a1_1) := (N' BK272.out 1).trans rfl; have hcz19_2 : w16.cell? ⟨gb272, 2, none⟩ = some (.bool a1_2) := (N' BK272.out 2).trans rfl; have hfz19_0 := Y' BK272.out 0; have hfz19_1 := Y' BK272.out 1; have hfz19_2 := Y' BK272.out 2; have p273 : 0 ≤ (a1_1 : Int) := oD' qA; have q273 : a1_1 < (l0_0.length : Int) := oD' qA; obtain ⟨ad273, e273, hx273_0, hx273_1, hx273_2⟩ := at_T82 HR0_0.out a1_1 p273 q273; cases e273; try replace hx273_0 := qC HB.out hx273_0; try replace hx273_1 := qC HB.out hx273_1; try replace hx273_2 := qC HB.out hx273_2; replace p273 := eq_true p273; replace q273 := eq_true q273; have p274 : 0 ≤ (a1_0 : Int) := oD' qA; have q274 : a1_0 < (l0_0.length : Int) := oD' qA; obtain ⟨ad274, e274, hx274_0, hx274_1, hx274_2⟩ := at_T82 HR0_0.out a1_0 p274 q274; obtain rfl : ad273 = ad274 := (by injection e274); try replace hx274_0 := qC HB.out hx274_0; try replace hx274_1 := qC HB.out hx274_1; try replace hx274_2 := qC HB.out hx274_2; replace p274 := eq_true p274; replace q274 := eq_true q274; have p275 : 0 ≤ (a1_1 : Int) := oD' qA; have q275 : a1_1 < (l0_0.length : Int) := oD' qA; obtain ⟨ad275, e275, hx275_0, hx275_1, hx275_2⟩ := at_T82 HR0_0.out a1_1 p275 q275; obtain rfl : ad273 = ad275 := (by injection e275); try replace hx275_0 := qC HB.out hx275_0; try replace hx275_1 := qC HB.out hx275_1; try replace hx275_2 := qC HB.out hx275_2; replace p275 := eq_true p275; replace q275 := eq_true q275; have p276 : 0 ≤ (a1_0 : Int) := oD' qA; have q276 : a1_0 < (l0_0.length : Int) := oD' qA; obtain ⟨ad276, e276, hx276_0, hx276_1, hx276_2⟩ := at_T82 HR0_0.out a1_0 p276 q276; obtain rfl : ad273 = ad276 := (by injection e276); try replace hx276_0 := qC HB.out hx276_0; try replace hx276_1 := qC HB.out hx276_1; try replace hx276_2 := qC HB.out hx276_2; replace p276 := eq_true p276; replace q276 := eq_true q276))
       repeat (go_quiet (first | ((with_reducible refine gate_dst (N := 3) rfl ?_); refine box_event ?hg (N := 3) ?hd (cs := #[.slice A0_0 l0_0.length c0_0, .slice A0_1 l0_1.length c0_1]) (t := 39) ?hr ?_; (case hd => rfl); (case hg => rfl); (case hr => first | (go_simp; done) | (go_simp; rfl)); intro gb271 hg w15 hbox hb; have n0_ := A' (W' (qK0 HB.out) hb); have n1_ := A' (hbox); have n2_ := A' ((by rw [hg]; exact (V' (qK0 HB.out)) : w.heap.size ≤ gb271)); have n3_ := A' ((by rw [hg]; exact (V' (qK0 HB.out)) : w.heap.size ≤ gb271)); clear HB; have HB := n0_; have BK271 := n1_; have GW271 := n2_; have GE271 := n3_; clear n0_ n1_ n2_ n3_; clear hb hbox hg) | ((with_reducible refine gate_dst (N := 4) rfl ?_); refine box_event ?hg (N := 4) ?hd (cs := #[.int .i64 a1_0, .int .i64 a1_1, .bool a1_2]) (t := 84) ?hr ?_; (case hd => rfl); (case hg => rfl); (case hr => first | (go_simp; done) | (go_simp; rfl)); intro gb272 hg w16 hbox hb; have n0_ := A' (O' (g := gb271) (qB BK271.out) hb); have n1_ := A' (W' (qK1 HB.out GE271.out) hb); have n2_ := A' (hbox); have n3_ := A' ((by rw [hg]; exact (V' (qK1 HB.out GE271.out)) : w.heap.size ≤ gb272)); have n4_ := A' ((by rw [hg]; exact (V' (qK1 HB.out GE271.out)) : w.heap.size ≤ gb272)); have n5_ := A' ((by rw [hg]; exact Nat.ne_of_lt (bL' (g := gb271) (qB BK271.out)) : gb271 ≠ gb272)); have n6_ := A' ((by rw [hg]; exact Nat.ne_of_gt (bL' (g := gb271) (qB BK271.out)) : gb272 ≠ gb271)); clear BK271; clear HB; have BK271 := n0_; have HB := n1_; have BK272 := n2_; have GW272 := n3_; have GE272 := n4_; have NB271_272 := n5_; have NB272_271 := n6_; clear n0_ n1_ n2_ n3_ n4_ n5_ n6_; clear hb hbox hg; have hnb17 := NB271_272.out; have hnc17 := NB272_271.out; have hcz18_0 : w16.cell? ⟨gb271, 0, none⟩ = some (.slice A0_0 l0_0.length c0_0) := (N' BK271.out 0).trans rfl; have hcz18_1 : w16.cell? ⟨gb271, 1, none⟩ = some (.slice A0_1 l0_1.length c0_1) := (N' BK271.out 1).trans rfl; have hfz18_0 := Y' BK271.out 0; have hfz18_1 := Y' BK271.out 1; have hcz19_0 : w16.cell? ⟨gb272, 0, none⟩ = some (.int .i64 a1_0) := (N' BK272.out 0).trans rfl; have hcz19_1 : w16.cell? ⟨gb272, 1, none⟩ = some (.int .i64 a1_1) := (N' BK272.out 1).trans rfl; have hcz19_2 : w16.cell? ⟨gb272, 2, none⟩ = some (.bool a1_2) := (N' BK272.out 2).trans rfl; have hfz19_0 := Y' BK272.out 0; have hfz19_1 := Y' BK272.out 1; have hfz19_2 := Y' BK272.out 2; have p273 : 0 ≤ (a1_1 : Int) := oD' qA; have q273 : a1_1 < (l0_0.length : Int) := oD' qA; obtain ⟨ad273, e273, hx273_0, hx273_1, hx273_2⟩ := at_T82 HR0_0.out a1_1 p273 q273; cases e273; try replace hx273_0 := qC HB.out hx273_0; try replace hx273_1 := qC HB.out hx273_1; try replace hx273_2 := qC HB.out hx273_2; replace p273 := eq_true p273; replace q273 := eq_true q273; have p274 : 0 ≤ (a1_0 : Int) := oD' qA; have q274 : a1_0 < (l0_0.length : Int) := oD' qA; obtain ⟨ad274, e274, hx274_0, hx274_1, hx274_2⟩ := at_T82 HR0_0.out a1_0 p274 q274; obtain rfl : ad273 = ad274 := (by injection e274); try replace hx274_0 := qC HB.out hx274_0; try replace hx274_1 := qC HB.out hx274_1; try replace hx274_2 := qC HB.out hx274_2; replace p274 := eq_true p274; replace q274 := eq_true q274; have p275 : 0 ≤ (a1_1 : Int) := oD' qA; have q275 : a1_1 < (l0_0.length : Int) := oD' qA; obtain ⟨ad275, e275, hx275_0, hx275_1, hx275_2⟩ := at_T82 HR0_0.out a1_1 p275 q275; obtain rfl : ad273 = ad275 := (by injection e275); try replace hx275_0 := qC HB.out hx275_0; try replace hx275_1 := qC HB.out hx275_1; try replace hx275_2 := qC HB.out hx275_2; replace p275 := eq_true p275; replace q275 := eq_true q275; have p276 : 0 ≤ (a1_0 : Int) := oD' qA; have q276 : a1_0 < (l0_0.length : Int) := oD' qA; obtain ⟨ad276, e276, hx276_0, hx276_1, hx276_2⟩ := at_T82 HR0_0.out a1_0 p276 q276; obtain rfl : ad273 = ad276 := (by injection e276); try replace hx276_0 := qC HB.out hx276_0; try replace hx276_1 := qC HB.out hx276_1; try replace hx276_2 := qC HB.out hx276_2; replace p276 := eq_true p276; replace q276 := eq_true q276)); try go_wp2_with (first | ((with_reducible refine gate_dst (N := 3) rfl ?_); refine box_event ?hg (N := 3) ?hd (cs := #[.slice A0_0 l0_0.length c0_0, .slice A0_1 l0_1.length c0_1]) (t := 39) ?hr ?_; (case hd => rfl); (case hg => rfl); (case hr => first | (go_simp; done) | (go_simp; rfl)); intro gb271 hg w15 hbox hb; have n0_ := A' (W' (qK0 HB.out) hb); have n1_ := A' (hbox); have n2_ := A' ((by rw [hg]; exact (V' (qK0 HB.out)) : w.heap.size ≤ gb271)); have n3_ := A' ((by rw [hg]; exact (V' (qK0 HB.out)) : w.heap.size ≤ gb271)); clear HB; have HB := n0_; have BK271 := n1_; have GW271 := n2_; have GE271 := n3_; clear n0_ n1_ n2_ n3_; clear hb hbox hg) | ((with_reducible refine gate_dst (N := 4) rfl ?_); refine box_event ?hg (N := 4) ?hd (cs := #[.int .i64 a1_0, .int .i64 a1_1, .bool a1_2]) (t := 84) ?hr ?_; (case hd => rfl); (case hg => rfl); (case hr => first | (go_simp; done) | (go_simp; rfl)); intro gb272 hg w16 hbox hb; have n0_ := A' (O' (g := gb271) (qB BK271.out) hb); have n1_ := A' (W' (qK1 HB.out GE271.out) hb); have n2_ := A' (hbox); have n3_ := A' ((by rw [hg]; exact (V' (qK1 HB.out GE271.out)) : w.heap.size ≤ gb272)); have n4_ := A' ((by rw [hg]; exact (V' (qK1 HB.out GE271.out)) : w.heap.size ≤ gb272)); have n5_ := A' ((by rw [hg]; exact Nat.ne_of_lt (bL' (g := gb271) (qB BK271.out)) : gb271 ≠ gb272)); have n6_ := A' ((by rw [hg]; exact Nat.ne_of_gt (bL' (g := gb271) (qB BK271.out)) : gb272 ≠ gb271)); clear BK271; clear HB; have BK271 := n0_; have HB := n1_; have BK272 := n2_; have GW272 := n3_; have GE272 := n4_; have NB271_272 := n5_; have NB272_271 := n6_; clear n0_ n1_ n2_ n3_ n4_ n5_ n6_; clear hb hbox hg; have hnb17 := NB271_272.out; have hnc17 := NB272_271.out; have hcz18_0 : w16.cell? ⟨gb271, 0, none⟩ = some (.slice A0_0 l0_0.length c0_0) := (N' BK271.out 0).trans rfl; have hcz18_1 : w16.cell? ⟨gb271, 1, none⟩ = some (.slice A0_1 l0_1.length c0_1) := (N' BK271.out 1).trans rfl; have hfz18_0 := Y' BK271.out 0; have hfz18_1 := Y' BK271.out 1; have hcz19_0 : w16.cell? ⟨gb272, 0, none⟩ = some (.int .i64 a1_0) := (N' BK272.out 0).trans rfl; have hcz19_1 : w16.cell? ⟨gb272, 1, none⟩ = some (.int .i64 a1_1) := (N' BK272.out 1).trans rfl; have hcz19_2 : w16.cell? ⟨gb272, 2, none⟩ = some (.bool a1_2) := (N' BK272.out 2).trans rfl; have hfz19_0 := Y' BK272.out 0; have hfz19_1 := Y' BK272.out 1; have hfz19_2 := Y' BK272.out 2; have p273 : 0 ≤ (a1_1 : Int) := oD' qA; have q273 : a1_1 < (l0_0.length : Int) := oD' qA; obtain ⟨ad273, e273, hx273_0, hx273_1, hx273_2⟩ := at_T82 HR0_0.out a1_1 p273 q273; cases e273; try replace hx273_0 := qC HB.out hx273_0; try replace hx273_1 := qC HB.out hx273_1; try replace hx273_2 := qC HB.out hx273_2; replace p273 := eq_true p273; replace q273 := eq_true q273; have p274 : 0 ≤ (a1_0 : Int) := oD' qA; have q274 : a1_0 < (l0_0.length : Int) := oD' qA; obtain ⟨ad274, e274, hx274_0, hx274_1, hx274_2⟩ := at_T82 HR0_0.out a1_0 p274 q274; obtain rfl : ad273 = ad274 := (by injection e274); try replace hx274_0 := qC HB.out hx274_0; try replace hx274_1 := qC HB.out hx274_1; try replace hx274_2 := qC HB.out hx274_2; replace p274 := eq_true p274; replace q274 := eq_true q274; have p275 : 0 ≤ (a1_1 : Int) := oD' qA; have q275 : a1_1 < (l0_0.length : Int) := oD' qA; obtain ⟨ad275, e275, hx275_0, hx275_1, hx275_2⟩ := at_T82 HR0_0.out a1_1 p275 q275; obtain rfl : ad273 = ad275 := (by injection e275); try replace hx275_0 := qC HB.out hx275_0; try replace hx275_1 := qC HB.out hx275_1; try replace hx275_2 := qC HB.out hx275_2; replace p275 := eq_true p275; replace q275 := eq_true q275; have p276 : 0 ≤ (a1_0 : Int) := oD' qA; have q276 : a1_0 < (l0_0.length : Int) := oD' qA; obtain ⟨ad276, e276, hx276_0, hx276_1, hx276_2⟩ := at_T82 HR0_0.out a1_0 p276 q276; obtain rfl : ad273 = ad276 := (by injection e276); try replace hx276_0 := qC HB.out hx276_0; try replace hx276_1 := qC HB.out hx276_1; try replace hx276_2 := qC HB.out hx276_2; replace p276 := eq_true p276; replace q276 := eq_true q276)))
       go_ret2; exact ⟨qE, qK2 HB.out GE271.out GE272.out⟩
      ·rw [if_neg c14] at H; have c14b0 : (a2 == a1_1) = false := beq_eq_false_iff_ne.mpr c14; have c14b1 : (a2 != a1_1) = true := bne_iff_ne.mpr c14; simp only [Option.some.injEq, Prod.mk.injEq] at H; obtain ⟨rfl, rfl⟩ := H; go_enter Try.func86, Try.ntmps86; go_wp2_with (first | ((with_reducible refine gate_dst (N := 3) rfl ?_); refine box_event ?hg (N := 3) ?hd (cs := #[.slice A0_0 l0_0.length c0_0, .slice A0_1 l0_1.length c0_1]) (t := 39) ?hr ?_; (case hd => rfl); (case hg => rfl); (case hr => first | (go_simp; done) | (go_simp; rfl)); intro gb271 hg w20 hbox hb; have n0_ := A' (W' (qK0 HB.out) hb); have n1_ := A' (hbox); have n2_ := A' ((by rw [hg]; exact (V' (qK0 HB.out)) : w.heap.size ≤ gb271)); have n3_ := A' ((by rw [hg]; exact (V' (qK0 HB.out)) : w.heap.size ≤ gb271)); clear HB; have HB := n0_; have BK271 := n1_; have GW271 := n2_; have GE271 := n3_; clear n0_ n1_ n2_ n3_; clear hb hbox hg) | ((with_reducible refine gate_dst (N := 4) rfl ?_); refine box_event ?hg (N := 4) ?hd (cs := #[.int .i64 a1_0, .int .i64 a1_1, .bool a1_2]) (t := 84) ?hr ?_; (case hd => rfl); (case hg => rfl); (case hr => first | (go_simp; done) | (go_simp; rfl)); intro gb272 hg w21 hbox hb; have n0_ := A' (O' (g := gb271) (qB BK271.out) hb); have n1_ := A' (W' (qK1 HB.out GE271.out) hb); have n2_ := A' (hbox); have n3_ := A' ((by rw [hg]; exact (V' (qK1 HB.out GE271.out)) : w.heap.size ≤ gb272)); have n4_ := A' ((by rw [hg]; exact (V' (qK1 HB.out GE271.out)) : w.heap.size ≤ gb272)); have n5_ := A' ((by rw [hg]; exact Nat.ne_of_lt (bL' (g := gb271) (qB BK271.out)) : gb271 ≠ gb272)); have n6_ := A' ((by rw [hg]; exact Nat.ne_of_gt (bL' (g := gb271) (qB BK271.out)) : gb272 ≠ gb271)); clear BK271; clear HB; have BK271 := n0_; have HB := n1_; have BK272 := n2_; have GW272 := n3_; have GE272 := n4_; have NB271_272 := n5_; have NB272_271 := n6_; clear n0_ n1_ n2_ n3_ n4_ n5_ n6_; clear hb hbox hg; have hnb22 := NB271_272.out; have hnc22 := NB272_271.out; have hcz23_0 : w21.cell? ⟨gb271, 0, none⟩ = some (.slice A0_0 l0_0.length c0_0) := (N' BK271.out 0).trans rfl; have hcz23_1 : w21.cell? ⟨gb271, 1, none⟩ = some (.slice A0_1 l0_1.length c0_1) := (N' BK271.out 1).trans rfl; have hfz23_0 := Y' BK271.out 0; have hfz23_1 := Y' BK271.out 1; have hcz24_0 : w21.cell? ⟨gb272, 0, none⟩ = some (.int .i64 a1_0) := (N' BK272.out 0).trans rfl; have hcz24_1 : w21.cell? ⟨gb272, 1, none⟩ = some (.int .i64 a1_1) := (N' BK272.out 1).trans rfl; have hcz24_2 : w21.cell? ⟨gb272, 2, none⟩ = some (.bool a1_2) := (N' BK272.out 2).trans rfl; have hfz24_0 := Y' BK272.out 0; have hfz24_1 := Y' BK272.out 1; have hfz24_2 := Y' BK272.out 2; have p273 : 0 ≤ (a1_1 : Int) := oD' qA; have q273 : a1_1 < (l0_0.length : Int) := oD' qA; obtain ⟨ad273, e273, hx273_0, hx273_1, hx273_2⟩ := at_T82 HR0_0.out a1_1 p273 q273; cases e273; try replace hx273_0 := qC HB.out hx273_0; try replace hx273_1 := qC HB.out hx273_1; try replace hx273_2 := qC HB.out hx273_2; replace p273 := eq_true p273; replace q273 := eq_true q273; have p274 : 0 ≤ (a1_0 : Int) := oD' qA; have q274 : a1_0 < (l0_0.length : Int) := oD' qA; obtain ⟨ad274, e274, hx274_0, hx274_1, hx274_2⟩ := at_T82 HR0_0.out a1_0 p274 q274; obtain rfl : ad273 = ad274 := (by injection e274); try replace hx274_0 := qC HB.out hx274_0; try replace hx274_1 := qC HB.out hx274_1; try replace hx274_2 := qC HB.out hx274_2; replace p274 := eq_true p274; replace q274 := eq_true q274; have p275 : 0 ≤ (a1_1 : Int) := oD' qA; have q275 : a1_1 < (l0_0.length : Int) := oD' qA; obtain ⟨ad275, e275, hx275_0, hx275_1, hx275_2⟩ := at_T82 HR0_0.out a1_1 p275 q275; obtain rfl : ad273 = ad275 := (by injection e275); try replace hx275_0 := qC HB.out hx275_0; try replace hx275_1 := qC HB.out hx275_1; try replace hx275_2 := qC HB.out hx275_2; replace p275 := eq_true p275; replace q275 := eq_true q275; have p276 : 0 ≤ (a1_0 : Int) := oD' qA; have q276 : a1_0 < (l0_0.length : Int) := oD' qA; obtain ⟨ad276, e276, hx276_0, hx276_1, hx276_2⟩ := at_T82 HR0_0.out a1_0 p276 q276; obtain rfl : ad273 = ad276 := (by injection e276); try replace hx276_0 := qC HB.out hx276_0; try replace hx276_1 := qC HB.out hx276_1; try replace hx276_2 := qC HB.out hx276_2; replace p276 := eq_true p276; replace q276 := eq_true q276))
       repeat (go_quiet (first | ((with_reducible refine gate_dst (N := 3) rfl ?_); refine box_event ?hg (N := 3) ?hd (cs := #[.slice A0_0 l0_0.length c0_0, .slice A0_1 l0_1.length c0_1]) (t := 39) ?hr ?_; (case hd => rfl); (case hg => rfl); (case hr => first | (go_simp; done) | (go_simp; rfl)); intro gb271 hg w20 hbox hb; have n0_ := A' (W' (qK0 HB.out) hb); have n1_ := A' (hbox); have n2_ := A' ((by rw [hg]; exact (V' (qK0 HB.out)) : w.heap.size ≤ gb271)); have n3_ := A' ((by rw [hg]; exact (V' (qK0 HB.out)) : w.heap.size ≤ gb271)); clear HB; have HB := n0_; have BK271 := n1_; have GW271 := n2_; have GE271 := n3_; clear n0_ n1_ n2_ n3_; clear hb hbox hg) | ((with_reducible refine gate_dst (N := 4) rfl ?_); refine box_event ?hg (N := 4) ?hd (cs := #[.int .i64 a1_0, .int .i64 a1_1, .bool a1_2]) (t := 84) ?hr ?_; (case hd => rfl); (case hg => rfl); (case hr => first | (go_simp; done) | (go_simp; rfl)); intro gb272 hg w21 hbox hb; have n0_ := A' (O' (g := gb271) (qB BK271.out) hb); have n1_ := A' (W' (qK1 HB.out GE271.out) hb); have n2_ := A' (hbox); have n3_ := A' ((by rw [hg]; exact (V' (qK1 HB.out GE271.out)) : w.heap.size ≤ gb272)); have n4_ := A' ((by rw [hg]; exact (V' (qK1 HB.out GE271.out)) : w.heap.size ≤ gb272)); have n5_ := A' ((by rw [hg]; exact Nat.ne_of_lt (bL' (g := gb271) (qB BK271.out)) : gb271 ≠ gb272)); have n6_ := A' ((by rw [hg]; exact Nat.ne_of_gt (bL' (g := gb271) (qB BK271.out)) : gb272 ≠ gb271)); clear BK271; clear HB; have BK271 := n0_; have HB := n1_; have BK272 := n2_; have GW272 := n3_; have GE272 := n4_; have NB271_272 := n5_; have NB272_271 := n6_; clear n0_ n1_ n2_ n3_ n4_ n5_ n6_; clear hb hbox hg; have hnb22 := NB271_272.out; have hnc22 := NB272_271.out; have hcz23_0 : w21.cell? ⟨gb271, 0, none⟩ = some (.slice A0_0 l0_0.length c0_0) := (N' BK271.out 0).trans rfl; have hcz23_1 : w21.cell? ⟨gb271, 1, none⟩ = some (.slice A0_1 l0_1.length c0_1) := (N' BK271.out 1).trans rfl; have hfz23_0 := Y' BK271.out 0; have hfz23_1 := Y' BK271.out 1; have hcz24_0 : w21.cell? ⟨gb272, 0, none⟩ = some (.int .i64 a1_0) := (N' BK272.out 0).trans rfl; have hcz24_1 : w21.cell? ⟨gb272, 1, none⟩ = some (.int .i64 a1_1) := (N' BK272.out 1).trans rfl; have hcz24_2 : w21.cell? ⟨gb272, 2, none⟩ = some (.bool a1_2) := (N' BK272.out 2).trans rfl; have hfz24_0 := Y' BK272.out 0; have hfz24_1 := Y' BK272.out 1; have hfz24_2 := Y' BK272.out 2; have p273 : 0 ≤ (a1_1 : Int) := oD' qA; have q273 : a1_1 < (l0_0.length : Int) := oD' qA; obtain ⟨ad273, e273, hx273_0, hx273_1, hx273_2⟩ := at_T82 HR0_0.out a1_1 p273 q273; cases e273; try replace hx273_0 := qC HB.out hx273_0; try replace hx273_1 := qC HB.out hx273_1; try replace hx273_2 := qC HB.out hx273_2; replace p273 := eq_true p273; replace q273 := eq_true q273; have p274 : 0 ≤ (a1_0 : Int) := oD' qA; have q274 : a1_0 < (l0_0.length : Int) := oD' qA; obtain ⟨ad274, e274, hx274_0, hx274_1, hx274_2⟩ := at_T82 HR0_0.out a1_0 p274 q274; obtain rfl : ad273 = ad274 := (by injection e274); try replace hx274_0 := qC HB.out hx274_0; try replace hx274_1 := qC HB.out hx274_1; try replace hx274_2 := qC HB.out hx274_2; replace p274 := eq_true p274; replace q274 := eq_true q274; have p275 : 0 ≤ (a1_1 : Int) := oD' qA; have q275 : a1_1 < (l0_0.length : Int) := oD' qA; obtain ⟨ad275, e275, hx275_0, hx275_1, hx275_2⟩ := at_T82 HR0_0.out a1_1 p275 q275; obtain rfl : ad273 = ad275 := (by injection e275); try replace hx275_0 := qC HB.out hx275_0; try replace hx275_1 := qC HB.out hx275_1; try replace hx275_2 := qC HB.out hx275_2; replace p275 := eq_true p275; replace q275 := eq_true q275; have p276 : 0 ≤ (a1_0 : Int) := oD' qA; have q276 : a1_0 < (l0_0.length : Int) := oD' qA; obtain ⟨ad276, e276, hx276_0, hx276_1, hx276_2⟩ := at_T82 HR0_0.out a1_0 p276 q276; obtain rfl : ad273 = ad276 := (by injection e276); try replace hx276_0 := qC HB.out hx276_0; try replace hx276_1 := qC HB.out hx276_1; try replace hx276_2 := qC HB.out hx276_2; replace p276 := eq_true p276; replace q276 := eq_true q276)); try go_wp2_with (first | ((with_reducible refine gate_dst (N := 3) rfl ?_); refine box_event ?hg (N := 3) ?hd (cs := #[.slice A0_0 l0_0.length c0_0, .slice A0_1 l0_1.length c0_1]) (t := 39) ?hr ?_; (case hd => rfl); (case hg => rfl); (case hr => first | (go_simp; done) | (go_simp; rfl)); intro gb271 hg w20 hbox hb; have n0_ := A' (W' (qK0 HB.out) hb); have n1_ := A' (hbox); have n2_ := A' ((by rw [hg]; exact (V' (qK0 HB.out)) : w.heap.size ≤ gb271)); have n3_ := A' ((by rw [hg]; exact (V' (qK0 HB.out)) : w.heap.size ≤ gb271)); clear HB; have HB := n0_; have BK271 := n1_; have GW271 := n2_; have GE271 := n3_; clear n0_ n1_ n2_ n3_; clear hb hbox hg) | ((with_reducible refine gate_dst (N := 4) rfl ?_); refine box_event ?hg (N := 4) ?hd (cs := #[.int .i64 a1_0, .int .i64 a1_1, .bool a1_2]) (t := 84) ?hr ?_; (case hd => rfl); (case hg => rfl); (case hr => first | (go_simp; done) | (go_simp; rfl)); intro gb272 hg w21 hbox hb; have n0_ := A' (O' (g := gb271) (qB BK271.out) hb); have n1_ := A' (W' (qK1 HB.out GE271.out) hb); have n2_ := A' (hbox); have n3_ := A' ((by rw [hg]; exact (V' (qK1 HB.out GE271.out)) : w.heap.size ≤ gb272)); have n4_ := A' ((by rw [hg]; exact (V' (qK1 HB.out GE271.out)) : w.heap.size ≤ gb272)); have n5_ := A' ((by rw [hg]; exact Nat.ne_of_lt (bL' (g := gb271) (qB BK271.out)) : gb271 ≠ gb272)); have n6_ := A' ((by rw [hg]; exact Nat.ne_of_gt (bL' (g := gb271) (qB BK271.out)) : gb272 ≠ gb271)); clear BK271; clear HB; have BK271 := n0_; have HB := n1_; have BK272 := n2_; have GW272 := n3_; have GE272 := n4_; have NB271_272 := n5_; have NB272_271 := n6_; clear n0_ n1_ n2_ n3_ n4_ n5_ n6_; clear hb hbox hg; have hnb22 := NB271_272.out; have hnc22 := NB272_271.out; have hcz23_0 : w21.cell? ⟨gb271, 0, none⟩ = some (.slice A0_0 l0_0.length c0_0) := (N' BK271.out 0).trans rfl; have hcz23_1 : w21.cell? ⟨gb271, 1, none⟩ = some (.slice A0_1 l0_1.length c0_1) := (N' BK271.out 1).trans rfl; have hfz23_0 := Y' BK271.out 0; have hfz23_1 := Y' BK271.out 1; have hcz24_0 : w21.cell? ⟨gb272, 0, none⟩ = some (.int .i64 a1_0) := (N' BK272.out 0).trans rfl; have hcz24_1 : w21.cell? ⟨gb272, 1, none⟩ = some (.int .i64 a1_1) := (N' BK272.out 1).trans rfl; have hcz24_2 : w21.cell? ⟨gb272, 2, none⟩ = some (.bool a1_2) := (N' BK272.out 2).trans rfl; have hfz24_0 := Y' BK272.out 0; have hfz24_1 := Y' BK272.out 1; have hfz24_2 := Y' BK272.out 2; have p273 : 0 ≤ (a1_1 : Int) := oD' qA; have q273 : a1_1 < (l0_0.length : Int) := oD' qA; obtain ⟨ad273, e273, hx273_0, hx273_1, hx273_2⟩ := at_T82 HR0_0.out a1_1 p273 q273; cases e273; try replace hx273_0 := qC HB.out hx273_0; try replace hx273_1 := qC HB.out hx273_1; try replace hx273_2 := qC HB.out hx273_2; replace p273 := eq_true p273; replace q273 := eq_true q273; have p274 : 0 ≤ (a1_0 : Int) := oD' qA; have q274 : a1_0 < (l0_0.length : Int) := oD' qA; obtain ⟨ad274, e274, hx274_0, hx274_1, hx274_2⟩ := at_T82 HR0_0.out a1_0 p274 q274; obtain rfl : ad273 = ad274 := (by injection e274); try replace hx274_0 := qC HB.out hx274_0; try replace hx274_1 := qC HB.out hx274_1; try replace hx274_2 := qC HB.out hx274_2; replace p274 := eq_true p274; replace q274 := eq_true q274; have p275 : 0 ≤ (a1_1 : Int) := oD' qA; have q275 : a1_1 < (l0_0.length : Int) := oD' qA; obtain ⟨ad275, e275, hx275_0, hx275_1, hx275_2⟩ := at_T82 HR0_0.out a1_1 p275 q275; obtain rfl : ad273 = ad275 := (by injection e275); try replace hx275_0 := qC HB.out hx275_0; try replace hx275_1 := qC HB.out hx275_1; try replace hx275_2 := qC HB.out hx275_2; replace p275 := eq_true p275; replace q275 := eq_true q275; have p276 : 0 ≤ (a1_0 : Int) := oD' qA; have q276 : a1_0 < (l0_0.length : Int) := oD' qA; obtain ⟨ad276, e276, hx276_0, hx276_1, hx276_2⟩ := at_T82 HR0_0.out a1_0 p276 q276; obtain rfl : ad273 = ad276 := (by injection e276); try replace hx276_0 := qC HB.out hx276_0; try replace hx276_1 := qC HB.out hx276_1; try replace hx276_2 := qC HB.out hx276_2; replace p276 := eq_true p276; replace q276 := eq_true q276)))
       go_ret2; exact ⟨qE, qK2 HB.out GE271.out GE272.out⟩
    ·rw [if_neg c7] at H; exact absurd H (by simp)
   ·rw [if_neg c6] at H; exact absurd H (by simp)
  ·rw [if_neg c5] at H; exact absurd H (by simp)
 ·rw [if_neg c4] at H; exact absurd H (by simp)

/-! ### impl_IsBalanced: function 53 -/
mutual
def impl_IsBalanced.j0 : Nat → List (S97) → Bool → List (S82) → List (S84) → List Int → Int → Option (Bool × Int)
 | 0, _, _, _, _, _, _ => none
 | k + 1, x1, x25, x278000, x278001, x279000, x279001 => if x25 = true then (some (false, 1)) else ((impl_freeKnots.f k x278000 x278001).bind fun t281 => (impl_IsBalanced.l0 k x1 t281 (t281.length : Int) 0 x278000 x278001 x279000 x279001))
def impl_IsBalanced.l0 : Nat → List (S97) → List Int → Int → Int → List (S82) → List (S84) → List Int → Int → Option (Bool × Int)
 | 0, _, _, _, _, _, _, _, _ => none
 | k + 1, x1, x27, x28, x29, x278000, x278001, x279000, x279001 => if x29 < x28 then (if 0 ≤ x29 then (if x29 < (x27.length : Int) then (if 0 ≤ (rd x27 x29) then (if (rd x27 x29) < (x1.length : Int) then (impl_IsBalanced.l1 k x1 (rd x27 x29) (wrap64 (((rd_T97 x1 (rd x27 x29)).f0) * x279001)) (wrap64 (((rd_T97 x1 (rd x27 x29)).f1) * x279001)) x27 x28 x29 x278001 (x278001.length : Int) 0 x278000 x278001 x279000 x279001) else (none)) else (none)) else (none)) else (none)) else (some (true, 0))
def impl_IsBalanced.l1 : Nat → List (S97) → Int → Int → Int → List Int → Int → Int → List (S84) → Int → Int → List (S82) → List (S84) → List Int → Int → Option (Bool × Int)
 | 0, _, _, _, _, _, _, _, _, _, _, _, _, _, _ => none
 | k + 1, x1, x9, x10, x11, x27, x28, x29, x50, x51, x52, x278000, x278001, x279000, x279001 => if x52 < x51 then (if 0 ≤ x52 then (if x52 < (x50.length : Int) then ((impl_pullOf.f x278000 x278001 ((rd_T84 x50 x52).f0) ((rd_T84 x50 x52).f1) ((rd_T84 x50 x52).f2) x9).bind fun bt289 => (if x52 < (x279000.length : Int) then (impl_IsBalanced.l1 k x1 x9 (wrap64 (x10 + (wrap64 ((rd x279000 x52) * bt289.1)))) (wrap64 (x11 + (wrap64 ((rd x279000 x52) * bt289.2)))) x27 x28 x29 x50 x51 (wrap64 (x52 + 1)) x278000 x278001 x279000 x279001) else (none))) else (none)) else (none)) else (if x10 = 0 then (if x11 = 0 then (impl_IsBalanced.l0 k x1 x27 x28 (wrap64 (x29 + 1)) x278000 x278001 x279000 x279001) else (some (false, 0))) else (some (false, 0)))
end
def impl_IsBalanced.f (k : Nat) (l0_0 : List (S82)) (l0_1 : List (S84)) (l1 : List (S97)) (l2_0 : List Int) (a2_1 : Int) : Option (Bool × Int) := (impl_ValidLoads.f k l0_0 l0_1 l1).bind fun t279 => (if t279 = true then ((impl_ValidDensities.f k l0_0 l0_1 l2_0 a2_1).bind fun t280 => (impl_IsBalanced.j0 k l1 (!t280) l0_0 l0_1 l2_0 a2_1)) else (impl_IsBalanced.j0 k l1 true l0_0 l0_1 l2_0 a2_1))
theorem impl_IsBalanced.mono_l : ∀ k, (∀ y0 y1 y2 y3 y4 y5, LeO (impl_IsBalanced.j0 k y0 y1 y2 y3 y4 y5) (impl_IsBalanced.j0 (k + 1) y0 y1 y2 y3 y4 y5)) ∧ (∀ y0 y1 y2 y3 y4 y5 y6 y7, LeO (impl_IsBalanced.l0 k y0 y1 y2 y3 y4 y5 y6 y7) (impl_IsBalanced.l0 (k + 1) y0 y1 y2 y3 y4 y5 y6 y7)) ∧ (∀ y0 y1 y2 y3 y4 y5 y6 y7 y8 y9 y10 y11 y12 y13, LeO (impl_IsBalanced.l1 k y0 y1 y2 y3 y4 y5 y6 y7 y8 y9 y10 y11 y12 y13) (impl_IsBalanced.l1 (k + 1) y0 y1 y2 y3 y4 y5 y6 y7 y8 y9 y10 y11 y12 y13))
 | 0 => ⟨fun _ _ _ _ _ _ r h => by simp [impl_IsBalanced.j0] at h, fun _ _ _ _ _ _ _ _ r h => by simp [impl_IsBalanced.l0] at h, fun _ _ _ _ _ _ _ _ _ _ _ _ _ _ r h => by simp [impl_IsBalanced.l1] at h⟩
 | k + 1 => by
  obtain ⟨ih0, ih1, ih2⟩ := impl_IsBalanced.mono_l k
  refine ⟨?_, ?_, ?_⟩
  ·intro y0 y1 y2 y3 y4 y5
   unfold impl_IsBalanced.j0
   repeat' first
   | (with_reducible exact ih0 _ _ _ _ _ _)
   | (with_reducible exact ih1 _ _ _ _ _ _ _ _)
   | (with_reducible exact ih2 _ _ _ _ _ _ _ _ _ _ _ _ _ _)
   | (with_reducible exact impl_ValidDensities.mono _ _ _ _ _)
   | (with_reducible exact impl_ValidLoads.mono _ _ _ _)
   | (with_reducible exact impl_freeKnots.mono _ _ _)
   | (with_reducible exact LeO.refl _)
   | (with_reducible exact LeO.none _)
   | (with_reducible refine LeO.ite ?_ ?_)
   | (with_reducible refine LeO.bind ?_ (fun _ => ?_))
   | exact ih0 _ _ _ _ _ _
   | exact ih1 _ _ _ _ _ _ _ _
   | exact ih2 _ _ _ _ _ _ _ _ _ _ _ _ _ _
   | exact impl_ValidDensities.mono _ _ _ _ _
   | exact impl_ValidLoads.mono _ _ _ _
   | exact impl_freeKnots.mono _ _ _
   | exact LeO.none _
   | refine LeO.ite ?_ ?_
   | refine LeO.bind ?_ (fun _ => ?_)
  ·intro y0 y1 y2 y3 y4 y5 y6 y7
   unfold impl_IsBalanced.l0
   repeat' first
   | (with_reducible exact ih0 _ _ _ _ _ _)
   | (with_reducible exact ih1 _ _ _ _ _ _ _ _)
   | (with_reducible exact ih2 _ _ _ _ _ _ _ _ _ _ _ _ _ _)
   | (with_reducible exact impl_ValidDensities.mono _ _ _ _ _)
   | (with_reducible exact impl_ValidLoads.mono _ _ _ _)
   | (with_reducible exact impl_freeKnots.mono _ _ _)
   | (with_reducible exact LeO.refl _)
   | (with_reducible exact LeO.none _)
   | (with_reducible refine LeO.ite ?_ ?_)
   | (with_reducible refine LeO.bind ?_ (fun _ => ?_))
   | exact ih0 _ _ _ _ _ _
   | exact ih1 _ _ _ _ _ _ _ _
   | exact ih2 _ _ _ _ _ _ _ _ _ _ _ _ _ _
   | exact impl_ValidDensities.mono _ _ _ _ _
   | exact impl_ValidLoads.mono _ _ _ _
   | exact impl_freeKnots.mono _ _ _
   | exact LeO.none _
   | refine LeO.ite ?_ ?_
   | refine LeO.bind ?_ (fun _ => ?_)
  ·intro y0 y1 y2 y3 y4 y5 y6 y7 y8 y9 y10 y11 y12 y13
   unfold impl_IsBalanced.l1
   repeat' first
   | (with_reducible exact ih0 _ _ _ _ _ _)
   | (with_reducible exact ih1 _ _ _ _ _ _ _ _)
   | (with_reducible exact ih2 _ _ _ _ _ _ _ _ _ _ _ _ _ _)
   | (with_reducible exact impl_ValidDensities.mono _ _ _ _ _)
   | (with_reducible exact impl_ValidLoads.mono _ _ _ _)
   | (with_reducible exact impl_freeKnots.mono _ _ _)
   | (with_reducible exact LeO.refl _)
   | (with_reducible exact LeO.none _)
   | (with_reducible refine LeO.ite ?_ ?_)
   | (with_reducible refine LeO.bind ?_ (fun _ => ?_))
   | exact ih0 _ _ _ _ _ _
   | exact ih1 _ _ _ _ _ _ _ _
   | exact ih2 _ _ _ _ _ _ _ _ _ _ _ _ _ _
   | exact impl_ValidDensities.mono _ _ _ _ _
   | exact impl_ValidLoads.mono _ _ _ _
   | exact impl_freeKnots.mono _ _ _
   | exact LeO.none _
   | refine LeO.ite ?_ ?_
   | refine LeO.bind ?_ (fun _ => ?_)
theorem impl_IsBalanced.mono : ∀ a0 a1 a2 a3 a4 k, LeO (impl_IsBalanced.f k a0 a1 a2 a3 a4) (impl_IsBalanced.f (k + 1) a0 a1 a2 a3 a4) := by
 intro a0 a1 a2 a3 a4 k
 obtain ⟨ih0, ih1, ih2⟩ := impl_IsBalanced.mono_l k
 unfold impl_IsBalanced.f
 repeat' first
   | (with_reducible exact ih0 _ _ _ _ _ _)
   | (with_reducible exact ih1 _ _ _ _ _ _ _ _)
   | (with_reducible exact ih2 _ _ _ _ _ _ _ _ _ _ _ _ _ _)
   | (with_reducible exact impl_ValidDensities.mono _ _ _ _ _)
   | (with_reducible exact impl_ValidLoads.mono _ _ _ _)
   | (with_reducible exact impl_freeKnots.mono _ _ _)
   | (with_reducible exact LeO.refl _)
   | (with_reducible exact LeO.none _)
   | (with_reducible refine LeO.ite ?_ ?_)
   | (with_reducible refine LeO.bind ?_ (fun _ => ?_))
   | exact ih0 _ _ _ _ _ _
   | exact ih1 _ _ _ _ _ _ _ _
   | exact ih2 _ _ _ _ _ _ _ _ _ _ _ _ _ _
   | exact impl_ValidDensities.mono _ _ _ _ _
   | exact impl_ValidLoads.mono _ _ _ _
   | exact impl_freeKnots.mono _ _ _
   | exact LeO.none _
   | refine LeO.ite ?_ ?_
   | refine LeO.bind ?_ (fun _ => ?_)
set_option maxHeartbeats 8000000 in
set_option maxRecDepth 100000 in
theorem impl_IsBalanced.calls (k : Nat) (A0_0 : Option Addr) (c0_0 : Nat) (l0_0 : List (S82)) (A0_1 : Option Addr) (c0_1 : Nat) (l0_1 : List (S84)) (A1 : Option Addr) (c1 : Nat) (l1 : List (S97)) (A2_0 : Option Addr) (c2_0 : Nat) (l2_0 : List Int) (a2_1 : Int) (r1 : Bool) (r2 : Int) (w : World) (hr0_0 : Kd.C k82 w A0_0 l0_0.length l0_0) (hc0_0 : l0_0.length ≤ c0_0) (hr0_1 : Kd.C k84 w A0_1 l0_1.length l0_1) (hc0_1 : l0_1.length ≤ c0_1) (hr1 : Kd.C k97 w A1 l1.length l1) (hc1 : l1.length ≤ c1) (hr2_0 : Kd.C (Kd.int .i64) w A2_0 l2_0.length l2_0) (hc2_0 : l2_0.length ≤ c2_0) (h : impl_IsBalanced.f k l0_0 l0_1 l1 l2_0 a2_1 = some (r1, r2)) :
  Calls Try.prog 53 #[.agg #[.slice A0_0 l0_0.length c0_0, .slice A0_1 l0_1.length c0_1], .slice A1 l1.length c1, .agg #[.slice A2_0 l2_0.length c2_0, .int .i64 a2_1]] w fun e w' => e = .returned (.tuple #[.bool r1, .int .i64 r2]) ∧ Below w.heap.size w w' := by
 have hu39 := Try.underlying39; have hu27 := Try.underlying27; have hu84 := Try.underlying84; have HR0_0 := A' hr0_0; have HC0_0 := A' hc0_0; clear hr0_0 hc0_0; have HR0_1 := A' hr0_1; have HC0_1 := A' hc0_1; clear hr0_1 hc0_1; have HR1 := A' hr1; have HC1 := A' hc1; clear hr1 hc1; have HR2_0 := A' hr2_0; have HC2_0 := A' hc2_0; clear hr2_0 hc2_0; have HB := A' (Below.refl w.heap.size w); have H : ((impl_ValidLoads.f k l0_0 l0_1 l1).bind fun t279 => (if t279 = true then ((impl_ValidDensities.f k l0_0 l0_1 l2_0 a2_1).bind fun t280 => (impl_IsBalanced.j0 k l1 (!t280) l0_0 l0_1 l2_0 a2_1)) else (impl_IsBalanced.j0 k l1 true l0_0 l0_1 l2_0 a2_1))) = some (r1, r2) := h; clear h; have HC4 := A' H; clear H; go_enter Try.func53, Try.ntmps53; go_upto_region 1 with (first | ((with_reducible refine gate_dst (N := 3) rfl ?_); refine box_event ?hg (N := 3) ?hd (cs := #[.slice A0_0 l0_0.length c0_0, .slice A0_1 l0_1.length c0_1]) (t := 39) ?hr ?_; (case hd => rfl); (case hg => rfl); (case hr => first | (go_simp; done) | (go_simp; rfl)); intro gb277 hg w5 hbox hb; have n0_ := A' (W' (qK0 HB.out) hb); have n1_ := A' (hbox); have n2_ := A' ((by rw [hg]; exact (V' (qK0 HB.out)) : w.heap.size ≤ gb277)); have n3_ := A' ((by rw [hg]; exact (V' (qK0 HB.out)) : w.heap.size ≤ gb277)); clear HB; have HB := n0_; have BK277 := n1_; have GW277 := n2_; have GE277 := n3_; clear n0_ n1_ n2_ n3_; clear hb hbox hg) | ((with_reducible refine gate_dst (N := 5) rfl ?_); refine box_event ?hg (N := 5) ?hd (cs := #[.slice A2_0 l2_0.length c2_0, .int .i64 a2_1]) (t := 27) ?hr ?_; (case hd => rfl); (case hg => rfl); (case hr => first | (go_simp; done) | (go_simp; rfl)); intro gb278 hg w6 hbox hb; have n0_ := A' (O' (g := gb277) (qB BK277.out) hb); have n1_ := A' (W' (qK1 HB.out GE277.out) hb); have n2_ := A' (hbox); have n3_ := A' ((by rw [hg]; exact (V' (qK1 HB.out GE277.out)) : w.heap.size ≤ gb278)); have n4_ := A' ((by rw [hg]; exact (V' (qK1 HB.out GE277.out)) : w.heap.size ≤ gb278)); have n5_ := A' ((by rw [hg]; exact Nat.ne_of_lt (bL' (g := gb277) (qB BK277.out)) : gb277 ≠ gb278)); have n6_ := A' ((by rw [hg]; exact Nat.ne_of_gt (bL' (g := gb277) (qB BK277.out)) : gb278 ≠ gb277)); clear BK277; clear HB; have BK277 := n0_; have HB := n1_; have BK278 := n2_; have GW278 := n3_; have GE278 := n4_; have NB277_278 := n5_; have NB278_277 := n6_; clear n0_ n1_ n2_ n3_ n4_ n5_ n6_; clear hb hbox hg))
 repeat (go_quiet (first | ((with_reducible refine gate_dst (N := 3) rfl ?_); refine box_event ?hg (N := 3) ?hd (cs := #[.slice A0_0 l0_0.length c0_0, .slice A0_1 l0_1.length c0_1]) (t := 39) ?hr ?_; (case hd => rfl); (case hg => rfl); (case hr => first | (go_simp; done) | (go_simp; rfl)); intro gb277 hg w5 hbox hb; have n0_ := A' (W' (qK0 HB.out) hb); have n1_ := A' (hbox); have n2_ := A' ((by rw [hg]; exact (V' (qK0 HB.out)) : w.heap.size ≤ gb277)); have n3_ := A' ((by rw [hg]; exact (V' (qK0 HB.out)) : w.heap.size ≤ gb277)); clear HB; have HB := n0_; have BK277 := n1_; have GW277 := n2_; have GE277 := n3_; clear n0_ n1_ n2_ n3_; clear hb hbox hg) | ((with_reducible refine gate_dst (N := 5) rfl ?_); refine box_event ?hg (N := 5) ?hd (cs := #[.slice A2_0 l2_0.length c2_0, .int .i64 a2_1]) (t := 27) ?hr ?_; (case hd => rfl); (case hg => rfl); (case hr => first | (go_simp; done) | (go_simp; rfl)); intro gb278 hg w6 hbox hb; have n0_ := A' (O' (g := gb277) (qB BK277.out) hb); have n1_ := A' (W' (qK1 HB.out GE277.out) hb); have n2_ := A' (hbox); have n3_ := A' ((by rw [hg]; exact (V' (qK1 HB.out GE277.out)) : w.heap.size ≤ gb278)); have n4_ := A' ((by rw [hg]; exact (V' (qK1 HB.out GE277.out)) : w.heap.size ≤ gb278)); have n5_ := A' ((by rw [hg]; exact Nat.ne_of_lt (bL' (g := gb277) (qB BK277.out)) : gb277 ≠ gb278)); have n6_ := A' ((by rw [hg]; exact Nat.ne_of_gt (bL' (g := gb277) (qB BK277.out)) : gb278 ≠ gb277)); clear BK277; clear HB; have BK277 := n0_; have HB := n1_; have BK278 := n2_; have GW278 := n3_; have GE278 := n4_; have NB277_278 := n5_; have NB278_277 := n6_; clear n0_ n1_ n2_ n3_ n4_ n5_ n6_; clear hb hbox hg)); go_upto_region 1 with (first | ((with_reducible refine gate_dst (N := 3) rfl ?_); refine box_event ?hg (N := 3) ?hd (cs := #[.slice A0_0 l0_0.length c0_0, .slice A0_1 l0_1.length c0_1]) (t := 39) ?hr ?_; (case hd => rfl); (case hg => rfl); (case hr => first | (go_simp; done) | (go_simp; rfl)); intro gb277 hg w5 hbox hb; have n0_ := A' (W' (qK0 HB.out) hb); have n1_ := A' (hbox); have n2_ := A' ((by rw [hg]; exact (V' (qK0 HB.out)) : w.heap.size ≤ gb277)); have n3_ := A' ((by rw [hg]; exact (V' (qK0 HB.out)) : w.heap.size ≤ gb277)); clear HB; have HB := n0_; have BK277 := n1_; have GW277 := n2_; have GE277 := n3_; clear n0_ n1_ n2_ n3_; clear hb hbox hg) | ((with_reducible refine gate_dst (N := 5) rfl ?_); refine box_event ?hg (N := 5) ?hd (cs := #[.slice A2_0 l2_0.length c2_0, .int .i64 a2_1]) (t := 27) ?hr ?_; (case hd => rfl); (case hg => rfl); (case hr => first | (go_simp; done) | (go_simp; rfl)); intro gb278 hg w6 hbox hb; have n0_ := A' (O' (g := gb277) (qB BK277.out) hb); have n1_ := A' (W' (qK1 HB.out GE277.out) hb); have n2_ := A' (hbox); have n3_ := A' ((by rw [hg]; exact (V' (qK1 HB.out GE277.out)) : w.heap.size ≤ gb278)); have n4_ := A' ((by rw [hg]; exact (V' (qK1 HB.out GE277.out)) : w.heap.size ≤ gb278)); have n5_ := A' ((by rw [hg]; exact Nat.ne_of_lt (bL' (g := gb277) (qB BK277.out)) : gb277 ≠ gb278)); have n6_ := A' ((by rw [hg]; exact Nat.ne_of_gt (bL' (g := gb277) (qB BK277.out)) : gb278 ≠ gb277)); clear BK277; clear HB; have BK277 := n0_; have HB := n1_; have BK278 := n2_; have GW278 := n3_; have GE278 := n4_; have NB277_278 := n5_; have NB278_277 := n6_; clear n0_ n1_ n2_ n3_ n4_ n5_ n6_; clear hb hbox hg)))
 (try simp only [Act.put, List.setIfInBounds_toArray, List.set_cons_zero, List.set_cons_succ])
 go_cut [25] (fun v25 wc => ∃ (kq : Nat) (x25_3 : Bool), v25 = .bool x25_3 ∧ Aside0 (impl_IsBalanced.j0 kq l1 x25_3 l0_0 l0_1 l2_0 a2_1 = some (r1, r2)) ∧ Aside0 (kq ≤ k) ∧ Aside0 (wc.heap[gb277]? = some (.cells #[(.slice A0_0 l0_0.length c0_0), (.slice A0_1 l0_1.length c0_1)] 39 (0, 0))) ∧ Aside0 (wc.heap[gb278]? = some (.cells #[(.slice A2_0 l2_0.length c2_0), .int .i64 a2_1] 27 (0, 0))) ∧ Aside0 (Below w.heap.size w wc))
 case first =>
  have H := HC4.out; clear HC4; replace H := Option.bind_eq_some_iff.mp H; obtain ⟨t279, A70, H⟩ := H; replace H : (if t279 = true then ((impl_ValidDensities.f k l0_0 l0_1 l2_0 a2_1).bind fun t280 => (impl_IsBalanced.j0 k l1 (!t280) l0_0 l0_1 l2_0 a2_1)) else (impl_IsBalanced.j0 k l1 true l0_0 l0_1 l2_0 a2_1)) = some (r1, r2) := H; have A7 := A' A70; clear A70
  by_cases c8 : t279 = true
  ·subst c8; have H1 : ((impl_ValidDensities.f k l0_0 l0_1 l2_0 a2_1).bind fun t280 => (impl_IsBalanced.j0 k l1 (!t280) l0_0 l0_1 l2_0 a2_1)) = some (r1, r2) := by rw [if_pos rfl] at H; exact H
   clear H; have H := H1; clear H1; replace H := Option.bind_eq_some_iff.mp H; obtain ⟨t280, A90, H⟩ := H; replace H : (impl_IsBalanced.j0 k l1 (!t280) l0_0 l0_1 l2_0 a2_1) = some (r1, r2) := H; have A9 := A' A90; clear A90; have H' := A' H; clear H; have hnb10 := NB277_278.out; have hnc10 := NB278_277.out; have hcz11_0 : w6.cell? ⟨gb277, 0, none⟩ = some (.slice A0_0 l0_0.length c0_0) := (N' BK277.out 0).trans rfl; have hcz11_1 : w6.cell? ⟨gb277, 1, none⟩ = some (.slice A0_1 l0_1.length c0_1) := (N' BK277.out 1).trans rfl; have hfz11_0 := Y' BK277.out 0; have hfz11_1 := Y' BK277.out 1; go_wp2_with (first | (go_at_call 31; (with_reducible refine (impl_ValidLoads.calls k _ _ l0_0 _ _ l0_1 _ _ l1 true _ ?side1 ?side2 ?side3 ?side4 ?side5 ?side6 A7.out).mono ?_); (case side1 => exact qT (X' HR0_0.out HB.out)); (case side2 => exact HC0_0.out); (case side3 => exact qT (X' HR0_1.out HB.out)); (case side4 => exact HC0_1.out); (case side5 => exact qT (X' HR1.out HB.out)); (case side6 => exact HC1.out); rintro e w12 ⟨rfl, hb⟩; have n0_ := A' (O' (g := gb277) (qB BK277.out) hb); have n1_ := A' (O' (g := gb278) (qB BK278.out) hb); have n2_ := A' (W' (qK2 HB.out GE277.out GE278.out) hb); clear BK277; clear BK278; clear HB; have BK277 := n0_; have BK278 := n1_; have HB := n2_; clear n0_ n1_ n2_; (try clear hb); (try clear hb2); (try clear hk); (try clear hi); have hcz13_0 : w12.cell? ⟨gb277, 0, none⟩ = some (.slice A0_0 l0_0.length c0_0) := (N' BK277.out 0).trans rfl; have hcz13_1 : w12.cell? ⟨gb277, 1, none⟩ = some (.slice A0_1 l0_1.length c0_1) := (N' BK277.out 1).trans rfl; have hfz13_0 := Y' BK277.out 0; have hfz13_1 := Y' BK277.out 1; have hcz14_0 : w12.cell? ⟨gb278, 0, none⟩ = some (.slice A2_0 l2_0.length c2_0) := (N' BK278.out 0).trans rfl; have hcz14_1 : w12.cell? ⟨gb278, 1, none⟩ = some (.int .i64 a2_1) := (N' BK278.out 1).trans rfl; have hfz14_0 := Y' BK278.out 0; have hfz14_1 := Y' BK278.out 1) | (go_at_call 40; (with_reducible refine (impl_ValidDensities.calls k _ _ l0_0 _ _ l0_1 _ _ l2_0 a2_1 t280 _ ?side1 ?side2 ?side3 ?side4 ?side5 ?side6 A9.out).mono ?_); (case side1 => exact qT (X' HR0_0.out HB.out)); (case side2 => exact HC0_0.out); (case side3 => exact qT (X' HR0_1.out HB.out)); (case side4 => exact HC0_1.out); (case side5 => exact qT (X' HR2_0.out HB.out)); (case side6 => exact HC2_0.out); rintro e w15 ⟨rfl, hb⟩; have n0_ := A' (O' (g := gb277) (qB BK277.out) hb); have n1_ := A' (O' (g := gb278) (qB BK278.out) hb); have n2_ := A' (W' (qK2 HB.out GE277.out GE278.out) hb); clear BK277; clear BK278; clear HB; have BK277 := n0_; have BK278 := n1_; have HB := n2_; clear n0_ n1_ n2_; (try clear hb); (try clear hb2); (try clear hk); (try clear hi)))
   repeat (go_quiet (first | (go_at_call 31; (with_reducible refine (impl_ValidLoads.calls k _ _ l0_0 _ _ l0_1 _ _ l1 true _ ?side1 ?side2 ?side3 ?side4 ?side5 ?side6 A7.out).mono ?_); (case side1 => exact qT (X' HR0_0.out HB.out)); (case side2 => exact HC0_0.out); (case side3 => exact qT (X' HR0_1.out HB.out)); (case side4 => exact HC0_1.out); (case side5 => exact qT (X' HR1.out HB.out)); (case side6 => exact HC1.out); rintro e w12 ⟨rfl, hb⟩; have n0_ := A' (O' (g := gb277) (qB BK277.out) hb); have n1_ := A' (O' (g := gb278) (qB BK278.out) hb); have n2_ := A' (W' (qK2 HB.out GE277.out GE278.out) hb); clear BK277; clear BK278; clear HB; have BK277 := n0_; have BK278 := n1_; have HB := n2_; clear n0_ n1_ n2_; (try clear hb); (try clear hb2); (try clear hk); (try clear hi); have hcz13_0 : w12.cell? ⟨gb277, 0, none⟩ = some (.slice A0_0 l0_0.length c0_0) := (N' BK277.out 0).trans rfl; have hcz13_1 : w12.cell? ⟨gb277, 1, none⟩ = some (.slice A0_1 l0_1.length c0_1) := (N' BK277.out 1).trans rfl; have hfz13_0 := Y' BK277.out 0; have hfz13_1 := Y' BK277.out 1; have hcz14_0 : w12.cell? ⟨gb278, 0, none⟩ = some (.slice A2_0 l2_0.length c2_0) := (N' BK278.out 0).trans rfl; have hcz14_1 : w12.cell? ⟨gb278, 1, none⟩ = some (.int .i64 a2_1) := (N' BK278.out 1).trans rfl; have hfz14_0 := Y' BK278.out 0; have hfz14_1 := Y' BK278.out 1) | (go_at_call 40; (with_reducible refine (impl_ValidDensities.calls k _ _ l0_0 _ _ l0_1 _ _ l2_0 a2_1 t280 _ ?side1 ?side2 ?side3 ?side4 ?side5 ?side6 A9.out).mono ?_); (case side1 => exact qT (X' HR0_0.out HB.out)); (case side2 => exact HC0_0.out); (case side3 => exact qT (X' HR0_1.out HB.out)); (case side4 => exact HC0_1.out); (case side5 => exact qT (X' HR2_0.out HB.out)); (case side6 => exact HC2_0.out); rintro e w15 ⟨rfl, hb⟩; have n0_ := A' (O' (g := gb277) (qB BK277.out) hb); have n1_ := A' (O' (g := gb278) (qB BK278.out) hb); have n2_ := A' (W' (qK2 HB.out GE277.out GE278.out) hb); clear BK277; clear BK278; clear HB; have BK277 := n0_; have BK278 := n1_; have HB := n2_; clear n0_ n1_ n2_; (try clear hb); (try clear hb2); (try clear hk); (try clear hi))); try go_wp2_with (first | (go_at_call 31; (with_reducible refine (impl_ValidLoads.calls k _ _ l0_0 _ _ l0_1 _ _ l1 true _ ?side1 ?side2 ?side3 ?side4 ?side5 ?side6 A7.out).mono ?_); (case side1 => exact qT (X' HR0_0.out HB.out)); (case side2 => exact HC0_0.out); (case side3 => exact qT (X' HR0_1.out HB.out)); (case side4 => exact HC0_1.out); (case side5 => exact qT (X' HR1.out HB.out)); (case side6 => exact HC1.out); rintro e w12 ⟨rfl, hb⟩; have n0_ := A' (O' (g := gb277) (qB BK277.out) hb); have n1_ := A' (O' (g := gb278) (qB BK278.out) hb); have n2_ := A' (W' (qK2 HB.out GE277.out GE278.out) hb); clear BK277; clear BK278; clear HB; have BK277 := n0_; have BK278 := n1_; have HB := n2_; clear n0_ n1_ n2_; (try clear hb); (try clear hb2); (try clear hk); (try clear hi); have hcz13_0 : w12.cell? ⟨gb277, 0, none⟩ = some (.slice A0_0 l0_0.length c0_0) := (N' BK277.out 0).trans rfl; have hcz13_1 : w12.cell? ⟨gb277, 1, none⟩ = some (.slice A0_1 l0_1.length c0_1) := (N' BK277.out 1).trans rfl; have hfz13_0 := Y' BK277.out 0; have hfz13_1 := Y' BK277.out 1; have hcz14_0 : w12.cell? ⟨gb278, 0, none⟩ = some (.slice A2_0 l2_0.length c2_0) := (N' BK278.out 0).trans rfl; have hcz14_1 : w12.cell? ⟨gb278, 1, none⟩ = some (.int .i64 a2_1) := (N' BK278.out 1).trans rfl; have hfz14_0 := Y' BK278.out 0; have hfz14_1 := Y' BK278.out 1) | (go_at_call 40; (with_reducible refine (impl_ValidDensities.calls k _ _ l0_0 _ _ l0_1 _ _ l2_0 a2_1 t280 _ ?side1 ?side2 ?side3 ?side4 ?side5 ?side6 A9.out).mono ?_); (case side1 => exact qT (X' HR0_0.out HB.out)); (case side2 => exact HC0_0.out); (case side3 => exact qT (X' HR0_1.out HB.out)); (case side4 => exact HC0_1.out); (case side5 => exact qT (X' HR2_0.out HB.out)); (case side6 => exact HC2_0.out); rintro e w15 ⟨rfl, hb⟩; have n0_ := A' (O' (g := gb277) (qB BK277.out) hb); have n1_ := A' (O' (g := gb278) (qB BK278.out) hb); have n2_ := A' (W' (qK2 HB.out GE277.out GE278.out) hb); clear BK277; clear BK278; clear HB; have BK277 := n0_; have BK278 := n1_; have HB := n2_; clear n0_ n1_ n2_; (try clear hb); (try clear hb2); (try clear hk); (try clear hi))))
   go_meet
   case rel => exact ⟨_, (!t280), qS, H', ⟨by first | omega | exact Nat.le_refl _⟩, ⟨qB BK277.out⟩, ⟨qB BK278.out⟩, ⟨qK2 HB.out GE277.out GE278.out⟩⟩
  ·replace c8 := Bool.eq_false_iff.mpr c8; subst c8; have H1 : (impl_IsBalanced.j0 k l1 true l0_0 l0_1 l2_0 a2_1) = some (r1, r2) := by rw [if_neg (show ¬ (false = true) by decide)] at H; exact H
   clear H; have H := H1; clear H1; have H' := A' H; clear H; have hnb16 := NB277_278.out; have hnc16 := NB278_277.out; have hcz17_0 : w6.cell? ⟨gb277, 0, none⟩ = some (.slice A0_0 l0_0.length c0_0) := (N' BK277.out 0).trans rfl; have hcz17_1 : w6.cell? ⟨gb277, 1, none⟩ = some (.slice A0_1 l0_1.length c0_1) := (N' BK277.out 1).trans rfl; have hfz17_0 := Y' BK277.out 0; have hfz17_1 := Y' BK277.out 1; go_wp2_with (first | (go_at_call 31; (with_reducible refine (impl_ValidLoads.calls k _ _ l0_0 _ _ l0_1 _ _ l1 false _ ?side1 ?side2 ?side3 ?side4 ?side5 ?side6 A7.out).mono ?_); (case side1 => exact qT (X' HR0_0.out HB.out)); (case side2 => exact HC0_0.out); (case side3 => exact qT (X' HR0_1.out HB.out)); (case side4 => exact HC0_1.out); (case side5 => exact qT (X' HR1.out HB.out)); (case side6 => exact HC1.out); rintro e w18 ⟨rfl, hb⟩; have n0_ := A' (O' (g := gb277) (qB BK277.out) hb); have n1_ := A' (O' (g := gb278) (qB BK278.out) hb); have n2_ := A' (W' (qK2 HB.out GE277.out GE278.out) hb); clear BK277; clear BK278; clear HB; have BK277 := n0_; have BK278 := n1_; have HB := n2_; clear n0_ n1_ n2_; (try clear hb); (try clear hb2); (try clear hk); (try clear hi)))
   repeat (go_quiet (first | (go_at_call 31; (with_reducible refine (impl_ValidLoads.calls k _ _ l0_0 _ _ l0_1 _ _ l1 false _ ?side1 ?side2 ?side3 ?side4 ?side5 ?side6 A7.out).mono ?_); (case side1 => exact qT (X' HR0_0.out HB.out)); (case side2 => exact HC0_0.out); (case side3 => exact qT (X' HR0_1.out HB.out)); (case side4 => exact HC0_1.out); (case side5 => exact qT (X' HR1.out HB.out)); (case side6 => exact HC1.out); rintro e w18 ⟨rfl, hb⟩; have n0_ := A' (O' (g := gb277) (qB BK277.out) hb); have n1_ := A' (O' (g := gb278) (qB BK278.out) hb); have n2_ := A' (W' (qK2 HB.out GE277.out GE278.out) hb); clear BK277; clear BK278; clear HB; have BK277 := n0_; have BK278 := n1_; have HB := n2_; clear n0_ n1_ n2_; (try clear hb); (try clear hb2); (try clear hk); (try clear hi))); try go_wp2_with (first | (go_at_call 31; (with_reducible refine (impl_ValidLoads.calls k _ _ l0_0 _ _ l0_1 _ _ l1 false _ ?side1 ?side2 ?side3 ?side4 ?side5 ?side6 A7.out).mono ?_); (case side1 => exact qT (X' HR0_0.out HB.out)); (case side2 => exact HC0_0.out); (case side3 => exact qT (X' HR0_1.out HB.out)); (case side4 => exact HC0_1.out); (case side5 => exact qT (X' HR1.out HB.out)); (case side6 => exact HC1.out); rintro e w18 ⟨rfl, hb⟩; have n0_ := A' (O' (g := gb277) (qB BK277.out) hb); have n1_ := A' (O' (g := gb278) (qB BK278.out) hb); have n2_ := A' (W' (qK2 HB.out GE277.out GE278.out) hb); clear BK277; clear BK278; clear HB; have BK277 := n0_; have BK278 := n1_; have HB := n2_; clear n0_ n1_ n2_; (try clear hb); (try clear hb2); (try clear hk); (try clear hi))))
   go_meet
   case rel => exact ⟨_, (true), qS, H', ⟨by first | omega | exact Nat.le_refl _⟩, ⟨qB BK277.out⟩, ⟨qB BK278.out⟩, ⟨qK2 HB.out GE277.out GE278.out⟩⟩
 case rest =>
  clear HC4; try clear c1
  try clear c2
  try clear p2
  try clear c5
  try clear c8
  try clear c10
  try clear c16
  try clear hcz11_0
  try clear hcz11_1
  try clear hcz13_0
  try clear hcz13_1
  try clear hcz14_0
  try clear hcz14_1
  try clear hcz17_0
  try clear hcz17_1
  try clear hfz11_0
  try clear hfz11_1
  try clear hfz13_0
  try clear hfz13_1
  try clear hfz14_0
  try clear hfz14_1
  try clear hfz17_0
  try clear hfz17_1
  obtain ⟨kq, x25_3, rfl, HA, HJ3, BK277, BK278, HB⟩ := hcut
  cases kq with
  | zero => exact absurd HA.out (by simp [impl_IsBalanced.j0])
  | succ kj3 =>
   have H := HA.out; clear HA; simp only [impl_IsBalanced.j0] at H
   by_cases c19 : x25_3 = true
   ·subst c19; have H1 : (some (false, 1)) = some (r1, r2) := by rw [if_pos rfl] at H; exact H
    clear H; have H := H1; clear H1; simp only [Option.some.injEq, Prod.mk.injEq] at H; obtain ⟨rfl, rfl⟩ := H; go_wp2
    repeat (go_quiet (fail); try go_wp2)
    go_ret2; exact ⟨qE, qK2 HB.out GE277.out GE278.out⟩
   ·replace c19 := Bool.eq_false_iff.mpr c19; subst c19; have H1 : ((impl_freeKnots.f kj3 l0_0 l0_1).bind fun t281 => (impl_IsBalanced.l0 kj3 l1 t281 (t281.length : Int) 0 l0_0 l0_1 l2_0 a2_1)) = some (r1, r2) := by rw [if_neg (show ¬ (false = true) by decide)] at H; exact H
    clear H; have H := H1; clear H1; replace H := Option.bind_eq_some_iff.mp H; obtain ⟨t281, A200, H⟩ := H; replace H : (impl_IsBalanced.l0 kj3 l1 t281 (t281.length : Int) 0 l0_0 l0_1 l2_0 a2_1) = some (r1, r2) := H; have A20 := A' A200; clear A200; have H' := A' H; clear H; have hnb21 := NB277_278.out; have hnc21 := NB278_277.out; have hcz22_0 : wc.cell? ⟨gb277, 0, none⟩ = some (.slice A0_0 l0_0.length c0_0) := (N' BK277.out 0).trans rfl; have hcz22_1 : wc.cell? ⟨gb277, 1, none⟩ = some (.slice A0_1 l0_1.length c0_1) := (N' BK277.out 1).trans rfl; have hfz22_0 := Y' BK277.out 0; have hfz22_1 := Y' BK277.out 1; go_wp2_with (first | (go_at_call 67; (with_reducible refine (impl_freeKnots.calls kj3 _ _ l0_0 _ _ l0_1 t281 _ ?side1 ?side2 ?side3 ?side4 A20.out).mono ?_); (case side1 => exact qT (X' HR0_0.out HB.out)); (case side2 => exact HC0_0.out); (case side3 => exact qT (X' HR0_1.out HB.out)); (case side4 => exact HC0_1.out); rintro e w23 ⟨v282, rfl, ho0, hb⟩; have n0_ := A' (Kd.R_lower ho0 (V' (qK2 HB.out GE277.out GE278.out))); have n1_ := A' (O' (g := gb277) (qB BK277.out) hb); have n2_ := A' (O' (g := gb278) (qB BK278.out) hb); have n3_ := A' (W' (qK2 HB.out GE277.out GE278.out) hb); clear BK277; clear BK278; clear HB; have HO283 := n0_; have BK277 := n1_; have BK278 := n2_; have HB := n3_; clear n0_ n1_ n2_ n3_; (try clear hb); (try clear hb2); (try clear hk); (try clear hi); (try clear ho0); obtain ⟨Ao24, co24, eo24⟩ := Kd.R_slice HO283.out; subst eo24))
    repeat (go_quiet (first | (go_at_call 67; (with_reducible refine (impl_freeKnots.calls kj3 _ _ l0_0 _ _ l0_1 t281 _ ?side1 ?side2 ?side3 ?side4 A20.out).mono ?_); (case side1 => exact qT (X' HR0_0.out HB.out)); (case side2 => exact HC0_0.out); (case side3 => exact qT (X' HR0_1.out HB.out)); (case side4 => exact HC0_1.out); rintro e w23 ⟨v282, rfl, ho0, hb⟩; have n0_ := A' (Kd.R_lower ho0 (V' (qK2 HB.out GE277.out GE278.out))); have n1_ := A' (O' (g := gb277) (qB BK277.out) hb); have n2_ := A' (O' (g := gb278) (qB BK278.out) hb); have n3_ := A' (W' (qK2 HB.out GE277.out GE278.out) hb); clear BK277; clear BK278; clear HB; have HO283 := n0_; have BK277 := n1_; have BK278 := n2_; have HB := n3_; clear n0_ n1_ n2_ n3_; (try clear hb); (try clear hb2); (try clear hk); (try clear hi); (try clear ho0); obtain ⟨Ao24, co24, eo24⟩ := Kd.R_slice HO283.out; subst eo24)); try go_wp2_with (first | (go_at_call 67; (with_reducible refine (impl_freeKnots.calls kj3 _ _ l0_0 _ _ l0_1 t281 _ ?side1 ?side2 ?side3 ?side4 A20.out).mono ?_); (case side1 => exact qT (X' HR0_0.out HB.out)); (case side2 => exact HC0_0.out); (case side3 => exact qT (X' HR0_1.out HB.out)); (case side4 => exact HC0_1.out); rintro e w23 ⟨v282, rfl, ho0, hb⟩; have n0_ := A' (Kd.R_lower ho0 (V' (qK2 HB.out GE277.out GE278.out))); have n1_ := A' (O' (g := gb277) (qB BK277.out) hb); have n2_ := A' (O' (g := gb278) (qB BK278.out) hb); have n3_ := A' (W' (qK2 HB.out GE277.out GE278.out) hb); clear BK277; clear BK278; clear HB; have HO283 := n0_; have BK277 := n1_; have BK278 := n2_; have HB := n3_; clear n0_ n1_ n2_ n3_; (try clear hb); (try clear hb2); (try clear hk); (try clear hi); (try clear ho0); obtain ⟨Ao24, co24, eo24⟩ := Kd.R_slice HO283.out; subst eo24)))
    go_loopg [29] kj3 (fun kq v29 w' => ∃ (x29_2 : Int), v29 = .int .i64 x29_2 ∧ Aside0 (impl_IsBalanced.l0 kq l1 t281 (t281.length : Int) x29_2 l0_0 l0_1 l2_0 a2_1 = some (r1, r2)) ∧ Aside0 (kq ≤ kj3) ∧ Aside0 (Kd.R (Kd.int .i64) 2 w' w.heap.size (fun _ => True) (.slice Ao24 t281.length co24) t281) ∧ Aside0 (w'.heap[gb277]? = some (.cells #[(.slice A0_0 l0_0.length c0_0), (.slice A0_1 l0_1.length c0_1)] 39 (0, 0))) ∧ Aside0 (w'.heap[gb278]? = some (.cells #[(.slice A2_0 l2_0.length c2_0), .int .i64 a2_1] 27 (0, 0))) ∧ Aside0 (Below w.heap.size w w'))
    case atStart => exact ⟨(0), qS, H', ⟨Nat.le_refl _⟩, ⟨qR HO283.out⟩, ⟨qB BK277.out⟩, ⟨qB BK278.out⟩, ⟨qK2 HB.out GE277.out GE278.out⟩⟩
    case round =>
     clear H'; try clear c1
     try clear c2
     try clear p2
     try clear c5
     try clear c8
     try clear c10
     try clear c16
     try clear c19
     try clear c21
     try clear hcz11_0
     try clear hcz11_1
     try clear hcz13_0
     try clear hcz13_1
     try clear hcz14_0
     try clear hcz14_1
     try clear hcz17_0
     try clear hcz17_1
     try clear hcz22_0
     try clear hcz22_1
     try clear hfz11_0
     try clear hfz11_1
     try clear hfz13_0
     try clear hfz13_1
     try clear hfz14_0
     try clear hfz14_1
     try clear hfz17_0
     try clear hfz17_1
     try clear hfz22_0
     try clear hfz22_1
     try clear p2
     obtain ⟨x29_2, rfl, HA, HK2, HO_27, BK277, BK278, HB⟩ := hrel
     cases gk with
     | zero => exact absurd HA.out (by simp [impl_IsBalanced.l0])
     | succ k2 =>
      have H := HA.out; clear HA; simp only [impl_IsBalanced.l0] at H
      by_cases c25 : x29_2 < (t281.length : Int)
      ·rw [if_pos c25] at H; have c25b0 : decide (x29_2 < (t281.length : Int)) = true := dT' c25; clear c25
       by_cases c26 : 0 ≤ x29_2
       ·rw [if_pos c26] at H; have c26b0 : decide (0 ≤ x29_2) = true := dT' c26; clear c26
        by_cases c27 : x29_2 < (t281.length : Int)
        ·rw [if_pos c27] at H; have c27b0 : decide (x29_2 < (t281.length : Int)) = true := dT' c27; clear c27
         by_cases c28 : 0 ≤ (rd t281 x29_2)
         ·rw [if_pos c28] at H; have c28b0 : decide (0 ≤ (rd t281 x29_2)) = true := dT' c28; clear c28
          by_cases c29 : (rd t281 x29_2) < (l1.length : Int)
          ·rw [if_pos c29] at H; have c29b0 : decide ((rd t281 x29_2) < (l1.length : Int)) = true := dT' c29; clear c29; have H' := A' H; clear H; have p284 : 0 ≤ (x29_2 : Int) := oD' qA; have q284 : x29_2 < (t281.length : Int) := oD' qA; obtain ⟨ad284, e284, hx284_0⟩ := Kd.at_int (Kd.R_reads' HO_27.out).2.2 x29_2 p284 q284
           cases e284
           replace p284 := eq_true p284; replace q284 := eq_true q284; have p285 : 0 ≤ ((rd t281 x29_2) : Int) := oD' qA; have q285 : (rd t281 x29_2) < (l1.length : Int) := oD' qA; obtain ⟨ad285, e285, hx285_0, hx285_1⟩ := at_T97 HR1.out (rd t281 x29_2) p285 q285
           cases e285
           try replace hx285_0 := qC HB.out hx285_0
           try replace hx285_1 := qC HB.out hx285_1
           replace p285 := eq_true p285; replace q285 := eq_true q285; have hnb30 := NB278_277.out; have hnc30 := NB277_278.out; have hcz31_0 : wr.cell? ⟨gb278, 0, none⟩ = some (.slice A2_0 l2_0.length c2_0) := (N' BK278.out 0).trans rfl; have hcz31_1 : wr.cell? ⟨gb278, 1, none⟩ = some (.int .i64 a2_1) := (N' BK278.out 1).trans rfl; have hfz31_0 := Y' BK278.out 0; have hfz31_1 := Y' BK278.out 1; have p286 : 0 ≤ ((rd t281 x29_2) : Int) := oD' qA; have q286 : (rd t281 x29_2) < (l1.length : Int) := oD' qA; obtain ⟨ad286, e286, hx286_0, hx286_1⟩ := at_T97 HR1.out (rd t281 x29_2) p286 q286; obtain rfl : ad285 = ad286 := (by injection e286)
           try replace hx286_0 := qC HB.out hx286_0
           try replace hx286_1 := qC HB.out hx286_1
           replace p286 := eq_true p286; replace q286 := eq_true q286; have hcz32_0 : wr.cell? ⟨gb277, 0, none⟩ = some (.slice A0_0 l0_0.length c0_0) := (N' BK277.out 0).trans rfl; have hcz32_1 : wr.cell? ⟨gb277, 1, none⟩ = some (.slice A0_1 l0_1.length c0_1) := (N' BK277.out 1).trans rfl; have hfz32_0 := Y' BK277.out 0; have hfz32_1 := Y' BK277.out 1; go_wp2
           repeat (go_quiet (fail); try go_wp2)
           go_loopg [10, 11, 52] k2 (fun kq v10 v11 v52 w' => ∃ (x10_3 : Int) (x11_3 : Int) (x52_3 : Int), v10 = .int .i64 x10_3 ∧ v11 = .int .i64 x11_3 ∧ v52 = .int .i64 x52_3 ∧ Aside0 (impl_IsBalanced.l1 kq l1 (rd t281 x29_2) x10_3 x11_3 t281 (t281.length : Int) x29_2 l0_1 (l0_1.length : Int) x52_3 l0_0 l0_1 l2_0 a2_1 = some (r1, r2)) ∧ Aside0 (kq ≤ k2) ∧ Aside0 (Kd.R (Kd.int .i64) 2 w' w.heap.size (fun _ => True) (.slice (some ad284) t281.length co24) t281) ∧ Aside0 (w'.heap[gb277]? = some (.cells #[(.slice A0_0 l0_0.length c0_0), (.slice A0_1 l0_1.length c0_1)] 39 (0, 0))) ∧ Aside0 (w'.heap[gb278]? = some (.cells #[(.slice A2_0 l2_0.length c2_0), .int .i64 a2_1] 27 (0, 0))) ∧ Aside0 (Below w.heap.size w w'))
           case atStart => exact ⟨(wrap64 (((rd_T97 l1 (rd t281 x29_2)).f0) * a2_1)), (wrap64 (((rd_T97 l1 (rd t281 x29_2)).f1) * a2_1)), (0), qS, qS, qS, H', ⟨Nat.le_refl _⟩, ⟨qR HO_27.out⟩, ⟨qB BK277.out⟩, ⟨qB BK278.out⟩, ⟨qK2 HB.out GE277.out GE278.out⟩⟩
           case round =>
            clear H'; try clear c1
            try clear c2
            try clear p2
            try clear q2
            try clear hx2
            try clear c3
            try clear c5
            try clear p6
            try clear c8
            try clear c10
            try clear c16
            try clear c19
            try clear c21
            try clear c25
            try clear c25b0
            try clear c26
            try clear c26b0
            try clear c27
            try clear c27b0
            try clear c28
            try clear c28b0
            try clear p28
            try clear q28
            try clear hx28
            try clear c29
            try clear c29b0
            try clear c30
            try clear hcz11_0
            try clear hcz11_1
            try clear hcz13_0
            try clear hcz13_1
            try clear hcz14_0
            try clear hcz14_1
            try clear hcz17_0
            try clear hcz17_1
            try clear hcz22_0
            try clear hcz22_1
            try clear hcz31_0
            try clear hcz31_1
            try clear hcz32_0
            try clear hcz32_1
            try clear hfz11_0
            try clear hfz11_1
            try clear hfz13_0
            try clear hfz13_1
            try clear hfz14_0
            try clear hfz14_1
            try clear hfz17_0
            try clear hfz17_1
            try clear hfz22_0
            try clear hfz22_1
            try clear hfz31_0
            try clear hfz31_1
            try clear hfz32_0
            try clear hfz32_1
            try clear hx284_0
            try clear hx285_0
            try clear hx285_1
            try clear hx286_0
            try clear hx286_1
            try clear p2
            try clear p284
            try clear p285
            try clear p286
            try clear q284
            try clear q285
            try clear q286
            obtain ⟨x10_3, x11_3, x52_3, rfl, rfl, rfl, HA, HK3, HO_27, BK277, BK278, HB⟩ := hrel
            cases gk with
            | zero => exact absurd HA.out (by simp [impl_IsBalanced.l1])
            | succ k3 =>
             have H := HA.out; clear HA; simp only [impl_IsBalanced.l1] at H
             by_cases c33 : x52_3 < (l0_1.length : Int)
             ·rw [if_pos c33] at H; have c33b0 : decide (x52_3 < (l0_1.length : Int)) = true := dT' c33; clear c33
              by_cases c34 : 0 ≤ x52_3
              ·rw [if_pos c34] at H; have c34b0 : decide (0 ≤ x52_3) = true := dT' c34; clear c34
               by_cases c35 : x52_3 < (l0_1.length : Int)
               ·rw [if_pos c35] at H; have c35b0 : decide (x52_3 < (l0_1.length : Int)) = true := dT' c35; clear c35; replace H := Option.bind_eq_some_iff.mp H; obtain ⟨⟨t289, t290⟩, A360, H⟩ := H; replace H : (if x52_3 < (l2_0.length : Int) then (impl_IsBalanced.l1 k3 l1 (rd t281 x29_2) (wrap64 (x10_3 + (wrap64 ((rd l2_0 x52_3) * t289)))) (wrap64 (x11_3 + (wrap64 ((rd l2_0 x52_3) * t290)))) t281 (t281.length : Int) x29_2 l0_1 (l0_1.length : Int) (wrap64 (x52_3 + 1)) l0_0 l0_1 l2_0 a2_1) else (none)) = some (r1, r2) := H; have A36 := A' A360; clear A360
                by_cases c37 : x52_3 < (l2_0.length : Int)
                ·rw [if_pos c37] at H; have c37b0 : decide (x52_3 < (l2_0.length : Int)) = true := dT' c37; clear c37; have H' := A' H; clear H; have p287 : 0 ≤ (x52_3 : Int) := oD' qA; have q287 : x52_3 < (l0_1.length : Int) := oD' qA; obtain ⟨ad287, e287, hx287_0, hx287_1, hx287_2⟩ := at_T84 HR0_1.out x52_3 p287 q287
                 cases e287
                 try replace hx287_0 := qC HB.out hx287_0
                 try replace hx287_1 := qC HB.out hx287_1
                 try replace hx287_2 := qC HB.out hx287_2
                 replace p287 := eq_true p287; replace q287 := eq_true q287; go_wp2_with (first | ((with_reducible refine gate_dst (N := 13) rfl ?_); refine box_event ?hg (N := 13) ?hd (cs := #[.int .i64 0, .int .i64 0, .bool false]) (t := 84) ?hr ?_; (case hd => rfl); (case hg => rfl); (case hr => first | (go_simp; done) | (go_simp; rfl)); intro gb288 hg w38 hbox hb; have n0_ := A' (L' (qR HO_27.out) hb); have n1_ := A' (O' (g := gb277) (qB BK277.out) hb); have n2_ := A' (O' (g := gb278) (qB BK278.out) hb); have n3_ := A' (W' (qK2 HB.out GE277.out GE278.out) hb); have n4_ := A' (hbox); have n5_ := A' ((by rw [hg]; exact (V' (qK2 HB.out GE277.out GE278.out)) : w.heap.size ≤ gb288)); have n6_ := A' ((by rw [hg]; exact (V' (qK2 HB.out GE277.out GE278.out)) : w.heap.size ≤ gb288)); have n7_ := A' ((by rw [hg]; exact Nat.ne_of_lt (bL' (g := gb277) (qB BK277.out)) : gb277 ≠ gb288)); have n8_ := A' ((by rw [hg]; exact Nat.ne_of_gt (bL' (g := gb277) (qB BK277.out)) : gb288 ≠ gb277)); have n9_ := A' ((by rw [hg]; exact Nat.ne_of_lt (bL' (g := gb278) (qB BK278.out)) : gb278 ≠ gb288)); have n10_ := A' ((by rw [hg]; exact Nat.ne_of_gt (bL' (g := gb278) (qB BK278.out)) : gb288 ≠ gb278)); clear HO_27; clear BK277; clear BK278; clear HB; have HO_27 := n0_; have BK277 := n1_; have BK278 := n2_; have HB := n3_; have BK288 := n4_; have GW288 := n5_; have GE288 := n6_; have NB277_288 := n7_; have NB288_277 := n8_; have NB278_288 := n9_; have NB288_278 := n10_; clear n0_ n1_ n2_ n3_ n4_ n5_ n6_ n7_ n8_ n9_ n10_; clear hb hbox hg; have hnb39 := NB288_277.out; have hnc39 := NB277_288.out; have hnb40 := NB288_278.out; have hnc40 := NB278_288.out; have hcz41_0 : w38.cell? ⟨gb288, 0, none⟩ = some (.int .i64 0) := (N' BK288.out 0).trans rfl; have hcz41_1 : w38.cell? ⟨gb288, 1, none⟩ = some (.int .i64 0) := (N' BK288.out 1).trans rfl; have hcz41_2 : w38.cell? ⟨gb288, 2, none⟩ = some (.bool false) := (N' BK288.out 2).trans rfl; have hfz41_0 := Y' BK288.out 0; have hfz41_1 := Y' BK288.out 1; have hfz41_2 := Y' BK288.out 2; have hnb42 := NB277_278.out; have hnc42 := NB278_277.out; have hcz43_0 : w38.cell? ⟨gb277, 0, none⟩ = some (.slice A0_0 l0_0.length c0_0) := (N' BK277.out 0).trans rfl; have hcz43_1 : w38.cell? ⟨gb277, 1, none⟩ = some (.slice (some ad287) l0_1.length c0_1) := (N' BK277.out 1).trans rfl; have hfz43_0 := Y' BK277.out 0; have hfz43_1 := Y' BK277.out 1) | (go_at_call 86; (with_reducible refine (impl_pullOf.calls _ _ l0_0 _ _ l0_1 ((rd_T84 l0_1 x52_3).f0) ((rd_T84 l0_1 x52_3).f1) ((rd_T84 l0_1 x52_3).f2) (rd t281 x29_2) t289 t290 _ ?side1 ?side2 ?side3 ?side4 A36.out).mono ?_); (case side1 => exact X' HR0_0.out (qK3 HB.out GE277.out GE278.out GE288.out)); (case side2 => exact HC0_0.out); (case side3 => exact X' HR0_1.out (qK3 HB.out GE277.out GE278.out GE288.out)); (case side4 => exact HC0_1.out); rintro e w44 ⟨rfl, hb⟩; have n0_ := A' (L' (by (with_reducible repeat (first | apply B' | apply C' | apply D')); exact (Q' (M' (p := ⟨gb288, 2, none⟩) (M' (p := ⟨gb288, 1, none⟩) (M' (p := ⟨gb288, 0, none⟩) (P' HO_27.out BK288.out (by decide)) (fun _ hk => hk.2) (.int .i64 ((rd_T84 l0_1 x52_3).f0))) (fun _ hk => hk.2) (.int .i64 ((rd_T84 l0_1 x52_3).f1))) (fun _ hk => hk.2) (.bool ((rd_T84 l0_1 x52_3).f2))) (fun _ h_ => h_.1))) hb); have n1_ := A' (O' (g := gb277) (o := .cells #[.slice A0_0 l0_0.length c0_0, .slice (some ad287) l0_1.length c0_1] 39 (0, 0)) (qG3 BK277.out NB277_288.out NB277_288.out NB277_288.out) hb); have n2_ := A' (O' (g := gb278) (o := .cells #[.slice A2_0 l2_0.length c2_0, .int .i64 a2_1] 27 (0, 0)) (qG3 BK278.out NB278_288.out NB278_288.out NB278_288.out) hb); have n3_ := A' (O' (g := gb288) (o := .cells #[.int .i64 ((rd_T84 l0_1 x52_3).f0), .int .i64 ((rd_T84 l0_1 x52_3).f1), .bool ((rd_T84 l0_1 x52_3).f2)] 84 (0, 0)) (by (with_reducible repeat (first | refine G' ?_ _ | refine I' ?_ | refine H' ?_ _)); refine blk_put (cs := #[.int .i64 ((rd_T84 l0_1 x52_3).f0), .int .i64 ((rd_T84 l0_1 x52_3).f1), .bool false]) ?_ 2 _ rfl; (with_reducible repeat (first | refine G' ?_ _ | refine I' ?_ | refine H' ?_ _)); refine blk_put (cs := #[.int .i64 ((rd_T84 l0_1 x52_3).f0), .int .i64 0, .bool false]) ?_ 1 _ rfl; (with_reducible repeat (first | refine G' ?_ _ | refine I' ?_ | refine H' ?_ _)); refine blk_put (cs := #[.int .i64 0, .int .i64 0, .bool false]) ?_ 0 _ rfl; (with_reducible repeat (first | refine G' ?_ _ | refine I' ?_ | refine H' ?_ _)); exact BK288.out) hb); have n4_ := A' (W' (qK3 HB.out GE277.out GE278.out GE288.out) hb); clear HO_27; clear BK277; clear BK278; clear BK288; clear HB; have HO_27 := n0_; have BK277 := n1_; have BK278 := n2_; have BK288 := n3_; have HB := n4_; clear n0_ n1_ n2_ n3_ n4_; (try clear hb); (try clear hb2); (try clear hk); (try clear hi); have hcz45_0 : w44.cell? ⟨gb278, 0, none⟩ = some (.slice A2_0 l2_0.length c2_0) := (N' BK278.out 0).trans rfl; have hcz45_1 : w44.cell? ⟨gb278, 1, none⟩ = some (.int .i64 a2_1) := (N' BK278.out 1).trans rfl; have hfz45_0 := Y' BK278.out 0; have hfz45_1 := Y' BK278.out 1; have p291 : 0 ≤ (x52_3 : Int) := oD' qA; have q291 : x52_3 < (l2_0.length : Int) := oD' qA; obtain ⟨ad291, e291, hx291_0⟩ := Kd.at_int HR2_0.out x52_3 p291 q291; cases e291; try replace hx291_0 := qC HB.out hx291_0; replace p291 := eq_true p291; replace q291 := eq_true q291; have p292 : 0 ≤ (x52_3 : Int) := oD' qA; have q292 : x52_3 < (l2_0.length : Int) := oD' qA; obtain ⟨ad292, e292, hx292_0⟩ := Kd.at_int HR2_0.out x52_3 p292 q292; obtain rfl : ad291 = ad292 := (by injection e292); try replace hx292_0 := qC HB.out hx292_0; replace p292 := eq_true p292; replace q292 := eq_true q292))
                 repeat (go_quiet (first | ((with_reducible refine gate_dst (N := 13) rfl ?_); refine box_event ?hg (N := 13) ?hd (cs := #[.int .i64 0, .int .i64 0, .bool false]) (t := 84) ?hr ?_; (case hd => rfl); (case hg => rfl); (case hr => first | (go_simp; done) | (go_simp; rfl)); intro gb288 hg w38 hbox hb; have n0_ := A' (L' (qR HO_27.out) hb); have n1_ := A' (O' (g := gb277) (qB BK277.out) hb); have n2_ := A' (O' (g := gb278) (qB BK278.out) hb); have n3_ := A' (W' (qK2 HB.out GE277.out GE278.out) hb); have n4_ := A' (hbox); have n5_ := A' ((by rw [hg]; exact (V' (qK2 HB.out GE277.out GE278.out)) : w.heap.size ≤ gb288)); have n6_ := A' ((by rw [hg]; exact (V' (qK2 HB.out GE277.out GE278.out)) : w.heap.size ≤ gb288)); have n7_ := A' ((by rw [hg]; exact Nat.ne_of_lt (bL' (g := gb277) (qB BK277.out)) : gb277 ≠ gb288)); have n8_ := A' ((by rw [hg]; exact Nat.ne_of_gt (bL' (g := gb277) (qB BK277.out)) : gb288 ≠ gb277)); have n9_ := A' ((by rw [hg]; exact Nat.ne_of_lt (bL' (g := gb278) (qB BK278.out)) : gb278 ≠ gb288)); have n10_ := A' ((by rw [hg]; exact Nat.ne_of_gt (bL' (g := gb278) (qB BK278.out)) : gb288 ≠ gb278)); clear HO_27; clear BK277; clear BK278; clear HB; have HO_27 := n0_; have BK277 := n1_; have BK278 := n2_; have HB := n3_; have BK288 := n4_; have GW288 := n5_; have GE288 := n6_; have NB277_288 := n7_; have NB288_277 := n8_; have NB278_288 := n9_; have NB288_278 := n10_; clear n0_ n1_ n2_ n3_ n4_ n5_ n6_ n7_ n8_ n9_ n10_; clear hb hbox hg; have hnb39 := NB288_277.out; have hnc39 := NB277_288.out; have hnb40 := NB288_278.out; have hnc40 := NB278_288.out; have hcz41_0 : w38.cell? ⟨gb288, 0, none⟩ = some (.int .i64 0) := (N' BK288.out 0).trans rfl; have hcz41_1 : w38.cell? ⟨gb288, 1, none⟩ = some (.int .i64 0) := (N' BK288.out 1).trans rfl; have hcz41_2 : w38.cell? ⟨gb288, 2, none⟩ = some (.bool false) := (N' BK288.out 2).trans rfl; have hfz41_0 := Y' BK288.out 0; have hfz41_1 := Y' BK288.out 1; have hfz41_2 := Y' BK288.out 2; have hnb42 := NB277_278.out; have hnc42 := NB278_277.out; have hcz43_0 : w38.cell? ⟨gb277, 0, none⟩ = some (.slice A0_0 l0_0.length c0_0) := (N' BK277.out 0).trans rfl; have hcz43_1 : w38.cell? ⟨gb277, 1, none⟩ = some (.slice (some ad287) l0_1.length c0_1) := (N' BK277.out 1).trans rfl; have hfz43_0 := Y' BK277.out 0; have hfz43_1 := Y' BK277.out 1) | (go_at_call 86; (with_reducible refine (impl_pullOf.calls _ _ l0_0 _ _ l0_1 ((rd_T84 l0_1 x52_3).f0) ((rd_T84 l0_1 x52_3).f1) ((rd_T84 l0_1 x52_3).f2) (rd t281 x29_2) t289 t290 _ ?side1 ?side2 ?side3 ?side4 A36.out).mono ?_); (case side1 => exact X' HR0_0.out (qK3 HB.out GE277.out GE278.out GE288.out)); (case side2 => exact HC0_0.out); (case side3 => exact X' HR0_1.out (qK3 HB.out GE277.out GE278.out GE288.out)); (case side4 => exact HC0_1.out); rintro e w44 ⟨rfl, hb⟩; have n0_ := A' (L' (by (with_reducible repeat (first | apply B' | apply C' | apply D')); exact (Q' (M' (p := ⟨gb288, 2, none⟩) (M' (p := ⟨gb288, 1, none⟩) (M' (p := ⟨gb288, 0, none⟩) (P' HO_27.out BK288.out (by decide)) (fun _ hk => hk.2) (.int .i64 ((rd_T84 l0_1 x52_3).f0))) (fun _ hk => hk.2) (.int .i64 ((rd_T84 l0_1 x52_3).f1))) (fun _ hk => hk.2) (.bool ((rd_T84 l0_1 x52_3).f2))) (fun _ h_ => h_.1))) hb); have n1_ := A' (O' (g := gb277) (o := .cells #[.slice A0_0 l0_0.length c0_0, .slice (some ad287) l0_1.length c0_1] 39 (0, 0)) (qG3 BK277.out NB277_288.out NB277_288.out NB277_288.out) hb); have n2_ := A' (O' (g := gb278) (o := .cells #[.slice A2_0 l2_0.length c2_0, .int .i64 a2_1] 27 (0, 0)) (qG3 BK278.out NB278_288.out NB278_288.out NB278_288.out) hb); have n3_ := A' (O' (g := gb288) (o := .cells #[.int .i64 ((rd_T84 l0_1 x52_3).f0), .int .i64 ((rd_T84 l0_1 x52_3).f1), .bool ((rd_T84 l0_1 x52_3).f2)] 84 (0, 0)) (by (with_reducible repeat (first | refine G' ?_ _ | refine I' ?_ | refine H' ?_ _)); refine blk_put (cs := #[.int .i64 ((rd_T84 l0_1 x52_3).f0), .int .i64 ((rd_T84 l0_1 x52_3).f1), .bool false]) ?_ 2 _ rfl; (with_reducible repeat (first | refine G' ?_ _ | refine I' ?_ | refine H' ?_ _)); refine blk_put (cs := #[.int .i64 ((rd_T84 l0_1 x52_3).f0), .int .i64 0, .bool false]) ?_ 1 _ rfl; (with_reducible repeat (first | refine G' ?_ _ | refine I' ?_ | refine H' ?_ _)); refine blk_put (cs := #[.int .i64 0, .int .i64 0, .bool false]) ?_ 0 _ rfl; (with_reducible repeat (first | refine G' ?_ _ | refine I' ?_ | refine H' ?_ _)); exact BK288.out) hb); have n4_ := A' (W' (qK3 HB.out GE277.out GE278.out GE288.out) hb); clear HO_27; clear BK277; clear BK278; clear BK288; clear HB; have HO_27 := n0_; have BK277 := n1_; have BK278 := n2_; have BK288 := n3_; have HB := n4_; clear n0_ n1_ n2_ n3_ n4_; (try clear hb); (try clear hb2); (try clear hk); (try clear hi); have hcz45_0 : w44.cell? ⟨gb278, 0, none⟩ = some (.slice A2_0 l2_0.length c2_0) := (N' BK278.out 0).trans rfl; have hcz45_1 : w44.cell? ⟨gb278, 1, none⟩ = some (.int .i64 a2_1) := (N' BK278.out 1).trans rfl; have hfz45_0 := Y' BK278.out 0; have hfz45_1 := Y' BK278.out 1; have p291 : 0 ≤ (x52_3 : Int) := oD' qA; have q291 : x52_3 < (l2_0.length : Int) := oD' qA; obtain ⟨ad291, e291, hx291_0⟩ := Kd.at_int HR2_0.out x52_3 p291 q291; cases e291; try replace hx291_0 := qC HB.out hx291_0; replace p291 := eq_true p291; replace q291 := eq_true q291; have p292 : 0 ≤ (x52_3 : Int) := oD' qA; have q292 : x52_3 < (l2_0.length : Int) := oD' qA; obtain ⟨ad292, e292, hx292_0⟩ := Kd.at_int HR2_0.out x52_3 p292 q292; obtain rfl : ad291 = ad292 := (by injection e292); try replace hx292_0 := qC HB.out hx292_0; replace p292 := eq_true p292; replace q292 := eq_true q292)); try go_wp2_with (first | ((with_reducible refine gate_dst (N := 13) rfl ?_); refine box_event ?hg (N := 13) ?hd (cs := #[.int .i64 0, .int .i64 0, .bool false]) (t := 84) ?hr ?_; (case hd => rfl); (case hg => rfl); (case hr => first | (go_simp; done) | (go_simp; rfl)); intro gb288 hg w38 hbox hb; have n0_ := A' (L' (qR HO_27.out) hb); have n1_ := A' (O' (g := gb277) (qB BK277.out) hb); have n2_ := A' (O' (g := gb278) (qB BK278.out) hb); have n3_ := A' (W' (qK2 HB.out GE277.out GE278.out) hb); have n4_ := A' (hbox); have n5_ := A' ((by rw [hg]; exact (V' (qK2 HB.out GE277.out GE278.out)) : w.heap.size ≤ gb288)); have n6_ := A' ((by rw [hg]; exact (V' (qK2 HB.out GE277.out GE278.out)) : w.heap.size ≤ gb288)); have n7_ := A' ((by rw [hg]; exact Nat.ne_of_lt (bL' (g := gb277) (qB BK277.out)) : gb277 ≠ gb288)); have n8_ := A' ((by rw [hg]; exact Nat.ne_of_gt (bL' (g := gb277) (qB BK277.out)) : gb288 ≠ gb277)); have n9_ := A' ((by rw [hg]; exact Nat.ne_of_lt (bL' (g := gb278) (qB BK278.out)) : gb278 ≠ gb288)); have n10_ := A' ((by rw [hg]; exact Nat.ne_of_gt (bL' (g := gb278) (qB BK278.out)) : gb288 ≠ gb278)); clear HO_27; clear BK277; clear BK278; clear HB; have HO_27 := n0_; have BK277 := n1_; have BK278 := n2_; have HB := n3_; have BK288 := n4_; have GW288 := n5_; have GE288 := n6_; have NB277_288 := n7_; have NB288_277 := n8_; have NB278_288 := n9_; have NB288_278 := n10_; clear n0_ n1_ n2_ n3_ n4_ n5_ n6_ n7_ n8_ n9_ n10_; clear hb hbox hg; have hnb39 := NB288_277.out; have hnc39 := NB277_288.out; have hnb40 := NB288_278.out; have hnc40 := NB278_288.out; have hcz41_0 : w38.cell? ⟨gb288, 0, none⟩ = some (.int .i64 0) := (N' BK288.out 0).trans rfl; have hcz41_1 : w38.cell? ⟨gb288, 1, none⟩ = some (.int .i64 0) := (N' BK288.out 1).trans rfl; have hcz41_2 : w38.cell? ⟨gb288, 2, none⟩ = some (.bool false) := (N' BK288.out 2).trans rfl; have hfz41_0 := Y' BK288.out 0; have hfz41_1 := Y' BK288.out 1; have hfz41_2 := Y' BK288.out 2; have hnb42 := NB277_278.out; have hnc42 := NB278_277.out; have hcz43_0 : w38.cell? ⟨gb277, 0, none⟩ = some (.slice A0_0 l0_0.length c0_0) := (N' BK277.out 0).trans rfl; have hcz43_1 : w38.cell? ⟨gb277, 1, none⟩ = some (.slice (some ad287) l0_1.length c0_1) := (N' BK277.out 1).trans rfl; have hfz43_0 := Y' BK277.out 0; have hfz43_1 := Y' BK277.out 1) | (go_at_call 86; (with_reducible refine (impl_pullOf.calls _ _ l0_0 _ _ l0_1 ((rd_T84 l0_1 x52_3).f0) ((rd_T84 l0_1 x52_3).f1) ((rd_T84 l0_1 x52_3).f2) (rd t281 x29_2) t289 t290 _ ?side1 ?side2 ?side3 ?side4 A36.out).mono ?_); (case side1 => exact X' HR0_0.out (qK3 HB.out GE277.out GE278.out GE288.out)); (case side2 => exact HC0_0.out); (case side3 => exact X' HR0_1.out (qK3 HB.out GE277.out GE278.out GE288.out)); (case side4 => exact HC0_1.out); rintro e w44 ⟨rfl, hb⟩; have n0_ := A' (L' (by (with_reducible repeat (first | apply B' | apply C' | apply D')); exact (Q' (M' (p := ⟨gb288, 2, none⟩) (M' (p := ⟨gb288, 1, none⟩) (M' (p := ⟨gb288, 0, none⟩) (P' HO_27.out BK288.out (by decide)) (fun _ hk => hk.2) (.int .i64 ((rd_T84 l0_1 x52_3).f0))) (fun _ hk => hk.2) (.int .i64 ((rd_T84 l0_1 x52_3).f1))) (fun _ hk => hk.2) (.bool ((rd_T84 l0_1 x52_3).f2))) (fun _ h_ => h_.1))) hb); have n1_ := A' (O' (g := gb277) (o := .cells #[.slice A0_0 l0_0.length c0_0, .slice (some ad287) l0_1.length c0_1] 39 (0, 0)) (qG3 BK277.out NB277_288.out NB277_288.out NB277_288.out) hb); have n2_ := A' (O' (g := gb278) (o := .cells #[.slice A2_0 l2_0.length c2_0, .int .i64 a2_1] 27 (0, 0)) (qG3 BK278.out NB278_288.out NB278_288.out NB278_288.out) hb); have n3_ := A' (O' (g := gb288) (o := .cells #[.int .i64 ((rd_T84 l0_1 x52_3).f0), .int .i64 ((rd_T84 l0_1 x52_3).f1), .bool ((rd_T84 l0_1 x52_3).f2)] 84 (0, 0)) (by (with_reducible repeat (first | refine G' ?_ _ | refine I' ?_ | refine H' ?_ _)); refine blk_put (cs := #[.int .i64 ((rd_T84 l0_1 x52_3).f0), .int .i64 ((rd_T84 l0_1 x52_3).f1), .bool false]) ?_ 2 _ rfl; (with_reducible repeat (first | refine G' ?_ _ | refine I' ?_ | refine H' ?_ _)); refine blk_put (cs := #[.int .i64 ((rd_T84 l0_1 x52_3).f0), .int .i64 0, .bool false]) ?_ 1 _ rfl; (with_reducible repeat (first | refine G' ?_ _ | refine I' ?_ | refine H' ?_ _)); refine blk_put (cs := #[.int .i64 0, .int .i64 0, .bool false]) ?_ 0 _ rfl; (with_reducible repeat (first | refine G' ?_ _ | refine I' ?_ | refine H' ?_ _)); exact BK288.out) hb); have n4_ := A' (W' (qK3 HB.out GE277.out GE278.out GE288.out) hb); clear HO_27; clear BK277; clear BK278; clear BK288; clear HB; have HO_27 := n0_; have BK277 := n1_; have BK278 := n2_; have BK288 := n3_; have HB := n4_; clear n0_ n1_ n2_ n3_ n4_; (try clear hb); (try clear hb2); (try clear hk); (try clear hi); have hcz45_0 : w44.cell? ⟨gb278, 0, none⟩ = some (.slice A2_0 l2_0.length c2_0) := (N' BK278.out 0).trans rfl; have hcz45_1 : w44.cell? ⟨gb278, 1, none⟩ = some (.int .i64 a2_1) := (N' BK278.out 1).trans rfl; have hfz45_0 := Y' BK278.out 0; have hfz45_1 := Y' BK278.out 1; have p291 : 0 ≤ (x52_3 : Int) := oD' qA; have q291 : x52_3 < (l2_0.length : Int) := oD' qA; obtain ⟨ad291, e291, hx291_0⟩ := Kd.at_int HR2_0.out x52_3 p291 q291; cases e291; try replace hx291_0 := qC HB.out hx291_0; replace p291 := eq_true p291; replace q291 := eq_true q291; have p292 : 0 ≤ (x52_3 : Int) := oD' qA; have q292 : x52_3 < (l2_0.length : Int) := oD' qA; obtain ⟨ad292, e292, hx292_0⟩ := Kd.at_int HR2_0.out x52_3 p292 q292; obtain rfl : ad291 = ad292 := (by injection e292); try replace hx292_0 := qC HB.out hx292_0; replace p292 := eq_true p292; replace q292 := eq_true q292)))
                 go_roundg k3
                 case measure => have := HJ3.out; have := HK2.out; have := HK3.out; omega
                 case rel => exact ⟨(wrap64 (x10_3 + (wrap64 ((rd l2_0 x52_3) * t289)))), (wrap64 (x11_3 + (wrap64 ((rd l2_0 x52_3) * t290)))), (wrap64 (x52_3 + 1)), qS, qS, qS, H', ⟨by have := HJ3.out; have := HK2.out; have := HK3.out; omega⟩, ⟨qR HO_27.out⟩, ⟨qB BK277.out⟩, ⟨qB BK278.out⟩, ⟨qK3 HB.out GE277.out GE278.out GE288.out⟩⟩
                ·rw [if_neg c37] at H; exact absurd H (by simp)
               ·rw [if_neg c35] at H; exact absurd H (by simp)
              ·rw [if_neg c34] at H; exact absurd H (by simp)
             ·rw [if_neg c33] at H; have c33b0 : decide (x52_3 < (l0_1.length : Int)) = false := dF' c33; clear c33
              by_cases c46 : x10_3 = 0
              ·rw [if_pos c46] at H; have c46b0 : (x10_3 == 0) = true := beq_iff_eq.mpr c46; have c46b1 : (x10_3 != 0) = false := bne_eq_false_iff_eq.mpr c46; clear c46
               by_cases c47 : x11_3 = 0
               ·rw [if_pos c47] at H; have c47b0 : (x11_3 == 0) = true := beq_iff_eq.mpr c47; have c47b1 : (x11_3 != 0) = false := bne_eq_false_iff_eq.mpr c47; clear c47; have H' := A' H; clear H; go_wp2
                repeat (go_quiet (fail); try go_wp2)
                go_roundg k3
                case measure => have := HJ3.out; have := HK2.out; have := HK3.out; omega
                case rel => exact ⟨(wrap64 (x29_2 + 1)), qS, H', ⟨by have := HJ3.out; have := HK2.out; have := HK3.out; omega⟩, ⟨qR HO_27.out⟩, ⟨qB BK277.out⟩, ⟨qB BK278.out⟩, ⟨qK2 HB.out GE277.out GE278.out⟩⟩
               ·rw [if_neg c47] at H; have c47b0 : (x11_3 == 0) = false := beq_eq_false_iff_ne.mpr c47; have c47b1 : (x11_3 != 0) = true := bne_iff_ne.mpr c47; simp only [Option.some.injEq, Prod.mk.injEq] at H; obtain ⟨rfl, rfl⟩ := H; go_wp2
                repeat (go_quiet (fail); try go_wp2)
                go_ret2; exact ⟨qE, qK2 HB.out GE277.out GE278.out⟩
              ·rw [if_neg c46] at H; have c46b0 : (x10_3 == 0) = false := beq_eq_false_iff_ne.mpr c46; have c46b1 : (x10_3 != 0) = true := bne_iff_ne.mpr c46; simp only [Option.some.injEq, Prod.mk.injEq] at H; obtain ⟨rfl, rfl⟩ := H; go_wp2
               repeat (go_quiet (fail); try go_wp2)
               go_ret2; exact ⟨qE, qK2 HB.out GE277.out GE278.out⟩
          ·rw [if_neg c29] at H; exact absurd H (by simp)
         ·rw [if_neg c28] at H; exact absurd H (by simp)
        ·rw [if_neg c27] at H; exact absurd H (by simp)
       ·rw [if_neg c26] at H; exact absurd H (by simp)
      ·rw [if_neg c25] at H; have c25b0 : decide (x29_2 < (t281.length : Int)) = false := dF' c25; clear c25; simp only [Option.some.injEq, Prod.mk.injEq] at H; obtain ⟨rfl, rfl⟩ := H; go_wp2
       repeat (go_quiet (fail); try go_wp2)
       go_ret2; exact ⟨qE, qK2 HB.out GE277.out GE278.out⟩

end Go.Proofs.Ytacijlpnpkhjaaa.HBal
