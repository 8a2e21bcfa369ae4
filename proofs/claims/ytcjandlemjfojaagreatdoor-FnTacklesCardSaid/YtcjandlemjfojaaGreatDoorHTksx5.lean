-- Written by a program for this claim (the functions that the statement reaches, and that the program's code comes to them).
import Derived.Test.YtcjandlemjfojaaGreatDoorHTksx0
import Derived.Test.YtcjandlemjfojaaGreatDoorHTksx2
import Derived.Test.YtcjandlemjfojaaGreatDoorHTksx4
namespace Go.Proofs.YtcjandlemjfojaaGreatDoor.HTks
open Go.RowKit Go.Proofs.YtcjandlemjfojaaGreatDoorW.PrintWords Go.Proofs.YtcjandlemjfojaaGreatDoorW.PrintLast Go.Proofs.YtcjandlemjfojaaGreatDoorW.PrintMore
attribute [local go_sem] max2_int min2_int max_two min_two max_three min_three max_four min_four   -- for this text's walks alone
set_option linter.unusedVariables false
set_option linter.unusedSimpArgs false

/-! ### impl_TackleText: function 19 -/
def impl_TackleText.l0 : Nat → List ByteArray → List (S35) → Int → Int → Option (ByteArray)
 | 0, _, _, _, _ => none
 | k + 1, x3, x11, x12, x13 => if x13 < x12 then (if 0 ≤ x13 then (if x13 < (x11.length : Int) then (if (rd_T35 x11 x13).f2 = true then ((impl_Decimal.f ((rd_T35 x11 x13).f0)).bind fun t327 => (if t327.size + 1 ≤ 9223372036854775807 then ((impl_Decimal.f ((rd_T35 x11 x13).f1)).bind fun t328 => (if (t327 ++ (⟨#[62]⟩ : ByteArray)).size + t328.size ≤ 9223372036854775807 then (if x3.length < 8796093022208 then (impl_TackleText.l0 k (x3 ++ [(t327 ++ (⟨#[62]⟩ : ByteArray)) ++ t328]) x11 x12 (wrap64 (x13 + 1))) else (none)) else (none))) else (none))) else ((impl_Decimal.f ((rd_T35 x11 x13).f0)).bind fun t332 => (if t332.size + 1 ≤ 9223372036854775807 then ((impl_Decimal.f ((rd_T35 x11 x13).f1)).bind fun t333 => (if (t332 ++ (⟨#[60]⟩ : ByteArray)).size + t333.size ≤ 9223372036854775807 then (if x3.length < 8796093022208 then (impl_TackleText.l0 k (x3 ++ [(t332 ++ (⟨#[60]⟩ : ByteArray)) ++ t333]) x11 x12 (wrap64 (x13 + 1))) else (none)) else (none))) else (none)))) else (none)) else (none)) else ((strings_Join.f x3 (⟨#[32]⟩ : ByteArray)).bind fun t324 => (some t324))
def impl_TackleText.f (k : Nat) (l0 : List (S35)) : Option (ByteArray) := (impl_ValidTackle.f k l0).bind fun t320 => (if t320 = true then (impl_TackleText.l0 k (([] : List ByteArray)) l0 (l0.length : Int) 0) else (some (⟨#[]⟩ : ByteArray)))
theorem impl_TackleText.mono_l : ∀ k, (∀ y0 y1 y2 y3, LeO (impl_TackleText.l0 k y0 y1 y2 y3) (impl_TackleText.l0 (k + 1) y0 y1 y2 y3))
 | 0 => fun _ _ _ _ r h => by simp [impl_TackleText.l0] at h
 | k + 1 => by
  have ih0 := impl_TackleText.mono_l k
  ·intro y0 y1 y2 y3
   unfold impl_TackleText.l0
   repeat' first
   | (with_reducible exact ih0 _ _ _ _)
   | (with_reducible exact impl_ValidTackle.mono _ _)
   | (with_reducible exact LeO.refl _)
   | (with_reducible exact LeO.none _)
   | (with_reducible refine LeO.ite ?_ ?_)
   | (with_reducible refine LeO.bind ?_ (fun _ => ?_))
   | exact ih0 _ _ _ _
   | exact impl_ValidTackle.mono _ _
   | exact LeO.none _
   | refine LeO.ite ?_ ?_
   | refine LeO.bind ?_ (fun _ => ?_)
theorem impl_TackleText.mono : ∀ a0 k, LeO (impl_TackleText.f k a0) (impl_TackleText.f (k + 1) a0) := by
 intro a0 k
 have ih0 := impl_TackleText.mono_l k
 unfold impl_TackleText.f
 repeat' first
   | (with_reducible exact ih0 _ _ _ _)
   | (with_reducible exact impl_ValidTackle.mono _ _)
   | (with_reducible exact LeO.refl _)
   | (with_reducible exact LeO.none _)
   | (with_reducible refine LeO.ite ?_ ?_)
   | (with_reducible refine LeO.bind ?_ (fun _ => ?_))
   | exact ih0 _ _ _ _
   | exact impl_ValidTackle.mono _ _
   | exact LeO.none _
   | refine LeO.ite ?_ ?_
   | refine LeO.bind ?_ (fun _ => ?_)
def impl_TackleText.T10 : Bool × List (List Nat × List Nat) := (true, [([], []), ([], []), ([1], [1]), ([2], [2]), ([], []), ([3, 4], [3, 4]), ([], []), ([6], [6]), ([7, 3], [7]), ([5, 8], [5, 8]), ([9], [9]), ([0, 10, 8], [0, 10]), ([11, 11, 0, 1, 2, 3, 4, 5, 6, 7, 8, 9, 10, 11], [0, 11])])
def impl_TackleText.B10 : List Nat := [0, 0, 2, 6, 0, 30, 0, 64, 206, 510, 1022, 2047, 4095]
theorem impl_TackleText.tab10 : rtab .any (opsOf Tryz.f19 10) = impl_TackleText.T10 := by kernel_rfl
theorem impl_TackleText.bits10 : waitsOk impl_TackleText.T10.2 impl_TackleText.B10 = true := by kernel_rfl
def impl_TackleText.r_0 := rb 13 0
def impl_TackleText.r_1 := rb 13 1
def impl_TackleText.r_2 := rb 13 3
def impl_TackleText.r_3 := rb 13 19
def impl_TackleText.r_4 := rb 13 83
def impl_TackleText.r_5 := rb 13 87
def impl_TackleText.r_6 := rb 13 215
def impl_TackleText.r_7 := rb 13 223
def impl_TackleText.r_8 := rb 13 255
def impl_TackleText.r_9 := rb 13 511
def impl_TackleText.r_10 := rb 13 1023
def impl_TackleText.r_11 := rb 13 2047
def impl_TackleText.r_12 := rb 13 4095
def impl_TackleText.r_13 := rb 13 8191
set_option maxHeartbeats 8000000 in
set_option maxRecDepth 100000 in
theorem impl_TackleText.calls (k : Nat) (A0 : Option Addr) (c0 : Nat) (l0 : List (S35)) (r : ByteArray) (w : World) (hr0 : Kd.C k35 w A0 l0.length l0) (hc0 : l0.length ≤ c0) (h : impl_TackleText.f k l0 = some r) (hT : LwT w) :
  Calls Tryz.prog 19 #[.slice A0 l0.length c0] w fun e w' => e = .returned (.string r) ∧ Below w.heap.size w w' := by
 have HT := A' hT; clear hT; have hu35 := Tryz.underlying35; have HR0 := A' hr0; have HC0 := A' hc0; clear hr0 hc0; have HB := A' (Below.refl w.heap.size w); have H : ((impl_ValidTackle.f k l0).bind fun t320 => (if t320 = true then (impl_TackleText.l0 k (([] : List ByteArray)) l0 (l0.length : Int) 0) else (some (⟨#[]⟩ : ByteArray)))) = some r := h; clear h; replace H := Option.bind_eq_some_iff.mp H; obtain ⟨t320, A20, H⟩ := H; replace H : (if t320 = true then (impl_TackleText.l0 k (([] : List ByteArray)) l0 (l0.length : Int) 0) else (some (⟨#[]⟩ : ByteArray))) = some r := H; have A2 := A' A20; clear A20
 by_cases c3 : t320 = true
 ·subst c3; have H1 : (impl_TackleText.l0 k (([] : List ByteArray)) l0 (l0.length : Int) 0) = some r := by rw [if_pos rfl] at H; exact H
  clear H; have H := H1; clear H1; obtain ⟨y321, hy321⟩ : ∃ y_ : List ByteArray, y_ = (([] : List ByteArray)) := ⟨_, rfl⟩
  replace H : (impl_TackleText.l0 k y321 l0 (l0.length : Int) 0) = some r := by first | (rw [hy321]; with_reducible exact H) | (have H2_ := (Option.bind_some _ _).symm.trans H; rw [hy321]; with_reducible exact H2_) | (have H2_ := (Option.bind_some _ _).symm.trans H; with_reducible exact H2_) | with_reducible exact H | (rw [hy321]; exact H) | exact H
  have Ny321 := A' hy321; clear hy321; have H' := A' H; clear H; go_enter Tryz.func19, Tryz.ntmps19; go_wp2_with (first | ((with_reducible refine gate_callee (f := 28) rfl ?_); refine goesL_ (some 8) rfl rfl Tryz.func28 (by kernel_rfl) rfl #[.slice A0 l0.length c0] rfl (by (try simp only [List.map_toArray, List.map_cons, List.map_nil]); first | done | rfl | (simp only [List.length_drop, List.length_take]; rfl)) ?_; (with_reducible refine (impl_ValidTackle.calls k _ _ l0 true _ ?side1 ?side2 A2.out).mono ?_); (case side1 => exact qT HR0.out); (case side2 => exact HC0.out); rintro e w4 ⟨rfl, hb⟩; refine ⟨_, rfl, ?_⟩; have n0_ := A' (W' (qK0 HB.out) hb); clear HB; have HB := n0_; clear n0_; (try clear hb); (try clear hb2); (try clear hk); (try clear hi)) | ((with_reducible refine gate_dst (N := 10) rfl ?_); refine Kd.R_lit Kd.string _ 9 ?hg (N := 10) ?hd (xs := ([] : List ByteArray)) (inner := []) (ok := fun _ => True) (okp := fun _ => True) ?hr ?hp (fun _ hk => hk) trivial (Below.refl _ _) (Nat.le_refl _) (by simp) ?_; (case hd => rfl); (case hg => rfl); (case hr => first | (go_simp; done) | (go_simp; rfl)); (case hp => exact (Reps.none _ _)); intro v322 w5 ho6 hb hg_ hnew_; clear hg_ hnew_; (first | rw [← Ny321.out] at ho6 | (simp only [Int.reduceToNat] at ho6; rw [← Ny321.out] at ho6)); have n0_ := A' (Kd.R_lower ho6 (V' (qK0 HB.out))); have n1_ := A' (W' (qK0 HB.out) hb); clear HB; have HO323 := n0_; have HB := n1_; clear n0_ n1_; clear hb ho6))
  go_loopg [3, 13] k (fun kq v3 v13 w' => ∃ (x3_1 : List ByteArray) (x13_1 : Int), v13 = .int .i64 x13_1 ∧ Aside0 (impl_TackleText.l0 kq x3_1 l0 (l0.length : Int) x13_1 = some r) ∧ Aside0 (kq ≤ k) ∧ Aside0 (Kd.R Kd.string 9 w' w.heap.size (fun _ => True) v3 x3_1) ∧ Aside0 (Below w.heap.size w w'))
  case atStart => exact ⟨(y321), (0), qS, H', ⟨Nat.le_refl _⟩, ⟨qR HO323.out⟩, ⟨qK0 HB.out⟩⟩
  case round =>
   clear H'; try clear c1
   try clear c2
   try clear p2
   try clear c3
   obtain ⟨x3_1, x13_1, rfl, HA, HK1, HO_3, HB⟩ := hrel
   cases gk with
   | zero => exact absurd HA.out (by simp [impl_TackleText.l0])
   | succ k1 =>
    have H := HA.out; clear HA; simp only [impl_TackleText.l0] at H
    by_cases c7 : x13_1 < (l0.length : Int)
    ·rw [if_pos c7] at H; have c7b0 : decide (x13_1 < (l0.length : Int)) = true := dT' c7; clear c7
     by_cases c8 : 0 ≤ x13_1
     ·rw [if_pos c8] at H; have c8b0 : decide (0 ≤ x13_1) = true := dT' c8; clear c8
      by_cases c9 : x13_1 < (l0.length : Int)
      ·rw [if_pos c9] at H; have c9b0 : decide (x13_1 < (l0.length : Int)) = true := dT' c9; clear c9; obtain ⟨bq10, hbq10⟩ : ∃ b_ : Bool, b_ = ((rd_T35 l0 x13_1).f2) := ⟨_, rfl⟩
       replace H : (if bq10 = true then ((impl_Decimal.f ((rd_T35 l0 x13_1).f0)).bind fun t327 => (if t327.size + 1 ≤ 9223372036854775807 then ((impl_Decimal.f ((rd_T35 l0 x13_1).f1)).bind fun t328 => (if (t327 ++ (⟨#[62]⟩ : ByteArray)).size + t328.size ≤ 9223372036854775807 then (if x3_1.length < 8796093022208 then (impl_TackleText.l0 k1 (x3_1 ++ [(t327 ++ (⟨#[62]⟩ : ByteArray)) ++ t328]) l0 (l0.length : Int) (wrap64 (x13_1 + 1))) else (none)) else (none))) else (none))) else ((impl_Decimal.f ((rd_T35 l0 x13_1).f0)).bind fun t332 => (if t332.size + 1 ≤ 9223372036854775807 then ((impl_Decimal.f ((rd_T35 l0 x13_1).f1)).bind fun t333 => (if (t332 ++ (⟨#[60]⟩ : ByteArray)).size + t333.size ≤ 9223372036854775807 then (if x3_1.length < 8796093022208 then (impl_TackleText.l0 k1 (x3_1 ++ [(t332 ++ (⟨#[60]⟩ : ByteArray)) ++ t333]) l0 (l0.length : Int) (wrap64 (x13_1 + 1))) else (none)) else (none))) else (none)))) = some r := by rw [← hbq10] at H; exact H
       have Nbq10 := A' hbq10; clear hbq10
       by_cases c11 : bq10 = true
       ·subst c11; have H1 : ((impl_Decimal.f ((rd_T35 l0 x13_1).f0)).bind fun t327 => (if t327.size + 1 ≤ 9223372036854775807 then ((impl_Decimal.f ((rd_T35 l0 x13_1).f1)).bind fun t328 => (if (t327 ++ (⟨#[62]⟩ : ByteArray)).size + t328.size ≤ 9223372036854775807 then (if x3_1.length < 8796093022208 then (impl_TackleText.l0 k1 (x3_1 ++ [(t327 ++ (⟨#[62]⟩ : ByteArray)) ++ t328]) l0 (l0.length : Int) (wrap64 (x13_1 + 1))) else (none)) else (none))) else (none))) = some r := by rw [if_pos rfl] at H; exact H
        clear H; have H := H1; clear H1; replace H := Option.bind_eq_some_iff.mp H; obtain ⟨t327, A120, H⟩ := H; replace H : (if t327.size + 1 ≤ 9223372036854775807 then ((impl_Decimal.f ((rd_T35 l0 x13_1).f1)).bind fun t328 => (if (t327 ++ (⟨#[62]⟩ : ByteArray)).size + t328.size ≤ 9223372036854775807 then (if x3_1.length < 8796093022208 then (impl_TackleText.l0 k1 (x3_1 ++ [(t327 ++ (⟨#[62]⟩ : ByteArray)) ++ t328]) l0 (l0.length : Int) (wrap64 (x13_1 + 1))) else (none)) else (none))) else (none)) = some r := H; have A12 := A' A120; clear A120
        by_cases c13 : t327.size + 1 ≤ 9223372036854775807
        ·rw [if_pos c13] at H; have c13b0 := eq_true c13; have c13b1 : decide (t327.size + 1 ≤ 9223372036854775807) = true := dT' c13; try have c13b2 : (9223372036854775807 < t327.size + 1) = False := eq_false (Nat.not_lt.2 c13)
         replace H := Option.bind_eq_some_iff.mp H; obtain ⟨t328, A140, H⟩ := H; replace H : (if (t327 ++ (⟨#[62]⟩ : ByteArray)).size + t328.size ≤ 9223372036854775807 then (if x3_1.length < 8796093022208 then (impl_TackleText.l0 k1 (x3_1 ++ [(t327 ++ (⟨#[62]⟩ : ByteArray)) ++ t328]) l0 (l0.length : Int) (wrap64 (x13_1 + 1))) else (none)) else (none)) = some r := H; have A14 := A' A140; clear A140
         by_cases c15 : (t327 ++ (⟨#[62]⟩ : ByteArray)).size + t328.size ≤ 9223372036854775807
         ·rw [if_pos c15] at H; have c15b0 := eq_true c15; have c15b1 : decide ((t327 ++ (⟨#[62]⟩ : ByteArray)).size + t328.size ≤ 9223372036854775807) = true := dT' c15; try have c15b2 : (9223372036854775807 < (t327 ++ (⟨#[62]⟩ : ByteArray)).size + t328.size) = False := eq_false (Nat.not_lt.2 c15)
          try have c15b7 : (9223372036854775807 < t327.size + 1 + t328.size) = False := eq_false (Nat.not_lt.2 (by have h_ := c15; simp only [ByteArray.size_append] at h_; exact h_))
          by_cases c16 : x3_1.length < 8796093022208
          ·rw [if_pos c16] at H; have LMc16 := A' c16; clear c16; obtain ⟨y329, hy329⟩ : ∃ y_ : List ByteArray, y_ = (x3_1 ++ [(t327 ++ (⟨#[62]⟩ : ByteArray)) ++ t328]) := ⟨_, rfl⟩
           replace H : (impl_TackleText.l0 k1 y329 l0 (l0.length : Int) (wrap64 (x13_1 + 1))) = some r := by first | (rw [hy329]; with_reducible exact H) | (have H2_ := (Option.bind_some _ _).symm.trans H; rw [hy329]; with_reducible exact H2_) | (have H2_ := (Option.bind_some _ _).symm.trans H; with_reducible exact H2_) | with_reducible exact H | (rw [hy329]; exact H) | exact H
           have Ny329 := A' hy329; clear hy329; have H' := A' H; clear H; have p325 : 0 ≤ (x13_1 : Int) := oD' qA; have q325 : x13_1 < (l0.length : Int) := oD' qA; obtain ⟨ad325, e325, hx325_0, hx325_1, hx325_2⟩ := at_T35 HR0.out x13_1 p325 q325; (try rw [← Nbq10.out] at hx325_2); (try rw [← Nbq10.out] at hw325_2)
           cases e325
           try replace hx325_0 := qC HB.out hx325_0
           try replace hx325_1 := qC HB.out hx325_1
           try replace hx325_2 := qC HB.out hx325_2
           replace p325 := eq_true p325; replace q325 := eq_true q325; try go_wp2_with (first | ((with_reducible refine gate_dst (N := 5) rfl ?_); refine box_event ?hg (N := 5) ?hd (cs := #[.int .i64 0, .int .i64 0, .bool false]) (t := 35) ?hr ?_; (case hd => rfl); (case hg => rfl); (case hr => first | (go_simp; done) | (go_simp; rfl)); intro gb326 hg w17 hbox hb; have n0_ := A' (L' (qR HO_3.out) hb); have n1_ := A' (W' (qK0 HB.out) hb); have n2_ := A' (hbox); have n3_ := A' ((by rw [hg]; exact (V' (qK0 HB.out)) : w.heap.size ≤ gb326)); have n4_ := A' ((by rw [hg]; exact (V' (qK0 HB.out)) : w.heap.size ≤ gb326)); clear HO_3; clear HB; have HO_3 := n0_; have HB := n1_; have BK326 := n2_; have GW326 := n3_; have GE326 := n4_; clear n0_ n1_ n2_ n3_ n4_; clear hb hbox hg; have hcz18_0 : w17.cell? ⟨gb326, 0, none⟩ = some (.int .i64 0) := (N' BK326.out 0).trans rfl; have hcz18_1 : w17.cell? ⟨gb326, 1, none⟩ = some (.int .i64 0) := (N' BK326.out 1).trans rfl; have hcz18_2 : w17.cell? ⟨gb326, 2, none⟩ = some (.bool false) := (N' BK326.out 2).trans rfl; have hfz18_0 := Y' BK326.out 0; have hfz18_1 := Y' BK326.out 1; have hfz18_2 := Y' BK326.out 2))
           have n0_ : Aside0 (Kd.R Kd.string 9 (((w17.setCell ⟨gb326, 0, none⟩ (.int .i64 ((rd_T35 l0 x13_1).f0))).setCell ⟨gb326, 1, none⟩ (.int .i64 ((rd_T35 l0 x13_1).f1))).setCell ⟨gb326, 2, none⟩ (.bool true)) w.heap.size (fun _ => True) u3 x3_1) := ⟨by (with_reducible repeat (first | apply B' | apply C' | apply D')); exact Q' (M' (p := ⟨gb326, 2, none⟩) (M' (p := ⟨gb326, 1, none⟩) (M' (p := ⟨gb326, 0, none⟩) (P' HO_3.out BK326.out (by decide)) (fun _ hk => hk.2) (.int .i64 ((rd_T35 l0 x13_1).f0))) (fun _ hk => hk.2) (.int .i64 ((rd_T35 l0 x13_1).f1))) (fun _ hk => hk.2) (.bool true)) (fun _ hk => trivial)⟩
           have n1_ : Aside0 ((((w17.setCell ⟨gb326, 0, none⟩ (.int .i64 ((rd_T35 l0 x13_1).f0))).setCell ⟨gb326, 1, none⟩ (.int .i64 ((rd_T35 l0 x13_1).f1))).setCell ⟨gb326, 2, none⟩ (.bool true)).heap[gb326]? = some (.cells #[.int .i64 ((rd_T35 l0 x13_1).f0), .int .i64 ((rd_T35 l0 x13_1).f1), .bool true] 35 (0, 0))) := ⟨by (with_reducible repeat (first | refine G' ?_ _ | refine I' ?_ | refine hA' ?_ _)); refine blk_put (cs := #[.int .i64 ((rd_T35 l0 x13_1).f0), .int .i64 ((rd_T35 l0 x13_1).f1), .bool false]) ?_ 2 _ rfl; (with_reducible repeat (first | refine G' ?_ _ | refine I' ?_ | refine hA' ?_ _)); refine blk_put (cs := #[.int .i64 ((rd_T35 l0 x13_1).f0), .int .i64 0, .bool false]) ?_ 1 _ rfl; (with_reducible repeat (first | refine G' ?_ _ | refine I' ?_ | refine hA' ?_ _)); refine blk_put (cs := #[.int .i64 0, .int .i64 0, .bool false]) ?_ 0 _ rfl; (with_reducible repeat (first | refine G' ?_ _ | refine I' ?_ | refine hA' ?_ _)); exact BK326.out⟩
           have n2_ : Aside0 (Below w.heap.size w (((w17.setCell ⟨gb326, 0, none⟩ (.int .i64 ((rd_T35 l0 x13_1).f0))).setCell ⟨gb326, 1, none⟩ (.int .i64 ((rd_T35 l0 x13_1).f1))).setCell ⟨gb326, 2, none⟩ (.bool true))) := ⟨qK1 HB.out GE326.out⟩
           (try clear HO_3); (try clear BK326); (try clear HB)
           generalize (((w17.setCell ⟨gb326, 0, none⟩ (.int .i64 ((rd_T35 l0 x13_1).f0))).setCell ⟨gb326, 1, none⟩ (.int .i64 ((rd_T35 l0 x13_1).f1))).setCell ⟨gb326, 2, none⟩ (.bool true)) = w19 at n0_ n1_ n2_ ⊢
           have HO_3 := n0_; have BK326 := n1_; have HB := n2_; clear n0_ n1_ n2_; have n0_ := A' (D' HO_3.out); have n1_ := A' (I' BK326.out); have n2_ := A' (J' HB.out); clear HO_3; clear BK326; clear HB; have HO_3 := n0_; have BK326 := n1_; have HB := n2_; clear n0_ n1_ n2_; refine start_ (n := 13) (S := fun w' => w'.cell? ⟨gb326, 0, none⟩ = some (.int .i64 ((rd_T35 l0 x13_1).f0)) ∧ w'.cell? ⟨gb326, 1, none⟩ = some (.int .i64 ((rd_T35 l0 x13_1).f1)) ∧ w'.cell? ⟨gb326, 2, none⟩ = some (.bool true)) (ds := []) r_0 (by kernel_rfl) rfl rfl ⟨(N' BK326.out 0).trans rfl, (N' BK326.out 1).trans rfl, (N' BK326.out 2).trans rfl⟩ (fun hHeld => ?_); refine with_tabW impl_TackleText.tab10 impl_TackleText.bits10 (fun HT_ HW_ => ?_)
           generalize w19.drew = w20 at HO_3 BK326 HB hHeld ⊢
           refine pure_ (i := 0) (N := some 19) r_1 rfl rfl (any_of HT_.out (by kernel_rfl)) (fun _ _ _ h => h) (Or.inl ⟨by rfl, qI⟩) qP ?_
           refine pure_ (i := 1) (N := some 20) r_2 rfl rfl (any_of HT_.out (by kernel_rfl)) (fun _ _ _ h => h) (Or.inl ⟨by rfl, qI⟩) qP ?_
           refine pure_ (i := 4) (N := some 23) r_3 rfl rfl (any_of HT_.out (by kernel_rfl)) (fun _ _ _ h => h) (Or.inl ⟨by rfl, qI⟩) qP ?_
           refine pure_ (i := 6) (N := some 25) r_4 rfl rfl (any_of HT_.out (by kernel_rfl)) (fun _ _ _ h => h) (Or.inl ⟨by rfl, qI⟩) qP ?_
           refine take_ (i := 2) (N := some 21) (v := ?_) (a' := ?_) r_5 rfl rfl (take_ofW HT_.out HW_.out (by kernel_rfl)) (fun _ _ _ h => h) (Or.inl ⟨by rfl, ?_⟩) hHeld ?_ ?_; rotate_left
           ·rintro w' ⟨s0, s1, s2⟩; go_simp; with_reducible rfl
           rotate_left
           ·exact qP
           refine take_ (i := 7) (N := some 26) (v := ?_) (a' := ?_) r_6 rfl rfl (take_ofW HT_.out HW_.out (by kernel_rfl)) (fun _ _ _ h => h) (Or.inl ⟨by rfl, ?_⟩) hHeld ?_ ?_; rotate_left
           ·rintro w' ⟨s0, s1, s2⟩; go_simp; with_reducible rfl
           rotate_left
           ·exact qP
           refine one_ (i := 3) (N := some 22) r_7 rfl rfl (one_of HT_.out (by kernel_rfl)) (by decide) (fun K hK => ?_); refine goes_ Tryz.func46 (by kernel_rfl) rfl #[.int .i64 ((rd_T35 l0 x13_1).f0)] (by rfl) rfl rfl (by (try simp only [List.map_toArray, List.map_cons, List.map_nil]); first | done | rfl | (simp only [List.length_drop, List.length_take]; rfl)) ?_
           with_reducible refine (impl_Decimal.calls ((rd_T35 l0 x13_1).f0) t327 _ A12.out (HT.out.below (qK1 HB.out GE326.out))).mono ?_
           rintro e w21 ⟨rfl, hb⟩; refine ⟨_, rfl, ?_⟩; have n0_ := A' (L' (qR HO_3.out) hb); have n1_ := A' (O' (g := gb326) (qB BK326.out) hb); have n2_ := A' (W' (qK1 HB.out GE326.out) hb); clear HO_3; clear BK326; clear HB; have HO_3 := n0_; have BK326 := n1_; have HB := n2_; clear n0_ n1_ n2_; (try clear hb); (try clear hb2); (try clear hk); (try clear hi); refine hK.out _ _ ⟨(N' BK326.out 0).trans rfl, (N' BK326.out 1).trans rfl, (N' BK326.out 2).trans rfl⟩ (fun hHeld => ?_); clear hK K; refine norm_ (a' := ?_) ?_ ?_; rotate_left
           ·show Act.put _ (some 22) _ = _
            exact qP
           refine pure_ (i := 5) (N := some 24) r_8 rfl rfl (any_of HT_.out (by kernel_rfl)) (fun _ _ _ h => h) (Or.inl ⟨by rfl, qI⟩) qP ?_
           refine one_ (i := 8) (N := some 27) r_9 rfl rfl (one_of HT_.out (by kernel_rfl)) (by decide) (fun K hK => ?_); refine goes_ Tryz.func46 (by kernel_rfl) rfl #[.int .i64 ((rd_T35 l0 x13_1).f1)] (by rfl) rfl rfl (by (try simp only [List.map_toArray, List.map_cons, List.map_nil]); first | done | rfl | (simp only [List.length_drop, List.length_take]; rfl)) ?_
           with_reducible refine (impl_Decimal.calls ((rd_T35 l0 x13_1).f1) t328 _ A14.out (HT.out.below (qK1 HB.out GE326.out))).mono ?_
           rintro e w22 ⟨rfl, hb⟩; refine ⟨_, rfl, ?_⟩; have n0_ := A' (L' (qR HO_3.out) hb); have n1_ := A' (O' (g := gb326) (qB BK326.out) hb); have n2_ := A' (W' (qK1 HB.out GE326.out) hb); clear HO_3; clear BK326; clear HB; have HO_3 := n0_; have BK326 := n1_; have HB := n2_; clear n0_ n1_ n2_; (try clear hb); (try clear hb2); (try clear hk); (try clear hi); refine hK.out _ _ ⟨(N' BK326.out 0).trans rfl, (N' BK326.out 1).trans rfl, (N' BK326.out 2).trans rfl⟩ (fun hHeld => ?_); clear hK K; refine norm_ (a' := ?_) ?_ ?_; rotate_left
           ·show Act.put _ (some 27) _ = _
            exact qP
           refine pure_ (i := 9) (N := some 28) r_10 rfl rfl (any_of HT_.out (by kernel_rfl)) (fun _ _ _ h => h) (Or.inl ⟨by rfl, qI⟩) qP ?_
           refine one_ (i := 10) (N := some 29) r_11 rfl rfl (one_of HT_.out (by kernel_rfl)) (by decide) (fun K hK => ?_); refine value_ (w1 := ?_) (v := ?_) (by rfl) rfl ?_ ?_; rotate_left 2
           ·go_simp
            constructor
            ·rfl
            ·rfl
           refine hK.out _ _ ⟨(N' (hA' BK326.out _) 0).trans rfl, (N' (hA' BK326.out _) 1).trans rfl, (N' (hA' BK326.out _) 2).trans rfl⟩ (fun hHeld => ?_); clear hK K; refine norm_ (a' := ?_) ?_ ?_; rotate_left
           ·show Act.put _ (some 29) _ = _
            exact qP
           refine one_ (i := 11) (N := some 30) r_12 rfl rfl (one_of HT_.out (by kernel_rfl)) (by decide) (fun K hK => ?_); refine Kd.R_append_step Kd.string (w0 := w) w.heap.size (by rfl) (.tmp 19) (.tmp 29) 62 9 (.string ⟨#[]⟩) 16 rfl Tryz.underlying62 info9 rfl (by decide) (by omega) u3 x3_1 ((t327 ++ (⟨#[62]⟩ : ByteArray)) ++ t328) [.string ((t327 ++ (⟨#[62]⟩ : ByteArray)) ++ t328)] (fun _ => True) (fun _ => False) rfl rfl ?aP (fun _ hk => hk.elim) ?aF ?aO ?aB ?aS ?aL ?_; (case aP => exact rfl); (case aB => exact (qK1 HB.out GE326.out)); (case aF => exact (fun _ _ => trivial)); (case aO => exact (qR HO_3.out)); (case aS => exact (V' (qK1 HB.out GE326.out))); (case aL => have := LMc16.out; omega); intro v330 w23 ho hb hg hat; rw [← Ny329.out] at ho; have n0_ := A' (blk_grown (g := gb326) (o := .cells #[.int .i64 ((rd_T35 l0 x13_1).f0), .int .i64 ((rd_T35 l0 x13_1).f1), .bool true] 35 (0, 0)) (qB BK326.out) hg (Kd.R_ne HO_3.out BK326.out (by decide))); have n1_ := A' (hb); have n2_ := A' (ho); clear BK326; clear HB; clear HO_3; have BK326 := n0_; have HB := n1_; have HO331 := n2_; clear n0_ n1_ n2_; clear ho hb hg hat; refine hK.out _ _ ⟨(N' BK326.out 0).trans rfl, (N' BK326.out 1).trans rfl, (N' BK326.out 2).trans rfl⟩ (fun hHeld => ?_); clear hK K; refine norm_ (a' := ?_) ?_ ?_; rotate_left
           ·show Act.put _ (some 30) _ = _
            exact qP
           refine pure_ (i := 12) (N := some 3) r_13 rfl rfl (any_of HT_.out (by kernel_rfl)) (fun _ _ _ h => h) (Or.inl ⟨by rfl, qI⟩) qP ?_
           refine done_ (done_of HT_.out (by kernel_rfl)) ?_; try go_wp2
           go_roundg k1
           case measure => have := HK1.out; omega
           case rel => exact ⟨(y329), (wrap64 (x13_1 + 1)), qS, H', ⟨by have := HK1.out; omega⟩, ⟨qR HO331.out⟩, ⟨qK1 HB.out GE326.out⟩⟩
          ·rw [if_neg c16] at H; exact absurd H (by simp)
         ·rw [if_neg c15] at H; exact absurd H (by simp)
        ·rw [if_neg c13] at H; exact absurd H (by simp)
       ·replace c11 := Bool.eq_false_iff.mpr c11; subst c11; have H1 : ((impl_Decimal.f ((rd_T35 l0 x13_1).f0)).bind fun t332 => (if t332.size + 1 ≤ 9223372036854775807 then ((impl_Decimal.f ((rd_T35 l0 x13_1).f1)).bind fun t333 => (if (t332 ++ (⟨#[60]⟩ : ByteArray)).size + t333.size ≤ 9223372036854775807 then (if x3_1.length < 8796093022208 then (impl_TackleText.l0 k1 (x3_1 ++ [(t332 ++ (⟨#[60]⟩ : ByteArray)) ++ t333]) l0 (l0.length : Int) (wrap64 (x13_1 + 1))) else (none)) else (none))) else (none))) = some r := by rw [if_neg (show ¬ (false = true) by decide)] at H; exact H
        clear H; have H := H1; clear H1; replace H := Option.bind_eq_some_iff.mp H; obtain ⟨t332, A240, H⟩ := H; replace H : (if t332.size + 1 ≤ 9223372036854775807 then ((impl_Decimal.f ((rd_T35 l0 x13_1).f1)).bind fun t333 => (if (t332 ++ (⟨#[60]⟩ : ByteArray)).size + t333.size ≤ 9223372036854775807 then (if x3_1.length < 8796093022208 then (impl_TackleText.l0 k1 (x3_1 ++ [(t332 ++ (⟨#[60]⟩ : ByteArray)) ++ t333]) l0 (l0.length : Int) (wrap64 (x13_1 + 1))) else (none)) else (none))) else (none)) = some r := H; have A24 := A' A240; clear A240
        by_cases c25 : t332.size + 1 ≤ 9223372036854775807
        ·rw [if_pos c25] at H; have c25b0 := eq_true c25; have c25b1 : decide (t332.size + 1 ≤ 9223372036854775807) = true := dT' c25; try have c25b2 : (9223372036854775807 < t332.size + 1) = False := eq_false (Nat.not_lt.2 c25)
         replace H := Option.bind_eq_some_iff.mp H; obtain ⟨t333, A260, H⟩ := H; replace H : (if (t332 ++ (⟨#[60]⟩ : ByteArray)).size + t333.size ≤ 9223372036854775807 then (if x3_1.length < 8796093022208 then (impl_TackleText.l0 k1 (x3_1 ++ [(t332 ++ (⟨#[60]⟩ : ByteArray)) ++ t333]) l0 (l0.length : Int) (wrap64 (x13_1 + 1))) else (none)) else (none)) = some r := H; have A26 := A' A260; clear A260
         by_cases c27 : (t332 ++ (⟨#[60]⟩ : ByteArray)).size + t333.size ≤ 9223372036854775807
         ·rw [if_pos c27] at H; have c27b0 := eq_true c27; have c27b1 : decide ((t332 ++ (⟨#[60]⟩ : ByteArray)).size + t333.size ≤ 9223372036854775807) = true := dT' c27; try have c27b2 : (9223372036854775807 < (t332 ++ (⟨#[60]⟩ : ByteArray)).size + t333.size) = False := eq_false (Nat.not_lt.2 c27)
          try have c27b7 : (9223372036854775807 < t332.size + 1 + t333.size) = False := eq_false (Nat.not_lt.2 (by have h_ := c27; simp only [ByteArray.size_append] at h_; exact h_))
          by_cases c28 : x3_1.length < 8796093022208
          ·rw [if_pos c28] at H; have LMc28 := A' c28; clear c28; obtain ⟨y334, hy334⟩ : ∃ y_ : List ByteArray, y_ = (x3_1 ++ [(t332 ++ (⟨#[60]⟩ : ByteArray)) ++ t333]) := ⟨_, rfl⟩
           replace H : (impl_TackleText.l0 k1 y334 l0 (l0.length : Int) (wrap64 (x13_1 + 1))) = some r := by first | (rw [hy334]; with_reducible exact H) | (have H2_ := (Option.bind_some _ _).symm.trans H; rw [hy334]; with_reducible exact H2_) | (have H2_ := (Option.bind_some _ _).symm.trans H; with_reducible exact H2_) | with_reducible exact H | (rw [hy334]; exact H) | exact H
           have Ny334 := A' hy334; clear hy334; have H' := A' H; clear H; have p325 : 0 ≤ (x13_1 : Int) := oD' qA; have q325 : x13_1 < (l0.length : Int) := oD' qA; obtain ⟨ad325, e325, hx325_0, hx325_1, hx325_2⟩ := at_T35 HR0.out x13_1 p325 q325; (try rw [← Nbq10.out] at hx325_2); (try rw [← Nbq10.out] at hw325_2)
           cases e325
           try replace hx325_0 := qC HB.out hx325_0
           try replace hx325_1 := qC HB.out hx325_1
           try replace hx325_2 := qC HB.out hx325_2
           replace p325 := eq_true p325; replace q325 := eq_true q325; try go_wp2_with (first | ((with_reducible refine gate_dst (N := 5) rfl ?_); refine box_event ?hg (N := 5) ?hd (cs := #[.int .i64 0, .int .i64 0, .bool false]) (t := 35) ?hr ?_; (case hd => rfl); (case hg => rfl); (case hr => first | (go_simp; done) | (go_simp; rfl)); intro gb326 hg w29 hbox hb; have n0_ := A' (L' (qR HO_3.out) hb); have n1_ := A' (W' (qK0 HB.out) hb); have n2_ := A' (hbox); have n3_ := A' ((by rw [hg]; exact (V' (qK0 HB.out)) : w.heap.size ≤ gb326)); have n4_ := A' ((by rw [hg]; exact (V' (qK0 HB.out)) : w.heap.size ≤ gb326)); clear HO_3; clear HB; have HO_3 := n0_; have HB := n1_; have BK326 := n2_; have GW326 := n3_; have GE326 := n4_; clear n0_ n1_ n2_ n3_ n4_; clear hb hbox hg; have hcz30_0 : w29.cell? ⟨gb326, 0, none⟩ = some (.int .i64 0) := (N' BK326.out 0).trans rfl; have hcz30_1 : w29.cell? ⟨gb326, 1, none⟩ = some (.int .i64 0) := (N' BK326.out 1).trans rfl; have hcz30_2 : w29.cell? ⟨gb326, 2, none⟩ = some (.bool false) := (N' BK326.out 2).trans rfl; have hfz30_0 := Y' BK326.out 0; have hfz30_1 := Y' BK326.out 1; have hfz30_2 := Y' BK326.out 2))
           have n0_ : Aside0 (Kd.R Kd.string 9 (((w29.setCell ⟨gb326, 0, none⟩ (.int .i64 ((rd_T35 l0 x13_1).f0))).setCell ⟨gb326, 1, none⟩ (.int .i64 ((rd_T35 l0 x13_1).f1))).setCell ⟨gb326, 2, none⟩ (.bool false)) w.heap.size (fun _ => True) u3 x3_1) := ⟨by (with_reducible repeat (first | apply B' | apply C' | apply D')); exact Q' (M' (p := ⟨gb326, 2, none⟩) (M' (p := ⟨gb326, 1, none⟩) (M' (p := ⟨gb326, 0, none⟩) (P' HO_3.out BK326.out (by decide)) (fun _ hk => hk.2) (.int .i64 ((rd_T35 l0 x13_1).f0))) (fun _ hk => hk.2) (.int .i64 ((rd_T35 l0 x13_1).f1))) (fun _ hk => hk.2) (.bool false)) (fun _ hk => trivial)⟩
           have n1_ : Aside0 ((((w29.setCell ⟨gb326, 0, none⟩ (.int .i64 ((rd_T35 l0 x13_1).f0))).setCell ⟨gb326, 1, none⟩ (.int .i64 ((rd_T35 l0 x13_1).f1))).setCell ⟨gb326, 2, none⟩ (.bool false)).heap[gb326]? = some (.cells #[.int .i64 ((rd_T35 l0 x13_1).f0), .int .i64 ((rd_T35 l0 x13_1).f1), .bool false] 35 (0, 0))) := ⟨by (with_reducible repeat (first | refine G' ?_ _ | refine I' ?_ | refine hA' ?_ _)); refine blk_put (cs := #[.int .i64 ((rd_T35 l0 x13_1).f0), .int .i64 ((rd_T35 l0 x13_1).f1), .bool false]) ?_ 2 _ rfl; (with_reducible repeat (first | refine G' ?_ _ | refine I' ?_ | refine hA' ?_ _)); refine blk_put (cs := #[.int .i64 ((rd_T35 l0 x13_1).f0), .int .i64 0, .bool false]) ?_ 1 _ rfl; (with_reducible repeat (first | refine G' ?_ _ | refine I' ?_ | refine hA' ?_ _)); refine blk_put (cs := #[.int .i64 0, .int .i64 0, .bool false]) ?_ 0 _ rfl; (with_reducible repeat (first | refine G' ?_ _ | refine I' ?_ | refine hA' ?_ _)); exact BK326.out⟩
           have n2_ : Aside0 (Below w.heap.size w (((w29.setCell ⟨gb326, 0, none⟩ (.int .i64 ((rd_T35 l0 x13_1).f0))).setCell ⟨gb326, 1, none⟩ (.int .i64 ((rd_T35 l0 x13_1).f1))).setCell ⟨gb326, 2, none⟩ (.bool false))) := ⟨qK1 HB.out GE326.out⟩
           (try clear HO_3); (try clear BK326); (try clear HB)
           generalize (((w29.setCell ⟨gb326, 0, none⟩ (.int .i64 ((rd_T35 l0 x13_1).f0))).setCell ⟨gb326, 1, none⟩ (.int .i64 ((rd_T35 l0 x13_1).f1))).setCell ⟨gb326, 2, none⟩ (.bool false)) = w31 at n0_ n1_ n2_ ⊢
           have HO_3 := n0_; have BK326 := n1_; have HB := n2_; clear n0_ n1_ n2_; have n0_ := A' (D' HO_3.out); have n1_ := A' (I' BK326.out); have n2_ := A' (J' HB.out); clear HO_3; clear BK326; clear HB; have HO_3 := n0_; have BK326 := n1_; have HB := n2_; clear n0_ n1_ n2_; refine start_ (n := 13) (S := fun w' => w'.cell? ⟨gb326, 0, none⟩ = some (.int .i64 ((rd_T35 l0 x13_1).f0)) ∧ w'.cell? ⟨gb326, 1, none⟩ = some (.int .i64 ((rd_T35 l0 x13_1).f1)) ∧ w'.cell? ⟨gb326, 2, none⟩ = some (.bool false)) (ds := []) r_0 (by kernel_rfl) rfl rfl ⟨(N' BK326.out 0).trans rfl, (N' BK326.out 1).trans rfl, (N' BK326.out 2).trans rfl⟩ (fun hHeld => ?_); refine with_tabW impl_TackleText.tab10 impl_TackleText.bits10 (fun HT_ HW_ => ?_)
           generalize w31.drew = w32 at HO_3 BK326 HB hHeld ⊢
           refine pure_ (i := 0) (N := some 19) r_1 rfl rfl (any_of HT_.out (by kernel_rfl)) (fun _ _ _ h => h) (Or.inl ⟨by rfl, qI⟩) qP ?_
           refine pure_ (i := 1) (N := some 20) r_2 rfl rfl (any_of HT_.out (by kernel_rfl)) (fun _ _ _ h => h) (Or.inl ⟨by rfl, qI⟩) qP ?_
           refine pure_ (i := 4) (N := some 23) r_3 rfl rfl (any_of HT_.out (by kernel_rfl)) (fun _ _ _ h => h) (Or.inl ⟨by rfl, qI⟩) qP ?_
           refine pure_ (i := 6) (N := some 25) r_4 rfl rfl (any_of HT_.out (by kernel_rfl)) (fun _ _ _ h => h) (Or.inl ⟨by rfl, qI⟩) qP ?_
           refine take_ (i := 2) (N := some 21) (v := ?_) (a' := ?_) r_5 rfl rfl (take_ofW HT_.out HW_.out (by kernel_rfl)) (fun _ _ _ h => h) (Or.inl ⟨by rfl, ?_⟩) hHeld ?_ ?_; rotate_left
           ·rintro w' ⟨s0, s1, s2⟩; go_simp; with_reducible rfl
           rotate_left
           ·exact qP
           refine take_ (i := 7) (N := some 26) (v := ?_) (a' := ?_) r_6 rfl rfl (take_ofW HT_.out HW_.out (by kernel_rfl)) (fun _ _ _ h => h) (Or.inl ⟨by rfl, ?_⟩) hHeld ?_ ?_; rotate_left
           ·rintro w' ⟨s0, s1, s2⟩; go_simp; with_reducible rfl
           rotate_left
           ·exact qP
           refine one_ (i := 3) (N := some 22) r_7 rfl rfl (one_of HT_.out (by kernel_rfl)) (by decide) (fun K hK => ?_); refine goes_ Tryz.func46 (by kernel_rfl) rfl #[.int .i64 ((rd_T35 l0 x13_1).f0)] (by rfl) rfl rfl (by (try simp only [List.map_toArray, List.map_cons, List.map_nil]); first | done | rfl | (simp only [List.length_drop, List.length_take]; rfl)) ?_
           with_reducible refine (impl_Decimal.calls ((rd_T35 l0 x13_1).f0) t332 _ A24.out (HT.out.below (qK1 HB.out GE326.out))).mono ?_
           rintro e w33 ⟨rfl, hb⟩; refine ⟨_, rfl, ?_⟩; have n0_ := A' (L' (qR HO_3.out) hb); have n1_ := A' (O' (g := gb326) (qB BK326.out) hb); have n2_ := A' (W' (qK1 HB.out GE326.out) hb); clear HO_3; clear BK326; clear HB; have HO_3 := n0_; have BK326 := n1_; have HB := n2_; clear n0_ n1_ n2_; (try clear hb); (try clear hb2); (try clear hk); (try clear hi); refine hK.out _ _ ⟨(N' BK326.out 0).trans rfl, (N' BK326.out 1).trans rfl, (N' BK326.out 2).trans rfl⟩ (fun hHeld => ?_); clear hK K; refine norm_ (a' := ?_) ?_ ?_; rotate_left
           ·show Act.put _ (some 22) _ = _
            exact qP
           refine pure_ (i := 5) (N := some 24) r_8 rfl rfl (any_of HT_.out (by kernel_rfl)) (fun _ _ _ h => h) (Or.inl ⟨by rfl, qI⟩) qP ?_
           refine one_ (i := 8) (N := some 27) r_9 rfl rfl (one_of HT_.out (by kernel_rfl)) (by decide) (fun K hK => ?_); refine goes_ Tryz.func46 (by kernel_rfl) rfl #[.int .i64 ((rd_T35 l0 x13_1).f1)] (by rfl) rfl rfl (by (try simp only [List.map_toArray, List.map_cons, List.map_nil]); first | done | rfl | (simp only [List.length_drop, List.length_take]; rfl)) ?_
           with_reducible refine (impl_Decimal.calls ((rd_T35 l0 x13_1).f1) t333 _ A26.out (HT.out.below (qK1 HB.out GE326.out))).mono ?_
           rintro e w34 ⟨rfl, hb⟩; refine ⟨_, rfl, ?_⟩; have n0_ := A' (L' (qR HO_3.out) hb); have n1_ := A' (O' (g := gb326) (qB BK326.out) hb); have n2_ := A' (W' (qK1 HB.out GE326.out) hb); clear HO_3; clear BK326; clear HB; have HO_3 := n0_; have BK326 := n1_; have HB := n2_; clear n0_ n1_ n2_; (try clear hb); (try clear hb2); (try clear hk); (try clear hi); refine hK.out _ _ ⟨(N' BK326.out 0).trans rfl, (N' BK326.out 1).trans rfl, (N' BK326.out 2).trans rfl⟩ (fun hHeld => ?_); clear hK K; refine norm_ (a' := ?_) ?_ ?_; rotate_left
           ·show Act.put _ (some 27) _ = _
            exact qP
           refine pure_ (i := 9) (N := some 28) r_10 rfl rfl (any_of HT_.out (by kernel_rfl)) (fun _ _ _ h => h) (Or.inl ⟨by rfl, qI⟩) qP ?_
           refine one_ (i := 10) (N := some 29) r_11 rfl rfl (one_of HT_.out (by kernel_rfl)) (by decide) (fun K hK => ?_); refine value_ (w1 := ?_) (v := ?_) (by rfl) rfl ?_ ?_; rotate_left 2
           ·go_simp
            constructor
            ·rfl
            ·rfl
           refine hK.out _ _ ⟨(N' (hA' BK326.out _) 0).trans rfl, (N' (hA' BK326.out _) 1).trans rfl, (N' (hA' BK326.out _) 2).trans rfl⟩ (fun hHeld => ?_); clear hK K; refine norm_ (a' := ?_) ?_ ?_; rotate_left
           ·show Act.put _ (some 29) _ = _
            exact qP
           refine one_ (i := 11) (N := some 30) r_12 rfl rfl (one_of HT_.out (by kernel_rfl)) (by decide) (fun K hK => ?_); refine Kd.R_append_step Kd.string (w0 := w) w.heap.size (by rfl) (.tmp 19) (.tmp 29) 62 9 (.string ⟨#[]⟩) 16 rfl Tryz.underlying62 info9 rfl (by decide) (by omega) u3 x3_1 ((t332 ++ (⟨#[60]⟩ : ByteArray)) ++ t333) [.string ((t332 ++ (⟨#[60]⟩ : ByteArray)) ++ t333)] (fun _ => True) (fun _ => False) rfl rfl ?aP (fun _ hk => hk.elim) ?aF ?aO ?aB ?aS ?aL ?_; (case aP => exact rfl); (case aB => exact (qK1 HB.out GE326.out)); (case aF => exact (fun _ _ => trivial)); (case aO => exact (qR HO_3.out)); (case aS => exact (V' (qK1 HB.out GE326.out))); (case aL => have := LMc28.out; omega); intro v335 w35 ho hb hg hat; rw [← Ny334.out] at ho; have n0_ := A' (blk_grown (g := gb326) (o := .cells #[.int .i64 ((rd_T35 l0 x13_1).f0), .int .i64 ((rd_T35 l0 x13_1).f1), .bool false] 35 (0, 0)) (qB BK326.out) hg (Kd.R_ne HO_3.out BK326.out (by decide))); have n1_ := A' (hb); have n2_ := A' (ho); clear BK326; clear HB; clear HO_3; have BK326 := n0_; have HB := n1_; have HO336 := n2_; clear n0_ n1_ n2_; clear ho hb hg hat; refine hK.out _ _ ⟨(N' BK326.out 0).trans rfl, (N' BK326.out 1).trans rfl, (N' BK326.out 2).trans rfl⟩ (fun hHeld => ?_); clear hK K; refine norm_ (a' := ?_) ?_ ?_; rotate_left
           ·show Act.put _ (some 30) _ = _
            exact qP
           refine pure_ (i := 12) (N := some 3) r_13 rfl rfl (any_of HT_.out (by kernel_rfl)) (fun _ _ _ h => h) (Or.inl ⟨by rfl, qI⟩) qP ?_
           refine done_ (done_of HT_.out (by kernel_rfl)) ?_; try go_wp2
           go_roundg k1
           case measure => have := HK1.out; omega
           case rel => exact ⟨(y334), (wrap64 (x13_1 + 1)), qS, H', ⟨by have := HK1.out; omega⟩, ⟨qR HO336.out⟩, ⟨qK1 HB.out GE326.out⟩⟩
          ·rw [if_neg c28] at H; exact absurd H (by simp)
         ·rw [if_neg c27] at H; exact absurd H (by simp)
        ·rw [if_neg c25] at H; exact absurd H (by simp)
      ·rw [if_neg c9] at H; exact absurd H (by simp)
     ·rw [if_neg c8] at H; exact absurd H (by simp)
    ·rw [if_neg c7] at H; have c7b0 : decide (x13_1 < (l0.length : Int)) = false := dF' c7; clear c7; replace H := Option.bind_eq_some_iff.mp H; obtain ⟨t324, A360, H⟩ := H; replace H : (some t324) = some r := H; have A36 := A' A360; clear A360; obtain rfl := Option.some.inj H; obtain ⟨Ao37, co37, eo37⟩ := Kd.R_slice HO_3.out; subst eo37; go_wp2_with (first | ((with_reducible refine gate_callee (f := 47) rfl ?_); refine goesL_ (some 33) rfl rfl Tryz.func47 (by kernel_rfl) rfl #[.slice Ao37 x3_1.length co37, .string (⟨#[32]⟩ : ByteArray)] rfl (by (try simp only [List.map_toArray, List.map_cons, List.map_nil]); first | done | rfl | (simp only [List.length_drop, List.length_take]; rfl)) ?_; (with_reducible refine (strings_Join.calls _ _ x3_1 (⟨#[32]⟩ : ByteArray) t324 _ ?side1 ?side2 A36.out).mono ?_); (case side1 => repeat (first | exact (Kd.R_reads' HO_3.out).2.2 | (with_reducible refine R' ?_ _) | (with_reducible refine S' ?_ _) | (with_reducible refine T' ?_))); (case side2 => exact (Kd.R_reads' HO_3.out).2.1); rintro e w38 ⟨rfl, hb⟩; refine ⟨_, rfl, ?_⟩; have n0_ := A' (L' (qR HO_3.out) hb); have n1_ := A' (W' (qK0 HB.out) hb); clear HO_3; clear HB; have HO_3 := n0_; have HB := n1_; clear n0_ n1_; (try clear hb); (try clear hb2); (try clear hk); (try clear hi))); go_ret; exact ⟨qE, qK0 HB.out⟩
 ·replace c3 := Bool.eq_false_iff.mpr c3; subst c3; have H1 : (some (⟨#[]⟩ : ByteArray)) = some r := by rw [if_neg (show ¬ (false = true) by decide)] at H; exact H
  clear H; have H := H1; clear H1; obtain rfl := Option.some.inj H; go_enter Tryz.func19, Tryz.ntmps19; go_wp2_with (first | ((with_reducible refine gate_callee (f := 28) rfl ?_); refine goesL_ (some 8) rfl rfl Tryz.func28 (by kernel_rfl) rfl #[.slice A0 l0.length c0] rfl (by (try simp only [List.map_toArray, List.map_cons, List.map_nil]); first | done | rfl | (simp only [List.length_drop, List.length_take]; rfl)) ?_; (with_reducible refine (impl_ValidTackle.calls k _ _ l0 false _ ?side1 ?side2 A2.out).mono ?_); (case side1 => exact qT HR0.out); (case side2 => exact HC0.out); rintro e w39 ⟨rfl, hb⟩; refine ⟨_, rfl, ?_⟩; have n0_ := A' (W' (qK0 HB.out) hb); clear HB; have HB := n0_; clear n0_; (try clear hb); (try clear hb2); (try clear hk); (try clear hi))); go_ret; exact ⟨qE, qK0 HB.out⟩

/-! ### strings_IndexAny: function 49 (by hand) -/
/-- The two marks of a tackle's text. -/
def strings_IndexAny.f (a0 a1 : ByteArray) : Option (Int) := if a0.size < 4294967281 then (if a1 = (⟨#[60, 62]⟩ : ByteArray) then some (Go.Lib.indexAny a0.data.toList [60, 62]) else none) else none
theorem strings_IndexAny.calls (a0 a1 : ByteArray) (r : Int) (w : World) (h : strings_IndexAny.f a0 a1 = some r) :
    Calls Tryz.prog 49 #[.string a0, .string a1] w fun e w' => e = .returned (.int .i64 r) ∧ Below w.heap.size w w' := by
  unfold strings_IndexAny.f at h
  by_cases h0 : a0.size < 4294967281
  · rw [if_pos h0] at h
    by_cases h1 : a1 = (⟨#[60, 62]⟩ : ByteArray)
    · rw [if_pos h1] at h
      have h := Option.some.inj h
      subst h
      subst h1
      exact AnyMore.strings_IndexAny_marks Tryz.lays153 (by kernel_rfl) a0 w h0
    · rw [if_neg h1] at h; cases h
  · rw [if_neg h0] at h; cases h

/-! ### strings_TrimPrefix: function 71 (by hand) -/
def strings_TrimPrefix.f (a0 a1 : ByteArray) : Option (ByteArray) := some (⟨(Go.Lib.trimPrefix a0.data.toList a1.data.toList).toArray⟩ : ByteArray)
theorem strings_TrimPrefix.calls (a0 a1 : ByteArray) (r : ByteArray) (w : World) (h : strings_TrimPrefix.f a0 a1 = some r) :
    Calls Tryz.prog 71 #[.string a0, .string a1] w fun e w' => e = .returned (.string r) ∧ Drawn0 w w' := by
  have h : (⟨(Go.Lib.trimPrefix a0.data.toList a1.data.toList).toArray⟩ : ByteArray) = r := Option.some.inj h
  subst h
  exact (Tryz.strings_TrimPrefix a0 a1 w).mono fun e w' ⟨he, hw⟩ => ⟨he, hw ▸ Drawn0.refl _⟩

/-! ### impl_ReadDecimal: function 50 -/
mutual
def impl_ReadDecimal.j0 : Nat → ByteArray → ByteArray → Bool → Option (Int × Bool)
 | 0, _, _, _ => none
 | k + 1, x0, x4, x16 => if x16 = true then (some (0, false)) else (impl_ReadDecimal.l0 k x0 x4 0 0)
def impl_ReadDecimal.l0 : Nat → ByteArray → ByteArray → Int → Int → Option (Int × Bool)
 | 0, _, _, _, _ => none
 | k + 1, x0, x4, x5, x6 => if x6 < (x4.size : Int) then (if 0 ≤ x6 then (if (bt x4 x6) < 48 then (some (0, false)) else (if (bt x4 x6) > 57 then (some (0, false)) else (impl_ReadDecimal.l0 k x0 x4 (wrap64 ((wrap64 (10 * x5)) + (((bt x4 x6) - 48) % 256))) (wrap64 (x6 + 1))))) else (none)) else (if (x4.size : Int) < (x0.size : Int) then ((impl_Decimal.f (wrap64 (-x5))).bind fun t338 => (if t338.toList = x0.toList then (some (wrap64 (-x5), true)) else (some (0, false)))) else ((impl_Decimal.f x5).bind fun t339 => (if t339.toList = x0.toList then (some (x5, true)) else (some (0, false)))))
end
def impl_ReadDecimal.f (k : Nat) (a0 : ByteArray) : Option (Int × Bool) := (strings_TrimPrefix.f a0 (⟨#[45]⟩ : ByteArray)).bind fun t337 => (if (t337.size : Int) < 1 then (impl_ReadDecimal.j0 k a0 t337 true) else (impl_ReadDecimal.j0 k a0 t337 (decide ((t337.size : Int) > 18))))
theorem impl_ReadDecimal.mono_l : ∀ k, (∀ y0 y1 y2, LeO (impl_ReadDecimal.j0 k y0 y1 y2) (impl_ReadDecimal.j0 (k + 1) y0 y1 y2)) ∧ (∀ y0 y1 y2 y3, LeO (impl_ReadDecimal.l0 k y0 y1 y2 y3) (impl_ReadDecimal.l0 (k + 1) y0 y1 y2 y3))
 | 0 => ⟨fun _ _ _ r h => by simp [impl_ReadDecimal.j0] at h, fun _ _ _ _ r h => by simp [impl_ReadDecimal.l0] at h⟩
 | k + 1 => by
  obtain ⟨ih0, ih1⟩ := impl_ReadDecimal.mono_l k
  refine ⟨?_, ?_⟩
  ·intro y0 y1 y2
   unfold impl_ReadDecimal.j0
   repeat' first
   | (with_reducible exact ih0 _ _ _)
   | (with_reducible exact ih1 _ _ _ _)
   | (with_reducible exact LeO.refl _)
   | (with_reducible exact LeO.none _)
   | (with_reducible refine LeO.ite ?_ ?_)
   | (with_reducible refine LeO.bind ?_ (fun _ => ?_))
   | exact ih0 _ _ _
   | exact ih1 _ _ _ _
   | exact LeO.none _
   | refine LeO.ite ?_ ?_
   | refine LeO.bind ?_ (fun _ => ?_)
  ·intro y0 y1 y2 y3
   unfold impl_ReadDecimal.l0
   repeat' first
   | (with_reducible exact ih0 _ _ _)
   | (with_reducible exact ih1 _ _ _ _)
   | (with_reducible exact LeO.refl _)
   | (with_reducible exact LeO.none _)
   | (with_reducible refine LeO.ite ?_ ?_)
   | (with_reducible refine LeO.bind ?_ (fun _ => ?_))
   | exact ih0 _ _ _
   | exact ih1 _ _ _ _
   | exact LeO.none _
   | refine LeO.ite ?_ ?_
   | refine LeO.bind ?_ (fun _ => ?_)
theorem impl_ReadDecimal.mono : ∀ a0 k, LeO (impl_ReadDecimal.f k a0) (impl_ReadDecimal.f (k + 1) a0) := by
 intro a0 k
 obtain ⟨ih0, ih1⟩ := impl_ReadDecimal.mono_l k
 unfold impl_ReadDecimal.f
 repeat' first
   | (with_reducible exact ih0 _ _ _)
   | (with_reducible exact ih1 _ _ _ _)
   | (with_reducible exact LeO.refl _)
   | (with_reducible exact LeO.none _)
   | (with_reducible refine LeO.ite ?_ ?_)
   | (with_reducible refine LeO.bind ?_ (fun _ => ?_))
   | exact ih0 _ _ _
   | exact ih1 _ _ _ _
   | exact LeO.none _
   | refine LeO.ite ?_ ?_
   | refine LeO.bind ?_ (fun _ => ?_)
set_option maxHeartbeats 8000000 in
set_option maxRecDepth 100000 in
theorem impl_ReadDecimal.calls (k : Nat) (a0 : ByteArray) (r1 : Int) (r2 : Bool) (w : World) (h : impl_ReadDecimal.f k a0 = some (r1, r2)) (hT : LwT w) :
  Calls Tryz.prog 50 #[.string a0] w fun e w' => e = .returned (.tuple #[.int .i64 r1, .bool r2]) ∧ Below w.heap.size w w' := by
 have HT := A' hT; clear hT; have HB := A' (Below.refl w.heap.size w); have H : ((strings_TrimPrefix.f a0 (⟨#[45]⟩ : ByteArray)).bind fun t337 => (if (t337.size : Int) < 1 then (impl_ReadDecimal.j0 k a0 t337 true) else (impl_ReadDecimal.j0 k a0 t337 (decide ((t337.size : Int) > 18))))) = some (r1, r2) := h; clear h; replace H := Option.bind_eq_some_iff.mp H; obtain ⟨t337, A20, H⟩ := H; replace H : (if (t337.size : Int) < 1 then (impl_ReadDecimal.j0 k a0 t337 true) else (impl_ReadDecimal.j0 k a0 t337 (decide ((t337.size : Int) > 18)))) = some (r1, r2) := H; have A2 := A' A20; clear A20; have HC3 := A' H; clear H; go_enter Tryz.func50, Tryz.ntmps50; go_upto_region 2 with (first | ((with_reducible refine gate_callee (f := 71) rfl ?_); refine goesL_ (some 8) rfl rfl Tryz.func71 (by kernel_rfl) rfl #[.string a0, .string (⟨#[45]⟩ : ByteArray)] rfl (by (try simp only [List.map_toArray, List.map_cons, List.map_nil]); first | done | rfl | (simp only [List.length_drop, List.length_take]; rfl)) ?_; (with_reducible refine (strings_TrimPrefix.calls a0 (⟨#[45]⟩ : ByteArray) t337 _ A2.out).mono ?_); rintro e w' ⟨rfl, ⟨nd, rfl⟩⟩; refine ⟨_, rfl, ?_⟩))
 (try simp only [Act.put, List.setIfInBounds_toArray, List.set_cons_zero, List.set_cons_succ])
 go_cut [16] (fun v16 wc => ∃ (kq : Nat) (x16_2 : Bool), v16 = .bool x16_2 ∧ Aside0 (impl_ReadDecimal.j0 kq a0 t337 x16_2 = some (r1, r2)) ∧ Aside0 (kq ≤ k) ∧ Aside0 (Below w.heap.size w wc))
 case first =>
  have H := HC3.out; clear HC3
  by_cases c4 : (t337.size : Int) < 1
  ·rw [if_pos c4] at H; have c4b0 : decide ((t337.size : Int) < 1) = true := dT' c4; have c4b1 : decide (t337.size < 1) = true := dT' (by omega); clear c4; (first | rw [c4b0] | (simp only [i64_w, i32_w]; rw [c4b0]) | skip); have H' := A' H; clear H; go_wp2
   go_meet
   case rel => exact ⟨_, (true), qS, H', ⟨by first | omega | exact Nat.le_refl _⟩, ⟨qK0 HB.out⟩⟩
  ·rw [if_neg c4] at H; have c4b0 : decide ((t337.size : Int) < 1) = false := dF' c4; have c4b1 : decide (t337.size < 1) = false := dF' (by omega); clear c4; (first | rw [c4b0] | (simp only [i64_w, i32_w]; rw [c4b0]) | skip); have H' := A' H; clear H; go_wp2
   go_meet
   case rel => exact ⟨_, (decide ((t337.size : Int) > 18)), qS, H', ⟨by first | omega | exact Nat.le_refl _⟩, ⟨qK0 HB.out⟩⟩
 case rest =>
  clear HC3; try clear p2
  try clear c4
  try clear c4b0
  try clear c4b1
  obtain ⟨kq, x16_2, rfl, HA, HJ2, HB⟩ := hcut
  cases kq with
  | zero => exact absurd HA.out (by simp [impl_ReadDecimal.j0])
  | succ kj2 =>
   have H := HA.out; clear HA; simp only [impl_ReadDecimal.j0] at H
   by_cases c5 : x16_2 = true
   ·subst c5; have H1 : (some (0, false)) = some (r1, r2) := by rw [if_pos rfl] at H; exact H
    clear H; have H := H1; clear H1; simp only [Option.some.injEq, Prod.mk.injEq] at H; obtain ⟨rfl, rfl⟩ := H; go_wp2; go_ret2; exact ⟨qE, qK0 HB.out⟩
   ·replace c5 := Bool.eq_false_iff.mpr c5; subst c5; have H1 : (impl_ReadDecimal.l0 kj2 a0 t337 0 0) = some (r1, r2) := by rw [if_neg (show ¬ (false = true) by decide)] at H; exact H
    clear H; have H := H1; clear H1; have H' := A' H; clear H; go_wp2
    go_loopg [5, 6] kj2 (fun kq v5 v6 w' => ∃ (x5_2 : Int) (x6_2 : Int), v5 = .int .i64 x5_2 ∧ v6 = .int .i64 x6_2 ∧ Aside0 (impl_ReadDecimal.l0 kq a0 t337 x5_2 x6_2 = some (r1, r2)) ∧ Aside0 (kq ≤ kj2) ∧ Aside0 (Below w.heap.size w w'))
    case atStart => exact ⟨(0), (0), qS, qS, H', ⟨Nat.le_refl _⟩, ⟨qK0 HB.out⟩⟩
    case round =>
     clear H'; try clear p2
     try clear c4
     try clear c4b0
     try clear c4b1
     try clear c5
     try clear p2
     obtain ⟨x5_2, x6_2, rfl, rfl, HA, HK2, HB⟩ := hrel
     cases gk with
     | zero => exact absurd HA.out (by simp [impl_ReadDecimal.l0])
     | succ k2 =>
      have H := HA.out; clear HA; simp only [impl_ReadDecimal.l0] at H
      by_cases c6 : x6_2 < (t337.size : Int)
      ·rw [if_pos c6] at H; have c6b0 : decide (x6_2 < (t337.size : Int)) = true := dT' c6; clear c6
       by_cases c7 : 0 ≤ x6_2
       ·rw [if_pos c7] at H; have c7b0 : decide (0 ≤ x6_2) = true := dT' c7; clear c7
        by_cases c9 : (bt t337 x6_2) < 48
        ·rw [if_pos c9] at H; have c9b0 : decide ((bt t337 x6_2) < 48) = true := dT' c9; clear c9; simp only [Option.some.injEq, Prod.mk.injEq] at H; obtain ⟨rfl, rfl⟩ := H; have p8 : 0 ≤ (x6_2 : Int) := oD' qA; have q8 : x6_2 < (t337.size : Int) := oD' qA; have hx8 := bt_at t337 x6_2; replace p8 := eq_true p8; replace q8 := eq_true q8; go_wp2; go_ret2; exact ⟨qE, qK0 HB.out⟩
        ·rw [if_neg c9] at H; have c9b0 : decide ((bt t337 x6_2) < 48) = false := dF' c9; clear c9
         by_cases c11 : (bt t337 x6_2) > 57
         ·rw [if_pos c11] at H; have c11b0 : decide (57 < (bt t337 x6_2)) = true := dT' c11; clear c11; simp only [Option.some.injEq, Prod.mk.injEq] at H; obtain ⟨rfl, rfl⟩ := H; have p8 : 0 ≤ (x6_2 : Int) := oD' qA; have q8 : x6_2 < (t337.size : Int) := oD' qA; have hx8 := bt_at t337 x6_2; replace p8 := eq_true p8; replace q8 := eq_true q8; have p10 : 0 ≤ (x6_2 : Int) := oD' qA; have q10 : x6_2 < (t337.size : Int) := oD' qA; have hx10 := bt_at t337 x6_2; replace p10 := eq_true p10; replace q10 := eq_true q10; go_wp2; go_ret2; exact ⟨qE, qK0 HB.out⟩
         ·rw [if_neg c11] at H; have c11b0 : decide (57 < (bt t337 x6_2)) = false := dF' c11; clear c11; have H' := A' H; clear H; have p8 : 0 ≤ (x6_2 : Int) := oD' qA; have q8 : x6_2 < (t337.size : Int) := oD' qA; have hx8 := bt_at t337 x6_2; replace p8 := eq_true p8; replace q8 := eq_true q8; have p10 : 0 ≤ (x6_2 : Int) := oD' qA; have q10 : x6_2 < (t337.size : Int) := oD' qA; have hx10 := bt_at t337 x6_2; replace p10 := eq_true p10; replace q10 := eq_true q10; have p12 : 0 ≤ (x6_2 : Int) := oD' qA; have q12 : x6_2 < (t337.size : Int) := oD' qA; have hx12 := bt_at t337 x6_2; replace p12 := eq_true p12; replace q12 := eq_true q12; go_wp2
          go_roundg k2
          case measure => have := HJ2.out; have := HK2.out; omega
          case rel => exact ⟨(wrap64 ((wrap64 (10 * x5_2)) + (((bt t337 x6_2) - 48) % 256))), (wrap64 (x6_2 + 1)), qS, qS, H', ⟨by have := HJ2.out; have := HK2.out; omega⟩, ⟨qK0 HB.out⟩⟩
       ·rw [if_neg c7] at H; exact absurd H (by simp)
      ·rw [if_neg c6] at H; have c6b0 : decide (x6_2 < (t337.size : Int)) = false := dF' c6; clear c6
       by_cases c13 : (t337.size : Int) < (a0.size : Int)
       ·rw [if_pos c13] at H; have c13b0 : decide ((t337.size : Int) < (a0.size : Int)) = true := dT' c13; have c13b1 : decide (t337.size < a0.size) = true := dT' (Int.ofNat_lt.mp c13); clear c13; replace H := Option.bind_eq_some_iff.mp H; obtain ⟨t338, A140, H⟩ := H; replace H : (if t338.toList = a0.toList then (some (wrap64 (-x5_2), true)) else (some (0, false))) = some (r1, r2) := H; have A14 := A' A140; clear A140
        by_cases c15 : t338.toList = a0.toList
        ·rw [if_pos c15] at H; have c15b0 : (t338.toList == a0.toList) = true := beq_iff_eq.mpr c15; have c15b1 : (t338.toList != a0.toList) = false := bne_eq_false_iff_eq.mpr c15; clear c15; simp only [Option.some.injEq, Prod.mk.injEq] at H; obtain ⟨rfl, rfl⟩ := H; go_wp2_with (first | ((with_reducible refine gate_callee (f := 46) rfl ?_); refine goesL_ (some 49) rfl rfl Tryz.func46 (by kernel_rfl) rfl #[.int .i64 (wrap64 (-x5_2))] rfl (by (try simp only [List.map_toArray, List.map_cons, List.map_nil]); first | done | rfl | (simp only [List.length_drop, List.length_take]; rfl)) ?_; (with_reducible refine (impl_Decimal.calls (wrap64 (-x5_2)) t338 _ A14.out (HT.out.below (qK0 HB.out))).mono ?_); rintro e w16 ⟨rfl, hb⟩; refine ⟨_, rfl, ?_⟩; have n0_ := A' (W' (qK0 HB.out) hb); clear HB; have HB := n0_; clear n0_; (try clear hb); (try clear hb2); (try clear hk); (try clear hi))); go_ret2; exact ⟨qE, qK0 HB.out⟩
        ·rw [if_neg c15] at H; have c15b0 : (t338.toList == a0.toList) = false := beq_eq_false_iff_ne.mpr c15; have c15b1 : (t338.toList != a0.toList) = true := bne_iff_ne.mpr c15; simp only [Option.some.injEq, Prod.mk.injEq] at H; obtain ⟨rfl, rfl⟩ := H; go_wp2_with (first | ((with_reducible refine gate_callee (f := 46) rfl ?_); refine goesL_ (some 49) rfl rfl Tryz.func46 (by kernel_rfl) rfl #[.int .i64 (wrap64 (-x5_2))] rfl (by (try simp only [List.map_toArray, List.map_cons, List.map_nil]); first | done | rfl | (simp only [List.length_drop, List.length_take]; rfl)) ?_; (with_reducible refine (impl_Decimal.calls (wrap64 (-x5_2)) t338 _ A14.out (HT.out.below (qK0 HB.out))).mono ?_); rintro e w17 ⟨rfl, hb⟩; refine ⟨_, rfl, ?_⟩; have n0_ := A' (W' (qK0 HB.out) hb); clear HB; have HB := n0_; clear n0_; (try clear hb); (try clear hb2); (try clear hk); (try clear hi))); go_ret2; exact ⟨qE, qK0 HB.out⟩
       ·rw [if_neg c13] at H; have c13b0 : decide ((t337.size : Int) < (a0.size : Int)) = false := dF' c13; have c13b1 : decide (t337.size < a0.size) = false := dF' (fun h => c13 (Int.ofNat_lt.mpr h)); clear c13; replace H := Option.bind_eq_some_iff.mp H; obtain ⟨t339, A180, H⟩ := H; replace H : (if t339.toList = a0.toList then (some (x5_2, true)) else (some (0, false))) = some (r1, r2) := H; have A18 := A' A180; clear A180
        by_cases c19 : t339.toList = a0.toList
        ·rw [if_pos c19] at H; have c19b0 : (t339.toList == a0.toList) = true := beq_iff_eq.mpr c19; have c19b1 : (t339.toList != a0.toList) = false := bne_eq_false_iff_eq.mpr c19; clear c19; simp only [Option.some.injEq, Prod.mk.injEq] at H; obtain ⟨rfl, rfl⟩ := H; go_wp2_with (first | ((with_reducible refine gate_callee (f := 46) rfl ?_); refine goesL_ (some 49) rfl rfl Tryz.func46 (by kernel_rfl) rfl #[.int .i64 x5_2] rfl (by (try simp only [List.map_toArray, List.map_cons, List.map_nil]); first | done | rfl | (simp only [List.length_drop, List.length_take]; rfl)) ?_; (with_reducible refine (impl_Decimal.calls x5_2 t339 _ A18.out (HT.out.below (qK0 HB.out))).mono ?_); rintro e w20 ⟨rfl, hb⟩; refine ⟨_, rfl, ?_⟩; have n0_ := A' (W' (qK0 HB.out) hb); clear HB; have HB := n0_; clear n0_; (try clear hb); (try clear hb2); (try clear hk); (try clear hi))); go_ret2; exact ⟨qE, qK0 HB.out⟩
        ·rw [if_neg c19] at H; have c19b0 : (t339.toList == a0.toList) = false := beq_eq_false_iff_ne.mpr c19; have c19b1 : (t339.toList != a0.toList) = true := bne_iff_ne.mpr c19; simp only [Option.some.injEq, Prod.mk.injEq] at H; obtain ⟨rfl, rfl⟩ := H; go_wp2_with (first | ((with_reducible refine gate_callee (f := 46) rfl ?_); refine goesL_ (some 49) rfl rfl Tryz.func46 (by kernel_rfl) rfl #[.int .i64 x5_2] rfl (by (try simp only [List.map_toArray, List.map_cons, List.map_nil]); first | done | rfl | (simp only [List.length_drop, List.length_take]; rfl)) ?_; (with_reducible refine (impl_Decimal.calls x5_2 t339 _ A18.out (HT.out.below (qK0 HB.out))).mono ?_); rintro e w21 ⟨rfl, hb⟩; refine ⟨_, rfl, ?_⟩; have n0_ := A' (W' (qK0 HB.out) hb); clear HB; have HB := n0_; clear n0_; (try clear hb); (try clear hb2); (try clear hk); (try clear hi))); go_ret2; exact ⟨qE, qK0 HB.out⟩

/-! ### impl_ReadTackle: function 20 -/
def impl_ReadTackle.l0 : Nat → List (S35) → List ByteArray → Int → Int → Option ((List (S35)) × Bool)
 | 0, _, _, _, _ => none
 | k + 1, x4, x14, x15, x16 => if x16 < x15 then (if 0 ≤ x16 then (if x16 < (x14.length : Int) then ((strings_IndexAny.f (rdOf ByteArray.empty x14 x16) (⟨#[60, 62]⟩ : ByteArray)).bind fun t348 => (if t348 < 0 then (some (([] : List (S35)), false)) else (if 0 ≤ t348 then (if t348 ≤ ((rdOf ByteArray.empty x14 x16).size : Int) then ((impl_ReadDecimal.f k ((rdOf ByteArray.empty x14 x16).extract 0 (t348 : Int).toNat)).bind fun bt349 => (if 0 ≤ (wrap64 (t348 + 1)) then (if (wrap64 (t348 + 1)) ≤ ((rdOf ByteArray.empty x14 x16).size : Int) then ((impl_ReadDecimal.f k ((rdOf ByteArray.empty x14 x16).extract ((wrap64 (t348 + 1)) : Int).toNat (rdOf ByteArray.empty x14 x16).size)).bind fun bt351 => (if bt349.2 = true then (if bt351.2 = true then (if t348 < ((rdOf ByteArray.empty x14 x16).size : Int) then (if x4.length < 5864062014805 then (impl_ReadTackle.l0 k (x4 ++ [(⟨bt349.1, bt351.1, ((bt (rdOf ByteArray.empty x14 x16) t348) == 62)⟩ : S35)]) x14 x15 (wrap64 (x16 + 1))) else (none)) else (none)) else (some (([] : List (S35)), false))) else (some (([] : List (S35)), false)))) else (none)) else (none))) else (none)) else (none)))) else (none)) else (none)) else ((impl_ValidTackle.f k x4).bind fun t346 => (if t346 = true then (some (x4, true)) else (some (([] : List (S35)), false))))
def impl_ReadTackle.f (k : Nat) (a0 : ByteArray) : Option ((List (S35)) × Bool) := (strings_Split.f a0 (⟨#[32]⟩ : ByteArray)).bind fun t343 => (impl_ReadTackle.l0 k (([] : List (S35))) t343 (t343.length : Int) 0)
theorem impl_ReadTackle.mono_l : ∀ k, (∀ y0 y1 y2 y3, LeO (impl_ReadTackle.l0 k y0 y1 y2 y3) (impl_ReadTackle.l0 (k + 1) y0 y1 y2 y3))
 | 0 => fun _ _ _ _ r h => by simp [impl_ReadTackle.l0] at h
 | k + 1 => by
  have ih0 := impl_ReadTackle.mono_l k
  ·intro y0 y1 y2 y3
   unfold impl_ReadTackle.l0
   repeat' first
   | (with_reducible exact ih0 _ _ _ _)
   | (with_reducible exact impl_ReadDecimal.mono _ _)
   | (with_reducible exact impl_ValidTackle.mono _ _)
   | (with_reducible exact LeO.refl _)
   | (with_reducible exact LeO.none _)
   | (with_reducible refine LeO.ite ?_ ?_)
   | (with_reducible refine LeO.bind ?_ (fun _ => ?_))
   | exact ih0 _ _ _ _
   | exact impl_ReadDecimal.mono _ _
   | exact impl_ValidTackle.mono _ _
   | exact LeO.none _
   | refine LeO.ite ?_ ?_
   | refine LeO.bind ?_ (fun _ => ?_)
theorem impl_ReadTackle.mono : ∀ a0 k, LeO (impl_ReadTackle.f k a0) (impl_ReadTackle.f (k + 1) a0) := by
 intro a0 k
 have ih0 := impl_ReadTackle.mono_l k
 unfold impl_ReadTackle.f
 repeat' first
   | (with_reducible exact ih0 _ _ _ _)
   | (with_reducible exact impl_ReadDecimal.mono _ _)
   | (with_reducible exact impl_ValidTackle.mono _ _)
   | (with_reducible exact LeO.refl _)
   | (with_reducible exact LeO.none _)
   | (with_reducible refine LeO.ite ?_ ?_)
   | (with_reducible refine LeO.bind ?_ (fun _ => ?_))
   | exact ih0 _ _ _ _
   | exact impl_ReadDecimal.mono _ _
   | exact impl_ValidTackle.mono _ _
   | exact LeO.none _
   | refine LeO.ite ?_ ?_
   | refine LeO.bind ?_ (fun _ => ?_)
set_option maxHeartbeats 8000000 in
set_option maxRecDepth 100000 in
theorem impl_ReadTackle.calls (k : Nat) (a0 : ByteArray) (r1 : List (S35)) (r2 : Bool) (w : World) (h : impl_ReadTackle.f k a0 = some (r1, r2)) (hT : LwT w) :
  Calls Tryz.prog 20 #[.string a0] w fun e w' => ∃ v0_ : Value, e = .returned (.tuple #[v0_, .bool r2]) ∧ Kd.R k35 35 w' w.heap.size (fun _ => True) v0_ r1 ∧ Below w.heap.size w w' := by
 have HT := A' hT; clear hT; have hu35 := Tryz.underlying35; have HB := A' (Below.refl w.heap.size w); have H : ((strings_Split.f a0 (⟨#[32]⟩ : ByteArray)).bind fun t343 => (impl_ReadTackle.l0 k (([] : List (S35))) t343 (t343.length : Int) 0)) = some (r1, r2) := h; clear h; obtain ⟨y340, hy340⟩ : ∃ y_ : List (S35), y_ = (([] : List (S35))) := ⟨_, rfl⟩
 replace H : ((strings_Split.f a0 (⟨#[32]⟩ : ByteArray)).bind fun t343 => (impl_ReadTackle.l0 k y340 t343 (t343.length : Int) 0)) = some (r1, r2) := by first | (rw [hy340]; with_reducible exact H) | (have H2_ := (Option.bind_some _ _).symm.trans H; rw [hy340]; with_reducible exact H2_) | (have H2_ := (Option.bind_some _ _).symm.trans H; with_reducible exact H2_) | with_reducible exact H | (rw [hy340]; exact H) | exact H
 have Ny340 := A' hy340; clear hy340; replace H := Option.bind_eq_some_iff.mp H; obtain ⟨t343, A20, H⟩ := H; replace H : (impl_ReadTackle.l0 k y340 t343 (t343.length : Int) 0) = some (r1, r2) := H; have A2 := A' A20; clear A20; have H' := A' H; clear H; go_enter Tryz.func20, Tryz.ntmps20; go_wp2_with (first | ((with_reducible refine gate_dst (N := 12) rfl ?_); refine Kd.R_lit k35 _ 35 ?hg (N := 12) ?hd (xs := ([] : List (S35))) (inner := []) (ok := fun _ => True) (okp := fun _ => True) ?hr ?hp (fun _ hk => hk) trivial (Below.refl _ _) (Nat.le_refl _) (by simp) ?_; (case hd => rfl); (case hg => rfl); (case hr => first | (go_simp; done) | (go_simp; rfl)); (case hp => exact (Reps.none _ _)); intro v341 w3 ho4 hb hg_ hnew_; clear hg_ hnew_; (first | rw [← Ny340.out] at ho4 | (simp only [Int.reduceToNat] at ho4; rw [← Ny340.out] at ho4)); have n0_ := A' (Kd.R_lower ho4 (V' (qK0 HB.out))); have n1_ := A' (W' (qK0 HB.out) hb); clear HB; have HO342 := n0_; have HB := n1_; clear n0_ n1_; clear hb ho4) | ((with_reducible refine gate_callee (f := 48) rfl ?_); refine goesL_ (some 14) rfl rfl Tryz.func48 (by kernel_rfl) rfl #[.string a0, .string (⟨#[32]⟩ : ByteArray)] rfl (by (try simp only [List.map_toArray, List.map_cons, List.map_nil]); first | done | rfl | (simp only [List.length_drop, List.length_take]; rfl)) ?_; (with_reducible refine (strings_Split.calls a0 (⟨#[32]⟩ : ByteArray) t343 _ A2.out (HT.out.below (qK0 HB.out))).mono ?_); rintro e w5 ⟨v344, rfl, ho0, hb⟩; refine ⟨_, rfl, ?_⟩; have n0_ := A' (L' (qR HO342.out) hb); have n1_ := A' (Kd.R_lower ho0 (V' (qK0 HB.out))); have n2_ := A' (W' (qK0 HB.out) hb); clear HO342; clear HB; have HO342 := n0_; have HO345 := n1_; have HB := n2_; clear n0_ n1_ n2_; (try clear hb); (try clear hb2); (try clear hk); (try clear hi); (try clear ho0); obtain ⟨Ao6, co6, eo6⟩ := Kd.R_slice HO345.out; subst eo6))
 go_loopg [4, 16] k (fun kq v4 v16 w' => ∃ (x4_1 : List (S35)) (x16_1 : Int), v16 = .int .i64 x16_1 ∧ Aside0 (impl_ReadTackle.l0 kq x4_1 t343 (t343.length : Int) x16_1 = some (r1, r2)) ∧ Aside0 (kq ≤ k) ∧ Aside0 (Kd.R k35 35 w' w.heap.size (fun _ => True) v4 x4_1) ∧ Aside0 (Kd.R Kd.string 9 w' w.heap.size (fun _ => True) (.slice Ao6 t343.length co6) t343) ∧ Aside0 (Below w.heap.size w w'))
 case atStart => exact ⟨(y340), (0), qS, H', ⟨Nat.le_refl _⟩, ⟨qR HO342.out⟩, ⟨qR HO345.out⟩, ⟨qK0 HB.out⟩⟩
 case round =>
  clear H'; try clear c2
  try clear p2
  try clear c4
  obtain ⟨x4_1, x16_1, rfl, HA, HK1, HO_4, HO_14, HB⟩ := hrel
  cases gk with
  | zero => exact absurd HA.out (by simp [impl_ReadTackle.l0])
  | succ k1 =>
   have H := HA.out; clear HA; simp only [impl_ReadTackle.l0] at H
   by_cases c7 : x16_1 < (t343.length : Int)
   ·rw [if_pos c7] at H; have c7b0 : decide (x16_1 < (t343.length : Int)) = true := dT' c7; clear c7
    by_cases c8 : 0 ≤ x16_1
    ·rw [if_pos c8] at H; have c8b0 : decide (0 ≤ x16_1) = true := dT' c8; clear c8
     by_cases c9 : x16_1 < (t343.length : Int)
     ·rw [if_pos c9] at H; have c9b0 : decide (x16_1 < (t343.length : Int)) = true := dT' c9; clear c9; replace H := Option.bind_eq_some_iff.mp H; obtain ⟨t348, A100, H⟩ := H; replace H : (if t348 < 0 then (some (([] : List (S35)), false)) else (if 0 ≤ t348 then (if t348 ≤ ((rdOf ByteArray.empty t343 x16_1).size : Int) then ((impl_ReadDecimal.f k1 ((rdOf ByteArray.empty t343 x16_1).extract 0 (t348 : Int).toNat)).bind fun bt349 => (if 0 ≤ (wrap64 (t348 + 1)) then (if (wrap64 (t348 + 1)) ≤ ((rdOf ByteArray.empty t343 x16_1).size : Int) then ((impl_ReadDecimal.f k1 ((rdOf ByteArray.empty t343 x16_1).extract ((wrap64 (t348 + 1)) : Int).toNat (rdOf ByteArray.empty t343 x16_1).size)).bind fun bt351 => (if bt349.2 = true then (if bt351.2 = true then (if t348 < ((rdOf ByteArray.empty t343 x16_1).size : Int) then (if x4_1.length < 5864062014805 then (impl_ReadTackle.l0 k1 (x4_1 ++ [(⟨bt349.1, bt351.1, ((bt (rdOf ByteArray.empty t343 x16_1) t348) == 62)⟩ : S35)]) t343 (t343.length : Int) (wrap64 (x16_1 + 1))) else (none)) else (none)) else (some (([] : List (S35)), false))) else (some (([] : List (S35)), false)))) else (none)) else (none))) else (none)) else (none))) = some (r1, r2) := H; have A10 := A' A100; clear A100
      by_cases c11 : t348 < 0
      ·rw [if_pos c11] at H; have c11b0 : decide (t348 < 0) = true := dT' c11; clear c11; simp only [Option.some.injEq, Prod.mk.injEq] at H; obtain ⟨rfl, rfl⟩ := H; have p347 : 0 ≤ (x16_1 : Int) := oD' qA; have q347 : x16_1 < (t343.length : Int) := oD' qA; obtain ⟨ad347, e347, hx347_0⟩ := Kd.at_string (Kd.R_reads' HO_14.out).2.2 x16_1 p347 q347
       cases e347
       replace p347 := eq_true p347; replace q347 := eq_true q347; go_wp2_with (first | ((with_reducible refine gate_callee (f := 49) rfl ?_); refine goesL_ (some 21) rfl rfl Tryz.func49 (by kernel_rfl) rfl #[.string (rdOf ByteArray.empty t343 x16_1), .string (⟨#[60, 62]⟩ : ByteArray)] rfl (by (try simp only [List.map_toArray, List.map_cons, List.map_nil]); first | done | rfl | (simp only [List.length_drop, List.length_take]; rfl)) ?_; (with_reducible refine (strings_IndexAny.calls (rdOf ByteArray.empty t343 x16_1) (⟨#[60, 62]⟩ : ByteArray) t348 _ A10.out).mono ?_); rintro e w12 ⟨rfl, hb⟩; refine ⟨_, rfl, ?_⟩; have n0_ := A' (L' (qR HO_4.out) hb); have n1_ := A' (L' (qR HO_14.out) hb); have n2_ := A' (W' (qK0 HB.out) hb); clear HO_4; clear HO_14; clear HB; have HO_4 := n0_; have HO_14 := n1_; have HB := n2_; clear n0_ n1_ n2_; (try clear hb); (try clear hb2); (try clear hk); (try clear hi))); go_ret2; exact ⟨_, qE, by first | exact Kd.R_nil _ _ _ _ _ | exact Kd.N_nil _ _ _ _ _ | exact Kd.V_nil _ _ _ _ _ | exact Kd.Q_nil _ _ _ _ _ | exact Kd.S_nil _ _ _ _ _, qK0 HB.out⟩
      ·rw [if_neg c11] at H; have c11b0 : decide (t348 < 0) = false := dF' c11; clear c11
       by_cases c13 : 0 ≤ t348
       ·rw [if_pos c13] at H; have c13b0 := eq_true c13; have c13b1 : decide (0 ≤ t348) = true := dT' c13; clear c13
        by_cases c14 : t348 ≤ ((rdOf ByteArray.empty t343 x16_1).size : Int)
        ·rw [if_pos c14] at H; have c14b0 := eq_true c14; have c14b1 : decide (t348 ≤ ((rdOf ByteArray.empty t343 x16_1).size : Int)) = true := dT' c14; clear c14; replace H := Option.bind_eq_some_iff.mp H; obtain ⟨⟨t349, t350⟩, A150, H⟩ := H; replace H : (if 0 ≤ (wrap64 (t348 + 1)) then (if (wrap64 (t348 + 1)) ≤ ((rdOf ByteArray.empty t343 x16_1).size : Int) then ((impl_ReadDecimal.f k1 ((rdOf ByteArray.empty t343 x16_1).extract ((wrap64 (t348 + 1)) : Int).toNat (rdOf ByteArray.empty t343 x16_1).size)).bind fun bt351 => (if t350 = true then (if bt351.2 = true then (if t348 < ((rdOf ByteArray.empty t343 x16_1).size : Int) then (if x4_1.length < 5864062014805 then (impl_ReadTackle.l0 k1 (x4_1 ++ [(⟨t349, bt351.1, ((bt (rdOf ByteArray.empty t343 x16_1) t348) == 62)⟩ : S35)]) t343 (t343.length : Int) (wrap64 (x16_1 + 1))) else (none)) else (none)) else (some (([] : List (S35)), false))) else (some (([] : List (S35)), false)))) else (none)) else (none)) = some (r1, r2) := H; have A15 := A' A150; clear A150; obtain ⟨ji16, hji16⟩ : ∃ j_ : Int, (wrap64 (t348 + 1)) = j_ := ⟨_, rfl⟩
         replace H : (if 0 ≤ (ji16) then (if (ji16) ≤ ((rdOf ByteArray.empty t343 x16_1).size : Int) then ((impl_ReadDecimal.f k1 ((rdOf ByteArray.empty t343 x16_1).extract ((ji16) : Int).toNat (rdOf ByteArray.empty t343 x16_1).size)).bind fun bt351 => (if t350 = true then (if bt351.2 = true then (if t348 < ((rdOf ByteArray.empty t343 x16_1).size : Int) then (if x4_1.length < 5864062014805 then (impl_ReadTackle.l0 k1 (x4_1 ++ [(⟨t349, bt351.1, ((bt (rdOf ByteArray.empty t343 x16_1) t348) == 62)⟩ : S35)]) t343 (t343.length : Int) (wrap64 (x16_1 + 1))) else (none)) else (none)) else (some (([] : List (S35)), false))) else (some (([] : List (S35)), false)))) else (none)) else (none)) = some (r1, r2) := by first | (rw [hji16] at H; exact H) | (simp only [hji16] at H ⊢; exact H)
         (try rw [hji16] at A10); (try rw [hji16] at A15); have hji16w : (IntKind.i64.wrap (t348 + 1)) = ji16 := (i64_w _).trans hji16
         by_cases c17 : 0 ≤ (ji16)
         ·rw [if_pos c17] at H; have c17b0 := eq_true c17; have c17b1 : decide (0 ≤ (ji16)) = true := dT' c17; clear c17
          by_cases c18 : (ji16) ≤ ((rdOf ByteArray.empty t343 x16_1).size : Int)
          ·rw [if_pos c18] at H; have c18b0 := eq_true c18; have c18b1 : decide ((ji16) ≤ ((rdOf ByteArray.empty t343 x16_1).size : Int)) = true := dT' c18; clear c18; replace H := Option.bind_eq_some_iff.mp H; obtain ⟨⟨t351, t352⟩, A190, H⟩ := H; replace H : (if t350 = true then (if t352 = true then (if t348 < ((rdOf ByteArray.empty t343 x16_1).size : Int) then (if x4_1.length < 5864062014805 then (impl_ReadTackle.l0 k1 (x4_1 ++ [(⟨t349, t351, ((bt (rdOf ByteArray.empty t343 x16_1) t348) == 62)⟩ : S35)]) t343 (t343.length : Int) (wrap64 (x16_1 + 1))) else (none)) else (none)) else (some (([] : List (S35)), false))) else (some (([] : List (S35)), false))) = some (r1, r2) := H; have A19 := A' A190; clear A190
           by_cases c20 : t350 = true
           ·subst c20; have H1 : (if t352 = true then (if t348 < ((rdOf ByteArray.empty t343 x16_1).size : Int) then (if x4_1.length < 5864062014805 then (impl_ReadTackle.l0 k1 (x4_1 ++ [(⟨t349, t351, ((bt (rdOf ByteArray.empty t343 x16_1) t348) == 62)⟩ : S35)]) t343 (t343.length : Int) (wrap64 (x16_1 + 1))) else (none)) else (none)) else (some (([] : List (S35)), false))) = some (r1, r2) := by rw [if_pos rfl] at H; exact H
            clear H; have H := H1; clear H1
            by_cases c21 : t352 = true
            ·subst c21; have H1 : (if t348 < ((rdOf ByteArray.empty t343 x16_1).size : Int) then (if x4_1.length < 5864062014805 then (impl_ReadTackle.l0 k1 (x4_1 ++ [(⟨t349, t351, ((bt (rdOf ByteArray.empty t343 x16_1) t348) == 62)⟩ : S35)]) t343 (t343.length : Int) (wrap64 (x16_1 + 1))) else (none)) else (none)) = some (r1, r2) := by rw [if_pos rfl] at H; exact H
             clear H; have H := H1; clear H1
             by_cases c22 : t348 < ((rdOf ByteArray.empty t343 x16_1).size : Int)
             ·rw [if_pos c22] at H; have c22b0 : decide (t348 < ((rdOf ByteArray.empty t343 x16_1).size : Int)) = true := dT' c22; clear c22
              by_cases c24 : x4_1.length < 5864062014805
              ·rw [if_pos c24] at H; have LMc24 := A' c24; clear c24; obtain ⟨y353, hy353⟩ : ∃ y_ : List (S35), y_ = (x4_1 ++ [(⟨t349, t351, ((bt (rdOf ByteArray.empty t343 x16_1) t348) == 62)⟩ : S35)]) := ⟨_, rfl⟩
               replace H : (impl_ReadTackle.l0 k1 y353 t343 (t343.length : Int) (wrap64 (x16_1 + 1))) = some (r1, r2) := by first | (rw [hy353]; with_reducible exact H) | (have H2_ := (Option.bind_some _ _).symm.trans H; rw [hy353]; with_reducible exact H2_) | (have H2_ := (Option.bind_some _ _).symm.trans H; with_reducible exact H2_) | with_reducible exact H | (rw [hy353]; exact H) | exact H
               have Ny353 := A' hy353; clear hy353; have H' := A' H; clear H; have p347 : 0 ≤ (x16_1 : Int) := oD' qA; have q347 : x16_1 < (t343.length : Int) := oD' qA; obtain ⟨ad347, e347, hx347_0⟩ := Kd.at_string (Kd.R_reads' HO_14.out).2.2 x16_1 p347 q347
               cases e347
               replace p347 := eq_true p347; replace q347 := eq_true q347; go_wp2_with (first | ((with_reducible refine gate_callee (f := 49) rfl ?_); refine goesL_ (some 21) rfl rfl Tryz.func49 (by kernel_rfl) rfl #[.string (rdOf ByteArray.empty t343 x16_1), .string (⟨#[60, 62]⟩ : ByteArray)] rfl (by (try simp only [List.map_toArray, List.map_cons, List.map_nil]); first | done | rfl | (simp only [List.length_drop, List.length_take]; rfl)) ?_; (with_reducible refine (strings_IndexAny.calls (rdOf ByteArray.empty t343 x16_1) (⟨#[60, 62]⟩ : ByteArray) t348 _ A10.out).mono ?_); rintro e w25 ⟨rfl, hb⟩; refine ⟨_, rfl, ?_⟩; have n0_ := A' (L' (qR HO_4.out) hb); have n1_ := A' (L' (qR HO_14.out) hb); have n2_ := A' (W' (qK0 HB.out) hb); clear HO_4; clear HO_14; clear HB; have HO_4 := n0_; have HO_14 := n1_; have HB := n2_; clear n0_ n1_ n2_; (try clear hb); (try clear hb2); (try clear hk); (try clear hi)) | ((with_reducible refine gate_callee (f := 50) rfl ?_); refine goesL_ (some 28) rfl rfl Tryz.func50 (by kernel_rfl) rfl #[.string ((rdOf ByteArray.empty t343 x16_1).extract 0 (t348 : Int).toNat)] rfl (by (try simp only [List.map_toArray, List.map_cons, List.map_nil]); first | done | rfl | (simp only [List.length_drop, List.length_take]; rfl)) ?_; (with_reducible refine (impl_ReadDecimal.calls k1 ((rdOf ByteArray.empty t343 x16_1).extract 0 (t348 : Int).toNat) t349 true _ A15.out (HT.out.below (qK0 HB.out))).mono ?_); rintro e w26 ⟨rfl, hb⟩; refine ⟨_, rfl, ?_⟩; have n0_ := A' (L' (qR HO_4.out) hb); have n1_ := A' (L' (qR HO_14.out) hb); have n2_ := A' (W' (qK0 HB.out) hb); clear HO_4; clear HO_14; clear HB; have HO_4 := n0_; have HO_14 := n1_; have HB := n2_; clear n0_ n1_ n2_; (try clear hb); (try clear hb2); (try clear hk); (try clear hi)) | ((with_reducible refine gate_callee (f := 50) rfl ?_); refine goesL_ (some 36) rfl rfl Tryz.func50 (by kernel_rfl) rfl #[.string ((rdOf ByteArray.empty t343 x16_1).extract ((ji16) : Int).toNat (rdOf ByteArray.empty t343 x16_1).size)] rfl (by (try simp only [List.map_toArray, List.map_cons, List.map_nil]); first | done | (simp only [hji16]; rfl) | rfl | (simp only [List.length_drop, List.length_take]; rfl)) ?_; (with_reducible refine (impl_ReadDecimal.calls k1 ((rdOf ByteArray.empty t343 x16_1).extract ((ji16) : Int).toNat (rdOf ByteArray.empty t343 x16_1).size) t351 true _ A19.out (HT.out.below (qK0 HB.out))).mono ?_); rintro e w27 ⟨rfl, hb⟩; refine ⟨_, rfl, ?_⟩; have n0_ := A' (L' (qR HO_4.out) hb); have n1_ := A' (L' (qR HO_14.out) hb); have n2_ := A' (W' (qK0 HB.out) hb); clear HO_4; clear HO_14; clear HB; have HO_4 := n0_; have HO_14 := n1_; have HB := n2_; clear n0_ n1_ n2_; (try clear hb); (try clear hb2); (try clear hk); (try clear hi); have p23 : 0 ≤ (t348 : Int) := oD' qA; have q23 : t348 < ((rdOf ByteArray.empty t343 x16_1).size : Int) := oD' qA; have hx23 := bt_at (rdOf ByteArray.empty t343 x16_1) t348; replace p23 := eq_true p23; replace q23 := eq_true q23) | ((with_reducible refine gate_builtin (b := .append) (xs := #[.tmp 45, .tmp 53]) rfl ?_); at_builtin; refine Kd.R_append k35 (w0 := w) w.heap.size rfl (.tmp 45) (.tmp 53) 24 35 (.agg #[(.int .i64 0), (.int .i64 0), (.bool false)]) 24 rfl Tryz.underlying24 info35 rfl (by decide) (by omega) u4 x4_1 (⟨t349, t351, ((bt (rdOf ByteArray.empty t343 x16_1) t348) == 62)⟩ : S35) [.int .i64 t349, .int .i64 t351, .bool ((bt (rdOf ByteArray.empty t343 x16_1) t348) == 62)] (fun _ => True) (fun _ => False) rfl rfl ?aP (fun _ hk => hk.elim) ?aF ?aO ?aB ?aS ?aL ?_; (case aP => exact k35_mkM _ _ _ (⟨t349, t351, ((bt (rdOf ByteArray.empty t343 x16_1) t348) == 62)⟩ : S35)); (case aB => exact (qK0 HB.out)); (case aF => exact (fun _ _ => trivial)); (case aO => exact (qR HO_4.out)); (case aS => exact (V' (qK0 HB.out))); (case aL => have := LMc24.out; omega); intro v354 w28 ho hb hg hat; rw [← Ny353.out] at ho; have n0_ := A' (Kd.R_over' (qR HO_14.out) (Kd.R_typed (qR HO_4.out)) (by decide) hg); have n1_ := A' (hb); have n2_ := A' (ho); clear HO_14; clear HB; clear HO_4; have HO_14 := n0_; have HB := n1_; have HO355 := n2_; clear n0_ n1_ n2_; clear ho hb hg hat))
               go_roundg k1
               case measure => have := HK1.out; omega
               case rel => exact ⟨(y353), (wrap64 (x16_1 + 1)), qS, H', ⟨by have := HK1.out; omega⟩, ⟨qR HO355.out⟩, ⟨qR HO_14.out⟩, ⟨qK0 HB.out⟩⟩
              ·rw [if_neg c24] at H; exact absurd H (by simp)
             ·rw [if_neg c22] at H; exact absurd H (by simp)
            ·replace c21 := Bool.eq_false_iff.mpr c21; subst c21; have H1 : (some (([] : List (S35)), false)) = some (r1, r2) := by rw [if_neg (show ¬ (false = true) by decide)] at H; exact H
             clear H; have H := H1; clear H1; simp only [Option.some.injEq, Prod.mk.injEq] at H; obtain ⟨rfl, rfl⟩ := H; have p347 : 0 ≤ (x16_1 : Int) := oD' qA; have q347 : x16_1 < (t343.length : Int) := oD' qA; obtain ⟨ad347, e347, hx347_0⟩ := Kd.at_string (Kd.R_reads' HO_14.out).2.2 x16_1 p347 q347
             cases e347
             replace p347 := eq_true p347; replace q347 := eq_true q347; go_wp2_with (first | ((with_reducible refine gate_callee (f := 49) rfl ?_); refine goesL_ (some 21) rfl rfl Tryz.func49 (by kernel_rfl) rfl #[.string (rdOf ByteArray.empty t343 x16_1), .string (⟨#[60, 62]⟩ : ByteArray)] rfl (by (try simp only [List.map_toArray, List.map_cons, List.map_nil]); first | done | rfl | (simp only [List.length_drop, List.length_take]; rfl)) ?_; (with_reducible refine (strings_IndexAny.calls (rdOf ByteArray.empty t343 x16_1) (⟨#[60, 62]⟩ : ByteArray) t348 _ A10.out).mono ?_); rintro e w29 ⟨rfl, hb⟩; refine ⟨_, rfl, ?_⟩; have n0_ := A' (L' (qR HO_4.out) hb); have n1_ := A' (L' (qR HO_14.out) hb); have n2_ := A' (W' (qK0 HB.out) hb); clear HO_4; clear HO_14; clear HB; have HO_4 := n0_; have HO_14 := n1_; have HB := n2_; clear n0_ n1_ n2_; (try clear hb); (try clear hb2); (try clear hk); (try clear hi)) | ((with_reducible refine gate_callee (f := 50) rfl ?_); refine goesL_ (some 28) rfl rfl Tryz.func50 (by kernel_rfl) rfl #[.string ((rdOf ByteArray.empty t343 x16_1).extract 0 (t348 : Int).toNat)] rfl (by (try simp only [List.map_toArray, List.map_cons, List.map_nil]); first | done | rfl | (simp only [List.length_drop, List.length_take]; rfl)) ?_; (with_reducible refine (impl_ReadDecimal.calls k1 ((rdOf ByteArray.empty t343 x16_1).extract 0 (t348 : Int).toNat) t349 true _ A15.out (HT.out.below (qK0 HB.out))).mono ?_); rintro e w30 ⟨rfl, hb⟩; refine ⟨_, rfl, ?_⟩; have n0_ := A' (L' (qR HO_4.out) hb); have n1_ := A' (L' (qR HO_14.out) hb); have n2_ := A' (W' (qK0 HB.out) hb); clear HO_4; clear HO_14; clear HB; have HO_4 := n0_; have HO_14 := n1_; have HB := n2_; clear n0_ n1_ n2_; (try clear hb); (try clear hb2); (try clear hk); (try clear hi)) | ((with_reducible refine gate_callee (f := 50) rfl ?_); refine goesL_ (some 36) rfl rfl Tryz.func50 (by kernel_rfl) rfl #[.string ((rdOf ByteArray.empty t343 x16_1).extract ((ji16) : Int).toNat (rdOf ByteArray.empty t343 x16_1).size)] rfl (by (try simp only [List.map_toArray, List.map_cons, List.map_nil]); first | done | (simp only [hji16]; rfl) | rfl | (simp only [List.length_drop, List.length_take]; rfl)) ?_; (with_reducible refine (impl_ReadDecimal.calls k1 ((rdOf ByteArray.empty t343 x16_1).extract ((ji16) : Int).toNat (rdOf ByteArray.empty t343 x16_1).size) t351 false _ A19.out (HT.out.below (qK0 HB.out))).mono ?_); rintro e w31 ⟨rfl, hb⟩; refine ⟨_, rfl, ?_⟩; have n0_ := A' (L' (qR HO_4.out) hb); have n1_ := A' (L' (qR HO_14.out) hb); have n2_ := A' (W' (qK0 HB.out) hb); clear HO_4; clear HO_14; clear HB; have HO_4 := n0_; have HO_14 := n1_; have HB := n2_; clear n0_ n1_ n2_; (try clear hb); (try clear hb2); (try clear hk); (try clear hi))); go_ret2; exact ⟨_, by first | rfl | (simp [errW_none, errW_some] <;> rfl) | (simp only [← hji16]; first | rfl | (simp [errW_none, errW_some] <;> rfl)) | (simp [*, errW_none, errW_some] <;> rfl), by first | exact Kd.R_nil _ _ _ _ _ | exact Kd.N_nil _ _ _ _ _ | exact Kd.V_nil _ _ _ _ _ | exact Kd.Q_nil _ _ _ _ _ | exact Kd.S_nil _ _ _ _ _, qK0 HB.out⟩
           ·replace c20 := Bool.eq_false_iff.mpr c20; subst c20; have H1 : (some (([] : List (S35)), false)) = some (r1, r2) := by rw [if_neg (show ¬ (false = true) by decide)] at H; exact H
            clear H; have H := H1; clear H1; simp only [Option.some.injEq, Prod.mk.injEq] at H; obtain ⟨rfl, rfl⟩ := H; have p347 : 0 ≤ (x16_1 : Int) := oD' qA; have q347 : x16_1 < (t343.length : Int) := oD' qA; obtain ⟨ad347, e347, hx347_0⟩ := Kd.at_string (Kd.R_reads' HO_14.out).2.2 x16_1 p347 q347
            cases e347
            replace p347 := eq_true p347; replace q347 := eq_true q347; go_wp2_with (first | ((with_reducible refine gate_callee (f := 49) rfl ?_); refine goesL_ (some 21) rfl rfl Tryz.func49 (by kernel_rfl) rfl #[.string (rdOf ByteArray.empty t343 x16_1), .string (⟨#[60, 62]⟩ : ByteArray)] rfl (by (try simp only [List.map_toArray, List.map_cons, List.map_nil]); first | done | rfl | (simp only [List.length_drop, List.length_take]; rfl)) ?_; (with_reducible refine (strings_IndexAny.calls (rdOf ByteArray.empty t343 x16_1) (⟨#[60, 62]⟩ : ByteArray) t348 _ A10.out).mono ?_); rintro e w32 ⟨rfl, hb⟩; refine ⟨_, rfl, ?_⟩; have n0_ := A' (L' (qR HO_4.out) hb); have n1_ := A' (L' (qR HO_14.out) hb); have n2_ := A' (W' (qK0 HB.out) hb); clear HO_4; clear HO_14; clear HB; have HO_4 := n0_; have HO_14 := n1_; have HB := n2_; clear n0_ n1_ n2_; (try clear hb); (try clear hb2); (try clear hk); (try clear hi)) | ((with_reducible refine gate_callee (f := 50) rfl ?_); refine goesL_ (some 28) rfl rfl Tryz.func50 (by kernel_rfl) rfl #[.string ((rdOf ByteArray.empty t343 x16_1).extract 0 (t348 : Int).toNat)] rfl (by (try simp only [List.map_toArray, List.map_cons, List.map_nil]); first | done | rfl | (simp only [List.length_drop, List.length_take]; rfl)) ?_; (with_reducible refine (impl_ReadDecimal.calls k1 ((rdOf ByteArray.empty t343 x16_1).extract 0 (t348 : Int).toNat) t349 false _ A15.out (HT.out.below (qK0 HB.out))).mono ?_); rintro e w33 ⟨rfl, hb⟩; refine ⟨_, rfl, ?_⟩; have n0_ := A' (L' (qR HO_4.out) hb); have n1_ := A' (L' (qR HO_14.out) hb); have n2_ := A' (W' (qK0 HB.out) hb); clear HO_4; clear HO_14; clear HB; have HO_4 := n0_; have HO_14 := n1_; have HB := n2_; clear n0_ n1_ n2_; (try clear hb); (try clear hb2); (try clear hk); (try clear hi)) | ((with_reducible refine gate_callee (f := 50) rfl ?_); refine goesL_ (some 36) rfl rfl Tryz.func50 (by kernel_rfl) rfl #[.string ((rdOf ByteArray.empty t343 x16_1).extract ((ji16) : Int).toNat (rdOf ByteArray.empty t343 x16_1).size)] rfl (by (try simp only [List.map_toArray, List.map_cons, List.map_nil]); first | done | (simp only [hji16]; rfl) | rfl | (simp only [List.length_drop, List.length_take]; rfl)) ?_; (with_reducible refine (impl_ReadDecimal.calls k1 ((rdOf ByteArray.empty t343 x16_1).extract ((ji16) : Int).toNat (rdOf ByteArray.empty t343 x16_1).size) t351 t352 _ A19.out (HT.out.below (qK0 HB.out))).mono ?_); rintro e w34 ⟨rfl, hb⟩; refine ⟨_, rfl, ?_⟩; have n0_ := A' (L' (qR HO_4.out) hb); have n1_ := A' (L' (qR HO_14.out) hb); have n2_ := A' (W' (qK0 HB.out) hb); clear HO_4; clear HO_14; clear HB; have HO_4 := n0_; have HO_14 := n1_; have HB := n2_; clear n0_ n1_ n2_; (try clear hb); (try clear hb2); (try clear hk); (try clear hi))); go_ret2; exact ⟨_, by first | rfl | (simp [errW_none, errW_some] <;> rfl) | (simp only [← hji16]; first | rfl | (simp [errW_none, errW_some] <;> rfl)) | (simp [*, errW_none, errW_some] <;> rfl), by first | exact Kd.R_nil _ _ _ _ _ | exact Kd.N_nil _ _ _ _ _ | exact Kd.V_nil _ _ _ _ _ | exact Kd.Q_nil _ _ _ _ _ | exact Kd.S_nil _ _ _ _ _, qK0 HB.out⟩
          ·rw [if_neg c18] at H; exact absurd H (by simp)
         ·rw [if_neg c17] at H; exact absurd H (by simp)
        ·rw [if_neg c14] at H; exact absurd H (by simp)
       ·rw [if_neg c13] at H; exact absurd H (by simp)
     ·rw [if_neg c9] at H; exact absurd H (by simp)
    ·rw [if_neg c8] at H; exact absurd H (by simp)
   ·rw [if_neg c7] at H; have c7b0 : decide (x16_1 < (t343.length : Int)) = false := dF' c7; clear c7; replace H := Option.bind_eq_some_iff.mp H; obtain ⟨t346, A350, H⟩ := H; replace H : (if t346 = true then (some (x4_1, true)) else (some (([] : List (S35)), false))) = some (r1, r2) := H; have A35 := A' A350; clear A350
    by_cases c36 : t346 = true
    ·subst c36; have H1 : (some (x4_1, true)) = some (r1, r2) := by rw [if_pos rfl] at H; exact H
     clear H; have H := H1; clear H1; simp only [Option.some.injEq, Prod.mk.injEq] at H; obtain ⟨rfl, rfl⟩ := H; obtain ⟨Ao37, co37, eo37⟩ := Kd.R_slice HO_4.out; subst eo37; go_wp2_with (first | ((with_reducible refine gate_callee (f := 28) rfl ?_); refine goesL_ (some 57) rfl rfl Tryz.func28 (by kernel_rfl) rfl #[.slice Ao37 x4_1.length co37] rfl (by (try simp only [List.map_toArray, List.map_cons, List.map_nil]); first | done | rfl | (simp only [List.length_drop, List.length_take]; rfl)) ?_; (with_reducible refine (impl_ValidTackle.calls k1 _ _ x4_1 true _ ?side1 ?side2 A35.out).mono ?_); (case side1 => repeat (first | exact (Kd.R_reads' HO_4.out).2.2 | (with_reducible refine R' ?_ _) | (with_reducible refine S' ?_ _) | (with_reducible refine T' ?_))); (case side2 => exact (Kd.R_reads' HO_4.out).2.1); rintro e w38 ⟨rfl, hb⟩; refine ⟨_, rfl, ?_⟩; have n0_ := A' (L' (qR HO_4.out) hb); have n1_ := A' (L' (qR HO_14.out) hb); have n2_ := A' (W' (qK0 HB.out) hb); clear HO_4; clear HO_14; clear HB; have HO_4 := n0_; have HO_14 := n1_; have HB := n2_; clear n0_ n1_ n2_; (try clear hb); (try clear hb2); (try clear hk); (try clear hi))); go_ret2; exact ⟨_, qE, qR HO_4.out, qK0 HB.out⟩
    ·replace c36 := Bool.eq_false_iff.mpr c36; subst c36; have H1 : (some (([] : List (S35)), false)) = some (r1, r2) := by rw [if_neg (show ¬ (false = true) by decide)] at H; exact H
     clear H; have H := H1; clear H1; simp only [Option.some.injEq, Prod.mk.injEq] at H; obtain ⟨rfl, rfl⟩ := H; obtain ⟨Ao39, co39, eo39⟩ := Kd.R_slice HO_4.out; subst eo39; go_wp2_with (first | ((with_reducible refine gate_callee (f := 28) rfl ?_); refine goesL_ (some 57) rfl rfl Tryz.func28 (by kernel_rfl) rfl #[.slice Ao39 x4_1.length co39] rfl (by (try simp only [List.map_toArray, List.map_cons, List.map_nil]); first | done | rfl | (simp only [List.length_drop, List.length_take]; rfl)) ?_; (with_reducible refine (impl_ValidTackle.calls k1 _ _ x4_1 false _ ?side1 ?side2 A35.out).mono ?_); (case side1 => repeat (first | exact (Kd.R_reads' HO_4.out).2.2 | (with_reducible refine R' ?_ _) | (with_reducible refine S' ?_ _) | (with_reducible refine T' ?_))); (case side2 => exact (Kd.R_reads' HO_4.out).2.1); rintro e w40 ⟨rfl, hb⟩; refine ⟨_, rfl, ?_⟩; have n0_ := A' (L' (qR HO_4.out) hb); have n1_ := A' (L' (qR HO_14.out) hb); have n2_ := A' (W' (qK0 HB.out) hb); clear HO_4; clear HO_14; clear HB; have HO_4 := n0_; have HO_14 := n1_; have HB := n2_; clear n0_ n1_ n2_; (try clear hb); (try clear hb2); (try clear hk); (try clear hi))); go_ret2; exact ⟨_, qE, by first | exact Kd.R_nil _ _ _ _ _ | exact Kd.N_nil _ _ _ _ _ | exact Kd.V_nil _ _ _ _ _ | exact Kd.Q_nil _ _ _ _ _ | exact Kd.S_nil _ _ _ _ _, qK0 HB.out⟩

/-! ### spec_l01Dec: function 72 -/
def spec_l01Dec.l0 : Nat → Int → List Int → Int → Option (ByteArray)
 | 0, _, _, _ => none
 | k + 1, x0, x3, x4 => if x4 = 0 then (if (x3.length : Int) = 0 then (some (⟨#[48]⟩ : ByteArray)) else (if x0 < 0 then (if 1 + (strOfNums x3).size ≤ 9223372036854775807 then (some ((⟨#[45]⟩ : ByteArray) ++ (strOfNums x3))) else (none)) else (some (strOfNums x3)))) else (if (Int.tmod x4 10) < 0 then ((some (([(wrap64 (48 + (wrap64 (-(Int.tmod x4 10))))) % 256] : List Int) : List Int)).bind fun y359 => (if y359.length + x3.length < 140737488355328 then (spec_l01Dec.l0 k x0 (y359 ++ x3) (wrap64 (Int.tdiv x4 10))) else (none))) else ((some (([(wrap64 (48 + (Int.tmod x4 10))) % 256] : List Int) : List Int)).bind fun y365 => (if y365.length + x3.length < 140737488355328 then (spec_l01Dec.l0 k x0 (y365 ++ x3) (wrap64 (Int.tdiv x4 10))) else (none))))
def spec_l01Dec.f (k : Nat) (a0 : Int) : Option (ByteArray) := spec_l01Dec.l0 k a0 (([] : List Int)) a0
theorem spec_l01Dec.mono_l : ∀ k, (∀ y0 y1 y2, LeO (spec_l01Dec.l0 k y0 y1 y2) (spec_l01Dec.l0 (k + 1) y0 y1 y2))
 | 0 => fun _ _ _ r h => by simp [spec_l01Dec.l0] at h
 | k + 1 => by
  have ih0 := spec_l01Dec.mono_l k
  ·intro y0 y1 y2
   unfold spec_l01Dec.l0
   repeat' first
   | (with_reducible exact ih0 _ _ _)
   | (with_reducible exact LeO.refl _)
   | (with_reducible exact LeO.none _)
   | (with_reducible refine LeO.ite ?_ ?_)
   | (with_reducible refine LeO.bind ?_ (fun _ => ?_))
   | exact ih0 _ _ _
   | exact LeO.none _
   | refine LeO.ite ?_ ?_
   | refine LeO.bind ?_ (fun _ => ?_)
theorem spec_l01Dec.mono : ∀ a0 k, LeO (spec_l01Dec.f k a0) (spec_l01Dec.f (k + 1) a0) := by
 intro a0 k
 have ih0 := spec_l01Dec.mono_l k
 unfold spec_l01Dec.f
 repeat' first
   | (with_reducible exact ih0 _ _ _)
   | (with_reducible exact LeO.refl _)
   | (with_reducible exact LeO.none _)
   | (with_reducible refine LeO.ite ?_ ?_)
   | (with_reducible refine LeO.bind ?_ (fun _ => ?_))
   | exact ih0 _ _ _
   | exact LeO.none _
   | refine LeO.ite ?_ ?_
   | refine LeO.bind ?_ (fun _ => ?_)
set_option maxHeartbeats 8000000 in
set_option maxRecDepth 100000 in
theorem spec_l01Dec.calls (k : Nat) (a0 : Int) (r : ByteArray) (w : World) (h : spec_l01Dec.f k a0 = some r) :
  Calls Tryz.prog 72 #[.int .i64 a0] w fun e w' => e = .returned (.string r) ∧ Below w.heap.size w w' := by
 have HB := A' (Below.refl w.heap.size w); have H : (spec_l01Dec.l0 k a0 (([] : List Int)) a0) = some r := h; clear h; obtain ⟨y356, hy356⟩ : ∃ y_ : List Int, y_ = (([] : List Int)) := ⟨_, rfl⟩
 replace H : (spec_l01Dec.l0 k a0 y356 a0) = some r := by first | (rw [hy356]; with_reducible exact H) | (have H2_ := (Option.bind_some _ _).symm.trans H; rw [hy356]; with_reducible exact H2_) | (have H2_ := (Option.bind_some _ _).symm.trans H; with_reducible exact H2_) | with_reducible exact H | (rw [hy356]; exact H) | exact H
 have Ny356 := A' hy356; clear hy356; have H' := A' H; clear H; go_enter Tryz.func72, Tryz.ntmps72; go_wp2_with (first | ((with_reducible refine gate_dst (N := 6) rfl ?_); refine Kd.R_lit (Kd.int .u8) _ 5 ?hg (N := 6) ?hd (xs := ([] : List Int)) (inner := []) (ok := fun _ => True) (okp := fun _ => True) ?hr ?hp (fun _ hk => hk) trivial (Below.refl _ _) (Nat.le_refl _) (by simp) ?_; (case hd => rfl); (case hg => rfl); (case hr => first | (go_simp; done) | (go_simp; rfl)); (case hp => exact (Reps.none _ _)); intro v357 w2 ho3 hb hg_ hnew_; clear hg_ hnew_; (first | rw [← Ny356.out] at ho3 | (simp only [Int.reduceToNat] at ho3; rw [← Ny356.out] at ho3)); have n0_ := A' (Kd.R_lower ho3 (V' (qK0 HB.out))); have n1_ := A' (W' (qK0 HB.out) hb); clear HB; have HO358 := n0_; have HB := n1_; clear n0_ n1_; clear hb ho3))
 go_loopg [3, 4] k (fun kq v3 v4 w' => ∃ (x3_1 : List Int) (x4_1 : Int), v4 = .int .i64 x4_1 ∧ Aside0 (spec_l01Dec.l0 kq a0 x3_1 x4_1 = some r) ∧ Aside0 (kq ≤ k) ∧ Aside0 (Kd.R (Kd.int .u8) 5 w' w.heap.size (fun _ => True) v3 x3_1) ∧ Aside0 (Below w.heap.size w w'))
 case atStart => exact ⟨(y356), (a0), qS, H', ⟨Nat.le_refl _⟩, ⟨qR HO358.out⟩, ⟨qK0 HB.out⟩⟩
 case round =>
  clear H'; try clear p2
  obtain ⟨x3_1, x4_1, rfl, HA, HK1, HO_3, HB⟩ := hrel
  cases gk with
  | zero => exact absurd HA.out (by simp [spec_l01Dec.l0])
  | succ k1 =>
   have H := HA.out; clear HA; simp only [spec_l01Dec.l0] at H
   by_cases c4 : x4_1 = 0
   ·rw [if_pos c4] at H; have c4b0 : (x4_1 == 0) = true := beq_iff_eq.mpr c4; have c4b1 : (x4_1 != 0) = false := bne_eq_false_iff_eq.mpr c4; clear c4
    by_cases c5 : (x3_1.length : Int) = 0
    ·rw [if_pos c5] at H; have c5b0 : ((x3_1.length : Int) == 0) = true := beq_iff_eq.mpr c5; have c5b1 : ((x3_1.length : Int) != 0) = false := bne_eq_false_iff_eq.mpr c5; clear c5; obtain rfl := Option.some.inj H; obtain ⟨Ao6, co6, eo6⟩ := Kd.R_slice HO_3.out; subst eo6; go_wp2; go_ret; exact ⟨qE, qK0 HB.out⟩
    ·rw [if_neg c5] at H; have c5b0 : ((x3_1.length : Int) == 0) = false := beq_eq_false_iff_ne.mpr c5; have c5b1 : ((x3_1.length : Int) != 0) = true := bne_iff_ne.mpr c5; have c5b2 : ¬ (x3_1 = []) := fun h_ => c5 (by rw [h_]; rfl)
     by_cases c7 : a0 < 0
     ·rw [if_pos c7] at H; have c7b0 : decide (a0 < 0) = true := dT' c7; clear c7
      by_cases c8 : 1 + (strOfNums x3_1).size ≤ 9223372036854775807
      ·rw [if_pos c8] at H; have c8b0 := eq_true c8; have c8b1 : decide (1 + (strOfNums x3_1).size ≤ 9223372036854775807) = true := dT' c8; try have c8b2 : (9223372036854775807 < 1 + (strOfNums x3_1).size) = False := eq_false (Nat.not_lt.2 c8)
       obtain rfl := Option.some.inj H; obtain ⟨Ao9, co9, eo9⟩ := Kd.R_slice HO_3.out; subst eo9; have hcv10 := own_string (P := Tryz.prog) Tryz.underlying22 Tryz.underlying5 Tryz.underlying9 (Kd.own_of_R HO_3.out); go_wp2; go_ret; exact ⟨qE, qK0 HB.out⟩
      ·rw [if_neg c8] at H; exact absurd H (by simp)
     ·rw [if_neg c7] at H; have c7b0 : decide (a0 < 0) = false := dF' c7; clear c7; obtain rfl := Option.some.inj H; obtain ⟨Ao11, co11, eo11⟩ := Kd.R_slice HO_3.out; subst eo11; have hcv12 := own_string (P := Tryz.prog) Tryz.underlying22 Tryz.underlying5 Tryz.underlying9 (Kd.own_of_R HO_3.out); go_wp2; go_ret; exact ⟨qE, qK0 HB.out⟩
   ·rw [if_neg c4] at H; have c4b0 : (x4_1 == 0) = false := beq_eq_false_iff_ne.mpr c4; have c4b1 : (x4_1 != 0) = true := bne_iff_ne.mpr c4
    by_cases c13 : (Int.tmod x4_1 10) < 0
    ·rw [if_pos c13] at H; have c13b0 : decide ((Int.tmod x4_1 10) < 0) = true := dT' c13; clear c13; obtain ⟨y359, hy359⟩ : ∃ y_ : List Int, y_ = (([(wrap64 (48 + (wrap64 (-(Int.tmod x4_1 10))))) % 256] : List Int)) := ⟨_, rfl⟩
     replace H : (if y359.length + x3_1.length < 140737488355328 then (spec_l01Dec.l0 k1 a0 (y359 ++ x3_1) (wrap64 (Int.tdiv x4_1 10))) else (none)) = some r := by first | (rw [hy359]; with_reducible exact H) | (have H2_ := (Option.bind_some _ _).symm.trans H; rw [hy359]; with_reducible exact H2_) | (have H2_ := (Option.bind_some _ _).symm.trans H; with_reducible exact H2_) | with_reducible exact H | (rw [hy359]; exact H) | exact H
     have Ny359 := A' hy359; clear hy359
     by_cases c14 : y359.length + x3_1.length < 140737488355328
     ·rw [if_pos c14] at H; have LMc14 := A' c14; clear c14; obtain ⟨y362, hy362⟩ : ∃ y_ : List Int, y_ = (y359 ++ x3_1) := ⟨_, rfl⟩
      replace H : (spec_l01Dec.l0 k1 a0 y362 (wrap64 (Int.tdiv x4_1 10))) = some r := by first | (rw [hy362]; with_reducible exact H) | (have H2_ := (Option.bind_some _ _).symm.trans H; rw [hy362]; with_reducible exact H2_) | (have H2_ := (Option.bind_some _ _).symm.trans H; with_reducible exact H2_) | with_reducible exact H | (rw [hy362]; exact H) | exact H
      have Ny362 := A' hy362; clear hy362; have H' := A' H; clear H; go_wp2_with (first | ((with_reducible refine gate_dst (N := 21) rfl ?_); refine Kd.R_lit (Kd.int .u8) _ 5 ?hg (N := 21) ?hd (xs := ([(wrap64 (48 + (wrap64 (-(Int.tmod x4_1 10))))) % 256] : List Int)) (inner := [.int .u8 ((wrap64 (48 + (wrap64 (-(Int.tmod x4_1 10))))) % 256)]) (ok := fun _ => True) (okp := fun _ => True) ?hr ?hp (fun _ hk => hk) trivial (Below.refl _ _) (Nat.le_refl _) (by simp) ?_; (case hd => rfl); (case hg => rfl); (case hr => first | (go_simp; done) | (go_simp; rfl)); (case hp => exact (Reps.one (show Kd.M (Kd.int .u8) _ _ _ ((wrap64 (48 + (wrap64 (-(Int.tmod x4_1 10))))) % 256) [.int .u8 ((wrap64 (48 + (wrap64 (-(Int.tmod x4_1 10))))) % 256)] from rfl) (Reps.none _ _))); intro v360 w15 ho16 hb hg_ hnew_; clear hg_ hnew_; (first | rw [← Ny359.out] at ho16 | (simp only [Int.reduceToNat] at ho16; rw [← Ny359.out] at ho16)); have n0_ := A' (Kd.R_elder' (qR HO_3.out) (Kd.R_base ho16) hb); have n1_ := A' (Kd.R_lower (U' ho16 (Kd.R_lt (qR HO_3.out))) (V' (qK0 HB.out))); have n2_ := A' (W' (qK0 HB.out) hb); clear HO_3; clear HB; have HO_3 := n0_; have HO361 := n1_; have HB := n2_; clear n0_ n1_ n2_; clear hb ho16; obtain ⟨Ao18, co18, eo18⟩ := Kd.R_slice HO_3.out; subst eo18) | ((with_reducible refine gate_builtin (b := .append) (xs := #[.tmp 21, .tmp 22]) rfl ?_); at_builtin; refine Kd.R_append_rows (Kd.int .u8) (w0 := w) w.heap.size rfl (.tmp 21) (.tmp 22) 22 5 (.int .u8 0) 1 rfl Tryz.underlying22 info5 rfl (by decide) (by omega) v360 y359 x3_1 _ _ _ (fun k_ => some k_ ≠ (.slice Ao18 x3_1.length co18 : Value).ownBlock) (fun _ => False) rfl rfl ?aO ?aR (fun _ _ h => h) (fun _ h => h.elim) ?aF ?aB ?aS ?aL ?_; (case aR => repeat (first | exact (Kd.R_reads' HO_3.out).2.2 | (with_reducible refine R' ?_ _) | (with_reducible refine S' ?_ _) | (with_reducible refine T' ?_))); (case aB => exact (qK0 HB.out)); (case aF => exact (fun k_ hk => Kd.fresh' (Kd.R_lt (qR HO_3.out)) k_ hk)); (case aO => exact (by (with_reducible repeat (first | apply B' | apply C' | apply D')); exact Q' HO361.out (fun _ hk => hk.2))); (case aS => exact (V' (qK0 HB.out))); (case aL => have := LMc14.out; omega); intro v363 w17 ho hb hg hat; rw [← Ny362.out] at ho; have n0_ := A' (Kd.R_after (ok := (fun _ => True)) (qR HO_3.out) hg hat); have n1_ := A' (hb); have n2_ := A' (ho); clear HO_3; clear HB; clear HO361; have HO_3 := n0_; have HB := n1_; have HO364 := n2_; clear n0_ n1_ n2_; clear ho hb hg hat))
      go_roundg k1
      case measure => have := HK1.out; omega
      case rel => exact ⟨(y362), (wrap64 (Int.tdiv x4_1 10)), qS, H', ⟨by have := HK1.out; omega⟩, ⟨by (with_reducible repeat (first | apply B' | apply C' | apply D')); exact Q' HO364.out (fun _ hk => trivial)⟩, ⟨qK0 HB.out⟩⟩
     ·rw [if_neg c14] at H; exact absurd H (by simp)
    ·rw [if_neg c13] at H; have c13b0 : decide ((Int.tmod x4_1 10) < 0) = false := dF' c13; clear c13; obtain ⟨y365, hy365⟩ : ∃ y_ : List Int, y_ = (([(wrap64 (48 + (Int.tmod x4_1 10))) % 256] : List Int)) := ⟨_, rfl⟩
     replace H : (if y365.length + x3_1.length < 140737488355328 then (spec_l01Dec.l0 k1 a0 (y365 ++ x3_1) (wrap64 (Int.tdiv x4_1 10))) else (none)) = some r := by first | (rw [hy365]; with_reducible exact H) | (have H2_ := (Option.bind_some _ _).symm.trans H; rw [hy365]; with_reducible exact H2_) | (have H2_ := (Option.bind_some _ _).symm.trans H; with_reducible exact H2_) | with_reducible exact H | (rw [hy365]; exact H) | exact H
     have Ny365 := A' hy365; clear hy365
     by_cases c19 : y365.length + x3_1.length < 140737488355328
     ·rw [if_pos c19] at H; have LMc19 := A' c19; clear c19; obtain ⟨y368, hy368⟩ : ∃ y_ : List Int, y_ = (y365 ++ x3_1) := ⟨_, rfl⟩
      replace H : (spec_l01Dec.l0 k1 a0 y368 (wrap64 (Int.tdiv x4_1 10))) = some r := by first | (rw [hy368]; with_reducible exact H) | (have H2_ := (Option.bind_some _ _).symm.trans H; rw [hy368]; with_reducible exact H2_) | (have H2_ := (Option.bind_some _ _).symm.trans H; with_reducible exact H2_) | with_reducible exact H | (rw [hy368]; exact H) | exact H
      have Ny368 := A' hy368; clear hy368; have H' := A' H; clear H; go_wp2_with (first | ((with_reducible refine gate_dst (N := 21) rfl ?_); refine Kd.R_lit (Kd.int .u8) _ 5 ?hg (N := 21) ?hd (xs := ([(wrap64 (48 + (Int.tmod x4_1 10))) % 256] : List Int)) (inner := [.int .u8 ((wrap64 (48 + (Int.tmod x4_1 10))) % 256)]) (ok := fun _ => True) (okp := fun _ => True) ?hr ?hp (fun _ hk => hk) trivial (Below.refl _ _) (Nat.le_refl _) (by simp) ?_; (case hd => rfl); (case hg => rfl); (case hr => first | (go_simp; done) | (go_simp; rfl)); (case hp => exact (Reps.one (show Kd.M (Kd.int .u8) _ _ _ ((wrap64 (48 + (Int.tmod x4_1 10))) % 256) [.int .u8 ((wrap64 (48 + (Int.tmod x4_1 10))) % 256)] from rfl) (Reps.none _ _))); intro v366 w20 ho21 hb hg_ hnew_; clear hg_ hnew_; (first | rw [← Ny365.out] at ho21 | (simp only [Int.reduceToNat] at ho21; rw [← Ny365.out] at ho21)); have n0_ := A' (Kd.R_elder' (qR HO_3.out) (Kd.R_base ho21) hb); have n1_ := A' (Kd.R_lower (U' ho21 (Kd.R_lt (qR HO_3.out))) (V' (qK0 HB.out))); have n2_ := A' (W' (qK0 HB.out) hb); clear HO_3; clear HB; have HO_3 := n0_; have HO367 := n1_; have HB := n2_; clear n0_ n1_ n2_; clear hb ho21; obtain ⟨Ao23, co23, eo23⟩ := Kd.R_slice HO_3.out; subst eo23) | ((with_reducible refine gate_builtin (b := .append) (xs := #[.tmp 21, .tmp 22]) rfl ?_); at_builtin; refine Kd.R_append_rows (Kd.int .u8) (w0 := w) w.heap.size rfl (.tmp 21) (.tmp 22) 22 5 (.int .u8 0) 1 rfl Tryz.underlying22 info5 rfl (by decide) (by omega) v366 y365 x3_1 _ _ _ (fun k_ => some k_ ≠ (.slice Ao23 x3_1.length co23 : Value).ownBlock) (fun _ => False) rfl rfl ?aO ?aR (fun _ _ h => h) (fun _ h => h.elim) ?aF ?aB ?aS ?aL ?_; (case aR => repeat (first | exact (Kd.R_reads' HO_3.out).2.2 | (with_reducible refine R' ?_ _) | (with_reducible refine S' ?_ _) | (with_reducible refine T' ?_))); (case aB => exact (qK0 HB.out)); (case aF => exact (fun k_ hk => Kd.fresh' (Kd.R_lt (qR HO_3.out)) k_ hk)); (case aO => exact (by (with_reducible repeat (first | apply B' | apply C' | apply D')); exact Q' HO367.out (fun _ hk => hk.2))); (case aS => exact (V' (qK0 HB.out))); (case aL => have := LMc19.out; omega); intro v369 w22 ho hb hg hat; rw [← Ny368.out] at ho; have n0_ := A' (Kd.R_after (ok := (fun _ => True)) (qR HO_3.out) hg hat); have n1_ := A' (hb); have n2_ := A' (ho); clear HO_3; clear HB; clear HO367; have HO_3 := n0_; have HB := n1_; have HO370 := n2_; clear n0_ n1_ n2_; clear ho hb hg hat))
      go_roundg k1
      case measure => have := HK1.out; omega
      case rel => exact ⟨(y368), (wrap64 (Int.tdiv x4_1 10)), qS, H', ⟨by have := HK1.out; omega⟩, ⟨by (with_reducible repeat (first | apply B' | apply C' | apply D')); exact Q' HO370.out (fun _ hk => trivial)⟩, ⟨qK0 HB.out⟩⟩
     ·rw [if_neg c19] at H; exact absurd H (by simp)

end Go.Proofs.YtcjandlemjfojaaGreatDoor.HTks
