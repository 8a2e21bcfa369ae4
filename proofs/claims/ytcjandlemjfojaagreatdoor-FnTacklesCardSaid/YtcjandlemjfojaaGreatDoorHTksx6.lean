-- Written by a program for this claim (the functions that the statement reaches, and that the program's code comes to them).
import Derived.Test.YtcjandlemjfojaaGreatDoorHTksx0
import Derived.Test.YtcjandlemjfojaaGreatDoorHTksx2
import Derived.Test.YtcjandlemjfojaaGreatDoorHTksx5
namespace Go.Proofs.YtcjandlemjfojaaGreatDoor.HTks
open Go.RowKit Go.Proofs.YtcjandlemjfojaaGreatDoorW.PrintWords Go.Proofs.YtcjandlemjfojaaGreatDoorW.PrintLast Go.Proofs.YtcjandlemjfojaaGreatDoorW.PrintMore
attribute [local go_sem] max2_int min2_int max_two min_two max_three min_three max_four min_four   -- for this text's walks alone
set_option linter.unusedVariables false
set_option linter.unusedSimpArgs false

/-! ### spec_l05Text: function 51 -/
mutual
def spec_l05Text.l0 : Nat → List (S35) → ByteArray → Int → Option (ByteArray)
 | 0, _, _, _ => none
 | k + 1, x0, x3, x4 => if x4 < (x0.length : Int) then (if x4 > 0 then (if x3.size + 1 ≤ 9223372036854775807 then (spec_l05Text.j1 k x0 (x3 ++ (⟨#[32]⟩ : ByteArray)) x4) else (none)) else (spec_l05Text.j1 k x0 x3 x4)) else (some x3)
def spec_l05Text.j1 : Nat → List (S35) → ByteArray → Int → Option (ByteArray)
 | 0, _, _, _ => none
 | k + 1, x0, x3, x4 => if 0 ≤ x4 then (if x4 < (x0.length : Int) then (if (rd_T35 x0 x4).f2 = true then ((spec_l01Dec.f k ((rd_T35 x0 x4).f0)).bind fun t373 => (if t373.size + 1 ≤ 9223372036854775807 then ((spec_l01Dec.f k ((rd_T35 x0 x4).f1)).bind fun t375 => (if (t373 ++ (⟨#[62]⟩ : ByteArray)).size + t375.size ≤ 9223372036854775807 then (if x3.size + ((t373 ++ (⟨#[62]⟩ : ByteArray)) ++ t375).size ≤ 9223372036854775807 then (spec_l05Text.l0 k x0 (x3 ++ ((t373 ++ (⟨#[62]⟩ : ByteArray)) ++ t375)) (wrap64 (x4 + 1))) else (none)) else (none))) else (none))) else ((spec_l01Dec.f k ((rd_T35 x0 x4).f0)).bind fun t377 => (if t377.size + 1 ≤ 9223372036854775807 then ((spec_l01Dec.f k ((rd_T35 x0 x4).f1)).bind fun t379 => (if (t377 ++ (⟨#[60]⟩ : ByteArray)).size + t379.size ≤ 9223372036854775807 then (if x3.size + ((t377 ++ (⟨#[60]⟩ : ByteArray)) ++ t379).size ≤ 9223372036854775807 then (spec_l05Text.l0 k x0 (x3 ++ ((t377 ++ (⟨#[60]⟩ : ByteArray)) ++ t379)) (wrap64 (x4 + 1))) else (none)) else (none))) else (none)))) else (none)) else (none)
end
def spec_l05Text.f (k : Nat) (l0 : List (S35)) : Option (ByteArray) := spec_l05Text.l0 k l0 (⟨#[]⟩ : ByteArray) 0
theorem spec_l05Text.mono_l : ∀ k, (∀ y0 y1 y2, LeO (spec_l05Text.l0 k y0 y1 y2) (spec_l05Text.l0 (k + 1) y0 y1 y2)) ∧ (∀ y0 y1 y2, LeO (spec_l05Text.j1 k y0 y1 y2) (spec_l05Text.j1 (k + 1) y0 y1 y2))
 | 0 => ⟨fun _ _ _ r h => by simp [spec_l05Text.l0] at h, fun _ _ _ r h => by simp [spec_l05Text.j1] at h⟩
 | k + 1 => by
  obtain ⟨ih0, ih1⟩ := spec_l05Text.mono_l k
  refine ⟨?_, ?_⟩
  ·intro y0 y1 y2
   unfold spec_l05Text.l0
   repeat' first
   | (with_reducible exact ih0 _ _ _)
   | (with_reducible exact ih1 _ _ _)
   | (with_reducible exact spec_l01Dec.mono _ _)
   | (with_reducible exact LeO.refl _)
   | (with_reducible exact LeO.none _)
   | (with_reducible refine LeO.ite ?_ ?_)
   | (with_reducible refine LeO.bind ?_ (fun _ => ?_))
   | exact ih0 _ _ _
   | exact ih1 _ _ _
   | exact spec_l01Dec.mono _ _
   | exact LeO.none _
   | refine LeO.ite ?_ ?_
   | refine LeO.bind ?_ (fun _ => ?_)
  ·intro y0 y1 y2
   unfold spec_l05Text.j1
   repeat' first
   | (with_reducible exact ih0 _ _ _)
   | (with_reducible exact ih1 _ _ _)
   | (with_reducible exact spec_l01Dec.mono _ _)
   | (with_reducible exact LeO.refl _)
   | (with_reducible exact LeO.none _)
   | (with_reducible refine LeO.ite ?_ ?_)
   | (with_reducible refine LeO.bind ?_ (fun _ => ?_))
   | exact ih0 _ _ _
   | exact ih1 _ _ _
   | exact spec_l01Dec.mono _ _
   | exact LeO.none _
   | refine LeO.ite ?_ ?_
   | refine LeO.bind ?_ (fun _ => ?_)
theorem spec_l05Text.mono : ∀ a0 k, LeO (spec_l05Text.f k a0) (spec_l05Text.f (k + 1) a0) := by
 intro a0 k
 obtain ⟨ih0, ih1⟩ := spec_l05Text.mono_l k
 unfold spec_l05Text.f
 repeat' first
   | (with_reducible exact ih0 _ _ _)
   | (with_reducible exact ih1 _ _ _)
   | (with_reducible exact spec_l01Dec.mono _ _)
   | (with_reducible exact LeO.refl _)
   | (with_reducible exact LeO.none _)
   | (with_reducible refine LeO.ite ?_ ?_)
   | (with_reducible refine LeO.bind ?_ (fun _ => ?_))
   | exact ih0 _ _ _
   | exact ih1 _ _ _
   | exact spec_l01Dec.mono _ _
   | exact LeO.none _
   | refine LeO.ite ?_ ?_
   | refine LeO.bind ?_ (fun _ => ?_)
def spec_l05Text.T8 : Bool × List (List Nat × List Nat) := (true, [([], []), ([], []), ([], []), ([1, 2], [1, 2]), ([3], [3]), ([4], [4]), ([5], [5]), ([6], [6]), ([], []), ([], []), ([8, 9], [8, 9]), ([10], [10]), ([11], [11]), ([12, 6], [12]), ([7, 13], [7, 13]), ([0, 14], [0, 14]), ([15, 13, 0, 1, 2, 3, 4, 5, 6, 7, 8, 9, 10, 11, 12, 13, 14, 15], [0, 15])])
def spec_l05Text.B8 : List Nat := [0, 0, 0, 6, 14, 30, 62, 126, 0, 0, 768, 1792, 3840, 8062, 16382, 32767, 65535]
theorem spec_l05Text.tab8 : rtab .any (opsOf Tryz.f51 8) = spec_l05Text.T8 := by kernel_rfl
theorem spec_l05Text.bits8 : waitsOk spec_l05Text.T8.2 spec_l05Text.B8 = true := by kernel_rfl
def spec_l05Text.T9 : Bool × List (List Nat × List Nat) := (true, [([], []), ([], []), ([], []), ([1, 2], [1, 2]), ([3], [3]), ([4], [4]), ([5], [5]), ([6], [6]), ([], []), ([], []), ([8, 9], [8, 9]), ([10], [10]), ([11], [11]), ([12, 6], [12]), ([7, 13], [7, 13]), ([0, 14], [0, 14]), ([15, 13, 0, 1, 2, 3, 4, 5, 6, 7, 8, 9, 10, 11, 12, 13, 14, 15], [0, 15])])
def spec_l05Text.B9 : List Nat := [0, 0, 0, 6, 14, 30, 62, 126, 0, 0, 768, 1792, 3840, 8062, 16382, 32767, 65535]
theorem spec_l05Text.tab9 : rtab .any (opsOf Tryz.f51 9) = spec_l05Text.T9 := by kernel_rfl
theorem spec_l05Text.bits9 : waitsOk spec_l05Text.T9.2 spec_l05Text.B9 = true := by kernel_rfl
def spec_l05Text.r_0 := rb 17 0
def spec_l05Text.r_1 := rb 17 1
def spec_l05Text.r_2 := rb 17 3
def spec_l05Text.r_3 := rb 17 7
def spec_l05Text.r_4 := rb 17 15
def spec_l05Text.r_5 := rb 17 31
def spec_l05Text.r_6 := rb 17 287
def spec_l05Text.r_7 := rb 17 799
def spec_l05Text.r_8 := rb 17 1823
def spec_l05Text.r_9 := rb 17 3871
def spec_l05Text.r_10 := rb 17 3903
def spec_l05Text.r_11 := rb 17 7999
def spec_l05Text.r_12 := rb 17 8063
def spec_l05Text.r_13 := rb 17 8191
def spec_l05Text.r_14 := rb 17 16383
def spec_l05Text.r_15 := rb 17 32767
def spec_l05Text.r_16 := rb 17 65535
def spec_l05Text.r_17 := rb 17 131071
set_option maxHeartbeats 8000000 in
set_option maxRecDepth 100000 in
theorem spec_l05Text.calls (k : Nat) (A0 : Option Addr) (c0 : Nat) (l0 : List (S35)) (r : ByteArray) (w : World) (hr0 : Kd.C k35 w A0 l0.length l0) (hc0 : l0.length ≤ c0) (h : spec_l05Text.f k l0 = some r) :
  Calls Tryz.prog 51 #[.slice A0 l0.length c0] w fun e w' => e = .returned (.string r) ∧ Below w.heap.size w w' := by
 have HR0 := A' hr0; have HC0 := A' hc0; clear hr0 hc0; have HB := A' (Below.refl w.heap.size w); have H : (spec_l05Text.l0 k l0 (⟨#[]⟩ : ByteArray) 0) = some r := h; clear h; have H' := A' H; clear H; go_enter Tryz.func51, Tryz.ntmps51; go_wp2
 go_loopg [3, 4] k (fun kq v3 v4 w' => ∃ (x3_1 : ByteArray) (x4_1 : Int), v3 = .string x3_1 ∧ v4 = .int .i64 x4_1 ∧ Aside0 (spec_l05Text.l0 kq l0 x3_1 x4_1 = some r) ∧ Aside0 (kq ≤ k) ∧ Aside0 (Below w.heap.size w w'))
 case atStart => exact ⟨((⟨#[]⟩ : ByteArray)), (0), qS, qS, H', ⟨Nat.le_refl _⟩, ⟨qK0 HB.out⟩⟩
 case round =>
  clear H'; obtain ⟨x3_1, x4_1, rfl, rfl, HA, HK1, HB⟩ := hrel
  cases gk with
  | zero => exact absurd HA.out (by simp [spec_l05Text.l0])
  | succ k1 =>
   have H := HA.out; clear HA; simp only [spec_l05Text.l0] at H
   by_cases c2 : x4_1 < (l0.length : Int)
   ·rw [if_pos c2] at H; have c2b0 : decide (x4_1 < (l0.length : Int)) = true := dT' c2; clear c2; have HC3 := A' H; clear H; go_upto_if 12 with (fail)
    go_cut [3] (fun v3 wc => ∃ (kq : Nat) (x3_2 : ByteArray), v3 = .string x3_2 ∧ Aside0 (spec_l05Text.j1 kq l0 x3_2 x4_1 = some r) ∧ Aside0 (kq ≤ k1) ∧ Aside0 (Below w.heap.size w wc))
    case first =>
     have H := HC3.out; clear HC3
     by_cases c4 : x4_1 > 0
     ·rw [if_pos c4] at H; have c4b0 : decide (0 < x4_1) = true := dT' c4; clear c4; (first | rw [c4b0] | (simp only [i64_w, i32_w]; rw [c4b0]) | skip)
      by_cases c5 : x3_1.size + 1 ≤ 9223372036854775807
      ·rw [if_pos c5] at H; have c5b0 := eq_true c5; have c5b1 : decide (x3_1.size + 1 ≤ 9223372036854775807) = true := dT' c5; try have c5b2 : (9223372036854775807 < x3_1.size + 1) = False := eq_false (Nat.not_lt.2 c5)
       have H' := A' H; clear H; go_wp2
       go_meet
       case rel => exact ⟨_, (x3_1 ++ (⟨#[32]⟩ : ByteArray)), qS, H', ⟨by have := HK1.out; first | omega | exact Nat.le_refl _⟩, ⟨qK0 HB.out⟩⟩
      ·rw [if_neg c5] at H; exact absurd H (by simp)
     ·rw [if_neg c4] at H; have c4b0 : decide (0 < x4_1) = false := dF' c4; clear c4; (first | rw [c4b0] | (simp only [i64_w, i32_w]; rw [c4b0]) | skip); have H' := A' H; clear H; go_wp2
      go_meet
      case rel => exact ⟨_, (x3_1), qS, H', ⟨by have := HK1.out; first | omega | exact Nat.le_refl _⟩, ⟨qK0 HB.out⟩⟩
    case rest =>
     clear HC3; try clear c2
     try clear c2b0
     try clear p2
     try clear c4
     try clear c4b0
     try clear c5
     try clear c5b0
     try clear c5b1
     try clear c5b2
     obtain ⟨kq, x3_2, rfl, HA, HJ2, HB⟩ := hcut
     cases kq with
     | zero => exact absurd HA.out (by simp [spec_l05Text.j1])
     | succ kj2 =>
      have H := HA.out; clear HA; simp only [spec_l05Text.j1] at H
      by_cases c6 : 0 ≤ x4_1
      ·rw [if_pos c6] at H; have c6b0 : decide (0 ≤ x4_1) = true := dT' c6; clear c6
       by_cases c7 : x4_1 < (l0.length : Int)
       ·rw [if_pos c7] at H; have c7b0 : decide (x4_1 < (l0.length : Int)) = true := dT' c7; clear c7; obtain ⟨bq8, hbq8⟩ : ∃ b_ : Bool, b_ = ((rd_T35 l0 x4_1).f2) := ⟨_, rfl⟩
        replace H : (if bq8 = true then ((spec_l01Dec.f kj2 ((rd_T35 l0 x4_1).f0)).bind fun t373 => (if t373.size + 1 ≤ 9223372036854775807 then ((spec_l01Dec.f kj2 ((rd_T35 l0 x4_1).f1)).bind fun t375 => (if (t373 ++ (⟨#[62]⟩ : ByteArray)).size + t375.size ≤ 9223372036854775807 then (if x3_2.size + ((t373 ++ (⟨#[62]⟩ : ByteArray)) ++ t375).size ≤ 9223372036854775807 then (spec_l05Text.l0 kj2 l0 (x3_2 ++ ((t373 ++ (⟨#[62]⟩ : ByteArray)) ++ t375)) (wrap64 (x4_1 + 1))) else (none)) else (none))) else (none))) else ((spec_l01Dec.f kj2 ((rd_T35 l0 x4_1).f0)).bind fun t377 => (if t377.size + 1 ≤ 9223372036854775807 then ((spec_l01Dec.f kj2 ((rd_T35 l0 x4_1).f1)).bind fun t379 => (if (t377 ++ (⟨#[60]⟩ : ByteArray)).size + t379.size ≤ 9223372036854775807 then (if x3_2.size + ((t377 ++ (⟨#[60]⟩ : ByteArray)) ++ t379).size ≤ 9223372036854775807 then (spec_l05Text.l0 kj2 l0 (x3_2 ++ ((t377 ++ (⟨#[60]⟩ : ByteArray)) ++ t379)) (wrap64 (x4_1 + 1))) else (none)) else (none))) else (none)))) = some r := by rw [← hbq8] at H; exact H
        have Nbq8 := A' hbq8; clear hbq8
        by_cases c9 : bq8 = true
        ·subst c9; have H1 : ((spec_l01Dec.f kj2 ((rd_T35 l0 x4_1).f0)).bind fun t373 => (if t373.size + 1 ≤ 9223372036854775807 then ((spec_l01Dec.f kj2 ((rd_T35 l0 x4_1).f1)).bind fun t375 => (if (t373 ++ (⟨#[62]⟩ : ByteArray)).size + t375.size ≤ 9223372036854775807 then (if x3_2.size + ((t373 ++ (⟨#[62]⟩ : ByteArray)) ++ t375).size ≤ 9223372036854775807 then (spec_l05Text.l0 kj2 l0 (x3_2 ++ ((t373 ++ (⟨#[62]⟩ : ByteArray)) ++ t375)) (wrap64 (x4_1 + 1))) else (none)) else (none))) else (none))) = some r := by rw [if_pos rfl] at H; exact H
         clear H; have H := H1; clear H1; replace H := Option.bind_eq_some_iff.mp H; obtain ⟨t373, A100, H⟩ := H; replace H : (if t373.size + 1 ≤ 9223372036854775807 then ((spec_l01Dec.f kj2 ((rd_T35 l0 x4_1).f1)).bind fun t375 => (if (t373 ++ (⟨#[62]⟩ : ByteArray)).size + t375.size ≤ 9223372036854775807 then (if x3_2.size + ((t373 ++ (⟨#[62]⟩ : ByteArray)) ++ t375).size ≤ 9223372036854775807 then (spec_l05Text.l0 kj2 l0 (x3_2 ++ ((t373 ++ (⟨#[62]⟩ : ByteArray)) ++ t375)) (wrap64 (x4_1 + 1))) else (none)) else (none))) else (none)) = some r := H; have A10 := A' A100; clear A100
         by_cases c11 : t373.size + 1 ≤ 9223372036854775807
         ·rw [if_pos c11] at H; have c11b0 := eq_true c11; have c11b1 : decide (t373.size + 1 ≤ 9223372036854775807) = true := dT' c11; try have c11b2 : (9223372036854775807 < t373.size + 1) = False := eq_false (Nat.not_lt.2 c11)
          replace H := Option.bind_eq_some_iff.mp H; obtain ⟨t375, A120, H⟩ := H; replace H : (if (t373 ++ (⟨#[62]⟩ : ByteArray)).size + t375.size ≤ 9223372036854775807 then (if x3_2.size + ((t373 ++ (⟨#[62]⟩ : ByteArray)) ++ t375).size ≤ 9223372036854775807 then (spec_l05Text.l0 kj2 l0 (x3_2 ++ ((t373 ++ (⟨#[62]⟩ : ByteArray)) ++ t375)) (wrap64 (x4_1 + 1))) else (none)) else (none)) = some r := H; have A12 := A' A120; clear A120
          by_cases c13 : (t373 ++ (⟨#[62]⟩ : ByteArray)).size + t375.size ≤ 9223372036854775807
          ·rw [if_pos c13] at H; have c13b0 := eq_true c13; have c13b1 : decide ((t373 ++ (⟨#[62]⟩ : ByteArray)).size + t375.size ≤ 9223372036854775807) = true := dT' c13; try have c13b2 : (9223372036854775807 < (t373 ++ (⟨#[62]⟩ : ByteArray)).size + t375.size) = False := eq_false (Nat.not_lt.2 c13)
           try have c13b7 : (9223372036854775807 < t373.size + 1 + t375.size) = False := eq_false (Nat.not_lt.2 (by have h_ := c13; simp only [ByteArray.size_append] at h_; exact h_))
           by_cases c14 : x3_2.size + ((t373 ++ (⟨#[62]⟩ : ByteArray)) ++ t375).size ≤ 9223372036854775807
           ·rw [if_pos c14] at H; have c14b0 := eq_true c14; have c14b1 : decide (x3_2.size + ((t373 ++ (⟨#[62]⟩ : ByteArray)) ++ t375).size ≤ 9223372036854775807) = true := dT' c14; try have c14b2 : (9223372036854775807 < x3_2.size + ((t373 ++ (⟨#[62]⟩ : ByteArray)) ++ t375).size) = False := eq_false (Nat.not_lt.2 c14)
            try have c14b7 : (9223372036854775807 < x3_2.size + (t373.size + 1 + t375.size)) = False := eq_false (Nat.not_lt.2 (by have h_ := c14; simp only [ByteArray.size_append] at h_; exact h_))
            have H' := A' H; clear H; have p371 : 0 ≤ (x4_1 : Int) := oD' qA; have q371 : x4_1 < (l0.length : Int) := oD' qA; obtain ⟨ad371, e371, hx371_0, hx371_1, hx371_2⟩ := at_T35 HR0.out x4_1 p371 q371; (try rw [← Nbq8.out] at hx371_2); (try rw [← Nbq8.out] at hw371_2)
            cases e371
            try replace hx371_0 := qC HB.out hx371_0
            try replace hx371_1 := qC HB.out hx371_1
            try replace hx371_2 := qC HB.out hx371_2
            replace p371 := eq_true p371; replace q371 := eq_true q371; try go_wp2
            have n0_ := A' (J' HB.out); clear HB; have HB := n0_; clear n0_; have p372 : 0 ≤ (x4_1 : Int) := oD' qA; have q372 : x4_1 < (l0.length : Int) := oD' qA; obtain ⟨ad372, e372, hx372_0, hx372_1, hx372_2⟩ := at_T35 HR0.out x4_1 p372 q372; have hw372_2 := hx372_2; have hw372_1 := hx372_1; have hw372_0 := hx372_0; (try rw [← Nbq8.out] at hx372_2); (try rw [← Nbq8.out] at hw372_2); obtain rfl : ad371 = ad372 := (by injection e372)
            try replace hx372_0 := qC HB.out hx372_0
            try replace hx372_1 := qC HB.out hx372_1
            try replace hx372_2 := qC HB.out hx372_2
            replace p372 := eq_true p372; replace q372 := eq_true q372; have p374 : 0 ≤ (x4_1 : Int) := oD' qA; have q374 : x4_1 < (l0.length : Int) := oD' qA; obtain ⟨ad374, e374, hx374_0, hx374_1, hx374_2⟩ := at_T35 HR0.out x4_1 p374 q374; have hw374_2 := hx374_2; have hw374_1 := hx374_1; have hw374_0 := hx374_0; (try rw [← Nbq8.out] at hx374_2); (try rw [← Nbq8.out] at hw374_2); obtain rfl : ad371 = ad374 := (by injection e374)
            try replace hx374_0 := qC HB.out hx374_0
            try replace hx374_1 := qC HB.out hx374_1
            try replace hx374_2 := qC HB.out hx374_2
            replace p374 := eq_true p374; replace q374 := eq_true q374; refine start_ (n := 17) (S := fun w' => w'.cell? (ad371.add ((x4_1).toNat * 3)) = some (.int .i64 ((rd_T35 l0 x4_1).f0)) ∧ w'.cell? ⟨(ad371.add ((x4_1).toNat * 3)).block, (ad371.add ((x4_1).toNat * 3)).off + 1, none⟩ = some (.int .i64 ((rd_T35 l0 x4_1).f1)) ∧ w'.cell? ⟨(ad371.add ((x4_1).toNat * 3)).block, (ad371.add ((x4_1).toNat * 3)).off + 2, none⟩ = some (.bool (true)) ∧ w'.cell? (ad371.add ((x4_1).toNat * 3)) = some (.int .i64 ((rd_T35 l0 x4_1).f0)) ∧ w'.cell? ⟨(ad371.add ((x4_1).toNat * 3)).block, (ad371.add ((x4_1).toNat * 3)).off + 1, none⟩ = some (.int .i64 ((rd_T35 l0 x4_1).f1)) ∧ w'.cell? ⟨(ad371.add ((x4_1).toNat * 3)).block, (ad371.add ((x4_1).toNat * 3)).off + 2, none⟩ = some (.bool (true))) (ds := []) r_0 (by kernel_rfl) rfl rfl ⟨(qC HB.out hw372_0 :), (qC HB.out hw372_1 :), (qC HB.out hw372_2 :), (qC HB.out hw374_0 :), (qC HB.out hw374_1 :), (qC HB.out hw374_2 :)⟩ (fun hHeld => ?_); refine with_tabW spec_l05Text.tab8 spec_l05Text.bits8 (fun HT_ HW_ => ?_)
            generalize wc.drew = w15 at HB hx372_0 hx372_1 hx372_2 hx374_0 hx374_1 hx374_2 hHeld ⊢
            refine pure_ (i := 0) (N := some 20) r_1 rfl rfl (any_of HT_.out (by kernel_rfl)) (fun _ _ _ h => h) (Or.inl ⟨by rfl, qI⟩) qP ?_
            refine pure_ (i := 1) (N := some 21) r_2 rfl rfl (any_of HT_.out (by kernel_rfl)) (fun _ _ _ h => h) (Or.inl ⟨by rfl, qI⟩) qP ?_
            refine pure_ (i := 2) (N := some 22) r_3 rfl rfl (any_of HT_.out (by kernel_rfl)) (fun _ _ _ h => h) (Or.inl ⟨by rfl, qI⟩) qP ?_
            refine pure_ (i := 3) (N := some 23) r_4 rfl rfl (any_of HT_.out (by kernel_rfl)) (fun _ _ _ h => h) (Or.inl ⟨by rfl, qI⟩) qP ?_
            refine pure_ (i := 4) (N := some 24) r_5 rfl rfl (any_of HT_.out (by kernel_rfl)) (fun _ _ _ h => h) (Or.inl ⟨by rfl, qI⟩) qP ?_
            refine pure_ (i := 8) (N := some 28) r_6 rfl rfl (any_of HT_.out (by kernel_rfl)) (fun _ _ _ h => h) (Or.inl ⟨by rfl, qI⟩) qP ?_
            refine pure_ (i := 9) (N := some 29) r_7 rfl rfl (any_of HT_.out (by kernel_rfl)) (fun _ _ _ h => h) (Or.inl ⟨by rfl, qI⟩) qP ?_
            refine pure_ (i := 10) (N := some 30) r_8 rfl rfl (any_of HT_.out (by kernel_rfl)) (fun _ _ _ h => h) (Or.inl ⟨by rfl, qI⟩) qP ?_
            refine pure_ (i := 11) (N := some 31) r_9 rfl rfl (any_of HT_.out (by kernel_rfl)) (fun _ _ _ h => h) (Or.inl ⟨by rfl, qI⟩) qP ?_
            refine take_ (i := 5) (N := some 25) (v := ?_) (a' := ?_) r_10 rfl rfl (take_ofW HT_.out HW_.out (by kernel_rfl)) (fun _ _ _ h => h) (Or.inl ⟨by rfl, ?_⟩) hHeld ?_ ?_; rotate_left
            ·rintro w' ⟨s0, s1, s2, s3, s4, s5⟩; go_simp; with_reducible rfl
            rotate_left
            ·exact qP
            refine take_ (i := 12) (N := some 32) (v := ?_) (a' := ?_) r_11 rfl rfl (take_ofW HT_.out HW_.out (by kernel_rfl)) (fun _ _ _ h => h) (Or.inl ⟨by rfl, ?_⟩) hHeld ?_ ?_; rotate_left
            ·rintro w' ⟨s0, s1, s2, s3, s4, s5⟩; go_simp; with_reducible rfl
            rotate_left
            ·exact qP
            refine one_ (i := 6) (N := some 26) r_12 rfl rfl (one_of HT_.out (by kernel_rfl)) (by decide) (fun K hK => ?_); refine goes_ Tryz.func72 (by kernel_rfl) rfl #[.int .i64 ((rd_T35 l0 x4_1).f0)] (by rfl) rfl rfl (by (try simp only [List.map_toArray, List.map_cons, List.map_nil]); first | done | rfl | (simp only [List.length_drop, List.length_take]; rfl)) ?_
            with_reducible refine (spec_l01Dec.calls kj2 ((rd_T35 l0 x4_1).f0) t373 _ A10.out).mono ?_
            rintro e w16 ⟨rfl, hb⟩; refine ⟨_, rfl, ?_⟩; have n0_ := A' (W' (qK0 HB.out) hb); clear HB; have HB := n0_; clear n0_; (try clear hb); (try clear hb2); (try clear hk); (try clear hi); refine hK.out _ _ ⟨(qC HB.out hw372_0 :), (qC HB.out hw372_1 :), (qC HB.out hw372_2 :), (qC HB.out hw374_0 :), (qC HB.out hw374_1 :), (qC HB.out hw374_2 :)⟩ (fun hHeld => ?_); clear hK K; refine norm_ (a' := ?_) ?_ ?_; rotate_left
            ·show Act.put _ (some 26) _ = _
             exact qP
            refine pure_ (i := 7) (N := some 27) r_13 rfl rfl (any_of HT_.out (by kernel_rfl)) (fun _ _ _ h => h) (Or.inl ⟨by rfl, qI⟩) qP ?_
            refine one_ (i := 13) (N := some 33) r_14 rfl rfl (one_of HT_.out (by kernel_rfl)) (by decide) (fun K hK => ?_); refine goes_ Tryz.func72 (by kernel_rfl) rfl #[.int .i64 ((rd_T35 l0 x4_1).f1)] (by rfl) rfl rfl (by (try simp only [List.map_toArray, List.map_cons, List.map_nil]); first | done | rfl | (simp only [List.length_drop, List.length_take]; rfl)) ?_
            with_reducible refine (spec_l01Dec.calls kj2 ((rd_T35 l0 x4_1).f1) t375 _ A12.out).mono ?_
            rintro e w17 ⟨rfl, hb⟩; refine ⟨_, rfl, ?_⟩; have n0_ := A' (W' (qK0 HB.out) hb); clear HB; have HB := n0_; clear n0_; (try clear hb); (try clear hb2); (try clear hk); (try clear hi); refine hK.out _ _ ⟨(qC HB.out hw372_0 :), (qC HB.out hw372_1 :), (qC HB.out hw372_2 :), (qC HB.out hw374_0 :), (qC HB.out hw374_1 :), (qC HB.out hw374_2 :)⟩ (fun hHeld => ?_); clear hK K; refine norm_ (a' := ?_) ?_ ?_; rotate_left
            ·show Act.put _ (some 33) _ = _
             exact qP
            refine pure_ (i := 14) (N := some 34) r_15 rfl rfl (any_of HT_.out (by kernel_rfl)) (fun _ _ _ h => h) (Or.inl ⟨by rfl, qI⟩) qP ?_
            refine pure_ (i := 15) (N := some 35) r_16 rfl rfl (any_of HT_.out (by kernel_rfl)) (fun _ _ _ h => h) (Or.inl ⟨by rfl, qI⟩) qP ?_
            refine pure_ (i := 16) (N := some 3) r_17 rfl rfl (any_of HT_.out (by kernel_rfl)) (fun _ _ _ h => h) (Or.inl ⟨by rfl, qI⟩) qP ?_
            refine done_ (done_of HT_.out (by kernel_rfl)) ?_; try go_wp2
            go_roundg kj2
            case measure => have := HK1.out; have := HJ2.out; omega
            case rel => exact ⟨(x3_2 ++ ((t373 ++ (⟨#[62]⟩ : ByteArray)) ++ t375)), (wrap64 (x4_1 + 1)), qS, qS, H', ⟨by have := HK1.out; have := HJ2.out; omega⟩, ⟨qK0 HB.out⟩⟩
           ·rw [if_neg c14] at H; exact absurd H (by simp)
          ·rw [if_neg c13] at H; exact absurd H (by simp)
         ·rw [if_neg c11] at H; exact absurd H (by simp)
        ·replace c9 := Bool.eq_false_iff.mpr c9; subst c9; have H1 : ((spec_l01Dec.f kj2 ((rd_T35 l0 x4_1).f0)).bind fun t377 => (if t377.size + 1 ≤ 9223372036854775807 then ((spec_l01Dec.f kj2 ((rd_T35 l0 x4_1).f1)).bind fun t379 => (if (t377 ++ (⟨#[60]⟩ : ByteArray)).size + t379.size ≤ 9223372036854775807 then (if x3_2.size + ((t377 ++ (⟨#[60]⟩ : ByteArray)) ++ t379).size ≤ 9223372036854775807 then (spec_l05Text.l0 kj2 l0 (x3_2 ++ ((t377 ++ (⟨#[60]⟩ : ByteArray)) ++ t379)) (wrap64 (x4_1 + 1))) else (none)) else (none))) else (none))) = some r := by rw [if_neg (show ¬ (false = true) by decide)] at H; exact H
         clear H; have H := H1; clear H1; replace H := Option.bind_eq_some_iff.mp H; obtain ⟨t377, A180, H⟩ := H; replace H : (if t377.size + 1 ≤ 9223372036854775807 then ((spec_l01Dec.f kj2 ((rd_T35 l0 x4_1).f1)).bind fun t379 => (if (t377 ++ (⟨#[60]⟩ : ByteArray)).size + t379.size ≤ 9223372036854775807 then (if x3_2.size + ((t377 ++ (⟨#[60]⟩ : ByteArray)) ++ t379).size ≤ 9223372036854775807 then (spec_l05Text.l0 kj2 l0 (x3_2 ++ ((t377 ++ (⟨#[60]⟩ : ByteArray)) ++ t379)) (wrap64 (x4_1 + 1))) else (none)) else (none))) else (none)) = some r := H; have A18 := A' A180; clear A180
         by_cases c19 : t377.size + 1 ≤ 9223372036854775807
         ·rw [if_pos c19] at H; have c19b0 := eq_true c19; have c19b1 : decide (t377.size + 1 ≤ 9223372036854775807) = true := dT' c19; try have c19b2 : (9223372036854775807 < t377.size + 1) = False := eq_false (Nat.not_lt.2 c19)
          replace H := Option.bind_eq_some_iff.mp H; obtain ⟨t379, A200, H⟩ := H; replace H : (if (t377 ++ (⟨#[60]⟩ : ByteArray)).size + t379.size ≤ 9223372036854775807 then (if x3_2.size + ((t377 ++ (⟨#[60]⟩ : ByteArray)) ++ t379).size ≤ 9223372036854775807 then (spec_l05Text.l0 kj2 l0 (x3_2 ++ ((t377 ++ (⟨#[60]⟩ : ByteArray)) ++ t379)) (wrap64 (x4_1 + 1))) else (none)) else (none)) = some r := H; have A20 := A' A200; clear A200
          by_cases c21 : (t377 ++ (⟨#[60]⟩ : ByteArray)).size + t379.size ≤ 9223372036854775807
          ·rw [if_pos c21] at H; have c21b0 := eq_true c21; have c21b1 : decide ((t377 ++ (⟨#[60]⟩ : ByteArray)).size + t379.size ≤ 9223372036854775807) = true := dT' c21; try have c21b2 : (9223372036854775807 < (t377 ++ (⟨#[60]⟩ : ByteArray)).size + t379.size) = False := eq_false (Nat.not_lt.2 c21)
           try have c21b7 : (9223372036854775807 < t377.size + 1 + t379.size) = False := eq_false (Nat.not_lt.2 (by have h_ := c21; simp only [ByteArray.size_append] at h_; exact h_))
           by_cases c22 : x3_2.size + ((t377 ++ (⟨#[60]⟩ : ByteArray)) ++ t379).size ≤ 9223372036854775807
           ·rw [if_pos c22] at H; have c22b0 := eq_true c22; have c22b1 : decide (x3_2.size + ((t377 ++ (⟨#[60]⟩ : ByteArray)) ++ t379).size ≤ 9223372036854775807) = true := dT' c22; try have c22b2 : (9223372036854775807 < x3_2.size + ((t377 ++ (⟨#[60]⟩ : ByteArray)) ++ t379).size) = False := eq_false (Nat.not_lt.2 c22)
            try have c22b7 : (9223372036854775807 < x3_2.size + (t377.size + 1 + t379.size)) = False := eq_false (Nat.not_lt.2 (by have h_ := c22; simp only [ByteArray.size_append] at h_; exact h_))
            have H' := A' H; clear H; have p371 : 0 ≤ (x4_1 : Int) := oD' qA; have q371 : x4_1 < (l0.length : Int) := oD' qA; obtain ⟨ad371, e371, hx371_0, hx371_1, hx371_2⟩ := at_T35 HR0.out x4_1 p371 q371; (try rw [← Nbq8.out] at hx371_2); (try rw [← Nbq8.out] at hw371_2)
            cases e371
            try replace hx371_0 := qC HB.out hx371_0
            try replace hx371_1 := qC HB.out hx371_1
            try replace hx371_2 := qC HB.out hx371_2
            replace p371 := eq_true p371; replace q371 := eq_true q371; try go_wp2
            have n0_ := A' (J' HB.out); clear HB; have HB := n0_; clear n0_; have p376 : 0 ≤ (x4_1 : Int) := oD' qA; have q376 : x4_1 < (l0.length : Int) := oD' qA; obtain ⟨ad376, e376, hx376_0, hx376_1, hx376_2⟩ := at_T35 HR0.out x4_1 p376 q376; have hw376_2 := hx376_2; have hw376_1 := hx376_1; have hw376_0 := hx376_0; (try rw [← Nbq8.out] at hx376_2); (try rw [← Nbq8.out] at hw376_2); obtain rfl : ad371 = ad376 := (by injection e376)
            try replace hx376_0 := qC HB.out hx376_0
            try replace hx376_1 := qC HB.out hx376_1
            try replace hx376_2 := qC HB.out hx376_2
            replace p376 := eq_true p376; replace q376 := eq_true q376; have p378 : 0 ≤ (x4_1 : Int) := oD' qA; have q378 : x4_1 < (l0.length : Int) := oD' qA; obtain ⟨ad378, e378, hx378_0, hx378_1, hx378_2⟩ := at_T35 HR0.out x4_1 p378 q378; have hw378_2 := hx378_2; have hw378_1 := hx378_1; have hw378_0 := hx378_0; (try rw [← Nbq8.out] at hx378_2); (try rw [← Nbq8.out] at hw378_2); obtain rfl : ad371 = ad378 := (by injection e378)
            try replace hx378_0 := qC HB.out hx378_0
            try replace hx378_1 := qC HB.out hx378_1
            try replace hx378_2 := qC HB.out hx378_2
            replace p378 := eq_true p378; replace q378 := eq_true q378; refine start_ (n := 17) (S := fun w' => w'.cell? (ad371.add ((x4_1).toNat * 3)) = some (.int .i64 ((rd_T35 l0 x4_1).f0)) ∧ w'.cell? ⟨(ad371.add ((x4_1).toNat * 3)).block, (ad371.add ((x4_1).toNat * 3)).off + 1, none⟩ = some (.int .i64 ((rd_T35 l0 x4_1).f1)) ∧ w'.cell? ⟨(ad371.add ((x4_1).toNat * 3)).block, (ad371.add ((x4_1).toNat * 3)).off + 2, none⟩ = some (.bool (false)) ∧ w'.cell? (ad371.add ((x4_1).toNat * 3)) = some (.int .i64 ((rd_T35 l0 x4_1).f0)) ∧ w'.cell? ⟨(ad371.add ((x4_1).toNat * 3)).block, (ad371.add ((x4_1).toNat * 3)).off + 1, none⟩ = some (.int .i64 ((rd_T35 l0 x4_1).f1)) ∧ w'.cell? ⟨(ad371.add ((x4_1).toNat * 3)).block, (ad371.add ((x4_1).toNat * 3)).off + 2, none⟩ = some (.bool (false))) (ds := []) r_0 (by kernel_rfl) rfl rfl ⟨(qC HB.out hw376_0 :), (qC HB.out hw376_1 :), (qC HB.out hw376_2 :), (qC HB.out hw378_0 :), (qC HB.out hw378_1 :), (qC HB.out hw378_2 :)⟩ (fun hHeld => ?_); refine with_tabW spec_l05Text.tab9 spec_l05Text.bits9 (fun HT_ HW_ => ?_)
            generalize wc.drew = w23 at HB hx376_0 hx376_1 hx376_2 hx378_0 hx378_1 hx378_2 hHeld ⊢
            refine pure_ (i := 0) (N := some 36) r_1 rfl rfl (any_of HT_.out (by kernel_rfl)) (fun _ _ _ h => h) (Or.inl ⟨by rfl, qI⟩) qP ?_
            refine pure_ (i := 1) (N := some 37) r_2 rfl rfl (any_of HT_.out (by kernel_rfl)) (fun _ _ _ h => h) (Or.inl ⟨by rfl, qI⟩) qP ?_
            refine pure_ (i := 2) (N := some 38) r_3 rfl rfl (any_of HT_.out (by kernel_rfl)) (fun _ _ _ h => h) (Or.inl ⟨by rfl, qI⟩) qP ?_
            refine pure_ (i := 3) (N := some 39) r_4 rfl rfl (any_of HT_.out (by kernel_rfl)) (fun _ _ _ h => h) (Or.inl ⟨by rfl, qI⟩) qP ?_
            refine pure_ (i := 4) (N := some 40) r_5 rfl rfl (any_of HT_.out (by kernel_rfl)) (fun _ _ _ h => h) (Or.inl ⟨by rfl, qI⟩) qP ?_
            refine pure_ (i := 8) (N := some 44) r_6 rfl rfl (any_of HT_.out (by kernel_rfl)) (fun _ _ _ h => h) (Or.inl ⟨by rfl, qI⟩) qP ?_
            refine pure_ (i := 9) (N := some 45) r_7 rfl rfl (any_of HT_.out (by kernel_rfl)) (fun _ _ _ h => h) (Or.inl ⟨by rfl, qI⟩) qP ?_
            refine pure_ (i := 10) (N := some 46) r_8 rfl rfl (any_of HT_.out (by kernel_rfl)) (fun _ _ _ h => h) (Or.inl ⟨by rfl, qI⟩) qP ?_
            refine pure_ (i := 11) (N := some 47) r_9 rfl rfl (any_of HT_.out (by kernel_rfl)) (fun _ _ _ h => h) (Or.inl ⟨by rfl, qI⟩) qP ?_
            refine take_ (i := 5) (N := some 41) (v := ?_) (a' := ?_) r_10 rfl rfl (take_ofW HT_.out HW_.out (by kernel_rfl)) (fun _ _ _ h => h) (Or.inl ⟨by rfl, ?_⟩) hHeld ?_ ?_; rotate_left
            ·rintro w' ⟨s0, s1, s2, s3, s4, s5⟩; go_simp; with_reducible rfl
            rotate_left
            ·exact qP
            refine take_ (i := 12) (N := some 48) (v := ?_) (a' := ?_) r_11 rfl rfl (take_ofW HT_.out HW_.out (by kernel_rfl)) (fun _ _ _ h => h) (Or.inl ⟨by rfl, ?_⟩) hHeld ?_ ?_; rotate_left
            ·rintro w' ⟨s0, s1, s2, s3, s4, s5⟩; go_simp; with_reducible rfl
            rotate_left
            ·exact qP
            refine one_ (i := 6) (N := some 42) r_12 rfl rfl (one_of HT_.out (by kernel_rfl)) (by decide) (fun K hK => ?_); refine goes_ Tryz.func72 (by kernel_rfl) rfl #[.int .i64 ((rd_T35 l0 x4_1).f0)] (by rfl) rfl rfl (by (try simp only [List.map_toArray, List.map_cons, List.map_nil]); first | done | rfl | (simp only [List.length_drop, List.length_take]; rfl)) ?_
            with_reducible refine (spec_l01Dec.calls kj2 ((rd_T35 l0 x4_1).f0) t377 _ A18.out).mono ?_
            rintro e w24 ⟨rfl, hb⟩; refine ⟨_, rfl, ?_⟩; have n0_ := A' (W' (qK0 HB.out) hb); clear HB; have HB := n0_; clear n0_; (try clear hb); (try clear hb2); (try clear hk); (try clear hi); refine hK.out _ _ ⟨(qC HB.out hw376_0 :), (qC HB.out hw376_1 :), (qC HB.out hw376_2 :), (qC HB.out hw378_0 :), (qC HB.out hw378_1 :), (qC HB.out hw378_2 :)⟩ (fun hHeld => ?_); clear hK K; refine norm_ (a' := ?_) ?_ ?_; rotate_left
            ·show Act.put _ (some 42) _ = _
             exact qP
            refine pure_ (i := 7) (N := some 43) r_13 rfl rfl (any_of HT_.out (by kernel_rfl)) (fun _ _ _ h => h) (Or.inl ⟨by rfl, qI⟩) qP ?_
            refine one_ (i := 13) (N := some 49) r_14 rfl rfl (one_of HT_.out (by kernel_rfl)) (by decide) (fun K hK => ?_); refine goes_ Tryz.func72 (by kernel_rfl) rfl #[.int .i64 ((rd_T35 l0 x4_1).f1)] (by rfl) rfl rfl (by (try simp only [List.map_toArray, List.map_cons, List.map_nil]); first | done | rfl | (simp only [List.length_drop, List.length_take]; rfl)) ?_
            with_reducible refine (spec_l01Dec.calls kj2 ((rd_T35 l0 x4_1).f1) t379 _ A20.out).mono ?_
            rintro e w25 ⟨rfl, hb⟩; refine ⟨_, rfl, ?_⟩; have n0_ := A' (W' (qK0 HB.out) hb); clear HB; have HB := n0_; clear n0_; (try clear hb); (try clear hb2); (try clear hk); (try clear hi); refine hK.out _ _ ⟨(qC HB.out hw376_0 :), (qC HB.out hw376_1 :), (qC HB.out hw376_2 :), (qC HB.out hw378_0 :), (qC HB.out hw378_1 :), (qC HB.out hw378_2 :)⟩ (fun hHeld => ?_); clear hK K; refine norm_ (a' := ?_) ?_ ?_; rotate_left
            ·show Act.put _ (some 49) _ = _
             exact qP
            refine pure_ (i := 14) (N := some 50) r_15 rfl rfl (any_of HT_.out (by kernel_rfl)) (fun _ _ _ h => h) (Or.inl ⟨by rfl, qI⟩) qP ?_
            refine pure_ (i := 15) (N := some 51) r_16 rfl rfl (any_of HT_.out (by kernel_rfl)) (fun _ _ _ h => h) (Or.inl ⟨by rfl, qI⟩) qP ?_
            refine pure_ (i := 16) (N := some 3) r_17 rfl rfl (any_of HT_.out (by kernel_rfl)) (fun _ _ _ h => h) (Or.inl ⟨by rfl, qI⟩) qP ?_
            refine done_ (done_of HT_.out (by kernel_rfl)) ?_; try go_wp2
            go_roundg kj2
            case measure => have := HK1.out; have := HJ2.out; omega
            case rel => exact ⟨(x3_2 ++ ((t377 ++ (⟨#[60]⟩ : ByteArray)) ++ t379)), (wrap64 (x4_1 + 1)), qS, qS, H', ⟨by have := HK1.out; have := HJ2.out; omega⟩, ⟨qK0 HB.out⟩⟩
           ·rw [if_neg c22] at H; exact absurd H (by simp)
          ·rw [if_neg c21] at H; exact absurd H (by simp)
         ·rw [if_neg c19] at H; exact absurd H (by simp)
       ·rw [if_neg c7] at H; exact absurd H (by simp)
      ·rw [if_neg c6] at H; exact absurd H (by simp)
   ·rw [if_neg c2] at H; have c2b0 : decide (x4_1 < (l0.length : Int)) = false := dF' c2; clear c2; obtain rfl := Option.some.inj H; go_wp2; go_ret; exact ⟨qE, qK0 HB.out⟩

/-! ### spec_l00Src_text: function 73 -/
def spec_l00Src_text.f (s0_0 : List Int) (s0_1 : Int) (s0_2 : Int) (l1 : List ByteArray) : Option (ByteArray × Int × Int) := (spec_l00Src_pick.f s0_0 s0_1 s0_2 (l1.length : Int)).bind fun bt380 => (if 0 ≤ bt380.1 then (if bt380.1 < (l1.length : Int) then (some (rdOf ByteArray.empty l1 bt380.1, bt380.2.1, bt380.2.2)) else (none)) else (none))
set_option maxHeartbeats 8000000 in
set_option maxRecDepth 100000 in
theorem spec_l00Src_text.calls (g : Nat) (s0_0 : List Int) (s0_1 : Int) (s0_2 : Int) (A1 : Option Addr) (c1 : Nat) (l1 : List ByteArray) (r1 : ByteArray) (r2 : Int) (r3 : Int) (w0 w : World) (hI : IsS76 w0 w g s0_0 s0_1 s0_2) (hB : Below w0.heap.size w0 w) (hr1 : Kd.C Kd.string w A1 l1.length l1) (hc1 : l1.length ≤ c1) (hf1 : ∀ ad, A1 = some ad → 0 < l1.length → ad.block ≠ g) (h : spec_l00Src_text.f s0_0 s0_1 s0_2 l1 = some (r1, r2, r3)) :
  Calls Tryz.prog 73 #[.pointer (some ⟨g, 0, none⟩), .slice A1 l1.length c1] w fun e w' => e = .returned (.string r1) ∧ IsS76 w0 w' g s0_0 r2 r3 ∧ Below w0.heap.size w0 w' ∧ KeepBut w w' g none := by
 have HR1 := A' hr1; have HC1 := A' hc1; clear hr1 hc1; have HI0 := A' hI; have HK := A' (KeepBut.refl w g none); have HL := A' hB.size; clear hI; have HW0 := A' hB.size; have HB := A' hB; clear hB; have H : ((spec_l00Src_pick.f s0_0 s0_1 s0_2 (l1.length : Int)).bind fun bt380 => (if 0 ≤ bt380.1 then (if bt380.1 < (l1.length : Int) then (some (rdOf ByteArray.empty l1 bt380.1, bt380.2.1, bt380.2.2)) else (none)) else (none))) = some (r1, r2, r3) := h; clear h; replace H := Option.bind_eq_some_iff.mp H; obtain ⟨⟨t380, t381, t382⟩, A30, H⟩ := H; replace H : (if 0 ≤ t380 then (if t380 < (l1.length : Int) then (some (rdOf ByteArray.empty l1 t380, t381, t382)) else (none)) else (none)) = some (r1, r2, r3) := H; have A3 := A' A30; clear A30
 by_cases c4 : 0 ≤ t380
 ·rw [if_pos c4] at H; have c4b0 : decide (0 ≤ t380) = true := dT' c4; clear c4
  by_cases c5 : t380 < (l1.length : Int)
  ·rw [if_pos c5] at H; have c5b0 : decide (t380 < (l1.length : Int)) = true := dT' c5; clear c5; simp only [Option.some.injEq, Prod.mk.injEq] at H; obtain ⟨rfl, rfl, rfl⟩ := H; go_enter Tryz.func73, Tryz.ntmps73; go_wp2_with (first | ((with_reducible refine gate_callee (f := 57) rfl ?_); refine goesL_ (some 9) rfl rfl Tryz.func57 (by kernel_rfl) rfl #[.pointer (some ⟨g, 0, none⟩), .int .i64 (l1.length : Int)] rfl (by (try simp only [List.map_toArray, List.map_cons, List.map_nil]); first | done | rfl | (simp only [List.length_drop, List.length_take]; rfl)) ?_; (with_reducible refine (spec_l00Src_pick.calls g s0_0 s0_1 s0_2 (l1.length : Int) t380 t381 t382 w0 _ ?side1 ?side2 A3.out).mono ?_); (case side1 => repeat (first | (with_reducible first | exact HI0.out | apply IsS76.alloc | apply IsS76.drewN | apply IsS76.drew | apply IsS76.set_1 | apply IsS76.set_2) | exact HI0.out)); (case side2 => repeat (first | (with_reducible first | exact HB.out | apply K' | apply F' | apply J' | refine E' ?_ (IsS76.ge HI0.out)) | exact HB.out)); rintro e w6 ⟨rfl, hi, hb, hk⟩; refine ⟨_, rfl, ?_⟩; have n0_ := A' (KeepBut.trans (by repeat (first | (with_reducible first | exact HK.out | apply KeepBut.set_ | apply keep_drewN | apply keep_drew | apply keep_alloc) | exact HK.out)) hk (.inl rfl)); have n1_ := A' (hb); have n2_ := A' (hi); clear HK; clear HB; clear HI0; have HK := n0_; have HB := n1_; have HI0 := n2_; clear n0_ n1_ n2_; (try clear hb); (try clear hb2); (try clear hk); (try clear hi); have p383 : 0 ≤ (t380 : Int) := oD' qA; have q383 : t380 < (l1.length : Int) := oD' qA; obtain ⟨ad383, e383, hx383_0⟩ := Kd.at_string HR1.out t380 p383 q383; cases e383; replace hx383_0 := keep_cell HK.out hx383_0 (by first | (rw [add_block]; exact hf1 _ rfl (by omega)) | exact hf1 _ rfl (by omega) | exact hf1 ad383 rfl (by omega)); replace p383 := eq_true p383; replace q383 := eq_true q383)); go_ret; exact ⟨qE, by repeat (first | (with_reducible first | exact HI0.out | apply IsS76.alloc | apply IsS76.drewN | apply IsS76.drew | apply IsS76.set_1 | apply IsS76.set_2) | exact HI0.out), by repeat (first | (with_reducible first | exact HB.out | apply K' | apply F' | apply J' | refine E' ?_ (IsS76.ge HI0.out)) | exact HB.out), by repeat (first | (with_reducible first | exact HK.out | apply KeepBut.set_ | apply keep_drewN | apply keep_drew | apply keep_alloc) | exact HK.out)⟩
  ·rw [if_neg c5] at H; exact absurd H (by simp)
 ·rw [if_neg c4] at H; exact absurd H (by simp)

/-! ### spec_l01Spoil: function 54 -/
def spec_l01Spoil.f (s0_0 : List Int) (s0_1 : Int) (s0_2 : Int) (a1 : ByteArray) : Option (ByteArray × Int × Int) := (spec_l00Src_pick.f s0_0 s0_1 s0_2 5).bind fun bt384 => (if bt384.1 = 0 then ((spec_l00Src_pick.f s0_0 bt384.2.1 bt384.2.2 (wrap64 ((a1.size : Int) + 1))).bind fun bt387 => (if 0 ≤ bt387.1 then (if bt387.1 ≤ (a1.size : Int) then ((spec_l00Src_text.f s0_0 bt387.2.1 bt387.2.2 (([(⟨#[32]⟩ : ByteArray), (⟨#[48]⟩ : ByteArray), (⟨#[45]⟩ : ByteArray), (⟨#[120]⟩ : ByteArray), (⟨#[49]⟩ : ByteArray), (⟨#[57]⟩ : ByteArray), (⟨#[46]⟩ : ByteArray)] : List ByteArray))).bind fun bt393 => (if (a1.extract 0 (bt387.1 : Int).toNat).size + bt393.1.size ≤ 9223372036854775807 then (if ((a1.extract 0 (bt387.1 : Int).toNat) ++ bt393.1).size + (a1.extract (bt387.1 : Int).toNat a1.size).size ≤ 9223372036854775807 then (some (((a1.extract 0 (bt387.1 : Int).toNat) ++ bt393.1) ++ (a1.extract (bt387.1 : Int).toNat a1.size), bt393.2.1, bt393.2.2)) else (none)) else (none))) else (none)) else (none))) else (if bt384.1 = 1 then (if a1.toList = ([] : List UInt8) then (some (a1, bt384.2.1, bt384.2.2)) else ((spec_l00Src_pick.f s0_0 bt384.2.1 bt384.2.2 (a1.size : Int)).bind fun bt396 => (if 0 ≤ bt396.1 then (if bt396.1 ≤ (a1.size : Int) then (if 0 ≤ (wrap64 (bt396.1 + 1)) then (if (wrap64 (bt396.1 + 1)) ≤ (a1.size : Int) then (if (a1.extract 0 (bt396.1 : Int).toNat).size + (a1.extract ((wrap64 (bt396.1 + 1)) : Int).toNat a1.size).size ≤ 9223372036854775807 then (some ((a1.extract 0 (bt396.1 : Int).toNat) ++ (a1.extract ((wrap64 (bt396.1 + 1)) : Int).toNat a1.size), bt396.2.1, bt396.2.2)) else (none)) else (none)) else (none)) else (none)) else (none)))) else (some (a1, bt384.2.1, bt384.2.2))))
def spec_l01Spoil.T4 : Bool × List (List Nat × List Nat) := (true, [([], []), ([], []), ([0, 1], [0, 1]), ([], []), ([], []), ([3, 4], [3, 4]), ([2, 5], [2, 5]), ([], []), ([], []), ([7, 8], [7, 8]), ([6, 9], [6, 9]), ([10, 5, 0, 1, 2, 3, 4, 5, 6, 7, 8, 9, 10], [0, 7, 10])])
def spec_l01Spoil.B4 : List Nat := [0, 0, 3, 0, 0, 24, 63, 0, 0, 384, 1023, 2047]
theorem spec_l01Spoil.tab4 : rtab .any (opsOf Tryz.f54 4) = spec_l01Spoil.T4 := by kernel_rfl
theorem spec_l01Spoil.bits4 : waitsOk spec_l01Spoil.T4.2 spec_l01Spoil.B4 = true := by kernel_rfl
def spec_l01Spoil.T8 : Bool × List (List Nat × List Nat) := (true, [([], []), ([], []), ([0, 1], [0, 1]), ([], []), ([], []), ([4], [4]), ([3, 5], [3, 5]), ([2, 6], [2, 6]), ([7, 0, 1, 2, 3, 4, 5, 6, 7], [0, 3, 7])])
def spec_l01Spoil.B8 : List Nat := [0, 0, 3, 0, 0, 16, 56, 127, 255]
theorem spec_l01Spoil.tab8 : rtab .any (opsOf Tryz.f54 8) = spec_l01Spoil.T8 := by kernel_rfl
theorem spec_l01Spoil.bits8 : waitsOk spec_l01Spoil.T8.2 spec_l01Spoil.B8 = true := by kernel_rfl
set_option maxHeartbeats 8000000 in
set_option maxRecDepth 100000 in
theorem spec_l01Spoil.calls (g : Nat) (s0_0 : List Int) (s0_1 : Int) (s0_2 : Int) (a1 : ByteArray) (r1 : ByteArray) (r2 : Int) (r3 : Int) (w0 w : World) (hI : IsS76 w0 w g s0_0 s0_1 s0_2) (hB : Below w0.heap.size w0 w) (h : spec_l01Spoil.f s0_0 s0_1 s0_2 a1 = some (r1, r2, r3)) :
  Calls Tryz.prog 54 #[.pointer (some ⟨g, 0, none⟩), .string a1] w fun e w' => e = .returned (.string r1) ∧ IsS76 w0 w' g s0_0 r2 r3 ∧ Below w0.heap.size w0 w' ∧ KeepBut w w' g none := by
 have HI0 := A' hI; have HK := A' (KeepBut.refl w g none); have HL := A' hB.size; clear hI; have HW0 := A' hB.size; have HB := A' hB; clear hB; have H : ((spec_l00Src_pick.f s0_0 s0_1 s0_2 5).bind fun bt384 => (if bt384.1 = 0 then ((spec_l00Src_pick.f s0_0 bt384.2.1 bt384.2.2 (wrap64 ((a1.size : Int) + 1))).bind fun bt387 => (if 0 ≤ bt387.1 then (if bt387.1 ≤ (a1.size : Int) then ((spec_l00Src_text.f s0_0 bt387.2.1 bt387.2.2 (([(⟨#[32]⟩ : ByteArray), (⟨#[48]⟩ : ByteArray), (⟨#[45]⟩ : ByteArray), (⟨#[120]⟩ : ByteArray), (⟨#[49]⟩ : ByteArray), (⟨#[57]⟩ : ByteArray), (⟨#[46]⟩ : ByteArray)] : List ByteArray))).bind fun bt393 => (if (a1.extract 0 (bt387.1 : Int).toNat).size + bt393.1.size ≤ 9223372036854775807 then (if ((a1.extract 0 (bt387.1 : Int).toNat) ++ bt393.1).size + (a1.extract (bt387.1 : Int).toNat a1.size).size ≤ 9223372036854775807 then (some (((a1.extract 0 (bt387.1 : Int).toNat) ++ bt393.1) ++ (a1.extract (bt387.1 : Int).toNat a1.size), bt393.2.1, bt393.2.2)) else (none)) else (none))) else (none)) else (none))) else (if bt384.1 = 1 then (if a1.toList = ([] : List UInt8) then (some (a1, bt384.2.1, bt384.2.2)) else ((spec_l00Src_pick.f s0_0 bt384.2.1 bt384.2.2 (a1.size : Int)).bind fun bt396 => (if 0 ≤ bt396.1 then (if bt396.1 ≤ (a1.size : Int) then (if 0 ≤ (wrap64 (bt396.1 + 1)) then (if (wrap64 (bt396.1 + 1)) ≤ (a1.size : Int) then (if (a1.extract 0 (bt396.1 : Int).toNat).size + (a1.extract ((wrap64 (bt396.1 + 1)) : Int).toNat a1.size).size ≤ 9223372036854775807 then (some ((a1.extract 0 (bt396.1 : Int).toNat) ++ (a1.extract ((wrap64 (bt396.1 + 1)) : Int).toNat a1.size), bt396.2.1, bt396.2.2)) else (none)) else (none)) else (none)) else (none)) else (none)))) else (some (a1, bt384.2.1, bt384.2.2))))) = some (r1, r2, r3) := h; clear h; replace H := Option.bind_eq_some_iff.mp H; obtain ⟨⟨t384, t385, t386⟩, A30, H⟩ := H; replace H : (if t384 = 0 then ((spec_l00Src_pick.f s0_0 t385 t386 (wrap64 ((a1.size : Int) + 1))).bind fun bt387 => (if 0 ≤ bt387.1 then (if bt387.1 ≤ (a1.size : Int) then ((spec_l00Src_text.f s0_0 bt387.2.1 bt387.2.2 (([(⟨#[32]⟩ : ByteArray), (⟨#[48]⟩ : ByteArray), (⟨#[45]⟩ : ByteArray), (⟨#[120]⟩ : ByteArray), (⟨#[49]⟩ : ByteArray), (⟨#[57]⟩ : ByteArray), (⟨#[46]⟩ : ByteArray)] : List ByteArray))).bind fun bt393 => (if (a1.extract 0 (bt387.1 : Int).toNat).size + bt393.1.size ≤ 9223372036854775807 then (if ((a1.extract 0 (bt387.1 : Int).toNat) ++ bt393.1).size + (a1.extract (bt387.1 : Int).toNat a1.size).size ≤ 9223372036854775807 then (some (((a1.extract 0 (bt387.1 : Int).toNat) ++ bt393.1) ++ (a1.extract (bt387.1 : Int).toNat a1.size), bt393.2.1, bt393.2.2)) else (none)) else (none))) else (none)) else (none))) else (if t384 = 1 then (if a1.toList = ([] : List UInt8) then (some (a1, t385, t386)) else ((spec_l00Src_pick.f s0_0 t385 t386 (a1.size : Int)).bind fun bt396 => (if 0 ≤ bt396.1 then (if bt396.1 ≤ (a1.size : Int) then (if 0 ≤ (wrap64 (bt396.1 + 1)) then (if (wrap64 (bt396.1 + 1)) ≤ (a1.size : Int) then (if (a1.extract 0 (bt396.1 : Int).toNat).size + (a1.extract ((wrap64 (bt396.1 + 1)) : Int).toNat a1.size).size ≤ 9223372036854775807 then (some ((a1.extract 0 (bt396.1 : Int).toNat) ++ (a1.extract ((wrap64 (bt396.1 + 1)) : Int).toNat a1.size), bt396.2.1, bt396.2.2)) else (none)) else (none)) else (none)) else (none)) else (none)))) else (some (a1, t385, t386)))) = some (r1, r2, r3) := H; have A3 := A' A30; clear A30
 by_cases c4 : t384 = 0
 ·rw [if_pos c4] at H; have c4b0 : (t384 == 0) = true := beq_iff_eq.mpr c4; have c4b1 : (t384 != 0) = false := bne_eq_false_iff_eq.mpr c4; clear c4; replace H := Option.bind_eq_some_iff.mp H; obtain ⟨⟨t387, t388, t389⟩, A50, H⟩ := H; replace H : (if 0 ≤ t387 then (if t387 ≤ (a1.size : Int) then ((spec_l00Src_text.f s0_0 t388 t389 (([(⟨#[32]⟩ : ByteArray), (⟨#[48]⟩ : ByteArray), (⟨#[45]⟩ : ByteArray), (⟨#[120]⟩ : ByteArray), (⟨#[49]⟩ : ByteArray), (⟨#[57]⟩ : ByteArray), (⟨#[46]⟩ : ByteArray)] : List ByteArray))).bind fun bt393 => (if (a1.extract 0 (t387 : Int).toNat).size + bt393.1.size ≤ 9223372036854775807 then (if ((a1.extract 0 (t387 : Int).toNat) ++ bt393.1).size + (a1.extract (t387 : Int).toNat a1.size).size ≤ 9223372036854775807 then (some (((a1.extract 0 (t387 : Int).toNat) ++ bt393.1) ++ (a1.extract (t387 : Int).toNat a1.size), bt393.2.1, bt393.2.2)) else (none)) else (none))) else (none)) else (none)) = some (r1, r2, r3) := H; have A5 := A' A50; clear A50
  by_cases c6 : 0 ≤ t387
  ·rw [if_pos c6] at H; have c6b0 := eq_true c6; have c6b1 : decide (0 ≤ t387) = true := dT' c6; clear c6
   by_cases c7 : t387 ≤ (a1.size : Int)
   ·rw [if_pos c7] at H; have c7b0 := eq_true c7; have c7b1 : decide (t387 ≤ (a1.size : Int)) = true := dT' c7; clear c7; obtain ⟨y390, hy390⟩ : ∃ y_ : List ByteArray, y_ = (([(⟨#[32]⟩ : ByteArray), (⟨#[48]⟩ : ByteArray), (⟨#[45]⟩ : ByteArray), (⟨#[120]⟩ : ByteArray), (⟨#[49]⟩ : ByteArray), (⟨#[57]⟩ : ByteArray), (⟨#[46]⟩ : ByteArray)] : List ByteArray)) := ⟨_, rfl⟩
    replace H : ((spec_l00Src_text.f s0_0 t388 t389 y390).bind fun bt393 => (if (a1.extract 0 (t387 : Int).toNat).size + bt393.1.size ≤ 9223372036854775807 then (if ((a1.extract 0 (t387 : Int).toNat) ++ bt393.1).size + (a1.extract (t387 : Int).toNat a1.size).size ≤ 9223372036854775807 then (some (((a1.extract 0 (t387 : Int).toNat) ++ bt393.1) ++ (a1.extract (t387 : Int).toNat a1.size), bt393.2.1, bt393.2.2)) else (none)) else (none))) = some (r1, r2, r3) := by first | (rw [hy390]; with_reducible exact H) | (have H2_ := (Option.bind_some _ _).symm.trans H; rw [hy390]; with_reducible exact H2_) | (have H2_ := (Option.bind_some _ _).symm.trans H; with_reducible exact H2_) | with_reducible exact H | (rw [hy390]; exact H) | exact H
    have Ny390 := A' hy390; clear hy390; replace H := Option.bind_eq_some_iff.mp H; obtain ⟨⟨t393, t394, t395⟩, A80, H⟩ := H; replace H : (if (a1.extract 0 (t387 : Int).toNat).size + t393.size ≤ 9223372036854775807 then (if ((a1.extract 0 (t387 : Int).toNat) ++ t393).size + (a1.extract (t387 : Int).toNat a1.size).size ≤ 9223372036854775807 then (some (((a1.extract 0 (t387 : Int).toNat) ++ t393) ++ (a1.extract (t387 : Int).toNat a1.size), t394, t395)) else (none)) else (none)) = some (r1, r2, r3) := H; have A8 := A' A80; clear A80
    by_cases c9 : (a1.extract 0 (t387 : Int).toNat).size + t393.size ≤ 9223372036854775807
    ·rw [if_pos c9] at H; have c9b0 := eq_true c9; have c9b1 : decide ((a1.extract 0 (t387 : Int).toNat).size + t393.size ≤ 9223372036854775807) = true := dT' c9; try have c9b2 : (9223372036854775807 < (a1.extract 0 (t387 : Int).toNat).size + t393.size) = False := eq_false (Nat.not_lt.2 c9)
     try have c9b8 : (9223372036854775807 < t387.toNat + t393.size) = False := eq_false (Nat.not_lt.2 (by have h_ := c9; simp only [ByteArray.size_append, ByteArray.size_extract] at h_; have k0_ : (t387 : Int) ≤ (a1.size : Int) := oD' (by assumption); have j0_ : 0 ≤ (t387 : Int) := oD' (by assumption); omega))
     have c10b0 := eq_true (oD' qA : 0 ≤ t387); have c11b0 := eq_true (oD' qA : t387 ≤ (a1.size : Int))
     by_cases c12 : ((a1.extract 0 (t387 : Int).toNat) ++ t393).size + (a1.extract (t387 : Int).toNat a1.size).size ≤ 9223372036854775807
     ·rw [if_pos c12] at H; have c12b0 := eq_true c12; have c12b1 : decide (((a1.extract 0 (t387 : Int).toNat) ++ t393).size + (a1.extract (t387 : Int).toNat a1.size).size ≤ 9223372036854775807) = true := dT' c12; try have c12b2 : (9223372036854775807 < ((a1.extract 0 (t387 : Int).toNat) ++ t393).size + (a1.extract (t387 : Int).toNat a1.size).size) = False := eq_false (Nat.not_lt.2 c12)
      try have c12b7 : (9223372036854775807 < (a1.extract 0 (t387 : Int).toNat).size + t393.size + (a1.extract (t387 : Int).toNat a1.size).size) = False := eq_false (Nat.not_lt.2 (by have h_ := c12; simp only [ByteArray.size_append] at h_; exact h_))
      try have c12b8 : (9223372036854775807 < t387.toNat + t393.size + (a1.size - t387.toNat)) = False := eq_false (Nat.not_lt.2 (by have h_ := c12; simp only [ByteArray.size_append, ByteArray.size_extract] at h_; have k0_ : (t387 : Int) ≤ (a1.size : Int) := oD' (by assumption); have j0_ : 0 ≤ (t387 : Int) := oD' (by assumption); omega))
      simp only [Option.some.injEq, Prod.mk.injEq] at H; obtain ⟨rfl, rfl, rfl⟩ := H; go_enter Tryz.func54, Tryz.ntmps54; try go_wp2_with (first | ((with_reducible refine gate_callee (f := 57) rfl ?_); refine goesL_ (some 8) rfl rfl Tryz.func57 (by kernel_rfl) rfl #[.pointer (some ⟨g, 0, none⟩), .int .i64 5] rfl (by (try simp only [List.map_toArray, List.map_cons, List.map_nil]); first | done | rfl | (simp only [List.length_drop, List.length_take]; rfl)) ?_; (with_reducible refine (spec_l00Src_pick.calls g s0_0 s0_1 s0_2 5 t384 t385 t386 w0 _ ?side1 ?side2 A3.out).mono ?_); (case side1 => repeat (first | (with_reducible first | exact HI0.out | apply IsS76.alloc | apply IsS76.drewN | apply IsS76.drew | apply IsS76.set_1 | apply IsS76.set_2) | exact HI0.out)); (case side2 => repeat (first | (with_reducible first | exact HB.out | apply K' | apply F' | apply J' | refine E' ?_ (IsS76.ge HI0.out)) | exact HB.out)); rintro e w13 ⟨rfl, hi, hb, hk⟩; refine ⟨_, rfl, ?_⟩; have n0_ := A' (KeepBut.trans (by repeat (first | (with_reducible first | exact HK.out | apply KeepBut.set_ | apply keep_drewN | apply keep_drew | apply keep_alloc) | exact HK.out)) hk (.inl rfl)); have n1_ := A' (hb); have n2_ := A' (hi); clear HK; clear HB; clear HI0; have HK := n0_; have HB := n1_; have HI0 := n2_; clear n0_ n1_ n2_; (try clear hb); (try clear hb2); (try clear hk); (try clear hi)) | ((with_reducible refine gate_callee (f := 57) rfl ?_); refine goesL_ (some 15) rfl rfl Tryz.func57 (by kernel_rfl) rfl #[.pointer (some ⟨g, 0, none⟩), .int .i64 (wrap64 ((a1.size : Int) + 1))] rfl (by (try simp only [List.map_toArray, List.map_cons, List.map_nil]); first | done | rfl | (simp only [List.length_drop, List.length_take]; rfl)) ?_; (with_reducible refine (spec_l00Src_pick.calls g s0_0 t385 t386 (wrap64 ((a1.size : Int) + 1)) t387 t388 t389 w0 _ ?side1 ?side2 A5.out).mono ?_); (case side1 => repeat (first | (with_reducible first | exact HI0.out | apply IsS76.alloc | apply IsS76.drewN | apply IsS76.drew | apply IsS76.set_1 | apply IsS76.set_2) | exact HI0.out)); (case side2 => repeat (first | (with_reducible first | exact HB.out | apply K' | apply F' | apply J' | refine E' ?_ (IsS76.ge HI0.out)) | exact HB.out)); rintro e w14 ⟨rfl, hi, hb, hk⟩; refine ⟨_, rfl, ?_⟩; have n0_ := A' (KeepBut.trans (by repeat (first | (with_reducible first | exact HK.out | apply KeepBut.set_ | apply keep_drewN | apply keep_drew | apply keep_alloc) | exact HK.out)) hk (.inl rfl)); have n1_ := A' (hb); have n2_ := A' (hi); clear HK; clear HB; clear HI0; have HK := n0_; have HB := n1_; have HI0 := n2_; clear n0_ n1_ n2_; (try clear hb); (try clear hb2); (try clear hk); (try clear hi)))
      have n0_ := A' (IsS76.drew HI0.out); have n1_ := A' (keep_drew HK.out); have n2_ := A' (J' HB.out); clear HI0; clear HK; clear HB; have HI0 := n0_; have HK := n1_; have HB := n2_; clear n0_ n1_ n2_; refine start_ (n := 12) (S := fun w' => True) (ds := []) #[n', n', n', n', n', n', n', n', n', n', n', n'] (by kernel_rfl) rfl rfl trivial (fun hHeld => ?_); refine with_tabW spec_l01Spoil.tab4 spec_l01Spoil.bits4 (fun HT_ HW_ => ?_)
      generalize w14.drew = w15 at HI0 HK HB hHeld ⊢
      refine pure_ (i := 0) (N := some 16) (v := ?_) (a' := ?_) #[y', n', n', n', n', n', n', n', n', n', n', n'] rfl rfl (any_of HT_.out (by kernel_rfl)) (fun _ _ _ h => h) (Or.inl ⟨by rfl, ?_⟩) ?_ ?_; rotate_left
      ·exact qI
      rotate_left
      ·exact qP
      refine pure_ (i := 1) (N := some 17) (v := ?_) (a' := ?_) #[y', y', n', n', n', n', n', n', n', n', n', n'] rfl rfl (any_of HT_.out (by kernel_rfl)) (fun _ _ _ h => h) (Or.inl ⟨by rfl, ?_⟩) ?_ ?_; rotate_left
      ·exact qI
      rotate_left
      ·exact qP
      refine pure_ (i := 2) (N := some 18) (v := ?_) (a' := ?_) #[y', y', y', n', n', n', n', n', n', n', n', n'] rfl rfl (any_of HT_.out (by kernel_rfl)) (fun _ _ _ h => h) (Or.inl ⟨by rfl, ?_⟩) ?_ ?_; rotate_left
      ·exact qI
      rotate_left
      ·exact qP
      refine pure_ (i := 3) (N := some 19) (v := ?_) (a' := ?_) #[y', y', y', y', n', n', n', n', n', n', n', n'] rfl rfl (any_of HT_.out (by kernel_rfl)) (fun _ _ _ h => h) (Or.inl ⟨by rfl, ?_⟩) ?_ ?_; rotate_left
      ·exact qI
      rotate_left
      ·exact qP
      refine pure_ (i := 7) (N := some 23) (v := ?_) (a' := ?_) #[y', y', y', y', n', n', n', y', n', n', n', n'] rfl rfl (any_of HT_.out (by kernel_rfl)) (fun _ _ _ h => h) (Or.inl ⟨by rfl, ?_⟩) ?_ ?_; rotate_left
      ·exact qI
      rotate_left
      ·exact qP
      refine pure_ (i := 8) (N := some 24) (v := ?_) (a' := ?_) #[y', y', y', y', n', n', n', y', y', n', n', n'] rfl rfl (any_of HT_.out (by kernel_rfl)) (fun _ _ _ h => h) (Or.inl ⟨by rfl, ?_⟩) ?_ ?_; rotate_left
      ·exact qI
      rotate_left
      ·exact qP
      refine pure_ (i := 9) (N := some 25) (v := ?_) (a' := ?_) #[y', y', y', y', n', n', n', y', y', y', n', n'] rfl rfl (any_of HT_.out (by kernel_rfl)) (fun _ _ _ h => h) (Or.inl ⟨by rfl, ?_⟩) ?_ ?_; rotate_left
      ·exact qI
      rotate_left
      ·exact qP
      refine one_ (i := 4) (N := some 20) #[y', y', y', y', y', n', n', y', y', y', n', n'] rfl rfl (one_of HT_.out (by kernel_rfl)) (by decide) (fun K hK => ?_); refine Kd.R_lit_step Kd.string _ 9 ?hg (N := 20) ?hd (xs := ([(⟨#[32]⟩ : ByteArray), (⟨#[48]⟩ : ByteArray), (⟨#[45]⟩ : ByteArray), (⟨#[120]⟩ : ByteArray), (⟨#[49]⟩ : ByteArray), (⟨#[57]⟩ : ByteArray), (⟨#[46]⟩ : ByteArray)] : List ByteArray)) (inner := [.string (⟨#[32]⟩ : ByteArray), .string (⟨#[48]⟩ : ByteArray), .string (⟨#[45]⟩ : ByteArray), .string (⟨#[120]⟩ : ByteArray), .string (⟨#[49]⟩ : ByteArray), .string (⟨#[57]⟩ : ByteArray), .string (⟨#[46]⟩ : ByteArray)]) (ok := fun _ => True) (okp := fun _ => True) ?hr ?hp (fun _ hk => hk) trivial (Below.refl _ _) (Nat.le_refl _) (by simp) ?_; (case hd => rfl); (case hg => rfl); (case hr => first | (go_simp; done) | (go_simp; rfl)); (case hp => exact (Reps.one (show Kd.M Kd.string _ _ _ (⟨#[32]⟩ : ByteArray) [.string (⟨#[32]⟩ : ByteArray)] from rfl) (Reps.one (show Kd.M Kd.string _ _ _ (⟨#[48]⟩ : ByteArray) [.string (⟨#[48]⟩ : ByteArray)] from rfl) (Reps.one (show Kd.M Kd.string _ _ _ (⟨#[45]⟩ : ByteArray) [.string (⟨#[45]⟩ : ByteArray)] from rfl) (Reps.one (show Kd.M Kd.string _ _ _ (⟨#[120]⟩ : ByteArray) [.string (⟨#[120]⟩ : ByteArray)] from rfl) (Reps.one (show Kd.M Kd.string _ _ _ (⟨#[49]⟩ : ByteArray) [.string (⟨#[49]⟩ : ByteArray)] from rfl) (Reps.one (show Kd.M Kd.string _ _ _ (⟨#[57]⟩ : ByteArray) [.string (⟨#[57]⟩ : ByteArray)] from rfl) (Reps.one (show Kd.M Kd.string _ _ _ (⟨#[46]⟩ : ByteArray) [.string (⟨#[46]⟩ : ByteArray)] from rfl) (Reps.none _ _))))))))); intro v391 w16 ho17 hb hg_ hnew_; clear hg_ hnew_; (first | rw [← Ny390.out] at ho17 | (simp only [Int.reduceToNat] at ho17; rw [← Ny390.out] at ho17)); have n0_ := A' (Kd.R_lower ho17 (keep_size (w := w) (g := g) (row := none) (by repeat (first | (with_reducible first | exact HK.out | apply KeepBut.set_ | apply keep_drewN | apply keep_drew | apply keep_alloc) | exact HK.out)))); have n1_ := A' (IsS76.below (by repeat (first | (with_reducible first | exact HI0.out | apply IsS76.alloc | apply IsS76.drewN | apply IsS76.drew | apply IsS76.set_1 | apply IsS76.set_2) | exact HI0.out)) hb); have n2_ := A' (KeepBut.trans (by repeat (first | (with_reducible first | exact HK.out | apply KeepBut.set_ | apply keep_drewN | apply keep_drew | apply keep_alloc) | exact HK.out)) (KeepBut.of_below hb g none) (.inl rfl)); have n3_ := A' (W' (by repeat (first | (with_reducible first | exact HB.out | apply K' | apply F' | apply J' | refine E' ?_ (IsS76.ge HI0.out)) | exact HB.out)) hb); clear HI0; clear HK; clear HB; have HO392 := n0_; have HI0 := n1_; have HK := n2_; have HB := n3_; clear n0_ n1_ n2_ n3_; clear hb ho17; obtain ⟨Ao18, co18, eo18⟩ := Kd.R_slice HO392.out; (first | subst eo18 | (injection eo18 with f1_ f2_ f3_; have f4_ := f1_.symm; have f5_ := f3_.symm; clear f1_ f2_ f3_; subst f4_; subst f5_)); refine hK.out _ _ trivial (fun hHeld => ?_); clear hK K; refine norm_ (a' := ?_) ?_ ?_; rotate_left
      ·show Act.put _ (some 20) _ = _
       exact qP
      refine one_ (i := 5) (N := some 21) #[y', y', y', y', y', y', n', y', y', y', n', n'] rfl rfl (one_of HT_.out (by kernel_rfl)) (by decide) (fun K hK => ?_); refine goes_ Tryz.func73 (by kernel_rfl) rfl #[.pointer (some ⟨g, 0, none⟩), .slice Ao18 y390.length co18] (by rfl) rfl rfl (by (try simp only [List.map_toArray, List.map_cons, List.map_nil]); first | done | rfl | (simp only [List.length_drop, List.length_take]; rfl)) ?_
      with_reducible refine (spec_l00Src_text.calls g s0_0 t388 t389 _ _ y390 t393 t394 t395 w0 _ ?side1 ?side2 ?side3 ?side4 ?side5 A8.out).mono ?_
      (case side1 => repeat (first | (with_reducible first | exact HI0.out | apply IsS76.alloc | apply IsS76.drewN | apply IsS76.drew | apply IsS76.set_1 | apply IsS76.set_2) | exact HI0.out)); (case side2 => repeat (first | (with_reducible first | exact HB.out | apply K' | apply F' | apply J' | refine E' ?_ (IsS76.ge HI0.out)) | exact HB.out)); (case side3 => repeat (first | exact (Kd.R_reads' HO392.out).2.2 | (with_reducible refine R' ?_ _) | (with_reducible refine S' ?_ _) | (with_reducible refine T' ?_))); (case side4 => exact (Kd.R_reads' HO392.out).2.1); (case side5 => exact far_slice (IsS76.own_ne HI0.out HO392.out (by decide))); rintro e w19 ⟨rfl, hi, hb, hk⟩; refine ⟨_, rfl, ?_⟩; have n0_ := A' (Q' (Kd.R_keep (IsS76.apart (show IsS76 w0 _ g s0_0 t388 t389 from by repeat (first | (with_reducible first | exact HI0.out | apply IsS76.alloc | apply IsS76.drewN | apply IsS76.drew | apply IsS76.set_1 | apply IsS76.set_2) | exact HI0.out)) (qR HO392.out) (by decide)) hk (fun _ h => h.2)) (fun _ h => h.1)); have n1_ := A' (KeepBut.trans (by repeat (first | (with_reducible first | exact HK.out | apply KeepBut.set_ | apply keep_drewN | apply keep_drew | apply keep_alloc) | exact HK.out)) hk (.inl rfl)); have n2_ := A' (hb); have n3_ := A' (hi); clear HO392; clear HK; clear HB; clear HI0; have HO392 := n0_; have HK := n1_; have HB := n2_; have HI0 := n3_; clear n0_ n1_ n2_ n3_; (try clear hb); (try clear hb2); (try clear hk); (try clear hi); refine hK.out _ _ trivial (fun hHeld => ?_); clear hK K; refine norm_ (a' := ?_) ?_ ?_; rotate_left
      ·show Act.put _ (some 21) _ = _
       exact qP
      refine pure_ (i := 6) (N := some 22) (v := ?_) (a' := ?_) #[y', y', y', y', y', y', y', y', y', y', n', n'] rfl rfl (any_of HT_.out (by kernel_rfl)) (fun _ _ _ h => h) (Or.inl ⟨by rfl, ?_⟩) ?_ ?_; rotate_left
      ·exact qI
      rotate_left
      ·exact qP
      refine pure_ (i := 10) (N := some 26) (v := ?_) (a' := ?_) #[y', y', y', y', y', y', y', y', y', y', y', n'] rfl rfl (any_of HT_.out (by kernel_rfl)) (fun _ _ _ h => h) (Or.inl ⟨by rfl, ?_⟩) ?_ ?_; rotate_left
      ·exact qI
      rotate_left
      ·exact qP
      refine pure_ (i := 11) (N := some 1) (v := ?_) (a' := ?_) #[y', y', y', y', y', y', y', y', y', y', y', y'] rfl rfl (any_of HT_.out (by kernel_rfl)) (fun _ _ _ h => h) (Or.inl ⟨by rfl, ?_⟩) ?_ ?_; rotate_left
      ·exact qI
      rotate_left
      ·exact qP
      refine done_ (done_of HT_.out (by kernel_rfl)) ?_; try go_wp2
      go_ret; exact ⟨qE, by repeat (first | (with_reducible first | exact HI0.out | apply IsS76.alloc | apply IsS76.drewN | apply IsS76.drew | apply IsS76.set_1 | apply IsS76.set_2) | exact HI0.out), by repeat (first | (with_reducible first | exact HB.out | apply K' | apply F' | apply J' | refine E' ?_ (IsS76.ge HI0.out)) | exact HB.out), by repeat (first | (with_reducible first | exact HK.out | apply KeepBut.set_ | apply keep_drewN | apply keep_drew | apply keep_alloc) | exact HK.out)⟩
     ·rw [if_neg c12] at H; exact absurd H (by simp)
    ·rw [if_neg c9] at H; exact absurd H (by simp)
   ·rw [if_neg c7] at H; exact absurd H (by simp)
  ·rw [if_neg c6] at H; exact absurd H (by simp)
 ·rw [if_neg c4] at H; have c4b0 : (t384 == 0) = false := beq_eq_false_iff_ne.mpr c4; have c4b1 : (t384 != 0) = true := bne_iff_ne.mpr c4
  by_cases c20 : t384 = 1
  ·rw [if_pos c20] at H; have c20b0 : (t384 == 1) = true := beq_iff_eq.mpr c20; have c20b1 : (t384 != 1) = false := bne_eq_false_iff_eq.mpr c20; clear c20
   by_cases c21 : a1.toList = ([] : List UInt8)
   ·rw [if_pos c21] at H; have c21b0 : (a1.toList == ([] : List UInt8)) = true := beq_iff_eq.mpr c21; have c21b1 : (a1.toList != ([] : List UInt8)) = false := bne_eq_false_iff_eq.mpr c21; clear c21; simp only [Option.some.injEq, Prod.mk.injEq] at H; obtain ⟨rfl, rfl, rfl⟩ := H; go_enter Tryz.func54, Tryz.ntmps54; go_wp2_with (first | ((with_reducible refine gate_callee (f := 57) rfl ?_); refine goesL_ (some 8) rfl rfl Tryz.func57 (by kernel_rfl) rfl #[.pointer (some ⟨g, 0, none⟩), .int .i64 5] rfl (by (try simp only [List.map_toArray, List.map_cons, List.map_nil]); first | done | rfl | (simp only [List.length_drop, List.length_take]; rfl)) ?_; (with_reducible refine (spec_l00Src_pick.calls g s0_0 s0_1 s0_2 5 t384 t385 t386 w0 _ ?side1 ?side2 A3.out).mono ?_); (case side1 => repeat (first | (with_reducible first | exact HI0.out | apply IsS76.alloc | apply IsS76.drewN | apply IsS76.drew | apply IsS76.set_1 | apply IsS76.set_2) | exact HI0.out)); (case side2 => repeat (first | (with_reducible first | exact HB.out | apply K' | apply F' | apply J' | refine E' ?_ (IsS76.ge HI0.out)) | exact HB.out)); rintro e w22 ⟨rfl, hi, hb, hk⟩; refine ⟨_, rfl, ?_⟩; have n0_ := A' (KeepBut.trans (by repeat (first | (with_reducible first | exact HK.out | apply KeepBut.set_ | apply keep_drewN | apply keep_drew | apply keep_alloc) | exact HK.out)) hk (.inl rfl)); have n1_ := A' (hb); have n2_ := A' (hi); clear HK; clear HB; clear HI0; have HK := n0_; have HB := n1_; have HI0 := n2_; clear n0_ n1_ n2_; (try clear hb); (try clear hb2); (try clear hk); (try clear hi))); go_ret; exact ⟨qE, by repeat (first | (with_reducible first | exact HI0.out | apply IsS76.alloc | apply IsS76.drewN | apply IsS76.drew | apply IsS76.set_1 | apply IsS76.set_2) | exact HI0.out), by repeat (first | (with_reducible first | exact HB.out | apply K' | apply F' | apply J' | refine E' ?_ (IsS76.ge HI0.out)) | exact HB.out), by repeat (first | (with_reducible first | exact HK.out | apply KeepBut.set_ | apply keep_drewN | apply keep_drew | apply keep_alloc) | exact HK.out)⟩
   ·rw [if_neg c21] at H; have c21b0 : (a1.toList == ([] : List UInt8)) = false := beq_eq_false_iff_ne.mpr c21; have c21b1 : (a1.toList != ([] : List UInt8)) = true := bne_iff_ne.mpr c21; replace H := Option.bind_eq_some_iff.mp H; obtain ⟨⟨t396, t397, t398⟩, A230, H⟩ := H; replace H : (if 0 ≤ t396 then (if t396 ≤ (a1.size : Int) then (if 0 ≤ (wrap64 (t396 + 1)) then (if (wrap64 (t396 + 1)) ≤ (a1.size : Int) then (if (a1.extract 0 (t396 : Int).toNat).size + (a1.extract ((wrap64 (t396 + 1)) : Int).toNat a1.size).size ≤ 9223372036854775807 then (some ((a1.extract 0 (t396 : Int).toNat) ++ (a1.extract ((wrap64 (t396 + 1)) : Int).toNat a1.size), t397, t398)) else (none)) else (none)) else (none)) else (none)) else (none)) = some (r1, r2, r3) := H; have A23 := A' A230; clear A230
    by_cases c24 : 0 ≤ t396
    ·rw [if_pos c24] at H; have c24b0 := eq_true c24; have c24b1 : decide (0 ≤ t396) = true := dT' c24; clear c24
     by_cases c25 : t396 ≤ (a1.size : Int)
     ·rw [if_pos c25] at H; have c25b0 := eq_true c25; have c25b1 : decide (t396 ≤ (a1.size : Int)) = true := dT' c25; clear c25; obtain ⟨ji26, hji26⟩ : ∃ j_ : Int, (wrap64 (t396 + 1)) = j_ := ⟨_, rfl⟩
      replace H : (if 0 ≤ (ji26) then (if (ji26) ≤ (a1.size : Int) then (if (a1.extract 0 (t396 : Int).toNat).size + (a1.extract ((ji26) : Int).toNat a1.size).size ≤ 9223372036854775807 then (some ((a1.extract 0 (t396 : Int).toNat) ++ (a1.extract ((ji26) : Int).toNat a1.size), t397, t398)) else (none)) else (none)) else (none)) = some (r1, r2, r3) := by first | (rw [hji26] at H; exact H) | (simp only [hji26] at H ⊢; exact H)
      (try rw [hji26] at A3); (try rw [hji26] at A23); have hji26w : (IntKind.i64.wrap (t396 + 1)) = ji26 := (i64_w _).trans hji26
      by_cases c27 : 0 ≤ (ji26)
      ·rw [if_pos c27] at H; have c27b0 := eq_true c27; have c27b1 : decide (0 ≤ (ji26)) = true := dT' c27; clear c27
       by_cases c28 : (ji26) ≤ (a1.size : Int)
       ·rw [if_pos c28] at H; have c28b0 := eq_true c28; have c28b1 : decide ((ji26) ≤ (a1.size : Int)) = true := dT' c28; clear c28
        by_cases c29 : (a1.extract 0 (t396 : Int).toNat).size + (a1.extract ((ji26) : Int).toNat a1.size).size ≤ 9223372036854775807
        ·rw [if_pos c29] at H; have c29b0 := eq_true c29; have c29b1 : decide ((a1.extract 0 (t396 : Int).toNat).size + (a1.extract ((ji26) : Int).toNat a1.size).size ≤ 9223372036854775807) = true := dT' c29; try have c29b2 : (9223372036854775807 < (a1.extract 0 (t396 : Int).toNat).size + (a1.extract ((ji26) : Int).toNat a1.size).size) = False := eq_false (Nat.not_lt.2 c29)
         try have c29b8 : (9223372036854775807 < t396.toNat + (a1.size - ji26.toNat)) = False := eq_false (Nat.not_lt.2 (by have h_ := c29; simp only [ByteArray.size_append, ByteArray.size_extract] at h_; have k0_ : (t396 : Int) ≤ (a1.size : Int) := oD' (by assumption); have j0_ : 0 ≤ (t396 : Int) := oD' (by assumption); have k1_ : (ji26 : Int) ≤ (a1.size : Int) := oD' (by assumption); have j1_ : 0 ≤ (ji26 : Int) := oD' (by assumption); omega))
         simp only [Option.some.injEq, Prod.mk.injEq] at H; obtain ⟨rfl, rfl, rfl⟩ := H; go_enter Tryz.func54, Tryz.ntmps54; try go_wp2_with (first | ((with_reducible refine gate_callee (f := 57) rfl ?_); refine goesL_ (some 8) rfl rfl Tryz.func57 (by kernel_rfl) rfl #[.pointer (some ⟨g, 0, none⟩), .int .i64 5] rfl (by (try simp only [List.map_toArray, List.map_cons, List.map_nil]); first | done | rfl | (simp only [List.length_drop, List.length_take]; rfl)) ?_; (with_reducible refine (spec_l00Src_pick.calls g s0_0 s0_1 s0_2 5 t384 t385 t386 w0 _ ?side1 ?side2 A3.out).mono ?_); (case side1 => repeat (first | (with_reducible first | exact HI0.out | apply IsS76.alloc | apply IsS76.drewN | apply IsS76.drew | apply IsS76.set_1 | apply IsS76.set_2) | exact HI0.out)); (case side2 => repeat (first | (with_reducible first | exact HB.out | apply K' | apply F' | apply J' | refine E' ?_ (IsS76.ge HI0.out)) | exact HB.out)); rintro e w30 ⟨rfl, hi, hb, hk⟩; refine ⟨_, rfl, ?_⟩; have n0_ := A' (KeepBut.trans (by repeat (first | (with_reducible first | exact HK.out | apply KeepBut.set_ | apply keep_drewN | apply keep_drew | apply keep_alloc) | exact HK.out)) hk (.inl rfl)); have n1_ := A' (hb); have n2_ := A' (hi); clear HK; clear HB; clear HI0; have HK := n0_; have HB := n1_; have HI0 := n2_; clear n0_ n1_ n2_; (try clear hb); (try clear hb2); (try clear hk); (try clear hi)) | ((with_reducible refine gate_callee (f := 57) rfl ?_); refine goesL_ (some 34) rfl rfl Tryz.func57 (by kernel_rfl) rfl #[.pointer (some ⟨g, 0, none⟩), .int .i64 (a1.size : Int)] rfl (by (try simp only [List.map_toArray, List.map_cons, List.map_nil]); first | done | rfl | (simp only [List.length_drop, List.length_take]; rfl)) ?_; (with_reducible refine (spec_l00Src_pick.calls g s0_0 t385 t386 (a1.size : Int) t396 t397 t398 w0 _ ?side1 ?side2 A23.out).mono ?_); (case side1 => repeat (first | (with_reducible first | exact HI0.out | apply IsS76.alloc | apply IsS76.drewN | apply IsS76.drew | apply IsS76.set_1 | apply IsS76.set_2) | exact HI0.out)); (case side2 => repeat (first | (with_reducible first | exact HB.out | apply K' | apply F' | apply J' | refine E' ?_ (IsS76.ge HI0.out)) | exact HB.out)); rintro e w31 ⟨rfl, hi, hb, hk⟩; refine ⟨_, rfl, ?_⟩; have n0_ := A' (KeepBut.trans (by repeat (first | (with_reducible first | exact HK.out | apply KeepBut.set_ | apply keep_drewN | apply keep_drew | apply keep_alloc) | exact HK.out)) hk (.inl rfl)); have n1_ := A' (hb); have n2_ := A' (hi); clear HK; clear HB; clear HI0; have HK := n0_; have HB := n1_; have HI0 := n2_; clear n0_ n1_ n2_; (try clear hb); (try clear hb2); (try clear hk); (try clear hi)))
         have n0_ := A' (IsS76.drew HI0.out); have n1_ := A' (keep_drew HK.out); have n2_ := A' (J' HB.out); clear HI0; clear HK; clear HB; have HI0 := n0_; have HK := n1_; have HB := n2_; clear n0_ n1_ n2_; refine start_ (n := 9) (S := fun w' => True) (ds := []) #[n', n', n', n', n', n', n', n', n'] (by kernel_rfl) rfl rfl trivial (fun hHeld => ?_); refine with_tabW spec_l01Spoil.tab8 spec_l01Spoil.bits8 (fun HT_ HW_ => ?_)
         generalize w31.drew = w32 at HI0 HK HB hHeld ⊢
         refine pure_ (i := 0) (N := some 35) (v := ?_) (a' := ?_) #[y', n', n', n', n', n', n', n', n'] rfl rfl (any_of HT_.out (by kernel_rfl)) (fun _ _ _ h => h) (Or.inl ⟨by rfl, ?_⟩) ?_ ?_; rotate_left
         ·exact qI
         rotate_left
         ·exact qP
         refine pure_ (i := 1) (N := some 36) (v := ?_) (a' := ?_) #[y', y', n', n', n', n', n', n', n'] rfl rfl (any_of HT_.out (by kernel_rfl)) (fun _ _ _ h => h) (Or.inl ⟨by rfl, ?_⟩) ?_ ?_; rotate_left
         ·exact qI
         rotate_left
         ·exact qP
         refine pure_ (i := 2) (N := some 37) (v := ?_) (a' := ?_) #[y', y', y', n', n', n', n', n', n'] rfl rfl (any_of HT_.out (by kernel_rfl)) (fun _ _ _ h => h) (Or.inl ⟨by rfl, ?_⟩) ?_ ?_; rotate_left
         ·exact qI
         rotate_left
         ·exact qP
         refine pure_ (i := 3) (N := some 38) (v := ?_) (a' := ?_) #[y', y', y', y', n', n', n', n', n'] rfl rfl (any_of HT_.out (by kernel_rfl)) (fun _ _ _ h => h) (Or.inl ⟨by rfl, ?_⟩) ?_ ?_; rotate_left
         ·exact qI
         rotate_left
         ·exact qP
         refine pure_ (i := 4) (N := some 39) (v := ?_) (a' := ?_) #[y', y', y', y', y', n', n', n', n'] rfl rfl (any_of HT_.out (by kernel_rfl)) (fun _ _ _ h => h) (Or.inl ⟨by rfl, ?_⟩) ?_ ?_; rotate_left
         ·exact qI
         rotate_left
         ·exact qP
         refine pure_ (i := 5) (N := some 40) (v := ?_) (a' := ?_) #[y', y', y', y', y', y', n', n', n'] rfl rfl (any_of HT_.out (by kernel_rfl)) (fun _ _ _ h => h) (Or.inl ⟨by rfl, ?_⟩) ?_ ?_; rotate_left
         ·exact qI
         rotate_left
         ·exact qP
         refine pure_ (i := 6) (N := some 41) (v := ?_) (a' := ?_) #[y', y', y', y', y', y', y', n', n'] rfl rfl (any_of HT_.out (by kernel_rfl)) (fun _ _ _ h => h) (Or.inl ⟨by rfl, ?_⟩) ?_ ?_; rotate_left
         ·exact qI
         rotate_left
         ·exact qP
         refine pure_ (i := 7) (N := some 42) (v := ?_) (a' := ?_) #[y', y', y', y', y', y', y', y', n'] rfl rfl (any_of HT_.out (by kernel_rfl)) (fun _ _ _ h => h) (Or.inl ⟨by rfl, ?_⟩) ?_ ?_; rotate_left
         ·exact qI
         rotate_left
         ·exact qP
         refine pure_ (i := 8) (N := some 1) (v := ?_) (a' := ?_) #[y', y', y', y', y', y', y', y', y'] rfl rfl (any_of HT_.out (by kernel_rfl)) (fun _ _ _ h => h) (Or.inl ⟨by rfl, ?_⟩) ?_ ?_; rotate_left
         ·exact qI
         rotate_left
         ·exact qP
         refine done_ (done_of HT_.out (by kernel_rfl)) ?_; try go_wp2
         go_ret; exact ⟨by first | rfl | (simp [errW_none, errW_some] <;> rfl) | (simp only [← hji26]; first | rfl | (simp [errW_none, errW_some] <;> rfl)) | (simp [*, errW_none, errW_some] <;> rfl), by repeat (first | (with_reducible first | exact HI0.out | apply IsS76.alloc | apply IsS76.drewN | apply IsS76.drew | apply IsS76.set_1 | apply IsS76.set_2) | exact HI0.out), by repeat (first | (with_reducible first | exact HB.out | apply K' | apply F' | apply J' | refine E' ?_ (IsS76.ge HI0.out)) | exact HB.out), by repeat (first | (with_reducible first | exact HK.out | apply KeepBut.set_ | apply keep_drewN | apply keep_drew | apply keep_alloc) | exact HK.out)⟩
        ·rw [if_neg c29] at H; exact absurd H (by simp)
       ·rw [if_neg c28] at H; exact absurd H (by simp)
      ·rw [if_neg c27] at H; exact absurd H (by simp)
     ·rw [if_neg c25] at H; exact absurd H (by simp)
    ·rw [if_neg c24] at H; exact absurd H (by simp)
  ·rw [if_neg c20] at H; have c20b0 : (t384 == 1) = false := beq_eq_false_iff_ne.mpr c20; have c20b1 : (t384 != 1) = true := bne_iff_ne.mpr c20; simp only [Option.some.injEq, Prod.mk.injEq] at H; obtain ⟨rfl, rfl, rfl⟩ := H; go_enter Tryz.func54, Tryz.ntmps54; go_wp2_with (first | ((with_reducible refine gate_callee (f := 57) rfl ?_); refine goesL_ (some 8) rfl rfl Tryz.func57 (by kernel_rfl) rfl #[.pointer (some ⟨g, 0, none⟩), .int .i64 5] rfl (by (try simp only [List.map_toArray, List.map_cons, List.map_nil]); first | done | rfl | (simp only [List.length_drop, List.length_take]; rfl)) ?_; (with_reducible refine (spec_l00Src_pick.calls g s0_0 s0_1 s0_2 5 t384 t385 t386 w0 _ ?side1 ?side2 A3.out).mono ?_); (case side1 => repeat (first | (with_reducible first | exact HI0.out | apply IsS76.alloc | apply IsS76.drewN | apply IsS76.drew | apply IsS76.set_1 | apply IsS76.set_2) | exact HI0.out)); (case side2 => repeat (first | (with_reducible first | exact HB.out | apply K' | apply F' | apply J' | refine E' ?_ (IsS76.ge HI0.out)) | exact HB.out)); rintro e w33 ⟨rfl, hi, hb, hk⟩; refine ⟨_, rfl, ?_⟩; have n0_ := A' (KeepBut.trans (by repeat (first | (with_reducible first | exact HK.out | apply KeepBut.set_ | apply keep_drewN | apply keep_drew | apply keep_alloc) | exact HK.out)) hk (.inl rfl)); have n1_ := A' (hb); have n2_ := A' (hi); clear HK; clear HB; clear HI0; have HK := n0_; have HB := n1_; have HI0 := n2_; clear n0_ n1_ n2_; (try clear hb); (try clear hb2); (try clear hk); (try clear hi))); go_ret; exact ⟨qE, by repeat (first | (with_reducible first | exact HI0.out | apply IsS76.alloc | apply IsS76.drewN | apply IsS76.drew | apply IsS76.set_1 | apply IsS76.set_2) | exact HI0.out), by repeat (first | (with_reducible first | exact HB.out | apply K' | apply F' | apply J' | refine E' ?_ (IsS76.ge HI0.out)) | exact HB.out), by repeat (first | (with_reducible first | exact HK.out | apply KeepBut.set_ | apply keep_drewN | apply keep_drew | apply keep_alloc) | exact HK.out)⟩

/-! ### spec_DrawReadTackle: function 21 -/
def spec_DrawReadTackle.f (k : Nat) (l0 : List Int) : Option (ByteArray) := (spec_l00From.f l0).bind fun bt399 => ((spec_l05Draw.f k bt399.1 bt399.2.1 bt399.2.2).bind fun bt403 => ((spec_l05Text.f k bt403.1).bind fun t408 => ((spec_l00Src_one.f bt399.1 bt403.2.1 bt403.2.2 3).bind fun bt409 => (if bt409.1 = true then ((spec_l01Spoil.f bt399.1 bt409.2.1 bt409.2.2 t408).bind fun bt412 => (some bt412.1)) else (some t408)))))
theorem spec_DrawReadTackle.mono : ∀ a0 k, LeO (spec_DrawReadTackle.f k a0) (spec_DrawReadTackle.f (k + 1) a0) := by
 intro a0 k
 unfold spec_DrawReadTackle.f
 repeat' first
   | (with_reducible exact spec_l05Draw.mono _ _ _ _)
   | (with_reducible exact spec_l05Text.mono _ _)
   | (with_reducible exact LeO.refl _)
   | (with_reducible exact LeO.none _)
   | (with_reducible refine LeO.ite ?_ ?_)
   | (with_reducible refine LeO.bind ?_ (fun _ => ?_))
   | exact spec_l05Draw.mono _ _ _ _
   | exact spec_l05Text.mono _ _
   | exact LeO.none _
   | refine LeO.ite ?_ ?_
   | refine LeO.bind ?_ (fun _ => ?_)
set_option maxHeartbeats 8000000 in
set_option maxRecDepth 100000 in
theorem spec_DrawReadTackle.calls (k : Nat) (A0 : Option Addr) (c0 : Nat) (l0 : List Int) (r : ByteArray) (w : World) (hr0 : Kd.C (Kd.int .u8) w A0 l0.length l0) (hc0 : l0.length ≤ c0) (h : spec_DrawReadTackle.f k l0 = some r) :
  Calls Tryz.prog 21 #[.slice A0 l0.length c0] w fun e w' => e = .returned (.string r) ∧ Below w.heap.size w w' := by
 have HR0 := A' hr0; have HC0 := A' hc0; clear hr0 hc0; have HB := A' (Below.refl w.heap.size w); have H : ((spec_l00From.f l0).bind fun bt399 => ((spec_l05Draw.f k bt399.1 bt399.2.1 bt399.2.2).bind fun bt403 => ((spec_l05Text.f k bt403.1).bind fun t408 => ((spec_l00Src_one.f bt399.1 bt403.2.1 bt403.2.2 3).bind fun bt409 => (if bt409.1 = true then ((spec_l01Spoil.f bt399.1 bt409.2.1 bt409.2.2 t408).bind fun bt412 => (some bt412.1)) else (some t408)))))) = some r := h; clear h; replace H := Option.bind_eq_some_iff.mp H; obtain ⟨⟨t399, t400, t401⟩, A20, H⟩ := H; replace H : ((spec_l05Draw.f k t399 t400 t401).bind fun bt403 => ((spec_l05Text.f k bt403.1).bind fun t408 => ((spec_l00Src_one.f t399 bt403.2.1 bt403.2.2 3).bind fun bt409 => (if bt409.1 = true then ((spec_l01Spoil.f t399 bt409.2.1 bt409.2.2 t408).bind fun bt412 => (some bt412.1)) else (some t408))))) = some r := H; have A2 := A' A20; clear A20; replace H := Option.bind_eq_some_iff.mp H; obtain ⟨⟨t403, t406, t407⟩, A30, H⟩ := H; replace H : ((spec_l05Text.f k t403).bind fun t408 => ((spec_l00Src_one.f t399 t406 t407 3).bind fun bt409 => (if bt409.1 = true then ((spec_l01Spoil.f t399 bt409.2.1 bt409.2.2 t408).bind fun bt412 => (some bt412.1)) else (some t408)))) = some r := H; have A3 := A' A30; clear A30; replace H := Option.bind_eq_some_iff.mp H; obtain ⟨t408, A40, H⟩ := H; replace H : ((spec_l00Src_one.f t399 t406 t407 3).bind fun bt409 => (if bt409.1 = true then ((spec_l01Spoil.f t399 bt409.2.1 bt409.2.2 t408).bind fun bt412 => (some bt412.1)) else (some t408))) = some r := H; have A4 := A' A40; clear A40; replace H := Option.bind_eq_some_iff.mp H; obtain ⟨⟨t409, t410, t411⟩, A50, H⟩ := H; replace H : (if t409 = true then ((spec_l01Spoil.f t399 t410 t411 t408).bind fun bt412 => (some bt412.1)) else (some t408)) = some r := H; have A5 := A' A50; clear A50
 by_cases c6 : t409 = true
 ·subst c6; have H1 : ((spec_l01Spoil.f t399 t410 t411 t408).bind fun bt412 => (some bt412.1)) = some r := by rw [if_pos rfl] at H; exact H
  clear H; have H := H1; clear H1; replace H := Option.bind_eq_some_iff.mp H; obtain ⟨⟨t412, t413, t414⟩, A70, H⟩ := H; replace H : (some t412) = some r := H; have A7 := A' A70; clear A70; obtain rfl := Option.some.inj H; go_enter Tryz.func21, Tryz.ntmps21; go_wp2_with (first | ((with_reducible refine gate_callee (f := 43) rfl ?_); refine goesL_ (some 6) rfl rfl Tryz.func43 (by kernel_rfl) rfl #[.slice A0 l0.length c0] rfl (by (try simp only [List.map_toArray, List.map_cons, List.map_nil]); first | done | rfl | (simp only [List.length_drop, List.length_take]; rfl)) ?_; (with_reducible refine (spec_l00From.calls _ _ l0 t399 t400 t401 w _ ?side1 ?side2 ?side3 A2.out).mono ?_); (case side1 => repeat (first | (with_reducible first | exact HB.out | apply K' | apply F' | apply J') | exact HB.out)); (case side2 => exact HR0.out); (case side3 => exact HC0.out); rintro e w8 ⟨g402, rfl, hi, hb, hb2⟩; refine ⟨_, rfl, ?_⟩; have n0_ := A' (hb); have n1_ := A' (hi); clear HB; have HB := n0_; have HI402 := n1_; clear n0_ n1_; (try clear hb); (try clear hb2); (try clear hk); (try clear hi)) | ((with_reducible refine gate_callee (f := 52) rfl ?_); refine goesL_ (some 8) rfl rfl Tryz.func52 (by kernel_rfl) rfl #[.pointer (some ⟨g402, 0, none⟩)] rfl (by (try simp only [List.map_toArray, List.map_cons, List.map_nil]); first | done | rfl | (simp only [List.length_drop, List.length_take]; rfl)) ?_; (with_reducible refine (spec_l05Draw.calls k g402 t399 t400 t401 t403 t406 t407 w _ ?side1 ?side2 A3.out).mono ?_); (case side1 => repeat (first | (with_reducible first | exact HI402.out | apply IsS76.alloc | apply IsS76.drewN | apply IsS76.drew | apply IsS76.set_1 | apply IsS76.set_2) | exact HI402.out)); (case side2 => repeat (first | (with_reducible first | exact HB.out | apply K' | apply F' | apply J' | refine E' ?_ (IsS76.ge HI402.out)) | exact HB.out)); rintro e w9 ⟨v404, rfl, ho0, hi, hb, hk⟩; refine ⟨_, rfl, ?_⟩; have n0_ := A' (Kd.R_lower ho0 (V' (by repeat (first | (with_reducible first | exact HB.out | apply K' | apply F' | apply J' | refine E' ?_ (IsS76.ge HI402.out)) | exact HB.out)))); have n1_ := A' (hb); have n2_ := A' (hi); clear HB; clear HI402; have HO405 := n0_; have HB := n1_; have HI402 := n2_; clear n0_ n1_ n2_; (try clear hb); (try clear hb2); (try clear hk); (try clear hi); (try clear ho0); obtain ⟨Ao10, co10, eo10⟩ := Kd.R_slice HO405.out; subst eo10) | ((with_reducible refine gate_callee (f := 51) rfl ?_); refine goesL_ (some 9) rfl rfl Tryz.func51 (by kernel_rfl) rfl #[.slice Ao10 t403.length co10] rfl (by (try simp only [List.map_toArray, List.map_cons, List.map_nil]); first | done | rfl | (simp only [List.length_drop, List.length_take]; rfl)) ?_; (with_reducible refine (spec_l05Text.calls k _ _ t403 t408 _ ?side1 ?side2 A4.out).mono ?_); (case side1 => repeat (first | exact (Kd.R_reads' HO405.out).2.2 | (with_reducible refine R' ?_ _) | (with_reducible refine S' ?_ _) | (with_reducible refine T' ?_))); (case side2 => exact (Kd.R_reads' HO405.out).2.1); rintro e w11 ⟨rfl, hb⟩; refine ⟨_, rfl, ?_⟩; have n0_ := A' (L' (qR HO405.out) hb); have n1_ := A' (IsS76.below (by repeat (first | (with_reducible first | exact HI402.out | apply IsS76.alloc | apply IsS76.drewN | apply IsS76.drew | apply IsS76.set_1 | apply IsS76.set_2) | exact HI402.out)) hb); have n2_ := A' (W' (by repeat (first | (with_reducible first | exact HB.out | apply K' | apply F' | apply J' | refine E' ?_ (IsS76.ge HI402.out)) | exact HB.out)) hb); clear HO405; clear HI402; clear HB; have HO405 := n0_; have HI402 := n1_; have HB := n2_; clear n0_ n1_ n2_; (try clear hb); (try clear hb2); (try clear hk); (try clear hi)) | ((with_reducible refine gate_callee (f := 53) rfl ?_); refine goesL_ (some 11) rfl rfl Tryz.func53 (by kernel_rfl) rfl #[.pointer (some ⟨g402, 0, none⟩), .int .i64 3] rfl (by (try simp only [List.map_toArray, List.map_cons, List.map_nil]); first | done | rfl | (simp only [List.length_drop, List.length_take]; rfl)) ?_; (with_reducible refine (spec_l00Src_one.calls g402 t399 t406 t407 3 true t410 t411 w _ ?side1 ?side2 A5.out).mono ?_); (case side1 => repeat (first | (with_reducible first | exact HI402.out | apply IsS76.alloc | apply IsS76.drewN | apply IsS76.drew | apply IsS76.set_1 | apply IsS76.set_2) | exact HI402.out)); (case side2 => repeat (first | (with_reducible first | exact HB.out | apply K' | apply F' | apply J' | refine E' ?_ (IsS76.ge HI402.out)) | exact HB.out)); rintro e w12 ⟨rfl, hi, hb, hk⟩; refine ⟨_, rfl, ?_⟩; have n0_ := A' (Q' (Kd.R_keep (IsS76.apart (show IsS76 w _ g402 t399 t406 t407 from by repeat (first | (with_reducible first | exact HI402.out | apply IsS76.alloc | apply IsS76.drewN | apply IsS76.drew | apply IsS76.set_1 | apply IsS76.set_2) | exact HI402.out)) (qR HO405.out) (by decide)) hk (fun _ h => h.2)) (fun _ h => h.1)); have n1_ := A' (hb); have n2_ := A' (hi); clear HO405; clear HB; clear HI402; have HO405 := n0_; have HB := n1_; have HI402 := n2_; clear n0_ n1_ n2_; (try clear hb); (try clear hb2); (try clear hk); (try clear hi)) | ((with_reducible refine gate_callee (f := 54) rfl ?_); refine goesL_ (some 14) rfl rfl Tryz.func54 (by kernel_rfl) rfl #[.pointer (some ⟨g402, 0, none⟩), .string t408] rfl (by (try simp only [List.map_toArray, List.map_cons, List.map_nil]); first | done | rfl | (simp only [List.length_drop, List.length_take]; rfl)) ?_; (with_reducible refine (spec_l01Spoil.calls g402 t399 t410 t411 t408 t412 t413 t414 w _ ?side1 ?side2 A7.out).mono ?_); (case side1 => repeat (first | (with_reducible first | exact HI402.out | apply IsS76.alloc | apply IsS76.drewN | apply IsS76.drew | apply IsS76.set_1 | apply IsS76.set_2) | exact HI402.out)); (case side2 => repeat (first | (with_reducible first | exact HB.out | apply K' | apply F' | apply J' | refine E' ?_ (IsS76.ge HI402.out)) | exact HB.out)); rintro e w13 ⟨rfl, hi, hb, hk⟩; refine ⟨_, rfl, ?_⟩; have n0_ := A' (Q' (Kd.R_keep (IsS76.apart (show IsS76 w _ g402 t399 t410 t411 from by repeat (first | (with_reducible first | exact HI402.out | apply IsS76.alloc | apply IsS76.drewN | apply IsS76.drew | apply IsS76.set_1 | apply IsS76.set_2) | exact HI402.out)) (qR HO405.out) (by decide)) hk (fun _ h => h.2)) (fun _ h => h.1)); have n1_ := A' (hb); have n2_ := A' (hi); clear HO405; clear HB; clear HI402; have HO405 := n0_; have HB := n1_; have HI402 := n2_; clear n0_ n1_ n2_; (try clear hb); (try clear hb2); (try clear hk); (try clear hi))); go_ret; exact ⟨qE, by repeat (first | (with_reducible first | exact HB.out | apply K' | apply F' | apply J' | refine E' ?_ (IsS76.ge HI402.out)) | exact HB.out)⟩
 ·replace c6 := Bool.eq_false_iff.mpr c6; subst c6; have H1 : (some t408) = some r := by rw [if_neg (show ¬ (false = true) by decide)] at H; exact H
  clear H; have H := H1; clear H1; obtain rfl := Option.some.inj H; go_enter Tryz.func21, Tryz.ntmps21; go_wp2_with (first | ((with_reducible refine gate_callee (f := 43) rfl ?_); refine goesL_ (some 6) rfl rfl Tryz.func43 (by kernel_rfl) rfl #[.slice A0 l0.length c0] rfl (by (try simp only [List.map_toArray, List.map_cons, List.map_nil]); first | done | rfl | (simp only [List.length_drop, List.length_take]; rfl)) ?_; (with_reducible refine (spec_l00From.calls _ _ l0 t399 t400 t401 w _ ?side1 ?side2 ?side3 A2.out).mono ?_); (case side1 => repeat (first | (with_reducible first | exact HB.out | apply K' | apply F' | apply J') | exact HB.out)); (case side2 => exact HR0.out); (case side3 => exact HC0.out); rintro e w14 ⟨g402, rfl, hi, hb, hb2⟩; refine ⟨_, rfl, ?_⟩; have n0_ := A' (hb); have n1_ := A' (hi); clear HB; have HB := n0_; have HI402 := n1_; clear n0_ n1_; (try clear hb); (try clear hb2); (try clear hk); (try clear hi)) | ((with_reducible refine gate_callee (f := 52) rfl ?_); refine goesL_ (some 8) rfl rfl Tryz.func52 (by kernel_rfl) rfl #[.pointer (some ⟨g402, 0, none⟩)] rfl (by (try simp only [List.map_toArray, List.map_cons, List.map_nil]); first | done | rfl | (simp only [List.length_drop, List.length_take]; rfl)) ?_; (with_reducible refine (spec_l05Draw.calls k g402 t399 t400 t401 t403 t406 t407 w _ ?side1 ?side2 A3.out).mono ?_); (case side1 => repeat (first | (with_reducible first | exact HI402.out | apply IsS76.alloc | apply IsS76.drewN | apply IsS76.drew | apply IsS76.set_1 | apply IsS76.set_2) | exact HI402.out)); (case side2 => repeat (first | (with_reducible first | exact HB.out | apply K' | apply F' | apply J' | refine E' ?_ (IsS76.ge HI402.out)) | exact HB.out)); rintro e w15 ⟨v404, rfl, ho0, hi, hb, hk⟩; refine ⟨_, rfl, ?_⟩; have n0_ := A' (Kd.R_lower ho0 (V' (by repeat (first | (with_reducible first | exact HB.out | apply K' | apply F' | apply J' | refine E' ?_ (IsS76.ge HI402.out)) | exact HB.out)))); have n1_ := A' (hb); have n2_ := A' (hi); clear HB; clear HI402; have HO405 := n0_; have HB := n1_; have HI402 := n2_; clear n0_ n1_ n2_; (try clear hb); (try clear hb2); (try clear hk); (try clear hi); (try clear ho0); obtain ⟨Ao16, co16, eo16⟩ := Kd.R_slice HO405.out; subst eo16) | ((with_reducible refine gate_callee (f := 51) rfl ?_); refine goesL_ (some 9) rfl rfl Tryz.func51 (by kernel_rfl) rfl #[.slice Ao16 t403.length co16] rfl (by (try simp only [List.map_toArray, List.map_cons, List.map_nil]); first | done | rfl | (simp only [List.length_drop, List.length_take]; rfl)) ?_; (with_reducible refine (spec_l05Text.calls k _ _ t403 t408 _ ?side1 ?side2 A4.out).mono ?_); (case side1 => repeat (first | exact (Kd.R_reads' HO405.out).2.2 | (with_reducible refine R' ?_ _) | (with_reducible refine S' ?_ _) | (with_reducible refine T' ?_))); (case side2 => exact (Kd.R_reads' HO405.out).2.1); rintro e w17 ⟨rfl, hb⟩; refine ⟨_, rfl, ?_⟩; have n0_ := A' (L' (qR HO405.out) hb); have n1_ := A' (IsS76.below (by repeat (first | (with_reducible first | exact HI402.out | apply IsS76.alloc | apply IsS76.drewN | apply IsS76.drew | apply IsS76.set_1 | apply IsS76.set_2) | exact HI402.out)) hb); have n2_ := A' (W' (by repeat (first | (with_reducible first | exact HB.out | apply K' | apply F' | apply J' | refine E' ?_ (IsS76.ge HI402.out)) | exact HB.out)) hb); clear HO405; clear HI402; clear HB; have HO405 := n0_; have HI402 := n1_; have HB := n2_; clear n0_ n1_ n2_; (try clear hb); (try clear hb2); (try clear hk); (try clear hi)) | ((with_reducible refine gate_callee (f := 53) rfl ?_); refine goesL_ (some 11) rfl rfl Tryz.func53 (by kernel_rfl) rfl #[.pointer (some ⟨g402, 0, none⟩), .int .i64 3] rfl (by (try simp only [List.map_toArray, List.map_cons, List.map_nil]); first | done | rfl | (simp only [List.length_drop, List.length_take]; rfl)) ?_; (with_reducible refine (spec_l00Src_one.calls g402 t399 t406 t407 3 false t410 t411 w _ ?side1 ?side2 A5.out).mono ?_); (case side1 => repeat (first | (with_reducible first | exact HI402.out | apply IsS76.alloc | apply IsS76.drewN | apply IsS76.drew | apply IsS76.set_1 | apply IsS76.set_2) | exact HI402.out)); (case side2 => repeat (first | (with_reducible first | exact HB.out | apply K' | apply F' | apply J' | refine E' ?_ (IsS76.ge HI402.out)) | exact HB.out)); rintro e w18 ⟨rfl, hi, hb, hk⟩; refine ⟨_, rfl, ?_⟩; have n0_ := A' (Q' (Kd.R_keep (IsS76.apart (show IsS76 w _ g402 t399 t406 t407 from by repeat (first | (with_reducible first | exact HI402.out | apply IsS76.alloc | apply IsS76.drewN | apply IsS76.drew | apply IsS76.set_1 | apply IsS76.set_2) | exact HI402.out)) (qR HO405.out) (by decide)) hk (fun _ h => h.2)) (fun _ h => h.1)); have n1_ := A' (hb); have n2_ := A' (hi); clear HO405; clear HB; clear HI402; have HO405 := n0_; have HB := n1_; have HI402 := n2_; clear n0_ n1_ n2_; (try clear hb); (try clear hb2); (try clear hk); (try clear hi))); go_ret; exact ⟨qE, by repeat (first | (with_reducible first | exact HB.out | apply K' | apply F' | apply J' | refine E' ?_ (IsS76.ge HI402.out)) | exact HB.out)⟩

/-! ### spec_l01Split: function 55 -/
def spec_l01Split.l0 : Nat → ByteArray → Int → List ByteArray → Int → Int → Option (List ByteArray)
 | 0, _, _, _, _, _ => none
 | k + 1, x0, x1, x5, x6, x7 => if x7 < (x0.size : Int) then (if 0 ≤ x7 then (if (bt x0 x7) = x1 then (if 0 ≤ x6 then (if x6 ≤ x7 then (if x7 ≤ (x0.size : Int) then (if x5.length < 8796093022208 then (spec_l01Split.l0 k x0 x1 (x5 ++ [x0.extract (x6 : Int).toNat (x7 : Int).toNat]) (wrap64 (x7 + 1)) (wrap64 (x7 + 1))) else (none)) else (none)) else (none)) else (none)) else (spec_l01Split.l0 k x0 x1 x5 x6 (wrap64 (x7 + 1)))) else (none)) else (if 0 ≤ x6 then (if x6 ≤ (x0.size : Int) then (if x5.length < 8796093022208 then (some (x5 ++ [x0.extract (x6 : Int).toNat x0.size])) else (none)) else (none)) else (none))
def spec_l01Split.f (k : Nat) (a0 : ByteArray) (a1 : Int) : Option (List ByteArray) := spec_l01Split.l0 k a0 a1 (([] : List ByteArray)) 0 0
theorem spec_l01Split.mono_l : ∀ k, (∀ y0 y1 y2 y3 y4, LeO (spec_l01Split.l0 k y0 y1 y2 y3 y4) (spec_l01Split.l0 (k + 1) y0 y1 y2 y3 y4))
 | 0 => fun _ _ _ _ _ r h => by simp [spec_l01Split.l0] at h
 | k + 1 => by
  have ih0 := spec_l01Split.mono_l k
  ·intro y0 y1 y2 y3 y4
   unfold spec_l01Split.l0
   repeat' first
   | (with_reducible exact ih0 _ _ _ _ _)
   | (with_reducible exact LeO.refl _)
   | (with_reducible exact LeO.none _)
   | (with_reducible refine LeO.ite ?_ ?_)
   | (with_reducible refine LeO.bind ?_ (fun _ => ?_))
   | exact ih0 _ _ _ _ _
   | exact LeO.none _
   | refine LeO.ite ?_ ?_
   | refine LeO.bind ?_ (fun _ => ?_)
theorem spec_l01Split.mono : ∀ a0 a1 k, LeO (spec_l01Split.f k a0 a1) (spec_l01Split.f (k + 1) a0 a1) := by
 intro a0 a1 k
 have ih0 := spec_l01Split.mono_l k
 unfold spec_l01Split.f
 repeat' first
   | (with_reducible exact ih0 _ _ _ _ _)
   | (with_reducible exact LeO.refl _)
   | (with_reducible exact LeO.none _)
   | (with_reducible refine LeO.ite ?_ ?_)
   | (with_reducible refine LeO.bind ?_ (fun _ => ?_))
   | exact ih0 _ _ _ _ _
   | exact LeO.none _
   | refine LeO.ite ?_ ?_
   | refine LeO.bind ?_ (fun _ => ?_)
set_option maxHeartbeats 8000000 in
set_option maxRecDepth 100000 in
theorem spec_l01Split.calls (k : Nat) (a0 : ByteArray) (a1 : Int) (r : List ByteArray) (w : World) (h : spec_l01Split.f k a0 a1 = some r) :
  Calls Tryz.prog 55 #[.string a0, .int .u8 a1] w fun e w' => ∃ v0_ : Value, e = .returned (v0_) ∧ Kd.R Kd.string 9 w' w.heap.size (fun _ => True) v0_ r ∧ Below w.heap.size w w' := by
 have HB := A' (Below.refl w.heap.size w); have H : (spec_l01Split.l0 k a0 a1 (([] : List ByteArray)) 0 0) = some r := h; clear h; obtain ⟨y415, hy415⟩ : ∃ y_ : List ByteArray, y_ = (([] : List ByteArray)) := ⟨_, rfl⟩
 replace H : (spec_l01Split.l0 k a0 a1 y415 0 0) = some r := by first | (rw [hy415]; with_reducible exact H) | (have H2_ := (Option.bind_some _ _).symm.trans H; rw [hy415]; with_reducible exact H2_) | (have H2_ := (Option.bind_some _ _).symm.trans H; with_reducible exact H2_) | with_reducible exact H | (rw [hy415]; exact H) | exact H
 have Ny415 := A' hy415; clear hy415; have H' := A' H; clear H; go_enter Tryz.func55, Tryz.ntmps55; go_wp2_with (first | ((with_reducible refine gate_dst (N := 8) rfl ?_); refine Kd.R_lit Kd.string _ 9 ?hg (N := 8) ?hd (xs := ([] : List ByteArray)) (inner := []) (ok := fun _ => True) (okp := fun _ => True) ?hr ?hp (fun _ hk => hk) trivial (Below.refl _ _) (Nat.le_refl _) (by simp) ?_; (case hd => rfl); (case hg => rfl); (case hr => first | (go_simp; done) | (go_simp; rfl)); (case hp => exact (Reps.none _ _)); intro v416 w3 ho4 hb hg_ hnew_; clear hg_ hnew_; (first | rw [← Ny415.out] at ho4 | (simp only [Int.reduceToNat] at ho4; rw [← Ny415.out] at ho4)); have n0_ := A' (Kd.R_lower ho4 (V' (qK0 HB.out))); have n1_ := A' (W' (qK0 HB.out) hb); clear HB; have HO417 := n0_; have HB := n1_; clear n0_ n1_; clear hb ho4))
 go_loopg [5, 6, 7] k (fun kq v5 v6 v7 w' => ∃ (x5_1 : List ByteArray) (x6_1 : Int) (x7_1 : Int), v6 = .int .i64 x6_1 ∧ v7 = .int .i64 x7_1 ∧ Aside0 (spec_l01Split.l0 kq a0 a1 x5_1 x6_1 x7_1 = some r) ∧ Aside0 (kq ≤ k) ∧ Aside0 (Kd.R Kd.string 9 w' w.heap.size (fun _ => True) v5 x5_1) ∧ Aside0 (Below w.heap.size w w'))
 case atStart => exact ⟨(y415), (0), (0), qS, qS, H', ⟨Nat.le_refl _⟩, ⟨qR HO417.out⟩, ⟨qK0 HB.out⟩⟩
 case round =>
  clear H'; try clear p2
  obtain ⟨x5_1, x6_1, x7_1, rfl, rfl, HA, HK1, HO_5, HB⟩ := hrel
  cases gk with
  | zero => exact absurd HA.out (by simp [spec_l01Split.l0])
  | succ k1 =>
   have H := HA.out; clear HA; simp only [spec_l01Split.l0] at H
   by_cases c5 : x7_1 < (a0.size : Int)
   ·rw [if_pos c5] at H; have c5b0 : decide (x7_1 < (a0.size : Int)) = true := dT' c5; clear c5
    by_cases c6 : 0 ≤ x7_1
    ·rw [if_pos c6] at H; have c6b0 : decide (0 ≤ x7_1) = true := dT' c6; clear c6
     by_cases c8 : (bt a0 x7_1) = a1
     ·rw [if_pos c8] at H; have c8b0 : ((bt a0 x7_1) == a1) = true := beq_iff_eq.mpr c8; have c8b1 : ((bt a0 x7_1) != a1) = false := bne_eq_false_iff_eq.mpr c8; clear c8
      by_cases c9 : 0 ≤ x6_1
      ·rw [if_pos c9] at H; have c9b0 := eq_true c9; have c9b1 : decide (0 ≤ x6_1) = true := dT' c9; clear c9
       by_cases c10 : x6_1 ≤ x7_1
       ·rw [if_pos c10] at H; have c10b0 := eq_true c10; have c10b1 : decide (x6_1 ≤ x7_1) = true := dT' c10; clear c10
        by_cases c11 : x7_1 ≤ (a0.size : Int)
        ·rw [if_pos c11] at H; have c11b0 := eq_true c11; have c11b1 : decide (x7_1 ≤ (a0.size : Int)) = true := dT' c11; clear c11
         by_cases c12 : x5_1.length < 8796093022208
         ·rw [if_pos c12] at H; have LMc12 := A' c12; clear c12; obtain ⟨y418, hy418⟩ : ∃ y_ : List ByteArray, y_ = (x5_1 ++ [a0.extract (x6_1 : Int).toNat (x7_1 : Int).toNat]) := ⟨_, rfl⟩
          replace H : (spec_l01Split.l0 k1 a0 a1 y418 (wrap64 (x7_1 + 1)) (wrap64 (x7_1 + 1))) = some r := by first | (rw [hy418]; with_reducible exact H) | (have H2_ := (Option.bind_some _ _).symm.trans H; rw [hy418]; with_reducible exact H2_) | (have H2_ := (Option.bind_some _ _).symm.trans H; with_reducible exact H2_) | with_reducible exact H | (rw [hy418]; exact H) | exact H
          have Ny418 := A' hy418; clear hy418; have H' := A' H; clear H; have p7 : 0 ≤ (x7_1 : Int) := oD' qA; have q7 : x7_1 < (a0.size : Int) := oD' qA; have hx7 := bt_at a0 x7_1; replace p7 := eq_true p7; replace q7 := eq_true q7; go_wp2_with (first | ((with_reducible refine gate_builtin (b := .append) (xs := #[.tmp 20, .tmp 25]) rfl ?_); at_builtin; refine Kd.R_append Kd.string (w0 := w) w.heap.size rfl (.tmp 20) (.tmp 25) 62 9 (.string ⟨#[]⟩) 16 rfl Tryz.underlying62 info9 rfl (by decide) (by omega) u5 x5_1 (a0.extract (x6_1 : Int).toNat (x7_1 : Int).toNat) [.string (a0.extract (x6_1 : Int).toNat (x7_1 : Int).toNat)] (fun _ => True) (fun _ => False) rfl rfl ?aP (fun _ hk => hk.elim) ?aF ?aO ?aB ?aS ?aL ?_; (case aP => exact rfl); (case aB => exact (qK0 HB.out)); (case aF => exact (fun _ _ => trivial)); (case aO => exact (qR HO_5.out)); (case aS => exact (V' (qK0 HB.out))); (case aL => have := LMc12.out; omega); intro v419 w13 ho hb hg hat; rw [← Ny418.out] at ho; have n0_ := A' (hb); have n1_ := A' (ho); clear HB; clear HO_5; have HB := n0_; have HO420 := n1_; clear n0_ n1_; clear ho hb hg hat))
          go_roundg k1
          case measure => have := HK1.out; omega
          case rel => exact ⟨(y418), (wrap64 (x7_1 + 1)), (wrap64 (x7_1 + 1)), qS, qS, H', ⟨by have := HK1.out; omega⟩, ⟨qR HO420.out⟩, ⟨qK0 HB.out⟩⟩
         ·rw [if_neg c12] at H; exact absurd H (by simp)
        ·rw [if_neg c11] at H; exact absurd H (by simp)
       ·rw [if_neg c10] at H; exact absurd H (by simp)
      ·rw [if_neg c9] at H; exact absurd H (by simp)
     ·rw [if_neg c8] at H; have c8b0 : ((bt a0 x7_1) == a1) = false := beq_eq_false_iff_ne.mpr c8; have c8b1 : ((bt a0 x7_1) != a1) = true := bne_iff_ne.mpr c8; have H' := A' H; clear H; have p7 : 0 ≤ (x7_1 : Int) := oD' qA; have q7 : x7_1 < (a0.size : Int) := oD' qA; have hx7 := bt_at a0 x7_1; replace p7 := eq_true p7; replace q7 := eq_true q7; go_wp2
      go_roundg k1
      case measure => have := HK1.out; omega
      case rel => exact ⟨(x5_1), (x6_1), (wrap64 (x7_1 + 1)), qS, qS, H', ⟨by have := HK1.out; omega⟩, ⟨qR HO_5.out⟩, ⟨qK0 HB.out⟩⟩
    ·rw [if_neg c6] at H; exact absurd H (by simp)
   ·rw [if_neg c5] at H; have c5b0 : decide (x7_1 < (a0.size : Int)) = false := dF' c5; clear c5
    by_cases c14 : 0 ≤ x6_1
    ·rw [if_pos c14] at H; have c14b0 := eq_true c14; have c14b1 : decide (0 ≤ x6_1) = true := dT' c14; clear c14
     by_cases c15 : x6_1 ≤ (a0.size : Int)
     ·rw [if_pos c15] at H; have c15b0 := eq_true c15; have c15b1 : decide (x6_1 ≤ (a0.size : Int)) = true := dT' c15; clear c15
      by_cases c16 : x5_1.length < 8796093022208
      ·rw [if_pos c16] at H; have LMc16 := A' c16; clear c16; obtain ⟨y421, hy421⟩ : ∃ y_ : List ByteArray, y_ = (x5_1 ++ [a0.extract (x6_1 : Int).toNat a0.size]) := ⟨_, rfl⟩
       replace H : (some y421) = some r := by first | (rw [hy421]; with_reducible exact H) | (have H2_ := (Option.bind_some _ _).symm.trans H; rw [hy421]; with_reducible exact H2_) | (have H2_ := (Option.bind_some _ _).symm.trans H; with_reducible exact H2_) | with_reducible exact H | (rw [hy421]; exact H) | exact H
       have Ny421 := A' hy421; clear hy421; obtain rfl := Option.some.inj H; go_wp2_with (first | ((with_reducible refine gate_builtin (b := .append) (xs := #[.tmp 29, .tmp 33]) rfl ?_); at_builtin; refine Kd.R_append Kd.string (w0 := w) w.heap.size rfl (.tmp 29) (.tmp 33) 62 9 (.string ⟨#[]⟩) 16 rfl Tryz.underlying62 info9 rfl (by decide) (by omega) u5 x5_1 (a0.extract (x6_1 : Int).toNat a0.size) [.string (a0.extract (x6_1 : Int).toNat a0.size)] (fun _ => True) (fun _ => False) rfl rfl ?aP (fun _ hk => hk.elim) ?aF ?aO ?aB ?aS ?aL ?_; (case aP => exact rfl); (case aB => exact (qK0 HB.out)); (case aF => exact (fun _ _ => trivial)); (case aO => exact (qR HO_5.out)); (case aS => exact (V' (qK0 HB.out))); (case aL => have := LMc16.out; omega); intro v422 w17 ho hb hg hat; rw [← Ny421.out] at ho; have n0_ := A' (hb); have n1_ := A' (ho); clear HB; clear HO_5; have HB := n0_; have HO423 := n1_; clear n0_ n1_; clear ho hb hg hat)); go_ret; exact ⟨_, qE, qR HO423.out, qK0 HB.out⟩
      ·rw [if_neg c16] at H; exact absurd H (by simp)
     ·rw [if_neg c15] at H; exact absurd H (by simp)
    ·rw [if_neg c14] at H; exact absurd H (by simp)

/-! ### spec_l01Digit: function 56 -/
def spec_l01Digit.f (a0 : Int) : Option (Bool) := if a0 ≥ 48 then (some (decide (a0 ≤ 57))) else (some false)
set_option maxHeartbeats 8000000 in
set_option maxRecDepth 100000 in
theorem spec_l01Digit.calls (a0 : Int) (r : Bool) (w : World) (h : spec_l01Digit.f a0 = some r) :
  Calls Tryz.prog 56 #[.int .u8 a0] w fun e w' => e = .returned (.bool r) ∧ Drawn0 w w' := by
 have H : (if a0 ≥ 48 then (some (decide (a0 ≤ 57))) else (some false)) = some r := h; clear h
 by_cases c2 : a0 ≥ 48
 ·rw [if_pos c2] at H; have c2b0 : decide (48 ≤ a0) = true := dT' c2; clear c2; obtain rfl := Option.some.inj H; go_enter Tryz.func56, Tryz.ntmps56; go_wp2; go_ret; exact ⟨by first | rfl | (simp; done) | (simp [*]; done), by repeat (first | exact Drawn0.refl _ | apply Drawn0.step)⟩
 ·rw [if_neg c2] at H; have c2b0 : decide (48 ≤ a0) = false := dF' c2; clear c2; obtain rfl := Option.some.inj H; go_enter Tryz.func56, Tryz.ntmps56; go_wp2; go_ret; exact ⟨by first | rfl | (simp; done) | (simp [*]; done), by repeat (first | exact Drawn0.refl _ | apply Drawn0.step)⟩

end Go.Proofs.YtcjandlemjfojaaGreatDoor.HTks
