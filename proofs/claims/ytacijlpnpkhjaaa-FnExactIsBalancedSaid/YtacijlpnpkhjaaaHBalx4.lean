-- Written by a program for this claim (the functions that the statement reaches, and that the program's code comes to them).
import Derived.Test.YtacijlpnpkhjaaaHBalx0
import Derived.Test.YtacijlpnpkhjaaaHBalx2
namespace Go.Proofs.Ytacijlpnpkhjaaa.HBal
open Go.RowKit Go.Proofs.YtacijlpnpkhjaaaW.PrintWords Go.Proofs.YtacijlpnpkhjaaaW.PrintLast Go.Proofs.YtacijlpnpkhjaaaW.PrintMore
attribute [local go_sem] max2_int min2_int max_two min_two max_three min_three max_four min_four   -- for this text's walks alone
set_option linter.unusedVariables false
set_option linter.unusedSimpArgs false

/-! ### spec_l09Loads: function 72 -/
def spec_l09Loads.l0 : Nat → List (S97) → Int → Option (Bool)
 | 0, _, _ => none
 | k + 1, x1, x5 => if x5 < (x1.length : Int) then (if 0 ≤ x5 then ((spec_l00In.f ((rd_T97 x1 x5).f0) (-100) 100).bind fun t197 => (if t197 = true then ((spec_l00In.f ((rd_T97 x1 x5).f1) (-100) 100).bind fun t199 => (if t199 = true then (spec_l09Loads.l0 k x1 (wrap64 (x5 + 1))) else (some false))) else (some false))) else (none)) else (some true)
def spec_l09Loads.f (k : Nat) (l0_0 : List (S82)) (l0_1 : List (S84)) (l1 : List (S97)) : Option (Bool) := if (l1.length : Int) = (l0_0.length : Int) then (spec_l09Loads.l0 k l1 0) else (some false)
theorem spec_l09Loads.mono_l : ∀ k, (∀ y0 y1, LeO (spec_l09Loads.l0 k y0 y1) (spec_l09Loads.l0 (k + 1) y0 y1))
 | 0 => fun _ _ r h => by simp [spec_l09Loads.l0] at h
 | k + 1 => by
  have ih0 := spec_l09Loads.mono_l k
  ·intro y0 y1
   unfold spec_l09Loads.l0
   repeat' first
   | (with_reducible exact ih0 _ _)
   | (with_reducible exact LeO.refl _)
   | (with_reducible exact LeO.none _)
   | (with_reducible refine LeO.ite ?_ ?_)
   | (with_reducible refine LeO.bind ?_ (fun _ => ?_))
   | exact ih0 _ _
   | exact LeO.none _
   | refine LeO.ite ?_ ?_
   | refine LeO.bind ?_ (fun _ => ?_)
theorem spec_l09Loads.mono : ∀ a0 a1 a2 k, LeO (spec_l09Loads.f k a0 a1 a2) (spec_l09Loads.f (k + 1) a0 a1 a2) := by
 intro a0 a1 a2 k
 have ih0 := spec_l09Loads.mono_l k
 unfold spec_l09Loads.f
 repeat' first
   | (with_reducible exact ih0 _ _)
   | (with_reducible exact LeO.refl _)
   | (with_reducible exact LeO.none _)
   | (with_reducible refine LeO.ite ?_ ?_)
   | (with_reducible refine LeO.bind ?_ (fun _ => ?_))
   | exact ih0 _ _
   | exact LeO.none _
   | refine LeO.ite ?_ ?_
   | refine LeO.bind ?_ (fun _ => ?_)
set_option maxHeartbeats 8000000 in
set_option maxRecDepth 100000 in
theorem spec_l09Loads.calls (k : Nat) (gp0 : Nat) (A0_0 : Option Addr) (c0_0 : Nat) (l0_0 : List (S82)) (A0_1 : Option Addr) (c0_1 : Nat) (l0_1 : List (S84)) (A1 : Option Addr) (c1 : Nat) (l1 : List (S97)) (r : Bool) (w : World) (hb0 : w.heap[gp0]? = some (.cells #[.slice A0_0 l0_0.length c0_0, .slice A0_1 l0_1.length c0_1] 39 (0, 0))) (hr0_0 : Kd.C k82 w A0_0 l0_0.length l0_0) (hc0_0 : l0_0.length ≤ c0_0) (hr0_1 : Kd.C k84 w A0_1 l0_1.length l0_1) (hc0_1 : l0_1.length ≤ c0_1) (hr1 : Kd.C k97 w A1 l1.length l1) (hc1 : l1.length ≤ c1) (h : spec_l09Loads.f k l0_0 l0_1 l1 = some r) :
  Calls Try.prog 72 #[.pointer (some ⟨gp0, 0, none⟩), .slice A1 l1.length c1] w fun e w' => e = .returned (.bool r) ∧ Below w.heap.size w w' := by
 have HR0_0 := A' hr0_0; have HC0_0 := A' hc0_0; clear hr0_0 hc0_0; have HR0_1 := A' hr0_1; have HC0_1 := A' hc0_1; clear hr0_1 hc0_1; have HR1 := A' hr1; have HC1 := A' hc1; clear hr1 hc1; have BK0 := A' hb0; clear hb0; have HB := A' (Below.refl w.heap.size w); have H : (if (l1.length : Int) = (l0_0.length : Int) then (spec_l09Loads.l0 k l1 0) else (some false)) = some r := h; clear h
 by_cases c3 : (l1.length : Int) = (l0_0.length : Int)
 ·rw [if_pos c3] at H; have c3b0 : ((l1.length : Int) == (l0_0.length : Int)) = true := beq_iff_eq.mpr c3; have c3b1 : ((l1.length : Int) != (l0_0.length : Int)) = false := bne_eq_false_iff_eq.mpr c3; have c3b2 : (l1.length == l0_0.length) = true := by first | simpa using c3 | (simp at c3 ⊢; omega)
  clear c3; have H' := A' H; clear H; have hcz4_0 : w.cell? ⟨gp0, 0, none⟩ = some (.slice A0_0 l0_0.length c0_0) := (N' BK0.out 0).trans rfl; have hcz4_1 : w.cell? ⟨gp0, 1, none⟩ = some (.slice A0_1 l0_1.length c0_1) := (N' BK0.out 1).trans rfl; have hfz4_0 := Y' BK0.out 0; have hfz4_1 := Y' BK0.out 1; go_enter Try.func72, Try.ntmps72; go_wp2
  go_loopg [5] k (fun kq v5 w' => ∃ (x5_1 : Int), v5 = .int .i64 x5_1 ∧ Aside0 (spec_l09Loads.l0 kq l1 x5_1 = some r) ∧ Aside0 (kq ≤ k) ∧ Aside0 (w'.heap[gp0]? = some (.cells #[(.slice A0_0 l0_0.length c0_0), (.slice A0_1 l0_1.length c0_1)] 39 (0, 0))) ∧ Aside0 (Below w.heap.size w w'))
  case atStart => exact ⟨(0), qS, H', ⟨Nat.le_refl _⟩, ⟨qB BK0.out⟩, ⟨qK0 HB.out⟩⟩
  case round =>
   clear H'; try clear c1
   try clear p2
   try clear c3
   try clear c3b0
   try clear c3b1
   try clear c3b2
   try clear hcz4_0
   try clear hcz4_1
   try clear hfz4_0
   try clear hfz4_1
   obtain ⟨x5_1, rfl, HA, HK1, BK0, HB⟩ := hrel
   cases gk with
   | zero => exact absurd HA.out (by simp [spec_l09Loads.l0])
   | succ k1 =>
    have H := HA.out; clear HA; simp only [spec_l09Loads.l0] at H
    by_cases c5 : x5_1 < (l1.length : Int)
    ·rw [if_pos c5] at H; have c5b0 : decide (x5_1 < (l1.length : Int)) = true := dT' c5; clear c5
     by_cases c6 : 0 ≤ x5_1
     ·rw [if_pos c6] at H; have c6b0 : decide (0 ≤ x5_1) = true := dT' c6; clear c6; replace H := Option.bind_eq_some_iff.mp H; obtain ⟨t197, A70, H⟩ := H; replace H : (if t197 = true then ((spec_l00In.f ((rd_T97 l1 x5_1).f1) (-100) 100).bind fun t199 => (if t199 = true then (spec_l09Loads.l0 k1 l1 (wrap64 (x5_1 + 1))) else (some false))) else (some false)) = some r := H; have A7 := A' A70; clear A70
      by_cases c8 : t197 = true
      ·subst c8; have H1 : ((spec_l00In.f ((rd_T97 l1 x5_1).f1) (-100) 100).bind fun t199 => (if t199 = true then (spec_l09Loads.l0 k1 l1 (wrap64 (x5_1 + 1))) else (some false))) = some r := by rw [if_pos rfl] at H; exact H
       clear H; have H := H1; clear H1; replace H := Option.bind_eq_some_iff.mp H; obtain ⟨t199, A90, H⟩ := H; replace H : (if t199 = true then (spec_l09Loads.l0 k1 l1 (wrap64 (x5_1 + 1))) else (some false)) = some r := H; have A9 := A' A90; clear A90
       by_cases c10 : t199 = true
       ·subst c10; have H1 : (spec_l09Loads.l0 k1 l1 (wrap64 (x5_1 + 1))) = some r := by rw [if_pos rfl] at H; exact H
        clear H; have H := H1; clear H1; have H' := A' H; clear H; have p196 : 0 ≤ (x5_1 : Int) := oD' qA; have q196 : x5_1 < (l1.length : Int) := oD' qA; obtain ⟨ad196, e196, hx196_0, hx196_1⟩ := at_T97 HR1.out x5_1 p196 q196
        cases e196
        try replace hx196_0 := qC HB.out hx196_0
        try replace hx196_1 := qC HB.out hx196_1
        replace p196 := eq_true p196; replace q196 := eq_true q196; go_wp2_with (first | ((with_reducible refine gate_callee (f := 82) rfl ?_); refine goesL_ (some 25) rfl rfl Try.func82 (by kernel_rfl) rfl #[.int .i64 ((rd_T97 l1 x5_1).f0), .int .i64 (-100), .int .i64 100] rfl (by (try simp only [List.map_toArray, List.map_cons, List.map_nil]); first | done | rfl | (simp only [List.length_drop, List.length_take]; rfl)) ?_; (with_reducible refine (spec_l00In.calls ((rd_T97 l1 x5_1).f0) (-100) 100 true _ A7.out).mono ?_); rintro e w' ⟨rfl, ⟨nd, rfl⟩⟩; refine ⟨_, rfl, ?_⟩; have p198 : 0 ≤ (x5_1 : Int) := oD' qA; have q198 : x5_1 < (l1.length : Int) := oD' qA; obtain ⟨ad198, e198, hx198_0, hx198_1⟩ := at_T97 HR1.out x5_1 p198 q198; obtain rfl : ad196 = ad198 := (by injection e198); try replace hx198_0 := qC HB.out hx198_0; try replace hx198_1 := qC HB.out hx198_1; replace p198 := eq_true p198; replace q198 := eq_true q198) | (go_at_call 82; (with_reducible refine (spec_l00In.calls ((rd_T97 l1 x5_1).f1) (-100) 100 true _ A9.out).mono ?_); rintro e w' ⟨rfl, ⟨nd, rfl⟩⟩))
        go_roundg k1
        case measure => have := HK1.out; omega
        case rel => exact ⟨(wrap64 (x5_1 + 1)), qS, H', ⟨by have := HK1.out; omega⟩, ⟨qB BK0.out⟩, ⟨qK0 HB.out⟩⟩
       ·replace c10 := Bool.eq_false_iff.mpr c10; subst c10; have H1 : (some false) = some r := by rw [if_neg (show ¬ (false = true) by decide)] at H; exact H
        clear H; have H := H1; clear H1; obtain rfl := Option.some.inj H; have p196 : 0 ≤ (x5_1 : Int) := oD' qA; have q196 : x5_1 < (l1.length : Int) := oD' qA; obtain ⟨ad196, e196, hx196_0, hx196_1⟩ := at_T97 HR1.out x5_1 p196 q196
        cases e196
        try replace hx196_0 := qC HB.out hx196_0
        try replace hx196_1 := qC HB.out hx196_1
        replace p196 := eq_true p196; replace q196 := eq_true q196; go_wp2_with (first | ((with_reducible refine gate_callee (f := 82) rfl ?_); refine goesL_ (some 25) rfl rfl Try.func82 (by kernel_rfl) rfl #[.int .i64 ((rd_T97 l1 x5_1).f0), .int .i64 (-100), .int .i64 100] rfl (by (try simp only [List.map_toArray, List.map_cons, List.map_nil]); first | done | rfl | (simp only [List.length_drop, List.length_take]; rfl)) ?_; (with_reducible refine (spec_l00In.calls ((rd_T97 l1 x5_1).f0) (-100) 100 true _ A7.out).mono ?_); rintro e w' ⟨rfl, ⟨nd, rfl⟩⟩; refine ⟨_, rfl, ?_⟩; have p198 : 0 ≤ (x5_1 : Int) := oD' qA; have q198 : x5_1 < (l1.length : Int) := oD' qA; obtain ⟨ad198, e198, hx198_0, hx198_1⟩ := at_T97 HR1.out x5_1 p198 q198; obtain rfl : ad196 = ad198 := (by injection e198); try replace hx198_0 := qC HB.out hx198_0; try replace hx198_1 := qC HB.out hx198_1; replace p198 := eq_true p198; replace q198 := eq_true q198) | (go_at_call 82; (with_reducible refine (spec_l00In.calls ((rd_T97 l1 x5_1).f1) (-100) 100 false _ A9.out).mono ?_); rintro e w' ⟨rfl, ⟨nd, rfl⟩⟩)); go_ret; exact ⟨qE, qK0 HB.out⟩
      ·replace c8 := Bool.eq_false_iff.mpr c8; subst c8; have H1 : (some false) = some r := by rw [if_neg (show ¬ (false = true) by decide)] at H; exact H
       clear H; have H := H1; clear H1; obtain rfl := Option.some.inj H; have p196 : 0 ≤ (x5_1 : Int) := oD' qA; have q196 : x5_1 < (l1.length : Int) := oD' qA; obtain ⟨ad196, e196, hx196_0, hx196_1⟩ := at_T97 HR1.out x5_1 p196 q196
       cases e196
       try replace hx196_0 := qC HB.out hx196_0
       try replace hx196_1 := qC HB.out hx196_1
       replace p196 := eq_true p196; replace q196 := eq_true q196; go_wp2_with (first | ((with_reducible refine gate_callee (f := 82) rfl ?_); refine goesL_ (some 25) rfl rfl Try.func82 (by kernel_rfl) rfl #[.int .i64 ((rd_T97 l1 x5_1).f0), .int .i64 (-100), .int .i64 100] rfl (by (try simp only [List.map_toArray, List.map_cons, List.map_nil]); first | done | rfl | (simp only [List.length_drop, List.length_take]; rfl)) ?_; (with_reducible refine (spec_l00In.calls ((rd_T97 l1 x5_1).f0) (-100) 100 false _ A7.out).mono ?_); rintro e w' ⟨rfl, ⟨nd, rfl⟩⟩; refine ⟨_, rfl, ?_⟩)); go_ret; exact ⟨qE, qK0 HB.out⟩
     ·rw [if_neg c6] at H; exact absurd H (by simp)
    ·rw [if_neg c5] at H; have c5b0 : decide (x5_1 < (l1.length : Int)) = false := dF' c5; clear c5; obtain rfl := Option.some.inj H; go_wp2; go_ret; exact ⟨qE, qK0 HB.out⟩
 ·rw [if_neg c3] at H; have c3b0 : ((l1.length : Int) == (l0_0.length : Int)) = false := beq_eq_false_iff_ne.mpr c3; have c3b1 : ((l1.length : Int) != (l0_0.length : Int)) = true := bne_iff_ne.mpr c3; have c3b2 : (l1.length == l0_0.length) = false := by first | simpa using c3 | (simp at c3 ⊢; omega)
  obtain rfl := Option.some.inj H; have hcz11_0 : w.cell? ⟨gp0, 0, none⟩ = some (.slice A0_0 l0_0.length c0_0) := (N' BK0.out 0).trans rfl; have hcz11_1 : w.cell? ⟨gp0, 1, none⟩ = some (.slice A0_1 l0_1.length c0_1) := (N' BK0.out 1).trans rfl; have hfz11_0 := Y' BK0.out 0; have hfz11_1 := Y' BK0.out 1; go_enter Try.func72, Try.ntmps72; go_wp2; go_ret; exact ⟨qE, qK0 HB.out⟩

/-! ### spec_l00Gcd: function 91 -/
def spec_l00Gcd.l0 : Nat → Int → Int → Option (Int)
 | 0, _, _ => none
 | k + 1, x0, x1 => if x1 = 0 then (some x0) else (spec_l00Gcd.l0 k x1 (Int.tmod x0 x1))
def spec_l00Gcd.f (k : Nat) (a0 : Int) (a1 : Int) : Option (Int) := spec_l00Gcd.l0 k a0 a1
theorem spec_l00Gcd.mono_l : ∀ k, (∀ y0 y1, LeO (spec_l00Gcd.l0 k y0 y1) (spec_l00Gcd.l0 (k + 1) y0 y1))
 | 0 => fun _ _ r h => by simp [spec_l00Gcd.l0] at h
 | k + 1 => by
  have ih0 := spec_l00Gcd.mono_l k
  ·intro y0 y1
   unfold spec_l00Gcd.l0
   repeat' first
   | (with_reducible exact ih0 _ _)
   | (with_reducible exact LeO.refl _)
   | (with_reducible exact LeO.none _)
   | (with_reducible refine LeO.ite ?_ ?_)
   | (with_reducible refine LeO.bind ?_ (fun _ => ?_))
   | exact ih0 _ _
   | exact LeO.none _
   | refine LeO.ite ?_ ?_
   | refine LeO.bind ?_ (fun _ => ?_)
theorem spec_l00Gcd.mono : ∀ a0 a1 k, LeO (spec_l00Gcd.f k a0 a1) (spec_l00Gcd.f (k + 1) a0 a1) := by
 intro a0 a1 k
 have ih0 := spec_l00Gcd.mono_l k
 unfold spec_l00Gcd.f
 repeat' first
   | (with_reducible exact ih0 _ _)
   | (with_reducible exact LeO.refl _)
   | (with_reducible exact LeO.none _)
   | (with_reducible refine LeO.ite ?_ ?_)
   | (with_reducible refine LeO.bind ?_ (fun _ => ?_))
   | exact ih0 _ _
   | exact LeO.none _
   | refine LeO.ite ?_ ?_
   | refine LeO.bind ?_ (fun _ => ?_)
set_option maxHeartbeats 8000000 in
set_option maxRecDepth 100000 in
theorem spec_l00Gcd.calls (k : Nat) (a0 : Int) (a1 : Int) (r : Int) (w : World) (h : spec_l00Gcd.f k a0 a1 = some r) :
  Calls Try.prog 91 #[.int .i64 a0, .int .i64 a1] w fun e w' => e = .returned (.int .i64 r) ∧ Drawn0 w w' := by
 have H : (spec_l00Gcd.l0 k a0 a1) = some r := h
 clear h
 have H' := Aside0.mk H
 clear H
 go_enter Try.func91, Try.ntmps91
 go_wp2
 go_loopg [0, 1] k (fun kq v0 v1 w' => ∃ (x0_1 : Int) (x1_1 : Int), v0 = .int .i64 x0_1 ∧ v1 = .int .i64 x1_1 ∧ Aside0 (spec_l00Gcd.l0 kq x0_1 x1_1 = some r) ∧ Aside0 (kq ≤ k) ∧ Drawn0 w w')
 case atStart => exact ⟨(a0), (a1), (by first | rfl | (simp; done) | (simp [*]; done)), (by first | rfl | (simp; done) | (simp [*]; done)), H', ⟨Nat.le_refl _⟩, by repeat (first | exact Drawn0.refl _ | apply Drawn0.step)⟩
 case round =>
  clear H'
  try clear p2
  obtain ⟨x0_1, x1_1, rfl, rfl, HA, HK1, ⟨m1, rfl⟩⟩ := hrel
  cases gk with
  | zero => exact absurd HA.out (by simp [spec_l00Gcd.l0])
  | succ k1 =>
   have H := HA.out
   clear HA
   simp only [spec_l00Gcd.l0] at H
   by_cases c3 : x1_1 = 0
   ·rw [if_pos c3] at H
    have c3b0 : (x1_1 == 0) = true := beq_iff_eq.mpr c3
    have c3b1 : (x1_1 != 0) = false := bne_eq_false_iff_eq.mpr c3
    clear c3
    obtain rfl := Option.some.inj H
    go_wp2
    go_ret
    exact ⟨by first | rfl | (simp; done) | (simp [*]; done), by repeat (first | exact Drawn0.refl _ | apply Drawn0.step)⟩
   ·rw [if_neg c3] at H
    have c3b0 : (x1_1 == 0) = false := beq_eq_false_iff_ne.mpr c3
    have c3b1 : (x1_1 != 0) = true := bne_iff_ne.mpr c3
    have H' := Aside0.mk H
    clear H
    go_wp2
    go_roundg k1
    case measure => have := HK1.out; omega
    case rel => exact ⟨(x1_1), (Int.tmod x0_1 x1_1), (by first | rfl | (simp; done) | (simp [*]; done)), (by first | rfl | (simp; done) | (simp [*]; done)), H', ⟨by have := HK1.out; omega⟩, by repeat (first | exact Drawn0.refl _ | apply Drawn0.step)⟩

/-! ### spec_l00Size: function 92 -/
def spec_l00Size.f (a0 : Int) : Option (Int) := if a0 < 0 then (some (wrap64 (-a0))) else (some a0)
set_option maxHeartbeats 8000000 in
set_option maxRecDepth 100000 in
theorem spec_l00Size.calls (a0 : Int) (r : Int) (w : World) (h : spec_l00Size.f a0 = some r) :
    Calls Try.prog 92 #[.int .i64 a0] w fun e w' => e = .returned (.int .i64 r) ∧ Drawn0 w w' := by
  have H : (if a0 < 0 then (some (wrap64 (-a0))) else (some a0)) = some r := h
  clear h
  by_cases c2 : a0 < 0
  · rw [if_pos c2] at H
    have c2b0 : decide (a0 < 0) = true := decide_eq_true c2
    clear c2
    obtain rfl := Option.some.inj H
    go_enter Try.func92, Try.ntmps92
    go_wp2
    go_ret
    exact ⟨by first | rfl | (simp; done) | (simp [*]; done), by repeat (first | exact Drawn0.refl _ | apply Drawn0.step)⟩
  · rw [if_neg c2] at H
    have c2b0 : decide (a0 < 0) = false := decide_eq_false c2
    clear c2
    obtain rfl := Option.some.inj H
    go_enter Try.func92, Try.ntmps92
    go_wp2
    go_ret
    exact ⟨by first | rfl | (simp; done) | (simp [*]; done), by repeat (first | exact Drawn0.refl _ | apply Drawn0.step)⟩

/-! ### spec_l09Dense: function 77 -/
mutual
def spec_l09Dense.j0 : Nat → Bool → List Int → Int → Option (Bool)
 | 0, _, _, _ => none
 | k + 1, x25, x2000, x2001 => if x25 = true then (some false) else (spec_l09Dense.l0 k x2001 0 x2000 x2001)
def spec_l09Dense.l0 : Nat → Int → Int → List Int → Int → Option (Bool)
 | 0, _, _, _, _ => none
 | k + 1, x5, x6, x2000, x2001 => if x6 < (x2000.length : Int) then (if 0 ≤ x6 then ((spec_l00In.f (rd x2000 x6) (-10000000000) 10000000000).bind fun t202 => (if t202 = true then ((spec_l00Size.f (rd x2000 x6)).bind fun t204 => ((spec_l00Gcd.f k x5 t204).bind fun t205 => (spec_l09Dense.l0 k t205 (wrap64 (x6 + 1)) x2000 x2001))) else (some false))) else (none)) else (some (x5 == 1))
end
def spec_l09Dense.f (k : Nat) (l0_0 : List (S82)) (l0_1 : List (S84)) (l1_0 : List Int) (a1_1 : Int) : Option (Bool) := if (l1_0.length : Int) = (l0_1.length : Int) then ((spec_l00In.f a1_1 1 1000000000).bind fun t200 => (spec_l09Dense.j0 k (!t200) l1_0 a1_1)) else (spec_l09Dense.j0 k true l1_0 a1_1)
theorem spec_l09Dense.mono_l : ∀ k, (∀ y0 y1 y2, LeO (spec_l09Dense.j0 k y0 y1 y2) (spec_l09Dense.j0 (k + 1) y0 y1 y2)) ∧ (∀ y0 y1 y2 y3, LeO (spec_l09Dense.l0 k y0 y1 y2 y3) (spec_l09Dense.l0 (k + 1) y0 y1 y2 y3))
 | 0 => ⟨fun _ _ _ r h => by simp [spec_l09Dense.j0] at h, fun _ _ _ _ r h => by simp [spec_l09Dense.l0] at h⟩
 | k + 1 => by
  obtain ⟨ih0, ih1⟩ := spec_l09Dense.mono_l k
  refine ⟨?_, ?_⟩
  ·intro y0 y1 y2
   unfold spec_l09Dense.j0
   repeat' first
   | (with_reducible exact ih0 _ _ _)
   | (with_reducible exact ih1 _ _ _ _)
   | (with_reducible exact spec_l00Gcd.mono _ _ _)
   | (with_reducible exact LeO.refl _)
   | (with_reducible exact LeO.none _)
   | (with_reducible refine LeO.ite ?_ ?_)
   | (with_reducible refine LeO.bind ?_ (fun _ => ?_))
   | exact ih0 _ _ _
   | exact ih1 _ _ _ _
   | exact spec_l00Gcd.mono _ _ _
   | exact LeO.none _
   | refine LeO.ite ?_ ?_
   | refine LeO.bind ?_ (fun _ => ?_)
  ·intro y0 y1 y2 y3
   unfold spec_l09Dense.l0
   repeat' first
   | (with_reducible exact ih0 _ _ _)
   | (with_reducible exact ih1 _ _ _ _)
   | (with_reducible exact spec_l00Gcd.mono _ _ _)
   | (with_reducible exact LeO.refl _)
   | (with_reducible exact LeO.none _)
   | (with_reducible refine LeO.ite ?_ ?_)
   | (with_reducible refine LeO.bind ?_ (fun _ => ?_))
   | exact ih0 _ _ _
   | exact ih1 _ _ _ _
   | exact spec_l00Gcd.mono _ _ _
   | exact LeO.none _
   | refine LeO.ite ?_ ?_
   | refine LeO.bind ?_ (fun _ => ?_)
theorem spec_l09Dense.mono : ∀ a0 a1 a2 a3 k, LeO (spec_l09Dense.f k a0 a1 a2 a3) (spec_l09Dense.f (k + 1) a0 a1 a2 a3) := by
 intro a0 a1 a2 a3 k
 obtain ⟨ih0, ih1⟩ := spec_l09Dense.mono_l k
 unfold spec_l09Dense.f
 repeat' first
   | (with_reducible exact ih0 _ _ _)
   | (with_reducible exact ih1 _ _ _ _)
   | (with_reducible exact spec_l00Gcd.mono _ _ _)
   | (with_reducible exact LeO.refl _)
   | (with_reducible exact LeO.none _)
   | (with_reducible refine LeO.ite ?_ ?_)
   | (with_reducible refine LeO.bind ?_ (fun _ => ?_))
   | exact ih0 _ _ _
   | exact ih1 _ _ _ _
   | exact spec_l00Gcd.mono _ _ _
   | exact LeO.none _
   | refine LeO.ite ?_ ?_
   | refine LeO.bind ?_ (fun _ => ?_)
set_option maxHeartbeats 8000000 in
set_option maxRecDepth 100000 in
theorem spec_l09Dense.calls (k : Nat) (gp0 : Nat) (A0_0 : Option Addr) (c0_0 : Nat) (l0_0 : List (S82)) (A0_1 : Option Addr) (c0_1 : Nat) (l0_1 : List (S84)) (gp1 : Nat) (A1_0 : Option Addr) (c1_0 : Nat) (l1_0 : List Int) (a1_1 : Int) (r : Bool) (w : World) (hb0 : w.heap[gp0]? = some (.cells #[.slice A0_0 l0_0.length c0_0, .slice A0_1 l0_1.length c0_1] 39 (0, 0))) (hb1 : w.heap[gp1]? = some (.cells #[.slice A1_0 l1_0.length c1_0, .int .i64 a1_1] 27 (0, 0))) (hr0_0 : Kd.C k82 w A0_0 l0_0.length l0_0) (hc0_0 : l0_0.length ≤ c0_0) (hr0_1 : Kd.C k84 w A0_1 l0_1.length l0_1) (hc0_1 : l0_1.length ≤ c0_1) (hr1_0 : Kd.C (Kd.int .i64) w A1_0 l1_0.length l1_0) (hc1_0 : l1_0.length ≤ c1_0) (h : spec_l09Dense.f k l0_0 l0_1 l1_0 a1_1 = some r) :
  Calls Try.prog 77 #[.pointer (some ⟨gp0, 0, none⟩), .pointer (some ⟨gp1, 0, none⟩)] w fun e w' => e = .returned (.bool r) ∧ Below w.heap.size w w' := by
 have HR0_0 := A' hr0_0; have HC0_0 := A' hc0_0; clear hr0_0 hc0_0; have HR0_1 := A' hr0_1; have HC0_1 := A' hc0_1; clear hr0_1 hc0_1; have HR1_0 := A' hr1_0; have HC1_0 := A' hc1_0; clear hr1_0 hc1_0; have NE0_1 : gp0 ≠ gp1 := fun e_ => by have h_ := hb1; rw [← e_] at h_; have h2_ := hb0.symm.trans h_; simp at h2_
 have NB0_1 := A' NE0_1; have NB1_0 := A' (Ne.symm NE0_1); clear NE0_1; have BK0 := A' hb0; clear hb0; have BK1 := A' hb1; clear hb1; have HB := A' (Below.refl w.heap.size w); have H : (if (l1_0.length : Int) = (l0_1.length : Int) then ((spec_l00In.f a1_1 1 1000000000).bind fun t200 => (spec_l09Dense.j0 k (!t200) l1_0 a1_1)) else (spec_l09Dense.j0 k true l1_0 a1_1)) = some r := h; clear h; have HC3 := A' H; clear H; go_enter Try.func77, Try.ntmps77; go_upto_region 1 with (fail)
 repeat (go_quiet (fail); go_upto_region 1 with (fail))
 go_cut [25] (fun v25 wc => ∃ (kq : Nat) (x25_2 : Bool), v25 = .bool x25_2 ∧ Aside0 (spec_l09Dense.j0 kq x25_2 l1_0 a1_1 = some r) ∧ Aside0 (kq ≤ k) ∧ Aside0 (wc.heap[gp0]? = some (.cells #[(.slice A0_0 l0_0.length c0_0), (.slice A0_1 l0_1.length c0_1)] 39 (0, 0))) ∧ Aside0 (wc.heap[gp1]? = some (.cells #[(.slice A1_0 l1_0.length c1_0), .int .i64 a1_1] 27 (0, 0))) ∧ Aside0 (Below w.heap.size w wc))
 case first =>
  have H := HC3.out; clear HC3
  by_cases c4 : (l1_0.length : Int) = (l0_1.length : Int)
  ·rw [if_pos c4] at H; have c4b0 : ((l1_0.length : Int) == (l0_1.length : Int)) = true := beq_iff_eq.mpr c4; have c4b1 : ((l1_0.length : Int) != (l0_1.length : Int)) = false := bne_eq_false_iff_eq.mpr c4; have c4b2 : (l1_0.length == l0_1.length) = true := by first | simpa using c4 | (simp at c4 ⊢; omega)
   clear c4; (first | rw [c4b0] | (simp only [i64_w, i32_w]; rw [c4b0]) | skip); replace H := Option.bind_eq_some_iff.mp H; obtain ⟨t200, A50, H⟩ := H; replace H : (spec_l09Dense.j0 k (!t200) l1_0 a1_1) = some r := H; have A5 := A' A50; clear A50; have H' := A' H; clear H; have hnb6 := NB1_0.out; have hnc6 := NB0_1.out; have hcz7_0 : w.cell? ⟨gp1, 0, none⟩ = some (.slice A1_0 l1_0.length c1_0) := (N' BK1.out 0).trans rfl; have hcz7_1 : w.cell? ⟨gp1, 1, none⟩ = some (.int .i64 a1_1) := (N' BK1.out 1).trans rfl; have hfz7_0 := Y' BK1.out 0; have hfz7_1 := Y' BK1.out 1; have hcz8_0 : w.cell? ⟨gp0, 0, none⟩ = some (.slice A0_0 l0_0.length c0_0) := (N' BK0.out 0).trans rfl; have hcz8_1 : w.cell? ⟨gp0, 1, none⟩ = some (.slice A0_1 l0_1.length c0_1) := (N' BK0.out 1).trans rfl; have hfz8_0 := Y' BK0.out 0; have hfz8_1 := Y' BK0.out 1; go_wp2_with (first | (go_at_call 82; (with_reducible refine (spec_l00In.calls a1_1 1 1000000000 t200 _ A5.out).mono ?_); rintro e w' ⟨rfl, ⟨nd, rfl⟩⟩; (try first | exact ⟨rfl, _, World.drewN_drewN _ _ _⟩ | exact ⟨rfl, _, Eq.trans (World.drewN_drewN _ _ _) (congrArg (World.drewN _) (Nat.add_assoc _ _ _))⟩)))
   repeat (go_quiet (first | (go_at_call 82; (with_reducible refine (spec_l00In.calls a1_1 1 1000000000 t200 _ A5.out).mono ?_); rintro e w' ⟨rfl, ⟨nd, rfl⟩⟩; (try first | exact ⟨rfl, _, World.drewN_drewN _ _ _⟩ | exact ⟨rfl, _, Eq.trans (World.drewN_drewN _ _ _) (congrArg (World.drewN _) (Nat.add_assoc _ _ _))⟩))); try go_wp2_with (first | (go_at_call 82; (with_reducible refine (spec_l00In.calls a1_1 1 1000000000 t200 _ A5.out).mono ?_); rintro e w' ⟨rfl, ⟨nd, rfl⟩⟩; (try first | exact ⟨rfl, _, World.drewN_drewN _ _ _⟩ | exact ⟨rfl, _, Eq.trans (World.drewN_drewN _ _ _) (congrArg (World.drewN _) (Nat.add_assoc _ _ _))⟩))))
   go_meet
   case rel => exact ⟨_, (!t200), qS, H', ⟨by first | omega | exact Nat.le_refl _⟩, ⟨qB BK0.out⟩, ⟨qB BK1.out⟩, ⟨qK0 HB.out⟩⟩
  ·rw [if_neg c4] at H; have c4b0 : ((l1_0.length : Int) == (l0_1.length : Int)) = false := beq_eq_false_iff_ne.mpr c4; have c4b1 : ((l1_0.length : Int) != (l0_1.length : Int)) = true := bne_iff_ne.mpr c4; have c4b2 : (l1_0.length == l0_1.length) = false := by first | simpa using c4 | (simp at c4 ⊢; omega)
   (first | rw [c4b0] | (simp only [i64_w, i32_w]; rw [c4b0]) | skip); have H' := A' H; clear H; have hnb9 := NB1_0.out; have hnc9 := NB0_1.out; have hcz10_0 : w.cell? ⟨gp1, 0, none⟩ = some (.slice A1_0 l1_0.length c1_0) := (N' BK1.out 0).trans rfl; have hcz10_1 : w.cell? ⟨gp1, 1, none⟩ = some (.int .i64 a1_1) := (N' BK1.out 1).trans rfl; have hfz10_0 := Y' BK1.out 0; have hfz10_1 := Y' BK1.out 1; have hcz11_0 : w.cell? ⟨gp0, 0, none⟩ = some (.slice A0_0 l0_0.length c0_0) := (N' BK0.out 0).trans rfl; have hcz11_1 : w.cell? ⟨gp0, 1, none⟩ = some (.slice A0_1 l0_1.length c0_1) := (N' BK0.out 1).trans rfl; have hfz11_0 := Y' BK0.out 0; have hfz11_1 := Y' BK0.out 1; go_wp2
   repeat (go_quiet (fail); try go_wp2)
   go_meet
   case rel => exact ⟨_, (true), qS, H', ⟨by first | omega | exact Nat.le_refl _⟩, ⟨qB BK0.out⟩, ⟨qB BK1.out⟩, ⟨qK0 HB.out⟩⟩
 case rest =>
  clear HC3; try clear c1
  try clear p1
  try clear p2
  try clear c4
  try clear c4b0
  try clear c4b1
  try clear c4b2
  try clear c6
  try clear c7
  try clear c9
  try clear hcz10_0
  try clear hcz10_1
  try clear hcz11_0
  try clear hcz11_1
  try clear hcz7_0
  try clear hcz7_1
  try clear hcz8_0
  try clear hcz8_1
  try clear hfz10_0
  try clear hfz10_1
  try clear hfz11_0
  try clear hfz11_1
  try clear hfz7_0
  try clear hfz7_1
  try clear hfz8_0
  try clear hfz8_1
  obtain ⟨kq, x25_2, rfl, HA, HJ2, BK0, BK1, HB⟩ := hcut
  cases kq with
  | zero => exact absurd HA.out (by simp [spec_l09Dense.j0])
  | succ kj2 =>
   have H := HA.out; clear HA; simp only [spec_l09Dense.j0] at H
   by_cases c12 : x25_2 = true
   ·subst c12; have H1 : (some false) = some r := by rw [if_pos rfl] at H; exact H
    clear H; have H := H1; clear H1; obtain rfl := Option.some.inj H; go_wp2
    repeat (go_quiet (fail); try go_wp2)
    go_ret; exact ⟨qE, qK0 HB.out⟩
   ·replace c12 := Bool.eq_false_iff.mpr c12; subst c12; have H1 : (spec_l09Dense.l0 kj2 a1_1 0 l1_0 a1_1) = some r := by rw [if_neg (show ¬ (false = true) by decide)] at H; exact H
    clear H; have H := H1; clear H1; have H' := A' H; clear H; have hnb13 := NB1_0.out; have hnc13 := NB0_1.out; have hcz14_0 : wc.cell? ⟨gp1, 0, none⟩ = some (.slice A1_0 l1_0.length c1_0) := (N' BK1.out 0).trans rfl; have hcz14_1 : wc.cell? ⟨gp1, 1, none⟩ = some (.int .i64 a1_1) := (N' BK1.out 1).trans rfl; have hfz14_0 := Y' BK1.out 0; have hfz14_1 := Y' BK1.out 1; go_wp2
    repeat (go_quiet (fail); try go_wp2)
    go_loopg [5, 6] kj2 (fun kq v5 v6 w' => ∃ (x5_2 : Int) (x6_2 : Int), v5 = .int .i64 x5_2 ∧ v6 = .int .i64 x6_2 ∧ Aside0 (spec_l09Dense.l0 kq x5_2 x6_2 l1_0 a1_1 = some r) ∧ Aside0 (kq ≤ kj2) ∧ Aside0 (w'.heap[gp0]? = some (.cells #[(.slice A0_0 l0_0.length c0_0), (.slice A0_1 l0_1.length c0_1)] 39 (0, 0))) ∧ Aside0 (w'.heap[gp1]? = some (.cells #[(.slice A1_0 l1_0.length c1_0), .int .i64 a1_1] 27 (0, 0))) ∧ Aside0 (Below w.heap.size w w'))
    case atStart => exact ⟨(a1_1), (0), qS, qS, H', ⟨Nat.le_refl _⟩, ⟨qB BK0.out⟩, ⟨qB BK1.out⟩, ⟨qK0 HB.out⟩⟩
    case round =>
     clear H'; try clear c1
     try clear p1
     try clear p2
     try clear c4
     try clear c4b0
     try clear c4b1
     try clear c4b2
     try clear c6
     try clear c7
     try clear c9
     try clear c12
     try clear c13
     try clear hcz10_0
     try clear hcz10_1
     try clear hcz11_0
     try clear hcz11_1
     try clear hcz14_0
     try clear hcz14_1
     try clear hcz7_0
     try clear hcz7_1
     try clear hcz8_0
     try clear hcz8_1
     try clear hfz10_0
     try clear hfz10_1
     try clear hfz11_0
     try clear hfz11_1
     try clear hfz14_0
     try clear hfz14_1
     try clear hfz7_0
     try clear hfz7_1
     try clear hfz8_0
     try clear hfz8_1
     try clear p1
     try clear p2
     obtain ⟨x5_2, x6_2, rfl, rfl, HA, HK2, BK0, BK1, HB⟩ := hrel
     cases gk with
     | zero => exact absurd HA.out (by simp [spec_l09Dense.l0])
     | succ k2 =>
      have H := HA.out; clear HA; simp only [spec_l09Dense.l0] at H
      by_cases c15 : x6_2 < (l1_0.length : Int)
      ·rw [if_pos c15] at H; have c15b0 : decide (x6_2 < (l1_0.length : Int)) = true := dT' c15; clear c15
       by_cases c16 : 0 ≤ x6_2
       ·rw [if_pos c16] at H; have c16b0 : decide (0 ≤ x6_2) = true := dT' c16; clear c16; replace H := Option.bind_eq_some_iff.mp H; obtain ⟨t202, A170, H⟩ := H; replace H : (if t202 = true then ((spec_l00Size.f (rd l1_0 x6_2)).bind fun t204 => ((spec_l00Gcd.f k2 x5_2 t204).bind fun t205 => (spec_l09Dense.l0 k2 t205 (wrap64 (x6_2 + 1)) l1_0 a1_1))) else (some false)) = some r := H; have A17 := A' A170; clear A170
        by_cases c18 : t202 = true
        ·subst c18; have H1 : ((spec_l00Size.f (rd l1_0 x6_2)).bind fun t204 => ((spec_l00Gcd.f k2 x5_2 t204).bind fun t205 => (spec_l09Dense.l0 k2 t205 (wrap64 (x6_2 + 1)) l1_0 a1_1))) = some r := by rw [if_pos rfl] at H; exact H
         clear H; have H := H1; clear H1; replace H := Option.bind_eq_some_iff.mp H; obtain ⟨t204, A190, H⟩ := H; replace H : ((spec_l00Gcd.f k2 x5_2 t204).bind fun t205 => (spec_l09Dense.l0 k2 t205 (wrap64 (x6_2 + 1)) l1_0 a1_1)) = some r := H; have A19 := A' A190; clear A190; replace H := Option.bind_eq_some_iff.mp H; obtain ⟨t205, A200, H⟩ := H; replace H : (spec_l09Dense.l0 k2 t205 (wrap64 (x6_2 + 1)) l1_0 a1_1) = some r := H; have A20 := A' A200; clear A200; have H' := A' H; clear H; have hnb21 := NB1_0.out; have hnc21 := NB0_1.out; have hcz22_0 : wr.cell? ⟨gp1, 0, none⟩ = some (.slice A1_0 l1_0.length c1_0) := (N' BK1.out 0).trans rfl; have hcz22_1 : wr.cell? ⟨gp1, 1, none⟩ = some (.int .i64 a1_1) := (N' BK1.out 1).trans rfl; have hfz22_0 := Y' BK1.out 0; have hfz22_1 := Y' BK1.out 1; have p201 : 0 ≤ (x6_2 : Int) := oD' qA; have q201 : x6_2 < (l1_0.length : Int) := oD' qA; obtain ⟨ad201, e201, hx201_0⟩ := Kd.at_int HR1_0.out x6_2 p201 q201
         cases e201
         try replace hx201_0 := qC HB.out hx201_0
         replace p201 := eq_true p201; replace q201 := eq_true q201; go_wp2_with (first | (go_at_call 82; (with_reducible refine (spec_l00In.calls (rd l1_0 x6_2) (-10000000000) 10000000000 true _ A17.out).mono ?_); rintro e w' ⟨rfl, ⟨nd, rfl⟩⟩; (try first | exact ⟨rfl, _, World.drewN_drewN _ _ _⟩ | exact ⟨rfl, _, Eq.trans (World.drewN_drewN _ _ _) (congrArg (World.drewN _) (Nat.add_assoc _ _ _))⟩); have p203 : 0 ≤ (x6_2 : Int) := oD' qA; have q203 : x6_2 < (l1_0.length : Int) := oD' qA; obtain ⟨ad203, e203, hx203_0⟩ := Kd.at_int HR1_0.out x6_2 p203 q203; obtain rfl : ad201 = ad203 := (by injection e203); try replace hx203_0 := qC HB.out hx203_0; replace p203 := eq_true p203; replace q203 := eq_true q203) | (go_at_call 92; (with_reducible refine (spec_l00Size.calls (rd l1_0 x6_2) t204 _ A19.out).mono ?_); rintro e w' ⟨rfl, ⟨nd, rfl⟩⟩; (try first | exact ⟨rfl, _, World.drewN_drewN _ _ _⟩ | exact ⟨rfl, _, Eq.trans (World.drewN_drewN _ _ _) (congrArg (World.drewN _) (Nat.add_assoc _ _ _))⟩)) | (go_at_call 91; (with_reducible refine (spec_l00Gcd.calls k2 x5_2 t204 t205 _ A20.out).mono ?_); rintro e w' ⟨rfl, ⟨nd, rfl⟩⟩; (try first | exact ⟨rfl, _, World.drewN_drewN _ _ _⟩ | exact ⟨rfl, _, Eq.trans (World.drewN_drewN _ _ _) (congrArg (World.drewN _) (Nat.add_assoc _ _ _))⟩)))
         repeat (go_quiet (first | (go_at_call 82; (with_reducible refine (spec_l00In.calls (rd l1_0 x6_2) (-10000000000) 10000000000 true _ A17.out).mono ?_); rintro e w' ⟨rfl, ⟨nd, rfl⟩⟩; (try first | exact ⟨rfl, _, World.drewN_drewN _ _ _⟩ | exact ⟨rfl, _, Eq.trans (World.drewN_drewN _ _ _) (congrArg (World.drewN _) (Nat.add_assoc _ _ _))⟩); have p203 : 0 ≤ (x6_2 : Int) := oD' qA; have q203 : x6_2 < (l1_0.length : Int) := oD' qA; obtain ⟨ad203, e203, hx203_0⟩ := Kd.at_int HR1_0.out x6_2 p203 q203; obtain rfl : ad201 = ad203 := (by injection e203); try replace hx203_0 := qC HB.out hx203_0; replace p203 := eq_true p203; replace q203 := eq_true q203) | (go_at_call 92; (with_reducible refine (spec_l00Size.calls (rd l1_0 x6_2) t204 _ A19.out).mono ?_); rintro e w' ⟨rfl, ⟨nd, rfl⟩⟩; (try first | exact ⟨rfl, _, World.drewN_drewN _ _ _⟩ | exact ⟨rfl, _, Eq.trans (World.drewN_drewN _ _ _) (congrArg (World.drewN _) (Nat.add_assoc _ _ _))⟩)) | (go_at_call 91; (with_reducible refine (spec_l00Gcd.calls k2 x5_2 t204 t205 _ A20.out).mono ?_); rintro e w' ⟨rfl, ⟨nd, rfl⟩⟩; (try first | exact ⟨rfl, _, World.drewN_drewN _ _ _⟩ | exact ⟨rfl, _, Eq.trans (World.drewN_drewN _ _ _) (congrArg (World.drewN _) (Nat.add_assoc _ _ _))⟩))); try go_wp2_with (first | (go_at_call 82; (with_reducible refine (spec_l00In.calls (rd l1_0 x6_2) (-10000000000) 10000000000 true _ A17.out).mono ?_); rintro e w' ⟨rfl, ⟨nd, rfl⟩⟩; (try first | exact ⟨rfl, _, World.drewN_drewN _ _ _⟩ | exact ⟨rfl, _, Eq.trans (World.drewN_drewN _ _ _) (congrArg (World.drewN _) (Nat.add_assoc _ _ _))⟩); have p203 : 0 ≤ (x6_2 : Int) := oD' qA; have q203 : x6_2 < (l1_0.length : Int) := oD' qA; obtain ⟨ad203, e203, hx203_0⟩ := Kd.at_int HR1_0.out x6_2 p203 q203; obtain rfl : ad201 = ad203 := (by injection e203); try replace hx203_0 := qC HB.out hx203_0; replace p203 := eq_true p203; replace q203 := eq_true q203) | (go_at_call 92; (with_reducible refine (spec_l00Size.calls (rd l1_0 x6_2) t204 _ A19.out).mono ?_); rintro e w' ⟨rfl, ⟨nd, rfl⟩⟩; (try first | exact ⟨rfl, _, World.drewN_drewN _ _ _⟩ | exact ⟨rfl, _, Eq.trans (World.drewN_drewN _ _ _) (congrArg (World.drewN _) (Nat.add_assoc _ _ _))⟩)) | (go_at_call 91; (with_reducible refine (spec_l00Gcd.calls k2 x5_2 t204 t205 _ A20.out).mono ?_); rintro e w' ⟨rfl, ⟨nd, rfl⟩⟩; (try first | exact ⟨rfl, _, World.drewN_drewN _ _ _⟩ | exact ⟨rfl, _, Eq.trans (World.drewN_drewN _ _ _) (congrArg (World.drewN _) (Nat.add_assoc _ _ _))⟩))))
         go_roundg k2
         case measure => have := HJ2.out; have := HK2.out; omega
         case rel => exact ⟨(t205), (wrap64 (x6_2 + 1)), qS, qS, H', ⟨by have := HJ2.out; have := HK2.out; omega⟩, ⟨qB BK0.out⟩, ⟨qB BK1.out⟩, ⟨qK0 HB.out⟩⟩
        ·replace c18 := Bool.eq_false_iff.mpr c18; subst c18; have H1 : (some false) = some r := by rw [if_neg (show ¬ (false = true) by decide)] at H; exact H
         clear H; have H := H1; clear H1; obtain rfl := Option.some.inj H; have hnb23 := NB1_0.out; have hnc23 := NB0_1.out; have hcz24_0 : wr.cell? ⟨gp1, 0, none⟩ = some (.slice A1_0 l1_0.length c1_0) := (N' BK1.out 0).trans rfl; have hcz24_1 : wr.cell? ⟨gp1, 1, none⟩ = some (.int .i64 a1_1) := (N' BK1.out 1).trans rfl; have hfz24_0 := Y' BK1.out 0; have hfz24_1 := Y' BK1.out 1; have p201 : 0 ≤ (x6_2 : Int) := oD' qA; have q201 : x6_2 < (l1_0.length : Int) := oD' qA; obtain ⟨ad201, e201, hx201_0⟩ := Kd.at_int HR1_0.out x6_2 p201 q201
         cases e201
         try replace hx201_0 := qC HB.out hx201_0
         replace p201 := eq_true p201; replace q201 := eq_true q201; go_wp2_with (first | (go_at_call 82; (with_reducible refine (spec_l00In.calls (rd l1_0 x6_2) (-10000000000) 10000000000 false _ A17.out).mono ?_); rintro e w' ⟨rfl, ⟨nd, rfl⟩⟩; (try first | exact ⟨rfl, _, World.drewN_drewN _ _ _⟩ | exact ⟨rfl, _, Eq.trans (World.drewN_drewN _ _ _) (congrArg (World.drewN _) (Nat.add_assoc _ _ _))⟩)))
         repeat (go_quiet (first | (go_at_call 82; (with_reducible refine (spec_l00In.calls (rd l1_0 x6_2) (-10000000000) 10000000000 false _ A17.out).mono ?_); rintro e w' ⟨rfl, ⟨nd, rfl⟩⟩; (try first | exact ⟨rfl, _, World.drewN_drewN _ _ _⟩ | exact ⟨rfl, _, Eq.trans (World.drewN_drewN _ _ _) (congrArg (World.drewN _) (Nat.add_assoc _ _ _))⟩))); try go_wp2_with (first | (go_at_call 82; (with_reducible refine (spec_l00In.calls (rd l1_0 x6_2) (-10000000000) 10000000000 false _ A17.out).mono ?_); rintro e w' ⟨rfl, ⟨nd, rfl⟩⟩; (try first | exact ⟨rfl, _, World.drewN_drewN _ _ _⟩ | exact ⟨rfl, _, Eq.trans (World.drewN_drewN _ _ _) (congrArg (World.drewN _) (Nat.add_assoc _ _ _))⟩))))
         go_ret; exact ⟨qE, qK0 HB.out⟩
       ·rw [if_neg c16] at H; exact absurd H (by simp)
      ·rw [if_neg c15] at H; have c15b0 : decide (x6_2 < (l1_0.length : Int)) = false := dF' c15; clear c15; obtain rfl := Option.some.inj H; have hnb25 := NB1_0.out; have hnc25 := NB0_1.out; have hcz26_0 : wr.cell? ⟨gp1, 0, none⟩ = some (.slice A1_0 l1_0.length c1_0) := (N' BK1.out 0).trans rfl; have hcz26_1 : wr.cell? ⟨gp1, 1, none⟩ = some (.int .i64 a1_1) := (N' BK1.out 1).trans rfl; have hfz26_0 := Y' BK1.out 0; have hfz26_1 := Y' BK1.out 1; go_wp2
       repeat (go_quiet (fail); try go_wp2)
       go_ret; exact ⟨qE, qK0 HB.out⟩

end Go.Proofs.Ytacijlpnpkhjaaa.HBal
