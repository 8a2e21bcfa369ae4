-- Written by a program for this claim (the functions that the statement reaches, and that the program's code comes to them).
import Derived.Test.YtebbdadpgapobaaHElx0
import Derived.Test.YtebbdadpgapobaaHElx2
import Derived.Test.YtebbdadpgapobaaHElx3
import Derived.Test.YtebbdadpgapobaaHElx4
import Derived.Test.YtebbdadpgapobaaHElx8
import Derived.Test.YtebbdadpgapobaaHElx9
namespace Go.Proofs.Ytebbdadpgapobaa.HEl
open Go.RowKit Go.Proofs.YtebbdadpgapobaaW.PrintWords Go.Proofs.YtebbdadpgapobaaW.PrintLast Go.Proofs.YtebbdadpgapobaaW.PrintMore
attribute [local go_sem] max2_int min2_int max_two min_two max_three min_three max_four min_four   -- for this text's walks alone
set_option linter.unusedVariables false
set_option linter.unusedSimpArgs false

/-! ### spec_l09Bars: function 49 -/
def spec_l09Bars.f (k : Nat) (l0_0 : List (S90)) (l0_1 : List (S104)) (l1 : List Int) : Option (Int) := (spec_l09Ok.f k l0_0 l0_1).bind fun t123 => (if t123 = true then ((spec_l09Some.f k l0_0 l0_1 l1).bind fun t124 => (if t124 = true then (some 0) else (some 2))) else (some 1))
theorem spec_l09Bars.mono : ∀ a0 a1 a2 k, LeO (spec_l09Bars.f k a0 a1 a2) (spec_l09Bars.f (k + 1) a0 a1 a2) := by
 intro a0 a1 a2 k
 unfold spec_l09Bars.f
 repeat' first
   | (with_reducible exact spec_l09Ok.mono _ _ _)
   | (with_reducible exact spec_l09Some.mono _ _ _ _)
   | (with_reducible exact LeO.refl _)
   | (with_reducible exact LeO.none _)
   | (with_reducible refine LeO.ite ?_ ?_)
   | (with_reducible refine LeO.bind ?_ (fun _ => ?_))
   | exact spec_l09Ok.mono _ _ _
   | exact spec_l09Some.mono _ _ _ _
   | exact LeO.none _
   | refine LeO.ite ?_ ?_
   | refine LeO.bind ?_ (fun _ => ?_)
set_option maxHeartbeats 8000000 in
set_option maxRecDepth 100000 in
theorem spec_l09Bars.calls (k : Nat) (gp0 : Nat) (A0_0 : Option Addr) (c0_0 : Nat) (l0_0 : List (S90)) (A0_1 : Option Addr) (c0_1 : Nat) (l0_1 : List (S104)) (A1 : Option Addr) (c1 : Nat) (l1 : List Int) (r : Int) (w : World) (hb0 : w.heap[gp0]? = some (.cells #[.slice A0_0 l0_0.length c0_0, .slice A0_1 l0_1.length c0_1] 33 (0, 0))) (hr0_0 : Kd.C k90 w A0_0 l0_0.length l0_0) (hc0_0 : l0_0.length ≤ c0_0) (hr0_1 : Kd.C k104 w A0_1 l0_1.length l0_1) (hc0_1 : l0_1.length ≤ c0_1) (hr1 : Kd.C (Kd.int .i64) w A1 l1.length l1) (hc1 : l1.length ≤ c1) (h : spec_l09Bars.f k l0_0 l0_1 l1 = some r) :
  Calls Try.prog 49 #[.pointer (some ⟨gp0, 0, none⟩), .slice A1 l1.length c1] w fun e w' => e = .returned (.int .i64 r) ∧ Below w.heap.size w w' := by
 have HR0_0 := A' hr0_0; have HC0_0 := A' hc0_0; clear hr0_0 hc0_0; have HR0_1 := A' hr0_1; have HC0_1 := A' hc0_1; clear hr0_1 hc0_1; have HR1 := A' hr1; have HC1 := A' hc1; clear hr1 hc1; have BK0 := A' hb0; clear hb0; have HB := A' (Below.refl w.heap.size w); have H : ((spec_l09Ok.f k l0_0 l0_1).bind fun t123 => (if t123 = true then ((spec_l09Some.f k l0_0 l0_1 l1).bind fun t124 => (if t124 = true then (some 0) else (some 2))) else (some 1))) = some r := h; clear h; replace H := Option.bind_eq_some_iff.mp H; obtain ⟨t123, A30, H⟩ := H; replace H : (if t123 = true then ((spec_l09Some.f k l0_0 l0_1 l1).bind fun t124 => (if t124 = true then (some 0) else (some 2))) else (some 1)) = some r := H; have A3 := A' A30; clear A30
 by_cases c4 : t123 = true
 ·subst c4; have H1 : ((spec_l09Some.f k l0_0 l0_1 l1).bind fun t124 => (if t124 = true then (some 0) else (some 2))) = some r := by rw [if_pos rfl] at H; exact H
  clear H; have H := H1; clear H1; replace H := Option.bind_eq_some_iff.mp H; obtain ⟨t124, A50, H⟩ := H; replace H : (if t124 = true then (some 0) else (some 2)) = some r := H; have A5 := A' A50; clear A50
  by_cases c6 : t124 = true
  ·subst c6; have H1 : (some 0) = some r := by rw [if_pos rfl] at H; exact H
   clear H; have H := H1; clear H1; obtain rfl := Option.some.inj H; go_enter Try.func49, Try.ntmps49; go_wp2_with (first | ((with_reducible refine gate_callee (f := 59) rfl ?_); refine goesL_ (some 6) rfl rfl Try.func59 (by kernel_rfl) rfl #[.pointer (some ⟨gp0, 0, none⟩)] rfl (by (try simp only [List.map_toArray, List.map_cons, List.map_nil]); first | done | rfl | (simp only [List.length_drop, List.length_take]; rfl)) ?_; (with_reducible refine (spec_l09Ok.calls k gp0 A0_0 c0_0 l0_0 A0_1 c0_1 l0_1 true _ ?side5 ?side1 ?side2 ?side3 ?side4 A3.out).mono ?_); (case side1 => exact qT HR0_0.out); (case side2 => exact HC0_0.out); (case side3 => exact qT HR0_1.out); (case side4 => exact HC0_1.out); (case side5 => (with_reducible repeat (first | refine G' ?_ _ | refine I' ?_ | refine hA' ?_ _)); exact BK0.out); rintro e w7 ⟨rfl, hb⟩; refine ⟨_, rfl, ?_⟩; have n0_ := A' (O' (g := gp0) (qB BK0.out) hb); have n1_ := A' (W' (qK0 HB.out) hb); clear BK0; clear HB; have BK0 := n0_; have HB := n1_; clear n0_ n1_; (try clear hb); (try clear hb2); (try clear hk); (try clear hi)) | ((with_reducible refine gate_callee (f := 61) rfl ?_); refine goesL_ (some 10) rfl rfl Try.func61 (by kernel_rfl) rfl #[.pointer (some ⟨gp0, 0, none⟩), .slice A1 l1.length c1] rfl (by (try simp only [List.map_toArray, List.map_cons, List.map_nil]); first | done | rfl | (simp only [List.length_drop, List.length_take]; rfl)) ?_; (with_reducible refine (spec_l09Some.calls k gp0 A0_0 c0_0 l0_0 A0_1 c0_1 l0_1 _ _ l1 true _ ?side7 ?side1 ?side2 ?side3 ?side4 ?side5 ?side6 A5.out).mono ?_); (case side1 => exact qT (X' HR0_0.out HB.out)); (case side2 => exact HC0_0.out); (case side3 => exact qT (X' HR0_1.out HB.out)); (case side4 => exact HC0_1.out); (case side5 => exact qT (X' HR1.out HB.out)); (case side6 => exact HC1.out); (case side7 => (with_reducible repeat (first | refine G' ?_ _ | refine I' ?_ | refine hA' ?_ _)); exact BK0.out); rintro e w8 ⟨rfl, hb⟩; refine ⟨_, rfl, ?_⟩; have n0_ := A' (O' (g := gp0) (qB BK0.out) hb); have n1_ := A' (W' (qK0 HB.out) hb); clear BK0; clear HB; have BK0 := n0_; have HB := n1_; clear n0_ n1_; (try clear hb); (try clear hb2); (try clear hk); (try clear hi))); go_ret; exact ⟨qE, qK0 HB.out⟩
  ·replace c6 := Bool.eq_false_iff.mpr c6; subst c6; have H1 : (some 2) = some r := by rw [if_neg (show ¬ (false = true) by decide)] at H; exact H
   clear H; have H := H1; clear H1; obtain rfl := Option.some.inj H; go_enter Try.func49, Try.ntmps49; go_wp2_with (first | ((with_reducible refine gate_callee (f := 59) rfl ?_); refine goesL_ (some 6) rfl rfl Try.func59 (by kernel_rfl) rfl #[.pointer (some ⟨gp0, 0, none⟩)] rfl (by (try simp only [List.map_toArray, List.map_cons, List.map_nil]); first | done | rfl | (simp only [List.length_drop, List.length_take]; rfl)) ?_; (with_reducible refine (spec_l09Ok.calls k gp0 A0_0 c0_0 l0_0 A0_1 c0_1 l0_1 true _ ?side5 ?side1 ?side2 ?side3 ?side4 A3.out).mono ?_); (case side1 => exact qT HR0_0.out); (case side2 => exact HC0_0.out); (case side3 => exact qT HR0_1.out); (case side4 => exact HC0_1.out); (case side5 => (with_reducible repeat (first | refine G' ?_ _ | refine I' ?_ | refine hA' ?_ _)); exact BK0.out); rintro e w9 ⟨rfl, hb⟩; refine ⟨_, rfl, ?_⟩; have n0_ := A' (O' (g := gp0) (qB BK0.out) hb); have n1_ := A' (W' (qK0 HB.out) hb); clear BK0; clear HB; have BK0 := n0_; have HB := n1_; clear n0_ n1_; (try clear hb); (try clear hb2); (try clear hk); (try clear hi)) | ((with_reducible refine gate_callee (f := 61) rfl ?_); refine goesL_ (some 10) rfl rfl Try.func61 (by kernel_rfl) rfl #[.pointer (some ⟨gp0, 0, none⟩), .slice A1 l1.length c1] rfl (by (try simp only [List.map_toArray, List.map_cons, List.map_nil]); first | done | rfl | (simp only [List.length_drop, List.length_take]; rfl)) ?_; (with_reducible refine (spec_l09Some.calls k gp0 A0_0 c0_0 l0_0 A0_1 c0_1 l0_1 _ _ l1 false _ ?side7 ?side1 ?side2 ?side3 ?side4 ?side5 ?side6 A5.out).mono ?_); (case side1 => exact qT (X' HR0_0.out HB.out)); (case side2 => exact HC0_0.out); (case side3 => exact qT (X' HR0_1.out HB.out)); (case side4 => exact HC0_1.out); (case side5 => exact qT (X' HR1.out HB.out)); (case side6 => exact HC1.out); (case side7 => (with_reducible repeat (first | refine G' ?_ _ | refine I' ?_ | refine hA' ?_ _)); exact BK0.out); rintro e w10 ⟨rfl, hb⟩; refine ⟨_, rfl, ?_⟩; have n0_ := A' (O' (g := gp0) (qB BK0.out) hb); have n1_ := A' (W' (qK0 HB.out) hb); clear BK0; clear HB; have BK0 := n0_; have HB := n1_; clear n0_ n1_; (try clear hb); (try clear hb2); (try clear hk); (try clear hi))); go_ret; exact ⟨qE, qK0 HB.out⟩
 ·replace c4 := Bool.eq_false_iff.mpr c4; subst c4; have H1 : (some 1) = some r := by rw [if_neg (show ¬ (false = true) by decide)] at H; exact H
  clear H; have H := H1; clear H1; obtain rfl := Option.some.inj H; go_enter Try.func49, Try.ntmps49; go_wp2_with (first | ((with_reducible refine gate_callee (f := 59) rfl ?_); refine goesL_ (some 6) rfl rfl Try.func59 (by kernel_rfl) rfl #[.pointer (some ⟨gp0, 0, none⟩)] rfl (by (try simp only [List.map_toArray, List.map_cons, List.map_nil]); first | done | rfl | (simp only [List.length_drop, List.length_take]; rfl)) ?_; (with_reducible refine (spec_l09Ok.calls k gp0 A0_0 c0_0 l0_0 A0_1 c0_1 l0_1 false _ ?side5 ?side1 ?side2 ?side3 ?side4 A3.out).mono ?_); (case side1 => exact qT HR0_0.out); (case side2 => exact HC0_0.out); (case side3 => exact qT HR0_1.out); (case side4 => exact HC0_1.out); (case side5 => (with_reducible repeat (first | refine G' ?_ _ | refine I' ?_ | refine hA' ?_ _)); exact BK0.out); rintro e w11 ⟨rfl, hb⟩; refine ⟨_, rfl, ?_⟩; have n0_ := A' (O' (g := gp0) (qB BK0.out) hb); have n1_ := A' (W' (qK0 HB.out) hb); clear BK0; clear HB; have BK0 := n0_; have HB := n1_; clear n0_ n1_; (try clear hb); (try clear hb2); (try clear hk); (try clear hi))); go_ret; exact ⟨qE, qK0 HB.out⟩

/-! ### spec_l09Rank: function 50 (by hand) -/
open Go.Proofs.Ytebbdadpgapobaa.Elim in
def spec_l09Rank.f (ks : List S90) (bs : List S104) (bars : List Int) : Option Int :=
  if TOk ks bs (List.replicate ks.length ⟨0, 0⟩) bars then some ((El (2 * (frI ks).length) (tblM ks bs (List.replicate ks.length ⟨0, 0⟩) bars) bars.length).t : Int) else none
theorem infoPull : (Try.prog.info? 76).map (fun i => (i.zero, i.size, i.bytes)) = some (some (.agg #[.int .i64 0, .int .i64 0]), 2, 16) := by kernel_rfl
section
open Go.Proofs.Ytebbdadpgapobaa.Red Go.Proofs.Ytebbdadpgapobaa.Elim
set_option maxHeartbeats 1000000 in
set_option maxRecDepth 100000 in
theorem spec_l09Rank.calls (gp0 : Nat) (A0_0 : Option Addr) (c0_0 : Nat) (l0_0 : List S90) (A0_1 : Option Addr) (c0_1 : Nat) (l0_1 : List S104) (A1 : Option Addr) (c1 : Nat) (l1 : List Int) (r : Int) (w : World)
    (hb0 : w.heap[gp0]? = some (.cells #[.slice A0_0 l0_0.length c0_0, .slice A0_1 l0_1.length c0_1] 33 (0, 0))) (hr0_0 : Kd.C k90 w A0_0 l0_0.length l0_0) (hc0_0 : l0_0.length ≤ c0_0) (hr0_1 : Kd.C k104 w A0_1 l0_1.length l0_1) (hc0_1 : l0_1.length ≤ c0_1) (hr1 : Kd.C (Kd.int .i64) w A1 l1.length l1) (hc1 : l1.length ≤ c1) (h : spec_l09Rank.f l0_0 l0_1 l1 = some r) :
    Calls Try.prog 50 #[.pointer (some ⟨gp0, 0, none⟩), .slice A1 l1.length c1] w fun e w' => e = .returned (.int .i64 r) ∧ Below w.heap.size w w' := by
  unfold spec_l09Rank.f at h
  by_cases hk : TOk l0_0 l0_1 (List.replicate l0_0.length ⟨0, 0⟩) l1
  · rw [if_pos hk] at h
    obtain rfl := Option.some.inj h
    obtain ⟨ld, hld⟩ : ∃ ld : List S76, ld = List.replicate l0_0.length ⟨0, 0⟩ := ⟨_, rfl⟩
    rw [← hld] at hk ⊢
    have HLD := Aside0.mk hld
    clear hld
    have HK := Aside0.mk (And.intro hk (tblM_fit hk))
    have HR := Aside0.mk (And.intro hb0 (And.intro hr0_0 (And.intro hr0_1 hr1)))
    have q0 := blk_cell hb0 0
    simp only [List.getElem?_toArray, List.getElem?_cons_zero] at q0
    have p0 : ((l0_0.length : Int) ≤ 17592186044416) = True := eq_true (by have := hk.k8; omega)
    clear hk h hb0 hr0_0 hr0_1 hr1 hc0_0 hc0_1 hc1
    go_enter Try.func50, Try.ntmps50
    go_wp2_with (first
      | ((with_reducible refine gate_dst (N := 14) rfl ?_); refine Kd.R_make k76 _ 76 rfl (N := 14) rfl 47 _ _ rfl (l0_0.length : Int) rfl rfl Try.underlying47 (.agg #[.int .i64 0, .int .i64 0]) 16 infoPull rfl (by decide) (by decide) ⟨0, 0⟩ (ok := fun _ => True) (okp := fun _ => True) (k76_mkM _ _ _ ⟨0, 0⟩) (fun _ hk => hk) trivial (by omega) (by have := HK.out.1.k8; omega) (Below.refl _ _) (Nat.le_refl _) ?_; intro v14 w1 ho hb hg_ hnew_; clear hg_ hnew_; rw [Int.toNat_natCast, ← HLD.out] at ho; have HO := Aside0.mk ho; have HB1 := Aside0.mk hb; clear ho hb; obtain ⟨A14, c14, hv14⟩ := Kd.R_slice HO.out; subst hv14)
      | (go_at_call 89; refine (table_calls gp0 A0_0 c0_0 l0_0 A0_1 c0_1 l0_1 A14 c14 ld A1 c1 l1 w1 HK.out.1 (blk_below HR.out.1 HB1.out) (Kd.C_below HR.out.2.1 HB1.out) (Kd.C_below HR.out.2.2.1 HB1.out) (Kd.R_reads' HO.out).2.2 (Kd.C_below HR.out.2.2.2 HB1.out)).mono ?_; rintro e w2 ⟨gm, g, cap, A, b, cc, rfl, hgm, hA, hTB, hb⟩; have HT := Aside0.mk (And.intro hgm (And.intro hA (And.intro hTB hb))); clear hgm hA hTB hb)
      | (go_at_call 90; refine (reduce_calls (w0 := w1) HK.out.2 HK.out.1.b8 rfl HT.out.2.1 HT.out.2.2.1 HT.out.1 HT.out.2.2.2).mono ?_; rintro e w3 ⟨v3, pv, rfl, hpv, hl, _, _, hb⟩; obtain ⟨A3, c3, hv3⟩ := Kd.R_slice hpv; rw [hl] at hv3; subst hv3; have HP := Aside0.mk hb; clear hpv hl hb))
    go_ret
    exact ⟨rfl, below_step HB1.out HP.out⟩
  · rw [if_neg hk] at h; cases h
end

/-! ### impl_rankOf: function 55 (by hand) -/
open Go.Proofs.Ytebbdadpgapobaa.Elim in
def impl_rankOf.f (ks : List S90) (bs : List S104) (bars : List Int) : Option Int :=
  if TOk ks bs (List.replicate ks.length ⟨0, 0⟩) bars then some ((El (2 * (frI ks).length) (tblM ks bs (List.replicate ks.length ⟨0, 0⟩) bars) bars.length).t : Int) else none
section
open Go.Proofs.Ytebbdadpgapobaa.Red Go.Proofs.Ytebbdadpgapobaa.Elim Go.Proofs.Ytebbdadpgapobaa.Fra
theorem infoPull2 : (Try.prog.info? 76).map (fun i => (i.zero, i.size, i.bytes)) = some (some (.agg #[.int .i64 0, .int .i64 0]), 2, 16) := by kernel_rfl
theorem cnt_le (f : Nat → Int) : ∀ c, cntLd f c ≤ c
  | 0 => Nat.le_refl _
  | c + 1 => by rw [cntLd]; have := cnt_le f c; split <;> omega
set_option maxHeartbeats 1000000 in
set_option maxRecDepth 100000 in
theorem impl_rankOf.calls (A0_0 : Option Addr) (c0_0 : Nat) (l0_0 : List S90) (A0_1 : Option Addr) (c0_1 : Nat) (l0_1 : List S104) (A1 : Option Addr) (c1 : Nat) (l1 : List Int) (r : Int) (w : World)
    (hr0_0 : Kd.C k90 w A0_0 l0_0.length l0_0) (hc0_0 : l0_0.length ≤ c0_0) (hr0_1 : Kd.C k104 w A0_1 l0_1.length l0_1) (hc0_1 : l0_1.length ≤ c0_1) (hr1 : Kd.C (Kd.int .i64) w A1 l1.length l1) (hc1 : l1.length ≤ c1) (h : impl_rankOf.f l0_0 l0_1 l1 = some r) :
    Calls Try.prog 55 #[.agg #[.slice A0_0 l0_0.length c0_0, .slice A0_1 l0_1.length c0_1], .slice A1 l1.length c1] w fun e w' => e = .returned (.int .i64 r) ∧ Below w.heap.size w w' := by
  unfold impl_rankOf.f at h
  by_cases hk : TOk l0_0 l0_1 (List.replicate l0_0.length ⟨0, 0⟩) l1
  · rw [if_pos hk] at h
    obtain rfl := Option.some.inj h
    obtain ⟨ld, hld⟩ : ∃ ld : List S76, ld = List.replicate l0_0.length ⟨0, 0⟩ := ⟨_, rfl⟩
    rw [← hld] at hk ⊢
    have HLD := Aside0.mk hld
    obtain ⟨m, hm⟩ : ∃ m, m = l1.length := ⟨_, rfl⟩
    obtain ⟨nk, hnk⟩ : ∃ m, m = l0_0.length := ⟨_, rfl⟩
    obtain ⟨nb, hnb⟩ : ∃ m, m = l0_1.length := ⟨_, rfl⟩
    obtain ⟨s, hs⟩ : ∃ s, s = El (2 * (frI l0_0).length) (tblM l0_0 l0_1 ld l1) l1.length := ⟨_, rfl⟩
    have HK := Aside0.mk (And.intro hk (And.intro (tblM_fit hk) (And.intro hm (And.intro hs (And.intro hnk hnb)))))
    have hct : cntLd s.ld m = s.t := by rw [hs, hm]; exact El_cnt _ _ _
    have hcl := cnt_le s.ld m
    rw [← hs]
    have HCT := Aside0.mk (And.intro hct hcl)
    have HR := Aside0.mk (And.intro hr0_0 (And.intro hc0_0 (And.intro hr0_1 (And.intro hc0_1 hr1))))
    rw [← hm, ← hnk, ← hnb]
    have p0 : ((nk : Int) ≤ 17592186044416) = True := eq_true (by have := hk.k8; omega)
    clear hk h hr0_0 hr0_1 hr1 hc0_0 hc0_1 hc1 hld hs hct hcl hm hnk hnb
    go_enter Try.func55, Try.ntmps55
    go_upto_region 2 with (fail)
    obtain ⟨gp, hgp⟩ : ∃ g, g = w.heap.size := ⟨_, rfl⟩
    obtain ⟨w1, hw1⟩ : ∃ w1, w1 = w.alloc (.cells #[.slice A0_0 nk c0_0, .slice A0_1 nb c0_1] 33) := ⟨_, rfl⟩
    rw [← hgp, ← hw1]
    have HG := Aside0.mk (show w1.heap[gp]? = some (.cells #[.slice A0_0 nk c0_0, .slice A0_1 nb c0_1] 33 (0, 0)) ∧ Below w.heap.size w w1 from ⟨by rw [hw1, hgp]; exact alloc_at _ _, by rw [hw1]; exact below_alloc (Below.refl _ _) _⟩)
    clear hgp hw1
    have SS := Aside0.mk (show ∀ w', Below w1.heap.size w1 w' → (w'.cell? ⟨gp, 0, none⟩ = some (.slice A0_0 nk c0_0) ∧ w'.cell? ⟨gp, 1, none⟩ = some (.slice A0_1 nb c0_1)) from fun w' h => ⟨(blk_cell (blk_below HG.out.1 h) 0).trans rfl, (blk_cell (blk_below HG.out.1 h) 1).trans rfl⟩)
    refine start_ (n := 12) (S := fun w' => w'.cell? ⟨gp, 0, none⟩ = some (.slice A0_0 nk c0_0) ∧ w'.cell? ⟨gp, 1, none⟩ = some (.slice A0_1 nb c0_1)) (ds := []) #[false, false, false, false, false, false, false, false, false, false, false, false] (by kernel_rfl) rfl rfl (SS.out _ (below_drew (Below.refl _ _))) (fun hHeld => ?_)
    refine take_ (i := 0) (N := some 8) (v := ?_) (a' := ?_) #[true, false, false, false, false, false, false, false, false, false, false, false] rfl rfl (by kernel_rfl) (fun _ _ _ h => h) (Or.inl ⟨by rfl, ?_⟩) hHeld ?_ ?_
    rotate_left
    · rintro w' ⟨s0, s1⟩
      go_simp
      with_reducible rfl
    rotate_left
    · simp only [Act.put, List.setIfInBounds_toArray, List.set_cons_zero, List.set_cons_succ, i64_w, i32_w]
      rfl
    refine pure_ (i := 1) (N := some 9) (v := ?_) (a' := ?_) #[true, true, false, false, false, false, false, false, false, false, false, false] rfl rfl (by kernel_rfl) (fun _ _ _ h => h) (Or.inl ⟨by rfl, ?_⟩) ?_ ?_
    rotate_left
    · intro w'
      go_simp
      with_reducible rfl
    rotate_left
    · simp only [Act.put, List.setIfInBounds_toArray, List.set_cons_zero, List.set_cons_succ, i64_w, i32_w]
      rfl
    refine take_ (i := 2) (N := some 10) (v := ?_) (a' := ?_) #[true, true, true, false, false, false, false, false, false, false, false, false] rfl rfl (by kernel_rfl) (fun _ _ _ h => h) (Or.inl ⟨by rfl, ?_⟩) hHeld ?_ ?_
    rotate_left
    · rintro w' ⟨s0, s1⟩
      go_simp
      with_reducible rfl
    rotate_left
    · simp only [Act.put, List.setIfInBounds_toArray, List.set_cons_zero, List.set_cons_succ, i64_w, i32_w]
      rfl
    refine pure_ (i := 3) (N := some 11) (v := ?_) (a' := ?_) #[true, true, true, true, false, false, false, false, false, false, false, false] rfl rfl (by kernel_rfl) (fun _ _ _ h => h) (Or.inl ⟨by rfl, ?_⟩) ?_ ?_
    rotate_left
    · intro w'
      go_simp
      with_reducible rfl
    rotate_left
    · simp only [Act.put, List.setIfInBounds_toArray, List.set_cons_zero, List.set_cons_succ, i64_w, i32_w]
      rfl
    refine pure_ (i := 5) (N := some 13) (v := ?_) (a' := ?_) #[true, true, true, true, false, true, false, false, false, false, false, false] rfl rfl (by kernel_rfl) (fun _ _ _ h => h) (Or.inl ⟨by rfl, ?_⟩) ?_ ?_
    rotate_left
    · intro w'
      go_simp
      with_reducible rfl
    rotate_left
    · simp only [Act.put, List.setIfInBounds_toArray, List.set_cons_zero, List.set_cons_succ, i64_w, i32_w]
      rfl
    refine pure_ (i := 7) (N := some 15) (v := ?_) (a' := ?_) #[true, true, true, true, false, true, false, true, false, false, false, false] rfl rfl (by kernel_rfl) (fun _ _ _ h => h) (Or.inl ⟨by rfl, ?_⟩) ?_ ?_
    rotate_left
    · intro w'
      go_simp
      with_reducible rfl
    rotate_left
    · simp only [Act.put, List.setIfInBounds_toArray, List.set_cons_zero, List.set_cons_succ, i64_w, i32_w]
      rfl
    refine pure_ (i := 8) (N := some 16) (v := ?_) (a' := ?_) #[true, true, true, true, false, true, false, true, true, false, false, false] rfl rfl (by kernel_rfl) (fun _ _ _ h => h) (Or.inl ⟨by rfl, ?_⟩) ?_ ?_
    rotate_left
    · intro w'
      go_simp
      with_reducible rfl
    rotate_left
    · simp only [Act.put, List.setIfInBounds_toArray, List.set_cons_zero, List.set_cons_succ, i64_w, i32_w]
      rfl
    refine pure_ (i := 11) (N := some 19) (v := ?_) (a' := ?_) #[true, true, true, true, false, true, false, true, true, false, false, true] rfl rfl (by kernel_rfl) (fun _ _ _ h => h) (Or.inl ⟨by rfl, ?_⟩) ?_ ?_
    rotate_left
    · intro w'
      go_simp
      with_reducible rfl
    rotate_left
    · simp only [Act.put, List.setIfInBounds_toArray, List.set_cons_zero, List.set_cons_succ, i64_w, i32_w]
      rfl
    refine one_ (i := 4) (N := some 12) #[true, true, true, true, true, true, false, true, true, false, false, true] rfl rfl (by kernel_rfl) (by decide) (fun K hK => ?_)
    refine Kd.R_make_step k76 _ 76 (by rfl) (N := 12) rfl 47 (.tmp 11) (.tmp 11) rfl (nk : Int) (by first | rfl | (go_simp; done)) (by first | rfl | (go_simp; done)) Try.underlying47 (.agg #[.int .i64 0, .int .i64 0]) 16 infoPull2 rfl (by decide) (by decide) ⟨0, 0⟩ (ok := fun _ => True) (okp := fun _ => True) (k76_mkM _ _ _ ⟨0, 0⟩) (fun _ hk => hk) trivial (by omega) (by have := HK.out.1.k8; have := HK.out.2.2.2.2.1; omega) (below_drew (Below.refl _ _)) (Nat.le_refl _) ?_
    intro v12 w2 ho hb hg_ hnew_
    clear hg_ hnew_
    rw [Int.toNat_natCast, HK.out.2.2.2.2.1, ← HLD.out] at ho
    obtain ⟨A12, c12, hv12⟩ := Kd.R_slice ho
    have hll := HK.out.1.ll
    rw [hll, ← HK.out.2.2.2.2.1] at hv12
    subst hv12
    have HO := Aside0.mk (And.intro ho hb)
    clear ho hb hll
    refine hK.out _ _ (SS.out _ HO.out.2) (fun hHeld => ?_)
    clear hK K
    refine norm_ (a' := ?_) ?_ ?_
    rotate_left
    · show Act.put _ (some 12) _ = _
      simp only [Act.put, List.setIfInBounds_toArray, List.set_cons_zero, List.set_cons_succ, i64_w, i32_w]
      rfl
    have HBR := Aside0.mk (show Calls Try.prog 94 #[.agg #[.slice A0_0 nk c0_0, .slice A0_1 nb c0_1], .slice A12 nk c12, .slice A1 m c1] w2 (BarPost w2 l0_0 l0_1 ld l1) from by
      have B := below_step HG.out.2 HO.out.2
      have h := bar_calls A0_0 c0_0 l0_0 A0_1 c0_1 l0_1 A12 c12 ld A1 c1 l1 w2 HK.out.1 (Kd.C_below HR.out.1 B) HR.out.2.1 (Kd.C_below HR.out.2.2.1 B) HR.out.2.2.2.1 (Kd.R_reads' HO.out.1).2.2 (Kd.C_below HR.out.2.2.2.2 B)
      rw [HK.out.1.ll, ← HK.out.2.2.1, ← HK.out.2.2.2.2.1, ← HK.out.2.2.2.2.2] at h
      exact h)
    refine one_ (i := 6) (N := some 14) #[true, true, true, true, true, true, true, true, true, false, false, true] rfl rfl (by kernel_rfl) (by decide) (fun K hK => ?_)
    refine goes_ Try.func94 (by kernel_rfl) rfl #[.agg #[.slice A0_0 nk c0_0, .slice A0_1 nb c0_1], .slice A12 nk c12, .slice A1 m c1] (by rfl) rfl rfl (by (try simp only [List.map_toArray, List.map_cons, List.map_nil]); first | done | rfl) ?_
    refine (HBR.out).mono ?_
    rintro e w3 ⟨g, cap, A, b, cc, rfl, hA, hTB, hb, _⟩
    refine ⟨_, rfl, ?_⟩
    have HT := Aside0.mk (And.intro hA (And.intro hTB hb))
    clear hA hTB
    refine hK.out _ _ (SS.out _ (below_step HO.out.2 hb)) (fun hHeld => ?_)
    clear hK K hb
    refine norm_ (a' := ?_) ?_ ?_
    rotate_left
    · show Act.put _ (some 14) _ = _
      simp only [Act.put, List.setIfInBounds_toArray, List.set_cons_zero, List.set_cons_succ, i64_w, i32_w]
      rfl
    have HRD := Aside0.mk (show Calls Try.prog 93 #[.slice A (2 * (frI l0_0).length) cap, .int .i64 (m : Int)] w3 (RedIPost w2 g (2 * (frI l0_0).length) m (tblM l0_0 l0_1 ld l1)) from by
      have hF := HK.out.2.1
      have hT := HT.out.2.1
      rw [← HK.out.2.2.1] at hF hT
      exact redi_calls hF (by rw [HK.out.2.2.1]; exact HK.out.1.b8) HT.out.1 hT HT.out.2.2)
    refine one_ (i := 9) (N := some 17) #[true, true, true, true, true, true, true, true, true, true, false, true] rfl rfl (by kernel_rfl) (by decide) (fun K hK => ?_)
    refine goes_ Try.func93 (by kernel_rfl) rfl #[.slice A (2 * (frI l0_0).length) cap, .int .i64 (m : Int)] (by rfl) rfl rfl (by (try simp only [List.map_toArray, List.map_cons, List.map_nil]); first | done | rfl) ?_
    refine (HRD.out).mono ?_
    rintro e w4 ⟨v17, rfl, hR, _, hb⟩
    refine ⟨_, rfl, ?_⟩
    obtain ⟨A17, c17, hv17⟩ := Kd.R_slice hR
    rw [List.length_map, List.length_range] at hv17
    subst hv17
    have HE := Aside0.mk (And.intro hR hb)
    clear hR
    refine hK.out _ _ (SS.out _ (below_step HO.out.2 hb)) (fun hHeld => ?_)
    clear hK K hb
    refine norm_ (a' := ?_) ?_ ?_
    rotate_left
    · show Act.put _ (some 17) _ = _
      simp only [Act.put, List.setIfInBounds_toArray, List.set_cons_zero, List.set_cons_succ, i64_w, i32_w]
      rfl
    refine pure_ (i := 10) (N := some 18) (v := ?_) (a' := ?_) #[true, true, true, true, true, true, true, true, true, true, true, true] rfl rfl (by kernel_rfl) (fun _ _ _ h => h) (Or.inl ⟨by rfl, ?_⟩) ?_ ?_
    rotate_left
    · intro w'
      go_simp
      with_reducible rfl
    rotate_left
    · simp only [Act.put, List.setIfInBounds_toArray, List.set_cons_zero, List.set_cons_succ, i64_w, i32_w]
      rfl
    refine done_ (by kernel_rfl) ?_
    have HR4 := Aside0.mk (show (Kd.int .i64).R 3 w4 w2.heap.size (fun _ => True) (.slice A17 m c17) ((List.range m).map s.ld) ∧ Below w.heap.size w w4 from by
      have h := HE.out.1
      rw [HK.out.2.2.1, ← HK.out.2.2.2.1, ← HK.out.2.2.1] at h
      exact ⟨h, below_step HG.out.2 (below_step HO.out.2 HE.out.2)⟩)
    clear HE HRD HT HBR hHeld SS
    go_wp2_with (fail)
    go_loopg [5, 19] (m + 1) (fun kq v5 v19 w' => ∃ (j : Nat) (jj rk : Int), v5 = .int .i64 rk ∧ v19 = .int .i64 jj ∧ Aside0 (jj = (j : Int) ∧ j + kq = m + 1 ∧ 1 ≤ kq ∧ rk = (cntLd s.ld j : Int)) ∧ Aside0 (Below w4.heap.size w4 w'))
    case atStart => exact ⟨0, 0, 0, rfl, rfl, ⟨rfl, by omega, by omega, rfl⟩, ⟨Below.refl _ _⟩⟩
    case round =>
      obtain ⟨j, jj, rk, rfl, rfl, HJ, HB⟩ := hrel
      obtain ⟨gq, rfl⟩ : ∃ k, gk = k + 1 := ⟨gk - 1, by have := HJ.out; omega⟩
      by_cases c2 : j < m
      · have d1 : decide (jj < (m : Int)) = true := decide_eq_true (by have := HJ.out; omega)
        obtain ⟨ad, had, h0⟩ := Kd.at_int (Kd.C_below (Kd.R_reads' HR4.out.1).2.2 HB.out) jj (by have := HJ.out; omega) (by have := HJ.out; simp; omega)
        subst had
        obtain ⟨lv, hlv⟩ : ∃ z, z = s.ld j := ⟨_, rfl⟩
        have hrd : rd ((List.range m).map s.ld) jj = lv := by
          rw [HJ.out.1, hlv]
          unfold rd
          rw [Int.toNat_natCast, List.getD_eq_getElem?_getD, List.getElem?_map, List.getElem?_range (by omega)]; rfl
        rw [hrd] at h0
        have HLV := Aside0.mk (And.intro hlv c2)
        have p1 : (0 ≤ jj) = True := eq_true (by have := HJ.out; omega)
        have p2 : (jj < (m : Int)) = True := eq_true (by have := HJ.out; omega)
        have hm8 : m ≤ 8 := by rw [HK.out.2.2.1]; exact HK.out.1.b8
        have HM8 := Aside0.mk hm8
        have hcj := cnt_le s.ld j
        have HCJ := Aside0.mk hcj
        clear hrd hlv hm8 hcj
        by_cases c3 : 0 ≤ lv
        · have d2 : decide (lv ≥ 0) = true := decide_eq_true c3
          have d3 : decide (0 ≤ lv) = true := decide_eq_true c3
          have C3 := Aside0.mk c3
          clear c2 c3
          go_wp2_with (fail)
          go_roundg gq
          case measure => omega
          case rel =>
            have h1 := HJ.out; have h2 := HLV.out; have h3 := HM8.out; have h4 := HCJ.out
            have hw := wrap_id (jj + 1) (by omega) (by omega)
            have hw2 := wrap_id (rk + 1) (by omega) (by omega)
            exact ⟨j + 1, jj + 1, rk + 1, by rw [hw2], by rw [hw], ⟨by omega, by omega, by omega, by rw [cntLd, if_pos (by rw [← h2.1]; exact C3.out), h1.2.2.2]; simp⟩, HB⟩
        · have d2 : decide (lv ≥ 0) = false := decide_eq_false c3
          have d3 : decide (0 ≤ lv) = false := decide_eq_false c3
          have C3 := Aside0.mk c3
          clear c2 c3
          go_wp2_with (fail)
          go_roundg gq
          case measure => omega
          case rel =>
            have h1 := HJ.out; have h2 := HLV.out; have h3 := HM8.out
            have hw := wrap_id (jj + 1) (by omega) (by omega)
            exact ⟨j + 1, jj + 1, rk, rfl, by rw [hw], ⟨by omega, by omega, by omega, by rw [cntLd, if_neg (by rw [← h2.1]; have := C3.out; omega), h1.2.2.2, Nat.add_zero]⟩, HB⟩
      · have C2 := Aside0.mk (show j = m from by have := HJ.out; omega)
        have d1 : decide (jj < (m : Int)) = false := decide_eq_false (by have := HJ.out; have := C2.out; omega)
        clear c2
        go_wp2_with (fail)
        go_ret
        have h1 := HJ.out.2.2.2
        rw [C2.out, HCT.out.1] at h1
        exact ⟨by rw [h1]; rfl, below_step HR4.out.2 HB.out⟩
  · rw [if_neg hk] at h; cases h
end

end Go.Proofs.Ytebbdadpgapobaa.HEl
