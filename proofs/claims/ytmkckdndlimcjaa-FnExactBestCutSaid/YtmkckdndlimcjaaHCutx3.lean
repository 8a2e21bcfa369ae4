-- Written by a program for this claim (the functions that the statement reaches, and that the program's code comes to them).
import Derived.Test.YtmkckdndlimcjaaHCutx0
import Derived.Test.YtmkckdndlimcjaaHCutx1
namespace Go.Proofs.Ytmkckdndlimcjaa.HCut
open Go.RowKit Go.Proofs.YtmkckdndlimcjaaW.PrintWords Go.Proofs.YtmkckdndlimcjaaW.PrintLast Go.Proofs.YtmkckdndlimcjaaW.PrintMore
attribute [local go_sem] max2_int min2_int max_two min_two max_three min_three max_four min_four   -- for this text's walks alone
set_option linter.unusedVariables false
set_option linter.unusedSimpArgs false

/-! ### spec_BestCut: function 9 (by hand) -/
open Go.Proofs.Ytmkckdndlimcjaa.Cut
def spec_BestCut.f (k : Nat) (l0 l1 : List Int) : Option (List Int × Int × Int) :=
  (spec_l08Ok.f k l0 l1).bind fun b => if b = true then (if okCut l0 l1 then (if (wkG (lfS l0) l1 l0 [] ([], -1, 0)).2.1 < 0 then some ([], 0, 5) else some ((wkG (lfS l0) l1 l0 [] ([], -1, 0)).1, (wkG (lfS l0) l1 l0 [] ([], -1, 0)).2.1, 0)) else none) else some ([], 0, 1)
theorem spec_BestCut.mono : ∀ a0 a1 k, LeO (spec_BestCut.f k a0 a1) (spec_BestCut.f (k + 1) a0 a1) := by
  intro a0 a1 k
  exact LeO.bind (spec_l08Ok.mono a0 a1 k) (fun _ => LeO.refl _)
set_option maxHeartbeats 8000000 in
set_option maxRecDepth 100000 in
theorem spec_BestCut.calls (k : Nat) (A0 : Option Addr) (c0 : Nat) (l0 : List Int) (A1 : Option Addr) (c1 : Nat) (l1 : List Int) (r1 : List Int) (r2 : Int) (r3 : Int) (w : World) (hr0 : Kd.C (Kd.int .i64) w A0 l0.length l0) (hc0 : l0.length ≤ c0) (hr1 : Kd.C (Kd.int .i64) w A1 l1.length l1) (hc1 : l1.length ≤ c1) (h : spec_BestCut.f k l0 l1 = some (r1, r2, r3)) :
    Calls Try.prog 9 #[.slice A0 l0.length c0, .slice A1 l1.length c1] w fun e w' => ∃ v0_ : Value, e = .returned (.tuple #[v0_, .int .i64 r2, .int .i64 r3]) ∧ Kd.R (Kd.int .i64) 2 w' w.heap.size (fun _ => True) v0_ r1 ∧ Below w.heap.size w w' := by
  obtain ⟨b, hv, h⟩ := Option.bind_eq_some_iff.mp h
  have H0 := Aside0.mk (And.intro hr0 (And.intro hc0 (And.intro hr1 (And.intro hc1 hv))))
  clear hr0 hc0 hr1 hc1 hv
  cases b with
  | false =>
    replace h : (([] : List Int), (0 : Int), (1 : Int)) = (r1, r2, r3) := Option.some.inj h
    simp only [Prod.mk.injEq] at h
    obtain ⟨rfl, rfl, rfl⟩ := h
    go_enter Try.func9, Try.ntmps9
    go_wp2_with (go_at_call 13; refine (spec_l08Ok.calls k _ _ l0 _ _ l1 false _ H0.out.1 H0.out.2.1 H0.out.2.2.1 H0.out.2.2.2.1 H0.out.2.2.2.2).mono ?_; rintro e w1 ⟨rfl, hd⟩; have HB := Aside0.mk hd.below; clear hd)
    go_ret3
    exact ⟨_, rfl, Kd.R_nil _ _ _ _ _, HB.out⟩
  | true =>
    by_cases hok : okCut l0 l1
    · replace h : (if (wkG (lfS l0) l1 l0 [] ([], -1, 0)).2.1 < 0 then some ([], (0 : Int), (5 : Int)) else some ((wkG (lfS l0) l1 l0 [] ([], -1, 0)).1, (wkG (lfS l0) l1 l0 [] ([], -1, 0)).2.1, 0)) = some (r1, r2, r3) := by rw [if_pos rfl, if_pos hok] at h; exact h
      have HOK := Aside0.mk (And.intro hok h)
      clear hok h
      go_enter Try.func9, Try.ntmps9
      go_upto_region 4 with (first | (go_at_call 13; refine (spec_l08Ok.calls k _ _ l0 _ _ l1 true _ H0.out.1 H0.out.2.1 H0.out.2.2.1 H0.out.2.2.2.1 H0.out.2.2.2.2).mono ?_; rintro e w1 ⟨rfl, hd⟩; have HB := Aside0.mk hd.below; clear hd) | (go_at_call 14; refine (all_calls w A0 c0 l0 A1 c1 l1 H0.out.1 H0.out.2.1 H0.out.2.2.1 HOK.out.1 _ HB.out).mono ?_; rintro e w2 ⟨g, Al, cl, n, left, vb, rfl, hs⟩; obtain ⟨Ab, cb, hvb⟩ := Kd.R_slice hs.rb; subst hvb; have HS := Aside0.mk hs; clear hs))
      have f3 := blk_cell HS.out.tb 3
      have f4 := blk_cell HS.out.tb 4
      simp only [List.getElem?_toArray, List.getElem?_cons_zero, List.getElem?_cons_succ] at f3 f4
      obtain ⟨z, hz⟩ : ∃ z, z = wkG (lfS l0) l1 l0 [] ([], -1, 0) := ⟨_, rfl⟩
      have HZ := Aside0.mk hz
      rw [← hz] at f3 f4
      clear hz
      obtain ⟨zl, zn, zr⟩ := z
      simp only at f3 f4
      by_cases c3 : zn < 0
      · have c3b := decide_eq_true c3
        have hr : (([] : List Int), (0 : Int), (5 : Int)) = (r1, r2, r3) := Option.some.inj (by have h := HOK.out.2; rw [← HZ.out, if_pos c3] at h; exact h)
        simp only [Prod.mk.injEq] at hr
        obtain ⟨rfl, rfl, rfl⟩ := hr
        clear c3
        go_wp2
        go_ret3
        exact ⟨_, rfl, Kd.R_nil _ _ _ _ _, HS.out.bw⟩
      · have c3b := decide_eq_false c3
        have hr : (zl, zn, (0 : Int)) = (r1, r2, r3) := Option.some.inj (by have h := HOK.out.2; rw [← HZ.out, if_neg c3] at h; exact h)
        simp only [Prod.mk.injEq] at hr
        obtain ⟨rfl, rfl, rfl⟩ := hr
        clear c3
        go_wp2_with (fail)
        go_quiet (fail)
        go_wp2
        go_ret3
        refine ⟨_, rfl, ?_, pw_below_drewN HS.out.bw _⟩
        have h := HS.out.rb
        rw [← HZ.out] at h
        exact Kd.R_drewN (Kd.R_mono h (fun _ _ => trivial)) _
    · replace h : (none : Option (List Int × Int × Int)) = some (r1, r2, r3) := by rw [if_pos rfl, if_neg hok] at h; exact h
      exact absurd h (by simp)

/-! ### impl_BestCut: function 10 (by hand) -/
open Go.Proofs.Ytmkckdndlimcjaa.Cut
def impl_BestCut.f (k : Nat) (l0 l1 : List Int) : Option (List Int × Int × Int) :=
  (impl_ValidCoils.f k l0 l1).bind fun b => if b = true then (if okCut l0 l1 then (if (wkG (leafB l0.length) l1 l0 [] ([], -1)).2 < 0 then some ([], 0, 5) else some ((wkG (leafB l0.length) l1 l0 [] ([], -1)).1, (wkG (leafB l0.length) l1 l0 [] ([], -1)).2, 0)) else none) else some ([], 0, 1)
theorem impl_BestCut.mono : ∀ a0 a1 k, LeO (impl_BestCut.f k a0 a1) (impl_BestCut.f (k + 1) a0 a1) := by
  intro a0 a1 k
  exact LeO.bind (impl_ValidCoils.mono a0 a1 k) (fun _ => LeO.refl _)
set_option maxHeartbeats 8000000 in
set_option maxRecDepth 100000 in
theorem impl_BestCut.calls (k : Nat) (A0 : Option Addr) (c0 : Nat) (l0 : List Int) (A1 : Option Addr) (c1 : Nat) (l1 : List Int) (r1 : List Int) (r2 : Int) (r3 : Int) (w : World) (hr0 : Kd.C (Kd.int .i64) w A0 l0.length l0) (hc0 : l0.length ≤ c0) (hr1 : Kd.C (Kd.int .i64) w A1 l1.length l1) (hc1 : l1.length ≤ c1) (h : impl_BestCut.f k l0 l1 = some (r1, r2, r3)) :
    Calls Try.prog 10 #[.slice A0 l0.length c0, .slice A1 l1.length c1] w fun e w' => ∃ v0_ : Value, e = .returned (.tuple #[v0_, .int .i64 r2, .int .i64 r3]) ∧ Kd.R (Kd.int .i64) 2 w' w.heap.size (fun _ => True) v0_ r1 ∧ Below w.heap.size w w' := by
  obtain ⟨b, hv, h⟩ := Option.bind_eq_some_iff.mp h
  have H0 := Aside0.mk (And.intro hr0 (And.intro hc0 (And.intro hr1 (And.intro hc1 hv))))
  clear hr0 hc0 hr1 hc1 hv
  have HV : ∀ w1, Below w.heap.size w w1 → Calls Try.prog 15 #[.slice A0 l0.length c0, .slice A1 l1.length c1] w1 fun e w' => e = .returned (.bool b) ∧ Below w1.heap.size w1 w' := fun w1 hb1 =>
    impl_ValidCoils.calls k (fun k_ => k_ < w.heap.size) _ _ l0 (fun k_ => k_ < w.heap.size) _ _ l1 b _ (Kd.V_mk H0.out.2.1 (Kd.F_below (Kd.C_F (Kd.heap_int .i64) H0.out.1) hb1)) (Kd.V_mk H0.out.2.2.2.1 (Kd.F_below (Kd.C_F (Kd.heap_int .i64) H0.out.2.2.1) hb1)) H0.out.2.2.2.2
  have HVa := Aside0.mk HV
  clear HV
  cases b with
  | false =>
    replace h : (([] : List Int), (0 : Int), (1 : Int)) = (r1, r2, r3) := Option.some.inj h
    simp only [Prod.mk.injEq] at h
    obtain ⟨rfl, rfl, rfl⟩ := h
    go_enter Try.func10, Try.ntmps10
    go_wp2_with (go_at_call 15; refine (HVa.out _ (below_alloc (Below.refl _ _) _)).mono ?_; rintro e w1 ⟨rfl, hb⟩; have HB := Aside0.mk (below_step (below_alloc (Below.refl w.heap.size w) _) hb); clear hb)
    go_ret3
    exact ⟨_, rfl, Kd.R_nil _ _ _ _ _, HB.out⟩
  | true =>
    by_cases hok : okCut l0 l1
    · replace h : (if (wkG (leafB l0.length) l1 l0 [] ([], -1)).2 < 0 then some ([], (0 : Int), (5 : Int)) else some ((wkG (leafB l0.length) l1 l0 [] ([], -1)).1, (wkG (leafB l0.length) l1 l0 [] ([], -1)).2, 0)) = some (r1, r2, r3) := by rw [if_pos rfl, if_pos hok] at h; exact h
      have HOK := Aside0.mk (And.intro hok h)
      clear hok h
      go_enter Try.func10, Try.ntmps10
      go_upto_region 1 with (fail)
      obtain ⟨go, HO⟩ : ∃ g, Aside0 (g = w.heap.size) := ⟨_, ⟨rfl⟩⟩
      rw [← HO.out]
      obtain ⟨w1, HW⟩ : ∃ w1, Aside0 (w1 = w.alloc (.cells #[.slice A0 l0.length c0] 22)) := ⟨_, ⟨rfl⟩⟩
      rw [← HW.out]
      have HG1 := Aside0.mk (show Below w.heap.size w w1 ∧ w1.heap.size = go + 1 ∧ w1.heap[go]? = some (.cells #[.slice A0 l0.length c0] 22 (0, 0)) from by
        rw [HW.out, HO.out]
        exact ⟨below_alloc (Below.refl _ _) _, size_alloc _ _, alloc_at _ _⟩)
      clear HW
      have f0 := blk_cell HG1.out.2.2 0
      simp only [List.getElem?_toArray, List.getElem?_cons_zero] at f0
      go_upto_region 4 with (first | (go_at_call 15; refine (HVa.out _ HG1.out.1).mono ?_; rintro e w2 ⟨rfl, hb⟩; have HB2 := Aside0.mk hb; clear hb f0) | ((with_reducible refine gate_dst (N := 13) rfl ?_); refine Kd.R_lit (Kd.int .i64) (w0 := w2) w2.heap.size 2 ?hg (N := 13) ?hd (xs := ([] : List Int)) (inner := []) (ok := fun _ => True) (okp := fun _ => True) ?hr ?hp (fun _ hk => hk) trivial (Below.refl _ _) (Nat.le_refl _) (by simp) ?_; (case hd => rfl); (case hg => rfl); (case hr => first | (go_simp; done) | (go_simp; rfl)); (case hp => exact (Reps.none _ _)); intro v13 w3 ho hb hg_ hnew_; obtain ⟨A13, c13, hv13⟩ := Kd.R_slice ho; simp only [List.length_nil] at hv13; subst hv13; have HV13 := Aside0.mk (And.intro ho hb); clear hg_ hnew_ ho hb))
      obtain ⟨gb, HGb⟩ : ∃ g, Aside0 (g = w3.heap.size) := ⟨_, ⟨rfl⟩⟩
      rw [← HGb.out]
      obtain ⟨w4, HW4⟩ : ∃ w4, Aside0 (w4 = w3.alloc (.cells #[.slice A13 0 c13] 22)) := ⟨_, ⟨rfl⟩⟩
      rw [← HW4.out]
      go_upto_region 5 with (fail)
      obtain ⟨gw, HGw⟩ : ∃ g, Aside0 (g = w4.heap.size) := ⟨_, ⟨rfl⟩⟩
      rw [← HGw.out]
      obtain ⟨w5, HW5⟩ : ∃ w5, Aside0 (w5 = w4.alloc (.cells #[.int .i64 (-1)] 2)) := ⟨_, ⟨rfl⟩⟩
      rw [← HW5.out]
      have HE := Aside0.mk (show w5.cell? ⟨go, 0, none⟩ = some (.slice A0 l0.length c0) ∧ (gb ≠ gw) ∧ Calls Try.prog 16 #[.slice A0 l0.length c0, .slice A1 l1.length c1, .func (.func 18) #[] #[.pointer (some ⟨go, 0, none⟩), .pointer (some ⟨gw, 0, none⟩), .pointer (some ⟨gb, 0, none⟩)]] w5 (PostE (cbB w.heap.size go gw gb A0 c0 l0.length) w (wkG (leafB l0.length) l1 l0 [] ([], -1))) from by
        have s4 : w4.heap.size = w3.heap.size + 1 := by rw [HW4.out, size_alloc]
        have b34 : Below w3.heap.size w3 w4 := HW4.out ▸ below_alloc (Below.refl _ _) _
        have b45 : Below w4.heap.size w4 w5 := HW5.out ▸ below_alloc (Below.refl _ _) _
        have b23 := HV13.out.2
        have b12 := HB2.out
        have b01 := HG1.out.1
        have b35 := b34.trans (b45.mono b34.size)
        have b25 := b23.trans (b35.mono b23.size)
        have b15 := b12.trans (b25.mono b12.size)
        have b05 := b01.trans (b15.mono b01.size)
        have z0 := b12.size
        have z1 := b23.size
        have z2 := HG1.out.2.1
        have z3 := HO.out
        have z4 := HGb.out
        have z5 := HGw.out
        have hgo : w5.heap[go]? = some (.cells #[.slice A0 l0.length c0] 22 (0, 0)) := (b15.block go (by omega)).trans HG1.out.2.2
        refine ⟨by have := blk_cell hgo 0; simpa using this, by omega, ?_⟩
        refine each_calls (enter_of Try.func18 (by kernel_rfl) (by kernel_rfl)) (cbB_ok (goodCut l1.length) (fun _ _ h => Nat.le_trans h.2.1 HOK.out.1.1.2) HOK.out.1.1.1 ⟨by omega, by omega, by omega⟩ ⟨by omega, by omega, by omega⟩) (goodCut_ok HOK.out.1) b05 H0.out.2.2.1 ?_ (Kd.C_below H0.out.1 b05) H0.out.2.1 HOK.out.1.1.1 (goodCut_start HOK.out.1)
        refine ⟨⟨by omega, by omega, by omega⟩, hgo, by rw [HW5.out, HGw.out]; exact alloc_at _ _, .slice A13 0 c13, ?_, ?_⟩
        · refine (b45.block gb (by omega)).trans ?_
          rw [HW4.out, HGb.out]; exact alloc_at _ _
        · refine Kd.R_mono (Kd.R_lower (Kd.R_below (Kd.R_bound HV13.out.1) b35) (by omega)) (fun k hk => ?_)
          have h1 := hk.2.1
          have h2 := hk.2.2.1
          exact ⟨by omega, by omega⟩)
      have f0 := HE.out.1
      clear HW4 HW5
      go_upto_region 6 with (go_at_call 16; refine HE.out.2.2.mono ?_; rintro e w6 ⟨rfl, ⟨_, _, hq1, vb, hq2, hq3⟩, hb⟩; have HQ := Aside0.mk (And.intro hq1 (And.intro hq2 (And.intro hq3 hb))); clear hq1 hq2 hq3 hb f0)
      obtain ⟨Ab, cb, hvb⟩ := Kd.R_slice HQ.out.2.2.1
      subst hvb
      have f1 := blk_cell HQ.out.1 0
      have f2 := blk_cell HQ.out.2.1 0
      simp only [List.getElem?_toArray, List.getElem?_cons_zero] at f1 f2
      obtain ⟨z, hz⟩ : ∃ z, z = wkG (leafB l0.length) l1 l0 [] ([], -1) := ⟨_, rfl⟩
      have HZ := Aside0.mk hz
      rw [← hz] at f1 f2
      clear hz
      obtain ⟨zl, zn⟩ := z
      simp only at f1 f2
      by_cases c3 : zn < 0
      · have c3b := decide_eq_true c3
        have hr : (([] : List Int), (0 : Int), (5 : Int)) = (r1, r2, r3) := Option.some.inj (by have h := HOK.out.2; rw [← HZ.out, if_pos c3] at h; exact h)
        simp only [Prod.mk.injEq] at hr
        obtain ⟨rfl, rfl, rfl⟩ := hr
        clear c3
        go_wp2
        go_ret3
        exact ⟨_, rfl, Kd.R_nil _ _ _ _ _, HQ.out.2.2.2⟩
      · have c3b := decide_eq_false c3
        have hr : (zl, zn, (0 : Int)) = (r1, r2, r3) := Option.some.inj (by have h := HOK.out.2; rw [← HZ.out, if_neg c3] at h; exact h)
        simp only [Prod.mk.injEq] at hr
        obtain ⟨rfl, rfl, rfl⟩ := hr
        clear c3
        go_wp2_with (fail)
        go_quiet (fail)
        go_wp2
        go_ret3
        refine ⟨_, rfl, ?_, pw_below_drewN HQ.out.2.2.2 _⟩
        have h := HQ.out.2.2.1
        rw [← HZ.out] at h
        exact Kd.R_drewN (Kd.R_mono h (fun _ _ => trivial)) _
    · replace h : (none : Option (List Int × Int × Int)) = some (r1, r2, r3) := by rw [if_pos rfl, if_neg hok] at h; exact h
      exact absurd h (by simp)

/-! ### laws_markInt64S: function 11 -/
def laws_markInt64S.l0 : Nat → List Int → Int → Int → Option (Int × List Int)
  | 0, _, _, _ => none
  | k + 1, x0, x1, x5 => if x5 < (x0.length : Int) then (if 0 ≤ x5 then (laws_markInt64S.l0 k (x0.set (x5 : Int).toNat x1) (wrap64 (x1 + 1)) (wrap64 (x5 + 1))) else (none)) else (some (x1, x0))
def laws_markInt64S.f (k : Nat) (l0 : List Int) (a1 : Int) : Option (Int × List Int) := laws_markInt64S.l0 k l0 a1 0
theorem laws_markInt64S.mono_l : ∀ k, (∀ y0 y1 y2, LeO (laws_markInt64S.l0 k y0 y1 y2) (laws_markInt64S.l0 (k + 1) y0 y1 y2))
  | 0 => fun _ _ _ r h => by simp [laws_markInt64S.l0] at h
  | k + 1 => by
    have ih0 := laws_markInt64S.mono_l k
    · intro y0 y1 y2
      unfold laws_markInt64S.l0
      repeat' first
      | (with_reducible exact ih0 _ _ _)
      | (with_reducible exact LeO.refl _)
      | (with_reducible exact LeO.none _)
      | (with_reducible refine LeO.ite ?_ ?_)
      | (with_reducible refine LeO.bind ?_ (fun _ => ?_))
      | exact ih0 _ _ _
      | exact LeO.none _
      | refine LeO.ite ?_ ?_
      | refine LeO.bind ?_ (fun _ => ?_)
theorem laws_markInt64S.mono : ∀ a0 a1 k, LeO (laws_markInt64S.f k a0 a1) (laws_markInt64S.f (k + 1) a0 a1) := by
  intro a0 a1 k
  have ih0 := laws_markInt64S.mono_l k
  unfold laws_markInt64S.f
  repeat' first
      | (with_reducible exact ih0 _ _ _)
      | (with_reducible exact LeO.refl _)
      | (with_reducible exact LeO.none _)
      | (with_reducible refine LeO.ite ?_ ?_)
      | (with_reducible refine LeO.bind ?_ (fun _ => ?_))
      | exact ih0 _ _ _
      | exact LeO.none _
      | refine LeO.ite ?_ ?_
      | refine LeO.bind ?_ (fun _ => ?_)
set_option maxHeartbeats 8000000 in
set_option maxRecDepth 100000 in
theorem laws_markInt64S.calls (k : Nat) (P0_ : Nat → Prop) (u9000_ : Value) (l0 : List Int) (a1 : Int) (r1 : Int) (r2 : List Int) (w0 w : World) (hB : Below w0.heap.size w0 w) (ho0 : Kd.R (Kd.int .i64) 2 w w0.heap.size P0_ u9000_ l0) (h : laws_markInt64S.f k l0 a1 = some (r1, r2)) :
    Calls Try.prog 11 #[u9000_, .int .i64 a1] w fun e w' => e = .returned (.int .i64 r1) ∧ Kd.R (Kd.int .i64) 2 w' w0.heap.size (fun k_ => (P0_ k_ ∨ w.heap.size ≤ k_)) u9000_ r2 ∧ Below w0.heap.size w0 w' ∧ Kept w w' (fun k_ => P0_ k_) := by
  have HO0 := Aside0.mk (show Kd.R (Kd.int .i64) 2 w w0.heap.size (fun k_ => (P0_ k_ ∨ w.heap.size ≤ k_)) u9000_ l0 from Kd.R_mono ho0 (fun k_ hk => (.inl hk)))
  have HK := Aside0.mk (Kept.refl w (fun k_ => P0_ k_))
  have HW0 := Aside0.mk hB.size
  have HB := Aside0.mk hB
  clear hB
  have H : (laws_markInt64S.l0 k l0 a1 0) = some (r1, r2) := h
  clear h
  have H' := Aside0.mk H
  clear H
  go_enter Try.func11, Try.ntmps11
  go_wp2
  go_loopg [1, 5] k (fun kq v1 v5 w' => ∃ (x0_1 : List Int) (x1_1 : Int) (x5_1 : Int), v1 = .int .i64 x1_1 ∧ v5 = .int .i64 x5_1 ∧ Aside0 (laws_markInt64S.l0 kq x0_1 x1_1 x5_1 = some (r1, r2)) ∧ Aside0 (kq ≤ k) ∧ Aside0 (Kd.R (Kd.int .i64) 2 w' w0.heap.size (fun k_ => (P0_ k_ ∨ w.heap.size ≤ k_)) u9000_ x0_1) ∧ Aside0 (Kept w w' (fun k_ => P0_ k_)) ∧ Aside0 (Below w0.heap.size w0 w'))
  case atStart => exact ⟨(l0), (a1), (0), (by first | rfl | (simp; done) | (simp [*]; done)), (by first | rfl | (simp; done) | (simp [*]; done)), H', ⟨Nat.le_refl _⟩, ⟨by (with_reducible repeat (first | apply Kd.R_alloc | apply Kd.R_drewN | apply Kd.R_drew)); exact HO0.out⟩, ⟨by repeat (first | (with_reducible first | exact HK.out | apply Kept.alloc | apply Kept.drewN | apply Kept.drew) | exact HK.out)⟩, ⟨by repeat (first | (with_reducible first | exact HB.out | apply below_alloc | apply pw_below_drewN | apply below_drew1) | exact HB.out)⟩⟩
  case round =>
    clear H'
    try clear c1
    try clear p2
    obtain ⟨x0_1, x1_1, x5_1, rfl, rfl, HA, HK1, HO_0, HK, HB⟩ := hrel
    cases gk with
    | zero => exact absurd HA.out (by simp [laws_markInt64S.l0])
    | succ k1 =>
      have H := HA.out
      clear HA
      simp only [laws_markInt64S.l0] at H
      by_cases c3 : x5_1 < (x0_1.length : Int)
      · rw [if_pos c3] at H
        have c3b0 : decide (x5_1 < (x0_1.length : Int)) = true := decide_eq_true c3
        clear c3
        by_cases c4 : 0 ≤ x5_1
        · rw [if_pos c4] at H
          have c4b0 : decide (0 ≤ x5_1) = true := decide_eq_true c4
          clear c4
          obtain ⟨y142, hy142⟩ : ∃ y_ : List Int, y_ = (x0_1.set (x5_1 : Int).toNat x1_1) := ⟨_, rfl⟩
          replace H : (laws_markInt64S.l0 k1 y142 (wrap64 (x1_1 + 1)) (wrap64 (x5_1 + 1))) = some (r1, r2) := by first | (rw [hy142]; with_reducible exact H) | (have H2_ := (Option.bind_some _ _).symm.trans H; rw [hy142]; with_reducible exact H2_) | (have H2_ := (Option.bind_some _ _).symm.trans H; with_reducible exact H2_) | with_reducible exact H | (rw [hy142]; exact H) | exact H
          have Ny142 := Aside0.mk hy142
          clear hy142
          have H' := Aside0.mk H
          clear H
          obtain ⟨Ao6, co6, eo6⟩ := Kd.R_slice HO_0.out
          subst eo6
          have p5 : 0 ≤ (x5_1 : Int) := of_decide_eq_true (by first | (with_reducible assumption) | assumption)
          have q5 : (x5_1 : Int) < ((x0_1.length : Int) : Int) := of_decide_eq_true (by first | (with_reducible assumption) | assumption)
          obtain ⟨go5, co5, eo5, gb5, gl5, cl5, HG5⟩ := Kd.R_form HO_0.out (by omega)
          (first | cases eo5 | (injection eo5 with ea_ en_ ec_; (first | subst ea_ | (injection ea_ with ea_; subst ea_)); subst ec_; clear en_))
          have GB5 := Aside0.mk gb5
          have GG5 := Aside0.mk HG5
          clear gb5 gl5 HG5
          have HMgo5 := Aside0.mk (show (P0_ go5 ∨ w.heap.size ≤ go5) from (HO_0.out.1 _ rfl))
          obtain ⟨hx5_0, hf5_0⟩ := Kd.R_celln 0 HO_0.out (x5_1 : Int) p5 q5
          replace p5 := eq_true p5
          replace q5 := eq_true q5
          have HP7 := Kd.R_putg HO_0.out (x5_1 : Int) x1_1
          go_wp2_with (first | ((with_reducible refine gate_store (t := 2) (p := 15) rfl ?_); refine store_event (t := 2) (p := 15) (v := ?vo_w8) (w1 := (wr.setCell ⟨go5, (x5_1 : Int).toNat, none⟩ (.int .i64 x1_1))) ?hg ?ho ?hn ?hr ?_; (case ho => rfl); (case hg => rfl); (case hn => rfl); (case hr => first | (go_simp; done) | (go_simp; rfl)); intro w8 hw; have hg : wr.grownBy w8 (some go5) := (by rw [hw]; exact HP7.2); have hp_ : Kd.R (Kd.int .i64) 2 w8 w0.heap.size (fun k_ => (P0_ k_ ∨ w.heap.size ≤ k_)) (.slice (some ⟨go5, 0, none⟩) x0_1.length co6) y142 := (by rw [hw, Ny142.out]; exact HP7.1); clear HP7; have n0_ := Aside0.mk (hp_); have n1_ := Aside0.mk ((by rw [hw]; exact below_set (HB.out) GB5.out : Below w0.heap.size w0 w8)); have n2_ := Aside0.mk (Kept.of_grown (S := (fun k_ => P0_ k_)) hg (by repeat (first | (with_reducible first | exact HK.out | apply Kept.alloc | apply Kept.drewN | apply Kept.drew) | exact HK.out)) (fun k_ e_ => (HO_0.out.1 k_ e_))); clear HO_0; clear HB; clear HK; have HO_0 := n0_; have HB := n1_; have HK := n2_; clear n0_ n1_ n2_; clear hg hw hp_))
          go_roundg k1
          case measure => have := HK1.out; omega
          case rel => exact ⟨(y142), (wrap64 (x1_1 + 1)), (wrap64 (x5_1 + 1)), (by first | rfl | (simp; done) | (simp [*]; done)), (by first | rfl | (simp; done) | (simp [*]; done)), H', ⟨by have := HK1.out; omega⟩, ⟨by (with_reducible repeat (first | apply Kd.R_alloc | apply Kd.R_drewN | apply Kd.R_drew)); exact HO_0.out⟩, ⟨by repeat (first | (with_reducible first | exact HK.out | apply Kept.alloc | apply Kept.drewN | apply Kept.drew) | exact HK.out)⟩, ⟨by repeat (first | (with_reducible first | exact HB.out | apply below_alloc | apply pw_below_drewN | apply below_drew1) | exact HB.out)⟩⟩
        · rw [if_neg c4] at H
          exact absurd H (by simp)
      · rw [if_neg c3] at H
        have c3b0 : decide (x5_1 < (x0_1.length : Int)) = false := decide_eq_false c3
        clear c3
        simp only [Option.some.injEq, Prod.mk.injEq] at H
        obtain ⟨rfl, rfl⟩ := H
        obtain ⟨Ao9, co9, eo9⟩ := Kd.R_slice HO_0.out
        subst eo9
        go_wp2
        go_ret
        exact ⟨by first | rfl | (simp [errW_none, errW_some] <;> rfl) | (simp [*, errW_none, errW_some] <;> rfl), by (with_reducible repeat (first | apply Kd.R_alloc | apply Kd.R_drewN | apply Kd.R_drew)); exact HO_0.out, by repeat (first | (with_reducible first | exact HB.out | apply below_alloc | apply pw_below_drewN | apply below_drew1) | exact HB.out), by repeat (first | (with_reducible first | exact HK.out | apply Kept.alloc | apply Kept.drewN | apply Kept.drew) | exact HK.out)⟩

/-! ### laws_heldInt64S: function 12 -/
def laws_heldInt64S.l0 : Nat → List Int → Int → Int → Option (Int)
  | 0, _, _, _ => none
  | k + 1, x0, x1, x5 => if x5 < (x0.length : Int) then (if 0 ≤ x5 then (if (rd x0 x5) = x1 then (laws_heldInt64S.l0 k x0 (wrap64 (x1 + 1)) (wrap64 (x5 + 1))) else (some (-1))) else (none)) else (some x1)
def laws_heldInt64S.f (k : Nat) (l0 : List Int) (a1 : Int) : Option (Int) := laws_heldInt64S.l0 k l0 a1 0
theorem laws_heldInt64S.mono_l : ∀ k, (∀ y0 y1 y2, LeO (laws_heldInt64S.l0 k y0 y1 y2) (laws_heldInt64S.l0 (k + 1) y0 y1 y2))
  | 0 => fun _ _ _ r h => by simp [laws_heldInt64S.l0] at h
  | k + 1 => by
    have ih0 := laws_heldInt64S.mono_l k
    · intro y0 y1 y2
      unfold laws_heldInt64S.l0
      repeat' first
      | (with_reducible exact ih0 _ _ _)
      | (with_reducible exact LeO.refl _)
      | (with_reducible exact LeO.none _)
      | (with_reducible refine LeO.ite ?_ ?_)
      | (with_reducible refine LeO.bind ?_ (fun _ => ?_))
      | exact ih0 _ _ _
      | exact LeO.none _
      | refine LeO.ite ?_ ?_
      | refine LeO.bind ?_ (fun _ => ?_)
theorem laws_heldInt64S.mono : ∀ a0 a1 k, LeO (laws_heldInt64S.f k a0 a1) (laws_heldInt64S.f (k + 1) a0 a1) := by
  intro a0 a1 k
  have ih0 := laws_heldInt64S.mono_l k
  unfold laws_heldInt64S.f
  repeat' first
      | (with_reducible exact ih0 _ _ _)
      | (with_reducible exact LeO.refl _)
      | (with_reducible exact LeO.none _)
      | (with_reducible refine LeO.ite ?_ ?_)
      | (with_reducible refine LeO.bind ?_ (fun _ => ?_))
      | exact ih0 _ _ _
      | exact LeO.none _
      | refine LeO.ite ?_ ?_
      | refine LeO.bind ?_ (fun _ => ?_)
set_option maxHeartbeats 8000000 in
set_option maxRecDepth 100000 in
theorem laws_heldInt64S.calls (k : Nat) (A0 : Option Addr) (c0 : Nat) (l0 : List Int) (a1 : Int) (r : Int) (w : World) (hr0 : Kd.C (Kd.int .i64) w A0 l0.length l0) (hc0 : l0.length ≤ c0) (h : laws_heldInt64S.f k l0 a1 = some r) :
    Calls Try.prog 12 #[.slice A0 l0.length c0, .int .i64 a1] w fun e w' => e = .returned (.int .i64 r) ∧ Drawn0 w w' := by
  have HR0 := Aside0.mk hr0
  have HC0 := Aside0.mk hc0
  clear hr0 hc0
  have H : (laws_heldInt64S.l0 k l0 a1 0) = some r := h
  clear h
  have H' := Aside0.mk H
  clear H
  go_enter Try.func12, Try.ntmps12
  go_wp2
  go_loopg [1, 5] k (fun kq v1 v5 w' => ∃ (x1_1 : Int) (x5_1 : Int), v1 = .int .i64 x1_1 ∧ v5 = .int .i64 x5_1 ∧ Aside0 (laws_heldInt64S.l0 kq l0 x1_1 x5_1 = some r) ∧ Aside0 (kq ≤ k) ∧ Drawn0 w w')
  case atStart => exact ⟨(a1), (0), (by first | rfl | (simp; done) | (simp [*]; done)), (by first | rfl | (simp; done) | (simp [*]; done)), H', ⟨Nat.le_refl _⟩, by repeat (first | exact Drawn0.refl _ | apply Drawn0.step)⟩
  case round =>
    clear H'
    try clear c1
    try clear p2
    obtain ⟨x1_1, x5_1, rfl, rfl, HA, HK1, ⟨m1, rfl⟩⟩ := hrel
    cases gk with
    | zero => exact absurd HA.out (by simp [laws_heldInt64S.l0])
    | succ k1 =>
      have H := HA.out
      clear HA
      simp only [laws_heldInt64S.l0] at H
      by_cases c3 : x5_1 < (l0.length : Int)
      · rw [if_pos c3] at H
        have c3b0 : decide (x5_1 < (l0.length : Int)) = true := decide_eq_true c3
        clear c3
        by_cases c4 : 0 ≤ x5_1
        · rw [if_pos c4] at H
          have c4b0 : decide (0 ≤ x5_1) = true := decide_eq_true c4
          clear c4
          by_cases c5 : (rd l0 x5_1) = x1_1
          · rw [if_pos c5] at H
            have c5b0 : ((rd l0 x5_1) == x1_1) = true := beq_iff_eq.mpr c5
            have c5b1 : ((rd l0 x5_1) != x1_1) = false := bne_eq_false_iff_eq.mpr c5
            clear c5
            have H' := Aside0.mk H
            clear H
            have p143 : 0 ≤ (x5_1 : Int) := of_decide_eq_true (by first | (with_reducible assumption) | assumption)
            have q143 : x5_1 < (l0.length : Int) := of_decide_eq_true (by first | (with_reducible assumption) | assumption)
            obtain ⟨ad143, e143, hx143_0⟩ := Kd.at_int HR0.out x5_1 p143 q143
            cases e143
            replace p143 := eq_true p143
            replace q143 := eq_true q143
            go_wp2
            go_roundg k1
            case measure => have := HK1.out; omega
            case rel => exact ⟨(wrap64 (x1_1 + 1)), (wrap64 (x5_1 + 1)), (by first | rfl | (simp; done) | (simp [*]; done)), (by first | rfl | (simp; done) | (simp [*]; done)), H', ⟨by have := HK1.out; omega⟩, by repeat (first | exact Drawn0.refl _ | apply Drawn0.step)⟩
          · rw [if_neg c5] at H
            have c5b0 : ((rd l0 x5_1) == x1_1) = false := beq_eq_false_iff_ne.mpr c5
            have c5b1 : ((rd l0 x5_1) != x1_1) = true := bne_iff_ne.mpr c5
            obtain rfl := Option.some.inj H
            have p143 : 0 ≤ (x5_1 : Int) := of_decide_eq_true (by first | (with_reducible assumption) | assumption)
            have q143 : x5_1 < (l0.length : Int) := of_decide_eq_true (by first | (with_reducible assumption) | assumption)
            obtain ⟨ad143, e143, hx143_0⟩ := Kd.at_int HR0.out x5_1 p143 q143
            cases e143
            replace p143 := eq_true p143
            replace q143 := eq_true q143
            go_wp2
            go_ret
            exact ⟨by first | rfl | (simp; done) | (simp [*]; done), by repeat (first | exact Drawn0.refl _ | apply Drawn0.step)⟩
        · rw [if_neg c4] at H
          exact absurd H (by simp)
      · rw [if_neg c3] at H
        have c3b0 : decide (x5_1 < (l0.length : Int)) = false := decide_eq_false c3
        clear c3
        obtain rfl := Option.some.inj H
        go_wp2
        go_ret
        exact ⟨by first | rfl | (simp; done) | (simp [*]; done), by repeat (first | exact Drawn0.refl _ | apply Drawn0.step)⟩

end Go.Proofs.Ytmkckdndlimcjaa.HCut
