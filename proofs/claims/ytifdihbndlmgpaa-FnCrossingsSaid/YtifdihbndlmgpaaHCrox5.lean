-- Written by a program for this claim (the functions that the statement reaches, and that the program's code comes to them).
import Derived.Test.YtifdihbndlmgpaaHCrox0
import Derived.Test.YtifdihbndlmgpaaHCrox2
import Derived.Test.YtifdihbndlmgpaaHCrox4
namespace Go.Proofs.Ytifdihbndlmgpaa.HCro
open Go.RowKit Go.Proofs.YtifdihbndlmgpaaW.PrintWords Go.Proofs.YtifdihbndlmgpaaW.PrintLast Go.Proofs.YtifdihbndlmgpaaW.PrintMore
attribute [local go_sem] max2_int min2_int max_two min_two max_three min_three max_four min_four   -- for this text's walks alone
set_option linter.unusedVariables false
set_option linter.unusedSimpArgs false

/-! ### impl_bestWay: function 32 (by hand) -/
def bkI (F M : Int) (A : Bool) (i : Nat) : Int := if Int.tmod (F + M - 1 - i) 2 = 0 then (if A = true then 1 else 0) else (if A = true then 0 else 1)
theorem blockAt_eq {F M : Int} {A : Bool} (i : Nat) (h : (0 ≤ F ∧ F ≤ 1000) ∧ (0 ≤ M ∧ M ≤ 1000) ∧ i ≤ 100000) : impl_blockAt.f F M A (i : Int) = some (bkI F M A i) := by
  unfold impl_blockAt.f bkI
  rw [wrap_id (F + M) (by omega) (by omega), wrap_id (F + M - 1) (by omega) (by omega), wrap_id (F + M - 1 - i) (by omega) (by omega)]
  cases A <;> simp <;> split <;> rfl
theorem sheavesAt_eq (F M : Int) (A : Bool) (b : Int) : impl_sheavesAt.f F M A b = some (manyI F M b) := by
  unfold impl_sheavesAt.f manyI; split <;> rfl
/-- bestWay's memory while extend runs. -/
structure WI (w0 : World) (gn gl gw gb gp gx : Nat) (N : Nat) (F M : Int) (A : Bool) (last : Int) (s : List S53 × Int) (vb : Value) (W : World) : Prop where
  bw : Below w0.heap.size w0 W
  n : W.heap[gn]? = some (.cells #[.int .i64 (N : Int)] 2 (0, 0))
  l : W.heap[gl]? = some (.cells #[.int .i64 last] 2 (0, 0))
  w : W.heap[gw]? = some (.cells #[.int .i64 s.2] 2 (0, 0))
  b : W.heap[gb]? = some (.cells #[vb] 29 (0, 0))
  p : W.heap[gp]? = some (.cells #[.int .i64 F, .int .i64 M, .bool A] 26 (0, 0))
  x : W.heap[gx]? = some (.cells #[.func (.func 56) #[] #[.pointer (some ⟨gn, 0, none⟩), .pointer (some ⟨gl, 0, none⟩), .pointer (some ⟨gw, 0, none⟩), .pointer (some ⟨gb, 0, none⟩), .pointer (some ⟨gp, 0, none⟩), .pointer (some ⟨gx, 0, none⟩)]] 83 (0, 0))
  r : Kd.R k53 53 W w0.heap.size (fun _ => True) vb s.1
structure WC (w0 : World) (gn gl gw gb gp gx : Nat) : Prop where
  ne : gn ≠ gw ∧ gl ≠ gw ∧ gb ≠ gw ∧ gp ≠ gw ∧ gx ≠ gw ∧ gn ≠ gb ∧ gl ≠ gb ∧ gp ≠ gb ∧ gx ≠ gb
  ge : w0.heap.size ≤ gw ∧ w0.heap.size ≤ gb
def sX (gw gb : Nat) : Nat → Prop := fun k => k = gw ∨ k = gb
namespace WI
section
variable {w0 W w1 : World} {gn gl gw gb gp gx : Nat} {N : Nat} {F M : Int} {A : Bool} {last : Int} {s : List S53 × Int} {vb : Value}
protected theorem below (h : WI w0 gn gl gw gb gp gx N F M A last s vb W) (hb : Below W.heap.size W w1) : WI w0 gn gl gw gb gp gx N F M A last s vb w1 :=
  ⟨h.bw.trans (hb.mono h.bw.size), (hb.block _ (blk_lt h.n)).trans h.n, (hb.block _ (blk_lt h.l)).trans h.l, (hb.block _ (blk_lt h.w)).trans h.w, (hb.block _ (blk_lt h.b)).trans h.b, (hb.block _ (blk_lt h.p)).trans h.p, (hb.block _ (blk_lt h.x)).trans h.x, Kd.R_below h.r hb⟩
protected theorem set (hc : WC w0 gn gl gw gb gp gx) (h : WI w0 gn gl gw gb gp gx N F M A last s vb W) {v : Value} {way : List S53} (c : Int) (hr : Kd.R k53 53 W w0.heap.size (fun _ => True) v way) :
    WI w0 gn gl gw gb gp gx N F M A last (way, c) v ((W.setCell ⟨gb, 0, none⟩ v).setCell ⟨gw, 0, none⟩ (.int .i64 c)) := by
  obtain ⟨n1, n2, n3, n4, n5, n6, n7, n8, n9⟩ := hc.ne
  have far : ∀ {g : Nat} {t : TypeId} {cs : Array Value}, W.heap[g]? = some (.cells cs t (0, 0)) → g ≠ gw → g ≠ gb → ((W.setCell ⟨gb, 0, none⟩ v).setCell ⟨gw, 0, none⟩ (.int .i64 c)).heap[g]? = some (.cells cs t (0, 0)) := fun hb h1 h2 => blk_far (p := ⟨gw, 0, none⟩) (blk_far (p := ⟨gb, 0, none⟩) hb h2 _) h1 _
  have hw2 := blk_far (p := ⟨gb, 0, none⟩) h.w (Ne.symm n3) v
  have hb2 : (W.setCell ⟨gb, 0, none⟩ v).heap[gb]? = some (.cells #[v] 29 (0, 0)) := by have := blk_set h.b 0 v; simpa using this
  refine ⟨below_set (below_set h.bw hc.ge.2) hc.ge.1, far h.n n1 n6, far h.l n2 n7, ?_, blk_far (p := ⟨gw, 0, none⟩) hb2 n3 _, far h.p n4 n8, far h.x n5 n9, ?_⟩
  · have := blk_set hw2 0 (.int .i64 c); simpa using this
  · have h1 := Kd.R_set hr h.b (by simp [k53, Kd.iso, Kd.pair, Kd.int, Kd.scalar]) 0 v
    exact Kd.R_set h1 hw2 (by simp [k53, Kd.iso, Kd.pair, Kd.int, Kd.scalar]) 0 _
/-- A way of one's own stays as it is while extend runs. -/
protected theorem keep (h : WI w0 gn gl gw gb gp gx N F M A last s vb W) {v : Value} {way : List S53} (hr : Kd.R k53 53 W w0.heap.size (fun _ => True) v way) (ht : Touch (sX gw gb) W w1) : Kd.R k53 53 w1 w0.heap.size (fun _ => True) v way := by
  have h1 := Kd.R_types (Kd.R_types hr h.w (by simp [k53, Kd.iso, Kd.pair, Kd.int, Kd.scalar])) h.b (by simp [k53, Kd.iso, Kd.pair, Kd.int, Kd.scalar])
  exact Kd.R_mono (ht.R h1 (fun k hk z => z.elim hk.1.2 hk.2)) (fun _ _ => trivial)
protected theorem keep0 {s2 : List S53 × Int} {vb2 : Value} (_h : WI w0 gn gl gw gb gp gx N F M A last s2 vb2 w1) (h : WI w0 gn gl gw gb gp gx N F M A last s vb W) {v : Value} {way : List S53} (hr : Kd.R k53 53 W w0.heap.size (fun _ => True) v way) (ht : Touch (sX gw gb) W w1) : Kd.R k53 53 w1 w0.heap.size (fun _ => True) v way := h.keep hr ht
end
end WI
def PostX (w0 : World) (gn gl gw gb gp gx : Nat) (N : Nat) (F M : Int) (A : Bool) (last : Int) (s : List S53 × Int) (W : World) (e : Ending) (w' : World) : Prop :=
  e = .returned (.tuple #[]) ∧ ∃ vb, WI w0 gn gl gw gb gp gx N F M A last s vb w' ∧ Touch (sX gw gb) W w'
section
variable {w0 W : World} {gn gl gw gb gp gx : Nat} {N : Nat} {F M : Int} {A : Bool} {last : Int} {s s' : List S53 × Int} {vb : Value} {Aw : Option Addr} {cw : Nat} {way : List S53} {K : Nat}
/-- The crossings of a way, as the program counts them. -/
def cntI (K : Nat) (way : List S53) : Option Int := (impl_crossings.f K way false).map fun l => (l.length : Int)
set_option maxHeartbeats 8000000 in
set_option maxRecDepth 100000 in
theorem ext_leaf (hc : WC w0 gn gl gw gb gp gx) (h : WI w0 gn gl gw gb gp gx N F M A last s vb W) (hw : Kd.R k53 53 W w0.heap.size (fun _ => True) (.slice Aw way.length cw) way) (hlen : way.length = N) (hN : 0 < N ∧ N ≤ 1000) (hs : leafO (cntI K) N last way s = some s') :
    Calls Try.prog 56 #[.slice Aw way.length cw, .pointer (some ⟨gn, 0, none⟩), .pointer (some ⟨gl, 0, none⟩), .pointer (some ⟨gw, 0, none⟩), .pointer (some ⟨gb, 0, none⟩), .pointer (some ⟨gp, 0, none⟩), .pointer (some ⟨gx, 0, none⟩)] W (PostX w0 gn gl gw gb gp gx N F M A last s' W) := by
  obtain ⟨c, hcn, hs⟩ := Option.bind_eq_some_iff.mp hs
  obtain ⟨cs, hcr, hcl⟩ := Option.map_eq_some_iff.mp hcn
  have hs := Option.some.inj hs
  obtain ⟨s1, s2⟩ := s
  have H0 := Aside0.mk (And.intro hc (And.intro h (And.intro hw (And.intro hlen (And.intro hN (And.intro hs (And.intro hcr hcl)))))))
  have f1 := blk_cell h.n 0
  simp only [List.getElem?_toArray, List.getElem?_cons_zero] at f1
  have ceq : ((way.length : Int) == (N : Int)) = true := by rw [hlen]; simp
  clear hc h hw hlen hN hs hcr hcl hcn
  have cases4 : ¬ (rd_T53 way ((N : Int) - 1)).f1 = last ∨ ((rd_T53 way ((N : Int) - 1)).f1 = last ∧ s2 < 0) ∨ ((rd_T53 way ((N : Int) - 1)).f1 = last ∧ ¬ s2 < 0 ∧ c < s2) ∨ ((rd_T53 way ((N : Int) - 1)).f1 = last ∧ ¬ s2 < 0 ∧ ¬ c < s2) := by omega
  go_enter Try.func56, Try.ntmps56
  go_upto_region 3 with (go_at_call 44; refine (impl_crossings.calls K Aw cw way false cs _ (Kd.R_reads' H0.out.2.2.1).2.2 (Kd.R_reads' H0.out.2.2.1).2.1 H0.out.2.2.2.2.2.2.1).mono ?_; rintro e w1 ⟨v19, rfl, ho, hb⟩; obtain ⟨A19, c19, rfl⟩ := Kd.R_slice ho; have HB1 := Aside0.mk hb; clear ho hb f1)
  have HI1 := Aside0.mk (H0.out.2.1.below HB1.out)
  have HW1 := Aside0.mk (Kd.R_below H0.out.2.2.1 HB1.out)
  have f1 := blk_cell HI1.out.n 0
  have f2 := blk_cell HI1.out.l 0
  have f3 := blk_cell HI1.out.w 0
  simp only [List.getElem?_toArray, List.getElem?_cons_zero] at f1 f2 f3
  obtain ⟨ad, rfl, _, g1⟩ := at_T53 (Kd.R_reads' HW1.out).2.2 ((N : Int) - 1) (by have := H0.out.2.2.2.2.1; omega) (by have := H0.out.2.2.2.1; omega)
  obtain ⟨y, hy⟩ : ∃ y, y = (rd_T53 way ((N : Int) - 1)).f1 := ⟨_, rfl⟩
  have HY := Aside0.mk hy
  rw [← hy, show ((N : Int) - 1).toNat = N - 1 by omega] at g1
  have hwn : IntKind.i64.wrap ((N : Int) - 1) = (N : Int) - 1 := by rw [i64_w]; exact wrap_id _ (by omega) (by have := H0.out.2.2.2.2.1; omega)
  have p1 : (0 ≤ (N : Int) - 1) = True := eq_true (by have := H0.out.2.2.2.2.1; omega)
  have p1b : (1 ≤ (N : Int)) = True := eq_true (by have := H0.out.2.2.2.2.1; omega)
  have p2 : ((N : Int) - 1 < (way.length : Int)) = True := eq_true (by have := H0.out.2.2.2.1; omega)
  rw [← hy] at cases4
  clear hy
  have hcl := H0.out.2.2.2.2.2.2.2
  have HF := Aside0.mk H0.out.2.2.2.2.2.1
  rw [← HY.out, ← hcl] at HF
  rw [← hcl] at cases4
  clear hcl
  rcases cases4 with c1 | ⟨c1, c2⟩ | ⟨c1, c2, c3⟩ | ⟨c1, c2, c3⟩
  · have b1 : (y == last) = false := by simp [c1]
    have hs : (s1, s2) = s' := by have := HF.out; rw [if_neg (by simp [c1])] at this; exact this
    have HS := Aside0.mk hs
    clear c1 hs
    go_quiet (fail)
    go_wp2
    (try simp only [Exit.inBlock, Exit.then]); refine bodyPost_ret (results_none rfl _ _ _) rfl ?_
    rw [← HS.out]
    exact ⟨rfl, vb, HI1.out.below (pw_below_drewN (Below.refl _ _) _), (Touch.of_below HB1.out).drewN _⟩
  · have b1 : (y == last) = true := by simp [c1]
    have b2 := decide_eq_true c2
    have hs : (way, (cs.length : Int)) = s' := by have := HF.out; rw [if_pos (by omega)] at this; exact this
    have HS := Aside0.mk hs
    clear c1 c2 hs
    go_quiet (fail)
    have HI2 := Aside0.mk (HI1.out.below (pw_below_drewN (Below.refl w1.heap.size w1) nq))
    have HW2 := Aside0.mk (Kd.R_drewN HW1.out nq)
    obtain ⟨w2, HE⟩ : ∃ w2, Aside0 (w2 = w1.drewN nq) := ⟨_, ⟨rfl⟩⟩
    rw [← HE.out] at HI2 HW2
    rw [← HE.out]
    have HT2 := Aside0.mk (show Touch (sX gw gb) W w2 from by rw [HE.out]; exact (Touch.of_below HB1.out).drewN _)
    clear HE f1 f2 f3 g1
    have hfin : ∀ (v : Value) (w3 : World), Kd.R k53 53 w3 w2.heap.size (fun _ => True) v way → Below w2.heap.size w2 w3 → WI w0 gn gl gw gb gp gx N F M A last (way, (cs.length : Int)) v ((w3.setCell ⟨gb, 0, none⟩ v).setCell ⟨gw, 0, none⟩ (.int .i64 (cs.length : Int))) ∧ Touch (sX gw gb) W ((w3.setCell ⟨gb, 0, none⟩ v).setCell ⟨gw, 0, none⟩ (.int .i64 (cs.length : Int))) := fun v w3 ho hb =>
      ⟨WI.set H0.out.1 (HI2.out.below hb) _ (Kd.R_lower ho HI2.out.bw.size), (((HT2.out.later hb).set (fun _ => .inr rfl) _).set (fun _ => .inl rfl) _)⟩
    have HFIN := Aside0.mk hfin
    clear hfin
    go_wp2_with (first | ((with_reducible refine gate_dst (N := 38) rfl ?_); refine Kd.R_lit k53 (w0 := w2) w2.heap.size 53 ?hg (N := 38) ?hd (xs := ([] : List S53)) (inner := []) (ok := fun _ => True) (okp := fun _ => True) ?hr ?hp (fun _ hk => hk) trivial (Below.refl _ _) (Nat.le_refl _) (by simp) ?_; (case hd => rfl); (case hg => rfl); (case hr => first | (go_simp; done) | (go_simp; rfl)); (case hp => exact (Reps.none _ _)); intro v38 w3 ho hb hg_ hnew_; have HV := Aside0.mk (And.intro ho hb); clear hg_ hnew_ ho hb) | (at_builtin; refine Kd.R_append_rows k53 (w0 := w2) w2.heap.size rfl (.tmp 38) (.tmp 39) 29 53 (.agg #[(.int .i64 0), (.int .i64 0)]) 16 rfl Try.underlying29 infoStopW rfl (by decide) (by omega) v38 [] way _ _ _ (fun _ => True) (fun _ => False) rfl rfl ?aO ?aR (fun x cs h => kKM x cs h) (fun _ h => h.elim) ?aF ?aB ?aS ?aL ?_; (case aR => exact Kd.C_below (Kd.R_reads' HW2.out).2.2 HV.out.2); (case aB => exact HV.out.2); (case aF => exact (fun _ _ => trivial)); (case aO => exact HV.out.1); (case aS => exact HV.out.2.size); (case aL => have := H0.out.2.2.2.2.1; have := H0.out.2.2.2.1; simp; omega); intro v40 w4 ho hb hg hat; obtain ⟨A40, c40, rfl⟩ := Kd.R_slice ho; have HI4 := HI2.out.below hb; have q4 := blk_cell HI4.b 0; have y4 := blk_frozen HI4.b 0; have m4 := blk_far (p := ⟨gb, 0, none⟩) HI4.w (Ne.symm H0.out.1.ne.2.2.1) (.slice A40 way.length c40); have q3 := blk_cell m4 0; have y3 := blk_frozen m4 0; simp only [List.getElem?_toArray, List.getElem?_cons_zero] at q3 q4; have HZ := Aside0.mk (HFIN.out _ _ ho hb); clear ho hb hg hat m4 HI4))
    (try simp only [Exit.inBlock, Exit.then]); refine bodyPost_ret (results_none rfl _ _ _) rfl ?_
    rw [← HS.out]
    exact ⟨rfl, _, HZ.out.1, HZ.out.2⟩
  · have b1 : (y == last) = true := by simp [c1]
    have b2 : decide (s2 < 0) = false := decide_eq_false (by omega)
    have b3 : decide ((cs.length : Int) < s2) = true := decide_eq_true (by omega)
    have hs : (way, (cs.length : Int)) = s' := by have := HF.out; rw [if_pos (by omega)] at this; exact this
    have HS := Aside0.mk hs
    clear c1 c2 c3 hs
    go_quiet (fail)
    have HI2 := Aside0.mk (HI1.out.below (pw_below_drewN (Below.refl w1.heap.size w1) nq))
    have HW2 := Aside0.mk (Kd.R_drewN HW1.out nq)
    obtain ⟨w2, HE⟩ : ∃ w2, Aside0 (w2 = w1.drewN nq) := ⟨_, ⟨rfl⟩⟩
    rw [← HE.out] at HI2 HW2
    rw [← HE.out]
    have HT2 := Aside0.mk (show Touch (sX gw gb) W w2 from by rw [HE.out]; exact (Touch.of_below HB1.out).drewN _)
    clear HE f1 f2 f3 g1
    have hfin : ∀ (v : Value) (w3 : World), Kd.R k53 53 w3 w2.heap.size (fun _ => True) v way → Below w2.heap.size w2 w3 → WI w0 gn gl gw gb gp gx N F M A last (way, (cs.length : Int)) v ((w3.setCell ⟨gb, 0, none⟩ v).setCell ⟨gw, 0, none⟩ (.int .i64 (cs.length : Int))) ∧ Touch (sX gw gb) W ((w3.setCell ⟨gb, 0, none⟩ v).setCell ⟨gw, 0, none⟩ (.int .i64 (cs.length : Int))) := fun v w3 ho hb =>
      ⟨WI.set H0.out.1 (HI2.out.below hb) _ (Kd.R_lower ho HI2.out.bw.size), (((HT2.out.later hb).set (fun _ => .inr rfl) _).set (fun _ => .inl rfl) _)⟩
    have HFIN := Aside0.mk hfin
    clear hfin
    go_wp2_with (first | ((with_reducible refine gate_dst (N := 38) rfl ?_); refine Kd.R_lit k53 (w0 := w2) w2.heap.size 53 ?hg (N := 38) ?hd (xs := ([] : List S53)) (inner := []) (ok := fun _ => True) (okp := fun _ => True) ?hr ?hp (fun _ hk => hk) trivial (Below.refl _ _) (Nat.le_refl _) (by simp) ?_; (case hd => rfl); (case hg => rfl); (case hr => first | (go_simp; done) | (go_simp; rfl)); (case hp => exact (Reps.none _ _)); intro v38 w3 ho hb hg_ hnew_; have HV := Aside0.mk (And.intro ho hb); clear hg_ hnew_ ho hb) | (at_builtin; refine Kd.R_append_rows k53 (w0 := w2) w2.heap.size rfl (.tmp 38) (.tmp 39) 29 53 (.agg #[(.int .i64 0), (.int .i64 0)]) 16 rfl Try.underlying29 infoStopW rfl (by decide) (by omega) v38 [] way _ _ _ (fun _ => True) (fun _ => False) rfl rfl ?aO ?aR (fun x cs h => kKM x cs h) (fun _ h => h.elim) ?aF ?aB ?aS ?aL ?_; (case aR => exact Kd.C_below (Kd.R_reads' HW2.out).2.2 HV.out.2); (case aB => exact HV.out.2); (case aF => exact (fun _ _ => trivial)); (case aO => exact HV.out.1); (case aS => exact HV.out.2.size); (case aL => have := H0.out.2.2.2.2.1; have := H0.out.2.2.2.1; simp; omega); intro v40 w4 ho hb hg hat; obtain ⟨A40, c40, rfl⟩ := Kd.R_slice ho; have HI4 := HI2.out.below hb; have q4 := blk_cell HI4.b 0; have y4 := blk_frozen HI4.b 0; have m4 := blk_far (p := ⟨gb, 0, none⟩) HI4.w (Ne.symm H0.out.1.ne.2.2.1) (.slice A40 way.length c40); have q3 := blk_cell m4 0; have y3 := blk_frozen m4 0; simp only [List.getElem?_toArray, List.getElem?_cons_zero] at q3 q4; have HZ := Aside0.mk (HFIN.out _ _ ho hb); clear ho hb hg hat m4 HI4))
    (try simp only [Exit.inBlock, Exit.then]); refine bodyPost_ret (results_none rfl _ _ _) rfl ?_
    rw [← HS.out]
    exact ⟨rfl, _, HZ.out.1, HZ.out.2⟩
  · have b1 : (y == last) = true := by simp [c1]
    have b2 : decide (s2 < 0) = false := decide_eq_false (by omega)
    have b3 : decide ((cs.length : Int) < s2) = false := decide_eq_false (by omega)
    have hs : (s1, s2) = s' := by have := HF.out; rw [if_neg (by omega)] at this; exact this
    have HS := Aside0.mk hs
    clear c1 c2 c3 hs
    go_quiet (fail)
    go_wp2
    (try simp only [Exit.inBlock, Exit.then]); refine bodyPost_ret (results_none rfl _ _ _) rfl ?_
    rw [← HS.out]
    exact ⟨rfl, vb, HI1.out.below (pw_below_drewN (Below.refl _ _) _), (Touch.of_below HB1.out).drewN _⟩
end
section
variable {w0 W : World} {gn gl gw gb gp gx : Nat} {N : Nat} {F M : Int} {A : Bool} {last : Int} {s s' : List S53 × Int} {vb : Value} {Aw : Option Addr} {cw : Nat} {way : List S53} {K m : Nat} {leaf : List S53 → List S53 × Int → Option (List S53 × Int)}
def hasI (K : Nat) (way : List S53) (b k : Int) : Option Bool := impl_Stop_57.f K way b k
set_option maxHeartbeats 16000000 in
set_option maxRecDepth 100000 in
theorem ext_node (hc : WC w0 gn gl gw gb gp gx) (hF : (0 ≤ F ∧ F ≤ 1000) ∧ (0 ≤ M ∧ M ≤ 1000)) (hN : way.length < N ∧ N ≤ 1000)
    (ih : ∀ (W : World) (way' : List S53) (Aw : Option Addr) (cw : Nat) (s s' : List S53 × Int) (vb : Value), WI w0 gn gl gw gb gp gx N F M A last s vb W → Kd.R k53 53 W w0.heap.size (fun _ => True) (.slice Aw way'.length cw) way' → way'.length = way.length + 1 → wyO leaf (hasI K) (bkI F M A) (manyI F M) m way' s = some s' →
      Calls Try.prog 56 #[.slice Aw way'.length cw, .pointer (some ⟨gn, 0, none⟩), .pointer (some ⟨gl, 0, none⟩), .pointer (some ⟨gw, 0, none⟩), .pointer (some ⟨gb, 0, none⟩), .pointer (some ⟨gp, 0, none⟩), .pointer (some ⟨gx, 0, none⟩)] W (PostX w0 gn gl gw gb gp gx N F M A last s' W))
    (h : WI w0 gn gl gw gb gp gx N F M A last s vb W) (hw : Kd.R k53 53 W w0.heap.size (fun _ => True) (.slice Aw way.length cw) way) (hs : wyO leaf (hasI K) (bkI F M A) (manyI F M) (m + 1) way s = some s') :
    Calls Try.prog 56 #[.slice Aw way.length cw, .pointer (some ⟨gn, 0, none⟩), .pointer (some ⟨gl, 0, none⟩), .pointer (some ⟨gw, 0, none⟩), .pointer (some ⟨gb, 0, none⟩), .pointer (some ⟨gp, 0, none⟩), .pointer (some ⟨gx, 0, none⟩)] W (PostX w0 gn gl gw gb gp gx N F M A last s' W) := by
  rw [wyO_step] at hs
  obtain ⟨b, hb⟩ : ∃ b, b = bkI F M A way.length := ⟨_, rfl⟩
  obtain ⟨mn, hmn⟩ : ∃ mn, mn = manyI F M b := ⟨_, rfl⟩
  have hmr : 0 ≤ mn ∧ mn ≤ 1000 := by rw [hmn]; unfold manyI; split <;> omega
  rw [← hb, ← hmn] at hs
  have hba : impl_blockAt.f F M A (way.length : Int) = some b := by rw [hb]; exact blockAt_eq _ ⟨hF.1, hF.2, by omega⟩
  have hsa : impl_sheavesAt.f F M A b = some mn := by rw [hmn]; exact sheavesAt_eq _ _ _ _
  have H0 := Aside0.mk (And.intro hc (And.intro hN (And.intro hw (And.intro hs (And.intro hba (And.intro hsa (And.intro hmr hb)))))))
  have HI := Aside0.mk h
  have HIH := Aside0.mk ih
  have f1 := blk_cell h.n 0
  have f5 := blk_cell h.p 0
  have f5b := blk_cell h.p 1
  have f5c := blk_cell h.p 2
  simp only [List.getElem?_toArray, List.getElem?_cons_zero, List.getElem?_cons_succ] at f1 f5 f5b f5c
  have ceq : ((way.length : Int) == (N : Int)) = false := by simp; omega
  clear hc h hw hs hb hmn hba hsa hF hN ih hmr
  go_enter Try.func56, Try.ntmps56
  go_wp2_with (go_at_call 55; refine (impl_blockAt.calls F M A _ b _ H0.out.2.2.2.2.1).mono ?_; rintro e w1 ⟨rfl, hb1⟩; have HB1 := Aside0.mk hb1; clear hb1 f1 f5 f5b f5c)
  go_loopg [11] (mn.toNat + 1) (fun kq v11 w' => ∃ (i : Int), v11 = .int .i64 i ∧ Aside0 (0 ≤ i ∧ i + kq = mn + 1 ∧ 1 ≤ kq) ∧ ∃ (vb1 : Value) (s1 : List S53 × Int), Aside0 (WI w0 gn gl gw gb gp gx N F M A last s1 vb1 w' ∧ Touch (sX gw gb) W w') ∧ Aside0 (rdsO (stepO leaf (hasI K) (bkI F M A) (manyI F M) m way) (kq - 1) i s1 = some s'))
  case atStart => exact ⟨0, rfl, ⟨by omega, by have := H0.out.2.2.2.2.2.2.1; omega, by omega⟩, vb, s, ⟨HI.out.below HB1.out, Touch.of_below HB1.out⟩, ⟨H0.out.2.2.2.1⟩⟩
  case round =>
    obtain ⟨i, rfl, HA, vb1, s1, HJ, HS⟩ := hrel
    obtain ⟨k0, kk, k1⟩ := HA.out
    obtain ⟨gq, rfl⟩ : ∃ m, gk = m + 1 := ⟨gk - 1, by omega⟩
    have HK := Aside0.mk (And.intro k0 kk)
    clear HA k0 kk k1
    have f5 := blk_cell HJ.out.1.p 0
    have f5b := blk_cell HJ.out.1.p 1
    have f5c := blk_cell HJ.out.1.p 2
    simp only [List.getElem?_toArray, List.getElem?_cons_zero, List.getElem?_cons_succ] at f5 f5b f5c
    by_cases c2 : i < mn
    · have c2b := decide_eq_true c2
      have C2 := Aside0.mk c2
      clear c2
      obtain ⟨gr, rfl⟩ : ∃ m, gq = m + 1 := ⟨gq - 1, by have := C2.out; have := HK.out; omega⟩
      obtain ⟨s2, hs2, hs3⟩ := Option.bind_eq_some_iff.mp (show (stepO leaf (hasI K) (bkI F M A) (manyI F M) m way i s1).bind (fun s' => rdsO (stepO leaf (hasI K) (bkI F M A) (manyI F M) m way) gr (i + 1) s') = some s' from HS.out)
      obtain ⟨bb, hbb, hs4⟩ := Option.bind_eq_some_iff.mp hs2
      rw [← H0.out.2.2.2.2.2.2.2] at hbb
      have HX := Aside0.mk (And.intro hs3 (And.intro hbb hs4))
      clear hs2 hs3 hbb hs4
      cases bb with
      | true =>
        go_wp2_with (first | (go_at_call 54; refine (impl_sheavesAt.calls F M A b mn _ H0.out.2.2.2.2.2.1).mono ?_; rintro e w2 ⟨rfl, hb2⟩; have HB2 := Aside0.mk hb2; clear hb2 f5 f5b f5c) | (go_at_call 57; refine (impl_Stop_57.calls K Aw cw way b i true _ (Kd.C_below (Kd.R_reads' (HJ.out.1.keep0 HI.out H0.out.2.2.1 HJ.out.2)).2.2 (below_alloc HB2.out _)) (Kd.R_reads' H0.out.2.2.1).2.1 HX.out.2.1).mono ?_; rintro e w3 ⟨rfl, hb3⟩; have HB3 := Aside0.mk (below_step (below_alloc HB2.out _) hb3); clear hb3))
        go_roundg (gr + 1)
        case measure => omega
        case rel =>
          have hw := wrap_id (i + 1) (by have := HK.out; omega) (by have := HK.out; have := H0.out.2.2.2.2.2.2.1; omega)
          have e : s1 = s2 := by have := HX.out.2.2; simpa using this
          refine ⟨i + 1, by rw [hw], ⟨by have := HK.out; omega, by have := HK.out; omega, by have := C2.out; have := HK.out; omega⟩, vb1, s1, ⟨HJ.out.1.below HB3.out, HJ.out.2.later HB3.out⟩, ⟨?_⟩⟩
          rw [e]; exact HX.out.1
      | false =>
        go_upto_region 11 with (first | (go_at_call 54; refine (impl_sheavesAt.calls F M A b mn _ H0.out.2.2.2.2.2.1).mono ?_; rintro e w2 ⟨rfl, hb2⟩; have HB2 := Aside0.mk hb2; clear hb2 f5 f5b f5c) | (go_at_call 57; refine (impl_Stop_57.calls K Aw cw way b i false _ (Kd.C_below (Kd.R_reads' (HJ.out.1.keep0 HI.out H0.out.2.2.1 HJ.out.2)).2.2 (below_alloc HB2.out _)) (Kd.R_reads' H0.out.2.2.1).2.1 HX.out.2.1).mono ?_; rintro e w3 ⟨rfl, hb3⟩; have HB3 := Aside0.mk hb3; clear hb3))
        obtain ⟨gt, HGT⟩ : ∃ g, Aside0 (g = w2.heap.size) := ⟨_, ⟨rfl⟩⟩
        rw [← HGT.out]
        have HG := Aside0.mk (show WI w0 gn gl gw gb gp gx N F M A last s1 vb1 w3 ∧ Touch (sX gw gb) W w3 ∧ (∀ w', Below w3.heap.size w3 w' → w'.cell? ⟨gx, 0, none⟩ = some (.func (.func 56) #[] #[.pointer (some ⟨gn, 0, none⟩), .pointer (some ⟨gl, 0, none⟩), .pointer (some ⟨gw, 0, none⟩), .pointer (some ⟨gb, 0, none⟩), .pointer (some ⟨gp, 0, none⟩), .pointer (some ⟨gx, 0, none⟩)]) ∧ w'.cell? ⟨gt, 0, none⟩ = some (.int .i64 b) ∧ w'.cell? ⟨gt, 1, none⟩ = some (.int .i64 i)) from by
          have b23 := below_step (below_alloc HB2.out (.cells #[.int .i64 b, .int .i64 i] 53)) HB3.out
          have hI3 := HJ.out.1.below b23
          have ht : w3.heap[gt]? = some (.cells #[.int .i64 b, .int .i64 i] 53 (0, 0)) := by rw [HGT.out]; exact (HB3.out.block _ (by rw [size_alloc]; omega)).trans (alloc_at _ _)
          refine ⟨hI3, HJ.out.2.later b23, fun w' hb => ?_⟩
          have hx := blk_cell ((hI3.below hb).x) 0
          have ht' := (hb.block gt (blk_lt ht)).trans ht
          have h0 := blk_cell ht' 0
          have h1 := blk_cell ht' 1
          simp only [List.getElem?_toArray, List.getElem?_cons_zero, List.getElem?_cons_succ] at hx h0 h1
          exact ⟨hx, h0, h1⟩)
        clear HGT HB2 HB3
        refine start_ (n := 8) (S := fun w' => w'.cell? ⟨gx, 0, none⟩ = some (.func (.func 56) #[] #[.pointer (some ⟨gn, 0, none⟩), .pointer (some ⟨gl, 0, none⟩), .pointer (some ⟨gw, 0, none⟩), .pointer (some ⟨gb, 0, none⟩), .pointer (some ⟨gp, 0, none⟩), .pointer (some ⟨gx, 0, none⟩)]) ∧ w'.cell? ⟨gt, 0, none⟩ = some (.int .i64 b) ∧ w'.cell? ⟨gt, 1, none⟩ = some (.int .i64 i)) (ds := [7]) #[false, false, false, false, false, false, false, false] (by kernel_rfl) rfl rfl (HG.out.2.2 _ (below_drew (Below.refl w3.heap.size w3))) (fun hHeld => ?_)
        obtain ⟨w4, HE⟩ : ∃ w4, Aside0 (w4 = w3.drew) := ⟨_, ⟨rfl⟩⟩
        rw [← HE.out]
        rw [← HE.out] at hHeld
        have HB4 := Aside0.mk (show Below w3.heap.size w3 w4 from HE.out ▸ below_drew (Below.refl _ _))
        clear HE
        refine pure_ (i := 2) (N := some 61) (v := ?_) (a' := ?_) #[false, false, true, false, false, false, false, false] rfl rfl (by kernel_rfl) (fun _ _ _ h => h) (Or.inl ⟨by rfl, ?_⟩) ?_ ?_
        rotate_left
        · intro w'
          go_simp
          with_reducible rfl
        rotate_left
        · simp only [Act.put, List.setIfInBounds_toArray, List.set_cons_zero, List.set_cons_succ, i64_w, i32_w]
          rfl
        refine take_ (i := 0) (N := some 59) (v := ?_) (a' := ?_) #[true, false, true, false, false, false, false, false] rfl rfl (by kernel_rfl) (fun _ _ _ h => h) (Or.inl ⟨by rfl, ?_⟩) hHeld ?_ ?_
        rotate_left
        · rintro w' ⟨s0, s1, s2⟩
          go_simp
          with_reducible rfl
        rotate_left
        · simp only [Act.put, List.setIfInBounds_toArray, List.set_cons_zero, List.set_cons_succ, i64_w, i32_w]
          rfl
        refine take_ (i := 4) (N := some 63) (v := ?_) (a' := ?_) #[true, false, true, false, true, false, false, false] rfl rfl (by kernel_rfl) (fun _ _ _ h => h) (Or.inl ⟨by rfl, ?_⟩) hHeld ?_ ?_
        rotate_left
        · rintro w' ⟨s0, s1, s2⟩
          go_simp
          with_reducible rfl
        rotate_left
        · simp only [Act.put, List.setIfInBounds_toArray, List.set_cons_zero, List.set_cons_succ, i64_w, i32_w]
          rfl
        refine join_ (σ := Value × Value × Value × Value) 1 #[true, true, true, true, true, true, true, false] (fun s => [(60, s.1), (62, s.2.1), (64, s.2.2.1), (65, s.2.2.2)]) (fun s w' => Below w4.heap.size w4 w' ∧ Kd.R k53 53 w' w4.heap.size (fun _ => True) s.2.2.2 (way ++ [(⟨b, i⟩ : S53)])) ?_ ?_
        · rintro ⟨v60, v62, v64, v65⟩ w5 ⟨hb5, hr5⟩
          obtain ⟨A65, c65, hv65⟩ := Kd.R_slice hr5
          simp only [List.length_append, List.length_cons, List.length_nil, Nat.zero_add] at hv65
          subst hv65
          have HY := Aside0.mk (And.intro hb5 hr5)
          clear hb5 hr5 hHeld
          refine norm_ (a' := ?_) ?_ ?_
          rotate_left
          · simp only [putAll, Act.put, List.setIfInBounds_toArray, List.set_cons_zero, List.set_cons_succ]
            rfl
          refine last_ (i := 7) (N := some 66) #[true, true, true, true, true, true, true, true] rfl rfl (by kernel_rfl) (by decide) (fun K hK => ?_)
          refine call_ 56 #[.slice A65 (way.length + 1) c65, .pointer (some ⟨gn, 0, none⟩), .pointer (some ⟨gl, 0, none⟩), .pointer (some ⟨gw, 0, none⟩), .pointer (some ⟨gb, 0, none⟩), .pointer (some ⟨gp, 0, none⟩), .pointer (some ⟨gx, 0, none⟩)] (by rfl) rfl (by go_simp) ?_
          have HD := Aside0.mk (show WI w0 gn gl gw gb gp gx N F M A last s1 vb1 w5 ∧ Touch (sX gw gb) W w5 ∧ Kd.R k53 53 w5 w0.heap.size (fun _ => True) (.slice A65 (way.length + 1) c65) (way ++ [(⟨b, i⟩ : S53)]) from by
            have b35 : Below w3.heap.size w3 w5 := below_step HB4.out HY.out.1
            exact ⟨HG.out.1.below b35, HG.out.2.1.later b35, Kd.R_lower HY.out.2 (Nat.le_trans HG.out.1.bw.size HB4.out.size)⟩)
          have e1 : (way ++ [(⟨b, i⟩ : S53)]).length = way.length + 1 := by simp
          have hcall := HIH.out w5 (way ++ [(⟨b, i⟩ : S53)]) A65 c65 s1 s2 vb1 HD.out.1 (by rw [e1]; exact HD.out.2.2) e1 (by have h := HX.out.2.2; rw [← H0.out.2.2.2.2.2.2.2] at h; simpa using h)
          rw [e1] at hcall
          refine hcall.mono ?_
          rintro e w6 ⟨rfl, vb6, hJ6, hT6⟩
          refine ⟨_, rfl, ?_⟩
          have HZ := Aside0.mk (And.intro hJ6 (HD.out.2.1.step hT6))
          clear hJ6 hT6 hcall e1
          refine hK.out _ _ ?_
          clear hK K
          refine done_ (by kernel_rfl) ?_
          go_wp2
          go_roundg (gr + 1)
          case measure => omega
          case rel =>
            have hw := wrap_id (i + 1) (by have := HK.out; omega) (by have := HK.out; have := H0.out.2.2.2.2.2.2.1; omega)
            exact ⟨i + 1, by rw [hw], ⟨by have := HK.out; omega, by have := HK.out; omega, by have := C2.out; have := HK.out; omega⟩, vb6, s2, HZ, ⟨HX.out.1⟩⟩
        · intro hjoin
          have HSF := Aside0.mk (show ∀ w', Below w4.heap.size w4 w' → (w'.cell? ⟨gx, 0, none⟩ = some (.func (.func 56) #[] #[.pointer (some ⟨gn, 0, none⟩), .pointer (some ⟨gl, 0, none⟩), .pointer (some ⟨gw, 0, none⟩), .pointer (some ⟨gb, 0, none⟩), .pointer (some ⟨gp, 0, none⟩), .pointer (some ⟨gx, 0, none⟩)]) ∧ w'.cell? ⟨gt, 0, none⟩ = some (.int .i64 b) ∧ w'.cell? ⟨gt, 1, none⟩ = some (.int .i64 i)) from fun w' hb => HG.out.2.2 w' (below_step HB4.out hb))
          refine two_ (i := 1) (j := 5) (Ni := some 60) (Nj := some 64) #[true, true, true, false, true, false, false, false] #[true, false, true, false, true, true, false, false] rfl rfl rfl rfl (by kernel_rfl) (by decide) (by decide) (fun K hK => ?_) (fun K hK => ?_)
          · skip
            refine value_ (w1 := ?_) (v := ?_) (by rfl) rfl ?_ ?_
            rotate_left 2
            · go_simp
              constructor
              · rfl
              · rfl
            refine hK.out _ _ (HSF.out _ (below_alloc (Below.refl w4.heap.size w4) (.cells #[] 53))) (fun hHeld => ?_)
            clear hK K
            refine norm_ (a' := ?_) ?_ ?_
            rotate_left
            · show Act.put _ (some 60) _ = _
              simp only [Act.put, List.setIfInBounds_toArray, List.set_cons_zero, List.set_cons_succ, i64_w, i32_w]
              rfl
            have HR60 := Aside0.mk (show Kd.R k53 53 (w4.alloc (.cells #[] 53)) w4.heap.size (fun _ => True) (Value.slice (some ⟨w4.heap.size, 0, none⟩) 0 0) [] from (lit_R k53 w4 53 w4.heap.size (xs := []) (inner := []) (fun _ _ _ => Reps.none _ _) (Nat.le_refl _) (by simp)))
            refine two_ (i := 3) (j := 5) (Ni := some 62) (Nj := some 64) #[true, true, true, true, true, false, false, false] #[true, true, true, false, true, true, false, false] rfl rfl rfl rfl (by kernel_rfl) (by decide) (by decide) (fun K hK => ?_) (fun K hK => ?_)
            · skip
              refine Kd.R_append_rows_step k53 (w0 := w4) w4.heap.size (by rfl) (.tmp 60) (.tmp 61) 29 53 (.agg #[(.int .i64 0), (.int .i64 0)]) 16 rfl Try.underlying29 infoStopW rfl (by decide) (by omega) (Value.slice (some ⟨w4.heap.size, 0, none⟩) 0 0) [] way _ _ _ (fun _ => True) (fun _ => False) rfl rfl ?aO ?aR (fun x cs h => kKM x cs h) (fun _ h => h.elim) ?aF ?aB ?aS ?aL ?_
              (case aR => exact Kd.C_below (Kd.R_reads' (HG.out.1.keep0 HI.out H0.out.2.2.1 HG.out.2.1)).2.2 (below_step HB4.out (below_alloc (Below.refl w4.heap.size w4) (.cells #[] 53))))
              (case aB => exact (below_alloc (Below.refl w4.heap.size w4) (.cells #[] 53)))
              (case aF => exact (fun _ _ => trivial))
              (case aO => exact HR60.out)
              (case aS => exact ((below_alloc (Below.refl w4.heap.size w4) (.cells #[] 53))).size)
              (case aL => have := H0.out.2.1; simp; omega)
              intro v62 w6 ho6 hb6 _ _
              refine hK.out _ _ (HSF.out _ hb6) (fun hHeld => ?_)
              clear hK K
              refine norm_ (a' := ?_) ?_ ?_
              rotate_left
              · show Act.put _ (some 62) _ = _
                simp only [Act.put, List.setIfInBounds_toArray, List.set_cons_zero, List.set_cons_succ, i64_w, i32_w]
                rfl
              refine one_ (i := 5) (N := some 64) #[true, true, true, true, true, true, false, false] rfl rfl (by kernel_rfl) (by decide) (fun K hK => ?_)
              refine value_ (w1 := ?_) (v := ?_) (by rfl) rfl ?_ ?_
              rotate_left 2
              · go_simp
                constructor
                · rfl
                · rfl
              refine hK.out _ _ (HSF.out _ (below_alloc hb6 _)) (fun hHeld => ?_)
              clear hK K
              refine norm_ (a' := ?_) ?_ ?_
              rotate_left
              · show Act.put _ (some 64) _ = _
                simp only [Act.put, List.setIfInBounds_toArray, List.set_cons_zero, List.set_cons_succ, i64_w, i32_w]
                rfl
              refine one_ (i := 6) (N := some 65) #[true, true, true, true, true, true, true, false] rfl rfl (by kernel_rfl) (by decide) (fun K hK => ?_)
              refine Kd.R_append_rows_step k53 (w0 := w4) w4.heap.size (by rfl) (.tmp 62) (.tmp 64) 29 53 (.agg #[(.int .i64 0), (.int .i64 0)]) 16 rfl Try.underlying29 infoStopW rfl (by decide) (by omega) v62 way [(⟨b, i⟩ : S53)] _ _ _ (fun _ => True) (fun _ => False) rfl rfl ?aO ?aR (fun x cs h => kKM x cs h) (fun _ h => h.elim) ?aF ?aB ?aS ?aL ?_
              (case aR => exact (Kd.R_reads' (lit_R k53 w6 53 w4.heap.size (xs := [(⟨b, i⟩ : S53)]) (inner := [.int .i64 b, .int .i64 i]) (fun w_ b_ ok_ => Reps.snoc (Reps.none _ _) (k53_mkM w_ b_ ok_ (⟨b, i⟩ : S53)) rfl) hb6.size (by simp))).2.2)
              (case aB => exact (below_alloc hb6 (.cells #[.int .i64 b, .int .i64 i] 53)))
              (case aF => exact (fun _ _ => trivial))
              (case aO => exact (Kd.R_alloc ho6 _))
              (case aS => exact ((below_alloc hb6 (.cells #[.int .i64 b, .int .i64 i] 53))).size)
              (case aL => have := H0.out.2.1; simp; omega)
              intro v65 w8 ho8 hb8 _ _
              refine hK.out _ _ (HSF.out _ hb8) (fun hHeld => ?_)
              clear hK K
              refine norm_ (a' := ?_) ?_ ?_
              rotate_left
              · show Act.put _ (some 65) _ = _
                simp only [Act.put, List.setIfInBounds_toArray, List.set_cons_zero, List.set_cons_succ, i64_w, i32_w]
                rfl
              have hj := hjoin ((Value.slice (some ⟨w4.heap.size, 0, none⟩) 0 0), v62, (Value.slice (some ⟨w6.heap.size, 0, none⟩) 1 1), v65) w8 ⟨hb8, ho8⟩
              simp only [putAll, Act.put, List.setIfInBounds_toArray, List.set_cons_zero, List.set_cons_succ] at hj
              exact hj
            · skip
              refine value_ (w1 := ?_) (v := ?_) (by rfl) rfl ?_ ?_
              rotate_left 2
              · go_simp
                constructor
                · rfl
                · rfl
              refine hK.out _ _ (HSF.out _ (below_alloc (below_alloc (Below.refl w4.heap.size w4) (.cells #[] 53)) (.cells #[.int .i64 b, .int .i64 i] 53))) (fun hHeld => ?_)
              clear hK K
              refine norm_ (a' := ?_) ?_ ?_
              rotate_left
              · show Act.put _ (some 64) _ = _
                simp only [Act.put, List.setIfInBounds_toArray, List.set_cons_zero, List.set_cons_succ, i64_w, i32_w]
                rfl
              have HRX := Aside0.mk (Kd.R_tight rfl (show Kd.R k53 53 ((w4.alloc (.cells #[] 53)).alloc (.cells #[.int .i64 b, .int .i64 i] 53)) w4.heap.size (fun _ => True) (.slice (some ⟨w4.heap.size + 1, 0, none⟩) 1 1) [(⟨b, i⟩ : S53)] from by have h := (lit_R k53 (w4.alloc (.cells #[] 53)) 53 w4.heap.size (xs := [(⟨b, i⟩ : S53)]) (inner := [.int .i64 b, .int .i64 i]) (fun w_ b_ ok_ => Reps.snoc (Reps.none _ _) (k53_mkM w_ b_ ok_ (⟨b, i⟩ : S53)) rfl) (by rw [size_alloc]; omega) (by simp)); rw [size_alloc] at h; exact h))
              refine one_ (i := 3) (N := some 62) #[true, true, true, true, true, true, false, false] rfl rfl (by kernel_rfl) (by decide) (fun K hK => ?_)
              refine Kd.R_append_rows_step k53 (w0 := w4) w4.heap.size (by rfl) (.tmp 60) (.tmp 61) 29 53 (.agg #[(.int .i64 0), (.int .i64 0)]) 16 rfl Try.underlying29 infoStopW rfl (by decide) (by omega) (Value.slice (some ⟨w4.heap.size, 0, none⟩) 0 0) [] way _ _ _ (fun _ => True) (fun _ => False) rfl rfl ?aO ?aR (fun x cs h => kKM x cs h) (fun _ h => h.elim) ?aF ?aB ?aS ?aL ?_
              (case aR => exact Kd.C_below (Kd.R_reads' (HG.out.1.keep0 HI.out H0.out.2.2.1 HG.out.2.1)).2.2 (below_step HB4.out (below_alloc (below_alloc (Below.refl w4.heap.size w4) (.cells #[] 53)) (.cells #[.int .i64 b, .int .i64 i] 53))))
              (case aB => exact (below_alloc (below_alloc (Below.refl w4.heap.size w4) (.cells #[] 53)) (.cells #[.int .i64 b, .int .i64 i] 53)))
              (case aF => exact (fun _ _ => trivial))
              (case aO => exact (Kd.R_alloc HR60.out _))
              (case aS => exact ((below_alloc (below_alloc (Below.refl w4.heap.size w4) (.cells #[] 53)) (.cells #[.int .i64 b, .int .i64 i] 53))).size)
              (case aL => have := H0.out.2.1; simp; omega)
              intro v62 w6 ho6 hb6 hg6 _
              have HRY := Aside0.mk (Kd.R_grown HRX.out hg6 (fun k hk e => by have h1 := e.symm.trans hk; simp only [Value.ownBlock, size_alloc, Option.some.injEq] at h1 hk e; omega))
              refine hK.out _ _ (HSF.out _ hb6) (fun hHeld => ?_)
              clear hK K
              refine norm_ (a' := ?_) ?_ ?_
              rotate_left
              · show Act.put _ (some 62) _ = _
                simp only [Act.put, List.setIfInBounds_toArray, List.set_cons_zero, List.set_cons_succ, i64_w, i32_w]
                rfl
              refine one_ (i := 6) (N := some 65) #[true, true, true, true, true, true, true, false] rfl rfl (by kernel_rfl) (by decide) (fun K hK => ?_)
              refine Kd.R_append_rows_step k53 (w0 := w4) w4.heap.size (by rfl) (.tmp 62) (.tmp 64) 29 53 (.agg #[(.int .i64 0), (.int .i64 0)]) 16 rfl Try.underlying29 infoStopW rfl (by decide) (by omega) v62 way [(⟨b, i⟩ : S53)] _ _ _ (fun _ => True) (fun _ => False) rfl rfl ?aO ?aR (fun x cs h => kKM x cs h) (fun _ h => h.elim) ?aF ?aB ?aS ?aL ?_
              (case aR => exact (Kd.R_reads' HRY.out).2.2)
              (case aB => exact hb6)
              (case aF => exact (fun _ _ => trivial))
              (case aO => exact ho6)
              (case aS => exact (hb6).size)
              (case aL => have := H0.out.2.1; simp; omega)
              intro v65 w8 ho8 hb8 _ _
              refine hK.out _ _ (HSF.out _ hb8) (fun hHeld => ?_)
              clear hK K
              refine norm_ (a' := ?_) ?_ ?_
              rotate_left
              · show Act.put _ (some 65) _ = _
                simp only [Act.put, List.setIfInBounds_toArray, List.set_cons_zero, List.set_cons_succ, i64_w, i32_w]
                rfl
              have hj := hjoin ((Value.slice (some ⟨w4.heap.size, 0, none⟩) 0 0), v62, (Value.slice (some ⟨w4.heap.size + 1, 0, none⟩) 1 1), v65) w8 ⟨hb8, ho8⟩
              simp only [putAll, Act.put, List.setIfInBounds_toArray, List.set_cons_zero, List.set_cons_succ] at hj
              exact hj
          · skip
            refine value_ (w1 := ?_) (v := ?_) (by rfl) rfl ?_ ?_
            rotate_left 2
            · go_simp
              constructor
              · rfl
              · rfl
            refine hK.out _ _ (HSF.out _ (below_alloc (Below.refl w4.heap.size w4) (.cells #[.int .i64 b, .int .i64 i] 53))) (fun hHeld => ?_)
            clear hK K
            refine norm_ (a' := ?_) ?_ ?_
            rotate_left
            · show Act.put _ (some 64) _ = _
              simp only [Act.put, List.setIfInBounds_toArray, List.set_cons_zero, List.set_cons_succ, i64_w, i32_w]
              rfl
            have HRX := Aside0.mk (Kd.R_tight rfl (lit_R k53 w4 53 w4.heap.size (xs := [(⟨b, i⟩ : S53)]) (inner := [.int .i64 b, .int .i64 i]) (fun w_ b_ ok_ => Reps.snoc (Reps.none _ _) (k53_mkM w_ b_ ok_ (⟨b, i⟩ : S53)) rfl) (Nat.le_refl _) (by simp)))
            refine one_ (i := 1) (N := some 60) #[true, true, true, false, true, true, false, false] rfl rfl (by kernel_rfl) (by decide) (fun K hK => ?_)
            refine value_ (w1 := ?_) (v := ?_) (by rfl) rfl ?_ ?_
            rotate_left 2
            · go_simp
              constructor
              · rfl
              · rfl
            refine hK.out _ _ (HSF.out _ (below_alloc (below_alloc (Below.refl w4.heap.size w4) (.cells #[.int .i64 b, .int .i64 i] 53)) (.cells #[] 53))) (fun hHeld => ?_)
            clear hK K
            refine norm_ (a' := ?_) ?_ ?_
            rotate_left
            · show Act.put _ (some 60) _ = _
              simp only [Act.put, List.setIfInBounds_toArray, List.set_cons_zero, List.set_cons_succ, i64_w, i32_w]
              rfl
            refine one_ (i := 3) (N := some 62) #[true, true, true, true, true, true, false, false] rfl rfl (by kernel_rfl) (by decide) (fun K hK => ?_)
            refine Kd.R_append_rows_step k53 (w0 := w4) w4.heap.size (by rfl) (.tmp 60) (.tmp 61) 29 53 (.agg #[(.int .i64 0), (.int .i64 0)]) 16 rfl Try.underlying29 infoStopW rfl (by decide) (by omega) (Value.slice (some ⟨(w4.heap.size + 1), 0, none⟩) 0 0) [] way _ _ _ (fun _ => True) (fun _ => False) rfl rfl ?aO ?aR (fun x cs h => kKM x cs h) (fun _ h => h.elim) ?aF ?aB ?aS ?aL ?_
            (case aR => exact Kd.C_below (Kd.R_reads' (HG.out.1.keep0 HI.out H0.out.2.2.1 HG.out.2.1)).2.2 (below_step HB4.out (below_alloc (below_alloc (Below.refl w4.heap.size w4) (.cells #[.int .i64 b, .int .i64 i] 53)) (.cells #[] 53))))
            (case aB => exact (below_alloc (below_alloc (Below.refl w4.heap.size w4) (.cells #[.int .i64 b, .int .i64 i] 53)) (.cells #[] 53)))
            (case aF => exact (fun _ _ => trivial))
            (case aO => exact (by have h := (lit_R k53 (w4.alloc (.cells #[.int .i64 b, .int .i64 i] 53)) 53 w4.heap.size (xs := []) (inner := []) (fun _ _ _ => Reps.none _ _) (by rw [size_alloc]; omega) (by simp)); rw [size_alloc] at h; exact h))
            (case aS => exact ((below_alloc (below_alloc (Below.refl w4.heap.size w4) (.cells #[.int .i64 b, .int .i64 i] 53)) (.cells #[] 53))).size)
            (case aL => have := H0.out.2.1; simp; omega)
            intro v62 w6 ho6 hb6 hg6 _
            have HRY := Aside0.mk (Kd.R_grown (Kd.R_alloc HRX.out (.cells #[] 53)) hg6 (fun k hk e => by have h1 := e.symm.trans hk; simp only [Value.ownBlock, size_alloc, Option.some.injEq] at h1 hk e; omega))
            refine hK.out _ _ (HSF.out _ hb6) (fun hHeld => ?_)
            clear hK K
            refine norm_ (a' := ?_) ?_ ?_
            rotate_left
            · show Act.put _ (some 62) _ = _
              simp only [Act.put, List.setIfInBounds_toArray, List.set_cons_zero, List.set_cons_succ, i64_w, i32_w]
              rfl
            refine one_ (i := 6) (N := some 65) #[true, true, true, true, true, true, true, false] rfl rfl (by kernel_rfl) (by decide) (fun K hK => ?_)
            refine Kd.R_append_rows_step k53 (w0 := w4) w4.heap.size (by rfl) (.tmp 62) (.tmp 64) 29 53 (.agg #[(.int .i64 0), (.int .i64 0)]) 16 rfl Try.underlying29 infoStopW rfl (by decide) (by omega) v62 way [(⟨b, i⟩ : S53)] _ _ _ (fun _ => True) (fun _ => False) rfl rfl ?aO ?aR (fun x cs h => kKM x cs h) (fun _ h => h.elim) ?aF ?aB ?aS ?aL ?_
            (case aR => exact (Kd.R_reads' HRY.out).2.2)
            (case aB => exact hb6)
            (case aF => exact (fun _ _ => trivial))
            (case aO => exact ho6)
            (case aS => exact (hb6).size)
            (case aL => have := H0.out.2.1; simp; omega)
            intro v65 w8 ho8 hb8 _ _
            refine hK.out _ _ (HSF.out _ hb8) (fun hHeld => ?_)
            clear hK K
            refine norm_ (a' := ?_) ?_ ?_
            rotate_left
            · show Act.put _ (some 65) _ = _
              simp only [Act.put, List.setIfInBounds_toArray, List.set_cons_zero, List.set_cons_succ, i64_w, i32_w]
              rfl
            have hj := hjoin ((Value.slice (some ⟨w4.heap.size + 1, 0, none⟩) 0 0), v62, (Value.slice (some ⟨w4.heap.size, 0, none⟩) 1 1), v65) w8 ⟨hb8, ho8⟩
            simp only [putAll, Act.put, List.setIfInBounds_toArray, List.set_cons_zero, List.set_cons_succ] at hj
            exact hj
    · have c2b := decide_eq_false c2
      have C2 := Aside0.mk c2
      clear c2
      go_wp2_with (go_at_call 54; refine (impl_sheavesAt.calls F M A b mn _ H0.out.2.2.2.2.2.1).mono ?_; rintro e w2 ⟨rfl, hb2⟩; have HB2 := Aside0.mk hb2; clear hb2 f5 f5b f5c)
      go_end0
      obtain rfl : gq = 0 := by have := C2.out; have := HK.out; omega
      have hs : s1 = s' := Option.some.inj HS.out
      subst hs
      exact ⟨rfl, vb1, HJ.out.1.below HB2.out, HJ.out.2.later HB2.out⟩
end
section
variable {w0 : World} {gn gl gw gb gp gx : Nat} {N : Nat} {F M : Int} {A : Bool} {last : Int} {K : Nat}
theorem ext_calls (hc : WC w0 gn gl gw gb gp gx) (hF : (0 ≤ F ∧ F ≤ 1000) ∧ (0 ≤ M ∧ M ≤ 1000)) (hN : 0 < N ∧ N ≤ 1000) : ∀ (m : Nat) (W : World) (way : List S53) (Aw : Option Addr) (cw : Nat) (s s' : List S53 × Int) (vb : Value), way.length + m = N → WI w0 gn gl gw gb gp gx N F M A last s vb W → Kd.R k53 53 W w0.heap.size (fun _ => True) (.slice Aw way.length cw) way → wyO (leafO (cntI K) N last) (hasI K) (bkI F M A) (manyI F M) m way s = some s' →
      Calls Try.prog 56 #[.slice Aw way.length cw, .pointer (some ⟨gn, 0, none⟩), .pointer (some ⟨gl, 0, none⟩), .pointer (some ⟨gw, 0, none⟩), .pointer (some ⟨gb, 0, none⟩), .pointer (some ⟨gp, 0, none⟩), .pointer (some ⟨gx, 0, none⟩)] W (PostX w0 gn gl gw gb gp gx N F M A last s' W) := by
  intro m
  induction m with
  | zero => intro W way Aw cw s s' vb hl h hw hs; exact ext_leaf hc h hw (by omega) hN hs
  | succ m ih =>
    intro W way Aw cw s s' vb hl h hw hs
    exact ext_node hc hF ⟨by omega, hN.2⟩ (fun W' way' Aw' cw' s1 s2 vb' h' hw' hl' hs' => ih W' way' Aw' cw' s1 s2 vb' (by omega) h' hw' hs') h hw hs
end
theorem cntI_mono (k : Nat) (way : List S53) : LeO (cntI k way) (cntI (k + 1) way) := LeO.map _ (impl_crossings.mono way false k)
theorem hasI_mono (k : Nat) (way : List S53) (b i : Int) : LeO (hasI k way b i) (hasI (k + 1) way b i) := impl_Stop_57.mono way b i k
def endWay (F M : Int) (A : Bool) : Int := manyI F M (bkI F M A (F + M - 1).toNat)
def impl_bestWay.f (k : Nat) (a0_0 : Int) (a0_1 : Int) (a0_2 : Bool) (a1 : Int) : Option (List S53 × Int × Int) :=
  (impl_ValidPurchase.f k a0_0 a0_1 a0_2).bind fun v => if v = true then (if okWay a0_0 a0_1 then (if 0 ≤ a1 ∧ a1 ≤ endWay a0_0 a0_1 a0_2 - 1 then ((wyO (leafO (cntI k) (a0_0 + a0_1).toNat a1) (hasI k) (bkI a0_0 a0_1 a0_2) (manyI a0_0 a0_1) (a0_0 + a0_1).toNat [] ([], -1)).bind fun s => some (s.1, s.2, 0)) else some ([], 0, 2)) else none) else some ([], 0, 1)
theorem impl_bestWay.mono : ∀ a0 a1 a2 a3 k, LeO (impl_bestWay.f k a0 a1 a2 a3) (impl_bestWay.f (k + 1) a0 a1 a2 a3) := by
  intro a0 a1 a2 a3 k
  refine LeO.bind (impl_ValidPurchase.mono a0 a1 a2 k) (fun _ => LeO.ite (LeO.ite (LeO.ite (LeO.bind ?_ (fun _ => LeO.refl _)) (LeO.refl _)) (LeO.refl _)) (LeO.refl _))
  exact wyO_mono (fun w s => LeO.bind (cntI_mono k w) (fun _ => LeO.refl _)) (fun w b i => hasI_mono k w b i) _ _ _
set_option maxHeartbeats 16000000 in
set_option maxRecDepth 100000 in
theorem impl_bestWay.calls (k : Nat) (a0_0 : Int) (a0_1 : Int) (a0_2 : Bool) (a1 : Int) (r1 : List S53) (r2 : Int) (r3 : Int) (w : World) (h : impl_bestWay.f k a0_0 a0_1 a0_2 a1 = some (r1, r2, r3)) :
    Calls Try.prog 32 #[.agg #[.int .i64 a0_0, .int .i64 a0_1, .bool a0_2], .int .i64 a1] w fun e w' => ∃ v0_ : Value, e = .returned (.tuple #[v0_, .int .i64 r2, .int .i64 r3]) ∧ Kd.R k53 53 w' w.heap.size (fun _ => True) v0_ r1 ∧ Below w.heap.size w w' := by
  obtain ⟨v, hv, h⟩ := Option.bind_eq_some_iff.mp h
  obtain ⟨F, hF⟩ : ∃ F, F = a0_0 := ⟨_, rfl⟩
  obtain ⟨M, hM⟩ : ∃ M, M = a0_1 := ⟨_, rfl⟩
  subst hF hM
  have H0 := Aside0.mk hv
  clear hv
  cases v with
  | false =>
    replace h : (([] : List S53), (0 : Int), (1 : Int)) = (r1, r2, r3) := Option.some.inj h
    simp only [Prod.mk.injEq] at h
    obtain ⟨rfl, rfl, rfl⟩ := h
    go_enter Try.func32, Try.ntmps32
    go_wp2_with (go_at_call 52; refine (impl_ValidPurchase.calls k F M a0_2 false _ H0.out).mono ?_; rintro e w1 ⟨rfl, hb⟩; have HB := Aside0.mk (below_step (below_alloc (below_alloc (Below.refl w.heap.size w) _) _) hb); clear hb)
    go_ret3
    exact ⟨_, rfl, Kd.R_nil _ _ _ _ _, HB.out⟩
  | true =>
    by_cases hok : okWay F M
    · replace h : (if 0 ≤ a1 ∧ a1 ≤ endWay F M a0_2 - 1 then ((wyO (leafO (cntI k) (F + M).toNat a1) (hasI k) (bkI F M a0_2) (manyI F M) (F + M).toNat [] ([], -1)).bind fun s => some (s.1, s.2, 0)) else some ([], 0, 2)) = some (r1, r2, r3) := by rw [if_pos rfl, if_pos hok] at h; exact h
      have HOK := Aside0.mk (And.intro hok h)
      clear hok h
      go_enter Try.func32, Try.ntmps32
      obtain ⟨N, HN⟩ : ∃ N : Nat, Aside0 (F + M = (N : Int) ∧ 1 ≤ N ∧ N ≤ 800) := ⟨(F + M).toNat, ⟨by have := HOK.out.1; unfold okWay at this; omega⟩⟩
      have hNN : (F + M).toNat = N := by have := HN.out; omega
      have HOK := Aside0.mk (show okWay F M ∧ (if 0 ≤ a1 ∧ a1 ≤ endWay F M a0_2 - 1 then ((wyO (leafO (cntI k) N a1) (hasI k) (bkI F M a0_2) (manyI F M) N [] ([], -1)).bind fun s => some (s.1, s.2, 0)) else some ([], 0, 2)) = some (r1, r2, r3) from by have h := HOK.out; rw [hNN] at h; exact h)
      obtain ⟨b, HBK⟩ : ∃ b, Aside0 (b = bkI F M a0_2 (N - 1)) := ⟨_, ⟨rfl⟩⟩
      obtain ⟨mn, HMN⟩ : ∃ mn, Aside0 (mn = manyI F M b ∧ 0 ≤ mn ∧ mn ≤ 1000) := ⟨_, ⟨rfl, by have := HOK.out.1; unfold okWay at this; unfold manyI; split <;> omega, by have := HOK.out.1; unfold okWay at this; unfold manyI; split <;> omega⟩⟩
      have HEW := Aside0.mk (show endWay F M a0_2 = mn from by
        have e : (F + M - 1).toNat = N - 1 := by have := HN.out; omega
        unfold endWay; rw [HMN.out.1, HBK.out, e])
      have HBA := Aside0.mk (show impl_blockAt.f F M a0_2 ((N : Int) - 1) = some b from by
        have h := blockAt_eq (F := F) (M := M) (A := a0_2) (N - 1) ⟨by have := HOK.out.1; unfold okWay at this; omega, by have := HOK.out.1; unfold okWay at this; omega, by have := HN.out; omega⟩
        have e : ((N - 1 : Nat) : Int) = (N : Int) - 1 := by have := HN.out; omega
        rw [e] at h; rw [h, HBK.out])
      have HSA := Aside0.mk (show impl_sheavesAt.f F M a0_2 b = some mn from by rw [HMN.out.1]; exact sheavesAt_eq _ _ _ _)
      have hw1 : wrap64 (F + M) = (N : Int) := (wrap_id _ (by have := HN.out; omega) (by have := HN.out; omega)).trans HN.out.1
      have hw2 : IntKind.i64.wrap (F + M) = (N : Int) := (i64_w _).trans hw1
      have hw3 : wrap64 ((N : Int) - 1) = (N : Int) - 1 := wrap_id _ (by omega) (by have := HN.out; omega)
      have hw4 : IntKind.i64.wrap ((N : Int) - 1) = (N : Int) - 1 := (i64_w _).trans hw3
      have hw5 : wrap64 (mn - 1) = mn - 1 := wrap_id _ (by have := HMN.out; omega) (by have := HMN.out; omega)
      have hw6 : IntKind.i64.wrap (mn - 1) = mn - 1 := (i64_w _).trans hw5
      clear hNN
      go_upto_region 3 with (go_at_call 52; refine (impl_ValidPurchase.calls k F M a0_2 true _ H0.out).mono ?_; rintro e w1 ⟨rfl, hb⟩; have HB := Aside0.mk hb; clear hb)
      obtain ⟨gp, HGP⟩ : ∃ g, Aside0 (g = w.heap.size) := ⟨_, ⟨rfl⟩⟩
      obtain ⟨gl, HGL⟩ : ∃ g, Aside0 (g = w.heap.size + 1) := ⟨_, ⟨rfl⟩⟩
      rw [← HGL.out, ← HGP.out]
      have HP := Aside0.mk (show w1.heap[gp]? = some (.cells #[.int .i64 F, .int .i64 M, .bool a0_2] 26 (0, 0)) ∧ w1.heap[gl]? = some (.cells #[.int .i64 a1] 2 (0, 0)) ∧ Below w.heap.size w w1 from by
        have h1 := alloc_at w (.cells #[.int .i64 F, .int .i64 M, .bool a0_2] 26)
        have h2 := alloc_at (w.alloc (.cells #[.int .i64 F, .int .i64 M, .bool a0_2] 26)) (.cells #[.int .i64 a1] 2)
        have h3 := alloc_old h1 (.cells #[.int .i64 a1] 2)
        rw [size_alloc] at h2
        rw [HGP.out, HGL.out]
        exact ⟨(HB.out.block _ (blk_lt h3)).trans h3, (HB.out.block _ (blk_lt h2)).trans h2, below_step (below_alloc (below_alloc (Below.refl w.heap.size w) _) _) HB.out⟩)
      clear HB
      have f1 := blk_cell HP.out.1 0
      have f2 := blk_cell HP.out.1 1
      simp only [List.getElem?_toArray, List.getElem?_cons_zero, List.getElem?_cons_succ] at f1 f2
      go_upto_region 4 with (fail)
      clear f1 f2
      obtain ⟨gn, HGN⟩ : ∃ g, Aside0 (g = w1.heap.size) := ⟨_, ⟨rfl⟩⟩
      rw [← HGN.out]
      obtain ⟨w2, HW⟩ : ∃ w2, Aside0 (w2 = w1.alloc (.cells #[.int .i64 (N : Int)] 2)) := ⟨_, ⟨rfl⟩⟩
      rw [← HW.out]
      have HQ := Aside0.mk (show w2.heap[gp]? = some (.cells #[.int .i64 F, .int .i64 M, .bool a0_2] 26 (0, 0)) ∧ w2.heap[gl]? = some (.cells #[.int .i64 a1] 2 (0, 0)) ∧ w2.heap[gn]? = some (.cells #[.int .i64 (N : Int)] 2 (0, 0)) ∧ Below w.heap.size w w2 ∧ (gp ≠ gl ∧ gp ≠ gn ∧ gl ≠ gn) from by
        have hs := HP.out.2.2.size
        have hl1 := blk_lt HP.out.1
        have hl2 := blk_lt HP.out.2.1
        rw [HW.out, HGN.out]
        exact ⟨alloc_old HP.out.1 _, alloc_old HP.out.2.1 _, alloc_at _ _, below_alloc HP.out.2.2 _, by rw [HGP.out, HGL.out]; omega, by omega, by omega⟩)
      clear HW HGN HP
      have HSF := Aside0.mk (show ∀ w', Below w2.heap.size w2 w' → (w'.cell? ⟨gl, 0, none⟩ = some (.int .i64 a1) ∧ w'.cell? ⟨gp, 0, none⟩ = some (.int .i64 F) ∧ w'.cell? ⟨gp, 1, none⟩ = some (.int .i64 M) ∧ w'.cell? ⟨gp, 2, none⟩ = some (.bool a0_2) ∧ w'.cell? ⟨gn, 0, none⟩ = some (.int .i64 (N : Int))) from by
        intro w' hb
        have q1 := (hb.block _ (blk_lt HQ.out.1)).trans HQ.out.1
        have q2 := (hb.block _ (blk_lt HQ.out.2.1)).trans HQ.out.2.1
        have q3 := (hb.block _ (blk_lt HQ.out.2.2.1)).trans HQ.out.2.2.1
        have h0 := blk_cell q2 0
        have h1 := blk_cell q1 0
        have h2 := blk_cell q1 1
        have h3 := blk_cell q1 2
        have h4 := blk_cell q3 0
        simp only [List.getElem?_toArray, List.getElem?_cons_zero, List.getElem?_cons_succ] at h0 h1 h2 h3 h4
        exact ⟨h0, h1, h2, h3, h4⟩)
      by_cases hrg : 0 ≤ a1 ∧ a1 ≤ mn - 1
      · have HWI := Aside0.mk (show impl_within.f a1 0 (mn - 1) = some true from by unfold impl_within.f; rw [if_pos (show a1 ≥ 0 from hrg.1), decide_eq_true hrg.2])
        have HOK := Aside0.mk (show okWay F M ∧ ((wyO (leafO (cntI k) N a1) (hasI k) (bkI F M a0_2) (manyI F M) N [] ([], -1)).bind fun s => some (s.1, s.2, 0)) = some (r1, r2, r3) from by have h := HOK.out; rw [HEW.out, if_pos hrg] at h; exact h)
        clear hrg
        refine start_ (n := 10) (S := fun w' => w'.cell? ⟨gl, 0, none⟩ = some (.int .i64 a1) ∧ w'.cell? ⟨gp, 0, none⟩ = some (.int .i64 F) ∧ w'.cell? ⟨gp, 1, none⟩ = some (.int .i64 M) ∧ w'.cell? ⟨gp, 2, none⟩ = some (.bool a0_2) ∧ w'.cell? ⟨gn, 0, none⟩ = some (.int .i64 (N : Int))) (ds := []) #[false, false, false, false, false, false, false, false, false, false] (by kernel_rfl) rfl rfl (HSF.out _ (below_drew (Below.refl w2.heap.size w2))) (fun hHeld => ?_)
        obtain ⟨w3, HE⟩ : ∃ w3, Aside0 (w3 = w2.drew) := ⟨_, ⟨rfl⟩⟩
        rw [← HE.out]
        rw [← HE.out] at hHeld
        have HB3 := Aside0.mk (show Below w2.heap.size w2 w3 from HE.out ▸ below_drew (Below.refl _ _))
        clear HE
        refine take_ (i := 0) (N := some 19) (v := ?_) (a' := ?_) #[true, false, false, false, false, false, false, false, false, false] rfl rfl (by kernel_rfl) (fun _ _ _ h => h) (Or.inl ⟨by rfl, ?_⟩) hHeld ?_ ?_
        rotate_left
        · rintro w' ⟨s0, s1, s2, s3, s4⟩
          go_simp
          with_reducible rfl
        rotate_left
        · simp only [Act.put, List.setIfInBounds_toArray, List.set_cons_zero, List.set_cons_succ, i64_w, i32_w]
          rfl
        refine take_ (i := 1) (N := some 20) (v := ?_) (a' := ?_) #[true, true, false, false, false, false, false, false, false, false] rfl rfl (by kernel_rfl) (fun _ _ _ h => h) (Or.inl ⟨by rfl, ?_⟩) hHeld ?_ ?_
        rotate_left
        · rintro w' ⟨s0, s1, s2, s3, s4⟩
          go_simp
          with_reducible rfl
        rotate_left
        · simp only [Act.put, List.setIfInBounds_toArray, List.set_cons_zero, List.set_cons_succ, i64_w, i32_w]
          rfl
        refine take_ (i := 2) (N := some 21) (v := ?_) (a' := ?_) #[true, true, true, false, false, false, false, false, false, false] rfl rfl (by kernel_rfl) (fun _ _ _ h => h) (Or.inl ⟨by rfl, ?_⟩) hHeld ?_ ?_
        rotate_left
        · rintro w' ⟨s0, s1, s2, s3, s4⟩
          go_simp
          with_reducible rfl
        rotate_left
        · simp only [Act.put, List.setIfInBounds_toArray, List.set_cons_zero, List.set_cons_succ, i64_w, i32_w]
          rfl
        refine take_ (i := 3) (N := some 22) (v := ?_) (a' := ?_) #[true, true, true, true, false, false, false, false, false, false] rfl rfl (by kernel_rfl) (fun _ _ _ h => h) (Or.inl ⟨by rfl, ?_⟩) hHeld ?_ ?_
        rotate_left
        · rintro w' ⟨s0, s1, s2, s3, s4⟩
          go_simp
          with_reducible rfl
        rotate_left
        · simp only [Act.put, List.setIfInBounds_toArray, List.set_cons_zero, List.set_cons_succ, i64_w, i32_w]
          rfl
        refine pure_ (i := 4) (N := some 23) (v := ?_) (a' := ?_) #[true, true, true, true, true, false, false, false, false, false] rfl rfl (by kernel_rfl) (fun _ _ _ h => h) (Or.inl ⟨by rfl, ?_⟩) ?_ ?_
        rotate_left
        · intro w'
          go_simp
          with_reducible rfl
        rotate_left
        · simp only [Act.put, List.setIfInBounds_toArray, List.set_cons_zero, List.set_cons_succ, i64_w, i32_w]
          rfl
        refine one_ (i := 5) (N := some 24) #[true, true, true, true, true, true, false, false, false, false] rfl rfl (by kernel_rfl) (by decide) (fun K hK => ?_)
        refine call_ 55 #[.agg #[.int .i64 F, .int .i64 M, .bool a0_2], .int .i64 ((N : Int) - 1)] (by rfl) rfl (by go_simp) ?_
        refine (impl_blockAt.calls F M a0_2 ((N : Int) - 1) b _ HBA.out).mono ?_
        rintro e w4 ⟨rfl, hb⟩
        refine ⟨_, rfl, ?_⟩
        have HB4 := Aside0.mk (below_step HB3.out hb)
        clear hb
        refine hK.out _ _ (HSF.out _ HB4.out) (fun hHeld => ?_)
        clear hK K
        refine norm_ (a' := ?_) ?_ ?_
        rotate_left
        · show Act.put _ (some 24) _ = _
          simp only [Act.put, List.setIfInBounds_toArray, List.set_cons_zero, List.set_cons_succ, i64_w, i32_w]
          rfl
        refine one_ (i := 6) (N := some 25) #[true, true, true, true, true, true, true, false, false, false] rfl rfl (by kernel_rfl) (by decide) (fun K hK => ?_)
        refine call_ 54 #[.agg #[.int .i64 F, .int .i64 M, .bool a0_2], .int .i64 b] (by rfl) rfl (by go_simp) ?_
        refine (impl_sheavesAt.calls F M a0_2 b mn _ HSA.out).mono ?_
        rintro e w5 ⟨rfl, hb⟩
        refine ⟨_, rfl, ?_⟩
        have HB5 := Aside0.mk (below_step HB4.out hb)
        clear hb
        refine hK.out _ _ (HSF.out _ HB5.out) (fun hHeld => ?_)
        clear hK K
        refine norm_ (a' := ?_) ?_ ?_
        rotate_left
        · show Act.put _ (some 25) _ = _
          simp only [Act.put, List.setIfInBounds_toArray, List.set_cons_zero, List.set_cons_succ, i64_w, i32_w]
          rfl
        refine pure_ (i := 7) (N := some 26) (v := ?_) (a' := ?_) #[true, true, true, true, true, true, true, true, false, false] rfl rfl (by kernel_rfl) (fun _ _ _ h => h) (Or.inl ⟨by rfl, ?_⟩) ?_ ?_
        rotate_left
        · intro w'
          go_simp
          with_reducible rfl
        rotate_left
        · simp only [Act.put, List.setIfInBounds_toArray, List.set_cons_zero, List.set_cons_succ, i64_w, i32_w]
          rfl
        refine one_ (i := 8) (N := some 27) #[true, true, true, true, true, true, true, true, true, false] rfl rfl (by kernel_rfl) (by decide) (fun K hK => ?_)
        refine call_ 53 #[.int .i64 a1, .int .i64 0, .int .i64 (mn - 1)] (by rfl) rfl (by go_simp) ?_
        refine (impl_within.calls a1 0 (mn - 1) true _ HWI.out).mono ?_
        rintro e w6 ⟨rfl, hb⟩
        refine ⟨_, rfl, ?_⟩
        have HB6 := Aside0.mk (below_step HB5.out (Drawn0.below hb))
        clear hb
        refine hK.out _ _ (HSF.out _ HB6.out) (fun hHeld => ?_)
        clear hK K
        refine norm_ (a' := ?_) ?_ ?_
        rotate_left
        · show Act.put _ (some 27) _ = _
          simp only [Act.put, List.setIfInBounds_toArray, List.set_cons_zero, List.set_cons_succ, i64_w, i32_w]
          rfl
        refine pure_ (i := 9) (N := some 28) (v := ?_) (a' := ?_) #[true, true, true, true, true, true, true, true, true, true] rfl rfl (by kernel_rfl) (fun _ _ _ h => h) (Or.inl ⟨by rfl, ?_⟩) ?_ ?_
        rotate_left
        · intro w'
          go_simp
          with_reducible rfl
        rotate_left
        · simp only [Act.put, List.setIfInBounds_toArray, List.set_cons_zero, List.set_cons_succ, i64_w, i32_w]
          rfl
        refine done_ (by kernel_rfl) ?_
        go_upto_region 10 with (fail)
        obtain ⟨g0, HG0⟩ : ∃ g, Aside0 (g = w6.heap.size) := ⟨_, ⟨rfl⟩⟩
        obtain ⟨gb, HGb⟩ : ∃ g, Aside0 (g = w6.heap.size + 1) := ⟨_, ⟨rfl⟩⟩
        obtain ⟨gw, HGw⟩ : ∃ g, Aside0 (g = w6.heap.size + 1 + 1) := ⟨_, ⟨rfl⟩⟩
        obtain ⟨gx, HGx⟩ : ∃ g, Aside0 (g = w6.heap.size + 1 + 1 + 1) := ⟨_, ⟨rfl⟩⟩
        rw [← HGx.out, ← HGw.out, ← HGb.out, ← HG0.out]
        obtain ⟨w7, HW⟩ : ∃ w7, Aside0 (w7 = (((w6.alloc (.cells #[] 53)).alloc (.cells #[.slice (some ⟨g0, 0, none⟩) 0 0] 29)).alloc (.cells #[.int .i64 (-1)] 2)).alloc (.cells #[(.func (.func 56) #[] #[.pointer (some ⟨gn, 0, none⟩), .pointer (some ⟨gl, 0, none⟩), .pointer (some ⟨gw, 0, none⟩), .pointer (some ⟨gb, 0, none⟩), .pointer (some ⟨gp, 0, none⟩), .pointer (some ⟨gx, 0, none⟩)])] 83)) := ⟨_, ⟨rfl⟩⟩
        rw [← HW.out]
        have HI := Aside0.mk (show WI w gn gl gw gb gp gx N F M a0_2 a1 ([], -1) (.slice (some ⟨g0, 0, none⟩) 0 0) w7 ∧ WC w gn gl gw gb gp gx from by
          have e1 := HGx.out
          have e2 := HGw.out
          have e3 := HGb.out
          have hs := HQ.out.2.2.2.1.size
          have hs6 := HB6.out.size
          have hl1 := blk_lt HQ.out.1
          have hl2 := blk_lt HQ.out.2.1
          have hl3 := blk_lt HQ.out.2.2.1
          have q1 := (HB6.out.block _ hl1).trans HQ.out.1
          have q2 := (HB6.out.block _ hl2).trans HQ.out.2.1
          have q3 := (HB6.out.block _ hl3).trans HQ.out.2.2.1
          have hbw := HQ.out.2.2.2.1.trans (HB6.out.mono hs)
          refine ⟨⟨HW.out ▸ below_alloc (below_alloc (below_alloc (below_alloc hbw _) _) _) _, HW.out ▸ alloc_old (alloc_old (alloc_old (alloc_old q3 _) _) _) _, HW.out ▸ alloc_old (alloc_old (alloc_old (alloc_old q2 _) _) _) _, ?_, ?_, HW.out ▸ alloc_old (alloc_old (alloc_old (alloc_old q1 _) _) _) _, ?_, ?_⟩, ⟨⟨by omega, by omega, ?_, by omega, ?_, by omega, by omega, by omega, ?_⟩, ⟨?_, ?_⟩⟩⟩
          · have h := alloc_at ((w6.alloc (.cells #[] 53)).alloc (.cells #[.slice (some ⟨g0, 0, none⟩) 0 0] 29)) (.cells #[.int .i64 (-1)] 2)
            simp only [size_alloc] at h
            rw [HW.out, HGw.out]
            exact alloc_old h _
          · have h := alloc_at (w6.alloc (.cells #[] 53)) (.cells #[.slice (some ⟨g0, 0, none⟩) 0 0] 29)
            simp only [size_alloc] at h
            rw [HW.out, HGb.out]
            exact alloc_old (alloc_old h _) _
          · have h := alloc_at (((w6.alloc (.cells #[] 53)).alloc (.cells #[.slice (some ⟨g0, 0, none⟩) 0 0] 29)).alloc (.cells #[.int .i64 (-1)] 2)) (.cells #[(.func (.func 56) #[] #[.pointer (some ⟨gn, 0, none⟩), .pointer (some ⟨gl, 0, none⟩), .pointer (some ⟨gw, 0, none⟩), .pointer (some ⟨gb, 0, none⟩), .pointer (some ⟨gp, 0, none⟩), .pointer (some ⟨gx, 0, none⟩)])] 83)
            simp only [size_alloc] at h
            rw [HW.out]
            have e : gx = w6.heap.size + 1 + 1 + 1 := HGx.out
            rw [← e] at h
            exact h
          · rw [HW.out]
            refine Kd.R_alloc (Kd.R_alloc (Kd.R_alloc ?_ _) _) _
            have h := lit_R k53 w6 53 w.heap.size (xs := []) (inner := []) (fun _ _ _ => Reps.none _ _) (Nat.le_trans hs hs6) (by simp)
            rw [HG0.out]
            exact h
          all_goals omega)
        clear HW HG0 HGb HGw HGx HSF HQ
        obtain ⟨s', hs', hr'⟩ := Option.bind_eq_some_iff.mp HOK.out.2
        have HS := Aside0.mk hs'
        have HR := Aside0.mk (show (s'.1, s'.2, (0 : Int)) = (r1, r2, r3) from Option.some.inj hr')
        clear hs' hr'
        have fx := blk_cell HI.out.1.x 0
        simp only [List.getElem?_toArray, List.getElem?_cons_zero] at fx
        go_upto_region 11 with (go_at_call 56; refine (ext_calls HI.out.2 (by have := HOK.out.1; unfold okWay at this; omega) (by have := HN.out; omega) N _ [] none 0 ([], -1) s' _ (by simp) HI.out.1 (Kd.R_nil _ _ _ _ _) HS.out).mono ?_; rintro e w8 ⟨rfl, vb, hI8, hT8⟩; have HI8 := Aside0.mk hI8; clear hI8 hT8 fx)
        have fb := blk_cell HI8.out.b 0
        have fw := blk_cell HI8.out.w 0
        simp only [List.getElem?_toArray, List.getElem?_cons_zero] at fb fw
        go_quiet (fail)
        go_wp2
        go_ret3
        have h := HR.out
        simp only [Prod.mk.injEq] at h
        obtain ⟨rfl, rfl, rfl⟩ := h
        exact ⟨_, rfl, HI8.out.r, pw_below_drewN HI8.out.bw _⟩
      · have HWI := Aside0.mk (show impl_within.f a1 0 (mn - 1) = some false from by
          unfold impl_within.f
          split
          · rw [decide_eq_false (fun h => hrg ⟨by assumption, h⟩)]
          · rfl)
        have HX := Aside0.mk (show (([] : List S53), (0 : Int), (2 : Int)) = (r1, r2, r3) from by have h := HOK.out.2; rw [HEW.out, if_neg hrg] at h; exact Option.some.inj h)
        clear hrg
        refine start_ (n := 10) (S := fun w' => w'.cell? ⟨gl, 0, none⟩ = some (.int .i64 a1) ∧ w'.cell? ⟨gp, 0, none⟩ = some (.int .i64 F) ∧ w'.cell? ⟨gp, 1, none⟩ = some (.int .i64 M) ∧ w'.cell? ⟨gp, 2, none⟩ = some (.bool a0_2) ∧ w'.cell? ⟨gn, 0, none⟩ = some (.int .i64 (N : Int))) (ds := []) #[false, false, false, false, false, false, false, false, false, false] (by kernel_rfl) rfl rfl (HSF.out _ (below_drew (Below.refl w2.heap.size w2))) (fun hHeld => ?_)
        obtain ⟨w3, HE⟩ : ∃ w3, Aside0 (w3 = w2.drew) := ⟨_, ⟨rfl⟩⟩
        rw [← HE.out]
        rw [← HE.out] at hHeld
        have HB3 := Aside0.mk (show Below w2.heap.size w2 w3 from HE.out ▸ below_drew (Below.refl _ _))
        clear HE
        refine take_ (i := 0) (N := some 19) (v := ?_) (a' := ?_) #[true, false, false, false, false, false, false, false, false, false] rfl rfl (by kernel_rfl) (fun _ _ _ h => h) (Or.inl ⟨by rfl, ?_⟩) hHeld ?_ ?_
        rotate_left
        · rintro w' ⟨s0, s1, s2, s3, s4⟩
          go_simp
          with_reducible rfl
        rotate_left
        · simp only [Act.put, List.setIfInBounds_toArray, List.set_cons_zero, List.set_cons_succ, i64_w, i32_w]
          rfl
        refine take_ (i := 1) (N := some 20) (v := ?_) (a' := ?_) #[true, true, false, false, false, false, false, false, false, false] rfl rfl (by kernel_rfl) (fun _ _ _ h => h) (Or.inl ⟨by rfl, ?_⟩) hHeld ?_ ?_
        rotate_left
        · rintro w' ⟨s0, s1, s2, s3, s4⟩
          go_simp
          with_reducible rfl
        rotate_left
        · simp only [Act.put, List.setIfInBounds_toArray, List.set_cons_zero, List.set_cons_succ, i64_w, i32_w]
          rfl
        refine take_ (i := 2) (N := some 21) (v := ?_) (a' := ?_) #[true, true, true, false, false, false, false, false, false, false] rfl rfl (by kernel_rfl) (fun _ _ _ h => h) (Or.inl ⟨by rfl, ?_⟩) hHeld ?_ ?_
        rotate_left
        · rintro w' ⟨s0, s1, s2, s3, s4⟩
          go_simp
          with_reducible rfl
        rotate_left
        · simp only [Act.put, List.setIfInBounds_toArray, List.set_cons_zero, List.set_cons_succ, i64_w, i32_w]
          rfl
        refine take_ (i := 3) (N := some 22) (v := ?_) (a' := ?_) #[true, true, true, true, false, false, false, false, false, false] rfl rfl (by kernel_rfl) (fun _ _ _ h => h) (Or.inl ⟨by rfl, ?_⟩) hHeld ?_ ?_
        rotate_left
        · rintro w' ⟨s0, s1, s2, s3, s4⟩
          go_simp
          with_reducible rfl
        rotate_left
        · simp only [Act.put, List.setIfInBounds_toArray, List.set_cons_zero, List.set_cons_succ, i64_w, i32_w]
          rfl
        refine pure_ (i := 4) (N := some 23) (v := ?_) (a' := ?_) #[true, true, true, true, true, false, false, false, false, false] rfl rfl (by kernel_rfl) (fun _ _ _ h => h) (Or.inl ⟨by rfl, ?_⟩) ?_ ?_
        rotate_left
        · intro w'
          go_simp
          with_reducible rfl
        rotate_left
        · simp only [Act.put, List.setIfInBounds_toArray, List.set_cons_zero, List.set_cons_succ, i64_w, i32_w]
          rfl
        refine one_ (i := 5) (N := some 24) #[true, true, true, true, true, true, false, false, false, false] rfl rfl (by kernel_rfl) (by decide) (fun K hK => ?_)
        refine call_ 55 #[.agg #[.int .i64 F, .int .i64 M, .bool a0_2], .int .i64 ((N : Int) - 1)] (by rfl) rfl (by go_simp) ?_
        refine (impl_blockAt.calls F M a0_2 ((N : Int) - 1) b _ HBA.out).mono ?_
        rintro e w4 ⟨rfl, hb⟩
        refine ⟨_, rfl, ?_⟩
        have HB4 := Aside0.mk (below_step HB3.out hb)
        clear hb
        refine hK.out _ _ (HSF.out _ HB4.out) (fun hHeld => ?_)
        clear hK K
        refine norm_ (a' := ?_) ?_ ?_
        rotate_left
        · show Act.put _ (some 24) _ = _
          simp only [Act.put, List.setIfInBounds_toArray, List.set_cons_zero, List.set_cons_succ, i64_w, i32_w]
          rfl
        refine one_ (i := 6) (N := some 25) #[true, true, true, true, true, true, true, false, false, false] rfl rfl (by kernel_rfl) (by decide) (fun K hK => ?_)
        refine call_ 54 #[.agg #[.int .i64 F, .int .i64 M, .bool a0_2], .int .i64 b] (by rfl) rfl (by go_simp) ?_
        refine (impl_sheavesAt.calls F M a0_2 b mn _ HSA.out).mono ?_
        rintro e w5 ⟨rfl, hb⟩
        refine ⟨_, rfl, ?_⟩
        have HB5 := Aside0.mk (below_step HB4.out hb)
        clear hb
        refine hK.out _ _ (HSF.out _ HB5.out) (fun hHeld => ?_)
        clear hK K
        refine norm_ (a' := ?_) ?_ ?_
        rotate_left
        · show Act.put _ (some 25) _ = _
          simp only [Act.put, List.setIfInBounds_toArray, List.set_cons_zero, List.set_cons_succ, i64_w, i32_w]
          rfl
        refine pure_ (i := 7) (N := some 26) (v := ?_) (a' := ?_) #[true, true, true, true, true, true, true, true, false, false] rfl rfl (by kernel_rfl) (fun _ _ _ h => h) (Or.inl ⟨by rfl, ?_⟩) ?_ ?_
        rotate_left
        · intro w'
          go_simp
          with_reducible rfl
        rotate_left
        · simp only [Act.put, List.setIfInBounds_toArray, List.set_cons_zero, List.set_cons_succ, i64_w, i32_w]
          rfl
        refine one_ (i := 8) (N := some 27) #[true, true, true, true, true, true, true, true, true, false] rfl rfl (by kernel_rfl) (by decide) (fun K hK => ?_)
        refine call_ 53 #[.int .i64 a1, .int .i64 0, .int .i64 (mn - 1)] (by rfl) rfl (by go_simp) ?_
        refine (impl_within.calls a1 0 (mn - 1) false _ HWI.out).mono ?_
        rintro e w6 ⟨rfl, hb⟩
        refine ⟨_, rfl, ?_⟩
        have HB6 := Aside0.mk (below_step HB5.out (Drawn0.below hb))
        clear hb
        refine hK.out _ _ (HSF.out _ HB6.out) (fun hHeld => ?_)
        clear hK K
        refine norm_ (a' := ?_) ?_ ?_
        rotate_left
        · show Act.put _ (some 27) _ = _
          simp only [Act.put, List.setIfInBounds_toArray, List.set_cons_zero, List.set_cons_succ, i64_w, i32_w]
          rfl
        refine pure_ (i := 9) (N := some 28) (v := ?_) (a' := ?_) #[true, true, true, true, true, true, true, true, true, true] rfl rfl (by kernel_rfl) (fun _ _ _ h => h) (Or.inl ⟨by rfl, ?_⟩) ?_ ?_
        rotate_left
        · intro w'
          go_simp
          with_reducible rfl
        rotate_left
        · simp only [Act.put, List.setIfInBounds_toArray, List.set_cons_zero, List.set_cons_succ, i64_w, i32_w]
          rfl
        refine done_ (by kernel_rfl) ?_
        go_wp2
        go_ret3
        have h := HX.out
        simp only [Prod.mk.injEq] at h
        obtain ⟨rfl, rfl, rfl⟩ := h
        exact ⟨_, rfl, Kd.R_nil _ _ _ _ _, HQ.out.2.2.2.1.trans (HB6.out.mono HQ.out.2.2.2.1.size)⟩
    · replace h : (none : Option (List S53 × Int × Int)) = some (r1, r2, r3) := by rw [if_pos rfl, if_neg hok] at h; exact h
      exact absurd h (by simp)

/-! ### impl_FewestCrossings: function 9 -/
def impl_FewestCrossings.f (k : Nat) (a0_0 : Int) (a0_1 : Int) (a0_2 : Bool) (a1 : Int) : Option (Int × Int) := (impl_bestWay.f k a0_0 a0_1 a0_2 a1).bind fun bt186 => (some (bt186.2.1, bt186.2.2))
theorem impl_FewestCrossings.mono : ∀ a0 a1 a2 a3 k, LeO (impl_FewestCrossings.f k a0 a1 a2 a3) (impl_FewestCrossings.f (k + 1) a0 a1 a2 a3) := by
 intro a0 a1 a2 a3 k
 unfold impl_FewestCrossings.f
 repeat' first
   | (with_reducible exact impl_bestWay.mono _ _ _ _ _)
   | (with_reducible exact LeO.refl _)
   | (with_reducible exact LeO.none _)
   | (with_reducible refine LeO.ite ?_ ?_)
   | (with_reducible refine LeO.bind ?_ (fun _ => ?_))
   | exact impl_bestWay.mono _ _ _ _ _
   | exact LeO.none _
   | refine LeO.ite ?_ ?_
   | refine LeO.bind ?_ (fun _ => ?_)
set_option maxHeartbeats 8000000 in
set_option maxRecDepth 100000 in
theorem impl_FewestCrossings.calls (k : Nat) (a0_0 : Int) (a0_1 : Int) (a0_2 : Bool) (a1 : Int) (r1 : Int) (r2 : Int) (w : World) (h : impl_FewestCrossings.f k a0_0 a0_1 a0_2 a1 = some (r1, r2)) :
  Calls Try.prog 9 #[.agg #[.int .i64 a0_0, .int .i64 a0_1, .bool a0_2], .int .i64 a1] w fun e w' => e = .returned (.tuple #[.int .i64 r1, .int .i64 r2]) ∧ Below w.heap.size w w' := by
 have hu26 := Try.underlying26; have HB := A' (Below.refl w.heap.size w); have H : ((impl_bestWay.f k a0_0 a0_1 a0_2 a1).bind fun bt186 => (some (bt186.2.1, bt186.2.2))) = some (r1, r2) := h; clear h; replace H := Option.bind_eq_some_iff.mp H; obtain ⟨⟨t186, t189, t190⟩, A30, H⟩ := H; replace H : (some (t189, t190)) = some (r1, r2) := H; have A3 := A' A30; clear A30; simp only [Option.some.injEq, Prod.mk.injEq] at H; obtain ⟨rfl, rfl⟩ := H; go_enter Try.func9, Try.ntmps9; go_wp2_with (first | ((with_reducible refine gate_dst (N := 2) rfl ?_); refine box_event ?hg (N := 2) ?hd (cs := #[.int .i64 a0_0, .int .i64 a0_1, .bool a0_2]) (t := 26) ?hr ?_; (case hd => rfl); (case hg => rfl); (case hr => first | (go_simp; done) | (go_simp; rfl)); intro gb185 hg w4 hbox hb; have n0_ := A' (W' (qK0 HB.out) hb); have n1_ := A' (hbox); have n2_ := A' ((by rw [hg]; exact (V' (qK0 HB.out)) : w.heap.size ≤ gb185)); have n3_ := A' ((by rw [hg]; exact (V' (qK0 HB.out)) : w.heap.size ≤ gb185)); clear HB; have HB := n0_; have BK185 := n1_; have GW185 := n2_; have GE185 := n3_; clear n0_ n1_ n2_ n3_; clear hb hbox hg; have hcz5_0 : w4.cell? ⟨gb185, 0, none⟩ = some (.int .i64 a0_0) := (N' BK185.out 0).trans rfl; have hcz5_1 : w4.cell? ⟨gb185, 1, none⟩ = some (.int .i64 a0_1) := (N' BK185.out 1).trans rfl; have hcz5_2 : w4.cell? ⟨gb185, 2, none⟩ = some (.bool a0_2) := (N' BK185.out 2).trans rfl; have hfz5_0 := Y' BK185.out 0; have hfz5_1 := Y' BK185.out 1; have hfz5_2 := Y' BK185.out 2) | ((with_reducible refine gate_callee (f := 32) rfl ?_); refine goesL_ (some 12) rfl rfl Try.func32 (by kernel_rfl) rfl #[.agg #[.int .i64 a0_0, .int .i64 a0_1, .bool a0_2], .int .i64 a1] rfl (by (try simp only [List.map_toArray, List.map_cons, List.map_nil]); first | done | rfl | (simp only [List.length_drop, List.length_take]; rfl)) ?_; (with_reducible refine (impl_bestWay.calls k a0_0 a0_1 a0_2 a1 t186 t189 t190 _ A3.out).mono ?_); rintro e w6 ⟨v187, rfl, ho0, hb⟩; refine ⟨_, rfl, ?_⟩; have n0_ := A' (Kd.R_lower ho0 (V' (qK1 HB.out GE185.out))); have n1_ := A' (O' (g := gb185) (qB BK185.out) hb); have n2_ := A' (W' (qK1 HB.out GE185.out) hb); clear BK185; clear HB; have HO188 := n0_; have BK185 := n1_; have HB := n2_; clear n0_ n1_ n2_; (try clear hb); (try clear hb2); (try clear hk); (try clear hi); (try clear ho0))); go_ret2; exact ⟨qE, qK1 HB.out GE185.out⟩

end Go.Proofs.Ytifdihbndlmgpaa.HCro
