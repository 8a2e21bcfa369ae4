-- Written by a program for this claim (the functions that the statement reaches, and that the program's code comes to them).
import Derived.Test.YtcjandlemjfojaaHFewx0
import Derived.Test.YtcjandlemjfojaaHFewx2
import Derived.Test.YtcjandlemjfojaaHFewx4
import Derived.Test.YtcjandlemjfojaaHFewx5
namespace Go.Proofs.Ytcjandlemjfojaa.HFew
open Go.RowKit Go.Proofs.YtcjandlemjfojaaW.PrintWords Go.Proofs.YtcjandlemjfojaaW.PrintLast Go.Proofs.YtcjandlemjfojaaW.PrintMore
attribute [local go_sem] max2_int min2_int max_two min_two max_three min_three max_four min_four   -- for this text's walks alone
set_option linter.unusedVariables false
set_option linter.unusedSimpArgs false

/-! ### impl_bestTackle: function 28 (by hand) -/
theorem eqNil_yes (W : World) : Sem.run Try.prog (binOp .eql 22 (.slice none 0 0) (.slice none 0 0)) W = .ok (.bool true) W := by
  first | rfl | kernel_rfl
theorem eqNil_no (W : World) (a : Addr) (n c : Nat) : Sem.run Try.prog (binOp .eql 22 (.slice (some a) n c) (.slice none 0 0)) W = .ok (.bool false) W := by
  first | rfl | kernel_rfl
attribute [local go_sem high] eqNil_yes eqNil_no
/-- The best tackle so far, as the program keeps it: nil at first. -/
def vI : Option (List S39 × Int) → Int
  | none => 0
  | some x => x.2
/-- bestTackle's memory while extend runs: mo is the map's own block, firsts the purchases that it holds. -/
structure TI (w0 : World) (gb gf gm mb gx : Nat) (mo : Obj) (s : Option (List S39 × Int)) (vb : Value) (W : World) : Prop where
  bw : Below w0.heap.size w0 W
  b : W.heap[gb]? = some (.cells #[vb] 22 (0, 0))
  f : W.heap[gf]? = some (.cells #[.int .i64 (vI s)] 2 (0, 0))
  m : W.heap[gm]? = some (.cells #[.map (some mb)] 50 (0, 0))
  mp : W.heap[mb]? = some mo
  x : W.heap[gx]? = some (.cells #[.func (.func 44) #[] #[.pointer (some ⟨gb, 0, none⟩), .pointer (some ⟨gf, 0, none⟩), .pointer (some ⟨gm, 0, none⟩), .pointer (some ⟨gx, 0, none⟩)]] 51 (0, 0))
  r : match s with
    | none => vb = .slice none 0 0
    | some x => 1 ≤ x.1.length ∧ Kd.R k39 39 W w0.heap.size (fun _ => True) vb x.1
structure TC (w0 : World) (gb gf gm mb gx : Nat) (mo : Obj) (fst : Int → S39) : Prop where
  ne : gb ≠ gf ∧ gm ≠ gb ∧ gm ≠ gf ∧ mb ≠ gb ∧ mb ≠ gf ∧ gx ≠ gb ∧ gx ≠ gf
  ge : w0.heap.size ≤ gb ∧ w0.heap.size ≤ gf
  look : ∀ W : World, W.heap[mb]? = some mo → ∀ a : Int, 2 ≤ a → a ≤ 9 → (Instr.lookup 50 (.map (some mb)) (.int .i64 a) false).run Try.prog W = .ok (.agg #[.int .i64 (fst a).f0, .int .i64 (fst a).f1, .bool (fst a).f2]) W
def sT (gb gf : Nat) : Nat → Prop := fun k => k = gb ∨ k = gf
namespace TI
section
variable {w0 W w1 : World} {gb gf gm mb gx : Nat} {mo : Obj} {s : Option (List S39 × Int)} {vb : Value} {fst : Int → S39}
protected theorem below (h : TI w0 gb gf gm mb gx mo s vb W) (hb : Below W.heap.size W w1) : TI w0 gb gf gm mb gx mo s vb w1 := by
  refine ⟨h.bw.trans (hb.mono h.bw.size), (hb.block _ (blk_lt h.b)).trans h.b, (hb.block _ (blk_lt h.f)).trans h.f, (hb.block _ (blk_lt h.m)).trans h.m, (hb.block _ (blk_lt h.mp)).trans h.mp, (hb.block _ (blk_lt h.x)).trans h.x, ?_⟩
  have hr := h.r
  cases s with
  | none => exact hr
  | some x => exact ⟨hr.1, Kd.R_below hr.2 hb⟩
protected theorem set (hc : TC w0 gb gf gm mb gx mo fst) (h : TI w0 gb gf gm mb gx mo s vb W) {v : Value} {list : List S39} (c : Int) (hl : 1 ≤ list.length) (hr : Kd.R k39 39 W w0.heap.size (fun _ => True) v list) :
    TI w0 gb gf gm mb gx mo (some (list, c)) v ((W.setCell ⟨gb, 0, none⟩ v).setCell ⟨gf, 0, none⟩ (.int .i64 c)) := by
  obtain ⟨n1, n2, n3, n4, n5, n6, n7⟩ := hc.ne
  have hw2 := blk_far (p := ⟨gb, 0, none⟩) h.f (Ne.symm n1) v
  have hb2 : (W.setCell ⟨gb, 0, none⟩ v).heap[gb]? = some (.cells #[v] 22 (0, 0)) := by have := blk_set h.b 0 v; simpa using this
  refine ⟨below_set (below_set h.bw hc.ge.1) hc.ge.2, blk_far (p := ⟨gf, 0, none⟩) hb2 n1 _, ?_, blk_far (p := ⟨gf, 0, none⟩) (blk_far (p := ⟨gb, 0, none⟩) h.m n2 _) n3 _, ?_, blk_far (p := ⟨gf, 0, none⟩) (blk_far (p := ⟨gb, 0, none⟩) h.x n6 _) n7 _, hl, ?_⟩
  · have := blk_set hw2 0 (.int .i64 c); simpa [vI] using this
  · exact ((Below.heap_setCell _ ⟨gf, 0, none⟩ _ mb n5).trans (Below.heap_setCell W ⟨gb, 0, none⟩ v mb n4)).trans h.mp
  · have h1 := Kd.R_set hr h.b (by simp [k39, Kd.iso, Kd.pair, Kd.int, Kd.bool, Kd.scalar]) 0 v
    exact Kd.R_set h1 hw2 (by simp [k39, Kd.iso, Kd.pair, Kd.int, Kd.bool, Kd.scalar]) 0 _
protected theorem keep (h : TI w0 gb gf gm mb gx mo s vb W) {v : Value} {list : List S39} (hr : Kd.R k39 39 W w0.heap.size (fun _ => True) v list) (ht : Touch (sT gb gf) W w1) : Kd.R k39 39 w1 w0.heap.size (fun _ => True) v list := by
  have h1 := Kd.R_types (Kd.R_types hr h.f (by simp [k39, Kd.iso, Kd.pair, Kd.int, Kd.bool, Kd.scalar])) h.b (by simp [k39, Kd.iso, Kd.pair, Kd.int, Kd.bool, Kd.scalar])
  exact Kd.R_mono (ht.R h1 (fun k hk z => z.elim hk.2 hk.1.2)) (fun _ _ => trivial)
end
end TI
def PostT (w0 : World) (gb gf gm mb gx : Nat) (mo : Obj) (s : Option (List S39 × Int)) (W : World) (e : Ending) (w' : World) : Prop :=
  e = .returned (.tuple #[]) ∧ ∃ vb, TI w0 gb gf gm mb gx mo s vb w' ∧ Touch (sT gb gf) W w'
/-- What is kept when a tackle is found. -/
def betI (list : List S39) (blocks : Int) : Option (List S39 × Int) → Option (List S39 × Int)
  | none => some (list, blocks)
  | some x => if blocks < x.2 then some (list, blocks) else some x
/-- The program's search. -/
def tkI (fst : Int → S39) (cnt : S39 → Option Int) : Nat → Int → Int → Int → List S39 → Option (List S39 × Int) → Option (Option (List S39 × Int))
  | 0, left, _, blocks, list, s => if left = 1 then some (betI list blocks s) else some s
  | m + 1, left, most, blocks, list, s => if left = 1 then some (betI list blocks s) else
      rdD (fun a s => if Int.tmod left a = 0 then (cnt (fst a)).bind fun c => if 0 ≤ c ∧ c ≤ 2 then tkI fst cnt m (Int.tdiv left a) a (blocks + c) (list ++ [fst a]) s else none else some s) ((if most < left then most else left) - 1).toNat s
section
variable {w0 W : World} {gb gf gm mb gx : Nat} {mo : Obj} {s : Option (List S39 × Int)} {vb : Value} {fst : Int → S39} {list : List S39} {left most blocks : Int} {Al : Option Addr} {cl : Nat}
set_option maxHeartbeats 8000000 in
set_option maxRecDepth 100000 in
/-- No more purchases are allowed. -/
theorem ext_full (h : TI w0 gb gf gm mb gx mo s vb W) (h1 : left ≠ 1) (hl : list.length = 6) :
    Calls Try.prog 44 #[.slice Al list.length cl, .int .i64 left, .int .i64 most, .int .i64 blocks, .pointer (some ⟨gb, 0, none⟩), .pointer (some ⟨gf, 0, none⟩), .pointer (some ⟨gm, 0, none⟩), .pointer (some ⟨gx, 0, none⟩)] W (PostT w0 gb gf gm mb gx mo s W) := by
  have H0 := Aside0.mk h
  have c1 : (left == 1) = false := beq_eq_false_iff_ne.mpr h1
  have c6 : ((list.length : Int) == 6) = true := by rw [hl]; rfl
  clear h h1 hl
  go_enter Try.func44, Try.ntmps44
  go_wp2_with (fail)
  (try simp only [Exit.inBlock, Exit.then]); refine bodyPost_ret (results_none rfl _ _ _) rfl ?_
  exact ⟨rfl, vb, H0.out, Touch.refl _ _⟩
set_option maxHeartbeats 8000000 in
set_option maxRecDepth 100000 in
/-- A tackle is found. -/
theorem ext_found (hc : TC w0 gb gf gm mb gx mo fst) (h : TI w0 gb gf gm mb gx mo s vb W) (hr : Kd.R k39 39 W w0.heap.size (fun _ => True) (.slice Al list.length cl) list) (hl : 1 ≤ list.length ∧ list.length ≤ 6) :
    Calls Try.prog 44 #[.slice Al list.length cl, .int .i64 1, .int .i64 most, .int .i64 blocks, .pointer (some ⟨gb, 0, none⟩), .pointer (some ⟨gf, 0, none⟩), .pointer (some ⟨gm, 0, none⟩), .pointer (some ⟨gx, 0, none⟩)] W (PostT w0 gb gf gm mb gx mo (betI list blocks s) W) := by
  have H0 := Aside0.mk (And.intro hc (And.intro h (And.intro hr hl)))
  have f0 := blk_cell h.b 0
  have f1 := blk_cell h.f 0
  simp only [List.getElem?_toArray, List.getElem?_cons_zero] at f0 f1
  cases s with
  | none =>
    have hv : vb = .slice none 0 0 := h.r
    subst hv
    clear hc h hr hl
    have hu := Try.underlying22
    go_enter Try.func44, Try.ntmps44
    go_wp2_with (first | ((with_reducible refine gate_dst (N := 23) rfl ?_); refine Kd.R_lit k39 (w0 := W) W.heap.size 39 ?hg (N := 23) ?hd (xs := ([] : List S39)) (inner := []) (ok := fun _ => True) (okp := fun _ => True) ?hr ?hp (fun _ hk => hk) trivial (Below.refl _ _) (Nat.le_refl _) (by simp) ?_; (case hd => rfl); (case hg => rfl); (case hr => first | (go_simp; done) | (go_simp; rfl)); (case hp => exact (Reps.none _ _)); intro v23 w3 ho hb hg_ hnew_; have HV := Aside0.mk (And.intro ho hb); clear hg_ hnew_ ho hb) | (at_builtin; refine Kd.R_append_rows k39 (w0 := W) W.heap.size rfl (.tmp 23) (.tmp 24) 22 39 (.agg #[(.int .i64 0), (.int .i64 0), (.bool false)]) 24 rfl Try.underlying22 infoPu rfl (by decide) (by omega) v23 [] list _ _ _ (fun _ => True) (fun _ => False) rfl rfl ?aO ?aR (fun x cs h => kKP x cs h) (fun _ h => h.elim) ?aF ?aB ?aS ?aL ?_; (case aR => exact Kd.C_below (Kd.R_reads' H0.out.2.2.1).2.2 HV.out.2); (case aB => exact HV.out.2); (case aF => exact (fun _ _ => trivial)); (case aO => exact HV.out.1); (case aS => exact HV.out.2.size); (case aL => have := H0.out.2.2.2; simp; omega); intro v25 w4 ho hb hg hat; obtain ⟨A25, c25, rfl⟩ := Kd.R_slice ho; have HI4 := H0.out.2.1.below hb; have q4 := blk_cell HI4.b 0; have y4 := blk_frozen HI4.b 0; have m4 := blk_far (p := ⟨gb, 0, none⟩) HI4.f (Ne.symm H0.out.1.ne.1) (.slice A25 list.length c25); have q3 := blk_cell m4 0; have y3 := blk_frozen m4 0; simp only [List.getElem?_toArray, List.getElem?_cons_zero] at q3 q4; have HZ := Aside0.mk (show TI w0 gb gf gm mb gx mo (some (list, blocks)) (.slice A25 list.length c25) ((w4.setCell ⟨gb, 0, none⟩ (.slice A25 list.length c25)).setCell ⟨gf, 0, none⟩ (.int .i64 blocks)) ∧ Touch (sT gb gf) W ((w4.setCell ⟨gb, 0, none⟩ (.slice A25 list.length c25)).setCell ⟨gf, 0, none⟩ (.int .i64 blocks)) from ⟨TI.set H0.out.1 HI4 _ H0.out.2.2.2.1 (Kd.R_lower ho H0.out.2.1.bw.size), ((Touch.of_below hb).set (fun _ => .inl rfl) _).set (fun _ => .inr rfl) _⟩); clear ho hb hg hat m4 HI4))
    (try simp only [Exit.inBlock, Exit.then]); refine bodyPost_ret (results_none rfl _ _ _) rfl ?_
    exact ⟨rfl, _, HZ.out.1, HZ.out.2⟩
  | some x =>
    have hv := h.r
    obtain ⟨Av, cv, rfl⟩ := Kd.R_slice hv.2
    have hne : ∃ ad, Av = some ad := by
      rcases row_at hv.2 with ⟨_, z, _⟩ | ⟨g, z, _⟩
      · omega
      · exact ⟨_, z⟩
    obtain ⟨ad, rfl⟩ := hne
    have hu := Try.underlying22
    by_cases c2 : blocks < x.2
    · have c2b : decide (blocks < vI (some x)) = true := decide_eq_true c2
      have HE := Aside0.mk (show betI list blocks (some x) = some (list, blocks) from by show (if blocks < x.2 then some (list, blocks) else some x) = _; rw [if_pos c2])
      clear hc h hr hl hv
      go_enter Try.func44, Try.ntmps44
      go_wp2_with (first | ((with_reducible refine gate_dst (N := 23) rfl ?_); refine Kd.R_lit k39 (w0 := W) W.heap.size 39 ?hg (N := 23) ?hd (xs := ([] : List S39)) (inner := []) (ok := fun _ => True) (okp := fun _ => True) ?hr ?hp (fun _ hk => hk) trivial (Below.refl _ _) (Nat.le_refl _) (by simp) ?_; (case hd => rfl); (case hg => rfl); (case hr => first | (go_simp; done) | (go_simp; rfl)); (case hp => exact (Reps.none _ _)); intro v23 w3 ho hb hg_ hnew_; have HV := Aside0.mk (And.intro ho hb); clear hg_ hnew_ ho hb) | (at_builtin; refine Kd.R_append_rows k39 (w0 := W) W.heap.size rfl (.tmp 23) (.tmp 24) 22 39 (.agg #[(.int .i64 0), (.int .i64 0), (.bool false)]) 24 rfl Try.underlying22 infoPu rfl (by decide) (by omega) v23 [] list _ _ _ (fun _ => True) (fun _ => False) rfl rfl ?aO ?aR (fun x cs h => kKP x cs h) (fun _ h => h.elim) ?aF ?aB ?aS ?aL ?_; (case aR => exact Kd.C_below (Kd.R_reads' H0.out.2.2.1).2.2 HV.out.2); (case aB => exact HV.out.2); (case aF => exact (fun _ _ => trivial)); (case aO => exact HV.out.1); (case aS => exact HV.out.2.size); (case aL => have := H0.out.2.2.2; simp; omega); intro v25 w4 ho hb hg hat; obtain ⟨A25, c25, rfl⟩ := Kd.R_slice ho; have HI4 := H0.out.2.1.below hb; have q4 := blk_cell HI4.b 0; have y4 := blk_frozen HI4.b 0; have m4 := blk_far (p := ⟨gb, 0, none⟩) HI4.f (Ne.symm H0.out.1.ne.1) (.slice A25 list.length c25); have q3 := blk_cell m4 0; have y3 := blk_frozen m4 0; simp only [List.getElem?_toArray, List.getElem?_cons_zero] at q3 q4; have HZ := Aside0.mk (show TI w0 gb gf gm mb gx mo (some (list, blocks)) (.slice A25 list.length c25) ((w4.setCell ⟨gb, 0, none⟩ (.slice A25 list.length c25)).setCell ⟨gf, 0, none⟩ (.int .i64 blocks)) ∧ Touch (sT gb gf) W ((w4.setCell ⟨gb, 0, none⟩ (.slice A25 list.length c25)).setCell ⟨gf, 0, none⟩ (.int .i64 blocks)) from ⟨TI.set H0.out.1 HI4 _ H0.out.2.2.2.1 (Kd.R_lower ho H0.out.2.1.bw.size), ((Touch.of_below hb).set (fun _ => .inl rfl) _).set (fun _ => .inr rfl) _⟩); clear ho hb hg hat m4 HI4))
      (try simp only [Exit.inBlock, Exit.then]); refine bodyPost_ret (results_none rfl _ _ _) rfl ?_
      rw [HE.out]
      exact ⟨rfl, _, HZ.out.1, HZ.out.2⟩
    · have c2b : decide (blocks < vI (some x)) = false := decide_eq_false c2
      have HE := Aside0.mk (show betI list blocks (some x) = some x from by show (if blocks < x.2 then some (list, blocks) else some x) = some x; rw [if_neg c2])
      clear hc h hr hl hv
      go_enter Try.func44, Try.ntmps44
      go_wp2_with (fail)
      (try simp only [Exit.inBlock, Exit.then]); refine bodyPost_ret (results_none rfl _ _ _) rfl ?_
      rw [HE.out]
      exact ⟨rfl, _, H0.out.2.1, Touch.refl _ _⟩
end
section
variable {w0 W : World} {gb gf gm mb gx : Nat} {mo : Obj} {s s' : Option (List S39 × Int)} {vb : Value} {fst : Int → S39} {list : List S39} {left most blocks : Int} {Al : Option Addr} {cl m : Nat}
/-- One round of the program's search. -/
def tkQ (fst : Int → S39) (cnt : S39 → Option Int) (m : Nat) (left blocks : Int) (list : List S39) (a : Int) (s : Option (List S39 × Int)) : Option (Option (List S39 × Int)) :=
  if Int.tmod left a = 0 then (cnt (fst a)).bind fun c => if 0 ≤ c ∧ c ≤ 2 then tkI fst cnt m (Int.tdiv left a) a (blocks + c) (list ++ [fst a]) s else none else some s
theorem tkI_step (fst : Int → S39) (cnt : S39 → Option Int) (m : Nat) (left most blocks : Int) (list : List S39) (s : Option (List S39 × Int)) :
    tkI fst cnt (m + 1) left most blocks list s = if left = 1 then some (betI list blocks s) else rdD (tkQ fst cnt m left blocks list) ((if most < left then most else left) - 1).toNat s := rfl
def cntB (p : S39) : Option Int := impl_blocksOf.f p.f0 p.f1 p.f2
set_option maxHeartbeats 16000000 in
set_option maxRecDepth 100000 in
theorem ext_node (hc : TC w0 gb gf gm mb gx mo fst) (h1 : 1 ≤ left ∧ left ≤ 5000) (hl : left ≠ 1) (hm : 0 ≤ most ∧ most ≤ 9) (hbl : 0 ≤ blocks ∧ blocks ≤ 1000) (hn : list.length < 6)
    (ih : ∀ (W : World) (list' : List S39) (Al : Option Addr) (cl : Nat) (left' most' blocks' : Int) (s s' : Option (List S39 × Int)) (vb : Value), TI w0 gb gf gm mb gx mo s vb W → Kd.R k39 39 W w0.heap.size (fun _ => True) (.slice Al list'.length cl) list' → list'.length = list.length + 1 → (1 ≤ left' ∧ left' ≤ 5000) → (0 ≤ most' ∧ most' ≤ 9) → (0 ≤ blocks' ∧ blocks' ≤ blocks + 2) → tkI fst cntB m left' most' blocks' list' s = some s' →
      Calls Try.prog 44 #[.slice Al list'.length cl, .int .i64 left', .int .i64 most', .int .i64 blocks', .pointer (some ⟨gb, 0, none⟩), .pointer (some ⟨gf, 0, none⟩), .pointer (some ⟨gm, 0, none⟩), .pointer (some ⟨gx, 0, none⟩)] W (PostT w0 gb gf gm mb gx mo s' W))
    (h : TI w0 gb gf gm mb gx mo s vb W) (hr : Kd.R k39 39 W w0.heap.size (fun _ => True) (.slice Al list.length cl) list) (hs : rdD (tkQ fst cntB m left blocks list) ((if most < left then most else left) - 1).toNat s = some s') :
    Calls Try.prog 44 #[.slice Al list.length cl, .int .i64 left, .int .i64 most, .int .i64 blocks, .pointer (some ⟨gb, 0, none⟩), .pointer (some ⟨gf, 0, none⟩), .pointer (some ⟨gm, 0, none⟩), .pointer (some ⟨gx, 0, none⟩)] W (PostT w0 gb gf gm mb gx mo s' W) := by
  obtain ⟨mn, hmn⟩ : ∃ mn, mn = (if most < left then most else left) := ⟨_, rfl⟩
  have hmin : min most left = mn := by rw [hmn]; split <;> omega
  have hmr : 0 ≤ mn ∧ mn ≤ 9 := by rw [hmn]; split <;> omega
  rw [← hmn] at hs
  have H0 := Aside0.mk (And.intro hc (And.intro h (And.intro h1 (And.intro hbl (And.intro hn (And.intro hs (And.intro hmr hr)))))))
  have HIH := Aside0.mk ih
  have cl1 : (left == 1) = false := beq_eq_false_iff_ne.mpr hl
  have c6 : ((list.length : Int) == 6) = false := beq_eq_false_iff_ne.mpr (by omega)
  clear h hc hl hs hmn hmr hm hbl h1 hn ih hr
  go_enter Try.func44, Try.ntmps44
  go_wp2_with (fail)
  all_goals
    clear cl1 c6
    go_loopg [12] ((mn - 1).toNat + 1) (fun kq v12 w' => ∃ (a : Int), v12 = .int .i64 a ∧ Aside0 (a = kq ∨ (kq = 1 ∧ a ≤ 1 ∧ 0 ≤ a)) ∧ Aside0 (a ≤ 9 ∧ 1 ≤ kq) ∧ ∃ (vb1 : Value) (s1 : Option (List S39 × Int)), Aside0 (TI w0 gb gf gm mb gx mo s1 vb1 w' ∧ Touch (sT gb gf) W w') ∧ Aside0 (rdD (tkQ fst cntB m left blocks list) (kq - 1) s1 = some s'))
    case atStart => exact ⟨mn, by congr 1; omega, ⟨by have := H0.out.2.2.2.2.2.2.1; omega⟩, ⟨by have := H0.out.2.2.2.2.2.2.1; omega, by omega⟩, vb, s, ⟨H0.out.2.1, Touch.refl _ _⟩, ⟨H0.out.2.2.2.2.2.1⟩⟩
    case round =>
      obtain ⟨a, rfl, HA, HR, vb1, s1, HJ, HS⟩ := hrel
      obtain ⟨gq, rfl⟩ : ∃ m, gk = m + 1 := ⟨gk - 1, by have := HR.out; omega⟩
      by_cases c2 : 2 ≤ a
      · have c2b : decide (a ≥ 2) = true := decide_eq_true c2
        have C2 := Aside0.mk c2
        clear c2
        obtain ⟨gr, rfl⟩ : ∃ m, gq = m + 1 := ⟨gq - 1, by have := C2.out; have := HA.out; omega⟩
        have HE := Aside0.mk (show a = (gr : Int) + 2 from by have := C2.out; have := HA.out; omega)
        obtain ⟨s3, hs2, hs3⟩ := Option.bind_eq_some_iff.mp (show (tkQ fst cntB m left blocks list ((gr : Int) + 2) s1).bind (fun s' => rdD (tkQ fst cntB m left blocks list) gr s') = some s' from HS.out)
        rw [← HE.out] at hs2
        have HX := Aside0.mk hs3
        clear hs3
        have az : (a == 0) = false := beq_eq_false_iff_ne.mpr (by have := C2.out; omega)
        have az2 : (a = 0) = False := eq_false (by have := C2.out; omega)
        by_cases c3 : Int.tmod left a = 0
        · have c3b : (Int.tmod left a == 0) = true := by simp [c3]
          unfold tkQ at hs2
          rw [if_pos c3] at hs2
          obtain ⟨c, hcn, hs2⟩ := Option.bind_eq_some_iff.mp hs2
          by_cases c5 : 0 ≤ c ∧ c ≤ 2
          · rw [if_pos c5] at hs2
            have HP2 := Aside0.mk (And.intro hcn (And.intro c5 (And.intro hs2 c3)))
            clear hcn c5 hs2 c3
            have fm := blk_cell HJ.out.1.m 0
            simp only [List.getElem?_toArray, List.getElem?_cons_zero] at fm
            have hlk := H0.out.1.look _ HJ.out.1.mp a C2.out HR.out.1
            go_upto_region 9 with (fail)
            have hdv := div_in H0.out.2.2.1 C2.out HP2.out.2.2.2
            have hwq : wrap64 (Int.tdiv left a) = Int.tdiv left a := wrap_id _ (by omega) (by omega)
            have hwb : wrap64 (blocks + c) = blocks + c := wrap_id _ (by have := H0.out.2.2.2.1; have := HP2.out.2.1; omega) (by have := H0.out.2.2.2.1; have := HP2.out.2.1; omega)
            clear fm hlk
            obtain ⟨gt, HGT⟩ : ∃ g, Aside0 (g = wr.heap.size) := ⟨_, ⟨rfl⟩⟩
            rw [← HGT.out]
            obtain ⟨w3, HW3⟩ : ∃ w3, Aside0 (w3 = wr.alloc (.cells #[.int .i64 (fst a).f0, .int .i64 (fst a).f1, .bool (fst a).f2] 39)) := ⟨_, ⟨rfl⟩⟩
            rw [← HW3.out]
            have HG := Aside0.mk (show TI w0 gb gf gm mb gx mo s1 vb1 w3 ∧ Touch (sT gb gf) W w3 ∧ (∀ w', Below w3.heap.size w3 w' → w'.cell? ⟨gx, 0, none⟩ = some (.func (.func 44) #[] #[.pointer (some ⟨gb, 0, none⟩), .pointer (some ⟨gf, 0, none⟩), .pointer (some ⟨gm, 0, none⟩), .pointer (some ⟨gx, 0, none⟩)]) ∧ w'.cell? ⟨gt, 0, none⟩ = some (.int .i64 (fst a).f0) ∧ w'.cell? ⟨gt, 1, none⟩ = some (.int .i64 (fst a).f1) ∧ w'.cell? ⟨gt, 2, none⟩ = some (.bool (fst a).f2)) from by
              have b23 : Below wr.heap.size wr w3 := HW3.out ▸ below_alloc (Below.refl _ _) _
              have hI3 := HJ.out.1.below b23
              have ht : w3.heap[gt]? = some (.cells #[.int .i64 (fst a).f0, .int .i64 (fst a).f1, .bool (fst a).f2] 39 (0, 0)) := by rw [HGT.out, HW3.out]; exact alloc_at _ _
              refine ⟨hI3, HJ.out.2.later b23, fun w' hb => ?_⟩
              have hx := blk_cell ((hI3.below hb).x) 0
              have ht' := (hb.block gt (blk_lt ht)).trans ht
              have h0 := blk_cell ht' 0
              have h1 := blk_cell ht' 1
              have h2 := blk_cell ht' 2
              simp only [List.getElem?_toArray, List.getElem?_cons_zero, List.getElem?_cons_succ] at hx h0 h1 h2
              exact ⟨hx, h0, h1, h2⟩)
            clear HGT HW3
            refine start_ (n := 16) (S := fun w' => w'.cell? ⟨gx, 0, none⟩ = some (.func (.func 44) #[] #[.pointer (some ⟨gb, 0, none⟩), .pointer (some ⟨gf, 0, none⟩), .pointer (some ⟨gm, 0, none⟩), .pointer (some ⟨gx, 0, none⟩)]) ∧ w'.cell? ⟨gt, 0, none⟩ = some (.int .i64 (fst a).f0) ∧ w'.cell? ⟨gt, 1, none⟩ = some (.int .i64 (fst a).f1) ∧ w'.cell? ⟨gt, 2, none⟩ = some (.bool (fst a).f2)) (ds := [15]) #[false, false, false, false, false, false, false, false, false, false, false, false, false, false, false, false] (by kernel_rfl) rfl rfl (HG.out.2.2 _ (below_drew (Below.refl w3.heap.size w3))) (fun hHeld => ?_)
            obtain ⟨w4, HE4⟩ : ∃ w4, Aside0 (w4 = w3.drew) := ⟨_, ⟨rfl⟩⟩
            rw [← HE4.out]
            rw [← HE4.out] at hHeld
            have HB4 := Aside0.mk (show Below w3.heap.size w3 w4 from HE4.out ▸ below_drew (Below.refl _ _))
            clear HE4
            have HSF := Aside0.mk (show ∀ w', Below w4.heap.size w4 w' → (w'.cell? ⟨gx, 0, none⟩ = some (.func (.func 44) #[] #[.pointer (some ⟨gb, 0, none⟩), .pointer (some ⟨gf, 0, none⟩), .pointer (some ⟨gm, 0, none⟩), .pointer (some ⟨gx, 0, none⟩)]) ∧ w'.cell? ⟨gt, 0, none⟩ = some (.int .i64 (fst a).f0) ∧ w'.cell? ⟨gt, 1, none⟩ = some (.int .i64 (fst a).f1) ∧ w'.cell? ⟨gt, 2, none⟩ = some (.bool (fst a).f2)) from fun w' hb => HG.out.2.2 w' (below_step HB4.out hb))
            refine pure_ (i := 2) (N := some 46) (v := ?_) (a' := ?_) #[false, false, true, false, false, false, false, false, false, false, false, false, false, false, false, false] rfl rfl (by kernel_rfl) (fun _ _ _ h => h) (Or.inl ⟨by rfl, ?_⟩) ?_ ?_
            rotate_left
            · intro w'
              go_simp
              with_reducible rfl
            rotate_left
            · simp only [Act.put, List.setIfInBounds_toArray, List.set_cons_zero, List.set_cons_succ, i64_w, i32_w]
              rfl
            refine pure_ (i := 7) (N := some 51) (v := ?_) (a' := ?_) #[false, false, true, false, false, false, false, true, false, false, false, false, false, false, false, false] rfl rfl (by kernel_rfl) (fun _ _ _ h => h) (Or.inl ⟨by rfl, ?_⟩) ?_ ?_
            rotate_left
            · intro w'
              go_simp
              with_reducible rfl
            rotate_left
            · simp only [Act.put, List.setIfInBounds_toArray, List.set_cons_zero, List.set_cons_succ, i64_w, i32_w]
              rfl
            refine pure_ (i := 8) (N := some 52) (v := ?_) (a' := ?_) #[false, false, true, false, false, false, false, true, true, false, false, false, false, false, false, false] rfl rfl (by kernel_rfl) (fun _ _ _ h => h) (Or.inl ⟨by rfl, ?_⟩) ?_ ?_
            rotate_left
            · intro w'
              go_simp
              with_reducible rfl
            rotate_left
            · simp only [Act.put, List.setIfInBounds_toArray, List.set_cons_zero, List.set_cons_succ, i64_w, i32_w]
              rfl
            refine pure_ (i := 9) (N := some 53) (v := ?_) (a' := ?_) #[false, false, true, false, false, false, false, true, true, true, false, false, false, false, false, false] rfl rfl (by kernel_rfl) (fun _ _ _ h => h) (Or.inl ⟨by rfl, ?_⟩) ?_ ?_
            rotate_left
            · intro w'
              go_simp
              with_reducible rfl
            rotate_left
            · simp only [Act.put, List.setIfInBounds_toArray, List.set_cons_zero, List.set_cons_succ, i64_w, i32_w]
              rfl
            refine pure_ (i := 10) (N := some 54) (v := ?_) (a' := ?_) #[false, false, true, false, false, false, false, true, true, true, true, false, false, false, false, false] rfl rfl (by kernel_rfl) (fun _ _ _ h => h) (Or.inl ⟨by rfl, ?_⟩) ?_ ?_
            rotate_left
            · intro w'
              go_simp
              with_reducible rfl
            rotate_left
            · simp only [Act.put, List.setIfInBounds_toArray, List.set_cons_zero, List.set_cons_succ, i64_w, i32_w]
              rfl
            refine pure_ (i := 11) (N := some 55) (v := ?_) (a' := ?_) #[false, false, true, false, false, false, false, true, true, true, true, true, false, false, false, false] rfl rfl (by kernel_rfl) (fun _ _ _ h => h) (Or.inl ⟨by rfl, ?_⟩) ?_ ?_
            rotate_left
            · intro w'
              go_simp
              with_reducible rfl
            rotate_left
            · simp only [Act.put, List.setIfInBounds_toArray, List.set_cons_zero, List.set_cons_succ, i64_w, i32_w]
              rfl
            refine take_ (i := 0) (N := some 44) (v := ?_) (a' := ?_) #[true, false, true, false, false, false, false, true, true, true, true, true, false, false, false, false] rfl rfl (by kernel_rfl) (fun _ _ _ h => h) (Or.inl ⟨by rfl, ?_⟩) hHeld ?_ ?_
            rotate_left
            · rintro w' ⟨s0, s1, s2, s3⟩
              go_simp
              with_reducible rfl
            rotate_left
            · simp only [Act.put, List.setIfInBounds_toArray, List.set_cons_zero, List.set_cons_succ, i64_w, i32_w]
              rfl
            refine take_ (i := 4) (N := some 48) (v := ?_) (a' := ?_) #[true, false, true, false, true, false, false, true, true, true, true, true, false, false, false, false] rfl rfl (by kernel_rfl) (fun _ _ _ h => h) (Or.inl ⟨by rfl, ?_⟩) hHeld ?_ ?_
            rotate_left
            · rintro w' ⟨s0, s1, s2, s3⟩
              go_simp
              with_reducible rfl
            rotate_left
            · simp only [Act.put, List.setIfInBounds_toArray, List.set_cons_zero, List.set_cons_succ, i64_w, i32_w]
              rfl
            refine take_ (i := 12) (N := some 56) (v := ?_) (a' := ?_) #[true, false, true, false, true, false, false, true, true, true, true, true, true, false, false, false] rfl rfl (by kernel_rfl) (fun _ _ _ h => h) (Or.inl ⟨by rfl, ?_⟩) hHeld ?_ ?_
            rotate_left
            · rintro w' ⟨s0, s1, s2, s3⟩
              go_simp
              with_reducible rfl
            rotate_left
            · simp only [Act.put, List.setIfInBounds_toArray, List.set_cons_zero, List.set_cons_succ, i64_w, i32_w]
              rfl
            refine join_ (σ := Value × Value × Value × Value) 3 #[true, true, true, true, true, true, true, true, true, true, true, true, true, false, false, false] (fun s => [(45, s.1), (47, s.2.1), (49, s.2.2.1), (50, s.2.2.2)]) (fun s w' => Below w4.heap.size w4 w' ∧ Kd.R k39 39 w' w4.heap.size (fun _ => True) s.2.2.2 (list ++ [fst a])) ?_ ?_
            · rintro ⟨v60, v62, v64, v65⟩ w5 ⟨hb5, hr5⟩
              obtain ⟨A65, c65, hv65⟩ := Kd.R_slice hr5
              simp only [List.length_append, List.length_cons, List.length_nil, Nat.zero_add] at hv65
              subst hv65
              have HY := Aside0.mk (And.intro hb5 hr5)
              clear hb5 hr5 hHeld
              refine norm_ (a' := ?_) ?_ ?_
              rotate_left
              · simp only [putAll, Act.put, List.setIfInBounds_toArray, List.set_cons_zero, List.set_cons_succ]
                rfl
              refine one_ (i := 13) (N := some 57) #[true, true, true, true, true, true, true, true, true, true, true, true, true, true, false, false] rfl rfl (by kernel_rfl) (by decide) (fun K hK => ?_)
              refine call_ 36 #[.agg #[.int .i64 (fst a).f0, .int .i64 (fst a).f1, .bool (fst a).f2]] (by rfl) rfl (by go_simp) ?_
              refine (impl_blocksOf.calls _ _ _ c _ HP2.out.1).mono ?_
              rintro e w5b ⟨rfl, hb⟩
              refine ⟨_, rfl, ?_⟩
              have HB5b := Aside0.mk hb
              clear hb
              refine hK.out _ _ (HSF.out _ (below_step HY.out.1 HB5b.out)) (fun _ => ?_)
              clear hK K
              refine norm_ (a' := ?_) ?_ ?_
              rotate_left
              · show Act.put _ (some 57) _ = _
                simp only [Act.put, List.setIfInBounds_toArray, List.set_cons_zero, List.set_cons_succ, i64_w, i32_w]
                rfl
              refine pure_ (i := 14) (N := some 58) (v := ?_) (a' := ?_) #[true, true, true, true, true, true, true, true, true, true, true, true, true, true, true, false] rfl rfl (by kernel_rfl) (fun _ _ _ h => h) (Or.inl ⟨by rfl, ?_⟩) ?_ ?_
              rotate_left
              · intro w'
                go_simp
                with_reducible rfl
              rotate_left
              · simp only [Act.put, List.setIfInBounds_toArray, List.set_cons_zero, List.set_cons_succ, i64_w, i32_w]
                rfl
              refine last_ (i := 15) (N := some 59) #[true, true, true, true, true, true, true, true, true, true, true, true, true, true, true, true] rfl rfl (by kernel_rfl) (by decide) (fun K hK => ?_)
              refine call_ 44 #[.slice A65 (list.length + 1) c65, .int .i64 (Int.tdiv left a), .int .i64 a, .int .i64 (blocks + c), .pointer (some ⟨gb, 0, none⟩), .pointer (some ⟨gf, 0, none⟩), .pointer (some ⟨gm, 0, none⟩), .pointer (some ⟨gx, 0, none⟩)] (by rfl) rfl (by go_simp) ?_
              have HD := Aside0.mk (show TI w0 gb gf gm mb gx mo s1 vb1 w5b ∧ Touch (sT gb gf) W w5b ∧ Kd.R k39 39 w5b w0.heap.size (fun _ => True) (.slice A65 (list.length + 1) c65) (list ++ [fst a]) from by
                have b35 : Below w3.heap.size w3 w5b := below_step (below_step HB4.out HY.out.1) HB5b.out
                exact ⟨HG.out.1.below b35, HG.out.2.1.later b35, Kd.R_below (Kd.R_lower HY.out.2 (Nat.le_trans HG.out.1.bw.size HB4.out.size)) HB5b.out⟩)
              have e1 : (list ++ [fst a]).length = list.length + 1 := by simp
              have hcall := HIH.out w5b (list ++ [fst a]) A65 c65 (Int.tdiv left a) a (blocks + c) s1 s3 vb1 HD.out.1 (by rw [e1]; exact HD.out.2.2) e1 hdv ⟨by have := C2.out; omega, HR.out.1⟩ ⟨by have := H0.out.2.2.2.1; have := HP2.out.2.1; omega, by have := HP2.out.2.1; omega⟩ HP2.out.2.2.1
              rw [e1] at hcall
              refine hcall.mono ?_
              rintro e w6 ⟨rfl, vb6, hJ6, hT6⟩
              refine ⟨_, rfl, ?_⟩
              have HZ := Aside0.mk (And.intro hJ6 (HD.out.2.1.step hT6))
              clear hJ6 hT6 hcall e1
              refine hK.out _ _ ?_
              clear hK K
              refine done_ (by kernel_rfl) ?_
              go_wp2
              go_roundg (gr + 1)
              case measure => omega
              case rel =>
                have hw := wrap_id (a - 1) (by have := C2.out; omega) (by have := HR.out; omega)
                exact ⟨a - 1, by rw [hw], ⟨by have := HE.out; omega⟩, ⟨by have := HR.out; omega, by omega⟩, vb6, s3, HZ, HX⟩
            · intro hjoin
              have HSF := Aside0.mk (show ∀ w', Below w4.heap.size w4 w' → (w'.cell? ⟨gx, 0, none⟩ = some (.func (.func 44) #[] #[.pointer (some ⟨gb, 0, none⟩), .pointer (some ⟨gf, 0, none⟩), .pointer (some ⟨gm, 0, none⟩), .pointer (some ⟨gx, 0, none⟩)]) ∧ w'.cell? ⟨gt, 0, none⟩ = some (.int .i64 (fst a).f0) ∧ w'.cell? ⟨gt, 1, none⟩ = some (.int .i64 (fst a).f1) ∧ w'.cell? ⟨gt, 2, none⟩ = some (.bool (fst a).f2)) from fun w' hb => HG.out.2.2 w' (below_step HB4.out hb))
              refine two_ (i := 1) (j := 5) (Ni := some 45) (Nj := some 49) #[true, true, true, false, true, false, false, true, true, true, true, true, true, false, false, false] #[true, false, true, false, true, true, false, true, true, true, true, true, true, false, false, false] rfl rfl rfl rfl (by kernel_rfl) (by decide) (by decide) (fun K hK => ?_) (fun K hK => ?_)
              · skip
                refine value_ (w1 := ?_) (v := ?_) (by rfl) rfl ?_ ?_
                rotate_left 2
                · go_simp
                  constructor
                  · rfl
                  · rfl
                refine hK.out _ _ (HSF.out _ (below_alloc (Below.refl w4.heap.size w4) (.cells #[] 39))) (fun hHeld => ?_)
                clear hK K
                refine norm_ (a' := ?_) ?_ ?_
                rotate_left
                · show Act.put _ (some 45) _ = _
                  simp only [Act.put, List.setIfInBounds_toArray, List.set_cons_zero, List.set_cons_succ, i64_w, i32_w]
                  rfl
                have HR60 := Aside0.mk (show Kd.R k39 39 (w4.alloc (.cells #[] 39)) w4.heap.size (fun _ => True) (Value.slice (some ⟨w4.heap.size, 0, none⟩) 0 0) [] from (lit_R k39 w4 39 w4.heap.size (xs := []) (inner := []) (fun _ _ _ => Reps.none _ _) (Nat.le_refl _) (by simp)))
                refine two_ (i := 3) (j := 5) (Ni := some 47) (Nj := some 49) #[true, true, true, true, true, false, false, true, true, true, true, true, true, false, false, false] #[true, true, true, false, true, true, false, true, true, true, true, true, true, false, false, false] rfl rfl rfl rfl (by kernel_rfl) (by decide) (by decide) (fun K hK => ?_) (fun K hK => ?_)
                · skip
                  refine Kd.R_append_rows_step k39 (w0 := w4) w4.heap.size (by rfl) (.tmp 45) (.tmp 46) 22 39 (.agg #[(.int .i64 0), (.int .i64 0), (.bool false)]) 24 rfl Try.underlying22 infoPu rfl (by decide) (by omega) (Value.slice (some ⟨w4.heap.size, 0, none⟩) 0 0) [] list _ _ _ (fun _ => True) (fun _ => False) rfl rfl ?aO ?aR (fun x cs h => kKP x cs h) (fun _ h => h.elim) ?aF ?aB ?aS ?aL ?_
                  (case aR => exact Kd.C_below (Kd.R_reads' (H0.out.2.1.keep H0.out.2.2.2.2.2.2.2 HG.out.2.1)).2.2 (below_step HB4.out (below_alloc (Below.refl w4.heap.size w4) (.cells #[] 39))))
                  (case aB => exact (below_alloc (Below.refl w4.heap.size w4) (.cells #[] 39)))
                  (case aF => exact (fun _ _ => trivial))
                  (case aO => exact HR60.out)
                  (case aS => exact ((below_alloc (Below.refl w4.heap.size w4) (.cells #[] 39))).size)
                  (case aL => have := H0.out.2.2.2.2.1; simp; omega)
                  intro v62 w6 ho6 hb6 _ _
                  refine hK.out _ _ (HSF.out _ hb6) (fun hHeld => ?_)
                  clear hK K
                  refine norm_ (a' := ?_) ?_ ?_
                  rotate_left
                  · show Act.put _ (some 47) _ = _
                    simp only [Act.put, List.setIfInBounds_toArray, List.set_cons_zero, List.set_cons_succ, i64_w, i32_w]
                    rfl
                  refine one_ (i := 5) (N := some 49) #[true, true, true, true, true, true, false, true, true, true, true, true, true, false, false, false] rfl rfl (by kernel_rfl) (by decide) (fun K hK => ?_)
                  refine value_ (w1 := ?_) (v := ?_) (by rfl) rfl ?_ ?_
                  rotate_left 2
                  · go_simp
                    constructor
                    · rfl
                    · rfl
                  refine hK.out _ _ (HSF.out _ (below_alloc hb6 _)) (fun hHeld => ?_)
                  clear hK K
                  refine norm_ (a' := ?_) ?_ ?_
                  rotate_left
                  · show Act.put _ (some 49) _ = _
                    simp only [Act.put, List.setIfInBounds_toArray, List.set_cons_zero, List.set_cons_succ, i64_w, i32_w]
                    rfl
                  refine one_ (i := 6) (N := some 50) #[true, true, true, true, true, true, true, true, true, true, true, true, true, false, false, false] rfl rfl (by kernel_rfl) (by decide) (fun K hK => ?_)
                  refine Kd.R_append_rows_step k39 (w0 := w4) w4.heap.size (by rfl) (.tmp 47) (.tmp 49) 22 39 (.agg #[(.int .i64 0), (.int .i64 0), (.bool false)]) 24 rfl Try.underlying22 infoPu rfl (by decide) (by omega) v62 list [fst a] _ _ _ (fun _ => True) (fun _ => False) rfl rfl ?aO ?aR (fun x cs h => kKP x cs h) (fun _ h => h.elim) ?aF ?aB ?aS ?aL ?_
                  (case aR => exact (Kd.R_reads' (lit_R k39 w6 39 w4.heap.size (xs := [fst a]) (inner := [.int .i64 (fst a).f0, .int .i64 (fst a).f1, .bool (fst a).f2]) (fun w_ b_ ok_ => Reps.snoc (Reps.none _ _) (k39_mkM w_ b_ ok_ (fst a)) rfl) hb6.size (by simp))).2.2)
                  (case aB => exact (below_alloc hb6 (.cells #[.int .i64 (fst a).f0, .int .i64 (fst a).f1, .bool (fst a).f2] 39)))
                  (case aF => exact (fun _ _ => trivial))
                  (case aO => exact (Kd.R_alloc ho6 _))
                  (case aS => exact ((below_alloc hb6 (.cells #[.int .i64 (fst a).f0, .int .i64 (fst a).f1, .bool (fst a).f2] 39))).size)
                  (case aL => have := H0.out.2.2.2.2.1; simp; omega)
                  intro v65 w8 ho8 hb8 _ _
                  refine hK.out _ _ (HSF.out _ hb8) (fun hHeld => ?_)
                  clear hK K
                  refine norm_ (a' := ?_) ?_ ?_
                  rotate_left
                  · show Act.put _ (some 50) _ = _
                    simp only [Act.put, List.setIfInBounds_toArray, List.set_cons_zero, List.set_cons_succ, i64_w, i32_w]
                    rfl
                  have hj := hjoin ((Value.slice (some ⟨w4.heap.size, 0, none⟩) 0 0), v62, (Value.slice (some ⟨w6.heap.size, 0, none⟩) 1 1), v65) w8 ⟨hb8, ho8⟩
                  simp only [putAll, Act.put, List.setIfInBounds_toArray, List.set_cons_zero, List.set_cons_succ] at hj
                  exact hj
                · skip
                  refine value_ (w1 := ?_) (v := ?_) (by rfl) rfl ?_ ?_
                  rotate_left 2
                  · go_simp
                    constructor
                    · rfl
                    · rfl
                  refine hK.out _ _ (HSF.out _ (below_alloc (below_alloc (Below.refl w4.heap.size w4) (.cells #[] 39)) (.cells #[.int .i64 (fst a).f0, .int .i64 (fst a).f1, .bool (fst a).f2] 39))) (fun hHeld => ?_)
                  clear hK K
                  refine norm_ (a' := ?_) ?_ ?_
                  rotate_left
                  · show Act.put _ (some 49) _ = _
                    simp only [Act.put, List.setIfInBounds_toArray, List.set_cons_zero, List.set_cons_succ, i64_w, i32_w]
                    rfl
                  have HRX := Aside0.mk (Kd.R_tight rfl (show Kd.R k39 39 ((w4.alloc (.cells #[] 39)).alloc (.cells #[.int .i64 (fst a).f0, .int .i64 (fst a).f1, .bool (fst a).f2] 39)) w4.heap.size (fun _ => True) (.slice (some ⟨w4.heap.size + 1, 0, none⟩) 1 1) [fst a] from by have h := (lit_R k39 (w4.alloc (.cells #[] 39)) 39 w4.heap.size (xs := [fst a]) (inner := [.int .i64 (fst a).f0, .int .i64 (fst a).f1, .bool (fst a).f2]) (fun w_ b_ ok_ => Reps.snoc (Reps.none _ _) (k39_mkM w_ b_ ok_ (fst a)) rfl) (by rw [size_alloc]; omega) (by simp)); rw [size_alloc] at h; exact h))
                  refine one_ (i := 3) (N := some 47) #[true, true, true, true, true, true, false, true, true, true, true, true, true, false, false, false] rfl rfl (by kernel_rfl) (by decide) (fun K hK => ?_)
                  refine Kd.R_append_rows_step k39 (w0 := w4) w4.heap.size (by rfl) (.tmp 45) (.tmp 46) 22 39 (.agg #[(.int .i64 0), (.int .i64 0), (.bool false)]) 24 rfl Try.underlying22 infoPu rfl (by decide) (by omega) (Value.slice (some ⟨w4.heap.size, 0, none⟩) 0 0) [] list _ _ _ (fun _ => True) (fun _ => False) rfl rfl ?aO ?aR (fun x cs h => kKP x cs h) (fun _ h => h.elim) ?aF ?aB ?aS ?aL ?_
                  (case aR => exact Kd.C_below (Kd.R_reads' (H0.out.2.1.keep H0.out.2.2.2.2.2.2.2 HG.out.2.1)).2.2 (below_step HB4.out (below_alloc (below_alloc (Below.refl w4.heap.size w4) (.cells #[] 39)) (.cells #[.int .i64 (fst a).f0, .int .i64 (fst a).f1, .bool (fst a).f2] 39))))
                  (case aB => exact (below_alloc (below_alloc (Below.refl w4.heap.size w4) (.cells #[] 39)) (.cells #[.int .i64 (fst a).f0, .int .i64 (fst a).f1, .bool (fst a).f2] 39)))
                  (case aF => exact (fun _ _ => trivial))
                  (case aO => exact (Kd.R_alloc HR60.out _))
                  (case aS => exact ((below_alloc (below_alloc (Below.refl w4.heap.size w4) (.cells #[] 39)) (.cells #[.int .i64 (fst a).f0, .int .i64 (fst a).f1, .bool (fst a).f2] 39))).size)
                  (case aL => have := H0.out.2.2.2.2.1; simp; omega)
                  intro v62 w6 ho6 hb6 hg6 _
                  have HRY := Aside0.mk (Kd.R_grown HRX.out hg6 (fun k hk e => by have h1 := e.symm.trans hk; simp only [Value.ownBlock, size_alloc, Option.some.injEq] at h1 hk e; omega))
                  refine hK.out _ _ (HSF.out _ hb6) (fun hHeld => ?_)
                  clear hK K
                  refine norm_ (a' := ?_) ?_ ?_
                  rotate_left
                  · show Act.put _ (some 47) _ = _
                    simp only [Act.put, List.setIfInBounds_toArray, List.set_cons_zero, List.set_cons_succ, i64_w, i32_w]
                    rfl
                  refine one_ (i := 6) (N := some 50) #[true, true, true, true, true, true, true, true, true, true, true, true, true, false, false, false] rfl rfl (by kernel_rfl) (by decide) (fun K hK => ?_)
                  refine Kd.R_append_rows_step k39 (w0 := w4) w4.heap.size (by rfl) (.tmp 47) (.tmp 49) 22 39 (.agg #[(.int .i64 0), (.int .i64 0), (.bool false)]) 24 rfl Try.underlying22 infoPu rfl (by decide) (by omega) v62 list [fst a] _ _ _ (fun _ => True) (fun _ => False) rfl rfl ?aO ?aR (fun x cs h => kKP x cs h) (fun _ h => h.elim) ?aF ?aB ?aS ?aL ?_
                  (case aR => exact (Kd.R_reads' HRY.out).2.2)
                  (case aB => exact hb6)
                  (case aF => exact (fun _ _ => trivial))
                  (case aO => exact ho6)
                  (case aS => exact (hb6).size)
                  (case aL => have := H0.out.2.2.2.2.1; simp; omega)
                  intro v65 w8 ho8 hb8 _ _
                  refine hK.out _ _ (HSF.out _ hb8) (fun hHeld => ?_)
                  clear hK K
                  refine norm_ (a' := ?_) ?_ ?_
                  rotate_left
                  · show Act.put _ (some 50) _ = _
                    simp only [Act.put, List.setIfInBounds_toArray, List.set_cons_zero, List.set_cons_succ, i64_w, i32_w]
                    rfl
                  have hj := hjoin ((Value.slice (some ⟨w4.heap.size, 0, none⟩) 0 0), v62, (Value.slice (some ⟨w4.heap.size + 1, 0, none⟩) 1 1), v65) w8 ⟨hb8, ho8⟩
                  simp only [putAll, Act.put, List.setIfInBounds_toArray, List.set_cons_zero, List.set_cons_succ] at hj
                  exact hj
              · skip
                refine value_ (w1 := ?_) (v := ?_) (by rfl) rfl ?_ ?_
                rotate_left 2
                · go_simp
                  constructor
                  · rfl
                  · rfl
                refine hK.out _ _ (HSF.out _ (below_alloc (Below.refl w4.heap.size w4) (.cells #[.int .i64 (fst a).f0, .int .i64 (fst a).f1, .bool (fst a).f2] 39))) (fun hHeld => ?_)
                clear hK K
                refine norm_ (a' := ?_) ?_ ?_
                rotate_left
                · show Act.put _ (some 49) _ = _
                  simp only [Act.put, List.setIfInBounds_toArray, List.set_cons_zero, List.set_cons_succ, i64_w, i32_w]
                  rfl
                have HRX := Aside0.mk (Kd.R_tight rfl (lit_R k39 w4 39 w4.heap.size (xs := [fst a]) (inner := [.int .i64 (fst a).f0, .int .i64 (fst a).f1, .bool (fst a).f2]) (fun w_ b_ ok_ => Reps.snoc (Reps.none _ _) (k39_mkM w_ b_ ok_ (fst a)) rfl) (Nat.le_refl _) (by simp)))
                refine one_ (i := 1) (N := some 45) #[true, true, true, false, true, true, false, true, true, true, true, true, true, false, false, false] rfl rfl (by kernel_rfl) (by decide) (fun K hK => ?_)
                refine value_ (w1 := ?_) (v := ?_) (by rfl) rfl ?_ ?_
                rotate_left 2
                · go_simp
                  constructor
                  · rfl
                  · rfl
                refine hK.out _ _ (HSF.out _ (below_alloc (below_alloc (Below.refl w4.heap.size w4) (.cells #[.int .i64 (fst a).f0, .int .i64 (fst a).f1, .bool (fst a).f2] 39)) (.cells #[] 39))) (fun hHeld => ?_)
                clear hK K
                refine norm_ (a' := ?_) ?_ ?_
                rotate_left
                · show Act.put _ (some 45) _ = _
                  simp only [Act.put, List.setIfInBounds_toArray, List.set_cons_zero, List.set_cons_succ, i64_w, i32_w]
                  rfl
                refine one_ (i := 3) (N := some 47) #[true, true, true, true, true, true, false, true, true, true, true, true, true, false, false, false] rfl rfl (by kernel_rfl) (by decide) (fun K hK => ?_)
                refine Kd.R_append_rows_step k39 (w0 := w4) w4.heap.size (by rfl) (.tmp 45) (.tmp 46) 22 39 (.agg #[(.int .i64 0), (.int .i64 0), (.bool false)]) 24 rfl Try.underlying22 infoPu rfl (by decide) (by omega) (Value.slice (some ⟨(w4.heap.size + 1), 0, none⟩) 0 0) [] list _ _ _ (fun _ => True) (fun _ => False) rfl rfl ?aO ?aR (fun x cs h => kKP x cs h) (fun _ h => h.elim) ?aF ?aB ?aS ?aL ?_
                (case aR => exact Kd.C_below (Kd.R_reads' (H0.out.2.1.keep H0.out.2.2.2.2.2.2.2 HG.out.2.1)).2.2 (below_step HB4.out (below_alloc (below_alloc (Below.refl w4.heap.size w4) (.cells #[.int .i64 (fst a).f0, .int .i64 (fst a).f1, .bool (fst a).f2] 39)) (.cells #[] 39))))
                (case aB => exact (below_alloc (below_alloc (Below.refl w4.heap.size w4) (.cells #[.int .i64 (fst a).f0, .int .i64 (fst a).f1, .bool (fst a).f2] 39)) (.cells #[] 39)))
                (case aF => exact (fun _ _ => trivial))
                (case aO => exact (by have h := (lit_R k39 (w4.alloc (.cells #[.int .i64 (fst a).f0, .int .i64 (fst a).f1, .bool (fst a).f2] 39)) 39 w4.heap.size (xs := []) (inner := []) (fun _ _ _ => Reps.none _ _) (by rw [size_alloc]; omega) (by simp)); rw [size_alloc] at h; exact h))
                (case aS => exact ((below_alloc (below_alloc (Below.refl w4.heap.size w4) (.cells #[.int .i64 (fst a).f0, .int .i64 (fst a).f1, .bool (fst a).f2] 39)) (.cells #[] 39))).size)
                (case aL => have := H0.out.2.2.2.2.1; simp; omega)
                intro v62 w6 ho6 hb6 hg6 _
                have HRY := Aside0.mk (Kd.R_grown (Kd.R_alloc HRX.out (.cells #[] 39)) hg6 (fun k hk e => by have h1 := e.symm.trans hk; simp only [Value.ownBlock, size_alloc, Option.some.injEq] at h1 hk e; omega))
                refine hK.out _ _ (HSF.out _ hb6) (fun hHeld => ?_)
                clear hK K
                refine norm_ (a' := ?_) ?_ ?_
                rotate_left
                · show Act.put _ (some 47) _ = _
                  simp only [Act.put, List.setIfInBounds_toArray, List.set_cons_zero, List.set_cons_succ, i64_w, i32_w]
                  rfl
                refine one_ (i := 6) (N := some 50) #[true, true, true, true, true, true, true, true, true, true, true, true, true, false, false, false] rfl rfl (by kernel_rfl) (by decide) (fun K hK => ?_)
                refine Kd.R_append_rows_step k39 (w0 := w4) w4.heap.size (by rfl) (.tmp 47) (.tmp 49) 22 39 (.agg #[(.int .i64 0), (.int .i64 0), (.bool false)]) 24 rfl Try.underlying22 infoPu rfl (by decide) (by omega) v62 list [fst a] _ _ _ (fun _ => True) (fun _ => False) rfl rfl ?aO ?aR (fun x cs h => kKP x cs h) (fun _ h => h.elim) ?aF ?aB ?aS ?aL ?_
                (case aR => exact (Kd.R_reads' HRY.out).2.2)
                (case aB => exact hb6)
                (case aF => exact (fun _ _ => trivial))
                (case aO => exact ho6)
                (case aS => exact (hb6).size)
                (case aL => have := H0.out.2.2.2.2.1; simp; omega)
                intro v65 w8 ho8 hb8 _ _
                refine hK.out _ _ (HSF.out _ hb8) (fun hHeld => ?_)
                clear hK K
                refine norm_ (a' := ?_) ?_ ?_
                rotate_left
                · show Act.put _ (some 50) _ = _
                  simp only [Act.put, List.setIfInBounds_toArray, List.set_cons_zero, List.set_cons_succ, i64_w, i32_w]
                  rfl
                have hj := hjoin ((Value.slice (some ⟨w4.heap.size + 1, 0, none⟩) 0 0), v62, (Value.slice (some ⟨w4.heap.size, 0, none⟩) 1 1), v65) w8 ⟨hb8, ho8⟩
                simp only [putAll, Act.put, List.setIfInBounds_toArray, List.set_cons_zero, List.set_cons_succ] at hj
                exact hj
          · rw [if_neg c5] at hs2; cases hs2
        · have c3b : (Int.tmod left a == 0) = false := by simp [c3]
          unfold tkQ at hs2
          rw [if_neg c3] at hs2
          have e : s1 = s3 := Option.some.inj hs2
          subst e
          clear hs2 c3
          go_wp2_with (fail)
          go_roundg (gr + 1)
          case measure => omega
          case rel =>
            have hw := wrap_id (a - 1) (by have := C2.out; omega) (by have := HR.out; omega)
            exact ⟨a - 1, by rw [hw], ⟨by have := HE.out; omega⟩, ⟨by have := HR.out; omega, by omega⟩, vb1, s1, HJ, HX⟩
      · have c2b : decide (a ≥ 2) = false := decide_eq_false c2
        have C2 := Aside0.mk c2
        clear c2
        go_wp2_with (fail)
        go_end0
        obtain rfl : gq = 0 := by have := C2.out; have := HA.out; omega
        have hs : s1 = s' := Option.some.inj HS.out
        subst hs
        exact ⟨rfl, vb1, HJ.out.1, HJ.out.2⟩
end
section
variable {w0 : World} {gb gf gm mb gx : Nat} {mo : Obj} {fst : Int → S39}
theorem ext_calls (hc : TC w0 gb gf gm mb gx mo fst) : ∀ (m : Nat) (W : World) (list : List S39) (Al : Option Addr) (cl : Nat) (left most blocks : Int) (s s' : Option (List S39 × Int)) (vb : Value), list.length + m = 6 → (left = 1 → 1 ≤ list.length) → TI w0 gb gf gm mb gx mo s vb W → Kd.R k39 39 W w0.heap.size (fun _ => True) (.slice Al list.length cl) list → (1 ≤ left ∧ left ≤ 5000) → (0 ≤ most ∧ most ≤ 9) → (0 ≤ blocks ∧ blocks ≤ 2 * (6 - (m : Int))) → tkI fst cntB m left most blocks list s = some s' →
      Calls Try.prog 44 #[.slice Al list.length cl, .int .i64 left, .int .i64 most, .int .i64 blocks, .pointer (some ⟨gb, 0, none⟩), .pointer (some ⟨gf, 0, none⟩), .pointer (some ⟨gm, 0, none⟩), .pointer (some ⟨gx, 0, none⟩)] W (PostT w0 gb gf gm mb gx mo s' W) := by
  intro m
  induction m with
  | zero =>
    intro W list Al cl left most blocks s s' vb hl hne h hr h1 h2 h3 hs
    unfold tkI at hs
    by_cases c2 : left = 1
    · rw [if_pos c2] at hs
      obtain rfl := Option.some.inj hs
      subst c2
      exact ext_found hc h hr ⟨hne rfl, by omega⟩
    · rw [if_neg c2] at hs
      obtain rfl := Option.some.inj hs
      exact ext_full h c2 (by omega)
  | succ m ih =>
    intro W list Al cl left most blocks s s' vb hl hne h hr h1 h2 h3 hs
    rw [tkI_step] at hs
    by_cases c2 : left = 1
    · rw [if_pos c2] at hs
      obtain rfl := Option.some.inj hs
      subst c2
      exact ext_found hc h hr ⟨hne rfl, by omega⟩
    · rw [if_neg c2] at hs
      exact ext_node hc h1 c2 h2 ⟨h3.1, by omega⟩ (by omega) (fun W' list' Al' cl' left' most' blocks' s1 s2 vb' h' hr' hl' h1' h2' h3' hs' => ih W' list' Al' cl' left' most' blocks' s1 s2 vb' (by omega) (fun _ => by omega) h' hr' h1' h2' ⟨h3'.1, by omega⟩ hs') h hr hs
end
/-- What the map holds, as data: a purchase itself. -/
def rP : Value → Option (DataW S39 × List MemPlace)
  | .agg cs => match cs.toList with
    | [.int .i64 x, .int .i64 y, .bool b] => some (.held ⟨x, y, b⟩, [])
    | _ => none
  | _ => none
theorem rP_inv {v : Value} {p : S39} {ps : List MemPlace} (h : rP v = some (.held p, ps)) : v = .agg #[.int .i64 p.f0, .int .i64 p.f1, .bool p.f2] := by
  unfold rP at h
  split at h
  · split at h
    · rename_i cs _ x y b e
      simp only [Option.some.injEq, Prod.mk.injEq, DataW.held.injEq] at h
      obtain ⟨rfl, _⟩ := h
      have : cs = #[.int .i64 x, .int .i64 y, .bool b] := by rw [← Array.toList_inj]; exact e
      rw [this]
    · cases h
  · cases h
theorem wf_small {a : Int} (h0 : 0 ≤ a) (h1 : a ≤ 100) : (Lit.int .i64 a).wf = true := by
  have e1 : IntKind.min .i64 = -9223372036854775808 := by first | rfl | decide
  have e2 : IntKind.max .i64 = 9223372036854775807 := by first | rfl | decide
  show (decide (IntKind.min .i64 ≤ a) && decide (a ≤ IntKind.max .i64)) = true
  rw [e1, e2, decide_eq_true (show (-9223372036854775808 : Int) ≤ a by omega), decide_eq_true (show a ≤ (9223372036854775807 : Int) by omega)]
  rfl
theorem look_of {W : World} {mb n : Nat} {D : DataW S39} {a : Int} {p : S39} (ha : 0 ≤ a ∧ a ≤ 100) (h : W.ownsMap Try.prog 2 rP mb n D) (hd : ∀ z, D.atKey (.int .i64 a) z = .held p) :
    (Instr.lookup 50 (.map (some mb)) (.int .i64 a) false).run Try.prog W = .ok (.agg #[.int .i64 p.f0, .int .i64 p.f1, .bool p.f2]) W := by
  obtain ⟨v, ps, hrun, hv⟩ := h.lookup (Go.Maps.int_keyed Try.underlying2) Try.underlying50 (z := .agg #[.int .i64 0, .int .i64 0, .bool false]) (by first | rfl | kernel_rfl) (zd := .held ⟨0, 0, false⟩) (zp := []) rfl (key := .int .i64 a) (kl := .int .i64 a) (Go.Maps.keyOf_int_mk Try.underlying2 (wf_small ha.1 ha.2))
  rw [hd] at hv
  rw [hrun, rP_inv hv]
theorem owns_same {W W' : World} {mb n : Nat} {D : DataW S39} {mo : Obj} (h : W.ownsMap Try.prog 2 rP mb n D) (hm : W.heap[mb]? = some mo) (hm' : W'.heap[mb]? = some mo) : W'.ownsMap Try.prog 2 rP mb n D := by
  obtain ⟨es, clock, hb, F, hs, hD⟩ := h
  exact ⟨es, clock, by rw [hm', ← hm]; exact hb, F, hs, hD⟩
/-- The first purchase with an advantage. -/
def fst1 (k : Nat) (a : Int) : Option S39 := (impl_purchasesFor.f k a).bind fun l => l.head?
theorem fst1_mono (k : Nat) (a : Int) : LeO (fst1 k a) (fst1 (k + 1) a) := LeO.bind (impl_purchasesFor.mono a k) (fun _ => LeO.refl _)
/-- What the map is laid with. -/
def fsts (k : Nat) : Option (Int → S39) := (fst1 k 2).bind fun p2 => (fst1 k 3).bind fun p3 => (fst1 k 4).bind fun p4 => (fst1 k 5).bind fun p5 => (fst1 k 6).bind fun p6 => (fst1 k 7).bind fun p7 => (fst1 k 8).bind fun p8 => (fst1 k 9).bind fun p9 => some (fun a => if a = 2 then p2 else if a = 3 then p3 else if a = 4 then p4 else if a = 5 then p5 else if a = 6 then p6 else if a = 7 then p7 else if a = 8 then p8 else p9)
theorem fsts_mono (k : Nat) : LeO (fsts k) (fsts (k + 1)) :=
  LeO.bind (fst1_mono k 2) (fun _ => LeO.bind (fst1_mono k 3) (fun _ => LeO.bind (fst1_mono k 4) (fun _ => LeO.bind (fst1_mono k 5) (fun _ => LeO.bind (fst1_mono k 6) (fun _ => LeO.bind (fst1_mono k 7) (fun _ => LeO.bind (fst1_mono k 8) (fun _ => LeO.bind (fst1_mono k 9) (fun _ => LeO.refl _))))))))
theorem fst1_at {k : Nat} {a : Int} {p : S39} (h : fst1 k a = some p) : ∃ rest, impl_purchasesFor.f k a = some (p :: rest) := by
  obtain ⟨l, hl, hp⟩ := Option.bind_eq_some_iff.mp h
  cases l with
  | nil => cases hp
  | cons x rest => exact ⟨rest, by rw [hl, Option.some.inj hp]⟩
theorem fsts_at {k : Nat} {fst : Int → S39} (h : fsts k = some fst) (a : Int) (h2 : 2 ≤ a) (h9 : a ≤ 9) : ∃ rest, impl_purchasesFor.f k a = some (fst a :: rest) := by
  unfold fsts at h
  obtain ⟨p2, e2, h⟩ := Option.bind_eq_some_iff.mp h
  obtain ⟨p3, e3, h⟩ := Option.bind_eq_some_iff.mp h
  obtain ⟨p4, e4, h⟩ := Option.bind_eq_some_iff.mp h
  obtain ⟨p5, e5, h⟩ := Option.bind_eq_some_iff.mp h
  obtain ⟨p6, e6, h⟩ := Option.bind_eq_some_iff.mp h
  obtain ⟨p7, e7, h⟩ := Option.bind_eq_some_iff.mp h
  obtain ⟨p8, e8, h⟩ := Option.bind_eq_some_iff.mp h
  obtain ⟨p9, e9, h⟩ := Option.bind_eq_some_iff.mp h
  obtain rfl := Option.some.inj h
  have hc : a = 2 ∨ a = 3 ∨ a = 4 ∨ a = 5 ∨ a = 6 ∨ a = 7 ∨ a = 8 ∨ a = 9 := by omega
  rcases hc with rfl | rfl | rfl | rfl | rfl | rfl | rfl | rfl
  · exact fst1_at (p := p2) e2
  · exact fst1_at (p := p3) e3
  · exact fst1_at (p := p4) e4
  · exact fst1_at (p := p5) e5
  · exact fst1_at (p := p6) e6
  · exact fst1_at (p := p7) e7
  · exact fst1_at (p := p8) e8
  · exact fst1_at (p := p9) e9
/-- bestTackle's memory while its map is laid. -/
structure LM (w0 : World) (mb gm : Nat) (fst : Int → S39) (a : Int) (W : World) : Prop where
  bw : Below w0.heap.size w0 W
  m : W.heap[gm]? = some (.cells #[.map (some mb)] 50 (0, 0))
  ne : gm ≠ mb ∧ w0.heap.size ≤ mb
  own : ∃ (n : Nat) (D : DataW S39), n ≤ 100 ∧ (n : Int) + 2 = a ∧ W.ownsMap Try.prog 2 rP mb n D ∧ Go.Maps.IsMap D ∧ ∀ i : Int, 2 ≤ i → i < a → ∀ z, D.atKey (.int .i64 i) z = .held (fst i)
protected theorem LM.below {w0 W W1 : World} {mb gm : Nat} {fst : Int → S39} {a : Int} (h : LM w0 mb gm fst a W) (hb : Below W.heap.size W W1) : LM w0 mb gm fst a W1 := by
  obtain ⟨n, D, h1, h2, h3, h4, h5⟩ := h.own
  exact ⟨h.bw.trans (hb.mono h.bw.size), (hb.block _ (blk_lt h.m)).trans h.m, h.ne, n, D, h1, h2, h3.kept (grown_of_below hb none) (by simp), h4, h5⟩
protected theorem LM.put {w0 W : World} {mb gm : Nat} {fst : Int → S39} {a : Int} (h : LM w0 mb gm fst a W) (ha : 2 ≤ a) (hb : a ≤ 9) : ∃ W', (Instr.mapUpdate 50 (.map (some mb)) (.int .i64 a) (.agg #[.int .i64 (fst a).f0, .int .i64 (fst a).f1, .bool (fst a).f2])).run Try.prog W = .ok () W' ∧ LM w0 mb gm fst (a + 1) W' := by
  obtain ⟨n, D, h1, h2, h3, h4, h5⟩ := h.own
  obtain ⟨W', r1, r2, r3⟩ := h3.update (Go.Maps.int_keyed Try.underlying2) Try.underlying50 (Nat.lt_of_le_of_lt h1 (by decide)) (key := .int .i64 a) (val := .agg #[.int .i64 (fst a).f0, .int .i64 (fst a).f1, .bool (fst a).f2]) (d := .held (fst a)) (ps := []) (Go.Maps.keyOf_int_mk Try.underlying2 (wf_small (by omega) (by omega))) rfl
  refine ⟨W', r1, h.bw.grown r3 h.bw.size (fun k hk => by obtain rfl := Option.some.inj hk; exact h.ne.2), blk_grown h.m r3 (fun e => h.ne.1 (Option.some.inj e)), h.ne, n + 1, _, by omega, by omega, r2, h4.put _ _, fun i hi hj z => ?_⟩
  by_cases e : i = a
  · subst e
    exact Go.Maps.atKey_put_same (k := .int .i64 i) h4 True.intro _ _
  · rw [Go.Maps.atKey_put_other (by intro hc; injection hc with _ hc; exact e hc)]
    exact h5 i hi (by omega) z
def tkRes : Option (List S39 × Int) → List S39
  | none => []
  | some x => x.1
def impl_bestTackle.f (k : Nat) (a0 : Int) : Option (List S39) := if a0 = 1 then some [⟨1, 0, false⟩] else if 1 ≤ a0 ∧ a0 ≤ 5000 then (fsts k).bind fun fst => (tkI fst cntB 6 a0 9 0 [] none).bind fun s => some (tkRes s) else none
theorem impl_bestTackle.mono : ∀ a0 k, LeO (impl_bestTackle.f k a0) (impl_bestTackle.f (k + 1) a0) := fun a0 k => LeO.ite (LeO.refl _) (LeO.ite (LeO.bind (fsts_mono k) (fun _ => LeO.refl _)) (LeO.refl _))
set_option maxHeartbeats 16000000 in
set_option maxRecDepth 100000 in
theorem impl_bestTackle.calls (k : Nat) (a0 : Int) (r : List S39) (w : World) (h : impl_bestTackle.f k a0 = some r) :
    Calls Try.prog 28 #[.int .i64 a0] w fun e w' => ∃ v0_ : Value, e = .returned (v0_) ∧ (r = [] → v0_ = .slice none 0 0) ∧ Kd.R k39 39 w' w.heap.size (fun _ => True) v0_ r ∧ Below w.heap.size w w' := by
  by_cases c1 : a0 = 1
  · have hr : ([⟨1, 0, false⟩] : List S39) = r := Option.some.inj (by unfold impl_bestTackle.f at h; rw [if_pos c1] at h; exact h)
    subst hr
    subst c1
    clear h
    go_enter Try.func28, Try.ntmps28
    go_wp2_with (fail)
    go_ret
    refine ⟨_, rfl, (by intro h; cases h), ?_, below_alloc (Below.refl _ _) _⟩
    exact lit_R k39 w 39 w.heap.size (xs := [(⟨1, 0, false⟩ : S39)]) (inner := [.int .i64 1, .int .i64 0, .bool false]) (fun w_ b_ ok_ => Reps.snoc (Reps.none _ _) (k39_mkM w_ b_ ok_ (⟨1, 0, false⟩ : S39)) rfl) (Nat.le_refl _) (by simp)
  · by_cases c2 : 1 ≤ a0 ∧ a0 ≤ 5000
    · obtain ⟨fst, hf, h⟩ := Option.bind_eq_some_iff.mp (show (fsts k).bind (fun fst => (tkI fst cntB 6 a0 9 0 [] none).bind fun s => some (tkRes s)) = some r from by unfold impl_bestTackle.f at h; rw [if_neg c1, if_pos c2] at h; exact h)
      obtain ⟨s', hs', hr'⟩ := Option.bind_eq_some_iff.mp h
      have H0 := Aside0.mk (And.intro hs' (And.intro c2 (And.intro c1 (show tkRes s' = r from Option.some.inj hr'))))
      have HFA := Aside0.mk (fsts_at hf)
      have c1b : (a0 == 1) = false := beq_eq_false_iff_ne.mpr c1
      clear h hs' hr' c1 c2 hf
      have hmm := @run_makeMap Try.prog
      go_enter Try.func28, Try.ntmps28
      go_wp2_with (fail)
      clear hmm c1b
      obtain ⟨mb, HMB⟩ : ∃ g, Aside0 (g = w.heap.size) := ⟨_, ⟨rfl⟩⟩
      obtain ⟨gm, HGM⟩ : ∃ g, Aside0 (g = w.heap.size + 1) := ⟨_, ⟨rfl⟩⟩
      rw [← HGM.out, ← HMB.out]
      obtain ⟨w1, HW⟩ : ∃ w1, Aside0 (w1 = (w.alloc (.map #[] 0)).alloc (.cells #[.map (some mb)] 50)) := ⟨_, ⟨rfl⟩⟩
      rw [← HW.out]
      have HL := Aside0.mk (show LM w mb gm fst 2 w1 from by
        have h1 := World.ownsMap_made w Try.prog 2 rP
        rw [← HMB.out] at h1
        have h2 := alloc_at (w.alloc (.map #[] 0)) (.cells #[.map (some mb)] 50)
        have hs : (w.alloc (.map #[] 0)).heap.size = w.heap.size + 1 := by show (w.heap.push _).size = _; simp
        rw [hs, ← HGM.out] at h2
        have e1 := HMB.out
        have e2 := HGM.out
        refine ⟨HW.out ▸ ((Below.refl w.heap.size w).grown (World.grownBy_alloc w _ none) (Nat.le_refl _) (by simp)).grown (World.grownBy_alloc _ _ none) (by omega) (by simp), HW.out ▸ h2, ⟨by omega, by omega⟩, 0, _, by omega, by omega, HW.out ▸ h1.alloc _, Go.Maps.isMap_empty, fun i hi hj => by omega⟩)
      clear HW HMB HGM
      go_loopg [4] 9 (fun kq v4 w' => ∃ a : Int, v4 = .int .i64 a ∧ Aside0 (2 ≤ a ∧ a + kq = 11 ∧ 1 ≤ kq) ∧ Aside0 (LM w mb gm fst a w'))
      case atStart => exact ⟨2, rfl, ⟨by omega, by omega, by omega⟩, HL⟩
      case round =>
        clear HL
        obtain ⟨a, rfl, HA, HL⟩ := hrel
        obtain ⟨gq, rfl⟩ : ∃ m, gk = m + 1 := ⟨gk - 1, by have := HA.out; omega⟩
        by_cases c2 : a ≤ 9
        · have c2b : decide (a ≤ 9) = true := decide_eq_true c2
          obtain ⟨gr, rfl⟩ : ∃ m, gq = m + 1 := ⟨gq - 1, by have := HA.out; omega⟩
          have C2 := Aside0.mk (show 2 ≤ a ∧ a ≤ 9 from ⟨HA.out.1, c2⟩)
          clear c2
          obtain ⟨rest, hrest⟩ := HFA.out a C2.out.1 C2.out.2
          have HRS := Aside0.mk hrest
          clear hrest
          go_upto_region 7 with (fail)
          have HSF := Aside0.mk (show ∀ w', Below wr.heap.size wr w' → w'.cell? ⟨gm, 0, none⟩ = some (.map (some mb)) from by
            intro w' hb
            have h := blk_cell (HL.out.below hb).m 0
            simpa using h)
          refine start_ (n := 7) (S := fun w' => w'.cell? ⟨gm, 0, none⟩ = some (.map (some mb))) (ds := [6]) #[false, false, false, false, false, false, false] (by kernel_rfl) rfl rfl (HSF.out _ (below_drew (Below.refl _ _))) (fun hHeld => ?_)
          obtain ⟨w3, HE3⟩ : ∃ w3, Aside0 (w3 = wr.drew) := ⟨_, ⟨rfl⟩⟩
          rw [← HE3.out]
          rw [← HE3.out] at hHeld
          have HB3 := Aside0.mk (show Below wr.heap.size wr w3 from HE3.out ▸ below_drew (Below.refl _ _))
          clear HE3
          refine take_ (i := 0) (N := some 17) (v := ?_) (a' := ?_) #[true, false, false, false, false, false, false] rfl rfl (by kernel_rfl) (fun _ _ _ h => h) (Or.inl ⟨by rfl, ?_⟩) hHeld ?_ ?_
          rotate_left
          · rintro w' s0
            go_simp
            with_reducible rfl
          rotate_left
          · simp only [Act.put, List.setIfInBounds_toArray, List.set_cons_zero, List.set_cons_succ, i64_w, i32_w]
            rfl
          refine pure_ (i := 1) (N := some 18) (v := ?_) (a' := ?_) #[true, true, false, false, false, false, false] rfl rfl (by kernel_rfl) (fun _ _ _ h => h) (Or.inl ⟨by rfl, ?_⟩) ?_ ?_
          rotate_left
          · intro w'
            go_simp
            with_reducible rfl
          rotate_left
          · simp only [Act.put, List.setIfInBounds_toArray, List.set_cons_zero, List.set_cons_succ, i64_w, i32_w]
            rfl
          refine pure_ (i := 2) (N := some 19) (v := ?_) (a' := ?_) #[true, true, true, false, false, false, false] rfl rfl (by kernel_rfl) (fun _ _ _ h => h) (Or.inl ⟨by rfl, ?_⟩) ?_ ?_
          rotate_left
          · intro w'
            go_simp
            with_reducible rfl
          rotate_left
          · simp only [Act.put, List.setIfInBounds_toArray, List.set_cons_zero, List.set_cons_succ, i64_w, i32_w]
            rfl
          refine one_ (i := 3) (N := some 20) #[true, true, true, true, false, false, false] rfl rfl (by kernel_rfl) (by decide) (fun K hK => ?_)
          refine call_ 31 #[.int .i64 a] (by rfl) rfl (by go_simp) ?_
          refine (impl_purchasesFor.calls k a (fst a :: rest) _ HRS.out).mono ?_
          rintro e w4 ⟨v20, rfl, ho, hb⟩
          refine ⟨_, rfl, ?_⟩
          obtain ⟨A20, c20, rfl⟩ := Kd.R_slice ho
          obtain ⟨ad, rfl, g0, g1, g2⟩ := at_T39 (Kd.R_reads' ho).2.2 0 (by omega) (by simp)
          rw [show (0 : Int).toNat * 3 = 0 from rfl, show ad.add 0 = ad from by cases ad; rfl] at g0 g1 g2
          rw [show rd_T39 (fst a :: rest) 0 = fst a from rfl] at g0 g1 g2
          have HB4 := Aside0.mk (below_step HB3.out hb)
          clear ho hb
          refine hK.out _ _ (HSF.out _ HB4.out) (fun hHeld => ?_)
          clear hK K
          refine norm_ (a' := ?_) ?_ ?_
          rotate_left
          · show Act.put _ (some 20) _ = _
            simp only [Act.put, List.setIfInBounds_toArray, List.set_cons_zero, List.set_cons_succ, i64_w, i32_w]
            rfl
          have p0 : (0 < (fst a :: rest).length) = True := eq_true (by simp)
          have p0i : ((0 : Int) < ((fst a :: rest).length : Int)) = True := eq_true (by simp)
          have p0j : decide ((0 : Int) < ((fst a :: rest).length : Int)) = true := decide_eq_true (by simp)
          refine one_ (i := 4) (N := some 21) #[true, true, true, true, true, false, false] rfl rfl (by kernel_rfl) (by decide) (fun K hK => ?_)
          refine value_ (w1 := ?_) (v := ?_) (by rfl) rfl ?_ ?_
          rotate_left 2
          · go_simp
            constructor
            · rfl
            · rfl
          refine hK.out _ _ hHeld (fun hHeld => ?_)
          clear hK K
          refine norm_ (a' := ?_) ?_ ?_
          rotate_left
          · show Act.put _ (some 21) _ = _
            simp only [Act.put, List.setIfInBounds_toArray, List.set_cons_zero, List.set_cons_succ, i64_w, i32_w]
            rfl
          refine one_ (i := 5) (N := some 22) #[true, true, true, true, true, true, false] rfl rfl (by kernel_rfl) (by decide) (fun K hK => ?_)
          refine value_ (w1 := ?_) (v := ?_) (by rfl) rfl ?_ ?_
          rotate_left 2
          · go_simp
            constructor
            · rfl
            · rfl
          refine hK.out _ _ hHeld (fun hHeld => ?_)
          clear hK K
          refine norm_ (a' := ?_) ?_ ?_
          rotate_left
          · show Act.put _ (some 22) _ = _
            simp only [Act.put, List.setIfInBounds_toArray, List.set_cons_zero, List.set_cons_succ, i64_w, i32_w]
            rfl
          refine last_ (i := 6) (N := none) #[true, true, true, true, true, true, true] rfl rfl (by kernel_rfl) (by decide) (fun K hK => ?_)
          obtain ⟨w7, hrun, hl7⟩ := (HL.out.below HB4.out).put C2.out.1 C2.out.2
          have HL7 := Aside0.mk hl7
          clear hl7
          refine skip_ (w1 := ?_) (by rfl) rfl ?_ ?_
          rotate_left
          · go_simp
            rfl
          refine hK.out _ _ ?_
          clear hK K
          refine done_ (by kernel_rfl) ?_
          go_wp2
          go_roundg (gr + 1)
          case measure => omega
          case rel =>
            have hw := wrap_id (a + 1) (by have := C2.out; omega) (by have := C2.out; omega)
            exact ⟨a + 1, by rw [hw], ⟨by have := HA.out; omega, by have := HA.out; omega, by omega⟩, HL7⟩
        · have c2b : decide (a ≤ 9) = false := decide_eq_false c2
          obtain rfl : a = 10 := by have := HA.out; omega
          clear c2
          clear c2b HA HFA
          go_upto_region 12 with (fail)
          obtain ⟨gb, HGb⟩ : ∃ g, Aside0 (g = wr.heap.size) := ⟨_, ⟨rfl⟩⟩
          obtain ⟨gf, HGf⟩ : ∃ g, Aside0 (g = wr.heap.size + 1) := ⟨_, ⟨rfl⟩⟩
          obtain ⟨gx, HGx⟩ : ∃ g, Aside0 (g = wr.heap.size + 1 + 1) := ⟨_, ⟨rfl⟩⟩
          rw [← HGx.out, ← HGf.out, ← HGb.out]
          obtain ⟨w7, HW⟩ : ∃ w7, Aside0 (w7 = ((wr.alloc (.cells #[.slice none 0 0] 22)).alloc (.cells #[.int .i64 0] 2)).alloc (.cells #[(.func (.func 44) #[] #[.pointer (some ⟨gb, 0, none⟩), .pointer (some ⟨gf, 0, none⟩), .pointer (some ⟨gm, 0, none⟩), .pointer (some ⟨gx, 0, none⟩)])] 51)) := ⟨_, ⟨rfl⟩⟩
          rw [← HW.out]
          obtain ⟨mo, HMO⟩ : ∃ mo, Aside0 (wr.heap[mb]? = some mo) := by
            obtain ⟨n, D, _, _, h3, _, _⟩ := HL.out.own
            exact ⟨_, ⟨Array.getElem?_eq_getElem h3.lt⟩⟩
          have HI := Aside0.mk (show TI w gb gf gm mb gx mo none (.slice none 0 0) w7 ∧ TC w gb gf gm mb gx mo fst from by
            have e1 := HGx.out
            have e2 := HGf.out
            have e3 := HGb.out
            have hs := HL.out.bw.size
            have hl1 := blk_lt HL.out.m
            have hl2 := blk_lt HMO.out
            refine ⟨⟨HW.out ▸ below_alloc (below_alloc (below_alloc HL.out.bw _) _) _, ?_, ?_, HW.out ▸ alloc_old (alloc_old (alloc_old HL.out.m _) _) _, HW.out ▸ alloc_old (alloc_old (alloc_old HMO.out _) _) _, ?_, rfl⟩, ⟨⟨by omega, by omega, by omega, by omega, by omega, by omega, by omega⟩, ⟨by omega, by omega⟩, ?_⟩⟩
            · have h := alloc_at wr (.cells #[.slice none 0 0] 22)
              rw [HW.out, HGb.out]
              exact alloc_old (alloc_old h _) _
            · have h := alloc_at (wr.alloc (.cells #[.slice none 0 0] 22)) (.cells #[.int .i64 0] 2)
              simp only [size_alloc] at h
              rw [HW.out, HGf.out]
              exact alloc_old h _
            · have h := alloc_at ((wr.alloc (.cells #[.slice none 0 0] 22)).alloc (.cells #[.int .i64 0] 2)) (.cells #[(.func (.func 44) #[] #[.pointer (some ⟨gb, 0, none⟩), .pointer (some ⟨gf, 0, none⟩), .pointer (some ⟨gm, 0, none⟩), .pointer (some ⟨gx, 0, none⟩)])] 51)
              simp only [size_alloc] at h
              rw [HW.out]
              have e : gx = wr.heap.size + 1 + 1 := HGx.out
              rw [← e] at h
              exact h
            · intro W hW a ha hb
              obtain ⟨n, D, _, _, h3, _, h5⟩ := HL.out.own
              exact look_of ⟨by omega, by omega⟩ (owns_same h3 HMO.out hW) (h5 a ha (by omega)))
          clear HW HMO HGb HGf HGx HL
          have fx := blk_cell HI.out.1.x 0
          simp only [List.getElem?_toArray, List.getElem?_cons_zero] at fx
          go_upto_region 13 with (go_at_call 44; refine (ext_calls HI.out.2 6 _ [] none 0 a0 9 0 none s' _ rfl (fun h => absurd h H0.out.2.2.1) HI.out.1 (Kd.R_nil _ _ _ _ _) H0.out.2.1 ⟨by omega, by omega⟩ ⟨by omega, by omega⟩ H0.out.1).mono ?_; rintro e w8 ⟨rfl, vb, hI8, hT8⟩; have HI8 := Aside0.mk hI8; clear hI8 hT8 fx)
          have fb := blk_cell HI8.out.b 0
          simp only [List.getElem?_toArray, List.getElem?_cons_zero] at fb
          go_wp2
          go_ret
          have hr := H0.out.2.2.2
          have h8 := HI8.out.r
          cases s' with
          | none =>
            obtain rfl : vb = .slice none 0 0 := h8
            have hr : [] = r := hr
            subst hr
            exact ⟨_, rfl, fun _ => rfl, Kd.R_nil _ _ _ _ _, HI8.out.bw⟩
          | some x =>
            have hr : x.1 = r := hr
            subst hr
            exact ⟨_, rfl, fun h => by have := h8.1; rw [h] at this; simp at this, h8.2, HI8.out.bw⟩
    · exact absurd h (by unfold impl_bestTackle.f; rw [if_neg c1, if_neg c2]; simp)

end Go.Proofs.Ytcjandlemjfojaa.HFew
