-- Written by a program for this claim (the functions that the statement reaches, and that the program's code comes to them).
import Derived.Test.YtcjandlemjfojaaHFewx0
import Derived.Test.YtcjandlemjfojaaHFewx3
import Derived.Test.YtcjandlemjfojaaHFewx4
namespace Go.Proofs.Ytcjandlemjfojaa.HFew
open Go.RowKit Go.Proofs.YtcjandlemjfojaaW.PrintWords Go.Proofs.YtcjandlemjfojaaW.PrintLast Go.Proofs.YtcjandlemjfojaaW.PrintMore
attribute [local go_sem] max2_int min2_int max_two min_two max_three min_three max_four min_four   -- for this text's walks alone
set_option linter.unusedVariables false
set_option linter.unusedSimpArgs false

/-! ### spec_l05Best: function 26 (by hand) -/
theorem kKP {w : World} {base : Nat} {ok : Nat → Prop} (x : S39) (cs : List Value) (h : k39.K w x cs) : k39.M w base ok x cs := by
  obtain rfl := k39_open h
  exact k39_mkM _ _ _ x
/-- Rounds from q + 1 down to 2. -/
def rdD {σ : Type} (f : Int → σ → Option σ) : Nat → σ → Option σ
  | 0, s => some s
  | q + 1, s => (f ((q : Int) + 2) s).bind fun s' => rdD f q s'
/-- The reference's search. -/
def tkS (all : Int → Option (List S39)) (cnt : S39 → Option Int) : Nat → Int → Int → Int → List S39 → List S39 × Int → Option (List S39 × Int)
  | 0, left, _, blocks, list, s => if 0 ≤ s.2 ∧ s.2 ≤ blocks then some s else if left = 1 then some (list, blocks) else some s
  | m + 1, left, most, blocks, list, s => if 0 ≤ s.2 ∧ s.2 ≤ blocks then some s else if left = 1 then some (list, blocks) else
      rdD (fun a s => if Int.tmod left a = 0 then (all a).bind fun ps => if 0 < ps.length then (cnt (rd_T39 ps 0)).bind fun c => if 0 ≤ c ∧ c ≤ 2 then tkS all cnt m (Int.tdiv left a) a (blocks + c) (list ++ [rd_T39 ps 0]) s else none else some s else some s) ((if most < left then most else left) - 1).toNat s
/-- One round of it. -/
def tkR (all : Int → Option (List S39)) (cnt : S39 → Option Int) (m : Nat) (left blocks : Int) (list : List S39) (a : Int) (s : List S39 × Int) : Option (List S39 × Int) :=
  if Int.tmod left a = 0 then (all a).bind fun ps => if 0 < ps.length then (cnt (rd_T39 ps 0)).bind fun c => if 0 ≤ c ∧ c ≤ 2 then tkS all cnt m (Int.tdiv left a) a (blocks + c) (list ++ [rd_T39 ps 0]) s else none else some s else some s
theorem tkS_step (all : Int → Option (List S39)) (cnt : S39 → Option Int) (m : Nat) (left most blocks : Int) (list : List S39) (s : List S39 × Int) :
    tkS all cnt (m + 1) left most blocks list s = if 0 ≤ s.2 ∧ s.2 ≤ blocks then some s else if left = 1 then some (list, blocks) else rdD (tkR all cnt m left blocks list) ((if most < left then most else left) - 1).toNat s := rfl
/-- The reference's table of a search, at block g. -/
structure SL (w0 : World) (g : Nat) (list : List S39) (s : List S39 × Int) (vw vb : Value) (W : World) : Prop where
  tb : W.heap[g]? = some (.cells #[vw, vb, .int .i64 s.2] 48 (0, 0))
  hg : w0.heap.size ≤ g
  rw : Kd.R k39 39 W w0.heap.size (fun _ => True) vw list
  rb : Kd.R k39 39 W w0.heap.size (fun k => some k ≠ vw.ownBlock) vb s.1
  bw : Below w0.heap.size w0 W
namespace SL
section
variable {w0 W w1 : World} {g : Nat} {list list1 : List S39} {s : List S39 × Int} {vw vb : Value}
protected theorem below (h : SL w0 g list s vw vb W) (hb : Below W.heap.size W w1) : SL w0 g list s vw vb w1 :=
  ⟨(hb.block g (blk_lt h.tb)).trans h.tb, h.hg, Kd.R_below h.rw hb, Kd.R_below h.rb hb, h.bw.trans (hb.mono h.bw.size)⟩
protected theorem drewN (h : SL w0 g list s vw vb W) (m : Nat) : SL w0 g list s vw vb (W.drewN m) := h.below (pw_below_drewN (Below.refl _ _) m)
protected theorem best (h : SL w0 g list s vw vb W) {vf : Value} (hf : Kd.R k39 39 W w0.heap.size (fun k => some k ≠ vw.ownBlock) vf list1) (c : Int) : SL w0 g list (list1, c) vw vf ((W.setCell ⟨g, 1, none⟩ vf).setCell ⟨g, 2, none⟩ (.int .i64 c)) := by
  have t1 : (W.setCell ⟨g, 1, none⟩ vf).heap[g]? = some (.cells #[vw, vf, .int .i64 s.2] 48 (0, 0)) := by have := blk_set h.tb 1 vf; simpa using this
  refine ⟨by have := blk_set t1 2 (.int .i64 c); simpa using this, h.hg, ?_, ?_, below_set (below_set h.bw h.hg) h.hg⟩
  · exact Kd.R_set (Kd.R_set h.rw h.tb (by simp [k39, Kd.iso, Kd.pair, Kd.int, Kd.bool, Kd.scalar]) 1 vf) t1 (by simp [k39, Kd.iso, Kd.pair, Kd.int, Kd.bool, Kd.scalar]) 2 _
  · exact Kd.R_set (Kd.R_set hf h.tb (by simp [k39, Kd.iso, Kd.pair, Kd.int, Kd.bool, Kd.scalar]) 1 vf) t1 (by simp [k39, Kd.iso, Kd.pair, Kd.int, Kd.bool, Kd.scalar]) 2 _
protected theorem turn (h : SL w0 g list s vw vb W) {v1 : Value} (hw : Kd.R k39 39 W w0.heap.size (fun _ => True) v1 list1) (hb : Kd.R k39 39 W w0.heap.size (fun k => some k ≠ v1.ownBlock) vb s.1) : SL w0 g list1 s v1 vb (W.setCell ⟨g, 0, none⟩ v1) :=
  ⟨by have := blk_set h.tb 0 v1; simpa using this, h.hg, Kd.R_set hw h.tb (by simp [k39, Kd.iso, Kd.pair, Kd.int, Kd.bool, Kd.scalar]) 0 v1, Kd.R_set hb h.tb (by simp [k39, Kd.iso, Kd.pair, Kd.int, Kd.bool, Kd.scalar]) 0 v1, below_set h.bw h.hg⟩
protected theorem ne (h : SL w0 g list s vw vb W) : some g ≠ vw.ownBlock := fun e => Kd.R_ne h.rw h.tb (by simp [k39, Kd.iso, Kd.pair, Kd.int, Kd.bool, Kd.scalar]) e
protected theorem push (h : SL w0 g list s vw vb W) {v1 : Value} (hr : Kd.R k39 39 w1 w0.heap.size (fun _ => True) v1 list1) (hb : Below w0.heap.size w0 w1) (hg : W.grownBy w1 vw.ownBlock) (hat : v1.ownBlock = vw.ownBlock ∨ ∃ b, v1.ownBlock = some b ∧ W.heap.size ≤ b) :
    w1.heap[g]? = some (.cells #[vw, vb, .int .i64 s.2] 48 (0, 0)) ∧ SL w0 g list1 s v1 vb (w1.setCell ⟨g, 0, none⟩ v1) := by
  have t1 : w1.heap[g]? = some (.cells #[vw, vb, .int .i64 s.2] 48 (0, 0)) := blk_grown h.tb hg h.ne
  have rb : Kd.R k39 39 w1 w0.heap.size (fun k => some k ≠ v1.ownBlock) vb s.1 := by
    refine Kd.R_mono (Kd.R_grown (Kd.R_bound h.rb) hg (fun k hk e => hk.1 (by first | exact e | exact e.symm))) (fun k hk e => ?_)
    rcases hat with ha | ⟨b, ha, hl⟩
    · exact hk.1 (e.trans ha)
    · have h1 := e.trans ha
      injection h1 with h1
      have := hk.2.2.1
      omega
  exact ⟨t1, by have := blk_set t1 0 v1; simpa using this, h.hg, Kd.R_set hr t1 (by simp [k39, Kd.iso, Kd.pair, Kd.int, Kd.bool, Kd.scalar]) 0 v1, Kd.R_set rb t1 (by simp [k39, Kd.iso, Kd.pair, Kd.int, Kd.bool, Kd.scalar]) 0 v1, below_set hb h.hg⟩
protected theorem cut {Aw : Option Addr} {n c m : Nat} (h : SL w0 g list s (.slice Aw n c) vb W) (hm : m ≤ list.length) : SL w0 g (list.take m) s (.slice Aw m c) vb (W.setCell ⟨g, 0, none⟩ (.slice Aw m c)) :=
  h.turn (Kd.R_take h.rw hm) (Kd.R_mono h.rb (fun k hk e => hk (by rw [e]; cases Aw <;> rfl)))
end
end SL
def PostL (w0 : World) (g : Nat) (list : List S39) (s : List S39 × Int) (e : Ending) (w' : World) : Prop :=
  e = .returned (.tuple #[]) ∧ ∃ vw vb, SL w0 g list s vw vb w'
section
variable {w0 W : World} {g : Nat} {s s' : List S39 × Int} {vw vb : Value} {list : List S39} {left most blocks : Int}
set_option maxHeartbeats 8000000 in
set_option maxRecDepth 100000 in
/-- Nothing better is left. -/
theorem tac_cut (h : SL w0 g list s vw vb W) (hc : 0 ≤ s.2 ∧ s.2 ≤ blocks) :
    Calls Try.prog 43 #[.pointer (some ⟨g, 0, none⟩), .int .i64 left, .int .i64 most, .int .i64 blocks] W (PostL w0 g list s) := by
  obtain ⟨s1, s2⟩ := s
  have H0 := Aside0.mk h
  have f2 := blk_cell h.tb 2
  simp only [List.getElem?_toArray, List.getElem?_cons_zero, List.getElem?_cons_succ] at f2
  have c1 : decide (s2 ≥ 0) = true := decide_eq_true hc.1
  have c2 : decide (blocks ≥ s2) = true := decide_eq_true hc.2
  clear h hc
  go_enter Try.func43, Try.ntmps43
  go_wp2_with (fail)
  (try simp only [Exit.inBlock, Exit.then]); refine bodyPost_ret (results_none rfl _ _ _) rfl ?_
  exact ⟨rfl, _, vb, H0.out⟩
set_option maxHeartbeats 8000000 in
set_option maxRecDepth 100000 in
/-- A tackle is found. -/
theorem tac_found (h : SL w0 g list s vw vb W) (hc : ¬ (0 ≤ s.2 ∧ s.2 ≤ blocks)) (hl : list.length ≤ 6) :
    Calls Try.prog 43 #[.pointer (some ⟨g, 0, none⟩), .int .i64 1, .int .i64 most, .int .i64 blocks] W (PostL w0 g list (list, blocks)) := by
  obtain ⟨s1, s2⟩ := s
  obtain ⟨Aw, cw, hvw⟩ := Kd.R_slice h.rw
  subst hvw
  have H0 := Aside0.mk (And.intro h hl)
  have f0 := blk_cell h.tb 0
  have f2 := blk_cell h.tb 2
  simp only [List.getElem?_toArray, List.getElem?_cons_zero, List.getElem?_cons_succ] at f0 f2
  have cs : ¬ 0 ≤ s2 ∨ (0 ≤ s2 ∧ ¬ s2 ≤ blocks) := by by_cases z : 0 ≤ s2; exact .inr ⟨z, fun q => hc ⟨z, q⟩⟩; exact .inl z
  clear h hc hl
  rcases cs with c1 | ⟨c1, c2⟩
  all_goals
    first
      | (have c1b : decide (s2 ≥ 0) = false := decide_eq_false (show ¬ 0 ≤ s2 from c1); clear c1)
      | (have c1b : decide (s2 ≥ 0) = true := decide_eq_true (show 0 ≤ s2 from c1); have c2b : decide (blocks ≥ s2) = false := decide_eq_false (show ¬ s2 ≤ blocks from c2); clear c1 c2)
    go_enter Try.func43, Try.ntmps43
    go_wp2_with (first | ((with_reducible refine gate_dst (N := 27) rfl ?_); refine Kd.R_lit k39 (w0 := W) W.heap.size 39 ?hg (N := 27) ?hd (xs := ([] : List S39)) (inner := []) (ok := fun _ => True) (okp := fun _ => True) ?hr ?hp (fun _ hk => hk) trivial (Below.refl _ _) (Nat.le_refl _) (by simp) ?_; (case hd => rfl); (case hg => rfl); (case hr => first | (go_simp; done) | (go_simp; rfl)); (case hp => exact (Reps.none _ _)); intro v27 w4 ho hb hg_ hnew_; have HV := Aside0.mk (And.intro ho hb); have f0 := blk_cell (H0.out.1.below hb).tb 0; simp only [List.getElem?_toArray, List.getElem?_cons_zero, List.getElem?_cons_succ] at f0; clear hg_ hnew_ ho hb) | (at_builtin; refine Kd.R_append_rows k39 (w0 := W) W.heap.size rfl (.tmp 27) (.tmp 31) 22 39 (.agg #[(.int .i64 0), (.int .i64 0), (.bool false)]) 24 rfl Try.underlying22 infoPu rfl (by decide) (by omega) v27 [] list _ _ _ (fun _ => True) (fun _ => False) rfl rfl ?aO ?aR (fun x cs h => kKP x cs h) (fun _ h => h.elim) ?aF ?aB ?aS ?aL ?_; (case aR => exact Kd.C_below (Kd.R_reads' H0.out.1.rw).2.2 HV.out.2); (case aB => exact HV.out.2); (case aF => exact (fun _ _ => trivial)); (case aO => exact HV.out.1); (case aS => exact HV.out.2.size); (case aL => have := H0.out.2; simp; omega); intro v32 w5 ho hb hg hat; obtain ⟨A32, c32, rfl⟩ := Kd.R_slice ho; have HZ := Aside0.mk (show SL w0 g list (list, blocks) (.slice Aw list.length cw) (.slice A32 list.length c32) ((w5.setCell ⟨g, 1, none⟩ (.slice A32 list.length c32)).setCell ⟨g, 2, none⟩ (.int .i64 blocks)) from (H0.out.1.below hb).best (Kd.R_mono (Kd.R_lower (Kd.R_bound ho) H0.out.1.bw.size) (fun k hk e => by have h1 := hk.2.1; have h2 := Kd.R_lt H0.out.1.rw k e.symm; omega)) blocks); have q5 := blk_frozen (H0.out.1.below hb).tb 1; have t1 : (w5.setCell ⟨g, 1, none⟩ (.slice A32 list.length c32)).heap[g]? = some (.cells #[.slice Aw list.length cw, .slice A32 list.length c32, .int .i64 s2] 48 (0, 0)) := (by have := blk_set (H0.out.1.below hb).tb 1 (.slice A32 list.length c32); simpa using this); have q5b := blk_cell (H0.out.1.below hb).tb 1; have q6 := blk_cell t1 2; have z6 := blk_frozen t1 2; simp only [List.getElem?_toArray, List.getElem?_cons_zero, List.getElem?_cons_succ] at q5b q6; clear ho hb hg hat t1))
    (try simp only [Exit.inBlock, Exit.then]); refine bodyPost_ret (results_none rfl _ _ _) rfl ?_
    exact ⟨rfl, _, _, HZ.out⟩
set_option maxHeartbeats 8000000 in
set_option maxRecDepth 100000 in
/-- No more purchases are allowed. -/
theorem tac_full (h : SL w0 g list s vw vb W) (hc : ¬ (0 ≤ s.2 ∧ s.2 ≤ blocks)) (h1 : left ≠ 1) (hl : list.length = 6) :
    Calls Try.prog 43 #[.pointer (some ⟨g, 0, none⟩), .int .i64 left, .int .i64 most, .int .i64 blocks] W (PostL w0 g list s) := by
  obtain ⟨s1, s2⟩ := s
  obtain ⟨Aw, cw, hvw⟩ := Kd.R_slice h.rw
  subst hvw
  have H0 := Aside0.mk h
  have f0 := blk_cell h.tb 0
  have f2 := blk_cell h.tb 2
  simp only [List.getElem?_toArray, List.getElem?_cons_zero, List.getElem?_cons_succ] at f0 f2
  have cl : (left == 1) = false := by simp [h1]
  have c6 : ((list.length : Int) == 6) = true := by rw [hl]; rfl
  have cs : ¬ 0 ≤ s2 ∨ (0 ≤ s2 ∧ ¬ s2 ≤ blocks) := by by_cases z : 0 ≤ s2; exact .inr ⟨z, fun q => hc ⟨z, q⟩⟩; exact .inl z
  clear h hc hl h1
  rcases cs with c1 | ⟨c1, c2⟩
  all_goals
    first
      | (have c1b : decide (s2 ≥ 0) = false := decide_eq_false (show ¬ 0 ≤ s2 from c1); clear c1)
      | (have c1b : decide (s2 ≥ 0) = true := decide_eq_true (show 0 ≤ s2 from c1); have c2b : decide (blocks ≥ s2) = false := decide_eq_false (show ¬ s2 ≤ blocks from c2); clear c1 c2)
    go_enter Try.func43, Try.ntmps43
    go_wp2_with (fail)
    (try simp only [Exit.inBlock, Exit.then]); refine bodyPost_ret (results_none rfl _ _ _) rfl ?_
    exact ⟨rfl, _, vb, H0.out⟩
end
section
variable {w0 W : World} {g : Nat} {s s' : List S39 × Int} {vw vb : Value} {list : List S39} {left most blocks : Int} {m K : Nat}
def allS (K : Nat) (a : Int) : Option (List S39) := spec_l05All.f K a
def cntP (p : S39) : Option Int := spec_l05Count_at.f p.f0 p.f1 p.f2
theorem div_in {left a : Int} (h : 1 ≤ left ∧ left ≤ 5000) (ha : 2 ≤ a) (hm : Int.tmod left a = 0) : 1 ≤ Int.tdiv left a ∧ Int.tdiv left a ≤ 5000 := by
  have e := Int.mul_tdiv_add_tmod left a
  rw [hm, Int.add_zero] at e
  have h0 : 0 ≤ Int.tdiv left a := Int.tdiv_nonneg (by omega) (by omega)
  constructor
  · rcases Int.lt_or_le 0 (Int.tdiv left a) with h1 | h1
    · omega
    · have : Int.tdiv left a = 0 := by omega
      rw [this, Int.mul_zero] at e; omega
  · have : Int.tdiv left a ≤ a * Int.tdiv left a := by
      have := Int.mul_le_mul_of_nonneg_right (show (1 : Int) ≤ a by omega) h0
      omega
    omega
set_option maxHeartbeats 16000000 in
set_option maxRecDepth 100000 in
theorem tac_node (h1 : 1 ≤ left ∧ left ≤ 5000) (hl : left ≠ 1) (hm : 0 ≤ most ∧ most ≤ 100) (hbl : 0 ≤ blocks ∧ blocks ≤ 1000) (hn : list.length < 6) (hc : ¬ (0 ≤ s.2 ∧ s.2 ≤ blocks))
    (ih : ∀ (W : World) (list' : List S39) (left' most' blocks' : Int) (s s' : List S39 × Int) (vw vb : Value), SL w0 g list' s vw vb W → list'.length = list.length + 1 → (1 ≤ left' ∧ left' ≤ 5000) → (0 ≤ most' ∧ most' ≤ 100) → (0 ≤ blocks' ∧ blocks' ≤ blocks + 2) → tkS (allS K) cntP m left' most' blocks' list' s = some s' →
      Calls Try.prog 43 #[.pointer (some ⟨g, 0, none⟩), .int .i64 left', .int .i64 most', .int .i64 blocks'] W (PostL w0 g list' s'))
    (h : SL w0 g list s vw vb W) (hs : rdD (tkR (allS K) cntP m left blocks list) ((if most < left then most else left) - 1).toNat s = some s') :
    Calls Try.prog 43 #[.pointer (some ⟨g, 0, none⟩), .int .i64 left, .int .i64 most, .int .i64 blocks] W (PostL w0 g list s') := by
  obtain ⟨s1, s2⟩ := s
  obtain ⟨Aw, cw, hvw⟩ := Kd.R_slice h.rw
  subst hvw
  obtain ⟨mn, hmn⟩ : ∃ mn, mn = (if most < left then most else left) := ⟨_, rfl⟩
  have hmi : spec_l00Min.f most left = some mn := by unfold spec_l00Min.f; rw [hmn]; split <;> rfl
  have hmr : 0 ≤ mn ∧ mn ≤ 100 := by rw [hmn]; split <;> omega
  rw [← hmn] at hs
  have H0 := Aside0.mk (And.intro h (And.intro h1 (And.intro hbl (And.intro hn (And.intro hs (And.intro hmi hmr))))))
  have HIH := Aside0.mk ih
  have f0 := blk_cell h.tb 0
  have f2 := blk_cell h.tb 2
  simp only [List.getElem?_toArray, List.getElem?_cons_zero, List.getElem?_cons_succ] at f0 f2
  have cl : (left == 1) = false := by simp [hl]
  have c6 : ((list.length : Int) == 6) = false := by simp; omega
  have cs : ¬ 0 ≤ s2 ∨ (0 ≤ s2 ∧ ¬ s2 ≤ blocks) := by by_cases z : 0 ≤ s2; exact .inr ⟨z, fun q => hc ⟨z, q⟩⟩; exact .inl z
  clear h hc hl hs hmn hmi hmr hm hbl h1 hn ih
  rcases cs with c1 | ⟨c1, c2⟩
  all_goals
    first
      | (have c1b : decide (s2 ≥ 0) = false := decide_eq_false (show ¬ 0 ≤ s2 from c1); clear c1)
      | (have c1b : decide (s2 ≥ 0) = true := decide_eq_true (show 0 ≤ s2 from c1); have c2b : decide (blocks ≥ s2) = false := decide_eq_false (show ¬ s2 ≤ blocks from c2); clear c1 c2)
    go_enter Try.func43, Try.ntmps43
    go_wp2_with (go_at_call 55; refine (spec_l00Min.calls most left mn _ H0.out.2.2.2.2.2.1).mono ?_; rintro e w1 ⟨rfl, hd⟩; have HB1 := Aside0.mk (Drawn0.below hd); clear hd)
    clear f0 f2 cl c6
    (try clear c1b)
    (try clear c2b)
    go_loopg [9] ((mn - 1).toNat + 1) (fun kq v9 w' => ∃ (a : Int), v9 = .int .i64 a ∧ Aside0 (a = kq ∨ (kq = 1 ∧ a ≤ 1 ∧ 0 ≤ a)) ∧ Aside0 (a ≤ 100 ∧ 1 ≤ kq) ∧ ∃ (vw1 vb1 : Value) (s1 : List S39 × Int), Aside0 (SL w0 g list s1 vw1 vb1 w') ∧ Aside0 (rdD (tkR (allS K) cntP m left blocks list) (kq - 1) s1 = some s'))
    case atStart => exact ⟨mn, rfl, ⟨by have := H0.out.2.2.2.2.2.2; omega⟩, ⟨by have := H0.out.2.2.2.2.2.2; omega, by omega⟩, _, vb, (s1, s2), ⟨H0.out.1.below HB1.out⟩, ⟨H0.out.2.2.2.2.1⟩⟩
    case round =>
      obtain ⟨a, rfl, HA, HR, vw1, vb1, s1, HJ, HS⟩ := hrel
      obtain ⟨gq, rfl⟩ : ∃ m, gk = m + 1 := ⟨gk - 1, by have := HR.out; omega⟩
      obtain ⟨A1, c1, hv1⟩ := Kd.R_slice HJ.out.rw
      subst hv1
      by_cases c2 : 2 ≤ a
      · have c2b : decide (a ≥ 2) = true := decide_eq_true c2
        have C2 := Aside0.mk c2
        clear c2
        obtain ⟨gr, rfl⟩ : ∃ m, gq = m + 1 := ⟨gq - 1, by have := C2.out; have := HA.out; omega⟩
        have HE := Aside0.mk (show a = (gr : Int) + 2 from by have := C2.out; have := HA.out; omega)
        obtain ⟨s3, hs2, hs3⟩ := Option.bind_eq_some_iff.mp (show (tkR (allS K) cntP m left blocks list ((gr : Int) + 2) s1).bind (fun s' => rdD (tkR (allS K) cntP m left blocks list) gr s') = some s' from HS.out)
        rw [← HE.out] at hs2
        have HX := Aside0.mk hs3
        clear hs3
        have az : (a == 0) = false := beq_eq_false_iff_ne.mpr (by have := C2.out; omega)
        have az2 : (a = 0) = False := eq_false (by have := C2.out; omega)
        by_cases c3 : Int.tmod left a = 0
        · have c3b : (Int.tmod left a != 0) = false := by simp [c3]
          unfold tkR at hs2
          rw [if_pos c3] at hs2
          obtain ⟨ps, hps, hs2⟩ := Option.bind_eq_some_iff.mp hs2
          have HP := Aside0.mk (And.intro hps c3)
          clear hps c3
          by_cases c4 : 0 < ps.length
          · rw [if_pos c4] at hs2
            obtain ⟨c, hcn, hs2⟩ := Option.bind_eq_some_iff.mp hs2
            by_cases c5 : 0 ≤ c ∧ c ≤ 2
            · rw [if_pos c5] at hs2
              have HP2 := Aside0.mk (And.intro hcn (And.intro c5 (And.intro hs2 c4)))
              have c4b : ((ps.length : Int) == 0) = false := beq_eq_false_iff_ne.mpr (by omega)
              clear hcn c5 hs2 c4
              go_upto_region 12 with (go_at_call 32; refine (spec_l05All.calls K a ps _ HP.out.1).mono ?_; rintro e w2 ⟨v58, rfl, ho, hb⟩; obtain ⟨A58, c58, rfl⟩ := Kd.R_slice ho; have HB2 := Aside0.mk (And.intro ho hb); clear ho hb)
              obtain ⟨ad, rfl, _⟩ := at_T39 (Kd.R_reads' HB2.out.1).2.2 0 (by omega) (by have := HP2.out.2.2.2; omega)
              have HSF := Aside0.mk (show ∀ w', Below w2.heap.size w2 w' → (w'.cell? ⟨g, 0, none⟩ = some (.slice A1 list.length c1) ∧ w'.cell? ad = some (.int .i64 (rd_T39 ps 0).f0) ∧ w'.cell? ⟨ad.block, ad.off + 1, none⟩ = some (.int .i64 (rd_T39 ps 0).f1) ∧ w'.cell? ⟨ad.block, ad.off + 2, none⟩ = some (.bool (rd_T39 ps 0).f2)) from by
                intro w' hb
                have h4 := blk_cell ((HJ.out.below HB2.out.2).below hb).tb 0
                obtain ⟨ad', he, g0, g1, g2⟩ := at_T39 (Kd.R_reads' (Kd.R_below HB2.out.1 hb)).2.2 0 (by omega) (by have := HP2.out.2.2.2; omega)
                injection he with he
                subst he
                have ea : ad.add 0 = ad := by cases ad; rfl
                rw [show (0 : Int).toNat * 3 = 0 from rfl, ea] at g0 g1 g2
                simp only [List.getElem?_toArray, List.getElem?_cons_zero, List.getElem?_cons_succ] at h4
                exact ⟨h4, g0, g1, g2⟩)
              have p0 : (0 < ps.length) = True := eq_true HP2.out.2.2.2
              have p0i : ((0 : Int) < (ps.length : Int)) = True := eq_true (by have := HP2.out.2.2.2; omega)
              refine start_ (n := 13) (S := fun w' => w'.cell? ⟨g, 0, none⟩ = some (.slice A1 list.length c1) ∧ w'.cell? ad = some (.int .i64 (rd_T39 ps 0).f0) ∧ w'.cell? ⟨ad.block, ad.off + 1, none⟩ = some (.int .i64 (rd_T39 ps 0).f1) ∧ w'.cell? ⟨ad.block, ad.off + 2, none⟩ = some (.bool (rd_T39 ps 0).f2)) (ds := [9, 12]) #[false, false, false, false, false, false, false, false, false, false, false, false, false] (by kernel_rfl) rfl rfl (HSF.out _ (below_drew (Below.refl _ _))) (fun hHeld => ?_)
              obtain ⟨w4, HE4⟩ : ∃ w4, Aside0 (w4 = w2.drew) := ⟨_, ⟨rfl⟩⟩
              rw [← HE4.out]
              rw [← HE4.out] at hHeld
              have HB4 := Aside0.mk (show Below w2.heap.size w2 w4 from HE4.out ▸ below_drew (Below.refl _ _))
              have HJ4 := Aside0.mk ((HJ.out.below HB2.out.2).below HB4.out)
              clear HE4
              refine pure_ (i := 0) (N := some 62) (v := ?_) (a' := ?_) #[true, false, false, false, false, false, false, false, false, false, false, false, false] rfl rfl (by kernel_rfl) (fun _ _ _ h => h) (Or.inl ⟨by rfl, ?_⟩) ?_ ?_
              rotate_left
              · intro w'
                go_simp
                with_reducible rfl
              rotate_left
              · simp only [Act.put, List.setIfInBounds_toArray, List.set_cons_zero, List.set_cons_succ, i64_w, i32_w]
                rfl
              refine pure_ (i := 1) (N := some 63) (v := ?_) (a' := ?_) #[true, true, false, false, false, false, false, false, false, false, false, false, false] rfl rfl (by kernel_rfl) (fun _ _ _ h => h) (Or.inl ⟨by rfl, ?_⟩) ?_ ?_
              rotate_left
              · intro w'
                go_simp
                with_reducible rfl
              rotate_left
              · simp only [Act.put, List.setIfInBounds_toArray, List.set_cons_zero, List.set_cons_succ, i64_w, i32_w]
                rfl
              refine pure_ (i := 2) (N := some 64) (v := ?_) (a' := ?_) #[true, true, true, false, false, false, false, false, false, false, false, false, false] rfl rfl (by kernel_rfl) (fun _ _ _ h => h) (Or.inl ⟨by rfl, ?_⟩) ?_ ?_
              rotate_left
              · intro w'
                go_simp
                with_reducible rfl
              rotate_left
              · simp only [Act.put, List.setIfInBounds_toArray, List.set_cons_zero, List.set_cons_succ, i64_w, i32_w]
                rfl
              refine pure_ (i := 3) (N := some 65) (v := ?_) (a' := ?_) #[true, true, true, true, false, false, false, false, false, false, false, false, false] rfl rfl (by kernel_rfl) (fun _ _ _ h => h) (Or.inl ⟨by rfl, ?_⟩) ?_ ?_
              rotate_left
              · intro w'
                go_simp
                with_reducible rfl
              rotate_left
              · simp only [Act.put, List.setIfInBounds_toArray, List.set_cons_zero, List.set_cons_succ, i64_w, i32_w]
                rfl
              refine pure_ (i := 5) (N := some 67) (v := ?_) (a' := ?_) #[true, true, true, true, false, true, false, false, false, false, false, false, false] rfl rfl (by kernel_rfl) (fun _ _ _ h => h) (Or.inl ⟨by rfl, ?_⟩) ?_ ?_
              rotate_left
              · intro w'
                go_simp
                with_reducible rfl
              rotate_left
              · simp only [Act.put, List.setIfInBounds_toArray, List.set_cons_zero, List.set_cons_succ, i64_w, i32_w]
                rfl
              refine pure_ (i := 6) (N := some 68) (v := ?_) (a' := ?_) #[true, true, true, true, false, true, true, false, false, false, false, false, false] rfl rfl (by kernel_rfl) (fun _ _ _ h => h) (Or.inl ⟨by rfl, ?_⟩) ?_ ?_
              rotate_left
              · intro w'
                go_simp
                with_reducible rfl
              rotate_left
              · simp only [Act.put, List.setIfInBounds_toArray, List.set_cons_zero, List.set_cons_succ, i64_w, i32_w]
                rfl
              refine take_ (i := 4) (N := some 66) (v := ?_) (a' := ?_) #[true, true, true, true, true, true, true, false, false, false, false, false, false] rfl rfl (by kernel_rfl) (fun _ _ _ h => h) (Or.inl ⟨by rfl, ?_⟩) hHeld ?_ ?_
              rotate_left
              · rintro w' ⟨s0, s1, s2, s3⟩
                go_simp
                with_reducible rfl
              rotate_left
              · simp only [Act.put, List.setIfInBounds_toArray, List.set_cons_zero, List.set_cons_succ, i64_w, i32_w]
                rfl
              refine take_ (i := 7) (N := some 69) (v := ?_) (a' := ?_) #[true, true, true, true, true, true, true, true, false, false, false, false, false] rfl rfl (by kernel_rfl) (fun _ _ _ h => h) (Or.inl ⟨by rfl, ?_⟩) hHeld ?_ ?_
              rotate_left
              · rintro w' ⟨s0, s1, s2, s3⟩
                go_simp
                with_reducible rfl
              rotate_left
              · simp only [Act.put, List.setIfInBounds_toArray, List.set_cons_zero, List.set_cons_succ, i64_w, i32_w]
                rfl
              refine one_ (i := 8) (N := some 70) #[true, true, true, true, true, true, true, true, true, false, false, false, false] rfl rfl (by kernel_rfl) (by decide) (fun K hK => ?_)
              refine value_ (w1 := ?_) (v := ?_) (by rfl) rfl ?_ ?_
              rotate_left 2
              · go_simp
                constructor
                · rfl
                · rfl
              refine hK.out _ _ (HSF.out _ (below_alloc HB4.out (.cells #[.int .i64 (rd_T39 ps 0).f0, .int .i64 (rd_T39 ps 0).f1, .bool (rd_T39 ps 0).f2] 39))) (fun hHeld => ?_)
              clear hK K
              refine norm_ (a' := ?_) ?_ ?_
              rotate_left
              · show Act.put _ (some 70) _ = _
                simp only [Act.put, List.setIfInBounds_toArray, List.set_cons_zero, List.set_cons_succ, i64_w, i32_w]
                rfl
              refine last_ (i := 9) (N := some 71) #[true, true, true, true, true, true, true, true, true, true, false, false, false] rfl rfl (by kernel_rfl) (by decide) (fun K hK => ?_)
              refine Kd.R_append_step k39 (w0 := w0) w0.heap.size (by rfl) (.tmp 66) (.tmp 70) 22 39 (.agg #[(.int .i64 0), (.int .i64 0), (.bool false)]) 24 rfl Try.underlying22 infoPu rfl (by decide) (by omega) (.slice A1 list.length c1) list (rd_T39 ps 0) [.int .i64 (rd_T39 ps 0).f0, .int .i64 (rd_T39 ps 0).f1, .bool (rd_T39 ps 0).f2] (fun _ => True) (fun _ => False) rfl (by first | rfl | (go_simp; done)) ?aP (fun _ hk => hk.elim) (fun _ _ => trivial) ?aO ?aB ?aS ?aL ?_
              (case aP => exact k39_mkM _ _ _ (rd_T39 ps 0))
              (case aO => exact HJ4.out.rw)
              (case aB => exact HJ4.out.bw)
              (case aS => exact HJ4.out.bw.size)
              (case aL => have := H0.out.2.2.2.1; omega)
              intro v71 w5 ho hb hg hat
              obtain ⟨A5, c5, hv5⟩ := Kd.R_slice ho
              simp only [List.length_append, List.length_cons, List.length_nil, Nat.zero_add] at hv5
              subst hv5
              have HPU := Aside0.mk (HJ4.out.push ho hb hg hat)
              have HG5 := Aside0.mk (And.intro hg (Kd.R_below HB2.out.1 HB4.out))
              clear ho hb hg hat hHeld
              refine hK.out _ _ ?_
              clear hK K
              refine norm_ (a' := ?_) ?_ ?_
              rotate_left
              · show Act.put _ (some 71) _ = _
                simp only [Act.put, List.setIfInBounds_toArray, List.set_cons_zero, List.set_cons_succ, i64_w, i32_w]
                rfl
              refine pure_ (i := 10) (N := some 72) (v := ?_) (a' := ?_) #[true, true, true, true, true, true, true, true, true, true, true, false, false] rfl rfl (by kernel_rfl) (fun _ _ _ h => h) (Or.inl ⟨by rfl, ?_⟩) ?_ ?_
              rotate_left
              · intro w'
                go_simp
                with_reducible rfl
              rotate_left
              · simp only [Act.put, List.setIfInBounds_toArray, List.set_cons_zero, List.set_cons_succ, i64_w, i32_w]
                rfl
              refine pure_ (i := 11) (N := some 73) (v := ?_) (a' := ?_) #[true, true, true, true, true, true, true, true, true, true, true, true, false] rfl rfl (by kernel_rfl) (fun _ _ _ h => h) (Or.inl ⟨by rfl, ?_⟩) ?_ ?_
              rotate_left
              · intro w'
                go_simp
                with_reducible rfl
              rotate_left
              · simp only [Act.put, List.setIfInBounds_toArray, List.set_cons_zero, List.set_cons_succ, i64_w, i32_w]
                rfl
              have f4 := blk_cell HPU.out.1 0
              have z4 := blk_frozen HPU.out.1 0
              simp only [List.getElem?_toArray, List.getElem?_cons_zero, List.getElem?_cons_succ] at f4
              refine last_ (i := 12) (N := none) #[true, true, true, true, true, true, true, true, true, true, true, true, true] rfl rfl (by kernel_rfl) (by decide) (fun K hK => ?_)
              refine skip_ (w1 := ?_) (by rfl) rfl ?_ ?_
              rotate_left
              · go_simp
                rfl
              refine hK.out _ _ ?_
              clear hK K
              refine done_ (by kernel_rfl) ?_
              obtain ⟨w6, HW⟩ : ∃ w6, Aside0 (w6 = w5.setCell ⟨g, 0, none⟩ (.slice A5 (list.length + 1) c5)) := ⟨_, ⟨rfl⟩⟩
              rw [← HW.out]
              have HJ6 := Aside0.mk (show SL w0 g (list ++ [rd_T39 ps 0]) s1 (.slice A5 (list.length + 1) c5) vb1 w6 from HW.out ▸ HPU.out.2)
              have HA6 := Aside0.mk (show Kd.R k39 39 w6 wr.heap.size (fun k => wr.heap.size ≤ k) (.slice (some ad) ps.length c58) ps from by
                have h1 := Kd.R_mono (ok' := fun k => wr.heap.size ≤ k) (Kd.R_bound HG5.out.2) (fun k hk => hk.2.1)
                have h2 := Kd.R_grown h1 HG5.out.1 (fun k hk e => by have := Kd.R_lt HJ.out.rw k e.symm; omega)
                have h3 := Kd.R_far (p := ⟨g, 0, none⟩) h2 (fun k hk e => by have h4 := blk_lt HJ.out.tb; have h5 : k = g := e; omega) (.slice A5 (list.length + 1) c5)
                rw [HW.out]; exact h3)
              clear HW HPU HG5 f4 z4 HSF
              have HSF := Aside0.mk (show ∀ w', Below w6.heap.size w6 w' → (w'.cell? ad = some (.int .i64 (rd_T39 ps 0).f0) ∧ w'.cell? ⟨ad.block, ad.off + 1, none⟩ = some (.int .i64 (rd_T39 ps 0).f1) ∧ w'.cell? ⟨ad.block, ad.off + 2, none⟩ = some (.bool (rd_T39 ps 0).f2)) from by
                intro w' hb
                obtain ⟨ad', he, g0, g1, g2⟩ := at_T39 (Kd.R_reads' (Kd.R_below HA6.out hb)).2.2 0 (by omega) (by have := HP2.out.2.2.2; omega)
                injection he with he
                subst he
                have ea : ad.add 0 = ad := by cases ad; rfl
                rw [show (0 : Int).toNat * 3 = 0 from rfl, ea] at g0 g1 g2
                exact ⟨g0, g1, g2⟩)
              have hdv := div_in H0.out.2.1 C2.out HP.out.2
              have hwq : wrap64 (Int.tdiv left a) = Int.tdiv left a := wrap_id _ (by omega) (by omega)
              have hwq2 : IntKind.i64.wrap (Int.tdiv left a) = Int.tdiv left a := (i64_w _).trans hwq
              have hwb : wrap64 (blocks + c) = blocks + c := wrap_id _ (by have := H0.out.2.2.1; have := HP2.out.2.1; omega) (by have := H0.out.2.2.1; have := HP2.out.2.1; omega)
              have hwb2 : IntKind.i64.wrap (blocks + c) = blocks + c := (i64_w _).trans hwb
              have e1 : (list ++ [rd_T39 ps 0]).length = list.length + 1 := by simp
              go_upto_region 13 with (fail)
              refine start_ (n := 11) (S := fun w' => w'.cell? ad = some (.int .i64 (rd_T39 ps 0).f0) ∧ w'.cell? ⟨ad.block, ad.off + 1, none⟩ = some (.int .i64 (rd_T39 ps 0).f1) ∧ w'.cell? ⟨ad.block, ad.off + 2, none⟩ = some (.bool (rd_T39 ps 0).f2)) (ds := [10]) #[false, false, false, false, false, false, false, false, false, false, false] (by kernel_rfl) rfl rfl (HSF.out _ (below_drew (Below.refl _ _))) (fun hHeld => ?_)
              obtain ⟨w7, HE7⟩ : ∃ w7, Aside0 (w7 = w6.drew) := ⟨_, ⟨rfl⟩⟩
              rw [← HE7.out]
              rw [← HE7.out] at hHeld
              have HB7 := Aside0.mk (show Below w6.heap.size w6 w7 from HE7.out ▸ below_drew (Below.refl _ _))
              clear HE7
              refine pure_ (i := 0) (N := some 74) (v := ?_) (a' := ?_) #[true, false, false, false, false, false, false, false, false, false, false] rfl rfl (by kernel_rfl) (fun _ _ _ h => h) (Or.inl ⟨by rfl, ?_⟩) ?_ ?_
              rotate_left
              · intro w'
                go_simp
                with_reducible rfl
              rotate_left
              · simp only [Act.put, List.setIfInBounds_toArray, List.set_cons_zero, List.set_cons_succ, i64_w, i32_w]
                rfl
              refine pure_ (i := 1) (N := some 75) (v := ?_) (a' := ?_) #[true, true, false, false, false, false, false, false, false, false, false] rfl rfl (by kernel_rfl) (fun _ _ _ h => h) (Or.inl ⟨by rfl, ?_⟩) ?_ ?_
              rotate_left
              · intro w'
                go_simp
                with_reducible rfl
              rotate_left
              · simp only [Act.put, List.setIfInBounds_toArray, List.set_cons_zero, List.set_cons_succ, i64_w, i32_w]
                rfl
              refine pure_ (i := 2) (N := some 76) (v := ?_) (a' := ?_) #[true, true, true, false, false, false, false, false, false, false, false] rfl rfl (by kernel_rfl) (fun _ _ _ h => h) (Or.inl ⟨by rfl, ?_⟩) ?_ ?_
              rotate_left
              · intro w'
                go_simp
                with_reducible rfl
              rotate_left
              · simp only [Act.put, List.setIfInBounds_toArray, List.set_cons_zero, List.set_cons_succ, i64_w, i32_w]
                rfl
              refine pure_ (i := 3) (N := some 77) (v := ?_) (a' := ?_) #[true, true, true, true, false, false, false, false, false, false, false] rfl rfl (by kernel_rfl) (fun _ _ _ h => h) (Or.inl ⟨by rfl, ?_⟩) ?_ ?_
              rotate_left
              · intro w'
                go_simp
                with_reducible rfl
              rotate_left
              · simp only [Act.put, List.setIfInBounds_toArray, List.set_cons_zero, List.set_cons_succ, i64_w, i32_w]
                rfl
              refine pure_ (i := 4) (N := some 78) (v := ?_) (a' := ?_) #[true, true, true, true, true, false, false, false, false, false, false] rfl rfl (by kernel_rfl) (fun _ _ _ h => h) (Or.inl ⟨by rfl, ?_⟩) ?_ ?_
              rotate_left
              · intro w'
                go_simp
                with_reducible rfl
              rotate_left
              · simp only [Act.put, List.setIfInBounds_toArray, List.set_cons_zero, List.set_cons_succ, i64_w, i32_w]
                rfl
              refine pure_ (i := 5) (N := some 79) (v := ?_) (a' := ?_) #[true, true, true, true, true, true, false, false, false, false, false] rfl rfl (by kernel_rfl) (fun _ _ _ h => h) (Or.inl ⟨by rfl, ?_⟩) ?_ ?_
              rotate_left
              · intro w'
                go_simp
                with_reducible rfl
              rotate_left
              · simp only [Act.put, List.setIfInBounds_toArray, List.set_cons_zero, List.set_cons_succ, i64_w, i32_w]
                rfl
              refine pure_ (i := 6) (N := some 80) (v := ?_) (a' := ?_) #[true, true, true, true, true, true, true, false, false, false, false] rfl rfl (by kernel_rfl) (fun _ _ _ h => h) (Or.inl ⟨by rfl, ?_⟩) ?_ ?_
              rotate_left
              · intro w'
                go_simp
                with_reducible rfl
              rotate_left
              · simp only [Act.put, List.setIfInBounds_toArray, List.set_cons_zero, List.set_cons_succ, i64_w, i32_w]
                rfl
              refine pure_ (i := 7) (N := some 81) (v := ?_) (a' := ?_) #[true, true, true, true, true, true, true, true, false, false, false] rfl rfl (by kernel_rfl) (fun _ _ _ h => h) (Or.inl ⟨by rfl, ?_⟩) ?_ ?_
              rotate_left
              · intro w'
                go_simp
                with_reducible rfl
              rotate_left
              · simp only [Act.put, List.setIfInBounds_toArray, List.set_cons_zero, List.set_cons_succ, i64_w, i32_w]
                rfl
              refine one_ (i := 8) (N := some 82) #[true, true, true, true, true, true, true, true, true, false, false] rfl rfl (by kernel_rfl) (by decide) (fun K hK => ?_)
              refine call_ 50 #[.pointer (some ad)] (by rfl) rfl (by go_simp) ?_
              refine (spec_l05Count_at.calls ad _ _ _ c _ hHeld HP2.out.1).mono ?_
              rintro e w8 ⟨rfl, hb⟩
              refine ⟨_, rfl, ?_⟩
              have HB8 := Aside0.mk (below_step HB7.out hb)
              clear hb hHeld
              refine hK.out _ _ (HSF.out _ HB8.out) (fun hHeld => ?_)
              clear hK K
              refine norm_ (a' := ?_) ?_ ?_
              rotate_left
              · show Act.put _ (some 82) _ = _
                simp only [Act.put, List.setIfInBounds_toArray, List.set_cons_zero, List.set_cons_succ, i64_w, i32_w]
                rfl
              refine pure_ (i := 9) (N := some 83) (v := ?_) (a' := ?_) #[true, true, true, true, true, true, true, true, true, true, false] rfl rfl (by kernel_rfl) (fun _ _ _ h => h) (Or.inl ⟨by rfl, ?_⟩) ?_ ?_
              rotate_left
              · intro w'
                go_simp
                with_reducible rfl
              rotate_left
              · simp only [Act.put, List.setIfInBounds_toArray, List.set_cons_zero, List.set_cons_succ, i64_w, i32_w]
                rfl
              refine last_ (i := 10) (N := some 84) #[true, true, true, true, true, true, true, true, true, true, true] rfl rfl (by kernel_rfl) (by decide) (fun K hK => ?_)
              refine call_ 43 #[.pointer (some ⟨g, 0, none⟩), .int .i64 (Int.tdiv left a), .int .i64 a, .int .i64 (blocks + c)] (by rfl) rfl (by go_simp) ?_
              refine (HIH.out w8 _ (Int.tdiv left a) a (blocks + c) s1 s3 _ vb1 (HJ6.out.below HB8.out) e1 hdv ⟨by have := C2.out; omega, HR.out.1⟩ ⟨by have := H0.out.2.2.1; have := HP2.out.2.1; omega, by have := HP2.out.2.1; omega⟩ HP2.out.2.2.1).mono ?_
              rintro e w9 ⟨rfl, vw9, vb9, hJ9⟩
              refine ⟨_, rfl, ?_⟩
              obtain ⟨A9, c9, hv9⟩ := Kd.R_slice hJ9.rw
              rw [e1] at hv9
              subst hv9
              have HJ9 := Aside0.mk hJ9
              clear hJ9 hHeld
              refine hK.out _ _ ?_
              clear hK K
              refine done_ (by kernel_rfl) ?_
              clear HJ6 HA6 HSF hwq hwq2 hwb hwb2 hdv p0 p0i
              have f4 := blk_cell HJ9.out.tb 0
              have z4 := blk_frozen HJ9.out.tb 0
              simp only [List.getElem?_toArray, List.getElem?_cons_zero, List.getElem?_cons_succ] at f4
              obtain ⟨ti, hti, _, htz, _⟩ := info_parts infoPu
              have hle := (Kd.R_reads' HJ9.out.rw).2.1
              have hcut := cut_to (P := Try.prog) 22 39 .i64 Try.underlying22 hti A9 (list.length + 1) c9 (list.length : Int) (by omega) (by omega) hle
              simp only [Int.toNat_natCast] at hcut
              clear hle htz hti e1
              go_wp2
              have HJ8 := Aside0.mk (show SL w0 g list s3 (.slice A9 list.length c9) vb9 (w9.setCell ⟨g, 0, none⟩ (.slice A9 list.length c9)) from by
                have h := HJ9.out.cut (m := list.length) (by simp)
                rw [List.take_left] at h
                exact h)
              clear f4 z4 hcut
              go_roundg (gr + 1)
              case measure => omega
              case rel =>
                have hw := wrap_id (a - 1) (by have := C2.out; omega) (by have := HR.out; omega)
                exact ⟨a - 1, by rw [hw], ⟨by have := HE.out; omega⟩, ⟨by have := HR.out; omega, by omega⟩, _, vb9, s3, HJ8, HX⟩
            · rw [if_neg c5] at hs2; cases hs2
          · rw [if_neg c4] at hs2
            have e : s1 = s3 := Option.some.inj hs2
            have c4b : ((ps.length : Int) == 0) = true := by simp; simpa using c4
            subst e
            clear hs2 c4
            go_wp2_with (go_at_call 32; refine (spec_l05All.calls K a ps _ HP.out.1).mono ?_; rintro e w2 ⟨v58, rfl, ho, hb⟩; obtain ⟨A58, c58, rfl⟩ := Kd.R_slice ho; have HB2 := Aside0.mk (And.intro ho hb); clear ho hb)
            go_roundg (gr + 1)
            case measure => omega
            case rel =>
              have hw := wrap_id (a - 1) (by have := C2.out; omega) (by have := HR.out; omega)
              exact ⟨a - 1, by rw [hw], ⟨by have := HE.out; omega⟩, ⟨by have := HR.out; omega, by omega⟩, _, vb1, s1, ⟨HJ.out.below HB2.out.2⟩, HX⟩
        · have c3b : (Int.tmod left a != 0) = true := by simp [c3]
          unfold tkR at hs2
          rw [if_neg c3] at hs2
          have e : s1 = s3 := Option.some.inj hs2
          subst e
          clear hs2 c3
          go_wp2_with (fail)
          go_roundg (gr + 1)
          case measure => omega
          case rel =>
            have hw := wrap_id (a - 1) (by have := C2.out; omega) (by have := HR.out; omega)
            exact ⟨a - 1, by rw [hw], ⟨by have := HE.out; omega⟩, ⟨by have := HR.out; omega, by omega⟩, _, vb1, s1, HJ, HX⟩
      · have c2b : decide (a ≥ 2) = false := decide_eq_false c2
        have C2 := Aside0.mk c2
        clear c2
        go_wp2_with (fail)
        go_end0
        obtain rfl : gq = 0 := by have := C2.out; have := HA.out; omega
        have hs : s1 = s' := Option.some.inj HS.out
        subst hs
        exact ⟨rfl, _, vb1, HJ.out⟩
end
section
variable {w0 : World} {g K : Nat}
theorem tac_calls : ∀ (m : Nat) (W : World) (list : List S39) (left most blocks : Int) (s s' : List S39 × Int) (vw vb : Value), list.length + m = 6 → SL w0 g list s vw vb W → (1 ≤ left ∧ left ≤ 5000) → (0 ≤ most ∧ most ≤ 100) → (0 ≤ blocks ∧ blocks ≤ 2 * (6 - (m : Int))) → tkS (allS K) cntP m left most blocks list s = some s' →
      Calls Try.prog 43 #[.pointer (some ⟨g, 0, none⟩), .int .i64 left, .int .i64 most, .int .i64 blocks] W (PostL w0 g list s') := by
  intro m
  induction m with
  | zero =>
    intro W list left most blocks s s' vw vb hl h h1 h2 h3 hs
    unfold tkS at hs
    by_cases c1 : 0 ≤ s.2 ∧ s.2 ≤ blocks
    · rw [if_pos c1] at hs
      obtain rfl := Option.some.inj hs
      exact tac_cut h c1
    · rw [if_neg c1] at hs
      by_cases c2 : left = 1
      · rw [if_pos c2] at hs
        obtain rfl := Option.some.inj hs
        subst c2
        exact tac_found h c1 (by omega)
      · rw [if_neg c2] at hs
        obtain rfl := Option.some.inj hs
        exact tac_full h c1 c2 (by omega)
  | succ m ih =>
    intro W list left most blocks s s' vw vb hl h h1 h2 h3 hs
    rw [tkS_step] at hs
    by_cases c1 : 0 ≤ s.2 ∧ s.2 ≤ blocks
    · rw [if_pos c1] at hs
      obtain rfl := Option.some.inj hs
      exact tac_cut h c1
    · rw [if_neg c1] at hs
      by_cases c2 : left = 1
      · rw [if_pos c2] at hs
        obtain rfl := Option.some.inj hs
        subst c2
        exact tac_found h c1 (by omega)
      · rw [if_neg c2] at hs
        refine tac_node h1 c2 h2 ⟨h3.1, by omega⟩ (by omega) c1 (fun W' list' left' most' blocks' s1 s2 vw' vb' h' hl' h1' h2' h3' hs' => ih W' list' left' most' blocks' s1 s2 vw' vb' (by omega) h' h1' h2' ⟨h3'.1, by omega⟩ hs') h hs
end
theorem rdD_mono {σ : Type} {f g : Int → σ → Option σ} (h : ∀ i s, LeO (f i s) (g i s)) : ∀ m s, LeO (rdD f m s) (rdD g m s)
  | 0, _ => LeO.refl _
  | m + 1, s => LeO.bind (h _ s) (fun s' => rdD_mono h m s')
theorem tkS_mono (K : Nat) : ∀ m left most blocks list s, LeO (tkS (allS K) cntP m left most blocks list s) (tkS (allS (K + 1)) cntP m left most blocks list s)
  | 0, _, _, _, _, _ => LeO.refl _
  | m + 1, left, most, blocks, list, s => LeO.ite (LeO.refl _) (LeO.ite (LeO.refl _) (rdD_mono (fun a s => LeO.ite (LeO.bind (spec_l05All.mono a K) (fun ps => LeO.ite (LeO.bind (LeO.refl _) (fun c => LeO.ite (tkS_mono K m _ _ _ _ _) (LeO.refl _))) (LeO.refl _))) (LeO.refl _)) _ _))
def spec_l05Best.f (k : Nat) (a0 : Int) : Option (List S39 × Int) := if a0 = 1 then some ([⟨1, 0, false⟩], 1) else if 1 ≤ a0 ∧ a0 ≤ 5000 then (tkS (allS k) cntP 6 a0 9 0 [] ([], -1)).bind fun s => some (s.1, s.2) else none
theorem spec_l05Best.mono : ∀ a0 k, LeO (spec_l05Best.f k a0) (spec_l05Best.f (k + 1) a0) := fun a0 k => LeO.ite (LeO.refl _) (LeO.ite (LeO.bind (tkS_mono k 6 _ _ _ _ _) (fun _ => LeO.refl _)) (LeO.refl _))
set_option maxHeartbeats 16000000 in
set_option maxRecDepth 100000 in
theorem spec_l05Best.calls (k : Nat) (a0 : Int) (r1 : List S39) (r2 : Int) (w : World) (h : spec_l05Best.f k a0 = some (r1, r2)) :
    Calls Try.prog 26 #[.int .i64 a0] w fun e w' => ∃ v0_ : Value, e = .returned (.tuple #[v0_, .int .i64 r2]) ∧ Kd.R k39 39 w' w.heap.size (fun _ => True) v0_ r1 ∧ Below w.heap.size w w' := by
  by_cases c1 : a0 = 1
  · have hr : (([⟨1, 0, false⟩] : List S39), (1 : Int)) = (r1, r2) := Option.some.inj (by unfold spec_l05Best.f at h; rw [if_pos c1] at h; exact h)
    simp only [Prod.mk.injEq] at hr
    obtain ⟨rfl, rfl⟩ := hr
    subst c1
    clear h
    go_enter Try.func26, Try.ntmps26
    go_wp2_with (fail)
    go_ret2
    refine ⟨_, rfl, ?_, below_alloc (Below.refl _ _) _⟩
    exact lit_R k39 w 39 w.heap.size (xs := [(⟨1, 0, false⟩ : S39)]) (inner := [.int .i64 1, .int .i64 0, .bool false]) (fun w_ b_ ok_ => Reps.snoc (Reps.none _ _) (k39_mkM w_ b_ ok_ (⟨1, 0, false⟩ : S39)) rfl) (Nat.le_refl _) (by simp)
  · by_cases c2 : 1 ≤ a0 ∧ a0 ≤ 5000
    · obtain ⟨s', hs', hr'⟩ := Option.bind_eq_some_iff.mp (show (tkS (allS k) cntP 6 a0 9 0 [] ([], -1)).bind (fun s => some (s.1, s.2)) = some (r1, r2) from by unfold spec_l05Best.f at h; rw [if_neg c1, if_pos c2] at h; exact h)
      have H0 := Aside0.mk (And.intro hs' (And.intro c2 (show (s'.1, s'.2) = (r1, r2) from Option.some.inj hr')))
      have c1b : (a0 == 1) = false := beq_eq_false_iff_ne.mpr c1
      clear h hs' hr' c1 c2
      go_enter Try.func26, Try.ntmps26
      go_upto_region 4 with (fail)
      obtain ⟨g1, HG1⟩ : ∃ g, Aside0 (g = w.heap.size) := ⟨_, ⟨rfl⟩⟩
      obtain ⟨g2, HG2⟩ : ∃ g, Aside0 (g = w.heap.size + 1) := ⟨_, ⟨rfl⟩⟩
      obtain ⟨g, HG3⟩ : ∃ g, Aside0 (g = w.heap.size + 1 + 1) := ⟨_, ⟨rfl⟩⟩
      rw [← HG3.out, ← HG2.out, ← HG1.out]
      obtain ⟨w1, HW⟩ : ∃ w1, Aside0 (w1 = ((w.alloc (.cells #[] 39)).alloc (.cells #[] 39)).alloc (.cells #[.slice (some ⟨g1, 0, none⟩) 0 0, .slice (some ⟨g2, 0, none⟩) 0 0, .int .i64 (-1)] 48)) := ⟨_, ⟨rfl⟩⟩
      rw [← HW.out]
      have HS := Aside0.mk (show SL w g [] ([], -1) (.slice (some ⟨g1, 0, none⟩) 0 0) (.slice (some ⟨g2, 0, none⟩) 0 0) w1 from by
        have e1 := HG1.out
        have e2 := HG2.out
        have e3 := HG3.out
        have a3 := alloc_at ((w.alloc (.cells #[] 39)).alloc (.cells #[] 39)) (.cells #[.slice (some ⟨g1, 0, none⟩) 0 0, .slice (some ⟨g2, 0, none⟩) 0 0, .int .i64 (-1)] 48)
        simp only [size_alloc, ← e3] at a3
        have r1 := lit_R k39 w 39 w.heap.size (xs := []) (inner := []) (fun _ _ _ => Reps.none _ _) (Nat.le_refl _) (by simp)
        have r2 := lit_R k39 (w.alloc (.cells #[] 39)) 39 w.heap.size (xs := []) (inner := []) (fun _ _ _ => Reps.none _ _) (by simp only [size_alloc]; omega) (by simp)
        have r1 : Kd.R k39 39 (w.alloc (.cells #[] 39)) w.heap.size (fun _ => True) (.slice (some ⟨g1, 0, none⟩) 0 0) [] := by rw [e1]; exact r1
        simp only [size_alloc, ← e2] at r2
        refine ⟨HW.out ▸ a3, by omega, HW.out ▸ Kd.R_alloc (Kd.R_alloc r1 _) _, HW.out ▸ Kd.R_alloc (Kd.R_mono (Kd.R_tight rfl r2) (fun k hk e => ?_)) _, HW.out ▸ below_alloc (below_alloc (below_alloc (Below.refl _ _) _) _) _⟩
        have h1 : some k = some g1 := e
        have h2 : some k = some g2 := hk
        injection h1 with h1
        injection h2 with h2
        omega)
      clear HW HG1 HG2 HG3
      go_upto_region 5 with (go_at_call 43; refine (tac_calls 6 _ [] a0 9 0 ([], -1) s' _ _ rfl HS.out H0.out.2.1 (by omega) (by omega) H0.out.1).mono ?_; rintro e w2 ⟨rfl, vw, vb, hs2⟩; have HS2 := Aside0.mk hs2; clear hs2)
      have f1 := blk_cell HS2.out.tb 1
      have f2 := blk_cell HS2.out.tb 2
      simp only [List.getElem?_toArray, List.getElem?_cons_zero, List.getElem?_cons_succ] at f1 f2
      go_quiet (fail)
      go_wp2
      go_ret2
      have h := H0.out.2.2
      simp only [Prod.mk.injEq] at h
      obtain ⟨rfl, rfl⟩ := h
      exact ⟨_, rfl, Kd.R_drewN (Kd.R_mono HS2.out.rb (fun _ _ => trivial)) _, pw_below_drewN HS2.out.bw _⟩
    · exact absurd h (by unfold spec_l05Best.f; rw [if_neg c1, if_neg c2]; simp)

/-! ### spec_BestTackle: function 5 -/
def spec_BestTackle.f (k : Nat) (a0 : Int) : Option ((List (S39)) × Int) := (spec_l05Wanted.f a0).bind fun t138 => (if t138 = true then ((spec_l05Best.f k a0).bind fun bt139 => (if bt139.2 < 0 then (some (([] : List (S39)), 3)) else (some (bt139.1, 0)))) else (some (([] : List (S39)), 2)))
theorem spec_BestTackle.mono : ∀ a0 k, LeO (spec_BestTackle.f k a0) (spec_BestTackle.f (k + 1) a0) := by
  intro a0 k
  unfold spec_BestTackle.f
  repeat' first
      | (with_reducible exact spec_l05Best.mono _ _)
      | (with_reducible exact LeO.refl _)
      | (with_reducible exact LeO.none _)
      | (with_reducible refine LeO.ite ?_ ?_)
      | (with_reducible refine LeO.bind ?_ (fun _ => ?_))
      | exact spec_l05Best.mono _ _
      | exact LeO.none _
      | refine LeO.ite ?_ ?_
      | refine LeO.bind ?_ (fun _ => ?_)
set_option maxHeartbeats 8000000 in
set_option maxRecDepth 100000 in
theorem spec_BestTackle.calls (k : Nat) (a0 : Int) (r1 : List (S39)) (r2 : Int) (w : World) (h : spec_BestTackle.f k a0 = some (r1, r2)) :
    Calls Try.prog 5 #[.int .i64 a0] w fun e w' => ∃ v0_ : Value, e = .returned (.tuple #[v0_, .int .i64 r2]) ∧ Kd.R k39 39 w' w.heap.size (fun _ => True) v0_ r1 ∧ Below w.heap.size w w' := by
  have HB := Aside0.mk (Below.refl w.heap.size w)
  have H : ((spec_l05Wanted.f a0).bind fun t138 => (if t138 = true then ((spec_l05Best.f k a0).bind fun bt139 => (if bt139.2 < 0 then (some (([] : List (S39)), 3)) else (some (bt139.1, 0)))) else (some (([] : List (S39)), 2)))) = some (r1, r2) := h
  clear h
  replace H := Option.bind_eq_some_iff.mp H
  obtain ⟨t138, A20, H⟩ := H
  replace H : (if t138 = true then ((spec_l05Best.f k a0).bind fun bt139 => (if bt139.2 < 0 then (some (([] : List (S39)), 3)) else (some (bt139.1, 0)))) else (some (([] : List (S39)), 2))) = some (r1, r2) := H
  have A2 := Aside0.mk A20
  clear A20
  by_cases c3 : t138 = true
  · subst c3
    have H1 : ((spec_l05Best.f k a0).bind fun bt139 => (if bt139.2 < 0 then (some (([] : List (S39)), 3)) else (some (bt139.1, 0)))) = some (r1, r2) := by rw [if_pos rfl] at H; exact H
    clear H
    have H := H1
    clear H1
    replace H := Option.bind_eq_some_iff.mp H
    obtain ⟨⟨t139, t140⟩, A40, H⟩ := H
    replace H : (if t140 < 0 then (some (([] : List (S39)), 3)) else (some (t139, 0))) = some (r1, r2) := H
    have A4 := Aside0.mk A40
    clear A40
    by_cases c5 : t140 < 0
    · rw [if_pos c5] at H
      have c5b0 : decide (t140 < 0) = true := decide_eq_true c5
      clear c5
      simp only [Option.some.injEq, Prod.mk.injEq] at H
      obtain ⟨rfl, rfl⟩ := H
      go_enter Try.func5, Try.ntmps5
      go_wp2_with (first | ((with_reducible refine gate_callee (f := 25) rfl ?_); refine goesL_ (some 7) rfl rfl Try.func25 (by kernel_rfl) rfl #[.int .i64 a0] rfl (by (try simp only [List.map_toArray, List.map_cons, List.map_nil]); first | done | rfl | (simp only [List.length_drop, List.length_take]; rfl)) ?_; (with_reducible refine (spec_l05Wanted.calls a0 true _ A2.out).mono ?_); rintro e w' ⟨rfl, ⟨nd, rfl⟩⟩; refine ⟨_, rfl, ?_⟩) | ((with_reducible refine gate_callee (f := 26) rfl ?_); refine goesL_ (some 11) rfl rfl Try.func26 (by kernel_rfl) rfl #[.int .i64 a0] rfl (by (try simp only [List.map_toArray, List.map_cons, List.map_nil]); first | done | rfl | (simp only [List.length_drop, List.length_take]; rfl)) ?_; (with_reducible refine (spec_l05Best.calls k a0 t139 t140 _ A4.out).mono ?_); rintro e w6 ⟨v141, rfl, ho0, hb⟩; refine ⟨_, rfl, ?_⟩; have n0_ := Aside0.mk (Kd.R_lower ho0 (below_size (by repeat (first | (with_reducible first | exact HB.out | apply below_alloc | apply pw_below_drewN | apply below_drew1) | exact HB.out)))); have n1_ := Aside0.mk (below_step (by repeat (first | (with_reducible first | exact HB.out | apply below_alloc | apply pw_below_drewN | apply below_drew1) | exact HB.out)) hb); clear HB; have HO142 := n0_; have HB := n1_; clear n0_ n1_; (try clear hb); (try clear hb2); (try clear hk); (try clear hi); (try clear ho0)))
      go_ret2
      exact ⟨_, by first | rfl | (simp [errW_none, errW_some] <;> rfl) | (simp [*, errW_none, errW_some] <;> rfl), by first | exact Kd.R_nil _ _ _ _ _ | exact Kd.N_nil _ _ _ _ _ | exact Kd.V_nil _ _ _ _ _ | exact Kd.Q_nil _ _ _ _ _ | exact Kd.S_nil _ _ _ _ _, by repeat (first | (with_reducible first | exact HB.out | apply below_alloc | apply pw_below_drewN | apply below_drew1) | exact HB.out)⟩
    · rw [if_neg c5] at H
      have c5b0 : decide (t140 < 0) = false := decide_eq_false c5
      clear c5
      simp only [Option.some.injEq, Prod.mk.injEq] at H
      obtain ⟨rfl, rfl⟩ := H
      go_enter Try.func5, Try.ntmps5
      go_wp2_with (first | ((with_reducible refine gate_callee (f := 25) rfl ?_); refine goesL_ (some 7) rfl rfl Try.func25 (by kernel_rfl) rfl #[.int .i64 a0] rfl (by (try simp only [List.map_toArray, List.map_cons, List.map_nil]); first | done | rfl | (simp only [List.length_drop, List.length_take]; rfl)) ?_; (with_reducible refine (spec_l05Wanted.calls a0 true _ A2.out).mono ?_); rintro e w' ⟨rfl, ⟨nd, rfl⟩⟩; refine ⟨_, rfl, ?_⟩) | ((with_reducible refine gate_callee (f := 26) rfl ?_); refine goesL_ (some 11) rfl rfl Try.func26 (by kernel_rfl) rfl #[.int .i64 a0] rfl (by (try simp only [List.map_toArray, List.map_cons, List.map_nil]); first | done | rfl | (simp only [List.length_drop, List.length_take]; rfl)) ?_; (with_reducible refine (spec_l05Best.calls k a0 t139 t140 _ A4.out).mono ?_); rintro e w7 ⟨v141, rfl, ho0, hb⟩; refine ⟨_, rfl, ?_⟩; have n0_ := Aside0.mk (Kd.R_lower ho0 (below_size (by repeat (first | (with_reducible first | exact HB.out | apply below_alloc | apply pw_below_drewN | apply below_drew1) | exact HB.out)))); have n1_ := Aside0.mk (below_step (by repeat (first | (with_reducible first | exact HB.out | apply below_alloc | apply pw_below_drewN | apply below_drew1) | exact HB.out)) hb); clear HB; have HO142 := n0_; have HB := n1_; clear n0_ n1_; (try clear hb); (try clear hb2); (try clear hk); (try clear hi); (try clear ho0)))
      go_ret2
      exact ⟨_, by first | rfl | (simp [errW_none, errW_some] <;> rfl) | (simp [*, errW_none, errW_some] <;> rfl), by (with_reducible repeat (first | apply Kd.R_alloc | apply Kd.R_drewN | apply Kd.R_drew)); exact HO142.out, by repeat (first | (with_reducible first | exact HB.out | apply below_alloc | apply pw_below_drewN | apply below_drew1) | exact HB.out)⟩
  · replace c3 := Bool.eq_false_iff.mpr c3
    subst c3
    have H1 : (some (([] : List (S39)), 2)) = some (r1, r2) := by rw [if_neg (show ¬ (false = true) by decide)] at H; exact H
    clear H
    have H := H1
    clear H1
    simp only [Option.some.injEq, Prod.mk.injEq] at H
    obtain ⟨rfl, rfl⟩ := H
    go_enter Try.func5, Try.ntmps5
    go_wp2_with (first | ((with_reducible refine gate_callee (f := 25) rfl ?_); refine goesL_ (some 7) rfl rfl Try.func25 (by kernel_rfl) rfl #[.int .i64 a0] rfl (by (try simp only [List.map_toArray, List.map_cons, List.map_nil]); first | done | rfl | (simp only [List.length_drop, List.length_take]; rfl)) ?_; (with_reducible refine (spec_l05Wanted.calls a0 false _ A2.out).mono ?_); rintro e w' ⟨rfl, ⟨nd, rfl⟩⟩; refine ⟨_, rfl, ?_⟩))
    go_ret2
    exact ⟨_, by first | rfl | (simp [errW_none, errW_some] <;> rfl) | (simp [*, errW_none, errW_some] <;> rfl), by first | exact Kd.R_nil _ _ _ _ _ | exact Kd.N_nil _ _ _ _ _ | exact Kd.V_nil _ _ _ _ _ | exact Kd.Q_nil _ _ _ _ _ | exact Kd.S_nil _ _ _ _ _, by repeat (first | (with_reducible first | exact HB.out | apply below_alloc | apply pw_below_drewN | apply below_drew1) | exact HB.out)⟩

end Go.Proofs.Ytcjandlemjfojaa.HFew
