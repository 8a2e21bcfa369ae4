-- Written by a program for this claim (the functions that the statement reaches, and that the program's code comes to them).
import Derived.Test.YtcjandlemjfojaaHFewx0
import Derived.Test.YtcjandlemjfojaaHFewx2
import Derived.Test.YtcjandlemjfojaaHFewx3
namespace Go.Proofs.Ytcjandlemjfojaa.HFew
open Go.RowKit Go.Proofs.YtcjandlemjfojaaW.PrintWords Go.Proofs.YtcjandlemjfojaaW.PrintLast Go.Proofs.YtcjandlemjfojaaW.PrintMore
attribute [local go_sem] max2_int min2_int max_two min_two max_three min_three max_four min_four   -- for this text's walks alone
set_option linter.unusedVariables false
set_option linter.unusedSimpArgs false

/-! ### spec_l05All: function 32 (by hand) -/
/-- Outside the blocks S nothing that stood has turned. -/
structure Touch (S : Nat → Prop) (W w' : World) : Prop where
  os : w'.os = W.os
  tape : w'.tape = W.tape
  output : w'.output = W.output
  size : W.heap.size ≤ w'.heap.size
  block : ∀ k, k < W.heap.size → ¬ S k → w'.heap[k]? = W.heap[k]?
namespace Touch
section
variable {S S' : Nat → Prop} {a b c : World}
protected theorem refl (S : Nat → Prop) (a : World) : Touch S a a := ⟨rfl, rfl, rfl, Nat.le_refl _, fun _ _ _ => rfl⟩
protected theorem mono (h : Touch S a b) (hs : ∀ k, S k → S' k) : Touch S' a b := ⟨h.os, h.tape, h.output, h.size, fun k hk hn => h.block k hk (fun z => hn (hs k z))⟩
protected theorem trans (h : Touch S a b) (k : Touch S' b c) (hs : ∀ k, k < a.heap.size → S' k → S k) : Touch S a c :=
  ⟨k.os.trans h.os, k.tape.trans h.tape, k.output.trans h.output, Nat.le_trans h.size k.size, fun i hi hn => (k.block i (Nat.lt_of_lt_of_le hi h.size) (fun z => hn (hs i hi z))).trans (h.block i hi hn)⟩
protected theorem step (h : Touch S a b) (k : Touch S b c) : Touch S a c := h.trans k (fun _ _ z => z)
protected theorem of_below (h : Below a.heap.size a b) : Touch S a b := ⟨h.os, h.tape, h.output, h.size, fun k hk _ => h.block k hk⟩
protected theorem later (h : Touch S a b) (k : Below b.heap.size b c) : Touch S a c := h.step (Touch.of_below k)
protected theorem set (h : Touch S a b) {p : Addr} (hp : p.block < a.heap.size → S p.block) (u : Value) : Touch S a (b.setCell p u) :=
  ⟨h.os, h.tape, h.output, by simpa [World.setCell] using h.size, fun k hk hn => (Below.heap_setCell b p u k (fun e => hn (by rw [e]; exact hp (e ▸ hk)))).trans (h.block k hk hn)⟩
protected theorem alloc (h : Touch S a b) (o : Obj) : Touch S a (b.alloc o) := h.later (below_alloc (Below.refl _ _) o)
protected theorem drewN (h : Touch S a b) (n : Nat) : Touch S a (b.drewN n) := h.later (pw_below_drewN (Below.refl _ _) n)
protected theorem drew (h : Touch S a b) : Touch S a b.drew := h.later (below_drew (Below.refl _ _))
protected theorem grown (h : Touch S a b) {row : Option Nat} (hg : b.grownBy c row) (hr : ∀ k, row = some k → k < a.heap.size → S k) : Touch S a c :=
  ⟨hg.os.trans h.os, hg.tape.trans h.tape, hg.output.trans h.output, Nat.le_trans h.size hg.size, fun k hk hn => (hg.block k (Nat.lt_of_lt_of_le hk h.size) (fun e => hn (hr k e.symm hk))).trans (h.block k hk hn)⟩
protected theorem below {B : Nat} (h : Touch S a b) (hB : B ≤ a.heap.size) (hS : ∀ k, S k → B ≤ k) : Below B a b :=
  ⟨h.os, h.tape, h.output, h.size, fun k hk => h.block k (Nat.lt_of_lt_of_le hk hB) (fun z => by have := hS k z; omega)⟩
protected theorem blk (h : Touch S a b) {g : Nat} {o : Obj} (hb : a.heap[g]? = some o) (hg : ¬ S g) : b.heap[g]? = some o := (h.block g (blk_lt hb) hg).trans hb
protected theorem R {α : Type} {d : Kd α} {e base : Nat} {ok : Nat → Prop} {v : Value} {xs : List α} (h : Touch S a b) (hr : d.R e a base ok v xs) (hok : ∀ k, ok k → ¬ S k) : d.R e b base ok v xs := Kd.R_step hr (fun k ho hk => h.block k hk (hok k ho))
/-- A row of whole numbers that is read, in a block that isn't turned. -/
protected theorem C {i : IntKind} {A : Option Addr} {n : Nat} {xs : List Int} (h : Touch S a b) (hc : (Kd.int i).C a A n xs) (hA : ∀ ad, A = some ad → ¬ S ad.block) : (Kd.int i).C b A n xs := by
  refine ⟨hc.1, hc.2.1, fun hn => ?_⟩
  obtain ⟨ad, he, hcs⟩ := hc.2.2 hn
  refine ⟨ad, he, fun j p hj => ?_⟩
  obtain ⟨cs, h1, h2, h3⟩ := hcs j p hj
  refine ⟨cs, h1, h2, fun m u hu => ?_⟩
  have h4 := h3 m u hu
  have hlt := World.block_lt_of_cell? a _ h4
  rw [World.cell?_of_block (w := a) (h.block _ hlt (by rw [add_block]; exact hA ad he))]
  exact h4
end
end Touch
/-- Where a row of the call's own lies. -/
theorem row_at {α : Type} {d : Kd α} {e base : Nat} {ok : Nat → Prop} {W : World} {A : Option Addr} {n c : Nat} {xs : List α} (h : d.R e W base ok (.slice A n c) xs) : (A = none ∧ n = 0 ∧ c = 0) ∨ ∃ g, A = some ⟨g, 0, none⟩ ∧ ok g ∧ base ≤ g := by
  obtain ⟨inner, ho⟩ := Kd.R_own h
  rcases ho.2 with ⟨he, _⟩ | ⟨g, cap, cur, he, hb, _⟩
  · injection he with h1 h2 h3; exact .inl ⟨h1, h2, h3⟩
  · injection he with h1 h2 h3; subst h1; exact .inr ⟨g, rfl, h.1 g rfl, hb⟩
/-- What a function that is handed in keeps in memory: in the blocks ok alone. -/
structure Cb (σ : Type) where
  Q : World → (Nat → Prop) → σ → Prop
  mono : ∀ {W ok ok' s}, Q W ok s → (∀ k, ok k → ok' k) → Q W ok' s
  bound : ∀ {W ok s}, Q W ok s → Q W (fun k => ok k ∧ k < W.heap.size) s
  move : ∀ {W W' ok s}, Q W ok s → (∀ k, ok k → W'.heap[k]? = W.heap[k]?) → Q W' ok s
theorem Cb.stay {σ : Type} (cb : Cb σ) {W W' : World} {ok : Nat → Prop} {s : σ} (h : cb.Q W ok s) (hm : ∀ k, ok k → k < W.heap.size → W'.heap[k]? = W.heap[k]?) : cb.Q W' ok s :=
  cb.mono (cb.move (cb.bound h) (fun k hk => hm k hk.1 hk.2)) (fun _ hk => hk.1)
theorem size_alloc (W : World) (o : Obj) : (W.alloc o).heap.size = W.heap.size + 1 := by show (W.heap.push o).size = _; rw [Array.size_push]
theorem alloc_at (W : World) (o : Obj) : (W.alloc o).heap[W.heap.size]? = some o := by show (W.heap.push o)[W.heap.size]? = _; rw [Array.getElem?_push, if_pos rfl]
theorem alloc_old {W : World} {g : Nat} {o : Obj} (h : W.heap[g]? = some o) (o' : Obj) : (W.alloc o').heap[g]? = some o := (Below.heap_alloc W o' g (blk_lt h)).trans h
/-- A literal's row, in whatever kind whose elements lead to nothing. -/
theorem lit_R {α : Type} (d : Kd α) (W : World) (e base : Nat) {xs : List α} {inner : List Value} (hrep : ∀ w b ok, Reps (d.M w b ok) d.sz xs inner) (hb : base ≤ W.heap.size) (hm : xs.length ≤ 1000000) : d.R e (W.alloc (.cells inner.toArray e)) base (fun _ => True) (.slice (some ⟨W.heap.size, 0, none⟩) xs.length xs.length) xs := by
  have hl : inner.length = xs.length * d.sz := (hrep W base (fun _ => True)).1
  refine ⟨fun _ _ => trivial, inner, ⟨hl, .inr ⟨W.heap.size, xs.length, inner.toArray, rfl, hb, alloc_at _ _, Nat.le_refl _, by unfold maxLen; omega, by simpa using hl, List.take_of_length_le (by simp [hl])⟩⟩, hrep _ _ _⟩
theorem wrap_id (a : Int) (h0 : -4000000000000 ≤ a) (h1 : a ≤ 4000000000000) : wrap64 a = a := by unfold wrap64; omega
theorem infoPu : (Try.prog.info? 39).map (fun i => (i.zero, i.size, i.bytes)) = some (some (.agg #[.int .i64 0, .int .i64 0, .bool false]), 3, 24) := by kernel_rfl
/-- One purchase's turn. -/
def oneP (k : Nat) (bl adv : Int) (p : S39) (out : List S39) : Option (List S39) :=
  (spec_l05One_at.f k p.f0 p.f1 p.f2).bind fun o => if o = true then (spec_l05Count_at.f p.f0 p.f1 p.f2).bind fun c => if c = bl then (spec_l05Parts_at.f p.f0 p.f1 p.f2).bind fun q => if q = adv then (if out.length < 1000 then some (out ++ [p]) else none) else some out else some out else some out
def pA (sh : Int) : S39 := ⟨wrap64 (Int.tdiv (wrap64 (sh + 1)) 2), wrap64 (Int.tdiv sh 2), false⟩
def pB (sh : Int) : S39 := ⟨wrap64 (Int.tdiv sh 2), wrap64 (Int.tdiv (wrap64 (sh + 1)) 2), true⟩
def shR (k : Nat) (adv bl : Int) : Nat → Int → List S39 → Option (List S39)
  | 0, _, out => some out
  | m + 1, sh, out => (oneP k bl adv (pA sh) out).bind fun o1 => (oneP k bl adv (pB sh) o1).bind fun o2 => shR k adv bl m (sh + 1) o2
def blR (k : Nat) (adv : Int) : Nat → Int → List S39 → Option (List S39)
  | 0, _, out => some out
  | m + 1, bl, out => (shR k adv bl 8 1 out).bind fun o => blR k adv m (bl + 1) o
def spec_l05All.f (k : Nat) (a0 : Int) : Option (List S39) := blR k a0 2 1 []
theorem oneP_mono (bl adv : Int) (p : S39) (out : List S39) (k : Nat) : LeO (oneP k bl adv p out) (oneP (k + 1) bl adv p out) := LeO.bind (spec_l05One_at.mono _ _ _ k) (fun _ => LeO.refl _)
theorem shR_mono (adv bl : Int) (k : Nat) : ∀ m sh out, LeO (shR k adv bl m sh out) (shR (k + 1) adv bl m sh out)
  | 0, _, _ => LeO.refl _
  | m + 1, sh, out => LeO.bind (oneP_mono _ _ _ _ k) (fun _ => LeO.bind (oneP_mono _ _ _ _ k) (fun _ => shR_mono adv bl k m _ _))
theorem blR_mono (adv : Int) (k : Nat) : ∀ m bl out, LeO (blR k adv m bl out) (blR (k + 1) adv m bl out)
  | 0, _, _ => LeO.refl _
  | m + 1, bl, out => LeO.bind (shR_mono adv bl k 8 1 out) (fun _ => blR_mono adv k m _ _)
theorem spec_l05All.mono : ∀ a0 k, LeO (spec_l05All.f k a0) (spec_l05All.f (k + 1) a0) := fun a0 k => blR_mono a0 k 2 1 []
/-- What one purchase's turn may be. -/
theorem oneP_ways {k : Nat} {bl adv : Int} {p : S39} {out o : List S39} (h : oneP k bl adv p out = some o) :
    (spec_l05One_at.f k p.f0 p.f1 p.f2 = some false ∧ o = out) ∨
    (spec_l05One_at.f k p.f0 p.f1 p.f2 = some true ∧ ∃ c, spec_l05Count_at.f p.f0 p.f1 p.f2 = some c ∧ (c == bl) = false ∧ o = out) ∨
    (spec_l05One_at.f k p.f0 p.f1 p.f2 = some true ∧ ∃ c, spec_l05Count_at.f p.f0 p.f1 p.f2 = some c ∧ (c == bl) = true ∧ ∃ q, spec_l05Parts_at.f p.f0 p.f1 p.f2 = some q ∧ (q == adv) = false ∧ o = out) ∨
    (spec_l05One_at.f k p.f0 p.f1 p.f2 = some true ∧ ∃ c, spec_l05Count_at.f p.f0 p.f1 p.f2 = some c ∧ (c == bl) = true ∧ ∃ q, spec_l05Parts_at.f p.f0 p.f1 p.f2 = some q ∧ (q == adv) = true ∧ out.length < 1000 ∧ o = out ++ [p]) := by
  obtain ⟨b, hb, h⟩ := Option.bind_eq_some_iff.mp h
  cases b with
  | false => exact .inl ⟨hb, (Option.some.inj (by rw [if_neg (by simp)] at h; exact h)).symm⟩
  | true =>
    rw [if_pos rfl] at h
    obtain ⟨c, hc, h⟩ := Option.bind_eq_some_iff.mp h
    by_cases e : c = bl
    · rw [if_pos e] at h
      obtain ⟨q, hq, h⟩ := Option.bind_eq_some_iff.mp h
      by_cases e2 : q = adv
      · rw [if_pos e2] at h
        by_cases e3 : out.length < 1000
        · rw [if_pos e3] at h
          exact .inr (.inr (.inr ⟨hb, c, hc, by simp [e], q, hq, by simp [e2], e3, (Option.some.inj h).symm⟩))
        · rw [if_neg e3] at h; cases h
      · rw [if_neg e2] at h
        exact .inr (.inr (.inl ⟨hb, c, hc, by simp [e], q, hq, by simp [e2], (Option.some.inj h).symm⟩))
    · rw [if_neg e] at h
      exact .inr (.inl ⟨hb, c, hc, by simp [e], (Option.some.inj h).symm⟩)
theorem at_box {w W : World} {p : S39} {g : Nat} (hg : g = w.heap.size) (hb : Below (w.alloc (.cells #[.int .i64 p.f0, .int .i64 p.f1, .bool p.f2] 39)).heap.size (w.alloc (.cells #[.int .i64 p.f0, .int .i64 p.f1, .bool p.f2] 39)) W) : AtS39 W W ⟨g, 0, none⟩ p.f0 p.f1 p.f2 := by
  subst hg
  have t := alloc_at w (.cells #[.int .i64 p.f0, .int .i64 p.f1, .bool p.f2] 39)
  have t := (hb.block _ (blk_lt t)).trans t
  have h0 := blk_cell t 0
  have h1 := blk_cell t 1
  have h2 := blk_cell t 2
  simp only [List.getElem?_toArray, List.getElem?_cons_zero, List.getElem?_cons_succ] at h0 h1 h2
  exact ⟨h0, h1, h2⟩
set_option maxHeartbeats 16000000 in
set_option maxRecDepth 100000 in
theorem spec_l05All.calls (k : Nat) (a0 : Int) (r : List S39) (w : World) (h : spec_l05All.f k a0 = some r) :
    Calls Try.prog 32 #[.int .i64 a0] w fun e w' => ∃ v0_ : Value, e = .returned (v0_) ∧ Kd.R k39 39 w' w.heap.size (fun _ => True) v0_ r ∧ Below w.heap.size w w' := by
  have H0 := Aside0.mk h
  clear h
  go_enter Try.func32, Try.ntmps32
  go_wp2_with ((with_reducible refine gate_dst (N := 8) rfl ?_); refine Kd.R_lit k39 (w0 := w) w.heap.size 39 ?hg (N := 8) ?hd (xs := ([] : List S39)) (inner := []) (ok := fun _ => True) (okp := fun _ => True) ?hr ?hp (fun _ hk => hk) trivial (Below.refl _ _) (Nat.le_refl _) (by simp) ?_; (case hd => rfl); (case hg => rfl); (case hr => first | (go_simp; done) | (go_simp; rfl)); (case hp => exact (Reps.none _ _)); intro v8 w1 ho hb hg_ hnew_; have HV := Aside0.mk (And.intro ho hb); clear hg_ hnew_ ho hb)
  go_loopg [3, 4] 3 (fun kq v3 v4 w' => ∃ (bl : Int) (out : List S39), v4 = .int .i64 bl ∧ Aside0 (1 ≤ bl ∧ bl + kq = 4 ∧ 1 ≤ kq) ∧ Aside0 (Kd.R k39 39 w' w.heap.size (fun _ => True) v3 out ∧ Below w.heap.size w w') ∧ Aside0 (blR k a0 (kq - 1) bl out = some r))
  case atStart => exact ⟨1, [], rfl, ⟨by omega, by omega, by omega⟩, HV, H0⟩
  case round =>
    obtain ⟨bl, out, rfl, HA, HO, HF⟩ := hrel
    obtain ⟨k0, kk, k1⟩ := HA.out
    obtain ⟨gq, rfl⟩ : ∃ m, gk = m + 1 := ⟨gk - 1, by omega⟩
    have HK := Aside0.mk (And.intro k0 kk)
    clear HA k0 kk k1
    by_cases c2 : bl ≤ 2
    · have c2b := decide_eq_true c2
      have C2 := Aside0.mk c2
      clear c2
      obtain ⟨gr, rfl⟩ : ∃ m, gq = m + 1 := ⟨gq - 1, by have := C2.out; have := HK.out; omega⟩
      obtain ⟨o, ho, hf⟩ := Option.bind_eq_some_iff.mp (show (shR k a0 bl 8 1 out).bind (fun o => blR k a0 gr (bl + 1) o) = some r from HF.out)
      have HSH := Aside0.mk (And.intro ho hf)
      clear ho hf
      go_wp2
      go_loopg [3, 5] 9 (fun kq v3 v5 w' => ∃ (sh : Int) (out : List S39), v5 = .int .i64 sh ∧ Aside0 (1 ≤ sh ∧ sh + kq = 10 ∧ 1 ≤ kq) ∧ Aside0 (Kd.R k39 39 w' w.heap.size (fun _ => True) v3 out ∧ Below w.heap.size w w') ∧ Aside0 (shR k a0 bl (kq - 1) sh out = some o))
      case atStart => exact ⟨1, out, rfl, ⟨by omega, by omega, by omega⟩, HO, ⟨HSH.out.1⟩⟩
      case round =>
        clear HO HF
        obtain ⟨sh, out, rfl, HA, HO, HF⟩ := hrel
        obtain ⟨k0, kk, k1⟩ := HA.out
        obtain ⟨gq2, rfl⟩ : ∃ m, gk = m + 1 := ⟨gk - 1, by omega⟩
        have HK2 := Aside0.mk (And.intro k0 kk)
        clear HA k0 kk k1
        by_cases c3 : sh ≤ 8
        · have c3b := decide_eq_true c3
          have C3 := Aside0.mk c3
          clear c3
          obtain ⟨gr2, rfl⟩ : ∃ m, gq2 = m + 1 := ⟨gq2 - 1, by have := C3.out; have := HK2.out; omega⟩
          obtain ⟨o1, ho1, hf⟩ := Option.bind_eq_some_iff.mp (show (oneP k bl a0 (pA sh) out).bind (fun o1 => (oneP k bl a0 (pB sh) o1).bind fun o2 => shR k a0 bl gr2 (sh + 1) o2) = some o from HF.out)
          obtain ⟨o2, ho2, hf⟩ := Option.bind_eq_some_iff.mp hf
          have HO1h := Aside0.mk ho1
          have HO2h := Aside0.mk ho2
          have HF3 := Aside0.mk hf
          clear ho1 ho2 hf
          go_upto_region 9 with (fail)
          obtain ⟨p1, HP1⟩ : ∃ p, Aside0 (p = pA sh) := ⟨_, ⟨rfl⟩⟩
          have y0 : wrap64 (Int.tdiv (wrap64 (sh + 1)) 2) = p1.f0 := by rw [HP1.out]; rfl
          have y1 : wrap64 (Int.tdiv sh 2) = p1.f1 := by rw [HP1.out]; rfl
          have y2 : false = p1.f2 := by rw [HP1.out]; rfl
          rw [y0, y1]
          clear y0 y1
          rw [← HP1.out] at HO1h
          obtain ⟨gt1, HGT1⟩ : ∃ g, Aside0 (g = wr.heap.size) := ⟨_, ⟨rfl⟩⟩
          rw [← HGT1.out]
          obtain ⟨w21, HW1⟩ : ∃ w2, Aside0 (w2 = wr.alloc (.cells #[.int .i64 p1.f0, .int .i64 p1.f1, .bool false] 39)) := ⟨_, ⟨rfl⟩⟩
          rw [← HW1.out]
          have HAT1 := Aside0.mk (show ∀ W, Below w21.heap.size w21 W → AtS39 W W ⟨gt1, 0, none⟩ p1.f0 p1.f1 p1.f2 from by rw [HW1.out, y2]; intro W hb; exact at_box HGT1.out hb)
          clear y2
          have HO1x := Aside0.mk (show Kd.R k39 39 w21 w.heap.size (fun _ => True) _ out ∧ Below w.heap.size w w21 from by rw [HW1.out]; exact ⟨Kd.R_alloc HO.out.1 _, below_alloc HO.out.2 _⟩)
          clear HW1 HGT1
          rcases oneP_ways HO1h.out with ⟨h1, h2⟩ | ⟨h1, c1, h2, h3, h4⟩ | ⟨h1, c1, h2, h3, q1, h4, h5, h6⟩ | ⟨h1, c1, h2, h3, q1, h4, h5, h6, h7⟩
          · have HH1 := Aside0.mk (And.intro h1 h2)
            clear h1 h2
            go_upto_region 11 with (((with_reducible refine gate_callee (f := 49) rfl ?_); refine goesL_ (some 23) rfl rfl Try.func49 (by kernel_rfl) rfl #[.pointer (some ⟨gt1, 0, none⟩)] rfl (by (try simp only [List.map_toArray, List.map_cons, List.map_nil]); first | done | rfl) ?_; refine (spec_l05One_at.calls k ⟨gt1, 0, none⟩ p1.f0 p1.f1 p1.f2 false _ (HAT1.out _ (Below.refl _ _)) HH1.out.1).mono ?_; rintro e w31 ⟨rfl, hb⟩; refine ⟨_, rfl, ?_⟩; have HBa1 := Aside0.mk hb; clear hb))
            have HY1 := Aside0.mk (show Kd.R k39 39 w31 w.heap.size (fun _ => True) _ o1 ∧ Below w.heap.size w w31 from by rw [HH1.out.2]; exact ⟨Kd.R_below HO1x.out.1 HBa1.out, below_step HO1x.out.2 HBa1.out⟩)
            go_upto_region 12 with (fail)
            obtain ⟨p2, HP2⟩ : ∃ p, Aside0 (p = pB sh) := ⟨_, ⟨rfl⟩⟩
            have y0 : wrap64 (Int.tdiv sh 2) = p2.f0 := by rw [HP2.out]; rfl
            have y1 : wrap64 (Int.tdiv (wrap64 (sh + 1)) 2) = p2.f1 := by rw [HP2.out]; rfl
            have y2 : true = p2.f2 := by rw [HP2.out]; rfl
            rw [y0, y1]
            clear y0 y1
            rw [← HP2.out] at HO2h
            obtain ⟨gt2, HGT2⟩ : ∃ g, Aside0 (g = w31.heap.size) := ⟨_, ⟨rfl⟩⟩
            rw [← HGT2.out]
            obtain ⟨w22, HW2⟩ : ∃ w2, Aside0 (w2 = w31.alloc (.cells #[.int .i64 p2.f0, .int .i64 p2.f1, .bool true] 39)) := ⟨_, ⟨rfl⟩⟩
            rw [← HW2.out]
            have HAT2 := Aside0.mk (show ∀ W, Below w22.heap.size w22 W → AtS39 W W ⟨gt2, 0, none⟩ p2.f0 p2.f1 p2.f2 from by rw [HW2.out, y2]; intro W hb; exact at_box HGT2.out hb)
            clear y2
            have HO2x := Aside0.mk (show Kd.R k39 39 w22 w.heap.size (fun _ => True) _ o1 ∧ Below w.heap.size w w22 from by rw [HW2.out]; exact ⟨Kd.R_alloc HY1.out.1 _, below_alloc HY1.out.2 _⟩)
            clear HW2 HGT2
            rcases oneP_ways HO2h.out with ⟨h1, h2⟩ | ⟨h1, c2, h2, h3, h4⟩ | ⟨h1, c2, h2, h3, q2, h4, h5, h6⟩ | ⟨h1, c2, h2, h3, q2, h4, h5, h6, h7⟩
            · have HH2 := Aside0.mk (And.intro h1 h2)
              clear h1 h2
              go_wp2_with (((with_reducible refine gate_callee (f := 49) rfl ?_); refine goesL_ (some 44) rfl rfl Try.func49 (by kernel_rfl) rfl #[.pointer (some ⟨gt2, 0, none⟩)] rfl (by (try simp only [List.map_toArray, List.map_cons, List.map_nil]); first | done | rfl) ?_; refine (spec_l05One_at.calls k ⟨gt2, 0, none⟩ p2.f0 p2.f1 p2.f2 false _ (HAT2.out _ (Below.refl _ _)) HH2.out.1).mono ?_; rintro e w32 ⟨rfl, hb⟩; refine ⟨_, rfl, ?_⟩; have HBa2 := Aside0.mk hb; clear hb))
              have HY2 := Aside0.mk (show Kd.R k39 39 w32 w.heap.size (fun _ => True) _ o2 ∧ Below w.heap.size w w32 from by rw [HH2.out.2]; exact ⟨Kd.R_below HO2x.out.1 HBa2.out, below_step HO2x.out.2 HBa2.out⟩)
              go_roundg (gr2 + 1)
              case measure => omega
              case rel =>
                have hw := wrap_id (sh + 1) (by have := HK2.out; omega) (by have := HK2.out; omega)
                exact ⟨sh + 1, o2, by rw [hw], ⟨by have := HK2.out; omega, by have := HK2.out; omega, by have := C3.out; have := HK2.out; omega⟩, HY2, ⟨HF3.out⟩⟩
            · have HH2 := Aside0.mk (And.intro h1 (And.intro h2 h4))
              clear h1 h2 h4
              go_wp2_with (first | ((with_reducible refine gate_callee (f := 49) rfl ?_); refine goesL_ (some 44) rfl rfl Try.func49 (by kernel_rfl) rfl #[.pointer (some ⟨gt2, 0, none⟩)] rfl (by (try simp only [List.map_toArray, List.map_cons, List.map_nil]); first | done | rfl) ?_; refine (spec_l05One_at.calls k ⟨gt2, 0, none⟩ p2.f0 p2.f1 p2.f2 true _ (HAT2.out _ (Below.refl _ _)) HH2.out.1).mono ?_; rintro e wa2 ⟨rfl, hb⟩; refine ⟨_, rfl, ?_⟩; have HBa2 := Aside0.mk hb; clear hb) | (go_at_call 50; refine (spec_l05Count_at.calls ⟨gt2, 0, none⟩ p2.f0 p2.f1 p2.f2 c2 _ (HAT2.out _ HBa2.out) HH2.out.2.1).mono ?_; rintro e w32 ⟨rfl, hb⟩; have HBb2 := Aside0.mk (below_step HBa2.out hb); clear hb))
              have HY2 := Aside0.mk (show Kd.R k39 39 w32 w.heap.size (fun _ => True) _ o2 ∧ Below w.heap.size w w32 from by rw [HH2.out.2.2]; exact ⟨Kd.R_below HO2x.out.1 HBb2.out, below_step HO2x.out.2 HBb2.out⟩)
              go_roundg (gr2 + 1)
              case measure => omega
              case rel =>
                have hw := wrap_id (sh + 1) (by have := HK2.out; omega) (by have := HK2.out; omega)
                exact ⟨sh + 1, o2, by rw [hw], ⟨by have := HK2.out; omega, by have := HK2.out; omega, by have := C3.out; have := HK2.out; omega⟩, HY2, ⟨HF3.out⟩⟩
            · have HH2 := Aside0.mk (And.intro h1 (And.intro h2 (And.intro h4 h6)))
              clear h1 h2 h4 h6
              go_wp2_with (first | ((with_reducible refine gate_callee (f := 49) rfl ?_); refine goesL_ (some 44) rfl rfl Try.func49 (by kernel_rfl) rfl #[.pointer (some ⟨gt2, 0, none⟩)] rfl (by (try simp only [List.map_toArray, List.map_cons, List.map_nil]); first | done | rfl) ?_; refine (spec_l05One_at.calls k ⟨gt2, 0, none⟩ p2.f0 p2.f1 p2.f2 true _ (HAT2.out _ (Below.refl _ _)) HH2.out.1).mono ?_; rintro e wa2 ⟨rfl, hb⟩; refine ⟨_, rfl, ?_⟩; have HBa2 := Aside0.mk hb; clear hb) | (go_at_call 50; refine (spec_l05Count_at.calls ⟨gt2, 0, none⟩ p2.f0 p2.f1 p2.f2 c2 _ (HAT2.out _ HBa2.out) HH2.out.2.1).mono ?_; rintro e wb2 ⟨rfl, hb⟩; have HBb2 := Aside0.mk (below_step HBa2.out hb); clear hb) | (go_at_call 51; refine (spec_l05Parts_at.calls ⟨gt2, 0, none⟩ p2.f0 p2.f1 p2.f2 q2 _ (HAT2.out _ HBb2.out) HH2.out.2.2.1).mono ?_; rintro e w32 ⟨rfl, hb⟩; have HBc2 := Aside0.mk (below_step HBb2.out hb); clear hb))
              have HY2 := Aside0.mk (show Kd.R k39 39 w32 w.heap.size (fun _ => True) _ o2 ∧ Below w.heap.size w w32 from by rw [HH2.out.2.2.2]; exact ⟨Kd.R_below HO2x.out.1 HBc2.out, below_step HO2x.out.2 HBc2.out⟩)
              go_roundg (gr2 + 1)
              case measure => omega
              case rel =>
                have hw := wrap_id (sh + 1) (by have := HK2.out; omega) (by have := HK2.out; omega)
                exact ⟨sh + 1, o2, by rw [hw], ⟨by have := HK2.out; omega, by have := HK2.out; omega, by have := C3.out; have := HK2.out; omega⟩, HY2, ⟨HF3.out⟩⟩
            · have HH2 := Aside0.mk (And.intro h1 (And.intro h2 (And.intro h4 h6)))
              have HE2 := Aside0.mk h7
              clear h1 h2 h4 h6 h7
              go_wp2_with (first | ((with_reducible refine gate_callee (f := 49) rfl ?_); refine goesL_ (some 44) rfl rfl Try.func49 (by kernel_rfl) rfl #[.pointer (some ⟨gt2, 0, none⟩)] rfl (by (try simp only [List.map_toArray, List.map_cons, List.map_nil]); first | done | rfl) ?_; refine (spec_l05One_at.calls k ⟨gt2, 0, none⟩ p2.f0 p2.f1 p2.f2 true _ (HAT2.out _ (Below.refl _ _)) HH2.out.1).mono ?_; rintro e wa2 ⟨rfl, hb⟩; refine ⟨_, rfl, ?_⟩; have HBa2 := Aside0.mk hb; clear hb) | (go_at_call 50; refine (spec_l05Count_at.calls ⟨gt2, 0, none⟩ p2.f0 p2.f1 p2.f2 c2 _ (HAT2.out _ HBa2.out) HH2.out.2.1).mono ?_; rintro e wb2 ⟨rfl, hb⟩; have HBb2 := Aside0.mk (below_step HBa2.out hb); clear hb) | (go_at_call 51; refine (spec_l05Parts_at.calls ⟨gt2, 0, none⟩ p2.f0 p2.f1 p2.f2 q2 _ (HAT2.out _ HBb2.out) HH2.out.2.2.1).mono ?_; rintro e wc2 ⟨rfl, hb⟩; have HBc2 := Aside0.mk (below_step HBb2.out hb); clear hb; have t3 := HAT2.out _ HBc2.out; have t0 := t3.1; have t1 := t3.2.1; have t2 := t3.2.2; clear t3) | (at_builtin; refine Kd.R_append k39 (w0 := w) w.heap.size rfl (.tmp 55) (.tmp 57) 22 39 (.agg #[(.int .i64 0), (.int .i64 0), (.bool false)]) 24 rfl Try.underlying22 infoPu rfl (by decide) (by omega) _ o1 p2 [.int .i64 p2.f0, .int .i64 p2.f1, .bool p2.f2] (fun _ => True) (fun _ => False) rfl (by first | (go_simp; done) | (go_simp; rfl)) ?aP (fun _ hk => hk.elim) (fun _ _ => trivial) ?aO ?aB ?aS ?aL ?_; (case aP => exact k39_mkM _ _ _ p2); (case aO => exact Kd.R_below HO2x.out.1 HBc2.out); (case aB => exact below_step HO2x.out.2 HBc2.out); (case aS => exact (below_step HO2x.out.2 HBc2.out).size); (case aL => have := HH2.out.2.2.2; omega); intro va w32 ho hb hg hat; have HZ2 := Aside0.mk (And.intro ho hb); clear ho hb hg hat))
              have HY2 := Aside0.mk (show Kd.R k39 39 w32 w.heap.size (fun _ => True) _ o2 ∧ Below w.heap.size w w32 from by rw [HE2.out]; exact HZ2.out)
              try clear t0 t1 t2
              go_roundg (gr2 + 1)
              case measure => omega
              case rel =>
                have hw := wrap_id (sh + 1) (by have := HK2.out; omega) (by have := HK2.out; omega)
                exact ⟨sh + 1, o2, by rw [hw], ⟨by have := HK2.out; omega, by have := HK2.out; omega, by have := C3.out; have := HK2.out; omega⟩, HY2, ⟨HF3.out⟩⟩
          · have HH1 := Aside0.mk (And.intro h1 (And.intro h2 h4))
            clear h1 h2 h4
            go_upto_region 11 with (first | ((with_reducible refine gate_callee (f := 49) rfl ?_); refine goesL_ (some 23) rfl rfl Try.func49 (by kernel_rfl) rfl #[.pointer (some ⟨gt1, 0, none⟩)] rfl (by (try simp only [List.map_toArray, List.map_cons, List.map_nil]); first | done | rfl) ?_; refine (spec_l05One_at.calls k ⟨gt1, 0, none⟩ p1.f0 p1.f1 p1.f2 true _ (HAT1.out _ (Below.refl _ _)) HH1.out.1).mono ?_; rintro e wa1 ⟨rfl, hb⟩; refine ⟨_, rfl, ?_⟩; have HBa1 := Aside0.mk hb; clear hb) | (go_at_call 50; refine (spec_l05Count_at.calls ⟨gt1, 0, none⟩ p1.f0 p1.f1 p1.f2 c1 _ (HAT1.out _ HBa1.out) HH1.out.2.1).mono ?_; rintro e w31 ⟨rfl, hb⟩; have HBb1 := Aside0.mk (below_step HBa1.out hb); clear hb))
            have HY1 := Aside0.mk (show Kd.R k39 39 w31 w.heap.size (fun _ => True) _ o1 ∧ Below w.heap.size w w31 from by rw [HH1.out.2.2]; exact ⟨Kd.R_below HO1x.out.1 HBb1.out, below_step HO1x.out.2 HBb1.out⟩)
            go_upto_region 12 with (fail)
            obtain ⟨p2, HP2⟩ : ∃ p, Aside0 (p = pB sh) := ⟨_, ⟨rfl⟩⟩
            have y0 : wrap64 (Int.tdiv sh 2) = p2.f0 := by rw [HP2.out]; rfl
            have y1 : wrap64 (Int.tdiv (wrap64 (sh + 1)) 2) = p2.f1 := by rw [HP2.out]; rfl
            have y2 : true = p2.f2 := by rw [HP2.out]; rfl
            rw [y0, y1]
            clear y0 y1
            rw [← HP2.out] at HO2h
            obtain ⟨gt2, HGT2⟩ : ∃ g, Aside0 (g = w31.heap.size) := ⟨_, ⟨rfl⟩⟩
            rw [← HGT2.out]
            obtain ⟨w22, HW2⟩ : ∃ w2, Aside0 (w2 = w31.alloc (.cells #[.int .i64 p2.f0, .int .i64 p2.f1, .bool true] 39)) := ⟨_, ⟨rfl⟩⟩
            rw [← HW2.out]
            have HAT2 := Aside0.mk (show ∀ W, Below w22.heap.size w22 W → AtS39 W W ⟨gt2, 0, none⟩ p2.f0 p2.f1 p2.f2 from by rw [HW2.out, y2]; intro W hb; exact at_box HGT2.out hb)
            clear y2
            have HO2x := Aside0.mk (show Kd.R k39 39 w22 w.heap.size (fun _ => True) _ o1 ∧ Below w.heap.size w w22 from by rw [HW2.out]; exact ⟨Kd.R_alloc HY1.out.1 _, below_alloc HY1.out.2 _⟩)
            clear HW2 HGT2
            rcases oneP_ways HO2h.out with ⟨h1, h2⟩ | ⟨h1, c2, h2, h3, h4⟩ | ⟨h1, c2, h2, h3, q2, h4, h5, h6⟩ | ⟨h1, c2, h2, h3, q2, h4, h5, h6, h7⟩
            · have HH2 := Aside0.mk (And.intro h1 h2)
              clear h1 h2
              go_wp2_with (((with_reducible refine gate_callee (f := 49) rfl ?_); refine goesL_ (some 44) rfl rfl Try.func49 (by kernel_rfl) rfl #[.pointer (some ⟨gt2, 0, none⟩)] rfl (by (try simp only [List.map_toArray, List.map_cons, List.map_nil]); first | done | rfl) ?_; refine (spec_l05One_at.calls k ⟨gt2, 0, none⟩ p2.f0 p2.f1 p2.f2 false _ (HAT2.out _ (Below.refl _ _)) HH2.out.1).mono ?_; rintro e w32 ⟨rfl, hb⟩; refine ⟨_, rfl, ?_⟩; have HBa2 := Aside0.mk hb; clear hb))
              have HY2 := Aside0.mk (show Kd.R k39 39 w32 w.heap.size (fun _ => True) _ o2 ∧ Below w.heap.size w w32 from by rw [HH2.out.2]; exact ⟨Kd.R_below HO2x.out.1 HBa2.out, below_step HO2x.out.2 HBa2.out⟩)
              go_roundg (gr2 + 1)
              case measure => omega
              case rel =>
                have hw := wrap_id (sh + 1) (by have := HK2.out; omega) (by have := HK2.out; omega)
                exact ⟨sh + 1, o2, by rw [hw], ⟨by have := HK2.out; omega, by have := HK2.out; omega, by have := C3.out; have := HK2.out; omega⟩, HY2, ⟨HF3.out⟩⟩
            · have HH2 := Aside0.mk (And.intro h1 (And.intro h2 h4))
              clear h1 h2 h4
              go_wp2_with (first | ((with_reducible refine gate_callee (f := 49) rfl ?_); refine goesL_ (some 44) rfl rfl Try.func49 (by kernel_rfl) rfl #[.pointer (some ⟨gt2, 0, none⟩)] rfl (by (try simp only [List.map_toArray, List.map_cons, List.map_nil]); first | done | rfl) ?_; refine (spec_l05One_at.calls k ⟨gt2, 0, none⟩ p2.f0 p2.f1 p2.f2 true _ (HAT2.out _ (Below.refl _ _)) HH2.out.1).mono ?_; rintro e wa2 ⟨rfl, hb⟩; refine ⟨_, rfl, ?_⟩; have HBa2 := Aside0.mk hb; clear hb) | (go_at_call 50; refine (spec_l05Count_at.calls ⟨gt2, 0, none⟩ p2.f0 p2.f1 p2.f2 c2 _ (HAT2.out _ HBa2.out) HH2.out.2.1).mono ?_; rintro e w32 ⟨rfl, hb⟩; have HBb2 := Aside0.mk (below_step HBa2.out hb); clear hb))
              have HY2 := Aside0.mk (show Kd.R k39 39 w32 w.heap.size (fun _ => True) _ o2 ∧ Below w.heap.size w w32 from by rw [HH2.out.2.2]; exact ⟨Kd.R_below HO2x.out.1 HBb2.out, below_step HO2x.out.2 HBb2.out⟩)
              go_roundg (gr2 + 1)
              case measure => omega
              case rel =>
                have hw := wrap_id (sh + 1) (by have := HK2.out; omega) (by have := HK2.out; omega)
                exact ⟨sh + 1, o2, by rw [hw], ⟨by have := HK2.out; omega, by have := HK2.out; omega, by have := C3.out; have := HK2.out; omega⟩, HY2, ⟨HF3.out⟩⟩
            · have HH2 := Aside0.mk (And.intro h1 (And.intro h2 (And.intro h4 h6)))
              clear h1 h2 h4 h6
              go_wp2_with (first | ((with_reducible refine gate_callee (f := 49) rfl ?_); refine goesL_ (some 44) rfl rfl Try.func49 (by kernel_rfl) rfl #[.pointer (some ⟨gt2, 0, none⟩)] rfl (by (try simp only [List.map_toArray, List.map_cons, List.map_nil]); first | done | rfl) ?_; refine (spec_l05One_at.calls k ⟨gt2, 0, none⟩ p2.f0 p2.f1 p2.f2 true _ (HAT2.out _ (Below.refl _ _)) HH2.out.1).mono ?_; rintro e wa2 ⟨rfl, hb⟩; refine ⟨_, rfl, ?_⟩; have HBa2 := Aside0.mk hb; clear hb) | (go_at_call 50; refine (spec_l05Count_at.calls ⟨gt2, 0, none⟩ p2.f0 p2.f1 p2.f2 c2 _ (HAT2.out _ HBa2.out) HH2.out.2.1).mono ?_; rintro e wb2 ⟨rfl, hb⟩; have HBb2 := Aside0.mk (below_step HBa2.out hb); clear hb) | (go_at_call 51; refine (spec_l05Parts_at.calls ⟨gt2, 0, none⟩ p2.f0 p2.f1 p2.f2 q2 _ (HAT2.out _ HBb2.out) HH2.out.2.2.1).mono ?_; rintro e w32 ⟨rfl, hb⟩; have HBc2 := Aside0.mk (below_step HBb2.out hb); clear hb))
              have HY2 := Aside0.mk (show Kd.R k39 39 w32 w.heap.size (fun _ => True) _ o2 ∧ Below w.heap.size w w32 from by rw [HH2.out.2.2.2]; exact ⟨Kd.R_below HO2x.out.1 HBc2.out, below_step HO2x.out.2 HBc2.out⟩)
              go_roundg (gr2 + 1)
              case measure => omega
              case rel =>
                have hw := wrap_id (sh + 1) (by have := HK2.out; omega) (by have := HK2.out; omega)
                exact ⟨sh + 1, o2, by rw [hw], ⟨by have := HK2.out; omega, by have := HK2.out; omega, by have := C3.out; have := HK2.out; omega⟩, HY2, ⟨HF3.out⟩⟩
            · have HH2 := Aside0.mk (And.intro h1 (And.intro h2 (And.intro h4 h6)))
              have HE2 := Aside0.mk h7
              clear h1 h2 h4 h6 h7
              go_wp2_with (first | ((with_reducible refine gate_callee (f := 49) rfl ?_); refine goesL_ (some 44) rfl rfl Try.func49 (by kernel_rfl) rfl #[.pointer (some ⟨gt2, 0, none⟩)] rfl (by (try simp only [List.map_toArray, List.map_cons, List.map_nil]); first | done | rfl) ?_; refine (spec_l05One_at.calls k ⟨gt2, 0, none⟩ p2.f0 p2.f1 p2.f2 true _ (HAT2.out _ (Below.refl _ _)) HH2.out.1).mono ?_; rintro e wa2 ⟨rfl, hb⟩; refine ⟨_, rfl, ?_⟩; have HBa2 := Aside0.mk hb; clear hb) | (go_at_call 50; refine (spec_l05Count_at.calls ⟨gt2, 0, none⟩ p2.f0 p2.f1 p2.f2 c2 _ (HAT2.out _ HBa2.out) HH2.out.2.1).mono ?_; rintro e wb2 ⟨rfl, hb⟩; have HBb2 := Aside0.mk (below_step HBa2.out hb); clear hb) | (go_at_call 51; refine (spec_l05Parts_at.calls ⟨gt2, 0, none⟩ p2.f0 p2.f1 p2.f2 q2 _ (HAT2.out _ HBb2.out) HH2.out.2.2.1).mono ?_; rintro e wc2 ⟨rfl, hb⟩; have HBc2 := Aside0.mk (below_step HBb2.out hb); clear hb; have t3 := HAT2.out _ HBc2.out; have t0 := t3.1; have t1 := t3.2.1; have t2 := t3.2.2; clear t3) | (at_builtin; refine Kd.R_append k39 (w0 := w) w.heap.size rfl (.tmp 55) (.tmp 57) 22 39 (.agg #[(.int .i64 0), (.int .i64 0), (.bool false)]) 24 rfl Try.underlying22 infoPu rfl (by decide) (by omega) _ o1 p2 [.int .i64 p2.f0, .int .i64 p2.f1, .bool p2.f2] (fun _ => True) (fun _ => False) rfl (by first | (go_simp; done) | (go_simp; rfl)) ?aP (fun _ hk => hk.elim) (fun _ _ => trivial) ?aO ?aB ?aS ?aL ?_; (case aP => exact k39_mkM _ _ _ p2); (case aO => exact Kd.R_below HO2x.out.1 HBc2.out); (case aB => exact below_step HO2x.out.2 HBc2.out); (case aS => exact (below_step HO2x.out.2 HBc2.out).size); (case aL => have := HH2.out.2.2.2; omega); intro va w32 ho hb hg hat; have HZ2 := Aside0.mk (And.intro ho hb); clear ho hb hg hat))
              have HY2 := Aside0.mk (show Kd.R k39 39 w32 w.heap.size (fun _ => True) _ o2 ∧ Below w.heap.size w w32 from by rw [HE2.out]; exact HZ2.out)
              try clear t0 t1 t2
              go_roundg (gr2 + 1)
              case measure => omega
              case rel =>
                have hw := wrap_id (sh + 1) (by have := HK2.out; omega) (by have := HK2.out; omega)
                exact ⟨sh + 1, o2, by rw [hw], ⟨by have := HK2.out; omega, by have := HK2.out; omega, by have := C3.out; have := HK2.out; omega⟩, HY2, ⟨HF3.out⟩⟩
          · have HH1 := Aside0.mk (And.intro h1 (And.intro h2 (And.intro h4 h6)))
            clear h1 h2 h4 h6
            go_upto_region 11 with (first | ((with_reducible refine gate_callee (f := 49) rfl ?_); refine goesL_ (some 23) rfl rfl Try.func49 (by kernel_rfl) rfl #[.pointer (some ⟨gt1, 0, none⟩)] rfl (by (try simp only [List.map_toArray, List.map_cons, List.map_nil]); first | done | rfl) ?_; refine (spec_l05One_at.calls k ⟨gt1, 0, none⟩ p1.f0 p1.f1 p1.f2 true _ (HAT1.out _ (Below.refl _ _)) HH1.out.1).mono ?_; rintro e wa1 ⟨rfl, hb⟩; refine ⟨_, rfl, ?_⟩; have HBa1 := Aside0.mk hb; clear hb) | (go_at_call 50; refine (spec_l05Count_at.calls ⟨gt1, 0, none⟩ p1.f0 p1.f1 p1.f2 c1 _ (HAT1.out _ HBa1.out) HH1.out.2.1).mono ?_; rintro e wb1 ⟨rfl, hb⟩; have HBb1 := Aside0.mk (below_step HBa1.out hb); clear hb) | (go_at_call 51; refine (spec_l05Parts_at.calls ⟨gt1, 0, none⟩ p1.f0 p1.f1 p1.f2 q1 _ (HAT1.out _ HBb1.out) HH1.out.2.2.1).mono ?_; rintro e w31 ⟨rfl, hb⟩; have HBc1 := Aside0.mk (below_step HBb1.out hb); clear hb))
            have HY1 := Aside0.mk (show Kd.R k39 39 w31 w.heap.size (fun _ => True) _ o1 ∧ Below w.heap.size w w31 from by rw [HH1.out.2.2.2]; exact ⟨Kd.R_below HO1x.out.1 HBc1.out, below_step HO1x.out.2 HBc1.out⟩)
            go_upto_region 12 with (fail)
            obtain ⟨p2, HP2⟩ : ∃ p, Aside0 (p = pB sh) := ⟨_, ⟨rfl⟩⟩
            have y0 : wrap64 (Int.tdiv sh 2) = p2.f0 := by rw [HP2.out]; rfl
            have y1 : wrap64 (Int.tdiv (wrap64 (sh + 1)) 2) = p2.f1 := by rw [HP2.out]; rfl
            have y2 : true = p2.f2 := by rw [HP2.out]; rfl
            rw [y0, y1]
            clear y0 y1
            rw [← HP2.out] at HO2h
            obtain ⟨gt2, HGT2⟩ : ∃ g, Aside0 (g = w31.heap.size) := ⟨_, ⟨rfl⟩⟩
            rw [← HGT2.out]
            obtain ⟨w22, HW2⟩ : ∃ w2, Aside0 (w2 = w31.alloc (.cells #[.int .i64 p2.f0, .int .i64 p2.f1, .bool true] 39)) := ⟨_, ⟨rfl⟩⟩
            rw [← HW2.out]
            have HAT2 := Aside0.mk (show ∀ W, Below w22.heap.size w22 W → AtS39 W W ⟨gt2, 0, none⟩ p2.f0 p2.f1 p2.f2 from by rw [HW2.out, y2]; intro W hb; exact at_box HGT2.out hb)
            clear y2
            have HO2x := Aside0.mk (show Kd.R k39 39 w22 w.heap.size (fun _ => True) _ o1 ∧ Below w.heap.size w w22 from by rw [HW2.out]; exact ⟨Kd.R_alloc HY1.out.1 _, below_alloc HY1.out.2 _⟩)
            clear HW2 HGT2
            rcases oneP_ways HO2h.out with ⟨h1, h2⟩ | ⟨h1, c2, h2, h3, h4⟩ | ⟨h1, c2, h2, h3, q2, h4, h5, h6⟩ | ⟨h1, c2, h2, h3, q2, h4, h5, h6, h7⟩
            · have HH2 := Aside0.mk (And.intro h1 h2)
              clear h1 h2
              go_wp2_with (((with_reducible refine gate_callee (f := 49) rfl ?_); refine goesL_ (some 44) rfl rfl Try.func49 (by kernel_rfl) rfl #[.pointer (some ⟨gt2, 0, none⟩)] rfl (by (try simp only [List.map_toArray, List.map_cons, List.map_nil]); first | done | rfl) ?_; refine (spec_l05One_at.calls k ⟨gt2, 0, none⟩ p2.f0 p2.f1 p2.f2 false _ (HAT2.out _ (Below.refl _ _)) HH2.out.1).mono ?_; rintro e w32 ⟨rfl, hb⟩; refine ⟨_, rfl, ?_⟩; have HBa2 := Aside0.mk hb; clear hb))
              have HY2 := Aside0.mk (show Kd.R k39 39 w32 w.heap.size (fun _ => True) _ o2 ∧ Below w.heap.size w w32 from by rw [HH2.out.2]; exact ⟨Kd.R_below HO2x.out.1 HBa2.out, below_step HO2x.out.2 HBa2.out⟩)
              go_roundg (gr2 + 1)
              case measure => omega
              case rel =>
                have hw := wrap_id (sh + 1) (by have := HK2.out; omega) (by have := HK2.out; omega)
                exact ⟨sh + 1, o2, by rw [hw], ⟨by have := HK2.out; omega, by have := HK2.out; omega, by have := C3.out; have := HK2.out; omega⟩, HY2, ⟨HF3.out⟩⟩
            · have HH2 := Aside0.mk (And.intro h1 (And.intro h2 h4))
              clear h1 h2 h4
              go_wp2_with (first | ((with_reducible refine gate_callee (f := 49) rfl ?_); refine goesL_ (some 44) rfl rfl Try.func49 (by kernel_rfl) rfl #[.pointer (some ⟨gt2, 0, none⟩)] rfl (by (try simp only [List.map_toArray, List.map_cons, List.map_nil]); first | done | rfl) ?_; refine (spec_l05One_at.calls k ⟨gt2, 0, none⟩ p2.f0 p2.f1 p2.f2 true _ (HAT2.out _ (Below.refl _ _)) HH2.out.1).mono ?_; rintro e wa2 ⟨rfl, hb⟩; refine ⟨_, rfl, ?_⟩; have HBa2 := Aside0.mk hb; clear hb) | (go_at_call 50; refine (spec_l05Count_at.calls ⟨gt2, 0, none⟩ p2.f0 p2.f1 p2.f2 c2 _ (HAT2.out _ HBa2.out) HH2.out.2.1).mono ?_; rintro e w32 ⟨rfl, hb⟩; have HBb2 := Aside0.mk (below_step HBa2.out hb); clear hb))
              have HY2 := Aside0.mk (show Kd.R k39 39 w32 w.heap.size (fun _ => True) _ o2 ∧ Below w.heap.size w w32 from by rw [HH2.out.2.2]; exact ⟨Kd.R_below HO2x.out.1 HBb2.out, below_step HO2x.out.2 HBb2.out⟩)
              go_roundg (gr2 + 1)
              case measure => omega
              case rel =>
                have hw := wrap_id (sh + 1) (by have := HK2.out; omega) (by have := HK2.out; omega)
                exact ⟨sh + 1, o2, by rw [hw], ⟨by have := HK2.out; omega, by have := HK2.out; omega, by have := C3.out; have := HK2.out; omega⟩, HY2, ⟨HF3.out⟩⟩
            · have HH2 := Aside0.mk (And.intro h1 (And.intro h2 (And.intro h4 h6)))
              clear h1 h2 h4 h6
              go_wp2_with (first | ((with_reducible refine gate_callee (f := 49) rfl ?_); refine goesL_ (some 44) rfl rfl Try.func49 (by kernel_rfl) rfl #[.pointer (some ⟨gt2, 0, none⟩)] rfl (by (try simp only [List.map_toArray, List.map_cons, List.map_nil]); first | done | rfl) ?_; refine (spec_l05One_at.calls k ⟨gt2, 0, none⟩ p2.f0 p2.f1 p2.f2 true _ (HAT2.out _ (Below.refl _ _)) HH2.out.1).mono ?_; rintro e wa2 ⟨rfl, hb⟩; refine ⟨_, rfl, ?_⟩; have HBa2 := Aside0.mk hb; clear hb) | (go_at_call 50; refine (spec_l05Count_at.calls ⟨gt2, 0, none⟩ p2.f0 p2.f1 p2.f2 c2 _ (HAT2.out _ HBa2.out) HH2.out.2.1).mono ?_; rintro e wb2 ⟨rfl, hb⟩; have HBb2 := Aside0.mk (below_step HBa2.out hb); clear hb) | (go_at_call 51; refine (spec_l05Parts_at.calls ⟨gt2, 0, none⟩ p2.f0 p2.f1 p2.f2 q2 _ (HAT2.out _ HBb2.out) HH2.out.2.2.1).mono ?_; rintro e w32 ⟨rfl, hb⟩; have HBc2 := Aside0.mk (below_step HBb2.out hb); clear hb))
              have HY2 := Aside0.mk (show Kd.R k39 39 w32 w.heap.size (fun _ => True) _ o2 ∧ Below w.heap.size w w32 from by rw [HH2.out.2.2.2]; exact ⟨Kd.R_below HO2x.out.1 HBc2.out, below_step HO2x.out.2 HBc2.out⟩)
              go_roundg (gr2 + 1)
              case measure => omega
              case rel =>
                have hw := wrap_id (sh + 1) (by have := HK2.out; omega) (by have := HK2.out; omega)
                exact ⟨sh + 1, o2, by rw [hw], ⟨by have := HK2.out; omega, by have := HK2.out; omega, by have := C3.out; have := HK2.out; omega⟩, HY2, ⟨HF3.out⟩⟩
            · have HH2 := Aside0.mk (And.intro h1 (And.intro h2 (And.intro h4 h6)))
              have HE2 := Aside0.mk h7
              clear h1 h2 h4 h6 h7
              go_wp2_with (first | ((with_reducible refine gate_callee (f := 49) rfl ?_); refine goesL_ (some 44) rfl rfl Try.func49 (by kernel_rfl) rfl #[.pointer (some ⟨gt2, 0, none⟩)] rfl (by (try simp only [List.map_toArray, List.map_cons, List.map_nil]); first | done | rfl) ?_; refine (spec_l05One_at.calls k ⟨gt2, 0, none⟩ p2.f0 p2.f1 p2.f2 true _ (HAT2.out _ (Below.refl _ _)) HH2.out.1).mono ?_; rintro e wa2 ⟨rfl, hb⟩; refine ⟨_, rfl, ?_⟩; have HBa2 := Aside0.mk hb; clear hb) | (go_at_call 50; refine (spec_l05Count_at.calls ⟨gt2, 0, none⟩ p2.f0 p2.f1 p2.f2 c2 _ (HAT2.out _ HBa2.out) HH2.out.2.1).mono ?_; rintro e wb2 ⟨rfl, hb⟩; have HBb2 := Aside0.mk (below_step HBa2.out hb); clear hb) | (go_at_call 51; refine (spec_l05Parts_at.calls ⟨gt2, 0, none⟩ p2.f0 p2.f1 p2.f2 q2 _ (HAT2.out _ HBb2.out) HH2.out.2.2.1).mono ?_; rintro e wc2 ⟨rfl, hb⟩; have HBc2 := Aside0.mk (below_step HBb2.out hb); clear hb; have t3 := HAT2.out _ HBc2.out; have t0 := t3.1; have t1 := t3.2.1; have t2 := t3.2.2; clear t3) | (at_builtin; refine Kd.R_append k39 (w0 := w) w.heap.size rfl (.tmp 55) (.tmp 57) 22 39 (.agg #[(.int .i64 0), (.int .i64 0), (.bool false)]) 24 rfl Try.underlying22 infoPu rfl (by decide) (by omega) _ o1 p2 [.int .i64 p2.f0, .int .i64 p2.f1, .bool p2.f2] (fun _ => True) (fun _ => False) rfl (by first | (go_simp; done) | (go_simp; rfl)) ?aP (fun _ hk => hk.elim) (fun _ _ => trivial) ?aO ?aB ?aS ?aL ?_; (case aP => exact k39_mkM _ _ _ p2); (case aO => exact Kd.R_below HO2x.out.1 HBc2.out); (case aB => exact below_step HO2x.out.2 HBc2.out); (case aS => exact (below_step HO2x.out.2 HBc2.out).size); (case aL => have := HH2.out.2.2.2; omega); intro va w32 ho hb hg hat; have HZ2 := Aside0.mk (And.intro ho hb); clear ho hb hg hat))
              have HY2 := Aside0.mk (show Kd.R k39 39 w32 w.heap.size (fun _ => True) _ o2 ∧ Below w.heap.size w w32 from by rw [HE2.out]; exact HZ2.out)
              try clear t0 t1 t2
              go_roundg (gr2 + 1)
              case measure => omega
              case rel =>
                have hw := wrap_id (sh + 1) (by have := HK2.out; omega) (by have := HK2.out; omega)
                exact ⟨sh + 1, o2, by rw [hw], ⟨by have := HK2.out; omega, by have := HK2.out; omega, by have := C3.out; have := HK2.out; omega⟩, HY2, ⟨HF3.out⟩⟩
          · have HH1 := Aside0.mk (And.intro h1 (And.intro h2 (And.intro h4 h6)))
            have HE1 := Aside0.mk h7
            clear h1 h2 h4 h6 h7
            go_upto_region 11 with (first | ((with_reducible refine gate_callee (f := 49) rfl ?_); refine goesL_ (some 23) rfl rfl Try.func49 (by kernel_rfl) rfl #[.pointer (some ⟨gt1, 0, none⟩)] rfl (by (try simp only [List.map_toArray, List.map_cons, List.map_nil]); first | done | rfl) ?_; refine (spec_l05One_at.calls k ⟨gt1, 0, none⟩ p1.f0 p1.f1 p1.f2 true _ (HAT1.out _ (Below.refl _ _)) HH1.out.1).mono ?_; rintro e wa1 ⟨rfl, hb⟩; refine ⟨_, rfl, ?_⟩; have HBa1 := Aside0.mk hb; clear hb) | (go_at_call 50; refine (spec_l05Count_at.calls ⟨gt1, 0, none⟩ p1.f0 p1.f1 p1.f2 c1 _ (HAT1.out _ HBa1.out) HH1.out.2.1).mono ?_; rintro e wb1 ⟨rfl, hb⟩; have HBb1 := Aside0.mk (below_step HBa1.out hb); clear hb) | (go_at_call 51; refine (spec_l05Parts_at.calls ⟨gt1, 0, none⟩ p1.f0 p1.f1 p1.f2 q1 _ (HAT1.out _ HBb1.out) HH1.out.2.2.1).mono ?_; rintro e wc1 ⟨rfl, hb⟩; have HBc1 := Aside0.mk (below_step HBb1.out hb); clear hb; have t3 := HAT1.out _ HBc1.out; have t0 := t3.1; have t1 := t3.2.1; have t2 := t3.2.2; clear t3) | (at_builtin; refine Kd.R_append k39 (w0 := w) w.heap.size rfl (.tmp 34) (.tmp 36) 22 39 (.agg #[(.int .i64 0), (.int .i64 0), (.bool false)]) 24 rfl Try.underlying22 infoPu rfl (by decide) (by omega) _ out p1 [.int .i64 p1.f0, .int .i64 p1.f1, .bool p1.f2] (fun _ => True) (fun _ => False) rfl (by first | (go_simp; done) | (go_simp; rfl)) ?aP (fun _ hk => hk.elim) (fun _ _ => trivial) ?aO ?aB ?aS ?aL ?_; (case aP => exact k39_mkM _ _ _ p1); (case aO => exact Kd.R_below HO1x.out.1 HBc1.out); (case aB => exact below_step HO1x.out.2 HBc1.out); (case aS => exact (below_step HO1x.out.2 HBc1.out).size); (case aL => have := HH1.out.2.2.2; omega); intro va w31 ho hb hg hat; have HZ1 := Aside0.mk (And.intro ho hb); clear ho hb hg hat))
            have HY1 := Aside0.mk (show Kd.R k39 39 w31 w.heap.size (fun _ => True) _ o1 ∧ Below w.heap.size w w31 from by rw [HE1.out]; exact HZ1.out)
            try clear t0 t1 t2
            go_upto_region 12 with (fail)
            obtain ⟨p2, HP2⟩ : ∃ p, Aside0 (p = pB sh) := ⟨_, ⟨rfl⟩⟩
            have y0 : wrap64 (Int.tdiv sh 2) = p2.f0 := by rw [HP2.out]; rfl
            have y1 : wrap64 (Int.tdiv (wrap64 (sh + 1)) 2) = p2.f1 := by rw [HP2.out]; rfl
            have y2 : true = p2.f2 := by rw [HP2.out]; rfl
            rw [y0, y1]
            clear y0 y1
            rw [← HP2.out] at HO2h
            obtain ⟨gt2, HGT2⟩ : ∃ g, Aside0 (g = w31.heap.size) := ⟨_, ⟨rfl⟩⟩
            rw [← HGT2.out]
            obtain ⟨w22, HW2⟩ : ∃ w2, Aside0 (w2 = w31.alloc (.cells #[.int .i64 p2.f0, .int .i64 p2.f1, .bool true] 39)) := ⟨_, ⟨rfl⟩⟩
            rw [← HW2.out]
            have HAT2 := Aside0.mk (show ∀ W, Below w22.heap.size w22 W → AtS39 W W ⟨gt2, 0, none⟩ p2.f0 p2.f1 p2.f2 from by rw [HW2.out, y2]; intro W hb; exact at_box HGT2.out hb)
            clear y2
            have HO2x := Aside0.mk (show Kd.R k39 39 w22 w.heap.size (fun _ => True) _ o1 ∧ Below w.heap.size w w22 from by rw [HW2.out]; exact ⟨Kd.R_alloc HY1.out.1 _, below_alloc HY1.out.2 _⟩)
            clear HW2 HGT2
            rcases oneP_ways HO2h.out with ⟨h1, h2⟩ | ⟨h1, c2, h2, h3, h4⟩ | ⟨h1, c2, h2, h3, q2, h4, h5, h6⟩ | ⟨h1, c2, h2, h3, q2, h4, h5, h6, h7⟩
            · have HH2 := Aside0.mk (And.intro h1 h2)
              clear h1 h2
              go_wp2_with (((with_reducible refine gate_callee (f := 49) rfl ?_); refine goesL_ (some 44) rfl rfl Try.func49 (by kernel_rfl) rfl #[.pointer (some ⟨gt2, 0, none⟩)] rfl (by (try simp only [List.map_toArray, List.map_cons, List.map_nil]); first | done | rfl) ?_; refine (spec_l05One_at.calls k ⟨gt2, 0, none⟩ p2.f0 p2.f1 p2.f2 false _ (HAT2.out _ (Below.refl _ _)) HH2.out.1).mono ?_; rintro e w32 ⟨rfl, hb⟩; refine ⟨_, rfl, ?_⟩; have HBa2 := Aside0.mk hb; clear hb))
              have HY2 := Aside0.mk (show Kd.R k39 39 w32 w.heap.size (fun _ => True) _ o2 ∧ Below w.heap.size w w32 from by rw [HH2.out.2]; exact ⟨Kd.R_below HO2x.out.1 HBa2.out, below_step HO2x.out.2 HBa2.out⟩)
              go_roundg (gr2 + 1)
              case measure => omega
              case rel =>
                have hw := wrap_id (sh + 1) (by have := HK2.out; omega) (by have := HK2.out; omega)
                exact ⟨sh + 1, o2, by rw [hw], ⟨by have := HK2.out; omega, by have := HK2.out; omega, by have := C3.out; have := HK2.out; omega⟩, HY2, ⟨HF3.out⟩⟩
            · have HH2 := Aside0.mk (And.intro h1 (And.intro h2 h4))
              clear h1 h2 h4
              go_wp2_with (first | ((with_reducible refine gate_callee (f := 49) rfl ?_); refine goesL_ (some 44) rfl rfl Try.func49 (by kernel_rfl) rfl #[.pointer (some ⟨gt2, 0, none⟩)] rfl (by (try simp only [List.map_toArray, List.map_cons, List.map_nil]); first | done | rfl) ?_; refine (spec_l05One_at.calls k ⟨gt2, 0, none⟩ p2.f0 p2.f1 p2.f2 true _ (HAT2.out _ (Below.refl _ _)) HH2.out.1).mono ?_; rintro e wa2 ⟨rfl, hb⟩; refine ⟨_, rfl, ?_⟩; have HBa2 := Aside0.mk hb; clear hb) | (go_at_call 50; refine (spec_l05Count_at.calls ⟨gt2, 0, none⟩ p2.f0 p2.f1 p2.f2 c2 _ (HAT2.out _ HBa2.out) HH2.out.2.1).mono ?_; rintro e w32 ⟨rfl, hb⟩; have HBb2 := Aside0.mk (below_step HBa2.out hb); clear hb))
              have HY2 := Aside0.mk (show Kd.R k39 39 w32 w.heap.size (fun _ => True) _ o2 ∧ Below w.heap.size w w32 from by rw [HH2.out.2.2]; exact ⟨Kd.R_below HO2x.out.1 HBb2.out, below_step HO2x.out.2 HBb2.out⟩)
              go_roundg (gr2 + 1)
              case measure => omega
              case rel =>
                have hw := wrap_id (sh + 1) (by have := HK2.out; omega) (by have := HK2.out; omega)
                exact ⟨sh + 1, o2, by rw [hw], ⟨by have := HK2.out; omega, by have := HK2.out; omega, by have := C3.out; have := HK2.out; omega⟩, HY2, ⟨HF3.out⟩⟩
            · have HH2 := Aside0.mk (And.intro h1 (And.intro h2 (And.intro h4 h6)))
              clear h1 h2 h4 h6
              go_wp2_with (first | ((with_reducible refine gate_callee (f := 49) rfl ?_); refine goesL_ (some 44) rfl rfl Try.func49 (by kernel_rfl) rfl #[.pointer (some ⟨gt2, 0, none⟩)] rfl (by (try simp only [List.map_toArray, List.map_cons, List.map_nil]); first | done | rfl) ?_; refine (spec_l05One_at.calls k ⟨gt2, 0, none⟩ p2.f0 p2.f1 p2.f2 true _ (HAT2.out _ (Below.refl _ _)) HH2.out.1).mono ?_; rintro e wa2 ⟨rfl, hb⟩; refine ⟨_, rfl, ?_⟩; have HBa2 := Aside0.mk hb; clear hb) | (go_at_call 50; refine (spec_l05Count_at.calls ⟨gt2, 0, none⟩ p2.f0 p2.f1 p2.f2 c2 _ (HAT2.out _ HBa2.out) HH2.out.2.1).mono ?_; rintro e wb2 ⟨rfl, hb⟩; have HBb2 := Aside0.mk (below_step HBa2.out hb); clear hb) | (go_at_call 51; refine (spec_l05Parts_at.calls ⟨gt2, 0, none⟩ p2.f0 p2.f1 p2.f2 q2 _ (HAT2.out _ HBb2.out) HH2.out.2.2.1).mono ?_; rintro e w32 ⟨rfl, hb⟩; have HBc2 := Aside0.mk (below_step HBb2.out hb); clear hb))
              have HY2 := Aside0.mk (show Kd.R k39 39 w32 w.heap.size (fun _ => True) _ o2 ∧ Below w.heap.size w w32 from by rw [HH2.out.2.2.2]; exact ⟨Kd.R_below HO2x.out.1 HBc2.out, below_step HO2x.out.2 HBc2.out⟩)
              go_roundg (gr2 + 1)
              case measure => omega
              case rel =>
                have hw := wrap_id (sh + 1) (by have := HK2.out; omega) (by have := HK2.out; omega)
                exact ⟨sh + 1, o2, by rw [hw], ⟨by have := HK2.out; omega, by have := HK2.out; omega, by have := C3.out; have := HK2.out; omega⟩, HY2, ⟨HF3.out⟩⟩
            · have HH2 := Aside0.mk (And.intro h1 (And.intro h2 (And.intro h4 h6)))
              have HE2 := Aside0.mk h7
              clear h1 h2 h4 h6 h7
              go_wp2_with (first | ((with_reducible refine gate_callee (f := 49) rfl ?_); refine goesL_ (some 44) rfl rfl Try.func49 (by kernel_rfl) rfl #[.pointer (some ⟨gt2, 0, none⟩)] rfl (by (try simp only [List.map_toArray, List.map_cons, List.map_nil]); first | done | rfl) ?_; refine (spec_l05One_at.calls k ⟨gt2, 0, none⟩ p2.f0 p2.f1 p2.f2 true _ (HAT2.out _ (Below.refl _ _)) HH2.out.1).mono ?_; rintro e wa2 ⟨rfl, hb⟩; refine ⟨_, rfl, ?_⟩; have HBa2 := Aside0.mk hb; clear hb) | (go_at_call 50; refine (spec_l05Count_at.calls ⟨gt2, 0, none⟩ p2.f0 p2.f1 p2.f2 c2 _ (HAT2.out _ HBa2.out) HH2.out.2.1).mono ?_; rintro e wb2 ⟨rfl, hb⟩; have HBb2 := Aside0.mk (below_step HBa2.out hb); clear hb) | (go_at_call 51; refine (spec_l05Parts_at.calls ⟨gt2, 0, none⟩ p2.f0 p2.f1 p2.f2 q2 _ (HAT2.out _ HBb2.out) HH2.out.2.2.1).mono ?_; rintro e wc2 ⟨rfl, hb⟩; have HBc2 := Aside0.mk (below_step HBb2.out hb); clear hb; have t3 := HAT2.out _ HBc2.out; have t0 := t3.1; have t1 := t3.2.1; have t2 := t3.2.2; clear t3) | (at_builtin; refine Kd.R_append k39 (w0 := w) w.heap.size rfl (.tmp 55) (.tmp 57) 22 39 (.agg #[(.int .i64 0), (.int .i64 0), (.bool false)]) 24 rfl Try.underlying22 infoPu rfl (by decide) (by omega) _ o1 p2 [.int .i64 p2.f0, .int .i64 p2.f1, .bool p2.f2] (fun _ => True) (fun _ => False) rfl (by first | (go_simp; done) | (go_simp; rfl)) ?aP (fun _ hk => hk.elim) (fun _ _ => trivial) ?aO ?aB ?aS ?aL ?_; (case aP => exact k39_mkM _ _ _ p2); (case aO => exact Kd.R_below HO2x.out.1 HBc2.out); (case aB => exact below_step HO2x.out.2 HBc2.out); (case aS => exact (below_step HO2x.out.2 HBc2.out).size); (case aL => have := HH2.out.2.2.2; omega); intro va w32 ho hb hg hat; have HZ2 := Aside0.mk (And.intro ho hb); clear ho hb hg hat))
              have HY2 := Aside0.mk (show Kd.R k39 39 w32 w.heap.size (fun _ => True) _ o2 ∧ Below w.heap.size w w32 from by rw [HE2.out]; exact HZ2.out)
              try clear t0 t1 t2
              go_roundg (gr2 + 1)
              case measure => omega
              case rel =>
                have hw := wrap_id (sh + 1) (by have := HK2.out; omega) (by have := HK2.out; omega)
                exact ⟨sh + 1, o2, by rw [hw], ⟨by have := HK2.out; omega, by have := HK2.out; omega, by have := C3.out; have := HK2.out; omega⟩, HY2, ⟨HF3.out⟩⟩
        · have c3b := decide_eq_false c3
          have C3 := Aside0.mk c3
          clear c3
          go_wp2
          go_roundg (gr + 1)
          case measure => omega
          case rel =>
            have hw := wrap_id (bl + 1) (by have := HK.out; omega) (by have := HK.out; omega)
            obtain rfl : gq2 = 0 := by have := C3.out; have := HK2.out; omega
            have e : out = o := Option.some.inj HF.out
            refine ⟨bl + 1, out, by rw [hw], ⟨by have := HK.out; omega, by have := HK.out; omega, by have := C2.out; have := HK.out; omega⟩, HO, ⟨?_⟩⟩
            rw [e]; exact HSH.out.2
    · have c2b := decide_eq_false c2
      have C2 := Aside0.mk c2
      clear c2
      go_wp2
      go_ret
      obtain rfl : gq = 0 := by have := C2.out; have := HK.out; omega
      have e : out = r := Option.some.inj HF.out
      subst e
      exact ⟨_, rfl, HO.out.1, HO.out.2⟩

/-! ### spec_l00Min: function 55 -/
def spec_l00Min.f (a0 : Int) (a1 : Int) : Option (Int) := if a0 < a1 then (some a0) else (some a1)
set_option maxHeartbeats 8000000 in
set_option maxRecDepth 100000 in
theorem spec_l00Min.calls (a0 : Int) (a1 : Int) (r : Int) (w : World) (h : spec_l00Min.f a0 a1 = some r) :
    Calls Try.prog 55 #[.int .i64 a0, .int .i64 a1] w fun e w' => e = .returned (.int .i64 r) ∧ Drawn0 w w' := by
  have H : (if a0 < a1 then (some a0) else (some a1)) = some r := h
  clear h
  by_cases c3 : a0 < a1
  · rw [if_pos c3] at H
    have c3b0 : decide (a0 < a1) = true := decide_eq_true c3
    clear c3
    obtain rfl := Option.some.inj H
    go_enter Try.func55, Try.ntmps55
    go_wp2
    go_ret
    exact ⟨by first | rfl | (simp; done) | (simp [*]; done), by repeat (first | exact Drawn0.refl _ | apply Drawn0.step)⟩
  · rw [if_neg c3] at H
    have c3b0 : decide (a0 < a1) = false := decide_eq_false c3
    clear c3
    obtain rfl := Option.some.inj H
    go_enter Try.func55, Try.ntmps55
    go_wp2
    go_ret
    exact ⟨by first | rfl | (simp; done) | (simp [*]; done), by repeat (first | exact Drawn0.refl _ | apply Drawn0.step)⟩

/-! ### spec_l05Wanted: function 25 -/
def spec_l05Wanted.f (a0 : Int) : Option (Bool) := (spec_l00In.f a0 1 5000).bind fun t137 => (some t137)
set_option maxHeartbeats 8000000 in
set_option maxRecDepth 100000 in
theorem spec_l05Wanted.calls (a0 : Int) (r : Bool) (w : World) (h : spec_l05Wanted.f a0 = some r) :
    Calls Try.prog 25 #[.int .i64 a0] w fun e w' => e = .returned (.bool r) ∧ Drawn0 w w' := by
  have H : ((spec_l00In.f a0 1 5000).bind fun t137 => (some t137)) = some r := h
  clear h
  replace H := Option.bind_eq_some_iff.mp H
  obtain ⟨t137, A20, H⟩ := H
  replace H : (some t137) = some r := H
  have A2 := Aside0.mk A20
  clear A20
  obtain rfl := Option.some.inj H
  go_enter Try.func25, Try.ntmps25
  go_wp2_with (first | ((with_reducible refine gate_callee (f := 42) rfl ?_); refine goesL_ (some 4) rfl rfl Try.func42 (by kernel_rfl) rfl #[.int .i64 a0, .int .i64 1, .int .i64 5000] rfl (by (try simp only [List.map_toArray, List.map_cons, List.map_nil]); first | done | rfl | (simp only [List.length_drop, List.length_take]; rfl)) ?_; (with_reducible refine (spec_l00In.calls a0 1 5000 t137 _ A2.out).mono ?_); rintro e w' ⟨rfl, ⟨nd, rfl⟩⟩; refine ⟨_, rfl, ?_⟩))
  go_ret
  exact ⟨by first | rfl | (simp; done) | (simp [*]; done), by repeat (first | exact Drawn0.refl _ | apply Drawn0.step)⟩

end Go.Proofs.Ytcjandlemjfojaa.HFew
