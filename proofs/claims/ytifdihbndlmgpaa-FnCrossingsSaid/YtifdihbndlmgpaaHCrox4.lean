-- Written by a program for this claim (the functions that the statement reaches, and that the program's code comes to them).
import Derived.Test.YtifdihbndlmgpaaHCrox0
import Derived.Test.YtifdihbndlmgpaaHCrox1
import Derived.Test.YtifdihbndlmgpaaHCrox2
import Derived.Test.YtifdihbndlmgpaaHCrox3
namespace Go.Proofs.Ytifdihbndlmgpaa.HCro
open Go.RowKit Go.Proofs.YtifdihbndlmgpaaW.PrintWords Go.Proofs.YtifdihbndlmgpaaW.PrintLast Go.Proofs.YtifdihbndlmgpaaW.PrintMore
attribute [local go_sem] max2_int min2_int max_two min_two max_three min_three max_four min_four   -- for this text's walks alone
set_option linter.unusedVariables false
set_option linter.unusedSimpArgs false

/-! ### spec_l07First: function 51 -/
def spec_l07First.f (s0_0 : Int) (s0_1 : Int) (s0_2 : Bool) : Option (Int × Int × Int × Bool) := if s0_2 = true then (if (Int.tmod (wrap64 (s0_0 + s0_1)) 2) = 1 then (some (1, s0_0, s0_1, s0_2)) else (some (1 - 1, s0_0, s0_1, s0_2))) else (if (Int.tmod (wrap64 (s0_0 + s0_1)) 2) = 1 then (some (0, s0_0, s0_1, s0_2)) else (some (1 - 0, s0_0, s0_1, s0_2)))
set_option maxHeartbeats 8000000 in
set_option maxRecDepth 100000 in
theorem spec_l07First.calls (g : Nat) (s0_0 : Int) (s0_1 : Int) (s0_2 : Bool) (r1 : Int) (r2 : Int) (r3 : Int) (r4 : Bool) (w0 w : World) (hI : IsS26 w0 w g s0_0 s0_1 s0_2) (hB : Below w0.heap.size w0 w) (h : spec_l07First.f s0_0 s0_1 s0_2 = some (r1, r2, r3, r4)) :
  Calls Try.prog 51 #[.pointer (some ⟨g, 0, none⟩)] w fun e w' => e = .returned (.int .i64 r1) ∧ IsS26 w0 w' g r2 r3 r4 ∧ Below w0.heap.size w0 w' ∧ KeepBut w w' g none := by
 have HI0 := A' hI; have HK := A' (KeepBut.refl w g none); have HL := A' hB.size; clear hI; have HW0 := A' hB.size; have HB := A' hB; clear hB; have H : (if s0_2 = true then (if (Int.tmod (wrap64 (s0_0 + s0_1)) 2) = 1 then (some (1, s0_0, s0_1, s0_2)) else (some (1 - 1, s0_0, s0_1, s0_2))) else (if (Int.tmod (wrap64 (s0_0 + s0_1)) 2) = 1 then (some (0, s0_0, s0_1, s0_2)) else (some (1 - 0, s0_0, s0_1, s0_2)))) = some (r1, r2, r3, r4) := h; clear h
 by_cases c2 : s0_2 = true
 ·subst c2; have H1 : (if (Int.tmod (wrap64 (s0_0 + s0_1)) 2) = 1 then (some (1, s0_0, s0_1, true)) else (some (1 - 1, s0_0, s0_1, true))) = some (r1, r2, r3, r4) := by rw [if_pos rfl] at H; exact H
  clear H; have H := H1; clear H1
  by_cases c3 : (Int.tmod (wrap64 (s0_0 + s0_1)) 2) = 1
  ·rw [if_pos c3] at H; have c3b0 : ((Int.tmod (wrap64 (s0_0 + s0_1)) 2) == 1) = true := beq_iff_eq.mpr c3; have c3b1 : ((Int.tmod (wrap64 (s0_0 + s0_1)) 2) != 1) = false := bne_eq_false_iff_eq.mpr c3; clear c3; simp only [Option.some.injEq, Prod.mk.injEq] at H; obtain ⟨rfl, rfl, rfl, rfl⟩ := H; obtain ⟨HGz4, hgz4⟩ := HI0.out; have hcz4_0 := cellS26_0 HGz4; have hcz4_1 := cellS26_1 HGz4; have hcz4_2 := cellS26_2 HGz4; have hfz4_0 := Y' HGz4 0; have hfz4_1 := Y' HGz4 1; have hfz4_2 := Y' HGz4 2; clear HGz4 hgz4; go_enter Try.func51, Try.ntmps51; go_wp2
   repeat (go_quiet (fail); try go_wp2)
   go_ret; exact ⟨qE, by repeat (first | (with_reducible first | exact HI0.out | apply IsS26.alloc | apply IsS26.drewN | apply IsS26.drew | apply IsS26.set_0 | apply IsS26.set_1 | apply IsS26.set_2) | exact HI0.out), by repeat (first | (with_reducible first | exact HB.out | apply K' | apply F' | apply J' | refine E' ?_ (IsS26.ge HI0.out)) | exact HB.out), by repeat (first | (with_reducible first | exact HK.out | apply KeepBut.set_ | apply keep_drewN | apply keep_drew | apply keep_alloc) | exact HK.out)⟩
  ·rw [if_neg c3] at H; have c3b0 : ((Int.tmod (wrap64 (s0_0 + s0_1)) 2) == 1) = false := beq_eq_false_iff_ne.mpr c3; have c3b1 : ((Int.tmod (wrap64 (s0_0 + s0_1)) 2) != 1) = true := bne_iff_ne.mpr c3; simp only [Option.some.injEq, Prod.mk.injEq] at H; obtain ⟨rfl, rfl, rfl, rfl⟩ := H; obtain ⟨HGz5, hgz5⟩ := HI0.out; have hcz5_0 := cellS26_0 HGz5; have hcz5_1 := cellS26_1 HGz5; have hcz5_2 := cellS26_2 HGz5; have hfz5_0 := Y' HGz5 0; have hfz5_1 := Y' HGz5 1; have hfz5_2 := Y' HGz5 2; clear HGz5 hgz5; go_enter Try.func51, Try.ntmps51; go_wp2
   repeat (go_quiet (fail); try go_wp2)
   go_ret; exact ⟨qE, by repeat (first | (with_reducible first | exact HI0.out | apply IsS26.alloc | apply IsS26.drewN | apply IsS26.drew | apply IsS26.set_0 | apply IsS26.set_1 | apply IsS26.set_2) | exact HI0.out), by repeat (first | (with_reducible first | exact HB.out | apply K' | apply F' | apply J' | refine E' ?_ (IsS26.ge HI0.out)) | exact HB.out), by repeat (first | (with_reducible first | exact HK.out | apply KeepBut.set_ | apply keep_drewN | apply keep_drew | apply keep_alloc) | exact HK.out)⟩
 ·replace c2 := Bool.eq_false_iff.mpr c2; subst c2; have H1 : (if (Int.tmod (wrap64 (s0_0 + s0_1)) 2) = 1 then (some (0, s0_0, s0_1, false)) else (some (1 - 0, s0_0, s0_1, false))) = some (r1, r2, r3, r4) := by rw [if_neg (show ¬ (false = true) by decide)] at H; exact H
  clear H; have H := H1; clear H1
  by_cases c6 : (Int.tmod (wrap64 (s0_0 + s0_1)) 2) = 1
  ·rw [if_pos c6] at H; have c6b0 : ((Int.tmod (wrap64 (s0_0 + s0_1)) 2) == 1) = true := beq_iff_eq.mpr c6; have c6b1 : ((Int.tmod (wrap64 (s0_0 + s0_1)) 2) != 1) = false := bne_eq_false_iff_eq.mpr c6; clear c6; simp only [Option.some.injEq, Prod.mk.injEq] at H; obtain ⟨rfl, rfl, rfl, rfl⟩ := H; obtain ⟨HGz7, hgz7⟩ := HI0.out; have hcz7_0 := cellS26_0 HGz7; have hcz7_1 := cellS26_1 HGz7; have hcz7_2 := cellS26_2 HGz7; have hfz7_0 := Y' HGz7 0; have hfz7_1 := Y' HGz7 1; have hfz7_2 := Y' HGz7 2; clear HGz7 hgz7; go_enter Try.func51, Try.ntmps51; go_wp2
   repeat (go_quiet (fail); try go_wp2)
   go_ret; exact ⟨qE, by repeat (first | (with_reducible first | exact HI0.out | apply IsS26.alloc | apply IsS26.drewN | apply IsS26.drew | apply IsS26.set_0 | apply IsS26.set_1 | apply IsS26.set_2) | exact HI0.out), by repeat (first | (with_reducible first | exact HB.out | apply K' | apply F' | apply J' | refine E' ?_ (IsS26.ge HI0.out)) | exact HB.out), by repeat (first | (with_reducible first | exact HK.out | apply KeepBut.set_ | apply keep_drewN | apply keep_drew | apply keep_alloc) | exact HK.out)⟩
  ·rw [if_neg c6] at H; have c6b0 : ((Int.tmod (wrap64 (s0_0 + s0_1)) 2) == 1) = false := beq_eq_false_iff_ne.mpr c6; have c6b1 : ((Int.tmod (wrap64 (s0_0 + s0_1)) 2) != 1) = true := bne_iff_ne.mpr c6; simp only [Option.some.injEq, Prod.mk.injEq] at H; obtain ⟨rfl, rfl, rfl, rfl⟩ := H; obtain ⟨HGz8, hgz8⟩ := HI0.out; have hcz8_0 := cellS26_0 HGz8; have hcz8_1 := cellS26_1 HGz8; have hcz8_2 := cellS26_2 HGz8; have hfz8_0 := Y' HGz8 0; have hfz8_1 := Y' HGz8 1; have hfz8_2 := Y' HGz8 2; clear HGz8 hgz8; go_enter Try.func51, Try.ntmps51; go_wp2
   repeat (go_quiet (fail); try go_wp2)
   go_ret; exact ⟨qE, by repeat (first | (with_reducible first | exact HI0.out | apply IsS26.alloc | apply IsS26.drewN | apply IsS26.drew | apply IsS26.set_0 | apply IsS26.set_1 | apply IsS26.set_2) | exact HI0.out), by repeat (first | (with_reducible first | exact HB.out | apply K' | apply F' | apply J' | refine E' ?_ (IsS26.ge HI0.out)) | exact HB.out), by repeat (first | (with_reducible first | exact HK.out | apply KeepBut.set_ | apply keep_drewN | apply keep_drew | apply keep_alloc) | exact HK.out)⟩

/-! ### spec_l07Best: function 31 (by hand) -/
/-- Outside the blocks S nothing that stood has turned. -/
structure Touch (S : Nat → Prop) (W w' : World) : Prop where
  os : w'.os = W.os
  tape : w'.tape = W.tape
  output : w'.output = W.output
  size : W.heap.size ≤ w'.heap.size
  block : ∀ k, k < W.heap.size → ¬ S k → w'.heap[k]? = W.heap[k]?
namespace Touch
section
variable {S S' : Nat → Prop} {a b c : World}
protected theorem refl (S : Nat → Prop) (a : World) : Touch S a a := ⟨rfl, rfl, rfl, Nat.le_refl _, fun _ _ _ => rfl⟩
protected theorem mono (h : Touch S a b) (hs : ∀ k, S k → S' k) : Touch S' a b := ⟨h.os, h.tape, h.output, h.size, fun k hk hn => h.block k hk (fun z => hn (hs k z))⟩
protected theorem trans (h : Touch S a b) (k : Touch S' b c) (hs : ∀ k, k < a.heap.size → S' k → S k) : Touch S a c :=
  ⟨k.os.trans h.os, k.tape.trans h.tape, k.output.trans h.output, Nat.le_trans h.size k.size, fun i hi hn => (k.block i (Nat.lt_of_lt_of_le hi h.size) (fun z => hn (hs i hi z))).trans (h.block i hi hn)⟩
protected theorem step (h : Touch S a b) (k : Touch S b c) : Touch S a c := h.trans k (fun _ _ z => z)
protected theorem of_below (h : Below a.heap.size a b) : Touch S a b := ⟨h.os, h.tape, h.output, h.size, fun k hk _ => h.block k hk⟩
protected theorem later (h : Touch S a b) (k : Below b.heap.size b c) : Touch S a c := h.step (Touch.of_below k)
protected theorem set (h : Touch S a b) {p : Addr} (hp : p.block < a.heap.size → S p.block) (u : Value) : Touch S a (b.setCell p u) :=
  ⟨h.os, h.tape, h.output, by simpa [World.setCell] using h.size, fun k hk hn => (Below.heap_setCell b p u k (fun e => hn (by rw [e]; exact hp (e ▸ hk)))).trans (h.block k hk hn)⟩
protected theorem alloc (h : Touch S a b) (o : Obj) : Touch S a (b.alloc o) := h.later (below_alloc (Below.refl _ _) o)
protected theorem drewN (h : Touch S a b) (n : Nat) : Touch S a (b.drewN n) := h.later (pw_below_drewN (Below.refl _ _) n)
protected theorem drew (h : Touch S a b) : Touch S a b.drew := h.later (below_drew (Below.refl _ _))
protected theorem grown (h : Touch S a b) {row : Option Nat} (hg : b.grownBy c row) (hr : ∀ k, row = some k → k < a.heap.size → S k) : Touch S a c :=
  ⟨hg.os.trans h.os, hg.tape.trans h.tape, hg.output.trans h.output, Nat.le_trans h.size hg.size, fun k hk hn => (hg.block k (Nat.lt_of_lt_of_le hk h.size) (fun e => hn (hr k e.symm hk))).trans (h.block k hk hn)⟩
protected theorem below {B : Nat} (h : Touch S a b) (hB : B ≤ a.heap.size) (hS : ∀ k, S k → B ≤ k) : Below B a b :=
  ⟨h.os, h.tape, h.output, h.size, fun k hk => h.block k (Nat.lt_of_lt_of_le hk hB) (fun z => by have := hS k z; omega)⟩
protected theorem blk (h : Touch S a b) {g : Nat} {o : Obj} (hb : a.heap[g]? = some o) (hg : ¬ S g) : b.heap[g]? = some o := (h.block g (blk_lt hb) hg).trans hb
protected theorem R {α : Type} {d : Kd α} {e base : Nat} {ok : Nat → Prop} {v : Value} {xs : List α} (h : Touch S a b) (hr : d.R e a base ok v xs) (hok : ∀ k, ok k → ¬ S k) : d.R e b base ok v xs := Kd.R_step hr (fun k ho hk => h.block k hk (hok k ho))
/-- A row of whole numbers that is read, in a block that isn't turned. -/
protected theorem C {i : IntKind} {A : Option Addr} {n : Nat} {xs : List Int} (h : Touch S a b) (hc : (Kd.int i).C a A n xs) (hA : ∀ ad, A = some ad → ¬ S ad.block) : (Kd.int i).C b A n xs := by
  refine ⟨hc.1, hc.2.1, fun hn => ?_⟩
  obtain ⟨ad, he, hcs⟩ := hc.2.2 hn
  refine ⟨ad, he, fun j p hj => ?_⟩
  obtain ⟨cs, h1, h2, h3⟩ := hcs j p hj
  refine ⟨cs, h1, h2, fun m u hu => ?_⟩
  have h4 := h3 m u hu
  have hlt := World.block_lt_of_cell? a _ h4
  rw [World.cell?_of_block (w := a) (h.block _ hlt (by rw [add_block]; exact hA ad he))]
  exact h4
end
end Touch
/-- Where a row of the call's own lies. -/
theorem row_at {α : Type} {d : Kd α} {e base : Nat} {ok : Nat → Prop} {W : World} {A : Option Addr} {n c : Nat} {xs : List α} (h : d.R e W base ok (.slice A n c) xs) : (A = none ∧ n = 0 ∧ c = 0) ∨ ∃ g, A = some ⟨g, 0, none⟩ ∧ ok g ∧ base ≤ g := by
  obtain ⟨inner, ho⟩ := Kd.R_own h
  rcases ho.2 with ⟨he, _⟩ | ⟨g, cap, cur, he, hb, _⟩
  · injection he with h1 h2 h3; exact .inl ⟨h1, h2, h3⟩
  · injection he with h1 h2 h3; subst h1; exact .inr ⟨g, rfl, h.1 g rfl, hb⟩
/-- What a function that is handed in keeps in memory: in the blocks ok alone. -/
structure Cb (σ : Type) where
  Q : World → (Nat → Prop) → σ → Prop
  mono : ∀ {W ok ok' s}, Q W ok s → (∀ k, ok k → ok' k) → Q W ok' s
  bound : ∀ {W ok s}, Q W ok s → Q W (fun k => ok k ∧ k < W.heap.size) s
  move : ∀ {W W' ok s}, Q W ok s → (∀ k, ok k → W'.heap[k]? = W.heap[k]?) → Q W' ok s
theorem Cb.stay {σ : Type} (cb : Cb σ) {W W' : World} {ok : Nat → Prop} {s : σ} (h : cb.Q W ok s) (hm : ∀ k, ok k → k < W.heap.size → W'.heap[k]? = W.heap[k]?) : cb.Q W' ok s :=
  cb.mono (cb.move (cb.bound h) (fun k hk => hm k hk.1 hk.2)) (fun _ hk => hk.1)
theorem size_alloc (W : World) (o : Obj) : (W.alloc o).heap.size = W.heap.size + 1 := by show (W.heap.push o).size = _; rw [Array.size_push]
theorem alloc_at (W : World) (o : Obj) : (W.alloc o).heap[W.heap.size]? = some o := by show (W.heap.push o)[W.heap.size]? = _; rw [Array.getElem?_push, if_pos rfl]
theorem alloc_old {W : World} {g : Nat} {o : Obj} (h : W.heap[g]? = some o) (o' : Obj) : (W.alloc o').heap[g]? = some o := (Below.heap_alloc W o' g (blk_lt h)).trans h
/-- A literal's row, in whatever kind whose elements lead to nothing. -/
theorem lit_R {α : Type} (d : Kd α) (W : World) (e base : Nat) {xs : List α} {inner : List Value} (hrep : ∀ w b ok, Reps (d.M w b ok) d.sz xs inner) (hb : base ≤ W.heap.size) (hm : xs.length ≤ 1000000) : d.R e (W.alloc (.cells inner.toArray e)) base (fun _ => True) (.slice (some ⟨W.heap.size, 0, none⟩) xs.length xs.length) xs := by
  have hl : inner.length = xs.length * d.sz := (hrep W base (fun _ => True)).1
  refine ⟨fun _ _ => trivial, inner, ⟨hl, .inr ⟨W.heap.size, xs.length, inner.toArray, rfl, hb, alloc_at _ _, Nat.le_refl _, by unfold maxLen; omega, by simpa using hl, List.take_of_length_le (by simp [hl])⟩⟩, hrep _ _ _⟩
theorem wrap_id (a : Int) (h0 : -4000000000000 ≤ a) (h1 : a ≤ 4000000000000) : wrap64 a = a := by unfold wrap64; omega
/-- Rounds that may come to nothing. -/
def rdsO {σ : Type} (f : Int → σ → Option σ) : Nat → Int → σ → Option σ
  | 0, _, s => some s
  | m + 1, i, s => (f i s).bind fun s' => rdsO f m (i + 1) s'
/-- All ways, from the first stop on: bk the block of each place, many its sheaves. -/
def wyO {σ : Type} (leaf : List S53 → σ → Option σ) (has : List S53 → Int → Int → Option Bool) (bk : Nat → Int) (many : Int → Int) : Nat → List S53 → σ → Option σ
  | 0, way, s => leaf way s
  | m + 1, way, s => rdsO (fun k s => (has way (bk way.length) k).bind fun b => if b = true then some s else wyO leaf has bk many m (way ++ [⟨bk way.length, k⟩]) s) (many (bk way.length)).toNat 0 s
/-- One sheave's turn. -/
def stepO {σ : Type} (leaf : List S53 → σ → Option σ) (has : List S53 → Int → Int → Option Bool) (bk : Nat → Int) (many : Int → Int) (m : Nat) (way : List S53) (k : Int) (s : σ) : Option σ :=
  (has way (bk way.length) k).bind fun b => if b = true then some s else wyO leaf has bk many m (way ++ [⟨bk way.length, k⟩]) s
theorem wyO_step {σ : Type} (leaf : List S53 → σ → Option σ) (has : List S53 → Int → Int → Option Bool) (bk : Nat → Int) (many : Int → Int) (m : Nat) (way : List S53) (s : σ) :
    wyO leaf has bk many (m + 1) way s = rdsO (stepO leaf has bk many m way) (many (bk way.length)).toNat 0 s := rfl
/-- What a leaf does: c the crossings of a way. -/
def leafO (cnt : List S53 → Option Int) (n : Nat) (last : Int) (way : List S53) (s : List S53 × Int) : Option (List S53 × Int) :=
  (cnt way).bind fun c => some (if (rd_T53 way ((n : Int) - 1)).f1 = last ∧ (s.2 < 0 ∨ c < s.2) then (way, c) else s)
theorem kKM {w : World} {base : Nat} {ok : Nat → Prop} (x : S53) (cs : List Value) (h : k53.K w x cs) : k53.M w base ok x cs := by
  obtain rfl := k53_open h
  exact k53_mkM _ _ _ x
theorem rdsO_mono {σ : Type} {f g : Int → σ → Option σ} (h : ∀ i s, LeO (f i s) (g i s)) : ∀ m i s, LeO (rdsO f m i s) (rdsO g m i s)
  | 0, _, _ => LeO.refl _
  | m + 1, i, s => LeO.bind (h i s) (fun s' => rdsO_mono h m (i + 1) s')
theorem wyO_mono {σ : Type} {l l' : List S53 → σ → Option σ} {h h' : List S53 → Int → Int → Option Bool} {bk : Nat → Int} {mn : Int → Int} (hl : ∀ w s, LeO (l w s) (l' w s)) (hh : ∀ w b k, LeO (h w b k) (h' w b k)) : ∀ m way s, LeO (wyO l h bk mn m way s) (wyO l' h' bk mn m way s)
  | 0, way, s => hl way s
  | m + 1, way, s => rdsO_mono (fun i s => LeO.bind (hh _ _ _) (fun b => LeO.ite (LeO.refl _) (wyO_mono hl hh m _ s))) _ _ _
def okWay (F M : Int) : Prop := (0 ≤ F ∧ F ≤ 400) ∧ (0 ≤ M ∧ M ≤ 400) ∧ 1 ≤ F + M
instance (F M : Int) : Decidable (okWay F M) := by unfold okWay; infer_instance
def manyI (F M : Int) (b : Int) : Int := if b = 1 then M else F
theorem infoStopW : (Try.prog.info? 53).map (fun i => (i.zero, i.size, i.bytes)) = some (some (.agg #[.int .i64 0, .int .i64 0]), 2, 16) := by kernel_rfl
def leafS (cnt : List S53 → Option Int) (N : Nat) (last : Int) (way : List S53) (s : List S53 × Int) : Option (List S53 × Int) :=
  if (rd_T53 way ((N : Int) - 1)).f1 = last then (cnt way).bind fun c => some (if s.2 < 0 ∨ c < s.2 then (way, c) else s) else some s
/-- The reference's table of a search, at block g. -/
structure SW (w0 : World) (g : Nat) (F M : Int) (A : Bool) (last : Int) (way : List S53) (s : List S53 × Int) (vw vb : Value) (W : World) : Prop where
  tb : W.heap[g]? = some (.cells #[.int .i64 F, .int .i64 M, .bool A, .int .i64 last, vw, vb, .int .i64 s.2] 58 (0, 0))
  hg : w0.heap.size ≤ g
  rw : Kd.R k53 53 W w0.heap.size (fun _ => True) vw way
  rb : Kd.R k53 53 W w0.heap.size (fun k => some k ≠ vw.ownBlock) vb s.1
  bw : Below w0.heap.size w0 W
namespace SW
section
variable {w0 W w1 : World} {g : Nat} {F M : Int} {A : Bool} {last : Int} {way way1 : List S53} {s : List S53 × Int} {vw vb : Value}
protected theorem below (h : SW w0 g F M A last way s vw vb W) (hb : Below W.heap.size W w1) : SW w0 g F M A last way s vw vb w1 :=
  ⟨(hb.block g (blk_lt h.tb)).trans h.tb, h.hg, Kd.R_below h.rw hb, Kd.R_below h.rb hb, h.bw.trans (hb.mono h.bw.size)⟩
protected theorem drewN (h : SW w0 g F M A last way s vw vb W) (m : Nat) : SW w0 g F M A last way s vw vb (W.drewN m) := h.below (pw_below_drewN (Below.refl _ _) m)
protected theorem best (h : SW w0 g F M A last way s vw vb W) {vf : Value} (hf : Kd.R k53 53 W w0.heap.size (fun k => some k ≠ vw.ownBlock) vf way1) (c : Int) : SW w0 g F M A last way (way1, c) vw vf ((W.setCell ⟨g, 5, none⟩ vf).setCell ⟨g, 6, none⟩ (.int .i64 c)) := by
  have t1 : (W.setCell ⟨g, 5, none⟩ vf).heap[g]? = some (.cells #[.int .i64 F, .int .i64 M, .bool A, .int .i64 last, vw, vf, .int .i64 s.2] 58 (0, 0)) := by have := blk_set h.tb 5 vf; simpa using this
  refine ⟨by have := blk_set t1 6 (.int .i64 c); simpa using this, h.hg, ?_, ?_, below_set (below_set h.bw h.hg) h.hg⟩
  · exact Kd.R_set (Kd.R_set h.rw h.tb (by simp [k53, Kd.iso, Kd.pair, Kd.int, Kd.scalar]) 5 vf) t1 (by simp [k53, Kd.iso, Kd.pair, Kd.int, Kd.scalar]) 6 _
  · exact Kd.R_set (Kd.R_set hf h.tb (by simp [k53, Kd.iso, Kd.pair, Kd.int, Kd.scalar]) 5 vf) t1 (by simp [k53, Kd.iso, Kd.pair, Kd.int, Kd.scalar]) 6 _
/-- The way's own row turned. -/
protected theorem turn (h : SW w0 g F M A last way s vw vb W) {v1 : Value} (hw : Kd.R k53 53 W w0.heap.size (fun _ => True) v1 way1) (hb : Kd.R k53 53 W w0.heap.size (fun k => some k ≠ v1.ownBlock) vb s.1) : SW w0 g F M A last way1 s v1 vb (W.setCell ⟨g, 4, none⟩ v1) :=
  ⟨by have := blk_set h.tb 4 v1; simpa using this, h.hg, Kd.R_set hw h.tb (by simp [k53, Kd.iso, Kd.pair, Kd.int, Kd.scalar]) 4 v1, Kd.R_set hb h.tb (by simp [k53, Kd.iso, Kd.pair, Kd.int, Kd.scalar]) 4 v1, below_set h.bw h.hg⟩
protected theorem ne (h : SW w0 g F M A last way s vw vb W) : some g ≠ vw.ownBlock := fun e => Kd.R_ne h.rw h.tb (by simp [k53, Kd.iso, Kd.pair, Kd.int, Kd.scalar]) e
/-- The way's own row grown. -/
protected theorem push (h : SW w0 g F M A last way s vw vb W) {v1 : Value} (hr : Kd.R k53 53 w1 w0.heap.size (fun _ => True) v1 way1) (hb : Below w0.heap.size w0 w1) (hg : W.grownBy w1 vw.ownBlock) (hat : v1.ownBlock = vw.ownBlock ∨ ∃ b, v1.ownBlock = some b ∧ W.heap.size ≤ b) :
    w1.heap[g]? = some (.cells #[.int .i64 F, .int .i64 M, .bool A, .int .i64 last, vw, vb, .int .i64 s.2] 58 (0, 0)) ∧ SW w0 g F M A last way1 s v1 vb (w1.setCell ⟨g, 4, none⟩ v1) := by
  have t1 : w1.heap[g]? = some (.cells #[.int .i64 F, .int .i64 M, .bool A, .int .i64 last, vw, vb, .int .i64 s.2] 58 (0, 0)) := blk_grown h.tb hg h.ne
  have rb : Kd.R k53 53 w1 w0.heap.size (fun k => some k ≠ v1.ownBlock) vb s.1 := by
    refine Kd.R_mono (Kd.R_grown (Kd.R_bound h.rb) hg (fun k hk e => hk.1 (by first | exact e | exact e.symm))) (fun k hk e => ?_)
    rcases hat with ha | ⟨b, ha, hl⟩
    · exact hk.1 (e.trans ha)
    · have h1 := e.trans ha
      injection h1 with h1
      have := hk.2.2.1
      omega
  exact ⟨t1, by have := blk_set t1 4 v1; simpa using this, h.hg, Kd.R_set hr t1 (by simp [k53, Kd.iso, Kd.pair, Kd.int, Kd.scalar]) 4 v1, Kd.R_set rb t1 (by simp [k53, Kd.iso, Kd.pair, Kd.int, Kd.scalar]) 4 v1, below_set hb h.hg⟩
protected theorem cut {Aw : Option Addr} {n c m : Nat} (h : SW w0 g F M A last way s (.slice Aw n c) vb W) (hm : m ≤ way.length) : SW w0 g F M A last (way.take m) s (.slice Aw m c) vb (W.setCell ⟨g, 4, none⟩ (.slice Aw m c)) :=
  h.turn (Kd.R_take h.rw hm) (Kd.R_mono h.rb (fun k hk e => hk (by rw [e]; cases Aw <;> rfl)))
protected theorem at26 (h : SW w0 g F M A last way s vw vb W) : AtS26 W W ⟨g, 0, none⟩ F M A := by
  have h0 := blk_cell h.tb 0
  have h1 := blk_cell h.tb 1
  have h2 := blk_cell h.tb 2
  simp only [List.getElem?_toArray, List.getElem?_cons_zero, List.getElem?_cons_succ] at h0 h1 h2
  exact ⟨h0, h1, h2⟩
end
end SW
def PostS (w0 : World) (g : Nat) (F M : Int) (A : Bool) (last : Int) (way : List S53) (s : List S53 × Int) (e : Ending) (w' : World) : Prop :=
  e = .returned (.tuple #[]) ∧ ∃ vw vb, SW w0 g F M A last way s vw vb w'
section
variable {w0 W : World} {g : Nat} {F M : Int} {A : Bool} {last : Int} {N : Nat} {s s' : List S53 × Int} {vw vb : Value} {way : List S53} {K : Nat} {b : Int}
/-- The crossings of a way, as the reference counts them. -/
def cntS (K : Nat) (way : List S53) : Option Int := spec_l07Count.f K way false
set_option maxHeartbeats 8000000 in
set_option maxRecDepth 100000 in
theorem walk_leaf (h : SW w0 g F M A last way s vw vb W) (hlen : way.length = N) (hN : (0 < N ∧ N ≤ 1000) ∧ F + M = (N : Int)) (hs : leafS (cntS K) N last way s = some s') :
    Calls Try.prog 50 #[.pointer (some ⟨g, 0, none⟩), .int .i64 b] W (PostS w0 g F M A last way s' ) := by
  obtain ⟨s1, s2⟩ := s
  obtain ⟨Aw, cw, hvw⟩ := Kd.R_slice h.rw
  subst hvw
  have H0 := Aside0.mk (And.intro h (And.intro hlen (And.intro hN hs)))
  have f0 := blk_cell h.tb 0
  have f1 := blk_cell h.tb 1
  have f3 := blk_cell h.tb 3
  have f4 := blk_cell h.tb 4
  simp only [List.getElem?_toArray, List.getElem?_cons_zero, List.getElem?_cons_succ] at f0 f1 f3 f4
  have hw1 : wrap64 (F + M) = (N : Int) := (wrap_id _ (by omega) (by omega)).trans hN.2
  have hw2 : IntKind.i64.wrap (F + M) = (N : Int) := (i64_w _).trans hw1
  have ceq : ((way.length : Int) == (N : Int)) = true := by rw [hlen]; simp
  obtain ⟨ad, rfl, _, g1⟩ := at_T53 (Kd.R_reads' h.rw).2.2 ((way.length : Int) - 1) (by omega) (by omega)
  obtain ⟨y, hy⟩ : ∃ y, y = (rd_T53 way ((N : Int) - 1)).f1 := ⟨_, rfl⟩
  have HY := Aside0.mk hy
  rw [show (way.length : Int) - 1 = (N : Int) - 1 by omega, ← hy, show ((N : Int) - 1).toNat = N - 1 by omega] at g1
  have hwn : IntKind.i64.wrap ((way.length : Int) - 1) = (N : Int) - 1 := by rw [i64_w, hlen]; exact wrap_id _ (by omega) (by omega)
  have p1 : (0 ≤ (N : Int) - 1) = True := eq_true (by omega)
  have p1b : (1 ≤ (N : Int)) = True := eq_true (by omega)
  have p2 : ((N : Int) - 1 < (way.length : Int)) = True := eq_true (by omega)
  clear h hlen hN hs
  by_cases c1 : y = last
  · have b1 : (y != last) = false := by simp [c1]
    obtain ⟨c, hcn, hs⟩ := Option.bind_eq_some_iff.mp (show (cntS K way).bind (fun c => some (if s2 < 0 ∨ c < s2 then (way, c) else (s1, s2))) = some s' from by have h := H0.out.2.2.2; unfold leafS at h; rw [← HY.out, if_pos c1] at h; exact h)
    have HC := Aside0.mk hcn
    have HS := Aside0.mk (Option.some.inj hs)
    clear hcn hs
    have cases3 : s2 < 0 ∨ (¬ s2 < 0 ∧ c < s2) ∨ (¬ s2 < 0 ∧ ¬ c < s2) := by omega
    clear c1 hy
    rcases cases3 with c2 | ⟨c2, c3⟩ | ⟨c2, c3⟩
    all_goals
      first
        | (have c2b := decide_eq_true (show s2 < 0 from c2); have HSS := Aside0.mk (show (way, c) = s' from by have h := HS.out; rw [if_pos (.inl c2)] at h; exact h); clear c2)
        | (have c2b := decide_eq_false c2; have c3b := decide_eq_true (show c < s2 from c3); have HSS := Aside0.mk (show (way, c) = s' from by have h := HS.out; rw [if_pos (.inr c3)] at h; exact h); clear c2 c3)
        | (have c2b := decide_eq_false c2; have c3b := decide_eq_false c3; have HSS := Aside0.mk (show (s1, s2) = s' from by have h := HS.out; rw [if_neg (by omega)] at h; exact h); clear c2 c3)
      go_enter Try.func50, Try.ntmps50
      go_wp2_with (fail)
      go_quiet (fail)
      obtain ⟨n1, hn1⟩ : ∃ m : Nat, m = nq := ⟨_, rfl⟩
      rw [← hn1]
      clear hn1 nq
      go_wp2
      go_quiet (fail)
      obtain ⟨w2, HE⟩ : ∃ w2, Aside0 (w2 = (W.drewN n1).drewN nq) := ⟨_, ⟨rfl⟩⟩
      rw [← HE.out]
      have HI2 := Aside0.mk (show SW w0 g F M A last way (s1, s2) (.slice (some ad) way.length cw) vb w2 from by rw [HE.out]; exact (H0.out.1.drewN _).drewN _)
      clear HE f0 f1 f3 f4 g1
      have f4 := blk_cell HI2.out.tb 4
      simp only [List.getElem?_toArray, List.getElem?_cons_zero, List.getElem?_cons_succ] at f4
      go_wp2_with (first | (go_at_call 45; refine (spec_l07Count.calls K (some ad) cw way false c _ (Kd.R_reads' HI2.out.rw).2.2 (Kd.R_reads' HI2.out.rw).2.1 HC.out).mono ?_; rintro e w3 ⟨rfl, hb⟩; have HI3 := Aside0.mk (HI2.out.below hb); have f6 := blk_cell HI3.out.tb 6; have f4 := blk_cell HI3.out.tb 4; simp only [List.getElem?_toArray, List.getElem?_cons_zero, List.getElem?_cons_succ] at f4 f6; clear hb) | ((with_reducible refine gate_dst (N := 61) rfl ?_); refine Kd.R_lit k53 (w0 := w3) w3.heap.size 53 ?hg (N := 61) ?hd (xs := ([] : List S53)) (inner := []) (ok := fun _ => True) (okp := fun _ => True) ?hr ?hp (fun _ hk => hk) trivial (Below.refl _ _) (Nat.le_refl _) (by simp) ?_; (case hd => rfl); (case hg => rfl); (case hr => first | (go_simp; done) | (go_simp; rfl)); (case hp => exact (Reps.none _ _)); intro v61 w4 ho hb hg_ hnew_; have HV := Aside0.mk (And.intro ho hb); have f4 := blk_cell (HI3.out.below hb).tb 4; simp only [List.getElem?_toArray, List.getElem?_cons_zero, List.getElem?_cons_succ] at f4; clear hg_ hnew_ ho hb) | (at_builtin; refine Kd.R_append_rows k53 (w0 := w3) w3.heap.size rfl (.tmp 61) (.tmp 65) 29 53 (.agg #[(.int .i64 0), (.int .i64 0)]) 16 rfl Try.underlying29 infoStopW rfl (by decide) (by omega) v61 [] way _ _ _ (fun _ => True) (fun _ => False) rfl rfl ?aO ?aR (fun x cs h => kKM x cs h) (fun _ h => h.elim) ?aF ?aB ?aS ?aL ?_; (case aR => exact Kd.C_below (Kd.R_reads' HI3.out.rw).2.2 HV.out.2); (case aB => exact HV.out.2); (case aF => exact (fun _ _ => trivial)); (case aO => exact HV.out.1); (case aS => exact HV.out.2.size); (case aL => have := H0.out.2.2.1; have := H0.out.2.1; simp; omega); intro v66 w5 ho hb hg hat; obtain ⟨A66, c66, rfl⟩ := Kd.R_slice ho; have HZ := Aside0.mk (show SW w0 g F M A last way (way, c) (.slice (some ad) way.length cw) (.slice A66 way.length c66) ((w5.setCell ⟨g, 5, none⟩ (.slice A66 way.length c66)).setCell ⟨g, 6, none⟩ (.int .i64 c)) from (HI3.out.below hb).best (Kd.R_mono (Kd.R_lower (Kd.R_bound ho) HI3.out.bw.size) (fun k hk e => by have h1 := hk.2.1; have h2 := Kd.R_lt HI3.out.rw k e.symm; omega)) c); have q5 := blk_frozen (HI3.out.below hb).tb 5; have t1 : (w5.setCell ⟨g, 5, none⟩ (.slice A66 way.length c66)).heap[g]? = some (.cells #[.int .i64 F, .int .i64 M, .bool A, .int .i64 last, .slice (some ad) way.length cw, .slice A66 way.length c66, .int .i64 s2] 58 (0, 0)) := (by have := blk_set (HI3.out.below hb).tb 5 (.slice A66 way.length c66); simpa using this); have q5b := blk_cell (HI3.out.below hb).tb 5; have q6 := blk_cell t1 6; have z6 := blk_frozen t1 6; simp only [List.getElem?_toArray, List.getElem?_cons_zero, List.getElem?_cons_succ] at q5b q6; clear ho hb hg hat t1))
      (try simp only [Exit.inBlock, Exit.then]); refine bodyPost_ret (results_none rfl _ _ _) rfl ?_
      rw [← HSS.out]
      first
        | exact ⟨rfl, _, _, HZ.out⟩
        | exact ⟨rfl, _, _, HI3.out⟩
  · have b1 : (y != last) = true := by simp [c1]
    have HS := Aside0.mk (show (s1, s2) = s' from by have h := H0.out.2.2.2; unfold leafS at h; rw [← HY.out, if_neg c1] at h; exact Option.some.inj h)
    clear c1 hy
    go_enter Try.func50, Try.ntmps50
    go_wp2_with (fail)
    go_quiet (fail)
    go_wp2
    go_quiet (fail)
    go_wp2
    (try simp only [Exit.inBlock, Exit.then]); refine bodyPost_ret (results_none rfl _ _ _) rfl ?_
    rw [← HS.out]
    exact ⟨rfl, _, vb, (H0.out.1.drewN _).drewN _⟩
end
attribute [local go_sem high] eqA53
section
variable {w0 W : World} {g : Nat} {F M : Int} {A : Bool} {last : Int} {N m : Nat} {s s' : List S53 × Int} {vw vb : Value} {way : List S53} {b0 : Int} {leaf : List S53 → List S53 × Int → Option (List S53 × Int)}
def bkS (b0 : Int) : Nat → Int
  | 0 => b0
  | n + 1 => 1 - bkS b0 n
theorem bkS_two (h : b0 = 0 ∨ b0 = 1) : ∀ n, bkS b0 n = 0 ∨ bkS b0 n = 1
  | 0 => h
  | n + 1 => by have := bkS_two h n; show 1 - bkS b0 n = 0 ∨ 1 - bkS b0 n = 1; omega
def anyS (way : List S53) (b k : Int) : Nat → Int → Bool → Bool
  | 0, _, u => u
  | m + 1, j, u => anyS way b k m (j + 1) (u || ((rd_T53 way j).f0 == b && ((rd_T53 way j).f1 == k)))
theorem anyS_true (way : List S53) (b k : Int) : ∀ m j, anyS way b k m j true = true
  | 0, _ => rfl
  | m + 1, j => by rw [anyS, Bool.true_or]; exact anyS_true way b k m (j + 1)
def usedS (way : List S53) (b k : Int) : Bool := anyS way b k way.length 0 false
def hasS (way : List S53) (b k : Int) : Option Bool := some (usedS way b k)
theorem many_eq {b : Int} (F M : Int) (A : Bool) (h : b = 0 ∨ b = 1) : spec_l07Many_at.f F M A b = some (manyI F M b) := by
  rcases h with rfl | rfl <;> simp [spec_l07Many_at.f, spec_l07Many.f, manyI]
set_option maxHeartbeats 16000000 in
set_option maxRecDepth 100000 in
theorem walk_node (hF : (0 ≤ F ∧ F ≤ 1000) ∧ (0 ≤ M ∧ M ≤ 1000)) (hFM : F + M = (N : Int)) (hN : way.length < N ∧ N ≤ 1000) (hb0 : b0 = 0 ∨ b0 = 1)
    (ih : ∀ (W : World) (way' : List S53) (s s' : List S53 × Int) (vw vb : Value), SW w0 g F M A last way' s vw vb W → way'.length = way.length + 1 → wyO leaf hasS (bkS b0) (manyI F M) m way' s = some s' →
      Calls Try.prog 50 #[.pointer (some ⟨g, 0, none⟩), .int .i64 (bkS b0 way'.length)] W (PostS w0 g F M A last way' s'))
    (h : SW w0 g F M A last way s vw vb W) (hs : wyO leaf hasS (bkS b0) (manyI F M) (m + 1) way s = some s') :
    Calls Try.prog 50 #[.pointer (some ⟨g, 0, none⟩), .int .i64 (bkS b0 way.length)] W (PostS w0 g F M A last way s') := by
  rw [wyO_step] at hs
  obtain ⟨b, hb⟩ : ∃ b, b = bkS b0 way.length := ⟨_, rfl⟩
  obtain ⟨mn, hmn⟩ : ∃ mn, mn = manyI F M b := ⟨_, rfl⟩
  have hmr : 0 ≤ mn ∧ mn ≤ 1000 := by rw [hmn]; unfold manyI; split <;> omega
  have hb2 := bkS_two hb0 way.length
  rw [← hb] at hb2
  have hma : spec_l07Many_at.f F M A b = some mn := by rw [hmn]; exact many_eq F M A hb2
  rw [← hb, ← hmn] at hs
  rw [← hb]
  obtain ⟨Aw, cw, hvw⟩ := Kd.R_slice h.rw
  subst hvw
  have H0 := Aside0.mk (And.intro hN (And.intro h (And.intro hs (And.intro hma (And.intro hmr (And.intro hb hb2))))))
  have HIH := Aside0.mk ih
  have f0 := blk_cell h.tb 0
  have f1 := blk_cell h.tb 1
  have f4 := blk_cell h.tb 4
  simp only [List.getElem?_toArray, List.getElem?_cons_zero, List.getElem?_cons_succ] at f0 f1 f4
  have hw1 : wrap64 (F + M) = (N : Int) := (wrap_id _ (by omega) (by omega)).trans hFM
  have hw2 : IntKind.i64.wrap (F + M) = (N : Int) := (i64_w _).trans hw1
  have ceq : ((way.length : Int) == (N : Int)) = false := by simp; omega
  clear h hs hb hmn hma hmr hb2 hN ih hF hFM hb0
  go_enter Try.func50, Try.ntmps50
  go_wp2_with (fail)
  go_quiet (fail)
  go_wp2
  have HIq := Aside0.mk (H0.out.2.1.drewN nq)
  clear f0 f1 f4 hw1 hw2 ceq
  go_loopg [6] (mn.toNat + 1) (fun kq v6 w' => ∃ (i : Int), v6 = .int .i64 i ∧ Aside0 (0 ≤ i ∧ i + kq = mn + 1 ∧ 1 ≤ kq) ∧ ∃ (vw1 vb1 : Value) (s1 : List S53 × Int), Aside0 (SW w0 g F M A last way s1 vw1 vb1 w') ∧ Aside0 (rdsO (stepO leaf hasS (bkS b0) (manyI F M) m way) (kq - 1) i s1 = some s'))
  case atStart => exact ⟨0, rfl, ⟨by omega, by have := H0.out.2.2.2.2.1; omega, by omega⟩, _, _, s, HIq, ⟨H0.out.2.2.1⟩⟩
  case round =>
    obtain ⟨i, rfl, HA, vw1, vb1, s1, HJ, HS⟩ := hrel
    obtain ⟨k0, kk, k1⟩ := HA.out
    obtain ⟨gq, rfl⟩ : ∃ m, gk = m + 1 := ⟨gk - 1, by omega⟩
    have HK := Aside0.mk (And.intro k0 kk)
    clear HA k0 kk k1
    obtain ⟨A1, c1, hv1⟩ := Kd.R_slice HJ.out.rw
    subst hv1
    by_cases c2 : i < mn
    · have c2b := decide_eq_true c2
      have C2 := Aside0.mk c2
      clear c2
      obtain ⟨gr, rfl⟩ : ∃ m, gq = m + 1 := ⟨gq - 1, by have := C2.out; have := HK.out; omega⟩
      obtain ⟨s2, hs2, hs3⟩ := Option.bind_eq_some_iff.mp (show (stepO leaf hasS (bkS b0) (manyI F M) m way i s1).bind (fun s' => rdsO (stepO leaf hasS (bkS b0) (manyI F M) m way) gr (i + 1) s') = some s' from HS.out)
      have hs4 : (if usedS way b i = true then some s1 else wyO leaf hasS (bkS b0) (manyI F M) m (way ++ [⟨b, i⟩]) s1) = some s2 := by
        unfold stepO hasS at hs2
        rw [← H0.out.2.2.2.2.2.1] at hs2
        exact hs2
      have HX := Aside0.mk (And.intro hs3 hs4)
      clear hs2 hs3 hs4
      go_wp2_with (go_at_call 49; refine (spec_l07Many_at.calls ⟨g, 0, none⟩ F M A b mn _ HJ.out.at26 H0.out.2.2.2.1).mono ?_; rintro e w2 ⟨rfl, hb2⟩; have HB2 := Aside0.mk hb2; clear hb2)
      obtain ⟨gt, HGT⟩ : ∃ g, Aside0 (g = w2.heap.size) := ⟨_, ⟨rfl⟩⟩
      rw [← HGT.out]
      obtain ⟨w3, HW⟩ : ∃ w3, Aside0 (w3 = w2.alloc (.cells #[.int .i64 b, .int .i64 i] 53)) := ⟨_, ⟨rfl⟩⟩
      rw [← HW.out]
      have HJ3 := Aside0.mk (show SW w0 g F M A last way s1 (.slice A1 way.length c1) vb1 w3 ∧ w3.heap[gt]? = some (.cells #[.int .i64 b, .int .i64 i] 53 (0, 0)) from by
        rw [HW.out, HGT.out]
        exact ⟨(HJ.out.below HB2.out).below (below_alloc (Below.refl _ _) _), alloc_at _ _⟩)
      clear HW HGT HJ HB2
      go_loopg [8, 9] (way.length + 1) (fun kq v8 v9 w' => ∃ (u : Bool) (j : Int), v8 = .bool u ∧ v9 = .int .i64 j ∧ Aside0 (0 ≤ j ∧ j + kq = way.length + 1 ∧ 1 ≤ kq) ∧ Aside0 (Drawn0 w3 w') ∧ Aside0 (anyS way b i (kq - 1) j u = usedS way b i))
      case atStart => exact ⟨false, 0, rfl, rfl, ⟨by omega, by omega, by omega⟩, ⟨Drawn0.refl _⟩, ⟨rfl⟩⟩
      case round =>
        obtain ⟨u, j, rfl, rfl, HA, HD, HU⟩ := hrel
        obtain ⟨k0, kk, k1⟩ := HA.out
        obtain ⟨gq2, rfl⟩ : ∃ m, gk = m + 1 := ⟨gk - 1, by omega⟩
        have HK2 := Aside0.mk (And.intro k0 kk)
        clear HA k0 kk k1
        obtain ⟨nd, rfl⟩ := HD.out
        have HI3 := Aside0.mk (HJ3.out.1.drewN nd)
        have f4 := blk_cell HJ3.out.1.tb 4
        have t0 := blk_cell HJ3.out.2 0
        have t1 := blk_cell HJ3.out.2 1
        simp only [List.getElem?_toArray, List.getElem?_cons_zero, List.getElem?_cons_succ] at f4 t0 t1
        by_cases c3 : j < (way.length : Int)
        · have c3b := decide_eq_true c3
          obtain ⟨ad, rfl, g0, g1⟩ := at_T53 (Kd.R_reads' HJ3.out.1.rw).2.2 j HK2.out.1 c3
          obtain ⟨y0, hy0⟩ : ∃ y, y = (rd_T53 way j).f0 := ⟨_, rfl⟩
          obtain ⟨y1, hy1⟩ : ∃ y, y = (rd_T53 way j).f1 := ⟨_, rfl⟩
          rw [← hy0] at g0
          rw [← hy1] at g1
          obtain ⟨q, hq⟩ : ∃ q, q = (y0 == b && (y1 == i)) := ⟨_, rfl⟩
          have HQ := Aside0.mk (show q = ((rd_T53 way j).f0 == b && ((rd_T53 way j).f1 == i)) from by rw [hq, hy0, hy1])
          have p2 := eq_true HK2.out.1
          have p3 := eq_true c3
          have C3 := Aside0.mk c3
          have hwj := wrap_id (j + 1) (by have := HK2.out; omega) (by have := HK2.out; have := H0.out.1; omega)
          have HWJ := Aside0.mk hwj
          obtain ⟨gr2, rfl⟩ : ∃ m, gq2 = m + 1 := ⟨gq2 - 1, by have := C3.out; have := HK2.out; omega⟩
          clear hy0 hy1 c3 hwj
          cases u with
          | true =>
            go_wp2
            go_quiet (fail)
            go_wp2
            go_roundg (gr2 + 1)
            case measure => omega
            case rel =>
              refine ⟨true, j + 1, rfl, by rw [HWJ.out], ⟨by have := HK2.out; omega, by have := HK2.out; omega, by omega⟩, ⟨by repeat (first | exact Drawn0.refl _ | apply Drawn0.step)⟩, ⟨?_⟩⟩
              rw [← HU.out]
              show anyS way b i gr2 (j + 1) true = anyS way b i (gr2 + 1) j true
              rw [anyS, Bool.true_or]
          | false =>
            go_wp2
            go_quiet (fail)
            go_wp2
            rw [← hq]
            go_roundg (gr2 + 1)
            case measure => omega
            case rel =>
              refine ⟨q, j + 1, rfl, by rw [HWJ.out], ⟨by have := HK2.out; omega, by have := HK2.out; omega, by omega⟩, ⟨by repeat (first | exact Drawn0.refl _ | apply Drawn0.step)⟩, ⟨?_⟩⟩
              rw [← HU.out]
              show anyS way b i gr2 (j + 1) q = anyS way b i (gr2 + 1) j false
              rw [anyS, Bool.false_or, ← HQ.out]
        · have c3b := decide_eq_false c3
          have hu : u = usedS way b i := by
            have e : gq2 = 0 := by have := HK2.out; omega
            have h := HU.out
            rw [e] at h
            exact h
          have HUU := Aside0.mk hu
          clear hu c3 HU HK2
          cases u with
          | true =>
            go_wp2
            go_roundg (gr + 1)
            case measure => omega
            case rel =>
              have hw := wrap_id (i + 1) (by have := HK.out; omega) (by have := HK.out; have := H0.out.2.2.2.2.1; omega)
              have e : s1 = s2 := by have h := HX.out.2; rw [← HUU.out, if_pos rfl] at h; exact Option.some.inj h
              refine ⟨i + 1, by rw [hw], ⟨by have := HK.out; omega, by have := HK.out; omega, by have := C2.out; have := HK.out; omega⟩, _, vb1, s1, HI3, ⟨?_⟩⟩
              rw [e]; exact HX.out.1
          | false =>
            have hs4 : wyO leaf hasS (bkS b0) (manyI F M) m (way ++ [⟨b, i⟩]) s1 = some s2 := by have h := HX.out.2; rw [← HUU.out, if_neg (by simp)] at h; exact h
            have HXX := Aside0.mk hs4
            clear hs4
            go_upto_region 17 with (fail)
            have HSF := Aside0.mk (show ∀ w', Below w3.heap.size w3 w' → (w'.cell? ⟨g, 4, none⟩ = some (.slice A1 way.length c1) ∧ w'.cell? ⟨gt, 0, none⟩ = some (.int .i64 b) ∧ w'.cell? ⟨gt, 1, none⟩ = some (.int .i64 i)) from by
              intro w' hb
              have h4 := blk_cell (HJ3.out.1.below hb).tb 4
              have ht := (hb.block gt (blk_lt HJ3.out.2)).trans HJ3.out.2
              have h0 := blk_cell ht 0
              have h1 := blk_cell ht 1
              simp only [List.getElem?_toArray, List.getElem?_cons_zero, List.getElem?_cons_succ] at h4 h0 h1
              exact ⟨h4, h0, h1⟩)
            clear f4 t0 t1
            refine start_ (n := 11) (S := fun w' => w'.cell? ⟨g, 4, none⟩ = some (.slice A1 way.length c1) ∧ w'.cell? ⟨gt, 0, none⟩ = some (.int .i64 b) ∧ w'.cell? ⟨gt, 1, none⟩ = some (.int .i64 i)) (ds := [7, 10]) #[false, false, false, false, false, false, false, false, false, false, false] (by kernel_rfl) rfl rfl (HSF.out _ (below_drew (pw_below_drewN (Below.refl _ _) nd))) (fun hHeld => ?_)
            obtain ⟨w4, HE⟩ : ∃ w4, Aside0 (w4 = (w3.drewN nd).drew) := ⟨_, ⟨rfl⟩⟩
            rw [← HE.out]
            rw [← HE.out] at hHeld
            have HB4 := Aside0.mk (show Below w3.heap.size w3 w4 from HE.out ▸ below_drew (pw_below_drewN (Below.refl _ _) nd))
            have HJ4 := Aside0.mk (HJ3.out.1.below HB4.out)
            clear HE
            refine pure_ (i := 0) (N := some 103) (v := ?_) (a' := ?_) #[true, false, false, false, false, false, false, false, false, false, false] rfl rfl (by kernel_rfl) (fun _ _ _ h => h) (Or.inl ⟨by rfl, ?_⟩) ?_ ?_
            rotate_left
            · intro w'
              go_simp
              with_reducible rfl
            rotate_left
            · simp only [Act.put, List.setIfInBounds_toArray, List.set_cons_zero, List.set_cons_succ, i64_w, i32_w]
              rfl
            refine pure_ (i := 1) (N := some 104) (v := ?_) (a' := ?_) #[true, true, false, false, false, false, false, false, false, false, false] rfl rfl (by kernel_rfl) (fun _ _ _ h => h) (Or.inl ⟨by rfl, ?_⟩) ?_ ?_
            rotate_left
            · intro w'
              go_simp
              with_reducible rfl
            rotate_left
            · simp only [Act.put, List.setIfInBounds_toArray, List.set_cons_zero, List.set_cons_succ, i64_w, i32_w]
              rfl
            refine pure_ (i := 2) (N := some 105) (v := ?_) (a' := ?_) #[true, true, true, false, false, false, false, false, false, false, false] rfl rfl (by kernel_rfl) (fun _ _ _ h => h) (Or.inl ⟨by rfl, ?_⟩) ?_ ?_
            rotate_left
            · intro w'
              go_simp
              with_reducible rfl
            rotate_left
            · simp only [Act.put, List.setIfInBounds_toArray, List.set_cons_zero, List.set_cons_succ, i64_w, i32_w]
              rfl
            refine pure_ (i := 3) (N := some 106) (v := ?_) (a' := ?_) #[true, true, true, true, false, false, false, false, false, false, false] rfl rfl (by kernel_rfl) (fun _ _ _ h => h) (Or.inl ⟨by rfl, ?_⟩) ?_ ?_
            rotate_left
            · intro w'
              go_simp
              with_reducible rfl
            rotate_left
            · simp only [Act.put, List.setIfInBounds_toArray, List.set_cons_zero, List.set_cons_succ, i64_w, i32_w]
              rfl
            refine take_ (i := 4) (N := some 107) (v := ?_) (a' := ?_) #[true, true, true, true, true, false, false, false, false, false, false] rfl rfl (by kernel_rfl) (fun _ _ _ h => h) (Or.inl ⟨by rfl, ?_⟩) hHeld ?_ ?_
            rotate_left
            · rintro w' ⟨s0, s1, s2⟩
              go_simp
              with_reducible rfl
            rotate_left
            · simp only [Act.put, List.setIfInBounds_toArray, List.set_cons_zero, List.set_cons_succ, i64_w, i32_w]
              rfl
            refine take_ (i := 5) (N := some 108) (v := ?_) (a' := ?_) #[true, true, true, true, true, true, false, false, false, false, false] rfl rfl (by kernel_rfl) (fun _ _ _ h => h) (Or.inl ⟨by rfl, ?_⟩) hHeld ?_ ?_
            rotate_left
            · rintro w' ⟨s0, s1, s2⟩
              go_simp
              with_reducible rfl
            rotate_left
            · simp only [Act.put, List.setIfInBounds_toArray, List.set_cons_zero, List.set_cons_succ, i64_w, i32_w]
              rfl
            refine one_ (i := 6) (N := some 109) #[true, true, true, true, true, true, true, false, false, false, false] rfl rfl (by kernel_rfl) (by decide) (fun K hK => ?_)
            refine value_ (w1 := ?_) (v := ?_) (by rfl) rfl ?_ ?_
            rotate_left 2
            · go_simp
              constructor
              · rfl
              · rfl
            refine hK.out _ _ (HSF.out _ (below_alloc HB4.out (.cells #[.int .i64 b, .int .i64 i] 53))) (fun hHeld => ?_)
            clear hK K
            refine norm_ (a' := ?_) ?_ ?_
            rotate_left
            · show Act.put _ (some 109) _ = _
              simp only [Act.put, List.setIfInBounds_toArray, List.set_cons_zero, List.set_cons_succ, i64_w, i32_w]
              rfl
            refine last_ (i := 7) (N := some 110) #[true, true, true, true, true, true, true, true, false, false, false] rfl rfl (by kernel_rfl) (by decide) (fun K hK => ?_)
            refine Kd.R_append_step k53 (w0 := w0) w0.heap.size (by rfl) (.tmp 107) (.tmp 109) 29 53 (.agg #[(.int .i64 0), (.int .i64 0)]) 16 rfl Try.underlying29 infoStopW rfl (by decide) (by omega) (.slice A1 way.length c1) way (⟨b, i⟩ : S53) [.int .i64 b, .int .i64 i] (fun _ => True) (fun _ => False) rfl (by first | rfl | (go_simp; done)) ?aP (fun _ hk => hk.elim) (fun _ _ => trivial) ?aO ?aB ?aS ?aL ?_
            (case aP => exact k53_mkM _ _ _ (⟨b, i⟩ : S53))
            (case aO => exact HJ4.out.rw)
            (case aB => exact HJ4.out.bw)
            (case aS => exact HJ4.out.bw.size)
            (case aL => have := H0.out.1; omega)
            intro v110 w5 ho hb hg hat
            obtain ⟨A5, c5, hv5⟩ := Kd.R_slice ho
            simp only [List.length_append, List.length_cons, List.length_nil, Nat.zero_add] at hv5
            subst hv5
            have HP := Aside0.mk (HJ4.out.push ho hb hg hat)
            clear ho hb hg hat hHeld
            refine hK.out _ _ ?_
            clear hK K
            refine norm_ (a' := ?_) ?_ ?_
            rotate_left
            · show Act.put _ (some 110) _ = _
              simp only [Act.put, List.setIfInBounds_toArray, List.set_cons_zero, List.set_cons_succ, i64_w, i32_w]
              rfl
            refine pure_ (i := 8) (N := some 111) (v := ?_) (a' := ?_) #[true, true, true, true, true, true, true, true, true, false, false] rfl rfl (by kernel_rfl) (fun _ _ _ h => h) (Or.inl ⟨by rfl, ?_⟩) ?_ ?_
            rotate_left
            · intro w'
              go_simp
              with_reducible rfl
            rotate_left
            · simp only [Act.put, List.setIfInBounds_toArray, List.set_cons_zero, List.set_cons_succ, i64_w, i32_w]
              rfl
            refine pure_ (i := 9) (N := some 112) (v := ?_) (a' := ?_) #[true, true, true, true, true, true, true, true, true, true, false] rfl rfl (by kernel_rfl) (fun _ _ _ h => h) (Or.inl ⟨by rfl, ?_⟩) ?_ ?_
            rotate_left
            · intro w'
              go_simp
              with_reducible rfl
            rotate_left
            · simp only [Act.put, List.setIfInBounds_toArray, List.set_cons_zero, List.set_cons_succ, i64_w, i32_w]
              rfl
            have f4 := blk_cell HP.out.1 4
            have z4 := blk_frozen HP.out.1 4
            simp only [List.getElem?_toArray, List.getElem?_cons_zero, List.getElem?_cons_succ] at f4
            refine last_ (i := 10) (N := none) #[true, true, true, true, true, true, true, true, true, true, true] rfl rfl (by kernel_rfl) (by decide) (fun K hK => ?_)
            refine skip_ (w1 := ?_) (by rfl) rfl ?_ ?_
            rotate_left
            · go_simp
              rfl
            refine hK.out _ _ ?_
            clear hK K
            refine done_ (by kernel_rfl) ?_
            obtain ⟨w6, HW⟩ : ∃ w6, Aside0 (w6 = w5.setCell ⟨g, 4, none⟩ (.slice A5 (way.length + 1) c5)) := ⟨_, ⟨rfl⟩⟩
            rw [← HW.out]
            have HJ6 := Aside0.mk (show SW w0 g F M A last (way ++ [(⟨b, i⟩ : S53)]) s1 (.slice A5 (way.length + 1) c5) vb1 w6 from HW.out ▸ HP.out.2)
            clear HW HP f4 z4
            have e1 : (way ++ [(⟨b, i⟩ : S53)]).length = way.length + 1 := by simp
            have e2 : bkS b0 (way ++ [(⟨b, i⟩ : S53)]).length = 1 - b := by rw [e1, H0.out.2.2.2.2.2.1]; rfl
            have hcall := HIH.out w6 _ s1 s2 _ vb1 HJ6.out e1 HXX.out
            rw [e2] at hcall
            have HCALL := Aside0.mk hcall
            have hwb : wrap64 (1 - b) = 1 - b := wrap_id _ (by have := H0.out.2.2.2.2.2.2; omega) (by have := H0.out.2.2.2.2.2.2; omega)
            clear hcall e2
            go_wp2_with (fail)
            refine HCALL.out.mono ?_
            rintro e w7 ⟨rfl, vw7, vb7, hJ7⟩
            obtain ⟨A7, c7, hv7⟩ := Kd.R_slice hJ7.rw
            rw [e1] at hv7
            subst hv7
            have HJ7 := Aside0.mk hJ7
            clear hJ7 HJ6
            have f4 := blk_cell HJ7.out.tb 4
            have z4 := blk_frozen HJ7.out.tb 4
            simp only [List.getElem?_toArray, List.getElem?_cons_zero, List.getElem?_cons_succ] at f4
            obtain ⟨ti, hti, _, htz, _⟩ := info_parts infoStopW
            have hle := (Kd.R_reads' HJ7.out.rw).2.1
            have hcut := cut_to (P := Try.prog) 29 53 .i64 Try.underlying29 hti A7 (way.length + 1) c7 (way.length : Int) (by omega) (by omega) hle
            simp only [Int.toNat_natCast] at hcut
            clear hle htz hti
            go_wp2
            have HJ8 := Aside0.mk (show SW w0 g F M A last way s2 (.slice A7 way.length c7) vb7 (w7.setCell ⟨g, 4, none⟩ (.slice A7 way.length c7)) from by
              have h := HJ7.out.cut (m := way.length) (by omega)
              rw [List.take_left] at h
              exact h)
            clear f4 z4 hcut
            go_roundg (gr + 1)
            case measure => omega
            case rel =>
              have hw := wrap_id (i + 1) (by have := HK.out; omega) (by have := HK.out; have := H0.out.2.2.2.2.1; omega)
              exact ⟨i + 1, by rw [hw], ⟨by have := HK.out; omega, by have := HK.out; omega, by have := C2.out; have := HK.out; omega⟩, _, vb7, s2, HJ8, ⟨HX.out.1⟩⟩
    · have c2b := decide_eq_false c2
      have C2 := Aside0.mk c2
      clear c2
      go_wp2_with (go_at_call 49; refine (spec_l07Many_at.calls ⟨g, 0, none⟩ F M A b mn _ HJ.out.at26 H0.out.2.2.2.1).mono ?_; rintro e w2 ⟨rfl, hb2⟩; have HB2 := Aside0.mk hb2; clear hb2)
      go_end0
      obtain rfl : gq = 0 := by have := C2.out; have := HK.out; omega
      have hs : s1 = s' := Option.some.inj HS.out
      subst hs
      exact ⟨rfl, _, vb1, HJ.out.below HB2.out⟩
end
section
variable {w0 : World} {g : Nat} {F M : Int} {A : Bool} {last : Int} {N K : Nat} {b0 : Int}
theorem walk_calls (hF : (0 ≤ F ∧ F ≤ 1000) ∧ (0 ≤ M ∧ M ≤ 1000)) (hFM : F + M = (N : Int)) (hN : 0 < N ∧ N ≤ 1000) (hb0 : b0 = 0 ∨ b0 = 1) : ∀ (m : Nat) (W : World) (way : List S53) (s s' : List S53 × Int) (vw vb : Value), way.length + m = N → SW w0 g F M A last way s vw vb W → wyO (leafS (cntS K) N last) hasS (bkS b0) (manyI F M) m way s = some s' →
      Calls Try.prog 50 #[.pointer (some ⟨g, 0, none⟩), .int .i64 (bkS b0 way.length)] W (PostS w0 g F M A last way s') := by
  intro m
  induction m with
  | zero => intro W way s s' vw vb hl h hs; exact walk_leaf h (by omega) ⟨hN, hFM⟩ hs
  | succ m ih =>
    intro W way s s' vw vb hl h hs
    exact walk_node hF hFM ⟨by omega, hN.2⟩ hb0 (fun W' way' s1 s2 vw' vb' h' hl' hs' => ih W' way' s1 s2 vw' vb' (by omega) h' hs') h hs
end
def endS (A : Bool) : Int := if A = true then 1 else 0
def firstS (F M : Int) (A : Bool) : Int := if Int.tmod (F + M) 2 = 1 then endS A else 1 - endS A
theorem first_eq {F M : Int} (A : Bool) (h : okWay F M) : spec_l07First.f F M A = some (firstS F M A, F, M, A) := by
  unfold okWay at h
  unfold spec_l07First.f firstS endS
  rw [wrap_id (F + M) (by omega) (by omega)]
  cases A <;> simp <;> split <;> rfl
theorem firstS_two (F M : Int) (A : Bool) : firstS F M A = 0 ∨ firstS F M A = 1 := by unfold firstS endS; cases A <;> simp <;> omega
theorem wyO_mono2 {σ : Type} {l l' : List S53 → σ → Option σ} {h : List S53 → Int → Int → Option Bool} {bk : Nat → Int} {mn : Int → Int} (hl : ∀ w s, LeO (l w s) (l' w s)) : ∀ m way s, LeO (wyO l h bk mn m way s) (wyO l' h bk mn m way s) :=
  wyO_mono hl (fun _ _ _ => LeO.refl _)
theorem leafS_mono (k N : Nat) (last : Int) (way : List S53) (s : List S53 × Int) : LeO (leafS (cntS k) N last way s) (leafS (cntS (k + 1)) N last way s) := LeO.ite (LeO.bind (spec_l07Count.mono way false k) (fun _ => LeO.refl _)) (LeO.refl _)
def spec_l07Best.f (k : Nat) (F M : Int) (A : Bool) (last : Int) : Option (List S53 × Int × Int) :=
  (spec_l05One_at.f k F M A).bind fun v => if v = true then (if okWay F M then (if 0 ≤ last ∧ last ≤ manyI F M (endS A) - 1 then ((wyO (leafS (cntS k) (F + M).toNat last) hasS (bkS (firstS F M A)) (manyI F M) (F + M).toNat [] ([], -1)).bind fun s => some (s.1, s.2, 0)) else some ([], -1, 2)) else none) else some ([], -1, 1)
theorem spec_l07Best.mono : ∀ a0 a1 a2 a3 k, LeO (spec_l07Best.f k a0 a1 a2 a3) (spec_l07Best.f (k + 1) a0 a1 a2 a3) := by
  intro a0 a1 a2 a3 k
  refine LeO.bind (spec_l05One_at.mono a0 a1 a2 k) (fun _ => LeO.ite (LeO.ite (LeO.ite (LeO.bind ?_ (fun _ => LeO.refl _)) (LeO.refl _)) (LeO.refl _)) (LeO.refl _))
  exact wyO_mono2 (fun w s => leafS_mono k _ _ w s) _ _ _
theorem below_of_keep {w0 w w' : World} {g : Nat} {F M : Int} {A : Bool} (hI : IsS26 w0 w g F M A) (hI' : IsS26 w0 w' g F M A) (hb : Below w0.heap.size w0 w) (hb' : Below w0.heap.size w0 w') (hk : KeepBut w w' g none) : Below w.heap.size w w' :=
  ⟨hb'.os.trans hb.os.symm, hb'.tape.trans hb.tape.symm, hb'.output.trans hb.output.symm, hk.1, fun k hlt => if e : k = g then by rw [e]; exact hI'.1.trans hI.1.symm else hk.2 k hlt e (by simp)⟩
set_option maxHeartbeats 16000000 in
set_option maxRecDepth 100000 in
theorem spec_l07Best.calls (k : Nat) (F M : Int) (A : Bool) (last : Int) (r1 : List S53) (r2 r3 : Int) (w0 w : World) (hb0 : Below w0.heap.size w0 w) (h : spec_l07Best.f k F M A last = some (r1, r2, r3)) :
    Calls Try.prog 31 #[.agg #[.int .i64 F, .int .i64 M, .bool A], .int .i64 last] w fun e w' => ∃ (g : Nat) (way : List S53) (vw vb : Value), e = .returned (.tuple #[.pointer (some ⟨g, 0, none⟩), .int .i64 r3]) ∧ SW w0 g F M A last way (r1, r2) vw vb w' := by
  obtain ⟨v, hv, h⟩ := Option.bind_eq_some_iff.mp h
  have H0 := Aside0.mk (And.intro hv (And.intro h hb0))
  clear hv h hb0
  go_enter Try.func31, Try.ntmps31
  go_upto_region 2 with (fail)
  obtain ⟨gp, HGP⟩ : ∃ g, Aside0 (g = w.heap.size) := ⟨_, ⟨rfl⟩⟩
  obtain ⟨g1, HG1⟩ : ∃ g, Aside0 (g = w.heap.size + 1) := ⟨_, ⟨rfl⟩⟩
  obtain ⟨g2, HG2⟩ : ∃ g, Aside0 (g = w.heap.size + 1 + 1) := ⟨_, ⟨rfl⟩⟩
  obtain ⟨g, HG3⟩ : ∃ g, Aside0 (g = w.heap.size + 1 + 1 + 1) := ⟨_, ⟨rfl⟩⟩
  rw [← HG3.out, ← HG2.out, ← HG1.out, ← HGP.out]
  obtain ⟨w1, HW⟩ : ∃ w1, Aside0 (w1 = (((w.alloc (.cells #[.int .i64 F, .int .i64 M, .bool A] 26)).alloc (.cells #[] 53)).alloc (.cells #[] 53)).alloc (.cells #[.int .i64 F, .int .i64 M, .bool A, .int .i64 last, .slice (some ⟨g1, 0, none⟩) 0 0, .slice (some ⟨g2, 0, none⟩) 0 0, .int .i64 (-1)] 58)) := ⟨_, ⟨rfl⟩⟩
  rw [← HW.out]
  have HS := Aside0.mk (show SW w0 g F M A last [] ([], -1) (.slice (some ⟨g1, 0, none⟩) 0 0) (.slice (some ⟨g2, 0, none⟩) 0 0) w1 ∧ w1.heap[gp]? = some (.cells #[.int .i64 F, .int .i64 M, .bool A] 26 (0, 0)) ∧ gp ≠ g ∧ gp ≠ g1 ∧ gp ≠ g2 ∧ w0.heap.size ≤ gp from by
    have e1 := HG1.out
    have e2 := HG2.out
    have e3 := HG3.out
    have e0 := HGP.out
    have hs := H0.out.2.2.size
    have a0 := alloc_at w (.cells #[.int .i64 F, .int .i64 M, .bool A] 26)
    have a3 := alloc_at (((w.alloc (.cells #[.int .i64 F, .int .i64 M, .bool A] 26)).alloc (.cells #[] 53)).alloc (.cells #[] 53)) (.cells #[.int .i64 F, .int .i64 M, .bool A, .int .i64 last, .slice (some ⟨g1, 0, none⟩) 0 0, .slice (some ⟨g2, 0, none⟩) 0 0, .int .i64 (-1)] 58)
    simp only [size_alloc, ← e3] at a3
    have r1 := lit_R k53 (w.alloc (.cells #[.int .i64 F, .int .i64 M, .bool A] 26)) 53 w0.heap.size (xs := []) (inner := []) (fun _ _ _ => Reps.none _ _) (by rw [size_alloc]; omega) (by simp)
    have r2 := lit_R k53 ((w.alloc (.cells #[.int .i64 F, .int .i64 M, .bool A] 26)).alloc (.cells #[] 53)) 53 w0.heap.size (xs := []) (inner := []) (fun _ _ _ => Reps.none _ _) (by simp only [size_alloc]; omega) (by simp)
    simp only [size_alloc, ← e1] at r1
    simp only [size_alloc, ← e2] at r2
    refine ⟨⟨HW.out ▸ a3, by omega, HW.out ▸ Kd.R_alloc (Kd.R_alloc r1 _) _, HW.out ▸ Kd.R_alloc (Kd.R_mono (Kd.R_tight rfl r2) (fun k hk e => ?_)) _, HW.out ▸ below_alloc (below_alloc (below_alloc (below_alloc H0.out.2.2 _) _) _) _⟩, ?_, by omega, by omega, by omega, by omega⟩
    · have h1 : some k = some g1 := e
      have h2 : some k = some g2 := hk
      injection h1 with h1
      injection h2 with h2
      omega
    · rw [HW.out, e0]; exact alloc_old (alloc_old (alloc_old a0 _) _) _)
  clear HW HG1 HG2 HG3 HGP
  have h26 : ∀ W, Below w1.heap.size w1 W → AtS26 W W ⟨gp, 0, none⟩ F M A := by
    intro W hb
    have t := (hb.block _ (blk_lt HS.out.2.1)).trans HS.out.2.1
    have h0 := blk_cell t 0
    have h1 := blk_cell t 1
    have h2 := blk_cell t 2
    simp only [List.getElem?_toArray, List.getElem?_cons_zero, List.getElem?_cons_succ] at h0 h1 h2
    exact ⟨h0, h1, h2⟩
  have H26 := Aside0.mk h26
  clear h26
  cases v with
  | false =>
    have HR := Aside0.mk (show (([] : List S53), (-1 : Int), (1 : Int)) = (r1, r2, r3) from Option.some.inj H0.out.2.1)
    go_wp2_with (go_at_call 47; refine (spec_l05One_at.calls k ⟨gp, 0, none⟩ F M A false _ (H26.out _ (Below.refl _ _)) H0.out.1).mono ?_; rintro e w2 ⟨rfl, hb⟩; have HB2 := Aside0.mk hb; clear hb)
    go_ret2
    have h := HR.out
    simp only [Prod.mk.injEq] at h
    obtain ⟨rfl, rfl, rfl⟩ := h
    exact ⟨g, _, _, _, rfl, HS.out.1.below HB2.out⟩
  | true =>
    by_cases hok : okWay F M
    · have hz : (if 0 ≤ last ∧ last ≤ manyI F M (endS A) - 1 then ((wyO (leafS (cntS k) (F + M).toNat last) hasS (bkS (firstS F M A)) (manyI F M) (F + M).toNat [] ([], -1)).bind fun s => some (s.1, s.2, 0)) else some ([], -1, 2)) = some (r1, r2, r3) := by have h := H0.out.2.1; rw [if_pos rfl, if_pos hok] at h; exact h
      have HOK := Aside0.mk (And.intro hok hz)
      clear hok hz
      obtain ⟨mn, HMN⟩ : ∃ mn, Aside0 (mn = manyI F M (endS A) ∧ 0 ≤ mn ∧ mn ≤ 1000) := ⟨_, ⟨rfl, by have := HOK.out.1; unfold okWay at this; unfold manyI; split <;> omega, by have := HOK.out.1; unfold okWay at this; unfold manyI; split <;> omega⟩⟩
      obtain ⟨eb, HEB⟩ : ∃ eb, Aside0 (eb = endS A) := ⟨_, ⟨rfl⟩⟩
      have HMA := Aside0.mk (show spec_l07Many_at.f F M A eb = some mn from by rw [HMN.out.1, HEB.out]; exact many_eq F M A (by unfold endS; cases A <;> simp))
      have hw5 : wrap64 (mn - 1) = mn - 1 := wrap_id _ (by have := HMN.out; omega) (by have := HMN.out; omega)
      by_cases hrg : 0 ≤ last ∧ last ≤ mn - 1
      · have HWI := Aside0.mk (show spec_l00In.f last 0 (mn - 1) = some true from by unfold spec_l00In.f; rw [if_pos (show last ≥ 0 from hrg.1), decide_eq_true hrg.2])
        have hz2 : ((wyO (leafS (cntS k) (F + M).toNat last) hasS (bkS (firstS F M A)) (manyI F M) (F + M).toNat [] ([], -1)).bind fun s => some (s.1, s.2, 0)) = some (r1, r2, r3) := by have h := HOK.out.2; rw [← HMN.out.1, if_pos hrg] at h; exact h
        obtain ⟨s', hs', hr'⟩ := Option.bind_eq_some_iff.mp hz2
        have HS' := Aside0.mk hs'
        have HR := Aside0.mk (show (s'.1, s'.2, (0 : Int)) = (r1, r2, r3) from Option.some.inj hr')
        have HFI := Aside0.mk (first_eq (F := F) (M := M) A HOK.out.1)
        clear hrg hz2 hs' hr'
        cases A
        all_goals
          have heb := HEB.out
          simp only [endS, if_true, if_false, Bool.false_eq_true, reduceIte] at heb
          subst heb
          have t2 := (H26.out _ (Below.refl _ _)).2.2
          go_wp2_with (first | (go_at_call 47; refine (spec_l05One_at.calls k ⟨gp, 0, none⟩ F M _ true _ (H26.out _ (Below.refl _ _)) H0.out.1).mono ?_; rintro e w2 ⟨rfl, hb⟩; have HB2 := Aside0.mk hb; have t2 := (H26.out _ hb).2.2; clear hb) | (go_at_call 49; refine (spec_l07Many_at.calls ⟨gp, 0, none⟩ F M _ _ mn _ (H26.out _ HB2.out) HMA.out).mono ?_; rintro e w3 ⟨rfl, hb⟩; have HB3 := Aside0.mk (below_step HB2.out hb); clear hb) | (go_at_call 48; refine (spec_l00In.calls last 0 (mn - 1) true _ HWI.out).mono ?_; rintro e w4 ⟨rfl, hd⟩; have HB4 := Aside0.mk (below_step HB3.out (Drawn0.below hd)); clear hd) | (go_at_call 51; refine (spec_l07First.calls gp F M _ (firstS F M _) F M _ w0 _ ⟨(HB4.out.block _ (blk_lt HS.out.2.1)).trans HS.out.2.1, HS.out.2.2.2.2.2⟩ (HS.out.1.below HB4.out).bw HFI.out).mono ?_; rintro e w5 ⟨rfl, hi, hb, hk⟩; have HB5 := Aside0.mk (below_step HB4.out (below_of_keep ⟨(HB4.out.block _ (blk_lt HS.out.2.1)).trans HS.out.2.1, HS.out.2.2.2.2.2⟩ hi (HS.out.1.below HB4.out).bw hb hk)); clear hi hb hk t2) | (go_at_call 50; refine (walk_calls (by have := HOK.out.1; unfold okWay at this; omega) (N := (F + M).toNat) (by have := HOK.out.1; unfold okWay at this; omega) (by have := HOK.out.1; unfold okWay at this; omega) (firstS_two F M _) (F + M).toNat _ [] ([], -1) s' _ _ (by simp) (HS.out.1.below HB5.out) HS'.out).mono ?_; rintro e w6 ⟨rfl, vw6, vb6, hs6⟩; have HS6 := Aside0.mk hs6; clear hs6))
          go_ret2
          have h := HR.out
          simp only [Prod.mk.injEq] at h
          obtain ⟨rfl, rfl, rfl⟩ := h
          exact ⟨g, _, _, _, rfl, HS6.out⟩
      · have HWI := Aside0.mk (show spec_l00In.f last 0 (mn - 1) = some false from by
          unfold spec_l00In.f
          split
          · rw [decide_eq_false (fun h => hrg ⟨by assumption, h⟩)]
          · rfl)
        have HX := Aside0.mk (show (([] : List S53), (-1 : Int), (2 : Int)) = (r1, r2, r3) from by have h := HOK.out.2; rw [← HMN.out.1, if_neg hrg] at h; exact Option.some.inj h)
        clear hrg
        cases A
        all_goals
          have heb := HEB.out
          simp only [endS, if_true, if_false, Bool.false_eq_true, reduceIte] at heb
          subst heb
          have t2 := (H26.out _ (Below.refl _ _)).2.2
          go_wp2_with (first | (go_at_call 47; refine (spec_l05One_at.calls k ⟨gp, 0, none⟩ F M _ true _ (H26.out _ (Below.refl _ _)) H0.out.1).mono ?_; rintro e w2 ⟨rfl, hb⟩; have HB2 := Aside0.mk hb; have t2 := (H26.out _ hb).2.2; clear hb) | (go_at_call 49; refine (spec_l07Many_at.calls ⟨gp, 0, none⟩ F M _ _ mn _ (H26.out _ HB2.out) HMA.out).mono ?_; rintro e w3 ⟨rfl, hb⟩; have HB3 := Aside0.mk (below_step HB2.out hb); clear hb) | (go_at_call 48; refine (spec_l00In.calls last 0 (mn - 1) false _ HWI.out).mono ?_; rintro e w4 ⟨rfl, hd⟩; have HB4 := Aside0.mk (below_step HB3.out (Drawn0.below hd)); clear hd))
          go_ret2
          have h := HX.out
          simp only [Prod.mk.injEq] at h
          obtain ⟨rfl, rfl, rfl⟩ := h
          exact ⟨g, _, _, _, rfl, HS.out.1.below HB4.out⟩
    · exact absurd (show (none : Option (List S53 × Int × Int)) = some (r1, r2, r3) from by have h := H0.out.2.1; rw [if_pos rfl, if_neg hok] at h; exact h) (by simp)

/-! ### spec_FewestCrossings: function 7 (by hand) -/
def spec_FewestCrossings.f (k : Nat) (a0_0 : Int) (a0_1 : Int) (a0_2 : Bool) (a1 : Int) : Option (Int × Int) := (spec_l07Best.f k a0_0 a0_1 a0_2 a1).bind fun t => if t.2.2 = 0 then some (t.2.1, 0) else some (0, t.2.2)
theorem spec_FewestCrossings.mono : ∀ a0 a1 a2 a3 k, LeO (spec_FewestCrossings.f k a0 a1 a2 a3) (spec_FewestCrossings.f (k + 1) a0 a1 a2 a3) := fun a0 a1 a2 a3 k => LeO.bind (spec_l07Best.mono a0 a1 a2 a3 k) (fun _ => LeO.refl _)
set_option maxHeartbeats 8000000 in
set_option maxRecDepth 100000 in
theorem spec_FewestCrossings.calls (k : Nat) (a0_0 : Int) (a0_1 : Int) (a0_2 : Bool) (a1 : Int) (r1 : Int) (r2 : Int) (w : World) (h : spec_FewestCrossings.f k a0_0 a0_1 a0_2 a1 = some (r1, r2)) :
    Calls Try.prog 7 #[.agg #[.int .i64 a0_0, .int .i64 a0_1, .bool a0_2], .int .i64 a1] w fun e w' => e = .returned (.tuple #[.int .i64 r1, .int .i64 r2]) ∧ Below w.heap.size w w' := by
  obtain ⟨⟨z1, z2, z3⟩, hz, h⟩ := Option.bind_eq_some_iff.mp h
  have H0 := Aside0.mk (And.intro hz h)
  clear hz h
  by_cases c : z3 = 0
  · have cb : (z3 != 0) = false := by simp [c]
    have HX := Aside0.mk (show (z2, (0 : Int)) = (r1, r2) from Option.some.inj (by have h := H0.out.2; rw [if_pos c] at h; exact h))
    clear c
    go_enter Try.func7, Try.ntmps7
    go_wp2_with (go_at_call 31; refine (spec_l07Best.calls k a0_0 a0_1 a0_2 a1 z1 z2 z3 w _ (below_alloc (Below.refl _ _) _) H0.out.1).mono ?_; rintro e w1 ⟨g, way, vw, vb, rfl, hs⟩; have HS := Aside0.mk hs; have f6 := blk_cell hs.tb 6; simp only [List.getElem?_toArray, List.getElem?_cons_zero, List.getElem?_cons_succ] at f6; clear hs)
    go_ret2
    have h := HX.out
    simp only [Prod.mk.injEq] at h
    obtain ⟨rfl, rfl⟩ := h
    exact ⟨rfl, HS.out.bw⟩
  · have cb : (z3 != 0) = true := by simp [c]
    have HX := Aside0.mk (show ((0 : Int), z3) = (r1, r2) from Option.some.inj (by have h := H0.out.2; rw [if_neg c] at h; exact h))
    clear c
    go_enter Try.func7, Try.ntmps7
    go_wp2_with (go_at_call 31; refine (spec_l07Best.calls k a0_0 a0_1 a0_2 a1 z1 z2 z3 w _ (below_alloc (Below.refl _ _) _) H0.out.1).mono ?_; rintro e w1 ⟨g, way, vw, vb, rfl, hs⟩; have HS := Aside0.mk hs; clear hs)
    go_ret2
    have h := HX.out
    simp only [Prod.mk.injEq] at h
    obtain ⟨rfl, rfl⟩ := h
    exact ⟨rfl, HS.out.bw⟩

/-! ### impl_within: function 53 -/
def impl_within.f (a0 : Int) (a1 : Int) (a2 : Int) : Option (Bool) := if a0 ≥ a1 then (some (decide (a0 ≤ a2))) else (some false)
set_option maxHeartbeats 8000000 in
set_option maxRecDepth 100000 in
theorem impl_within.calls (a0 : Int) (a1 : Int) (a2 : Int) (r : Bool) (w : World) (h : impl_within.f a0 a1 a2 = some r) :
  Calls Try.prog 53 #[.int .i64 a0, .int .i64 a1, .int .i64 a2] w fun e w' => e = .returned (.bool r) ∧ Drawn0 w w' := by
 have H : (if a0 ≥ a1 then (some (decide (a0 ≤ a2))) else (some false)) = some r := h; clear h
 by_cases c4 : a0 ≥ a1
 ·rw [if_pos c4] at H; have c4b0 : decide (a1 ≤ a0) = true := dT' c4; clear c4; obtain rfl := Option.some.inj H; go_enter Try.func53, Try.ntmps53; go_wp2; go_ret; exact ⟨by first | rfl | (simp; done) | (simp [*]; done), by repeat (first | exact Drawn0.refl _ | apply Drawn0.step)⟩
 ·rw [if_neg c4] at H; have c4b0 : decide (a1 ≤ a0) = false := dF' c4; clear c4; obtain rfl := Option.some.inj H; go_enter Try.func53, Try.ntmps53; go_wp2; go_ret; exact ⟨by first | rfl | (simp; done) | (simp [*]; done), by repeat (first | exact Drawn0.refl _ | apply Drawn0.step)⟩

/-! ### impl_ValidPurchase: function 52 -/
def impl_ValidPurchase.j0 : Nat → Bool → Int → Int → Bool → Option (Bool)
 | 0, _, _, _, _ => none
 | k + 1, x20, x181000, x181001, x181002 => if x20 = true then (some false) else (if x181002 = true then ((impl_within.f (wrap64 (x181001 - x181000)) 0 1).bind fun t183 => (some t183)) else ((impl_within.f (wrap64 (x181000 - x181001)) 0 1).bind fun t184 => (some t184)))
def impl_ValidPurchase.f (k : Nat) (a0_0 : Int) (a0_1 : Int) (a0_2 : Bool) : Option (Bool) := (impl_within.f a0_0 0 4).bind fun t181 => (if t181 = true then ((impl_within.f a0_1 0 4).bind fun t182 => (if t182 = true then (impl_ValidPurchase.j0 k ((wrap64 (a0_0 + a0_1)) == 0) a0_0 a0_1 a0_2) else (impl_ValidPurchase.j0 k true a0_0 a0_1 a0_2))) else (impl_ValidPurchase.j0 k true a0_0 a0_1 a0_2))
theorem impl_ValidPurchase.mono_l : ∀ k, (∀ y0 y1 y2 y3, LeO (impl_ValidPurchase.j0 k y0 y1 y2 y3) (impl_ValidPurchase.j0 (k + 1) y0 y1 y2 y3))
 | 0 => fun _ _ _ _ r h => by simp [impl_ValidPurchase.j0] at h
 | k + 1 => by
  have ih0 := impl_ValidPurchase.mono_l k
  ·intro y0 y1 y2 y3
   unfold impl_ValidPurchase.j0
   repeat' first
   | (with_reducible exact ih0 _ _ _ _)
   | (with_reducible exact LeO.refl _)
   | (with_reducible exact LeO.none _)
   | (with_reducible refine LeO.ite ?_ ?_)
   | (with_reducible refine LeO.bind ?_ (fun _ => ?_))
   | exact ih0 _ _ _ _
   | exact LeO.none _
   | refine LeO.ite ?_ ?_
   | refine LeO.bind ?_ (fun _ => ?_)
theorem impl_ValidPurchase.mono : ∀ a0 a1 a2 k, LeO (impl_ValidPurchase.f k a0 a1 a2) (impl_ValidPurchase.f (k + 1) a0 a1 a2) := by
 intro a0 a1 a2 k
 have ih0 := impl_ValidPurchase.mono_l k
 unfold impl_ValidPurchase.f
 repeat' first
   | (with_reducible exact ih0 _ _ _ _)
   | (with_reducible exact LeO.refl _)
   | (with_reducible exact LeO.none _)
   | (with_reducible refine LeO.ite ?_ ?_)
   | (with_reducible refine LeO.bind ?_ (fun _ => ?_))
   | exact ih0 _ _ _ _
   | exact LeO.none _
   | refine LeO.ite ?_ ?_
   | refine LeO.bind ?_ (fun _ => ?_)
set_option maxHeartbeats 8000000 in
set_option maxRecDepth 100000 in
theorem impl_ValidPurchase.calls (k : Nat) (a0_0 : Int) (a0_1 : Int) (a0_2 : Bool) (r : Bool) (w : World) (h : impl_ValidPurchase.f k a0_0 a0_1 a0_2 = some r) :
  Calls Try.prog 52 #[.agg #[.int .i64 a0_0, .int .i64 a0_1, .bool a0_2]] w fun e w' => e = .returned (.bool r) ∧ Below w.heap.size w w' := by
 have hu26 := Try.underlying26; have HB := A' (Below.refl w.heap.size w); have H : ((impl_within.f a0_0 0 4).bind fun t181 => (if t181 = true then ((impl_within.f a0_1 0 4).bind fun t182 => (if t182 = true then (impl_ValidPurchase.j0 k ((wrap64 (a0_0 + a0_1)) == 0) a0_0 a0_1 a0_2) else (impl_ValidPurchase.j0 k true a0_0 a0_1 a0_2))) else (impl_ValidPurchase.j0 k true a0_0 a0_1 a0_2))) = some r := h; clear h; have HC2 := A' H; clear H; go_enter Try.func52, Try.ntmps52; go_upto_region 1 with (first | ((with_reducible refine gate_dst (N := 1) rfl ?_); refine box_event ?hg (N := 1) ?hd (cs := #[.int .i64 a0_0, .int .i64 a0_1, .bool a0_2]) (t := 26) ?hr ?_; (case hd => rfl); (case hg => rfl); (case hr => first | (go_simp; done) | (go_simp; rfl)); intro gb180 hg w3 hbox hb; have n0_ := A' (W' (qK0 HB.out) hb); have n1_ := A' (hbox); have n2_ := A' ((by rw [hg]; exact (V' (qK0 HB.out)) : w.heap.size ≤ gb180)); have n3_ := A' ((by rw [hg]; exact (V' (qK0 HB.out)) : w.heap.size ≤ gb180)); clear HB; have HB := n0_; have BK180 := n1_; have GW180 := n2_; have GE180 := n3_; clear n0_ n1_ n2_ n3_; clear hb hbox hg))
 (try simp only [Act.put, List.setIfInBounds_toArray, List.set_cons_zero, List.set_cons_succ])
 go_cut [20] (fun v20 wc => ∃ (kq : Nat) (x20_1 : Bool), v20 = .bool x20_1 ∧ Aside0 (impl_ValidPurchase.j0 kq x20_1 a0_0 a0_1 a0_2 = some r) ∧ Aside0 (kq ≤ k) ∧ Aside0 (wc.heap[gb180]? = some (.cells #[.int .i64 a0_0, .int .i64 a0_1, .bool a0_2] 26 (0, 0))) ∧ Aside0 (Below w.heap.size w wc))
 case first =>
  have H := HC2.out; clear HC2; replace H := Option.bind_eq_some_iff.mp H; obtain ⟨t181, A40, H⟩ := H; replace H : (if t181 = true then ((impl_within.f a0_1 0 4).bind fun t182 => (if t182 = true then (impl_ValidPurchase.j0 k ((wrap64 (a0_0 + a0_1)) == 0) a0_0 a0_1 a0_2) else (impl_ValidPurchase.j0 k true a0_0 a0_1 a0_2))) else (impl_ValidPurchase.j0 k true a0_0 a0_1 a0_2)) = some r := H; have A4 := A' A40; clear A40
  by_cases c5 : t181 = true
  ·subst c5; have H1 : ((impl_within.f a0_1 0 4).bind fun t182 => (if t182 = true then (impl_ValidPurchase.j0 k ((wrap64 (a0_0 + a0_1)) == 0) a0_0 a0_1 a0_2) else (impl_ValidPurchase.j0 k true a0_0 a0_1 a0_2))) = some r := by rw [if_pos rfl] at H; exact H
   clear H; have H := H1; clear H1; replace H := Option.bind_eq_some_iff.mp H; obtain ⟨t182, A60, H⟩ := H; replace H : (if t182 = true then (impl_ValidPurchase.j0 k ((wrap64 (a0_0 + a0_1)) == 0) a0_0 a0_1 a0_2) else (impl_ValidPurchase.j0 k true a0_0 a0_1 a0_2)) = some r := H; have A6 := A' A60; clear A60
   by_cases c7 : t182 = true
   ·subst c7; have H1 : (impl_ValidPurchase.j0 k ((wrap64 (a0_0 + a0_1)) == 0) a0_0 a0_1 a0_2) = some r := by rw [if_pos rfl] at H; exact H
    clear H; have H := H1; clear H1; have H' := A' H; clear H; have hcz8_0 : w3.cell? ⟨gb180, 0, none⟩ = some (.int .i64 a0_0) := (N' BK180.out 0).trans rfl; have hcz8_1 : w3.cell? ⟨gb180, 1, none⟩ = some (.int .i64 a0_1) := (N' BK180.out 1).trans rfl; have hcz8_2 : w3.cell? ⟨gb180, 2, none⟩ = some (.bool a0_2) := (N' BK180.out 2).trans rfl; have hfz8_0 := Y' BK180.out 0; have hfz8_1 := Y' BK180.out 1; have hfz8_2 := Y' BK180.out 2; go_wp2_with (first | ((with_reducible refine gate_callee (f := 53) rfl ?_); refine goesL_ (some 5) rfl rfl Try.func53 (by kernel_rfl) rfl #[.int .i64 a0_0, .int .i64 0, .int .i64 4] rfl (by (try simp only [List.map_toArray, List.map_cons, List.map_nil]); first | done | rfl | (simp only [List.length_drop, List.length_take]; rfl)) ?_; (with_reducible refine (impl_within.calls a0_0 0 4 true _ A4.out).mono ?_); rintro e w' ⟨rfl, ⟨nd, rfl⟩⟩; refine ⟨_, rfl, ?_⟩) | (go_at_call 53; (with_reducible refine (impl_within.calls a0_1 0 4 true _ A6.out).mono ?_); rintro e w' ⟨rfl, ⟨nd, rfl⟩⟩))
    go_meet
    case rel => exact ⟨_, (((wrap64 (a0_0 + a0_1)) == 0)), qS, H', ⟨by first | omega | exact Nat.le_refl _⟩, ⟨qB BK180.out⟩, ⟨qK1 HB.out GE180.out⟩⟩
   ·replace c7 := Bool.eq_false_iff.mpr c7; subst c7; have H1 : (impl_ValidPurchase.j0 k true a0_0 a0_1 a0_2) = some r := by rw [if_neg (show ¬ (false = true) by decide)] at H; exact H
    clear H; have H := H1; clear H1; have H' := A' H; clear H; have hcz9_0 : w3.cell? ⟨gb180, 0, none⟩ = some (.int .i64 a0_0) := (N' BK180.out 0).trans rfl; have hcz9_1 : w3.cell? ⟨gb180, 1, none⟩ = some (.int .i64 a0_1) := (N' BK180.out 1).trans rfl; have hcz9_2 : w3.cell? ⟨gb180, 2, none⟩ = some (.bool a0_2) := (N' BK180.out 2).trans rfl; have hfz9_0 := Y' BK180.out 0; have hfz9_1 := Y' BK180.out 1; have hfz9_2 := Y' BK180.out 2; go_wp2_with (first | ((with_reducible refine gate_callee (f := 53) rfl ?_); refine goesL_ (some 5) rfl rfl Try.func53 (by kernel_rfl) rfl #[.int .i64 a0_0, .int .i64 0, .int .i64 4] rfl (by (try simp only [List.map_toArray, List.map_cons, List.map_nil]); first | done | rfl | (simp only [List.length_drop, List.length_take]; rfl)) ?_; (with_reducible refine (impl_within.calls a0_0 0 4 true _ A4.out).mono ?_); rintro e w' ⟨rfl, ⟨nd, rfl⟩⟩; refine ⟨_, rfl, ?_⟩) | (go_at_call 53; (with_reducible refine (impl_within.calls a0_1 0 4 false _ A6.out).mono ?_); rintro e w' ⟨rfl, ⟨nd, rfl⟩⟩))
    go_meet
    case rel => exact ⟨_, (true), qS, H', ⟨by first | omega | exact Nat.le_refl _⟩, ⟨qB BK180.out⟩, ⟨qK1 HB.out GE180.out⟩⟩
  ·replace c5 := Bool.eq_false_iff.mpr c5; subst c5; have H1 : (impl_ValidPurchase.j0 k true a0_0 a0_1 a0_2) = some r := by rw [if_neg (show ¬ (false = true) by decide)] at H; exact H
   clear H; have H := H1; clear H1; have H' := A' H; clear H; have hcz10_0 : w3.cell? ⟨gb180, 0, none⟩ = some (.int .i64 a0_0) := (N' BK180.out 0).trans rfl; have hcz10_1 : w3.cell? ⟨gb180, 1, none⟩ = some (.int .i64 a0_1) := (N' BK180.out 1).trans rfl; have hcz10_2 : w3.cell? ⟨gb180, 2, none⟩ = some (.bool a0_2) := (N' BK180.out 2).trans rfl; have hfz10_0 := Y' BK180.out 0; have hfz10_1 := Y' BK180.out 1; have hfz10_2 := Y' BK180.out 2; go_wp2_with (first | ((with_reducible refine gate_callee (f := 53) rfl ?_); refine goesL_ (some 5) rfl rfl Try.func53 (by kernel_rfl) rfl #[.int .i64 a0_0, .int .i64 0, .int .i64 4] rfl (by (try simp only [List.map_toArray, List.map_cons, List.map_nil]); first | done | rfl | (simp only [List.length_drop, List.length_take]; rfl)) ?_; (with_reducible refine (impl_within.calls a0_0 0 4 false _ A4.out).mono ?_); rintro e w' ⟨rfl, ⟨nd, rfl⟩⟩; refine ⟨_, rfl, ?_⟩))
   go_meet
   case rel => exact ⟨_, (true), qS, H', ⟨by first | omega | exact Nat.le_refl _⟩, ⟨qB BK180.out⟩, ⟨qK1 HB.out GE180.out⟩⟩
 case rest =>
  clear HC2; try clear p2
  try clear c5
  try clear p6
  try clear c7
  try clear hcz10_0
  try clear hcz10_1
  try clear hcz10_2
  try clear hcz8_0
  try clear hcz8_1
  try clear hcz8_2
  try clear hcz9_0
  try clear hcz9_1
  try clear hcz9_2
  try clear hfz10_0
  try clear hfz10_1
  try clear hfz10_2
  try clear hfz8_0
  try clear hfz8_1
  try clear hfz8_2
  try clear hfz9_0
  try clear hfz9_1
  try clear hfz9_2
  obtain ⟨kq, x20_1, rfl, HA, HJ1, BK180, HB⟩ := hcut
  cases kq with
  | zero => exact absurd HA.out (by simp [impl_ValidPurchase.j0])
  | succ kj1 =>
   have H := HA.out; clear HA; simp only [impl_ValidPurchase.j0] at H
   by_cases c11 : x20_1 = true
   ·subst c11; have H1 : (some false) = some r := by rw [if_pos rfl] at H; exact H
    clear H; have H := H1; clear H1; obtain rfl := Option.some.inj H; go_wp2; go_ret; exact ⟨qE, qK1 HB.out GE180.out⟩
   ·replace c11 := Bool.eq_false_iff.mpr c11; subst c11; have H1 : (if a0_2 = true then ((impl_within.f (wrap64 (a0_1 - a0_0)) 0 1).bind fun t183 => (some t183)) else ((impl_within.f (wrap64 (a0_0 - a0_1)) 0 1).bind fun t184 => (some t184))) = some r := by rw [if_neg (show ¬ (false = true) by decide)] at H; exact H
    clear H; have H := H1; clear H1
    by_cases c12 : a0_2 = true
    ·subst c12; have H1 : ((impl_within.f (wrap64 (a0_1 - a0_0)) 0 1).bind fun t183 => (some t183)) = some r := by rw [if_pos rfl] at H; exact H
     clear H; have H := H1; clear H1; replace H := Option.bind_eq_some_iff.mp H; obtain ⟨t183, A130, H⟩ := H; replace H : (some t183) = some r := H; have A13 := A' A130; clear A130; obtain rfl := Option.some.inj H; have hcz14_0 : wc.cell? ⟨gb180, 0, none⟩ = some (.int .i64 a0_0) := (N' BK180.out 0).trans rfl; have hcz14_1 : wc.cell? ⟨gb180, 1, none⟩ = some (.int .i64 a0_1) := (N' BK180.out 1).trans rfl; have hcz14_2 : wc.cell? ⟨gb180, 2, none⟩ = some (.bool true) := (N' BK180.out 2).trans rfl; have hfz14_0 := Y' BK180.out 0; have hfz14_1 := Y' BK180.out 1; have hfz14_2 := Y' BK180.out 2; go_wp2_with (first | ((with_reducible refine gate_callee (f := 53) rfl ?_); refine goesL_ (some 28) rfl rfl Try.func53 (by kernel_rfl) rfl #[.int .i64 (wrap64 (a0_1 - a0_0)), .int .i64 0, .int .i64 1] rfl (by (try simp only [List.map_toArray, List.map_cons, List.map_nil]); first | done | rfl | (simp only [List.length_drop, List.length_take]; rfl)) ?_; (with_reducible refine (impl_within.calls (wrap64 (a0_1 - a0_0)) 0 1 t183 _ A13.out).mono ?_); rintro e w' ⟨rfl, ⟨nd, rfl⟩⟩; refine ⟨_, rfl, ?_⟩)); go_ret; exact ⟨qE, qK1 HB.out GE180.out⟩
    ·replace c12 := Bool.eq_false_iff.mpr c12; subst c12; have H1 : ((impl_within.f (wrap64 (a0_0 - a0_1)) 0 1).bind fun t184 => (some t184)) = some r := by rw [if_neg (show ¬ (false = true) by decide)] at H; exact H
     clear H; have H := H1; clear H1; replace H := Option.bind_eq_some_iff.mp H; obtain ⟨t184, A150, H⟩ := H; replace H : (some t184) = some r := H; have A15 := A' A150; clear A150; obtain rfl := Option.some.inj H; have hcz16_0 : wc.cell? ⟨gb180, 0, none⟩ = some (.int .i64 a0_0) := (N' BK180.out 0).trans rfl; have hcz16_1 : wc.cell? ⟨gb180, 1, none⟩ = some (.int .i64 a0_1) := (N' BK180.out 1).trans rfl; have hcz16_2 : wc.cell? ⟨gb180, 2, none⟩ = some (.bool false) := (N' BK180.out 2).trans rfl; have hfz16_0 := Y' BK180.out 0; have hfz16_1 := Y' BK180.out 1; have hfz16_2 := Y' BK180.out 2; go_wp2_with (first | ((with_reducible refine gate_callee (f := 53) rfl ?_); refine goesL_ (some 34) rfl rfl Try.func53 (by kernel_rfl) rfl #[.int .i64 (wrap64 (a0_0 - a0_1)), .int .i64 0, .int .i64 1] rfl (by (try simp only [List.map_toArray, List.map_cons, List.map_nil]); first | done | rfl | (simp only [List.length_drop, List.length_take]; rfl)) ?_; (with_reducible refine (impl_within.calls (wrap64 (a0_0 - a0_1)) 0 1 t184 _ A15.out).mono ?_); rintro e w' ⟨rfl, ⟨nd, rfl⟩⟩; refine ⟨_, rfl, ?_⟩)); go_ret; exact ⟨qE, qK1 HB.out GE180.out⟩

end Go.Proofs.Ytifdihbndlmgpaa.HCro
