/- The walks over all cuts of coils (the program's closures and the reference's own walk): what they leave in memory, for short lists of small numbers. -/
import Derived.Test.YtmgnloojcnoffaaProg
import Derived.Below
import Derived.Deep.Draws
import Derived.Deep.AppendLies
import Derived.Maps.AppendAt
import Derived.OwnWalk
import Derived.Laws.BytesArg
import Derived.Laws.MakeOwn
import Derived.Laws.OwnMore
import Derived.Deep.OwnRows
import Derived.Tactics
import Derived.Lib.ConvBytes
import Derived.Laws.Slices
import Derived.WalkKit
import Derived.KernelRfl
import Derived.RowKit3
import Derived.Deep.LoopGhost
import Derived.Deep.QuietTactic
import Derived.BigQuiet
import Derived.WideLaws
import Derived.Deep.DeepCutAuto
import Derived.Deep.CutBlock
import Derived.Deep.RegionHeld3
import Derived.Laws.Rows
import Derived.Lib.AppendStr
import Derived.ArgAppend
import Derived.Laws.IdiomCopy
import Derived.OrdersHeld
import Derived.Laws.BitsLemmas
import Derived.RowKit
import Derived.Test.YtmgnloojcnoffaaWWords
import Derived.Test.YtmgnloojcnoffaaWLast
import Derived.Test.YtmgnloojcnoffaaWTab
import Derived.Test.YtmgnloojcnoffaaWFour
import Derived.Test.YtmgnloojcnoffaaWQPut
import Derived.Test.YtmgnloojcnoffaaWApart
import Derived.Test.YtmgnloojcnoffaaWArr
import Derived.Test.YtmgnloojcnoffaaWZeros
import Derived.Test.YtmgnloojcnoffaaWFoot
import Derived.Test.YtmgnloojcnoffaaWKept
import Derived.Test.YtmgnloojcnoffaaWShare
import Derived.Test.YtmgnloojcnoffaaWN
import Derived.Test.YtmgnloojcnoffaaWFootNe
import Derived.Test.YtmgnloojcnoffaaWAt
import Derived.Test.YtmgnloojcnoffaaWEqStruct
import Derived.Test.YtmgnloojcnoffaaWRepsOne
import Derived.Test.YtmgnloojcnoffaaWInv
import Derived.Test.YtmgnloojcnoffaaWInvWords
import Derived.Test.YtmgnloojcnoffaaWGuard
import Derived.Test.YtmgnloojcnoffaaWNEv
import Derived.Test.YtmgnloojcnoffaaWMore
import Derived.StillTailTactics
import Derived.Laws.EntriesVeiled
import Derived.Deep.RegionWith
namespace Go.Proofs.Ytmgnloojcnoffaa.Cut
open Go.RowKit Go.Proofs.YtmgnloojcnoffaaW.PrintWords Go.Proofs.YtmgnloojcnoffaaW.PrintLast Go.Proofs.YtmgnloojcnoffaaW.PrintMore
attribute [local go_sem] max2_int min2_int max_two min_two max_three min_three max_four min_four   -- for this text's walks alone
set_option linter.unusedVariables false
set_option linter.unusedSimpArgs false
theorem info2 : (Try.prog.info? 2).map (fun i => (i.zero, i.size, i.bytes)) = some (some (.int .i64 0), 1, 8) := by kernel_rfl
/-- Outside the blocks S nothing that stood has turned. -/
structure Touch (S : Nat → Prop) (W w' : World) : Prop where
  os : w'.os = W.os
  tape : w'.tape = W.tape
  output : w'.output = W.output
  size : W.heap.size ≤ w'.heap.size
  block : ∀ k, k < W.heap.size → ¬ S k → w'.heap[k]? = W.heap[k]?
namespace Touch
section
variable {S S' : Nat → Prop} {a b c : World}
theorem refl (S : Nat → Prop) (a : World) : Touch S a a := ⟨rfl, rfl, rfl, Nat.le_refl _, fun _ _ _ => rfl⟩
theorem mono (h : Touch S a b) (hs : ∀ k, S k → S' k) : Touch S' a b := ⟨h.os, h.tape, h.output, h.size, fun k hk hn => h.block k hk (fun z => hn (hs k z))⟩
theorem trans (h : Touch S a b) (k : Touch S' b c) (hs : ∀ k, k < a.heap.size → S' k → S k) : Touch S a c :=
  ⟨k.os.trans h.os, k.tape.trans h.tape, k.output.trans h.output, Nat.le_trans h.size k.size, fun i hi hn => (k.block i (Nat.lt_of_lt_of_le hi h.size) (fun z => hn (hs i hi z))).trans (h.block i hi hn)⟩
theorem step (h : Touch S a b) (k : Touch S b c) : Touch S a c := h.trans k (fun _ _ z => z)
theorem of_below (h : Below a.heap.size a b) : Touch S a b := ⟨h.os, h.tape, h.output, h.size, fun k hk _ => h.block k hk⟩
theorem later (h : Touch S a b) (k : Below b.heap.size b c) : Touch S a c := h.step (of_below k)
theorem set (h : Touch S a b) {p : Addr} (hp : p.block < a.heap.size → S p.block) (u : Value) : Touch S a (b.setCell p u) :=
  ⟨h.os, h.tape, h.output, by simpa [World.setCell] using h.size, fun k hk hn => (Below.heap_setCell b p u k (fun e => hn (by rw [e]; exact hp (e ▸ hk)))).trans (h.block k hk hn)⟩
theorem alloc (h : Touch S a b) (o : Obj) : Touch S a (b.alloc o) := h.later (below_alloc (Below.refl _ _) o)
theorem drewN (h : Touch S a b) (n : Nat) : Touch S a (b.drewN n) := h.later (pw_below_drewN (Below.refl _ _) n)
theorem drew (h : Touch S a b) : Touch S a b.drew := h.later (below_drew (Below.refl _ _))
theorem grown (h : Touch S a b) {row : Option Nat} (hg : b.grownBy c row) (hr : ∀ k, row = some k → k < a.heap.size → S k) : Touch S a c :=
  ⟨hg.os.trans h.os, hg.tape.trans h.tape, hg.output.trans h.output, Nat.le_trans h.size hg.size, fun k hk hn => (hg.block k (Nat.lt_of_lt_of_le hk h.size) (fun e => hn (hr k e.symm hk))).trans (h.block k hk hn)⟩
theorem below {B : Nat} (h : Touch S a b) (hB : B ≤ a.heap.size) (hS : ∀ k, S k → B ≤ k) : Below B a b :=
  ⟨h.os, h.tape, h.output, h.size, fun k hk => h.block k (Nat.lt_of_lt_of_le hk hB) (fun z => by have := hS k z; omega)⟩
theorem blk (h : Touch S a b) {g : Nat} {o : Obj} (hb : a.heap[g]? = some o) (hg : ¬ S g) : b.heap[g]? = some o := (h.block g (blk_lt hb) hg).trans hb
theorem R {α : Type} {d : Kd α} {e base : Nat} {ok : Nat → Prop} {v : Value} {xs : List α} (h : Touch S a b) (hr : d.R e a base ok v xs) (hok : ∀ k, ok k → ¬ S k) : d.R e b base ok v xs := Kd.R_step hr (fun k ho hk => h.block k hk (hok k ho))
/-- A row of whole numbers that is read, in a block that isn't turned. -/
theorem C {i : IntKind} {A : Option Addr} {n : Nat} {xs : List Int} (h : Touch S a b) (hc : (Kd.int i).C a A n xs) (hA : ∀ ad, A = some ad → ¬ S ad.block) : (Kd.int i).C b A n xs := by
  refine ⟨hc.1, hc.2.1, fun hn => ?_⟩
  obtain ⟨ad, he, hcs⟩ := hc.2.2 hn
  refine ⟨ad, he, fun j p hj => ?_⟩
  obtain ⟨cs, h1, h2, h3⟩ := hcs j p hj
  refine ⟨cs, h1, h2, fun m u hu => ?_⟩
  have h4 := h3 m u hu
  have hlt := World.block_lt_of_cell? a _ h4
  rw [World.cell?_of_block (w := a) (h.block _ hlt (by rw [add_block]; exact hA ad he))]
  exact h4
end
end Touch
/-- Where a row of the call's own lies. -/
theorem row_at {α : Type} {d : Kd α} {e base : Nat} {ok : Nat → Prop} {W : World} {A : Option Addr} {n c : Nat} {xs : List α} (h : d.R e W base ok (.slice A n c) xs) : (A = none ∧ n = 0 ∧ c = 0) ∨ ∃ g, A = some ⟨g, 0, none⟩ ∧ ok g ∧ base ≤ g := by
  obtain ⟨inner, ho⟩ := Kd.R_own h
  rcases ho.2 with ⟨he, _⟩ | ⟨g, cap, cur, he, hb, _⟩
  · injection he with h1 h2 h3; exact .inl ⟨h1, h2, h3⟩
  · injection he with h1 h2 h3; subst h1; exact .inr ⟨g, rfl, h.1 g rfl, hb⟩
/-- What a function that is handed in keeps in memory: in the blocks ok alone. -/
structure Cb (σ : Type) where
  Q : World → (Nat → Prop) → σ → Prop
  mono : ∀ {W ok ok' s}, Q W ok s → (∀ k, ok k → ok' k) → Q W ok' s
  bound : ∀ {W ok s}, Q W ok s → Q W (fun k => ok k ∧ k < W.heap.size) s
  move : ∀ {W W' ok s}, Q W ok s → (∀ k, ok k → W'.heap[k]? = W.heap[k]?) → Q W' ok s
theorem Cb.stay {σ : Type} (cb : Cb σ) {W W' : World} {ok : Nat → Prop} {s : σ} (h : cb.Q W ok s) (hm : ∀ k, ok k → k < W.heap.size → W'.heap[k]? = W.heap[k]?) : cb.Q W' ok s :=
  cb.mono (cb.move (cb.bound h) (fun k hk => hm k hk.1 hk.2)) (fun _ hk => hk.1)
theorem size_alloc (W : World) (o : Obj) : (W.alloc o).heap.size = W.heap.size + 1 := by show (W.heap.push o).size = _; rw [Array.size_push]
theorem alloc_at (W : World) (o : Obj) : (W.alloc o).heap[W.heap.size]? = some o := by show (W.heap.push o)[W.heap.size]? = _; rw [Array.getElem?_push, if_pos rfl]
theorem alloc_old {W : World} {g : Nat} {o : Obj} (h : W.heap[g]? = some o) (o' : Obj) : (W.alloc o').heap[g]? = some o := (Below.heap_alloc W o' g (blk_lt h)).trans h

/-- A row of scalars lies in its own block alone. -/
theorem Kd.R_own1 {α : Type} {enc : α → Value} {h1 : ∀ x, (enc x).oneCell' = true} {e base : Nat} {ok : Nat → Prop} {W : World} {v : Value} {xs : List α} (h : (Kd.scalar enc h1).R e W base ok v xs) : (Kd.scalar enc h1).R e W base (fun k => ok k ∧ k < W.heap.size ∧ v.ownBlock = some k) v xs :=
  Kd.R_of_own (Kd.own_of_R h) (fun k hk => ⟨h.1 k hk, Kd.R_lt h k hk, hk⟩)
theorem row_cell {e base g n cap : Nat} {ok : Nat → Prop} {W : World} {xs : List Int} (h : (Kd.int .i64).R e W base ok (.slice (some ⟨g, 0, none⟩) n cap) xs) (i : Int) (h0 : 0 ≤ i) (hi : i < n) : W.cell? ⟨g, i.toNat, none⟩ = some (.int .i64 (rd xs i)) ∧ W.frozen? ⟨g, i.toNat, none⟩ = false := by
  obtain ⟨rfl, _⟩ := Kd.R_reads' h
  exact Kd.R_cell (0 : Int) h i h0 hi

/-- The blocks of eachCut's own variables. -/
def D5 (gf gp gc gl gfl : Nat) : List Nat := [gf, gp, gc, gl, gfl]
/-- The blocks that are left to the function that is handed in. -/
def okc (B : Nat) (D : List Nat) (vl vf : Value) : Nat → Prop := fun k => B ≤ k ∧ k ∉ D ∧ some k ≠ vl.ownBlock ∧ some k ≠ vf.ownBlock
/-- eachCut's memory while fill runs. -/
structure FI {σ : Type} (cb : Cb σ) (w0 : World) (gf gp gc gl gfl : Nat) (vcall : Value) (Ap : Option Addr) (cp : Nat) (pieces : List Int) (vl : Value) (left : List Int) (vf : Value) (fr : List Int) (s : σ) (W : World) : Prop where
  bw : Below w0.heap.size w0 W
  f : W.heap[gf]? = some (.cells #[vf] 22 (0, 0))
  p : W.heap[gp]? = some (.cells #[.slice Ap pieces.length cp] 22 (0, 0))
  c : W.heap[gc]? = some (.cells #[vcall] 43 (0, 0))
  l : W.heap[gl]? = some (.cells #[vl] 22 (0, 0))
  fl : W.heap[gfl]? = some (.cells #[.func (.func 38) #[] #[.pointer (some ⟨gf, 0, none⟩), .pointer (some ⟨gp, 0, none⟩), .pointer (some ⟨gc, 0, none⟩), .pointer (some ⟨gl, 0, none⟩), .pointer (some ⟨gfl, 0, none⟩)]] 1 (0, 0))
  rl : Kd.R (Kd.int .i64) 2 W w0.heap.size (fun k => k ∉ D5 gf gp gc gl gfl ∧ some k ≠ vf.ownBlock) vl left
  rf : Kd.R (Kd.int .i64) 2 W w0.heap.size (fun k => k ∉ D5 gf gp gc gl gfl ∧ some k ≠ vl.ownBlock) vf fr
  q : cb.Q W (okc w0.heap.size (D5 gf gp gc gl gfl) vl vf) s
/-- What stays as it is: the numbers of the blocks, the pieces. -/
structure FC (w0 : World) (gf gp gc gl gfl : Nat) (Ap : Option Addr) (pieces : List Int) : Prop where
  nd : (D5 gf gp gc gl gfl).Nodup
  ge : ∀ k, k ∈ D5 gf gp gc gl gfl → w0.heap.size ≤ k
  pr : Kd.C (Kd.int .i64) w0 Ap pieces.length pieces
namespace FI
section
variable {σ : Type} {cb : Cb σ} {w0 W w1 : World} {gf gp gc gl gfl : Nat} {vcall : Value} {Ap : Option Addr} {cp : Nat} {pieces : List Int} {vl : Value} {left : List Int} {vf : Value} {fr : List Int} {s : σ}
theorem below (h : FI cb w0 gf gp gc gl gfl vcall Ap cp pieces vl left vf fr s W) (hb : Below W.heap.size W w1) : FI cb w0 gf gp gc gl gfl vcall Ap cp pieces vl left vf fr s w1 :=
  ⟨h.bw.trans (hb.mono h.bw.size), (hb.block _ (blk_lt h.f)).trans h.f, (hb.block _ (blk_lt h.p)).trans h.p, (hb.block _ (blk_lt h.c)).trans h.c, (hb.block _ (blk_lt h.l)).trans h.l, (hb.block _ (blk_lt h.fl)).trans h.fl, Kd.R_below h.rl hb, Kd.R_below h.rf hb, cb.stay h.q (fun k _ hk => hb.block k hk)⟩
theorem drewN (h : FI cb w0 gf gp gc gl gfl vcall Ap cp pieces vl left vf fr s W) (n : Nat) : FI cb w0 gf gp gc gl gfl vcall Ap cp pieces vl left vf fr s (W.drewN n) := h.below (pw_below_drewN (Below.refl _ _) n)
theorem drew (h : FI cb w0 gf gp gc gl gfl vcall Ap cp pieces vl left vf fr s W) : FI cb w0 gf gp gc gl gfl vcall Ap cp pieces vl left vf fr s W.drew := h.below (below_drew (Below.refl _ _))
theorem alloc (h : FI cb w0 gf gp gc gl gfl vcall Ap cp pieces vl left vf fr s W) (o : Obj) : FI cb w0 gf gp gc gl gfl vcall Ap cp pieces vl left vf fr s (W.alloc o) := h.below (below_alloc (Below.refl _ _) o)
theorem mem5 {k : Nat} : k ∈ D5 gf gp gc gl gfl ↔ k = gf ∨ k = gp ∨ k = gc ∨ k = gl ∨ k = gfl := by simp [D5]
/-- A rest is written. -/
theorem putL {b n c : Nat} (h : FI cb w0 gf gp gc gl gfl vcall Ap cp pieces (.slice (some ⟨b, 0, none⟩) n c) left vf fr s W) (i x : Int) : FI cb w0 gf gp gc gl gfl vcall Ap cp pieces (.slice (some ⟨b, 0, none⟩) n c) (left.set i.toNat x) vf fr s (W.setCell ⟨b, i.toNat, none⟩ (.int .i64 x)) := by
  have hb : b ∉ D5 gf gp gc gl gfl := (h.rl.1 b rfl).1
  have hbase := Kd.R_base h.rl b rfl
  rw [mem5] at hb
  have hne : b ≠ gf ∧ b ≠ gp ∧ b ≠ gc ∧ b ≠ gl ∧ b ≠ gfl := by omega
  obtain ⟨n1, n2, n3, n4, n5⟩ := hne
  exact ⟨below_set h.bw hbase, blk_far h.f (Ne.symm n1) _, blk_far h.p (Ne.symm n2) _, blk_far h.c (Ne.symm n3) _, blk_far h.l (Ne.symm n4) _, blk_far h.fl (Ne.symm n5) _, (Kd.R_putg h.rl i x).1, Kd.R_far h.rf (fun k hk e => hk.2 (by rw [e]; rfl)) _, cb.stay h.q (fun k hk _ => Below.heap_setCell _ _ _ _ (fun e => hk.2.2.1 (by rw [e]; rfl)))⟩
theorem setF {v1 : Value} {fr1 : List Int} (hc : FC w0 gf gp gc gl gfl Ap pieces) (h : FI cb w0 gf gp gc gl gfl vcall Ap cp pieces vl left vf fr s W) (hg : W.grownBy w1 vf.ownBlock) (hat : v1.ownBlock = vf.ownBlock ∨ ∃ b, v1.ownBlock = some b ∧ W.heap.size ≤ b)
    (hr : Kd.R (Kd.int .i64) 2 w1 w0.heap.size (fun k => k ∉ D5 gf gp gc gl gfl ∧ some k ≠ vl.ownBlock) v1 fr1) : FI cb w0 gf gp gc gl gfl vcall Ap cp pieces vl left v1 fr1 s (w1.setCell ⟨gf, 0, none⟩ v1) := by
  have nd := hc.nd
  simp only [D5, List.nodup_cons, List.mem_cons, List.not_mem_nil, or_false, not_or] at nd
  obtain ⟨⟨a1, a2, a3, a4⟩, ⟨b1, b2, b3⟩, ⟨c1, c2⟩, d1, _⟩ := nd
  have vn : ∀ k, k ∈ D5 gf gp gc gl gfl → some k ≠ vf.ownBlock := fun k hk e => (h.rf.1 k e.symm).1 hk
  have kg : ∀ g o, g ∈ D5 gf gp gc gl gfl → W.heap[g]? = some o → w1.heap[g]? = some o := fun g o hm hb => (hg.block g (blk_lt hb) (vn g hm)).trans hb
  have f1 := kg gf _ (by simp [D5]) h.f
  have old : ∀ k, k < W.heap.size → some k ≠ vf.ownBlock → some k ≠ v1.ownBlock := by
    intro k hk hn
    rcases hat with e | ⟨b, e, hb⟩
    · rw [e]; exact hn
    · rw [e]; intro z; injection z with z; omega
  refine ⟨below_set (h.bw.trans ⟨hg.os, hg.tape, hg.output, hg.size, fun k hk => hg.block k (Nat.lt_of_lt_of_le hk h.bw.size) (fun e => ?_)⟩) (hc.ge gf (by simp [D5])), ?_, blk_far (kg gp _ (by simp [D5]) h.p) (Ne.symm a1) _, blk_far (kg gc _ (by simp [D5]) h.c) (Ne.symm a2) _, blk_far (kg gl _ (by simp [D5]) h.l) (Ne.symm a3) _, blk_far (kg gfl _ (by simp [D5]) h.fl) (Ne.symm a4) _, ?_, ?_, ?_⟩
  · have := Kd.R_base h.rf k e.symm; omega
  · have := blk_set f1 0 v1; simpa using this
  · refine Kd.R_far (Kd.R_mono (Kd.R_grown (Kd.R_bound h.rl) hg (fun k hk => hk.1.2)) (fun k hk => (⟨hk.1.1, old k hk.2.2.1 hk.1.2⟩ : k ∉ D5 gf gp gc gl gfl ∧ some k ≠ v1.ownBlock))) (fun k hk e => hk.1 (by rw [e]; simp [D5])) _
  · exact Kd.R_far hr (fun k hk e => hk.1 (by rw [e]; simp [D5])) _
  · refine cb.stay (W := w1) (cb.mono (cb.stay (cb.bound h.q) (fun k hk hlt => hg.block k hlt hk.1.2.2.2)) (fun k hk => (⟨hk.1.1, hk.1.2.1, hk.1.2.2.1, old k hk.2 hk.1.2.2.2⟩ : okc _ _ _ _ k))) (fun k hk _ => Below.heap_setCell _ _ _ _ (fun e => hk.2.1 (by rw [e]; simp [D5])))
theorem keepF (h : FI cb w0 gf gp gc gl gfl vcall Ap cp pieces vl left vf fr s W) (hg : W.grownBy w1 vf.ownBlock) : w1.heap[gf]? = some (.cells #[vf] 22 (0, 0)) :=
  (hg.block gf (blk_lt h.f) (fun e => (h.rf.1 gf e.symm).1 (by simp [D5]))).trans h.f
theorem cut {A : Option Addr} {n c m : Nat} (hc : FC w0 gf gp gc gl gfl Ap pieces) (h : FI cb w0 gf gp gc gl gfl vcall Ap cp pieces vl left (.slice A n c) fr s W) (hm : m ≤ fr.length) : FI cb w0 gf gp gc gl gfl vcall Ap cp pieces vl left (.slice A m c) (fr.take m) s (W.setCell ⟨gf, 0, none⟩ (.slice A m c)) := by
  have e : (Value.slice A m c).ownBlock = (Value.slice A n c).ownBlock := by cases A <;> rfl
  refine setF hc h ⟨rfl, rfl, rfl, Nat.le_refl _, fun _ _ _ => rfl⟩ (.inl e) (Kd.R_take h.rf hm)
theorem fresh (h : FI cb w0 gf gp gc gl gfl vcall Ap cp pieces vl left vf fr s W) : ∀ k, W.heap.size ≤ k → okc w0.heap.size (D5 gf gp gc gl gfl) vl vf k := by
  intro k hk
  have a1 := blk_lt h.f
  have a2 := blk_lt h.p
  have a3 := blk_lt h.c
  have a4 := blk_lt h.l
  have a5 := blk_lt h.fl
  refine ⟨Nat.le_trans h.bw.size hk, fun hm => ?_, fun e => ?_, fun e => ?_⟩
  · rw [mem5] at hm; omega
  · have := Kd.R_lt h.rl k e.symm; omega
  · have := Kd.R_lt h.rf k e.symm; omega
theorem after {s' : σ} (h : FI cb w0 gf gp gc gl gfl vcall Ap cp pieces vl left vf fr s W) (ht : Touch (okc w0.heap.size (D5 gf gp gc gl gfl) vl vf) W w1) (hq : cb.Q w1 (okc w0.heap.size (D5 gf gp gc gl gfl) vl vf) s') : FI cb w0 gf gp gc gl gfl vcall Ap cp pieces vl left vf fr s' w1 :=
  ⟨h.bw.trans (ht.below h.bw.size (fun k hk => hk.1)), ht.blk h.f (fun z => z.2.1 (by simp [D5])), ht.blk h.p (fun z => z.2.1 (by simp [D5])), ht.blk h.c (fun z => z.2.1 (by simp [D5])), ht.blk h.l (fun z => z.2.1 (by simp [D5])), ht.blk h.fl (fun z => z.2.1 (by simp [D5])),
   Kd.R_mono (Kd.R_move (ok := fun k => (k ∉ D5 gf gp gc gl gfl ∧ some k ≠ vf.ownBlock) ∧ k < W.heap.size ∧ vl.ownBlock = some k) (Kd.R_own1 h.rl) (fun k hk => ht.block k hk.2.1 (fun z => z.2.2.1 hk.2.2.symm))) (fun _ hk => hk.1),
   Kd.R_mono (Kd.R_move (ok := fun k => (k ∉ D5 gf gp gc gl gfl ∧ some k ≠ vl.ownBlock) ∧ k < W.heap.size ∧ vf.ownBlock = some k) (Kd.R_own1 h.rf) (fun k hk => ht.block k hk.2.1 (fun z => z.2.2.2 hk.2.2.symm))) (fun _ hk => hk.1), hq⟩
end
end FI

/-- One block's test, round by round. -/
def rdsG {σ : Type} (f : Int → σ → σ) : Nat → Int → σ → σ
  | 0, _, s => s
  | m + 1, i, s => rdsG f m (i + 1) (f i s)
/-- All cuts, from the first coil on. -/
def wkG {σ : Type} (leaf : List Int → List Int → σ → σ) : List Int → List Int → List Int → σ → σ
  | [], left, from_, s => leaf left from_ s
  | x :: ps, left, from_, s => rdsG (fun k s => if x ≤ rd left k then wkG leaf ps (left.set k.toNat (rd left k - x)) (from_ ++ [k]) s else s) left.length 0 s
/-- What a call of fill leaves. -/
def PostF {σ : Type} (cb : Cb σ) (w0 : World) (gf gp gc gl gfl : Nat) (vcall : Value) (Ap : Option Addr) (cp : Nat) (pieces : List Int) (vl : Value) (left fr : List Int) (s : σ) (e : Ending) (W : World) : Prop :=
  e = .returned (.tuple #[]) ∧ ∃ vf, FI cb w0 gf gp gc gl gfl vcall Ap cp pieces vl left vf fr s W
/-- What the function that is handed in does. -/
def CbOk {σ : Type} (cb : Cb σ) (leaf : List Int → List Int → σ → σ) (Good : List Int → List Int → Prop) (fnc : Nat) (caps : Array Value) : Prop :=
  ∀ (W : World) (ok : Nat → Prop) (s : σ) (fr left : List Int) (Af : Option Addr) (cf : Nat) (Al : Option Addr) (cl : Nat), cb.Q W ok s → Kd.C (Kd.int .i64) W Af fr.length fr → fr.length ≤ cf → Kd.C (Kd.int .i64) W Al left.length left → left.length ≤ cl →
    (∀ ad, Af = some ad → ¬ ok ad.block) → (∀ ad, Al = some ad → ¬ ok ad.block) → (∀ k, W.heap.size ≤ k → ok k) → Good left fr →
    Calls Try.prog fnc (#[.slice Af fr.length cf, .slice Al left.length cl] ++ caps) W fun e w' => e = .returned (.tuple #[]) ∧ cb.Q w' ok (leaf left fr s) ∧ Touch ok W w'
section
variable {σ : Type} {cb : Cb σ} {leaf : List Int → List Int → σ → σ} {Good : List Int → List Int → Prop} {fnc : Nat} {caps : Array Value} {w0 W : World} {gf gp gc gl gfl : Nat} {Ap : Option Addr} {cp : Nat} {pieces : List Int} {Al : Option Addr} {cl : Nat} {left : List Int} {Af : Option Addr} {cf : Nat} {fr : List Int} {s : σ}
set_option maxHeartbeats 8000000 in
set_option maxRecDepth 100000 in
theorem fill_leaf (hent : ∀ args w, (callFunc fnc args).run Try.prog w = .ok (.enter fnc args) w) (hcb : CbOk cb leaf Good fnc caps) (hc : FC w0 gf gp gc gl gfl Ap pieces) (h : FI cb w0 gf gp gc gl gfl (.func (.func fnc) #[] caps) Ap cp pieces (.slice Al left.length cl) left (.slice Af fr.length cf) fr s W) (hlen : fr.length = pieces.length) (hg : Good left fr) :
    Calls Try.prog 38 #[.pointer (some ⟨gf, 0, none⟩), .pointer (some ⟨gp, 0, none⟩), .pointer (some ⟨gc, 0, none⟩), .pointer (some ⟨gl, 0, none⟩), .pointer (some ⟨gfl, 0, none⟩)] W (PostF cb w0 gf gp gc gl gfl (.func (.func fnc) #[] caps) Ap cp pieces (.slice Al left.length cl) left fr (leaf left fr s)) := by
  have HC := Aside0.mk hc
  have HI := Aside0.mk h
  have HB := Aside0.mk hcb
  have HG := Aside0.mk hg
  have f0 := blk_cell h.f 0
  have f1 := blk_cell h.p 0
  have f2 := blk_cell h.c 0
  have f3 := blk_cell h.l 0
  simp only [List.getElem?_toArray, List.getElem?_cons_zero] at f0 f1 f2 f3
  have ceq : ((fr.length : Int) == (pieces.length : Int)) = true := by rw [hlen]; simp
  clear hc h hcb hg hlen
  go_enter Try.func38, Try.ntmps38
  go_wp2_with (fail)
  refine (HB.out W (okc w0.heap.size (D5 gf gp gc gl gfl) (.slice Al left.length cl) (.slice Af fr.length cf)) s fr left Af cf Al cl HI.out.q (Kd.R_reads' HI.out.rf).2.2 (Kd.R_reads' HI.out.rf).2.1 (Kd.R_reads' HI.out.rl).2.2 (Kd.R_reads' HI.out.rl).2.1 ?_ ?_ ?_ HG.out).mono ?_
  · rintro ad rfl hk; exact hk.2.2.2 rfl
  · rintro ad rfl hk; exact hk.2.2.1 rfl
  · exact HI.out.fresh
  rintro e w1 ⟨rfl, hq, ht⟩
  have HQ := Aside0.mk (And.intro hq ht)
  clear hq ht
  go_wp2
  (try simp only [Exit.inBlock, Exit.then]); refine bodyPost_ret (results_none rfl _ _ _) rfl ?_
  exact ⟨rfl, _, HI.out.after HQ.out.2 HQ.out.1⟩
end

theorem rd_append {a b : List Int} {x : Int} {n : Nat} (h : n = a.length) : rd (a ++ x :: b) (n : Int) = x := by subst h; simp [rd]
theorem wrap_id (a : Int) (h0 : -4000000000000 ≤ a) (h1 : a ≤ 4000000000000) : wrap64 a = a := by unfold wrap64; omega
section
variable {σ : Type} {cb : Cb σ} {leaf : List Int → List Int → σ → σ} {Good : List Int → List Int → Prop} {fnc : Nat} {caps : Array Value} {w0 W : World} {gf gp gc gl gfl : Nat} {Ap : Option Addr} {cp : Nat} {pieces : List Int} {Al : Option Addr} {cl : Nat} {left : List Int} {vf : Value} {fr : List Int} {s : σ} {dn ps : List Int} {x : Int} {n : Nat}
/-- One coil's turn. -/
def turn (leaf : List Int → List Int → σ → σ) (ps : List Int) (x : Int) (left fr : List Int) (k : Int) (s : σ) : σ := if x ≤ rd left k then wkG leaf ps (left.set k.toNat (rd left k - x)) (fr ++ [k]) s else s
set_option maxHeartbeats 8000000 in
set_option maxRecDepth 100000 in
theorem fill_node (hc : FC w0 gf gp gc gl gfl Ap pieces) (hpc : pieces = dn ++ x :: ps) (hx : 0 ≤ x ∧ x ≤ 1000000) (hl1 : pieces.length ≤ 1000) (hl2 : n ≤ 1000)
    (ih : ∀ (W : World) (left fr : List Int) (vf : Value) (s : σ), FI cb w0 gf gp gc gl gfl (.func (.func fnc) #[] caps) Ap cp pieces (.slice Al n cl) left vf fr s W → fr.length = dn.length + 1 → left.length = n → Good left fr →
      Calls Try.prog 38 #[.pointer (some ⟨gf, 0, none⟩), .pointer (some ⟨gp, 0, none⟩), .pointer (some ⟨gc, 0, none⟩), .pointer (some ⟨gl, 0, none⟩), .pointer (some ⟨gfl, 0, none⟩)] W (PostF cb w0 gf gp gc gl gfl (.func (.func fnc) #[] caps) Ap cp pieces (.slice Al n cl) left fr (wkG leaf ps left fr s)))
    (hgood : ∀ left fr (k : Int), Good left fr → fr.length = dn.length → 0 ≤ k → k < left.length → x ≤ rd left k → Good (left.set k.toNat (rd left k - x)) (fr ++ [k]))
    (hnum : ∀ left fr (k : Int), Good left fr → 0 ≤ k → k < left.length → 0 ≤ rd left k ∧ rd left k ≤ 1000000)
    (h : FI cb w0 gf gp gc gl gfl (.func (.func fnc) #[] caps) Ap cp pieces (.slice Al n cl) left vf fr s W) (hlen : fr.length = dn.length) (hg : Good left fr) :
    Calls Try.prog 38 #[.pointer (some ⟨gf, 0, none⟩), .pointer (some ⟨gp, 0, none⟩), .pointer (some ⟨gc, 0, none⟩), .pointer (some ⟨gl, 0, none⟩), .pointer (some ⟨gfl, 0, none⟩)] W (PostF cb w0 gf gp gc gl gfl (.func (.func fnc) #[] caps) Ap cp pieces (.slice Al n cl) left fr (wkG leaf (x :: ps) left fr s)) := by
  have hnl := (Kd.R_reads' h.rl).1
  obtain ⟨Af, cf, hvf⟩ := Kd.R_slice h.rf
  subst hvf
  have hlt : fr.length < pieces.length := by rw [hpc]; simp; omega
  have hrd : rd pieces (fr.length : Int) = x := by rw [hpc]; exact rd_append hlen
  have HC := Aside0.mk hc
  have HI := Aside0.mk h
  have HIH := Aside0.mk ih
  have HG := Aside0.mk hg
  have HN := Aside0.mk (And.intro hgood (And.intro hnum hx))
  have HL := Aside0.mk (And.intro hl1 (And.intro hl2 (And.intro hlt (And.intro hrd (And.intro hlen hnl)))))
  have f0 := blk_cell h.f 0
  have f1 := blk_cell h.p 0
  have f3 := blk_cell h.l 0
  simp only [List.getElem?_toArray, List.getElem?_cons_zero] at f0 f1 f3
  have ceq : ((fr.length : Int) == (pieces.length : Int)) = false := by simp; omega
  clear hc h ih hg hlen hgood hnum hx hl1 hl2 hlt hrd hpc hnl
  go_enter Try.func38, Try.ntmps38
  go_wp2_with (fail)
  go_loopg [19] (n + 1) (fun kq v19 w' => ∃ (i : Int), v19 = .int .i64 i ∧ Aside0 (0 ≤ i ∧ i + kq = n + 1 ∧ 1 ≤ kq) ∧ ∃ vf s', Aside0 (FI cb w0 gf gp gc gl gfl (.func (.func fnc) #[] caps) Ap cp pieces (.slice Al n cl) left vf fr s' w') ∧ Aside0 (rdsG (turn leaf ps x left fr) (kq - 1) i s' = wkG leaf (x :: ps) left fr s))
  case atStart => exact ⟨0, rfl, ⟨by omega, by omega, by omega⟩, _, s, HI, ⟨by show rdsG _ n 0 s = rdsG _ left.length 0 s; rw [← HL.out.2.2.2.2.2]; rfl⟩⟩
  case round =>
    obtain ⟨i, rfl, HA, vf, s', HJ, HS⟩ := hrel
    obtain ⟨k0, kk, k1⟩ := HA.out
    obtain ⟨gq, rfl⟩ : ∃ m, gk = m + 1 := ⟨gk - 1, by omega⟩
    have HK := Aside0.mk (And.intro k0 kk)
    clear HA k0 kk k1 f0 f1 f3
    obtain ⟨Af', cf', hvf⟩ := Kd.R_slice HJ.out.rf
    subst hvf
    have f0 := blk_cell HJ.out.f 0
    have f1 := blk_cell HJ.out.p 0
    have f3 := blk_cell HJ.out.l 0
    simp only [List.getElem?_toArray, List.getElem?_cons_zero] at f0 f1 f3
    by_cases c2 : i < (n : Int)
    · have c2b := decide_eq_true c2
      obtain ⟨b, hb⟩ : ∃ b, Al = some ⟨b, 0, none⟩ := by
        rcases row_at HJ.out.rl with ⟨_, z, _⟩ | ⟨g, z, _⟩
        · have := HK.out; omega
        · exact ⟨g, z⟩
      subst hb
      have nl := HL.out.2.2.2.2.2
      have g0 : wr.cell? ⟨b, i.toNat, none⟩ = some (.int .i64 (rd left i)) := (row_cell HJ.out.rl i HK.out.1 c2).1
      have z0 := (row_cell HJ.out.rl i HK.out.1 c2).2
      clear nl
      obtain ⟨ad, hap, g1⟩ := Kd.at_int (Kd.C_below HC.out.pr HJ.out.bw) (fr.length : Int) (by omega) (by have := HL.out; omega)
      subst hap
      rw [HL.out.2.2.2.1, Int.toNat_natCast] at g1
      have p2 := eq_true HK.out.1
      have p3 := eq_true c2
      have p4 : ((fr.length : Int) < (pieces.length : Int)) = True := eq_true (by have := HL.out; omega)
      have p5 : (fr.length < pieces.length) = True := eq_true (by have := HL.out; omega)
      have C2 := Aside0.mk c2
      clear c2
      by_cases c3 : rd left i < x
      · have c3b := decide_eq_true c3
        have C3 := Aside0.mk c3
        clear c3
        go_wp2_with (fail)
        go_quiet (fail)
        go_wp2_with (fail)
        go_roundg gq
        case measure => omega
        case rel =>
          have hw := wrap_id (i + 1) (by have := HK.out; omega) (by have := HK.out; have := HL.out.2.1; omega)
          refine ⟨i + 1, by rw [hw], ⟨by have := HK.out; omega, by have := HK.out; omega, by have := C2.out; have := HK.out; omega⟩, _, s', ⟨HJ.out.drewN _⟩, ⟨?_⟩⟩
          rw [← HS.out]
          obtain ⟨gr, rfl⟩ : ∃ m, gq = m + 1 := ⟨gq - 1, by have := C2.out; have := HK.out; omega⟩
          show rdsG _ gr (i + 1) s' = rdsG _ (gr + 1) i s'
          rw [rdsG, turn, if_neg (by have := C3.out; omega)]
      · have c3b := decide_eq_false c3
        have C3 := Aside0.mk c3
        clear c3
        go_wp2_with (fail)
        go_quiet (fail)
        go_wp2_with (fail)
        refine wp_region_still_tail 9 (by kernel_rfl) (by kernel_rfl) ?_
        simp only [List.take_succ_cons, List.take_zero, List.drop_succ_cons, List.drop_zero]
        change wpStill _ _ (World.drew _) _ _ _
        repeat still_step
        refine wpStill_nil ?_
        change wpList _ _ _ _ _ (World.drew (World.drewN wr nq))
        obtain ⟨w3, HW⟩ : ∃ w3, Aside0 (w3 = (wr.drewN nq).drew) := ⟨_, ⟨rfl⟩⟩
        rw [← HW.out]
        have HJ3 := Aside0.mk (show FI cb w0 gf gp gc gl gfl (.func (.func fnc) #[] caps) (some ad) cp pieces (.slice (some ⟨b, 0, none⟩) n cl) left (.slice Af' fr.length cf') fr s' w3 from HW.out ▸ (HJ.out.drewN nq).drew)
        clear HW HJ f0 f1 f3 g0 g1 z0
        have z0 := (row_cell HJ3.out.rl i HK.out.1 C2.out).2
        have g0 : w3.cell? ⟨b, i.toNat, none⟩ = some (.int .i64 (rd left i)) := (row_cell HJ3.out.rl i HK.out.1 C2.out).1
        have hw := wrap_id (rd left i - x) (by have := HN.out.2.1 left fr i HG.out HK.out.1 (by have := HL.out.2.2.2.2.2; have := C2.out; omega); have := HN.out.2.2; omega) (by have := HN.out.2.1 left fr i HG.out HK.out.1 (by have := HL.out.2.2.2.2.2; have := C2.out; omega); have := HN.out.2.2; omega)
        have HWR := Aside0.mk hw
        clear hw
        go_upto_region 8 with (fail)
        obtain ⟨w4, HW⟩ : ∃ w4, Aside0 (w4 = w3.setCell ⟨b, i.toNat, none⟩ (.int .i64 (wrap64 (rd left i - x)))) := ⟨_, ⟨rfl⟩⟩
        rw [← HW.out]
        obtain ⟨left1, HL1⟩ : ∃ l1, Aside0 (l1 = left.set i.toNat (rd left i - x)) := ⟨_, ⟨rfl⟩⟩
        have e1 : left1.length = left.length := by rw [HL1.out]; simp
        have HJ4 := Aside0.mk (show FI cb w0 gf gp gc gl gfl (.func (.func fnc) #[] caps) (some ad) cp pieces (.slice (some ⟨b, 0, none⟩) n cl) left1 (.slice Af' fr.length cf') fr s' w4 from by rw [HW.out, HL1.out, HWR.out]; exact HJ3.out.putL i _)
        have E1 := Aside0.mk e1
        clear e1 HW HJ3 g0 z0
        have f0 := blk_cell HJ4.out.f 0
        simp only [List.getElem?_toArray, List.getElem?_cons_zero] at f0
        go_upto_region 9 with (at_builtin; refine Kd.R_append (Kd.int .i64) (w0 := w0) w0.heap.size rfl (.tmp 41) (.tmp 43) 22 2 (.int .i64 0) 8 rfl Try.underlying22 info2 rfl (by decide) (by omega) (.slice Af' fr.length cf') fr i [.int .i64 i] (fun k => k ∉ D5 gf gp gc gl gfl ∧ some k ≠ (Value.slice (some ⟨b, 0, none⟩) n cl).ownBlock) (fun _ => False) rfl (by first | (go_simp; done) | (go_simp; rfl)) ?aP (fun _ hk => hk.elim) ?aF ?aO ?aB ?aS ?aL ?_; (case aP => exact rfl); (case aF => exact fun k hk => ⟨fun hm => (HJ4.out.fresh k hk).2.1 hm, (HJ4.out.fresh k hk).2.2.1⟩); (case aO => exact HJ4.out.rf); (case aB => exact HJ4.out.bw); (case aS => exact HJ4.out.bw.size); (case aL => have := HL.out; omega); intro v1 w5 ho hb hg hat; obtain ⟨A1, c1, rfl⟩ := Kd.R_slice ho; have zf := blk_frozen (HJ4.out.keepF hg) 0; have cf5 := blk_cell (HJ4.out.keepF hg) 0; simp only [List.getElem?_toArray, List.getElem?_cons_zero] at cf5; have HAP := Aside0.mk (And.intro ho (And.intro hg hat)); clear ho hb hg hat f0)
        obtain ⟨w6, HW⟩ : ∃ w6, Aside0 (w6 = w5.setCell ⟨gf, 0, none⟩ (.slice A1 (fr.length + 1) c1)) := ⟨_, ⟨rfl⟩⟩
        rw [← HW.out]
        obtain ⟨fr1, HF1⟩ : ∃ f1, Aside0 (f1 = fr ++ [i]) := ⟨_, ⟨rfl⟩⟩
        have e2 : fr1.length = fr.length + 1 := by rw [HF1.out]; simp
        have HJ6 := Aside0.mk (show FI cb w0 gf gp gc gl gfl (.func (.func fnc) #[] caps) (some ad) cp pieces (.slice (some ⟨b, 0, none⟩) n cl) left1 (.slice A1 fr1.length c1) fr1 s' w6 from by
          have ho := HAP.out.1
          rw [← HF1.out] at ho
          rw [HW.out, e2]
          rw [e2] at ho
          exact FI.setF HC.out HJ4.out HAP.out.2.1 (by have h := HAP.out.2.2; cases A1 <;> exact h) ho)
        have E2 := Aside0.mk e2
        clear e2 HW HJ4 HAP zf cf5
        have f4 := blk_cell HJ6.out.fl 0
        simp only [List.getElem?_toArray, List.getElem?_cons_zero] at f4
        have hgd := Aside0.mk (show Good left1 fr1 from by rw [HL1.out, HF1.out]; exact HN.out.1 left fr i HG.out HL.out.2.2.2.2.1 HK.out.1 (by have := HL.out.2.2.2.2.2; have := C2.out; omega) (by have := C3.out; omega))
        go_wp2_with (fail)
        refine (HIH.out w6 left1 fr1 (.slice A1 fr1.length c1) s' HJ6.out (by rw [E2.out, HL.out.2.2.2.2.1]) (by rw [E1.out]; exact HL.out.2.2.2.2.2.symm) hgd.out).mono ?_
        rintro e w7 ⟨rfl, vf7, hJ7⟩
        obtain ⟨A7, c7, hvf⟩ := Kd.R_slice hJ7.rf
        subst hvf
        have HJ7 := Aside0.mk hJ7
        clear hJ7 HJ6 f4
        have f0 := blk_cell HJ7.out.f 0
        have z0 := blk_frozen HJ7.out.f 0
        simp only [List.getElem?_toArray, List.getElem?_cons_zero] at f0
        obtain ⟨ti, hti, _, htz, _⟩ := info_parts info2
        have hle := (Kd.R_reads' HJ7.out.rf).2.1
        have hcut := cut_to (P := Try.prog) 22 2 .i64 Try.underlying22 hti A7 fr1.length c7 (fr.length : Int) (by omega) (by have := E2.out; omega) hle
        simp only [Int.toNat_natCast] at hcut
        clear hle htz hti
        go_upto_region 11 with (fail)
        obtain ⟨w8, HW⟩ : ∃ w8, Aside0 (w8 = w7.setCell ⟨gf, 0, none⟩ (.slice A7 fr.length c7)) := ⟨_, ⟨rfl⟩⟩
        rw [← HW.out]
        have HJ8 := Aside0.mk (show FI cb w0 gf gp gc gl gfl (.func (.func fnc) #[] caps) (some ad) cp pieces (.slice (some ⟨b, 0, none⟩) n cl) left1 (.slice A7 fr.length c7) fr (wkG leaf ps left1 fr1 s') w8 from by
          have h := FI.cut HC.out HJ7.out (m := fr.length) (by have := E2.out; omega)
          have e : fr1.take fr.length = fr := by rw [HF1.out, List.take_left]
          rw [e] at h
          rw [HW.out]
          exact h)
        clear HW HJ7 f0 z0 hcut
        have f1 := blk_cell HJ8.out.p 0
        have f3 := blk_cell HJ8.out.l 0
        simp only [List.getElem?_toArray, List.getElem?_cons_zero] at f1 f3
        have hrd1 : rd left1 i = rd left i - x := by
          rw [HL1.out]
          have h1 : i.toNat < left.length := by have := HL.out.2.2.2.2.2; have := C2.out; have := HK.out; omega
          simp [rd, List.getD_eq_getElem?_getD, List.getElem?_set, h1]
        have g0 : w8.cell? ⟨b, i.toNat, none⟩ = some (.int .i64 (rd left i - x)) := hrd1 ▸ (row_cell HJ8.out.rl i HK.out.1 C2.out).1
        have g1 : w8.cell? (ad.add fr.length) = some (.int .i64 x) := by
          obtain ⟨ad', hap, g1⟩ := Kd.at_int (Kd.C_below HC.out.pr HJ8.out.bw) (fr.length : Int) (by omega) (by have := HL.out; omega)
          injection hap with hap
          subst hap
          rw [HL.out.2.2.2.1, Int.toNat_natCast] at g1
          exact g1
        clear hrd1
        refine wp_region_still_tail 9 (by kernel_rfl) (by kernel_rfl) ?_
        simp only [List.take_succ_cons, List.take_zero, List.drop_succ_cons, List.drop_zero]
        change wpStill _ _ (World.drew _) _ _ _
        repeat still_step
        refine wpStill_nil ?_
        change wpList _ _ _ _ _ (World.drew w8)
        obtain ⟨w9, HW⟩ : ∃ w9, Aside0 (w9 = w8.drew) := ⟨_, ⟨rfl⟩⟩
        rw [← HW.out]
        have HJ9 := Aside0.mk (show FI cb w0 gf gp gc gl gfl (.func (.func fnc) #[] caps) (some ad) cp pieces (.slice (some ⟨b, 0, none⟩) n cl) left1 (.slice A7 fr.length c7) fr (wkG leaf ps left1 fr1 s') w9 from HW.out ▸ HJ8.out.drew)
        clear HW HJ8 f1 f3 g0 g1
        have z0 := (row_cell HJ9.out.rl i HK.out.1 C2.out).2
        have g0 : w9.cell? ⟨b, i.toNat, none⟩ = some (.int .i64 (rd left1 i)) := (row_cell HJ9.out.rl i HK.out.1 C2.out).1
        go_wp2_with (fail)
        go_roundg gq
        case measure => omega
        case rel =>
          have hw := wrap_id (i + 1) (by have := HK.out; omega) (by have := HK.out; have := HL.out.2.1; omega)
          have hb := HN.out.2.1 left fr i HG.out HK.out.1 (by have := HL.out.2.2.2.2.2; have := C2.out; omega)
          have hw2 := wrap_id (rd left i) (by omega) (by omega)
          have hback : left1.set i.toNat (rd left i) = left := by
            rw [HL1.out, List.set_set]
            have h1 : i.toNat < left.length := by have := HL.out.2.2.2.2.2; have := C2.out; have := HK.out; omega
            have e : rd left i = left[i.toNat] := by simp [rd, List.getD_eq_getElem?_getD, h1]
            rw [e, List.set_getElem_self]
          refine ⟨i + 1, by rw [hw], ⟨by have := HK.out; omega, by have := HK.out; omega, by have := C2.out; have := HK.out; omega⟩, .slice A7 fr.length c7, wkG leaf ps left1 fr1 s', ⟨?_⟩, ⟨?_⟩⟩
          · rw [hw2]
            have h := HJ9.out.putL i (rd left i)
            rw [hback] at h
            exact h
          · rw [← HS.out]
            obtain ⟨gr, rfl⟩ : ∃ m, gq = m + 1 := ⟨gq - 1, by have := C2.out; have := HK.out; omega⟩
            show rdsG _ gr (i + 1) _ = rdsG _ (gr + 1) i s'
            rw [rdsG, turn, if_pos (by have := C3.out; omega), ← HL1.out, ← HF1.out]
    · have c2b := decide_eq_false c2
      have C2 := Aside0.mk c2
      clear c2
      go_wp2_with (fail)
      go_end0
      obtain rfl : gq = 0 := by have := C2.out; have := HK.out; omega
      have hs : s' = wkG leaf (x :: ps) left fr s := HS.out
      subst hs
      exact ⟨rfl, _, HJ.out⟩
end

section
variable {σ : Type} {cb : Cb σ} {leaf : List Int → List Int → σ → σ} {Good : List Int → List Int → Prop} {fnc : Nat} {caps : Array Value} {w0 : World} {gf gp gc gl gfl : Nat} {Ap : Option Addr} {cp : Nat} {pieces : List Int} {Al : Option Addr} {cl n : Nat}
/-- What keeps true from cut to cut: it is handed on, and the numbers are small. -/
structure GoodOk (Good : List Int → List Int → Prop) (pieces : List Int) : Prop where
  step : ∀ dn x ps left fr (k : Int), pieces = dn ++ x :: ps → Good left fr → fr.length = dn.length → 0 ≤ k → k < left.length → x ≤ rd left k → Good (left.set k.toNat (rd left k - x)) (fr ++ [k])
  num : ∀ left fr (k : Int), Good left fr → 0 ≤ k → k < left.length → 0 ≤ rd left k ∧ rd left k ≤ 1000000
  pcs : ∀ x, x ∈ pieces → 0 ≤ x ∧ x ≤ 1000000
  len : pieces.length ≤ 1000
theorem fill_calls (hent : ∀ args w, (callFunc fnc args).run Try.prog w = .ok (.enter fnc args) w) (hcb : CbOk cb leaf Good fnc caps) (hc : FC w0 gf gp gc gl gfl Ap pieces) (hgd : GoodOk Good pieces) (hn : n ≤ 1000) :
    ∀ (ps dn : List Int) (W : World) (left fr : List Int) (vf : Value) (s : σ), pieces = dn ++ ps → FI cb w0 gf gp gc gl gfl (.func (.func fnc) #[] caps) Ap cp pieces (.slice Al n cl) left vf fr s W → fr.length = dn.length → Good left fr →
      Calls Try.prog 38 #[.pointer (some ⟨gf, 0, none⟩), .pointer (some ⟨gp, 0, none⟩), .pointer (some ⟨gc, 0, none⟩), .pointer (some ⟨gl, 0, none⟩), .pointer (some ⟨gfl, 0, none⟩)] W (PostF cb w0 gf gp gc gl gfl (.func (.func fnc) #[] caps) Ap cp pieces (.slice Al n cl) left fr (wkG leaf ps left fr s)) := by
  intro ps
  induction ps with
  | nil =>
    intro dn W left fr vf s hp h hlen hg
    have e := (Kd.R_reads' h.rl).1
    subst e
    obtain ⟨Af, cf, hvf⟩ := Kd.R_slice h.rf
    subst hvf
    exact fill_leaf hent hcb hc h (by rw [hp, hlen]; simp) hg
  | cons x ps ih =>
    intro dn W left fr vf s hp h hlen hg
    refine fill_node hc hp (hgd.pcs x (by rw [hp]; simp)) hgd.len hn (fun W' left' fr' vf' s' h' hl' hn' hg' => ih (dn ++ [x]) W' left' fr' vf' s' (by rw [hp]; simp) h' (by rw [hl']; simp) hg') (fun left' fr' k hg' hl' h0 h1 h2 => hgd.step dn x ps left' fr' k hp hg' hl' h0 h1 h2) hgd.num h hlen hg
end

section
variable {σ : Type} {cb : Cb σ} {leaf : List Int → List Int → σ → σ} {Good : List Int → List Int → Prop} {fnc : Nat} {caps : Array Value} {w0 W : World} {Ap : Option Addr} {cp : Nat} {pieces : List Int} {Ac : Option Addr} {cc : Nat} {coils : List Int} {s : σ}
def PostE {σ : Type} (cb : Cb σ) (w0 : World) (s : σ) (e : Ending) (W : World) : Prop := e = .returned (.tuple #[]) ∧ cb.Q W (fun k => w0.heap.size ≤ k) s ∧ Below w0.heap.size w0 W
set_option maxHeartbeats 8000000 in
set_option maxRecDepth 100000 in
theorem each_calls (hent : ∀ args w, (callFunc fnc args).run Try.prog w = .ok (.enter fnc args) w) (hcb : CbOk cb leaf Good fnc caps) (hgd : GoodOk Good pieces) (hB : Below w0.heap.size w0 W) (hpr : Kd.C (Kd.int .i64) w0 Ap pieces.length pieces) (hq : cb.Q W (fun k => w0.heap.size ≤ k) s) (hcr : Kd.C (Kd.int .i64) W Ac coils.length coils) (hcc : coils.length ≤ cc) (hcn : coils.length ≤ 1000) (hg : Good coils []) :
    Calls Try.prog 22 #[.slice Ac coils.length cc, .slice Ap pieces.length cp, .func (.func fnc) #[] caps] W (PostE cb w0 (wkG leaf pieces coils [] s)) := by
  have H0 := Aside0.mk (And.intro hent (And.intro hcb (And.intro hgd (And.intro hB (And.intro hpr (And.intro hq (And.intro hcr (And.intro hcc (And.intro hcn hg)))))))))
  clear hent hcb hgd hB hpr hq hcr hcc hcn hg
  go_enter Try.func22, Try.ntmps22
  go_upto_region 1 with (fail)
  obtain ⟨gp, HP⟩ : ∃ gp, Aside0 (gp = W.heap.size) := ⟨_, ⟨rfl⟩⟩
  rw [← HP.out]
  obtain ⟨w1, HW⟩ : ∃ w1, Aside0 (w1 = (W.alloc (.cells #[.slice Ap pieces.length cp] 22)).alloc (.cells #[.func (.func fnc) #[] caps] 43)) := ⟨_, ⟨rfl⟩⟩
  rw [← HW.out]
  have HB1 := Aside0.mk (show Below W.heap.size W w1 from HW.out ▸ below_alloc (below_alloc (Below.refl _ _) _) _)
  have HG1 := Aside0.mk (show w1.heap.size = gp + 2 ∧ w1.heap[gp]? = some (.cells #[.slice Ap pieces.length cp] 22 (0, 0)) ∧ w1.heap[gp + 1]? = some (.cells #[.func (.func fnc) #[] caps] 43 (0, 0)) from by
    rw [HW.out, HP.out]
    exact ⟨by rw [size_alloc, size_alloc], alloc_old (alloc_at _ _) _, by have h := alloc_at (W.alloc (.cells #[.slice Ap pieces.length cp] 22)) (.cells #[.func (.func fnc) #[] caps] 43); rw [size_alloc] at h; exact h⟩)
  clear HW
  go_upto_region 2 with (first | ((with_reducible refine gate_dst (N := 9) rfl ?_); refine Kd.R_lit (Kd.int .i64) (w0 := w1) w1.heap.size 2 ?hg (N := 9) ?hd (xs := ([] : List Int)) (inner := []) (ok := fun _ => True) (okp := fun _ => True) ?hr ?hp (fun _ hk => hk) trivial (Below.refl _ _) (Nat.le_refl _) (by simp) ?_; (case hd => rfl); (case hg => rfl); (case hr => first | (go_simp; done) | (go_simp; rfl)); (case hp => exact (Reps.none _ _)); intro v9 w2 ho hb hg_ hnew_; have HV9 := Aside0.mk (And.intro ho hb); clear hg_ hnew_ ho hb) | (at_builtin; refine Kd.R_append_rows (Kd.int .i64) (w0 := w1) w1.heap.size rfl (.tmp 9) (.tmp 10) 22 2 (.int .i64 0) 8 rfl Try.underlying22 info2 rfl (by decide) (by omega) v9 [] coils _ _ _ (fun _ => True) (fun _ => False) rfl rfl ?aO ?aR (fun _ _ h => h) (fun _ h => h.elim) ?aF ?aB ?aS ?aL ?_; (case aR => exact Kd.C_below (Kd.C_below H0.out.2.2.2.2.2.2.1 HB1.out) (HV9.out.2)); (case aB => exact HV9.out.2); (case aF => exact (fun _ _ => trivial)); (case aO => exact HV9.out.1); (case aS => exact HV9.out.2.size); (case aL => have := H0.out.2.2.2.2.2.2.2.2.1; simp; omega); intro v11 w3 ho hb hg hat; obtain ⟨A11, c11, rfl⟩ := Kd.R_slice ho; have HV11 := Aside0.mk (And.intro ho hb); clear ho hb hg hat))
  obtain ⟨gl, HL⟩ : ∃ gl, Aside0 (gl = w3.heap.size) := ⟨_, ⟨rfl⟩⟩
  rw [← HL.out]
  obtain ⟨w4, HW⟩ : ∃ w4, Aside0 (w4 = w3.alloc (.cells #[.slice A11 coils.length c11] 22)) := ⟨_, ⟨rfl⟩⟩
  rw [← HW.out]
  have HG4 := Aside0.mk (show Below w3.heap.size w3 w4 ∧ w4.heap.size = gl + 1 ∧ w4.heap[gl]? = some (.cells #[.slice A11 coils.length c11] 22 (0, 0)) from by
    rw [HW.out, HL.out]
    exact ⟨below_alloc (Below.refl _ _) _, size_alloc _ _, alloc_at _ _⟩)
  clear HW
  go_upto_region 3 with ((with_reducible refine gate_dst (N := 12) rfl ?_); refine Kd.R_lit (Kd.int .i64) (w0 := w4) w4.heap.size 2 ?hg (N := 12) ?hd (xs := ([] : List Int)) (inner := []) (ok := fun _ => True) (okp := fun _ => True) ?hr ?hp (fun _ hk => hk) trivial (Below.refl _ _) (Nat.le_refl _) (by simp) ?_; (case hd => rfl); (case hg => rfl); (case hr => first | (go_simp; done) | (go_simp; rfl)); (case hp => exact (Reps.none _ _)); intro v12 w5 ho hb hg_ hnew_; obtain ⟨A12, c12, hv12⟩ := Kd.R_slice ho; simp only [List.length_nil] at hv12; subst hv12; have HV12 := Aside0.mk (And.intro ho hb); clear hg_ hnew_ ho hb)
  obtain ⟨gf, HF⟩ : ∃ gf, Aside0 (gf = w5.heap.size) := ⟨_, ⟨rfl⟩⟩
  rw [← HF.out]
  obtain ⟨w6, HW⟩ : ∃ w6, Aside0 (w6 = w5.alloc (.cells #[.slice A12 0 c12] 22)) := ⟨_, ⟨rfl⟩⟩
  rw [← HW.out]
  have HG6 := Aside0.mk (show Below w5.heap.size w5 w6 ∧ w6.heap.size = gf + 1 ∧ w6.heap[gf]? = some (.cells #[.slice A12 0 c12] 22 (0, 0)) from by
    rw [HW.out, HF.out]
    exact ⟨below_alloc (Below.refl _ _) _, size_alloc _ _, alloc_at _ _⟩)
  clear HW
  go_upto_region 5 with (fail)
  obtain ⟨gfl, HFL⟩ : ∃ gfl, Aside0 (gfl = w6.heap.size) := ⟨_, ⟨rfl⟩⟩
  rw [← HFL.out]
  obtain ⟨w7, HW⟩ : ∃ w7, Aside0 (w7 = w6.alloc (.cells #[.func (.func 38) #[] #[.pointer (some ⟨gf, 0, none⟩), .pointer (some ⟨gp, 0, none⟩), .pointer (some ⟨gp + 1, 0, none⟩), .pointer (some ⟨gl, 0, none⟩), .pointer (some ⟨gfl, 0, none⟩)]] 1)) := ⟨_, ⟨rfl⟩⟩
  rw [← HW.out]
  have HI := Aside0.mk (show FC w0 gf gp (gp + 1) gl gfl Ap pieces ∧ FI cb w0 gf gp (gp + 1) gl gfl (.func (.func fnc) #[] caps) Ap cp pieces (.slice A11 coils.length c11) coils (.slice A12 0 c12) [] s w7 from by
    obtain ⟨hent, hcb, hgd, hB, hpr, hq, hcr, hcc, hcn, hg⟩ := H0.out
    have e1 := HG1.out
    have e4 := HG4.out
    have e6 := HG6.out
    have eP := HP.out
    have eL := HL.out
    have eF := HF.out
    have eFL := HFL.out
    have b13 := HV11.out.2
    have b45 := HV12.out.2
    have b67 : Below w6.heap.size w6 w7 := HW.out ▸ below_alloc (Below.refl _ _) _
    have s1 := hB.size
    have s3 := b13.size
    have s5 := b45.size
    have b17 : Below w1.heap.size w1 w7 := b13.trans (((e4.1.trans (b45.mono e4.1.size)).trans ((e6.1.trans (b67.mono e6.1.size)).mono (Nat.le_trans e4.1.size b45.size))).mono b13.size)
    have b37 : Below w3.heap.size w3 w7 := ((e4.1.trans (b45.mono e4.1.size)).trans ((e6.1.trans (b67.mono e6.1.size)).mono (Nat.le_trans e4.1.size b45.size)))
    have b47 : Below w4.heap.size w4 w7 := b45.trans ((e6.1.trans (b67.mono e6.1.size)).mono b45.size)
    have b57 : Below w5.heap.size w5 w7 := e6.1.trans (b67.mono e6.1.size)
    have bW7 : Below W.heap.size W w7 := HB1.out.trans (b17.mono HB1.out.size)
    refine ⟨⟨?_, ?_, hpr⟩, ⟨hB.trans (bW7.mono hB.size), ?_, ?_, ?_, ?_, ?_, ?_, ?_, ?_⟩⟩
    · simp only [D5, List.nodup_cons, List.mem_cons, List.not_mem_nil, or_false, not_false_eq_true, and_true, List.nodup_nil, not_or]
      omega
    · intro k hk
      rw [FI.mem5] at hk
      omega
    · exact (b67.block gf (blk_lt e6.2.2)).trans e6.2.2
    · exact (b17.block gp (blk_lt e1.2.1)).trans e1.2.1
    · exact (b17.block (gp + 1) (blk_lt e1.2.2)).trans e1.2.2
    · exact (b47.block gl (blk_lt e4.2.2)).trans e4.2.2
    · rw [HW.out, HFL.out]; exact alloc_at _ _
    · refine Kd.R_mono (Kd.R_lower (Kd.R_below (Kd.R_own1 (Kd.R_bound HV11.out.1)) b37) (Nat.le_trans s1 (by have := HB1.out.size; omega))) ?_
      intro k hk
      obtain ⟨⟨_, h1, h2, _⟩, _, _⟩ := hk
      refine ⟨fun hm => ?_, fun e => ?_⟩
      · rw [FI.mem5] at hm; omega
      · have := Kd.R_base HV12.out.1 k e.symm; omega
    · refine Kd.R_mono (Kd.R_lower (Kd.R_below (Kd.R_own1 (Kd.R_bound HV12.out.1)) b57) (Nat.le_trans s1 (by have := HB1.out.size; omega))) ?_
      intro k hk
      obtain ⟨⟨_, h1, h2, _⟩, _, _⟩ := hk
      refine ⟨fun hm => ?_, fun e => ?_⟩
      · rw [FI.mem5] at hm; omega
      · have := Kd.R_lt HV11.out.1 k e.symm; omega
    · refine cb.mono (cb.stay (cb.bound hq) (fun k hk hlt => bW7.block k hlt)) ?_
      intro k hk
      refine ⟨hk.1, fun hm => ?_, fun e => ?_, fun e => ?_⟩
      · rw [FI.mem5] at hm; have := hk.2; omega
      · have := Kd.R_base HV11.out.1 k e.symm; have := hk.2; omega
      · have := Kd.R_base HV12.out.1 k e.symm; have := hk.2; omega)
  have f5 := blk_cell HI.out.2.fl 0
  simp only [List.getElem?_toArray, List.getElem?_cons_zero] at f5
  go_wp2_with (fail)
  refine (fill_calls H0.out.1 H0.out.2.1 HI.out.1 H0.out.2.2.1 (n := coils.length) H0.out.2.2.2.2.2.2.2.2.1 pieces [] w7 coils [] (.slice A12 0 c12) s rfl HI.out.2 rfl H0.out.2.2.2.2.2.2.2.2.2).mono ?_
  rintro e w8 ⟨rfl, vf8, hJ8⟩
  have HJ8 := Aside0.mk hJ8
  clear hJ8 f5
  go_wp2
  go_end0
  exact ⟨rfl, cb.mono HJ8.out.q (fun k hk => hk.1), HJ8.out.bw⟩
end

/-- LongestRest's own variable. -/
def cbL (g : Nat) : Cb Int where
  Q := fun W ok s => ok g ∧ W.heap[g]? = some (.cells #[.int .i64 s] 2 (0, 0))
  mono := fun h hk => ⟨hk _ h.1, h.2⟩
  bound := fun h => ⟨⟨h.1, blk_lt h.2⟩, h.2⟩
  move := fun h hm => ⟨h.1, (hm g h.1).trans h.2⟩
/-- The greatest of some numbers and r. -/
def gmx (l : List Int) : Nat → Int → Int → Int
  | 0, _, r => r
  | m + 1, i, r => gmx l m (i + 1) (mx r (rd l i))
def leafL (left _fr : List Int) (s : Int) : Int := gmx left left.length 0 (mx s 0)
section
variable {g : Nat}
set_option maxHeartbeats 8000000 in
set_option maxRecDepth 100000 in
theorem cbL_ok (Good : List Int → List Int → Prop) (hgd : ∀ left fr, Good left fr → left.length ≤ 1000) : CbOk (cbL g) leafL Good 23 #[.pointer (some ⟨g, 0, none⟩)] := by
  intro W ok s fr left Af cf Al cl hq hcf hcc hcl hcc2 hnf hnl hfr hg
  have hq2 : W.heap[g]? = some (.cells #[.int .i64 s] 2 (0, 0)) := hq.2
  have f0 := blk_cell hq2 0
  have z0 := blk_frozen hq2 0
  simp only [List.getElem?_toArray, List.getElem?_cons_zero] at f0
  have H0 := Aside0.mk (And.intro hq.1 (And.intro hcl (And.intro hnl (And.intro (hgd left fr hg) hq2))))
  clear hq hcf hcc hcl hcc2 hnf hnl hfr hg hq2
  show Calls Try.prog 23 #[.slice Af fr.length cf, .slice Al left.length cl, .pointer (some ⟨g, 0, none⟩)] W _
  by_cases c0 : s < 0
  all_goals
    (first | have c0b : (s < 0) = True := eq_true c0 | have c0b : (s < 0) = False := eq_false c0)
    have hm : mx s 0 = if s < 0 then 0 else s := rfl
    first | rw [if_pos c0] at hm | rw [if_neg c0] at hm
    have HM := Aside0.mk hm
    clear c0 hm
    go_enter Try.func23, Try.ntmps23
    go_wp2
    go_loopg [11] (left.length + 1) (fun kq v11 w' => ∃ (i : Int), v11 = .int .i64 i ∧ Aside0 (0 ≤ i ∧ i + kq = left.length + 1 ∧ 1 ≤ kq) ∧ ∃ r, Aside0 (w'.heap[g]? = some (.cells #[.int .i64 r] 2 (0, 0))) ∧ Aside0 (Touch ok W w') ∧ Aside0 (gmx left (kq - 1) i r = leafL left fr s))
    case atStart =>
      refine ⟨0, rfl, ⟨by omega, by omega, by omega⟩, mx s 0, ⟨?_⟩, ⟨(Touch.refl _ _).set (fun _ => H0.out.1) _⟩, ⟨rfl⟩⟩
      rw [HM.out]
      exact blk_set H0.out.2.2.2.2 0 _
    case round =>
      obtain ⟨i, rfl, HA, r, HR, HT, HS⟩ := hrel
      obtain ⟨k0, kk, k1⟩ := HA.out
      obtain ⟨gq, rfl⟩ : ∃ m, gk = m + 1 := ⟨gk - 1, by omega⟩
      have HK := Aside0.mk (And.intro k0 kk)
      clear HA k0 kk k1 f0 z0
      have f0 := blk_cell HR.out 0
      have z0 := blk_frozen HR.out 0
      simp only [List.getElem?_toArray, List.getElem?_cons_zero] at f0
      by_cases c2 : i < (left.length : Int)
      · have c2b := decide_eq_true c2
        obtain ⟨ad, rfl, g0⟩ := Kd.at_int (HT.out.C H0.out.2.1 H0.out.2.2.1) i HK.out.1 c2
        have p2 := eq_true HK.out.1
        have p3 := eq_true c2
        have C2 := Aside0.mk c2
        clear c2
        by_cases c3 : r < rd left i
        all_goals
          (first | have c3b : (r < rd left i) = True := eq_true c3 | have c3b : (r < rd left i) = False := eq_false c3)
          have hm2 : mx r (rd left i) = if r < rd left i then rd left i else r := rfl
          first | rw [if_pos c3] at hm2 | rw [if_neg c3] at hm2
          have HM2 := Aside0.mk hm2
          clear c3 hm2
          go_wp2
          go_roundg gq
          case measure => omega
          case rel =>
            have hw := wrap_id (i + 1) (by have := HK.out; omega) (by have := HK.out; have := H0.out.2.2.2.1; omega)
            refine ⟨i + 1, by rw [hw], ⟨by have := HK.out; omega, by have := HK.out; omega, by have := C2.out; have := HK.out; omega⟩, mx r (rd left i), ⟨?_⟩, ⟨HT.out.set (fun _ => H0.out.1) _⟩, ⟨?_⟩⟩
            · rw [HM2.out]
              exact blk_set HR.out 0 _
            · rw [← HS.out]
              obtain ⟨gr, rfl⟩ : ∃ m, gq = m + 1 := ⟨gq - 1, by have := C2.out; have := HK.out; omega⟩
              rfl
      · have c2b := decide_eq_false c2
        have C2 := Aside0.mk c2
        clear c2
        go_wp2
        go_end0
        obtain rfl : gq = 0 := by have := C2.out; have := HK.out; omega
        have hs : r = leafL left fr s := HS.out
        subst hs
        exact ⟨rfl, ⟨H0.out.1, HR.out⟩, HT.out⟩
end

/-- Where a number stands first, from i on; -1 if nowhere. -/
def idxI (l : List Int) (v : Int) : Nat → Int → Int
  | 0, _ => -1
  | m + 1, i => if v = rd l i then i else idxI l v m (i + 1)
def hasI (l : List Int) (v : Int) : Bool := decide (0 ≤ idxI l v l.length 0)
set_option maxHeartbeats 8000000 in
set_option maxRecDepth 100000 in
theorem index_calls (W : World) (Af : Option Addr) (cf : Nat) (l : List Int) (v : Int) (hr : Kd.C (Kd.int .i64) W Af l.length l) (hl : l.length ≤ 1000000) :
    Calls Try.prog 39 #[.slice Af l.length cf, .int .i64 v] W fun e w' => e = .returned (.int .i64 (idxI l v l.length 0)) ∧ w' = W := by
  have H0 := Aside0.mk (And.intro hr hl)
  clear hr hl
  go_enter Try.func39, Try.ntmps39
  go_wp2
  go_loopg [8] (l.length + 1) (fun kq v8 w' => ∃ (i : Int), v8 = .int .i64 i ∧ Aside0 (0 ≤ i ∧ i + kq = l.length + 1 ∧ 1 ≤ kq) ∧ Aside0 (idxI l v (kq - 1) i = idxI l v l.length 0) ∧ Aside0 (w' = W))
  case atStart => exact ⟨0, rfl, ⟨by omega, by omega, by omega⟩, ⟨rfl⟩, ⟨rfl⟩⟩
  case round =>
    obtain ⟨i, rfl, HA, HS, HW⟩ := hrel
    obtain ⟨k0, kk, k1⟩ := HA.out
    obtain ⟨gq, rfl⟩ : ∃ m, gk = m + 1 := ⟨gk - 1, by omega⟩
    have HK := Aside0.mk (And.intro k0 kk)
    obtain rfl := HW.out
    clear HA k0 kk k1 HW
    by_cases c2 : i < (l.length : Int)
    · have c2b := decide_eq_true c2
      obtain ⟨ad, rfl, g0⟩ := Kd.at_int H0.out.1 i HK.out.1 c2
      have p2 := eq_true HK.out.1
      have p3 := eq_true c2
      have C2 := Aside0.mk c2
      clear c2
      obtain ⟨gr, rfl⟩ : ∃ m, gq = m + 1 := ⟨gq - 1, by have := C2.out; have := HK.out; omega⟩
      by_cases c3 : v = rd l i
      · have c3b : (v == rd l i) = true := by simp [c3]
        have C3 := Aside0.mk c3
        clear c3
        go_wp2
        go_ret
        have hs : idxI l v (gr + 1) i = idxI l v l.length 0 := HS.out
        rw [idxI, if_pos C3.out] at hs
        rw [hs]
        exact ⟨rfl, rfl⟩
      · have c3b : (v == rd l i) = false := by simp [c3]
        have C3 := Aside0.mk c3
        clear c3
        go_wp2
        go_roundg (gr + 1)
        case measure => omega
        case rel =>
          have hw := wrap_id (i + 1) (by have := HK.out; omega) (by have := HK.out; have := H0.out.2; omega)
          refine ⟨i + 1, by rw [hw], ⟨by have := HK.out; omega, by have := HK.out; omega, by have := C2.out; have := HK.out; omega⟩, ⟨?_⟩, ⟨rfl⟩⟩
          have hs : idxI l v (gr + 1) i = idxI l v l.length 0 := HS.out
          rw [idxI, if_neg C3.out] at hs
          exact hs
    · have c2b := decide_eq_false c2
      have C2 := Aside0.mk c2
      clear c2
      go_wp2
      go_ret
      obtain rfl : gq = 0 := by have := C2.out; have := HK.out; omega
      have hs : idxI l v 0 i = idxI l v l.length 0 := HS.out
      rw [← hs]
      exact ⟨rfl, rfl⟩
set_option maxHeartbeats 8000000 in
set_option maxRecDepth 100000 in
theorem contains_calls (W : World) (Af : Option Addr) (cf : Nat) (l : List Int) (v : Int) (r : Bool) (h : hasI l v = r) (hr : Kd.C (Kd.int .i64) W Af l.length l) (hl : l.length ≤ 1000000) :
    Calls Try.prog 25 #[.slice Af l.length cf, .int .i64 v] W fun e w' => e = .returned (.bool r) ∧ w' = W := by
  have H0 := Aside0.mk (And.intro hr hl)
  have H := Aside0.mk h
  clear hr hl h
  go_enter Try.func25, Try.ntmps25
  go_wp2_with (go_at_call 39; refine (index_calls W Af cf l v H0.out.1 H0.out.2).mono ?_; rintro e w' ⟨rfl, rfl⟩)
  go_ret
  rw [← H.out]
  exact ⟨by first | rfl | simp [hasI], rfl⟩

/-- BestCut's own variables: coils (boxed), the fewest, the best. -/
def cbB (B go gw gb : Nat) (Ac : Option Addr) (cc n : Nat) : Cb (List Int × Int) where
  Q := fun W ok s => (ok go ∧ ok gw ∧ ok gb) ∧ W.heap[go]? = some (.cells #[.slice Ac n cc] 22 (0, 0)) ∧ W.heap[gw]? = some (.cells #[.int .i64 s.2] 2 (0, 0)) ∧ ∃ vb, W.heap[gb]? = some (.cells #[vb] 22 (0, 0)) ∧ Kd.R (Kd.int .i64) 2 W B (fun k => ok k ∧ k ≠ gw) vb s.1
  mono := fun h hk => ⟨⟨hk _ h.1.1, hk _ h.1.2.1, hk _ h.1.2.2⟩, h.2.1, h.2.2.1, by
    obtain ⟨vb, h1, h2⟩ := h.2.2.2
    exact ⟨vb, h1, Kd.R_mono h2 (fun k z => ⟨hk k z.1, z.2⟩)⟩⟩
  bound := fun h => ⟨⟨⟨h.1.1, blk_lt h.2.1⟩, ⟨h.1.2.1, blk_lt h.2.2.1⟩, ⟨h.1.2.2, by obtain ⟨vb, h1, h2⟩ := h.2.2.2; exact blk_lt h1⟩⟩, h.2.1, h.2.2.1, by
    obtain ⟨vb, h1, h2⟩ := h.2.2.2
    exact ⟨vb, h1, Kd.R_mono (Kd.R_own1 h2) (fun k z => ⟨⟨z.1.1, z.2.1⟩, z.1.2⟩)⟩⟩
  move := fun h hm => ⟨h.1, (hm _ h.1.1).trans h.2.1, (hm _ h.1.2.1).trans h.2.2.1, by
    obtain ⟨vb, h1, h2⟩ := h.2.2.2
    exact ⟨vb, (hm _ h.1.2.2).trans h1, Kd.R_move h2 (fun k z => hm k z.1)⟩⟩
/-- How many coils a cut has. -/
def begI (fr : List Int) : Nat → Int → Int → Int
  | 0, _, n => n
  | m + 1, i, n => begI fr m (i + 1) (if hasI fr i = true then n + 1 else n)
def leafB (N : Nat) (_left fr : List Int) (s : List Int × Int) : List Int × Int := if s.2 < 0 ∨ begI fr N 0 0 < s.2 then (fr, begI fr N 0 0) else s
section
variable {B go gw gb : Nat} {Ac : Option Addr} {cc n : Nat}
set_option maxHeartbeats 8000000 in
set_option maxRecDepth 100000 in
theorem cbB_ok (Good : List Int → List Int → Prop) (hgd : ∀ left fr, Good left fr → fr.length ≤ 1000) (hn : n ≤ 1000) (hd : go ≠ gw ∧ go ≠ gb ∧ gw ≠ gb) (hb : B ≤ go ∧ B ≤ gw ∧ B ≤ gb) : CbOk (cbB B go gw gb Ac cc n) (leafB n) Good 24 #[.pointer (some ⟨go, 0, none⟩), .pointer (some ⟨gw, 0, none⟩), .pointer (some ⟨gb, 0, none⟩)] := by
  intro W ok s fr left Af cf Al cl hq hcf hcc hcl hcc2 hnf hnl hfr hg
  obtain ⟨sb, sf⟩ := s
  obtain ⟨hok, hqo, hqw, vb, hqb, hqr⟩ := hq
  have f0 := blk_cell hqo 0
  simp only [List.getElem?_toArray, List.getElem?_cons_zero] at f0
  have H0 := Aside0.mk (And.intro hok (And.intro hqo (And.intro hqw (And.intro hqb hqr))))
  have H1 := Aside0.mk (And.intro hcf (And.intro hnf (And.intro hfr (And.intro (hgd left fr hg) (And.intro hn (And.intro hd hb))))))
  clear hok hqo hqw hqb hqr hcf hcc hcl hcc2 hnf hnl hfr hg hn hd hb hgd
  show Calls Try.prog 24 #[.slice Af fr.length cf, .slice Al left.length cl, .pointer (some ⟨go, 0, none⟩), .pointer (some ⟨gw, 0, none⟩), .pointer (some ⟨gb, 0, none⟩)] W _
  go_enter Try.func24, Try.ntmps24
  go_wp2_with (fail)
  go_loopg [11, 7] (n + 1) (fun kq v11 v7 w' => ∃ (i c : Int), v11 = .int .i64 i ∧ v7 = .int .i64 c ∧ Aside0 (0 ≤ i ∧ i + kq = n + 1 ∧ 1 ≤ kq ∧ 0 ≤ c ∧ c ≤ i) ∧ Aside0 (begI fr (kq - 1) i c = begI fr n 0 0) ∧ Aside0 (w' = W))
  case atStart => exact ⟨0, 0, rfl, rfl, ⟨by omega, by omega, by omega, by omega, by omega⟩, ⟨rfl⟩, ⟨rfl⟩⟩
  case round =>
    obtain ⟨i, c, rfl, rfl, HA, HS, HW⟩ := hrel
    obtain ⟨k0, kk, k1, k2, k3⟩ := HA.out
    obtain ⟨gq, rfl⟩ : ∃ m, gk = m + 1 := ⟨gk - 1, by omega⟩
    have HK := Aside0.mk (And.intro k0 (And.intro kk (And.intro k2 k3)))
    obtain rfl := HW.out
    clear HA k0 kk k1 k2 k3 HW
    by_cases c2 : i < (n : Int)
    · have c2b := decide_eq_true c2
      have C2 := Aside0.mk c2
      clear c2
      obtain ⟨r, hr⟩ : ∃ r, hasI fr i = r := ⟨_, rfl⟩
      have HR := Aside0.mk hr
      clear hr
      cases r with
      | true =>
        go_wp2_with (go_at_call 25; refine (contains_calls _ Af cf fr i true HR.out H1.out.1 (by have := H1.out.2.2.2.1; omega)).mono ?_; rintro e w' ⟨rfl, rfl⟩)
        go_roundg gq
        case measure => omega
        case rel =>
          have hw := wrap_id (i + 1) (by have := HK.out; omega) (by have := HK.out; have := H1.out; omega)
          have hw2 := wrap_id (c + 1) (by have := HK.out; omega) (by have := HK.out; have := H1.out; omega)
          refine ⟨i + 1, c + 1, by rw [hw], by rw [hw2], ⟨by have := HK.out; omega, by have := HK.out; omega, by have := C2.out; have := HK.out; omega, by have := HK.out; omega, by have := HK.out; omega⟩, ⟨?_⟩, ⟨rfl⟩⟩
          obtain ⟨gr, rfl⟩ : ∃ m, gq = m + 1 := ⟨gq - 1, by have := C2.out; have := HK.out; omega⟩
          have hs : begI fr (gr + 1) i c = begI fr n 0 0 := HS.out
          rw [begI, if_pos HR.out] at hs
          exact hs
      | false =>
        go_wp2_with (go_at_call 25; refine (contains_calls _ Af cf fr i false HR.out H1.out.1 (by have := H1.out.2.2.2.1; omega)).mono ?_; rintro e w' ⟨rfl, rfl⟩)
        go_roundg gq
        case measure => omega
        case rel =>
          have hw := wrap_id (i + 1) (by have := HK.out; omega) (by have := HK.out; have := H1.out; omega)
          refine ⟨i + 1, c, by rw [hw], rfl, ⟨by have := HK.out; omega, by have := HK.out; omega, by have := C2.out; have := HK.out; omega, by have := HK.out; omega, by have := HK.out; omega⟩, ⟨?_⟩, ⟨rfl⟩⟩
          obtain ⟨gr, rfl⟩ : ∃ m, gq = m + 1 := ⟨gq - 1, by have := C2.out; have := HK.out; omega⟩
          have hs : begI fr (gr + 1) i c = begI fr n 0 0 := HS.out
          rw [begI, if_neg (by rw [HR.out]; decide)] at hs
          exact hs
    · have c2b := decide_eq_false c2
      have C2 := Aside0.mk c2
      clear c2 f0
      obtain rfl : gq = 0 := by have := C2.out; have := HK.out; omega
      have hs : c = begI fr n 0 0 := HS.out
      have HS := Aside0.mk hs
      clear hs
      have f3 := blk_cell H0.out.2.2.1 0
      have f4 := blk_cell H0.out.2.2.2.1 0
      have z3 := blk_frozen H0.out.2.2.1 0
      have z4 := blk_frozen H0.out.2.2.2.1 0
      simp only [List.getElem?_toArray, List.getElem?_cons_zero] at f3 f4
      have arms : ∀ (hbr : sf < 0 ∨ c < sf) (v29 : Value) (w3 : World), Kd.R (Kd.int .i64) 2 w3 wr.heap.size (fun _ => True) v29 fr → Below wr.heap.size wr w3 → (cbB B go gw gb Ac cc n).Q ((w3.setCell ⟨gb, 0, none⟩ v29).setCell ⟨gw, 0, none⟩ (.int .i64 c)) ok (leafB n left fr (sb, sf)) ∧ Touch ok wr ((w3.setCell ⟨gb, 0, none⟩ v29).setCell ⟨gw, 0, none⟩ (.int .i64 c)) := by
        intro hbr v29 w3 ho hb
        have e : leafB n left fr (sb, sf) = (fr, c) := by unfold leafB; rw [← HS.out, if_pos hbr]
        rw [e]
        obtain ⟨⟨k1, k2, k3⟩, b1, b2, b3, _⟩ := H0.out
        obtain ⟨_, _, hfr, _, _, ⟨d1, d2, d3⟩, g1, g2, g3⟩ := H1.out
        have m1 := (hb.block go (blk_lt b1)).trans b1
        have m2 := (hb.block gw (blk_lt b2)).trans b2
        have m3 := (hb.block gb (blk_lt b3)).trans b3
        have l2 := blk_lt b2
        have l3 := blk_lt b3
        have hbW : B ≤ wr.heap.size := by omega
        refine ⟨⟨⟨k1, k2, k3⟩, blk_far (p := ⟨gw, 0, none⟩) (blk_far (p := ⟨gb, 0, none⟩) m1 d2 _) d1 _, ?_, v29, ?_, ?_⟩, ((Touch.of_below hb).set (fun _ => k3) _).set (fun _ => k2) _⟩
        · have := blk_set (blk_far (p := ⟨gb, 0, none⟩) m2 d3 v29) 0 (.int .i64 c); simpa using this
        · have := blk_far (p := ⟨gw, 0, none⟩) (blk_set m3 0 v29) (Ne.symm d3) (.int .i64 c); simpa using this
        · refine Kd.R_far (p := ⟨gw, 0, none⟩) (Kd.R_far (p := ⟨gb, 0, none⟩) (ok := fun k => (ok k ∧ k ≠ gw) ∧ k ≠ gb) ?_ (fun k hk => hk.2) _ |> fun h => Kd.R_mono h (fun k hk => hk.1)) (fun k hk => hk.2) _
          refine Kd.R_mono (Kd.R_lower (Kd.R_bound ho) hbW) (fun k hk => ?_)
          exact ⟨⟨hfr k hk.2.1, by have := hk.2.1; omega⟩, by have := hk.2.1; omega⟩
      have ARMS := Aside0.mk arms
      clear arms
      have fin : ∀ (hbr : ¬(sf < 0 ∨ c < sf)), (cbB B go gw gb Ac cc n).Q wr ok (leafB n left fr (sb, sf)) ∧ Touch ok wr wr := by
        intro hbr
        have e : leafB n left fr (sb, sf) = (sb, sf) := by unfold leafB; rw [← HS.out, if_neg hbr]
        rw [e]
        exact ⟨⟨H0.out.1, H0.out.2.1, H0.out.2.2.1, vb, H0.out.2.2.2.1, H0.out.2.2.2.2⟩, Touch.refl _ _⟩
      have FIN := Aside0.mk fin
      clear fin
      by_cases c3 : sf < 0
      · have c3b := decide_eq_true c3
        have C3 := Aside0.mk (show sf < 0 ∨ c < sf from .inl c3)
        clear c3
        go_wp2_with (first | ((with_reducible refine gate_dst (N := 27) rfl ?_); refine Kd.R_lit (Kd.int .i64) (w0 := wr) wr.heap.size 2 ?hg (N := 27) ?hd (xs := ([] : List Int)) (inner := []) (ok := fun _ => True) (okp := fun _ => True) ?hr ?hp (fun _ hk => hk) trivial (Below.refl _ _) (Nat.le_refl _) (by simp) ?_; (case hd => rfl); (case hg => rfl); (case hr => first | (go_simp; done) | (go_simp; rfl)); (case hp => exact (Reps.none _ _)); intro v27 w2 ho hb hg_ hnew_; have HV := Aside0.mk (And.intro ho hb); clear hg_ hnew_ ho hb) | (at_builtin; refine Kd.R_append_rows (Kd.int .i64) (w0 := wr) wr.heap.size rfl (.tmp 27) (.tmp 28) 22 2 (.int .i64 0) 8 rfl Try.underlying22 info2 rfl (by decide) (by omega) v27 [] fr _ _ _ (fun _ => True) (fun _ => False) rfl rfl ?aO ?aR (fun _ _ h => h) (fun _ h => h.elim) ?aF ?aB ?aS ?aL ?_; (case aR => exact Kd.C_below H1.out.1 HV.out.2); (case aB => exact HV.out.2); (case aF => exact (fun _ _ => trivial)); (case aO => exact HV.out.1); (case aS => exact HV.out.2.size); (case aL => have := H1.out.2.2.2.1; simp; omega); intro v29 w3 ho hb hg hat; obtain ⟨A29, c29, rfl⟩ := Kd.R_slice ho; have m3 := (hb.block gb (blk_lt H0.out.2.2.2.1)).trans H0.out.2.2.2.1; have m2 := (hb.block gw (blk_lt H0.out.2.2.1)).trans H0.out.2.2.1; have m4 := blk_far (p := ⟨gb, 0, none⟩) m2 H1.out.2.2.2.2.2.1.2.2 (.slice A29 fr.length c29); have q3 := blk_cell m4 0; have q4 := blk_cell m3 0; have y3 := blk_frozen m4 0; have y4 := blk_frozen m3 0; simp only [List.getElem?_toArray, List.getElem?_cons_zero] at q3 q4; have HF := Aside0.mk (ARMS.out C3.out _ _ ho hb); clear ho hb hg hat m2 m3 m4))
        go_end0
        exact ⟨rfl, HF.out⟩
      · have c3b := decide_eq_false c3
        by_cases c4 : c < sf
        · have c4b := decide_eq_true c4
          have C3 := Aside0.mk (show sf < 0 ∨ c < sf from .inr c4)
          clear c3 c4
          go_wp2_with (first | ((with_reducible refine gate_dst (N := 27) rfl ?_); refine Kd.R_lit (Kd.int .i64) (w0 := wr) wr.heap.size 2 ?hg (N := 27) ?hd (xs := ([] : List Int)) (inner := []) (ok := fun _ => True) (okp := fun _ => True) ?hr ?hp (fun _ hk => hk) trivial (Below.refl _ _) (Nat.le_refl _) (by simp) ?_; (case hd => rfl); (case hg => rfl); (case hr => first | (go_simp; done) | (go_simp; rfl)); (case hp => exact (Reps.none _ _)); intro v27 w2 ho hb hg_ hnew_; have HV := Aside0.mk (And.intro ho hb); clear hg_ hnew_ ho hb) | (at_builtin; refine Kd.R_append_rows (Kd.int .i64) (w0 := wr) wr.heap.size rfl (.tmp 27) (.tmp 28) 22 2 (.int .i64 0) 8 rfl Try.underlying22 info2 rfl (by decide) (by omega) v27 [] fr _ _ _ (fun _ => True) (fun _ => False) rfl rfl ?aO ?aR (fun _ _ h => h) (fun _ h => h.elim) ?aF ?aB ?aS ?aL ?_; (case aR => exact Kd.C_below H1.out.1 HV.out.2); (case aB => exact HV.out.2); (case aF => exact (fun _ _ => trivial)); (case aO => exact HV.out.1); (case aS => exact HV.out.2.size); (case aL => have := H1.out.2.2.2.1; simp; omega); intro v29 w3 ho hb hg hat; obtain ⟨A29, c29, rfl⟩ := Kd.R_slice ho; have m3 := (hb.block gb (blk_lt H0.out.2.2.2.1)).trans H0.out.2.2.2.1; have m2 := (hb.block gw (blk_lt H0.out.2.2.1)).trans H0.out.2.2.1; have m4 := blk_far (p := ⟨gb, 0, none⟩) m2 H1.out.2.2.2.2.2.1.2.2 (.slice A29 fr.length c29); have q3 := blk_cell m4 0; have q4 := blk_cell m3 0; have y3 := blk_frozen m4 0; have y4 := blk_frozen m3 0; simp only [List.getElem?_toArray, List.getElem?_cons_zero] at q3 q4; have HF := Aside0.mk (ARMS.out C3.out _ _ ho hb); clear ho hb hg hat m2 m3 m4))
          go_end0
          exact ⟨rfl, HF.out⟩
        · have c4b := decide_eq_false c4
          have C3 := Aside0.mk (show ¬(sf < 0 ∨ c < sf) from by omega)
          clear c3 c4
          go_wp2_with (fail)
          go_end0
          exact ⟨rfl, FIN.out C3.out⟩
end

/-- Coils and pieces as the walk wants them. -/
def okCut (coils pieces : List Int) : Prop := (coils.length ≤ 1000 ∧ pieces.length ≤ 1000) ∧ (∀ x ∈ coils, 0 ≤ x ∧ x ≤ 1000000) ∧ ∀ x ∈ pieces, 0 ≤ x ∧ x ≤ 1000000
instance (coils pieces : List Int) : Decidable (okCut coils pieces) := by unfold okCut; infer_instance
def goodCut (n : Nat) (left fr : List Int) : Prop := left.length ≤ 1000 ∧ fr.length ≤ n ∧ ∀ x ∈ left, 0 ≤ x ∧ x ≤ 1000000
theorem rd_mem {l : List Int} {k : Int} (h0 : 0 ≤ k) (h1 : k < l.length) : rd l k ∈ l := by
  have h : k.toNat < l.length := by omega
  have e : rd l k = l[k.toNat] := by simp [rd, List.getD_eq_getElem?_getD, h]
  rw [e]; exact List.getElem_mem h
theorem goodCut_ok {coils pieces : List Int} (h : okCut coils pieces) : GoodOk (goodCut pieces.length) pieces where
  step := by
    intro dn x ps left fr k hp hg hl h0 h1 h2
    refine ⟨by simpa using hg.1, by rw [hp]; simp; omega, fun y hy => ?_⟩
    rcases List.mem_or_eq_of_mem_set hy with hy | hy
    · exact hg.2.2 y hy
    · subst hy
      have := hg.2.2 _ (rd_mem h0 h1)
      have := h.2.2 x (by rw [hp]; simp)
      omega
  num := fun left fr k hg h0 h1 => hg.2.2 _ (rd_mem h0 h1)
  pcs := h.2.2
  len := h.1.2
theorem goodCut_start {coils pieces : List Int} (h : okCut coils pieces) : goodCut pieces.length coils [] := ⟨h.1.1, by simp, h.2.1⟩
theorem enter_of {f : Nat} {fn : Func} (hf : Try.prog.funcs[f]? = some fn) (hname : (fn.name == "runtime.NumGoroutine") = false) (hb : fn.body.isSome = true) : ∀ args w, (callFunc f args).run Try.prog w = .ok (.enter f args) w := fun args w => enters_ hf hname hb args w

/-- append([]int64{}, list...). -/
theorem own_calls (W : World) (A : Option Addr) (c : Nat) (l : List Int) (hr : Kd.C (Kd.int .i64) W A l.length l) (hc : l.length ≤ c) (hl : l.length ≤ 1000000) :
    Calls Try.prog 35 #[.slice A l.length c] W fun e w' => ∃ v : Value, e = .returned v ∧ Kd.R (Kd.int .i64) 2 w' W.heap.size (fun _ => True) v l ∧ Below W.heap.size W w' := by
  have H0 := Aside0.mk (And.intro hr (And.intro hc hl))
  clear hr hc hl
  go_enter Try.func35, Try.ntmps35
  go_wp2_with (first | ((with_reducible refine gate_dst (N := 3) rfl ?_); refine Kd.R_lit (Kd.int .i64) (w0 := W) W.heap.size 2 ?hg (N := 3) ?hd (xs := ([] : List Int)) (inner := []) (ok := fun _ => True) (okp := fun _ => True) ?hr ?hp (fun _ hk => hk) trivial (Below.refl _ _) (Nat.le_refl _) (by simp) ?_; (case hd => rfl); (case hg => rfl); (case hr => first | (go_simp; done) | (go_simp; rfl)); (case hp => exact (Reps.none _ _)); intro v3 w2 ho hb hg_ hnew_; have HV := Aside0.mk (And.intro ho hb); clear hg_ hnew_ ho hb) | (at_builtin; refine Kd.R_append_rows (Kd.int .i64) (w0 := W) W.heap.size rfl (.tmp 3) (.tmp 4) 22 2 (.int .i64 0) 8 rfl Try.underlying22 info2 rfl (by decide) (by omega) v3 [] l _ _ _ (fun _ => True) (fun _ => False) rfl rfl ?aO ?aR (fun _ _ h => h) (fun _ h => h.elim) ?aF ?aB ?aS ?aL ?_; (case aR => exact Kd.C_below H0.out.1 HV.out.2); (case aB => exact HV.out.2); (case aF => exact (fun _ _ => trivial)); (case aO => exact HV.out.1); (case aS => exact HV.out.2.size); (case aL => have := H0.out.2.2; simp; omega); intro v5 w3 ho hb hg hat; have HW := Aside0.mk (And.intro ho hb); clear ho hb hg hat))
  go_ret
  exact ⟨_, rfl, HW.out.1, HW.out.2⟩
/-- The greater of two numbers. -/
theorem max_any (W : World) (a b z : Int) (h : z = if a > b then a else b) : Calls Try.prog 44 #[.int .i64 a, .int .i64 b] W fun e w' => e = .returned (.int .i64 z) ∧ Drawn0 W w' := by
  by_cases c : b < a
  · have cb := decide_eq_true c
    rw [if_pos c] at h
    subst h
    clear c
    go_enter Try.func44, Try.ntmps44
    go_wp2
    go_ret
    exact ⟨rfl, Drawn0.refl _⟩
  · have cb := decide_eq_false c
    rw [if_neg c] at h
    subst h
    clear c
    go_enter Try.func44, Try.ntmps44
    go_wp2
    go_ret
    exact ⟨rfl, Drawn0.refl _⟩

/-- How many coils are begun, from coil i on. -/
def bg (coils left : List Int) : Nat → Int → Int → Int
  | 0, _, n => n
  | m + 1, i, n => bg coils left m (i + 1) (if rd left i < rd coils i then n + 1 else n)

/-- The reference's table of a walk, at block g. -/
def Tb (W : World) (g : Nat) (Ac : Option Addr) (cc : Nat) (coils : List Int) (Ap : Option Addr) (cp : Nat) (pieces : List Int) (Al : Option Addr) (cl : Nat) (left : List Int) (vb : Value) (few rest : Int) : Prop :=
  W.heap[g]? = some (.cells #[.slice Ac coils.length cc, .slice Ap pieces.length cp, .slice Al left.length cl, vb, .int .i64 few, .int .i64 rest] 41 (0, 0))


set_option maxHeartbeats 8000000 in
set_option maxRecDepth 100000 in
theorem begun_calls (W : World) (g : Nat) (Ac : Option Addr) (cc : Nat) (coils : List Int) (Ap : Option Addr) (cp : Nat) (pieces : List Int) (Al : Option Addr) (cl : Nat) (left : List Int) (vb : Value) (few rest : Int)
    (hT : Tb W g Ac cc coils Ap cp pieces Al cl left vb few rest) (hc : Kd.C (Kd.int .i64) W Ac coils.length coils) (hl : Kd.C (Kd.int .i64) W Al left.length left) (hlen : left.length = coils.length) (hsm : coils.length ≤ 1000) :
    Calls Try.prog 43 #[.pointer (some ⟨g, 0, none⟩)] W fun e w' => e = .returned (.int .i64 (bg coils left coils.length 0 0)) ∧ Drawn0 W w' := by
  have HT := Aside0.mk hT
  have HC := Aside0.mk hc
  have HLf := Aside0.mk hl
  have HN := Aside0.mk hlen
  have HS := Aside0.mk hsm
  clear hT hc hl hlen hsm
  go_enter Try.func43, Try.ntmps43
  go_wp2
  repeat (go_quiet (fail); try go_wp2)
  go_loopg [3, 4] (coils.length + 1) (fun kq v3 v4 w' => ∃ (x3 x4 : Int), v3 = .int .i64 x3 ∧ v4 = .int .i64 x4 ∧ Aside0 (0 ≤ x4 ∧ x4 + kq = coils.length + 1 ∧ 1 ≤ kq ∧ 0 ≤ x3 ∧ x3 ≤ x4 ∧ bg coils left (kq - 1) x4 x3 = bg coils left coils.length 0 0) ∧ Aside0 (Drawn0 W w'))
  case atStart => exact ⟨0, 0, rfl, rfl, ⟨by omega, by omega, by omega, by omega, by omega, rfl⟩, ⟨Drawn0.refl _⟩⟩
  case round =>
    obtain ⟨x3, x4, rfl, rfl, HA, HD⟩ := hrel
    obtain ⟨nd, rfl⟩ := HD.out
    obtain ⟨k0, kk, k1, n0, n1, hbg⟩ := HA.out
    obtain ⟨gq, rfl⟩ : ∃ m, gk = m + 1 := ⟨gk - 1, by omega⟩
    have hT : W.heap[g]? = _ := HT.out
    have f0 := blk_cell hT 0
    have f2 := blk_cell hT 2
    simp only [List.getElem?_toArray, List.getElem?_cons_zero, List.getElem?_cons_succ] at f0 f2
    have HK0 := Aside0.mk (And.intro k0 (And.intro kk (And.intro n0 (And.intro n1 hbg))))
    clear hT HA k0 kk k1 n0 n1 hbg
    by_cases c2 : x4 < (coils.length : Int)
    · have c2b := decide_eq_true c2
      have q2 : x4 < (left.length : Int) := by rw [HN.out]; exact c2
      obtain ⟨ad, rfl, g0⟩ := Kd.at_int HC.out x4 HK0.out.1 c2
      obtain ⟨ad2, rfl, g2⟩ := Kd.at_int HLf.out x4 HK0.out.1 q2
      have p2 := eq_true HK0.out.1
      have p3 := eq_true c2
      have q2b := eq_true q2
      have C2 := Aside0.mk c2
      clear c2 q2
      have w3 := Aside0.mk (wrap_id (x3 + 1) (by have := HK0.out; have := HS.out; have := C2.out; omega) (by have := HK0.out; have := HS.out; have := C2.out; omega))
      have w4 := Aside0.mk (wrap_id (x4 + 1) (by have := HK0.out; have := HS.out; have := C2.out; omega) (by have := HK0.out; have := HS.out; have := C2.out; omega))
      by_cases c5 : rd left x4 < rd coils x4
      · have c5b := decide_eq_true c5
        have C5 := Aside0.mk c5
        clear c5
        go_wp2
        repeat (go_quiet (fail); try go_wp2)
        go_roundg gq
        case measure => omega
        case rel =>
          refine ⟨wrap64 (x3 + 1), wrap64 (x4 + 1), (by first | rfl | (simp; done) | (simp [*]; done)), (by first | rfl | (simp; done) | (simp [*]; done)), ⟨?_⟩, ⟨by repeat (first | exact Drawn0.refl _ | apply Drawn0.step)⟩⟩
          obtain ⟨a0, a1, a2, a3, a4⟩ := HK0.out
          rw [w3.out, w4.out]
          obtain ⟨gr, rfl⟩ : ∃ m, gq = m + 1 := ⟨gq - 1, by have := C2.out; omega⟩
          refine ⟨by omega, by omega, by omega, by omega, by omega, ?_⟩
          rw [← a4]
          show bg coils left gr _ _ = bg coils left (gr + 1) _ _
          rw [bg, if_pos C5.out]
      · have c5b := decide_eq_false c5
        have C5 := Aside0.mk c5
        clear c5
        go_wp2
        repeat (go_quiet (fail); try go_wp2)
        go_roundg gq
        case measure => omega
        case rel =>
          refine ⟨x3, wrap64 (x4 + 1), (by first | rfl | (simp; done) | (simp [*]; done)), (by first | rfl | (simp; done) | (simp [*]; done)), ⟨?_⟩, ⟨by repeat (first | exact Drawn0.refl _ | apply Drawn0.step)⟩⟩
          obtain ⟨a0, a1, a2, a3, a4⟩ := HK0.out
          rw [w4.out]
          obtain ⟨gr, rfl⟩ : ∃ m, gq = m + 1 := ⟨gq - 1, by have := C2.out; omega⟩
          refine ⟨by omega, by omega, by omega, by omega, by omega, ?_⟩
          rw [← a4]
          show bg coils left gr _ _ = bg coils left (gr + 1) _ _
          rw [bg, if_neg (by have := C5.out; omega)]
    · have c2b := decide_eq_false c2
      have C2 := Aside0.mk c2
      clear c2
      go_wp2
      repeat (go_quiet (fail); try go_wp2)
      go_ret
      refine ⟨?_, by repeat (first | exact Drawn0.refl _ | apply Drawn0.step)⟩
      obtain ⟨a0, a1, a2, a3, a4⟩ := HK0.out
      obtain rfl : gq = 0 := by have := C2.out; omega
      rw [← a4]
      rfl

def mxl (left : List Int) : Nat → Int → Int → Int
  | 0, _, r => r
  | m + 1, i, r => mxl left m (i + 1) (if r > rd left i then r else rd left i)
def lfS (coils left from_ : List Int) (s : List Int × Int × Int) : List Int × Int × Int :=
  (if s.2.1 < 0 ∨ bg coils left coils.length 0 0 < s.2.1 then from_ else s.1, if s.2.1 < 0 ∨ bg coils left coils.length 0 0 < s.2.1 then bg coils left coils.length 0 0 else s.2.1, mxl left left.length 0 s.2.2)
/-- The reference's state between two calls of walk. -/
structure SI (w0 : World) (g : Nat) (Ac : Option Addr) (cc : Nat) (coils : List Int) (Ap : Option Addr) (cp : Nat) (pieces : List Int) (Al : Option Addr) (cl n : Nat) (left : List Int) (s : List Int × Int × Int) (vb : Value) (W : World) : Prop where
  tb : W.heap[g]? = some (.cells #[.slice Ac coils.length cc, .slice Ap pieces.length cp, .slice Al n cl, vb, .int .i64 s.2.1, .int .i64 s.2.2] 41 (0, 0))
  hg : w0.heap.size ≤ g
  hc : Kd.C (Kd.int .i64) w0 Ac coils.length coils
  hp : Kd.C (Kd.int .i64) w0 Ap pieces.length pieces
  rl : Kd.R (Kd.int .i64) 2 W w0.heap.size (fun _ => True) (.slice Al n cl) left
  rb : Kd.R (Kd.int .i64) 2 W w0.heap.size (fun k => some k ≠ (Value.slice Al n cl).ownBlock) vb s.1
  bw : Below w0.heap.size w0 W
  len : coils.length = n
/-- The blocks that a call of walk writes. -/
def sW (g : Nat) (vl : Value) : Nat → Prop := fun k => k = g ∨ vl.ownBlock = some k
namespace SI
section
variable {w0 W w1 : World} {g : Nat} {Ac : Option Addr} {cc : Nat} {coils : List Int} {Ap : Option Addr} {cp : Nat} {pieces : List Int} {Al : Option Addr} {cl n : Nat} {left : List Int} {s : List Int × Int × Int} {vb : Value}
theorem below (h : SI w0 g Ac cc coils Ap cp pieces Al cl n left s vb W) (hb : Below W.heap.size W w1) : SI w0 g Ac cc coils Ap cp pieces Al cl n left s vb w1 :=
  ⟨(hb.block g (blk_lt h.tb)).trans h.tb, h.hg, h.hc, h.hp, Kd.R_below h.rl hb, Kd.R_below h.rb hb, h.bw.trans (hb.mono h.bw.size), h.len⟩
theorem drewN (h : SI w0 g Ac cc coils Ap cp pieces Al cl n left s vb W) (m : Nat) : SI w0 g Ac cc coils Ap cp pieces Al cl n left s vb (W.drewN m) := h.below (pw_below_drewN (Below.refl _ _) m)
/-- The state's own cells written. -/
theorem best (h : SI w0 g Ac cc coils Ap cp pieces Al cl n left s vb W) {vf : Value} {from_ : List Int} (hf : Kd.R (Kd.int .i64) 2 W w0.heap.size (fun k => some k ≠ (Value.slice Al n cl).ownBlock) vf from_) : SI w0 g Ac cc coils Ap cp pieces Al cl n left (from_, s.2) vf (W.setCell ⟨g, 3, none⟩ vf) :=
  ⟨by have := blk_set h.tb 3 vf; simpa using this, h.hg, h.hc, h.hp, Kd.R_set h.rl h.tb (by simp [Kd.int, Kd.scalar]) 3 vf, Kd.R_set hf h.tb (by simp [Kd.int, Kd.scalar]) 3 vf, below_set h.bw h.hg, h.len⟩
theorem few (h : SI w0 g Ac cc coils Ap cp pieces Al cl n left s vb W) (m : Int) : SI w0 g Ac cc coils Ap cp pieces Al cl n left (s.1, m, s.2.2) vb (W.setCell ⟨g, 4, none⟩ (.int .i64 m)) :=
  ⟨by have := blk_set h.tb 4 (.int .i64 m); simpa using this, h.hg, h.hc, h.hp, Kd.R_set h.rl h.tb (by simp [Kd.int, Kd.scalar]) 4 _, Kd.R_set h.rb h.tb (by simp [Kd.int, Kd.scalar]) 4 _, below_set h.bw h.hg, h.len⟩
theorem rest (h : SI w0 g Ac cc coils Ap cp pieces Al cl n left s vb W) (m : Int) : SI w0 g Ac cc coils Ap cp pieces Al cl n left (s.1, s.2.1, m) vb (W.setCell ⟨g, 5, none⟩ (.int .i64 m)) :=
  ⟨by have := blk_set h.tb 5 (.int .i64 m); simpa using this, h.hg, h.hc, h.hp, Kd.R_set h.rl h.tb (by simp [Kd.int, Kd.scalar]) 5 _, Kd.R_set h.rb h.tb (by simp [Kd.int, Kd.scalar]) 5 _, below_set h.bw h.hg, h.len⟩
theorem put {b : Nat} (h : SI w0 g Ac cc coils Ap cp pieces (some ⟨b, 0, none⟩) cl n left s vb W) (i x : Int) : SI w0 g Ac cc coils Ap cp pieces (some ⟨b, 0, none⟩) cl n (left.set i.toNat x) s vb (W.setCell ⟨b, i.toNat, none⟩ (.int .i64 x)) := by
  have hne : g ≠ b := fun e => Kd.R_ne h.rl h.tb (by decide) (by rw [e]; rfl)
  exact ⟨blk_far (p := ⟨b, i.toNat, none⟩) h.tb hne _, h.hg, h.hc, h.hp, (Kd.R_putg h.rl i x).1, Kd.R_far (p := ⟨b, i.toNat, none⟩) h.rb (fun k hk e => hk (by rw [e]; rfl)) _, below_set h.bw (Kd.R_base h.rl b rfl), h.len⟩
theorem nl (h : SI w0 g Ac cc coils Ap cp pieces Al cl n left s vb W) : n = left.length := (Kd.R_reads' h.rl).1
end
end SI


def PostW (w0 : World) (g : Nat) (Ac : Option Addr) (cc : Nat) (coils : List Int) (Ap : Option Addr) (cp : Nat) (pieces : List Int) (Al : Option Addr) (cl n : Nat) (left : List Int) (s : List Int × Int × Int) (W : World) (e : Ending) (w' : World) : Prop :=
  e = .returned (.tuple #[]) ∧ ∃ vb, SI w0 g Ac cc coils Ap cp pieces Al cl n left s vb w' ∧ Touch (sW g (.slice Al n cl)) W w'
section
variable {w0 W : World} {g : Nat} {Ac : Option Addr} {cc : Nat} {coils : List Int} {Ap : Option Addr} {cp : Nat} {pieces : List Int} {Al : Option Addr} {cl n : Nat} {left : List Int} {Af : Option Addr} {cf : Nat} {from_ : List Int} {vb : Value} {s : List Int × Int × Int}
set_option maxHeartbeats 16000000 in
set_option maxRecDepth 100000 in
theorem walk_leaf (hI : SI w0 g Ac cc coils Ap cp pieces Al cl n left s vb W) (hf : Kd.R (Kd.int .i64) 2 W w0.heap.size (fun k => some k ≠ (Value.slice Al n cl).ownBlock) (.slice Af from_.length cf) from_) (hlen : from_.length = pieces.length) (hsm : n ≤ 1000) :
    Calls Try.prog 36 #[.pointer (some ⟨g, 0, none⟩), .slice Af from_.length cf] W (PostW w0 g Ac cc coils Ap cp pieces Al cl n left (lfS coils left from_ s) W) := by
  obtain ⟨sb, sf, sr⟩ := s
  obtain ⟨bn, hbn⟩ : ∃ z, z = bg coils left coils.length 0 0 := ⟨_, rfl⟩
  have hnl := hI.nl
  have HBN := Aside0.mk hbn
  have HI := Aside0.mk hI
  have HN := Aside0.mk (And.intro hlen (And.intro hsm (And.intro hnl hf)))
  have f1 := blk_cell hI.tb 1
  have f4 := blk_cell hI.tb 4
  have f3 := blk_cell hI.tb 3
  have z3 := blk_frozen hI.tb 3
  have z4 := blk_frozen hI.tb 4
  simp only [List.getElem?_toArray, List.getElem?_cons_zero, List.getElem?_cons_succ] at f1 f4 f3
  have hb : Calls Try.prog 43 #[.pointer (some ⟨g, 0, none⟩)] W fun e w' => e = .returned (.int .i64 bn) ∧ Drawn0 W w' := by
    rw [hbn]
    refine begun_calls W g Ac cc coils Ap cp pieces Al cl left vb sf sr (by have h := hI.tb; rw [hnl] at h; exact h) (Kd.C_below hI.hc hI.bw) (Kd.R_reads' hI.rl).2.2 (by have := hI.len; omega) (by have := hI.len; omega)
  have HBG := Aside0.mk hb
  clear hb hI hbn hf hnl hsm
  have ceq : ((from_.length : Int) == (pieces.length : Int)) = true := by rw [hlen]; simp
  clear hlen
  have cases3 : (sf < 0 ∨ (¬ sf < 0 ∧ bn < sf)) ∨ (¬ sf < 0 ∧ ¬ bn < sf) := by omega
  have hst : ∀ nd : Nat, (sf < 0 ∨ bn < sf) → lfS coils left from_ (sb, sf, sr) = (from_, bn, mxl left n 0 sr) ∧ SI w0 g Ac cc coils Ap cp pieces Al cl n left (from_, bn, sr) (.slice Af from_.length cf) (((W.drewN nd).setCell ⟨g, 3, none⟩ (.slice Af from_.length cf)).setCell ⟨g, 4, none⟩ (.int .i64 bn)) ∧ Touch (sW g (.slice Al n cl)) W (((W.drewN nd).setCell ⟨g, 3, none⟩ (.slice Af from_.length cf)).setCell ⟨g, 4, none⟩ (.int .i64 bn)) := by
    intro nd hc
    refine ⟨?_, ((HI.out.drewN nd).best (Kd.R_drewN HN.out.2.2.2 nd)).few bn, (((Touch.refl _ _).drewN nd).set (fun _ => .inl rfl) _).set (fun _ => .inl rfl) _⟩
    unfold lfS
    rw [← HBN.out, HN.out.2.2.1]
    simp only [if_pos hc]
  have hsk : ∀ nd : Nat, ¬(sf < 0 ∨ bn < sf) → lfS coils left from_ (sb, sf, sr) = (sb, sf, mxl left n 0 sr) ∧ SI w0 g Ac cc coils Ap cp pieces Al cl n left (sb, sf, sr) vb (W.drewN nd) ∧ Touch (sW g (.slice Al n cl)) W (W.drewN nd) := by
    intro nd hc
    refine ⟨?_, HI.out.drewN nd, (Touch.refl _ _).drewN nd⟩
    unfold lfS
    rw [← HBN.out, HN.out.2.2.1]
    simp only [if_neg hc]
  have HST := Aside0.mk (And.intro hst hsk)
  clear hst hsk
  rcases cases3 with (c1 | ⟨c1, c3⟩) | ⟨c1, c3⟩
  all_goals
    have HC := Aside0.mk (show (sf < 0 ∨ bn < sf) ∨ ¬(sf < 0 ∨ bn < sf) from by omega)
    first
      | (have c1b := decide_eq_true c1; have HCC := Aside0.mk (show sf < 0 ∨ bn < sf from .inl c1); clear c1)
      | (have c1b := decide_eq_false c1; have c3b := decide_eq_true c3; have HCC := Aside0.mk (show sf < 0 ∨ bn < sf from .inr c3); clear c1 c3)
      | (have c1b := decide_eq_false c1; have c3b := decide_eq_false c3; have HCC := Aside0.mk (show ¬(sf < 0 ∨ bn < sf) from by omega); clear c1 c3)
    go_enter Try.func36, Try.ntmps36
    go_wp2_with (go_at_call 43; refine HBG.out.mono ?_; rintro e w1 ⟨rfl, hd⟩; obtain ⟨nd, rfl⟩ := hd.out; clear hd)
    go_loopg [5] (n + 1) (fun kq v5 w' => ∃ (x5 : Int), v5 = .int .i64 x5 ∧ Aside0 (0 ≤ x5 ∧ x5 + kq = n + 1 ∧ 1 ≤ kq) ∧ ∃ (vb1 : Value) (s1 : List Int) (s2 s3 : Int), Aside0 (SI w0 g Ac cc coils Ap cp pieces Al cl n left (s1, s2, s3) vb1 w') ∧ Aside0 (Touch (sW g (.slice Al n cl)) W w') ∧ Aside0 (lfS coils left from_ (sb, sf, sr) = (s1, s2, mxl left (kq - 1) x5 s3)))
    case atStart =>
      refine ⟨0, rfl, ⟨by omega, by omega, by omega⟩, ?_⟩
      first
        | exact ⟨_, _, _, _, ⟨(HST.out.1 nd HCC.out).2.1⟩, ⟨(HST.out.1 nd HCC.out).2.2⟩, ⟨(HST.out.1 nd HCC.out).1⟩⟩
        | exact ⟨_, _, _, _, ⟨(HST.out.2 nd HCC.out).2.1⟩, ⟨(HST.out.2 nd HCC.out).2.2⟩, ⟨(HST.out.2 nd HCC.out).1⟩⟩
    case round =>
      obtain ⟨x5, rfl, HA, vb1, s1, s2, s3, HI1, HT, HS⟩ := hrel
      obtain ⟨k0, kk, k1⟩ := HA.out
      obtain ⟨gq, rfl⟩ : ∃ m, gk = m + 1 := ⟨gk - 1, by omega⟩
      clear f1 f4 f3 z3 z4
      have f2 := blk_cell HI1.out.tb 2
      have f5 := blk_cell HI1.out.tb 5
      have z5 := blk_frozen HI1.out.tb 5
      simp only [List.getElem?_toArray, List.getElem?_cons_zero, List.getElem?_cons_succ] at f2 f5
      have HK0 := Aside0.mk (And.intro k0 kk)
      clear HA k0 kk k1
      by_cases c2 : x5 < (n : Int)
      · have c2b := decide_eq_true c2
        have p3 := eq_true c2
        obtain ⟨ad, rfl, g0⟩ : ∃ ad, Al = some ad ∧ wr.cell? (ad.add x5.toNat) = some (.int .i64 (rd left x5)) := by
          have h := (Kd.R_reads' HI1.out.rl).2.2
          exact Kd.at_int h x5 HK0.out.1 (by have := HN.out.2.2.1; omega)
        have p2 := eq_true HK0.out.1
        have C2 := Aside0.mk c2
        clear c2
        obtain ⟨mxv, hmx⟩ : ∃ z, z = if s3 > rd left x5 then s3 else rd left x5 := ⟨_, rfl⟩
        have HMX := Aside0.mk hmx
        clear hmx
        go_wp2
        go_region_with (go_at_call 44; refine (max_any _ _ _ mxv HMX.out).mono ?_; rintro e w8 ⟨rfl, hd8⟩; obtain ⟨nd8, rfl⟩ := hd8.out; clear hd8)
        all_goals
          go_wp2
          go_roundg gq
          case measure => omega
          case rel =>
            have hw := wrap_id (x5 + 1) (by have := HK0.out; omega) (by have := HK0.out; have := HN.out.2.1; omega)
            refine ⟨x5 + 1, by rw [hw], ⟨by have := HK0.out; omega, by have := HK0.out; omega, by have := HK0.out; have := C2.out; omega⟩, vb1, s1, s2, mxv, ⟨(HI1.out.drewN _).rest mxv⟩, ⟨(HT.out.drewN _).set (fun _ => .inl rfl) _⟩, ⟨?_⟩⟩
            obtain ⟨gr, rfl⟩ : ∃ m, gq = m + 1 := ⟨gq - 1, by have := C2.out; have := HK0.out; omega⟩
            have hs : lfS coils left from_ (sb, sf, sr) = (s1, s2, mxl left (gr + 1) x5 s3) := HS.out
            rw [mxl, ← HMX.out] at hs
            exact hs
      · have c2b := decide_eq_false c2
        have C2 := Aside0.mk c2
        clear c2
        go_wp2
        (try simp only [Exit.inBlock, Exit.then]); refine bodyPost_ret (results_none rfl _ _ _) rfl ?_
        obtain rfl : gq = 0 := by have := C2.out; have := HK0.out; omega
        have hs : lfS coils left from_ (sb, sf, sr) = (s1, s2, s3) := HS.out
        rw [hs]
        exact ⟨rfl, vb1, HI1.out, HT.out⟩
end

section
variable {w0 W : World} {g : Nat} {Ac : Option Addr} {cc : Nat} {coils : List Int} {Ap : Option Addr} {cp : Nat} {pieces : List Int} {Al : Option Addr} {cl n : Nat} {left : List Int} {Af : Option Addr} {cf : Nat} {from_ : List Int} {vb : Value} {s : List Int × Int × Int} {dn ps : List Int} {x : Int} {Good : List Int → List Int → Prop}
set_option maxHeartbeats 16000000 in
set_option maxRecDepth 100000 in
theorem walk_node (hpc : pieces = dn ++ x :: ps) (hgd : GoodOk Good pieces) (hsm : n ≤ 1000)
    (ih : ∀ (W : World) (left fr : List Int) (Af : Option Addr) (cf : Nat) (vb : Value) (s : List Int × Int × Int), SI w0 g Ac cc coils Ap cp pieces Al cl n left s vb W → Kd.R (Kd.int .i64) 2 W w0.heap.size (fun k => k ≠ g ∧ some k ≠ (Value.slice Al n cl).ownBlock) (.slice Af fr.length cf) fr → fr.length = dn.length + 1 → Good left fr →
      Calls Try.prog 36 #[.pointer (some ⟨g, 0, none⟩), .slice Af fr.length cf] W (PostW w0 g Ac cc coils Ap cp pieces Al cl n left (wkG (lfS coils) ps left fr s) W))
    (hI : SI w0 g Ac cc coils Ap cp pieces Al cl n left s vb W) (hf : Kd.R (Kd.int .i64) 2 W w0.heap.size (fun k => k ≠ g ∧ some k ≠ (Value.slice Al n cl).ownBlock) (.slice Af from_.length cf) from_) (hlen : from_.length = dn.length) (hg : Good left from_) :
    Calls Try.prog 36 #[.pointer (some ⟨g, 0, none⟩), .slice Af from_.length cf] W (PostW w0 g Ac cc coils Ap cp pieces Al cl n left (wkG (lfS coils) (x :: ps) left from_ s) W) := by
  have hlt : from_.length < pieces.length := by rw [hpc]; simp; omega
  have hrd : rd pieces (from_.length : Int) = x := by rw [hpc]; exact rd_append hlen
  have hx := hgd.pcs x (by rw [hpc]; simp)
  have H0 := Aside0.mk (And.intro hpc (And.intro hgd (And.intro hsm (And.intro hlen (And.intro hlt (And.intro hrd (And.intro hx (And.intro hg hI.nl))))))))
  have HI := Aside0.mk (And.intro hI hf)
  have HIH := Aside0.mk ih
  have f1 := blk_cell hI.tb 1
  simp only [List.getElem?_toArray, List.getElem?_cons_zero, List.getElem?_cons_succ] at f1
  have ceq : ((from_.length : Int) == (pieces.length : Int)) = false := by simp; omega
  obtain ⟨ad, hap, g1⟩ := Kd.at_int (Kd.C_below hI.hp hI.bw) (from_.length : Int) (by omega) (by omega)
  subst hap
  rw [hrd, Int.toNat_natCast] at g1
  have p4 : ((from_.length : Int) < (pieces.length : Int)) = True := eq_true (by omega)
  have p5 : (from_.length < pieces.length) = True := eq_true hlt
  clear hpc hgd hsm ih hI hf hlen hg hlt hrd hx
  go_enter Try.func36, Try.ntmps36
  go_wp2_with (fail)
  clear f1 g1
  go_loopg [7] (n + 1) (fun kq v7 w' => ∃ (i : Int), v7 = .int .i64 i ∧ Aside0 (0 ≤ i ∧ i + kq = n + 1 ∧ 1 ≤ kq) ∧ ∃ (vb1 : Value) (s' : List Int × Int × Int), Aside0 (SI w0 g Ac cc coils (some ad) cp pieces Al cl n left s' vb1 w' ∧ Touch (sW g (.slice Al n cl)) W w') ∧ Aside0 (rdsG (turn (lfS coils) ps x left from_) (kq - 1) i s' = wkG (lfS coils) (x :: ps) left from_ s))
  case atStart => exact ⟨0, rfl, ⟨by omega, by omega, by omega⟩, vb, s, ⟨HI.out.1, Touch.refl _ _⟩, ⟨by show rdsG _ n 0 s = rdsG _ left.length 0 s; rw [← H0.out.2.2.2.2.2.2.2.2]; rfl⟩⟩
  case round =>
    obtain ⟨i, rfl, HA, vb1, s', HJ, HS⟩ := hrel
    obtain ⟨k0, kk, k1⟩ := HA.out
    obtain ⟨gq, rfl⟩ : ∃ m, gk = m + 1 := ⟨gk - 1, by omega⟩
    have HK := Aside0.mk (And.intro k0 kk)
    clear HA k0 kk k1
    have f0 := blk_cell HJ.out.1.tb 0
    have f2 := blk_cell HJ.out.1.tb 2
    simp only [List.getElem?_toArray, List.getElem?_cons_zero, List.getElem?_cons_succ] at f0 f2
    rw [HJ.out.1.len] at f0
    by_cases c2 : i < (n : Int)
    · have c2b := decide_eq_true c2
      obtain ⟨b, hb⟩ : ∃ b, Al = some ⟨b, 0, none⟩ := by
        rcases row_at HJ.out.1.rl with ⟨_, z, _⟩ | ⟨g, z, _⟩
        · have := HK.out; omega
        · exact ⟨g, z⟩
      subst hb
      have g0 : wr.cell? ⟨b, i.toNat, none⟩ = some (.int .i64 (rd left i)) := (row_cell HJ.out.1.rl i HK.out.1 c2).1
      have z0 := (row_cell HJ.out.1.rl i HK.out.1 c2).2
      have p2 := eq_true HK.out.1
      have p3 := eq_true c2
      have C2 := Aside0.mk c2
      clear c2
      by_cases c3 : x ≤ rd left i
      · have c3b := decide_eq_true c3
        have C3 := Aside0.mk c3
        clear c3
        have hbd := H0.out.2.1.num left from_ i H0.out.2.2.2.2.2.2.2.1 HK.out.1 (by have := H0.out.2.2.2.2.2.2.2.2; have := C2.out; omega)
        have HWR := Aside0.mk (wrap_id (rd left i - x) (by have := H0.out.2.2.2.2.2.2.1; omega) (by have := H0.out.2.2.2.2.2.2.1; omega))
        have HBD := Aside0.mk hbd
        clear hbd
        go_upto_region 15 with (fail)
        obtain ⟨w3, HW⟩ : ∃ w3, Aside0 (w3 = wr.setCell ⟨b, i.toNat, none⟩ (.int .i64 (wrap64 (rd left i - x)))) := ⟨_, ⟨rfl⟩⟩
        rw [← HW.out]
        obtain ⟨left1, HL1⟩ : ∃ l1, Aside0 (l1 = left.set i.toNat (rd left i - x)) := ⟨_, ⟨rfl⟩⟩
        have HJ3 := Aside0.mk (show SI w0 g Ac cc coils (some ad) cp pieces (some ⟨b, 0, none⟩) cl n left1 s' vb1 w3 ∧ Touch (sW g (.slice (some ⟨b, 0, none⟩) n cl)) W w3 from by
          rw [HW.out, HL1.out, HWR.out]
          exact ⟨HJ.out.1.put i _, HJ.out.2.set (p := ⟨b, i.toNat, none⟩) (fun _ => .inr rfl) _⟩)
        clear HW HJ g0 z0 f0 f2
        have HF3 := Aside0.mk (HJ3.out.2.R HI.out.2 (fun k hk z => z.elim hk.1 (fun e => hk.2 e.symm)))
        go_wp2_with (first | (go_at_call 35; refine (own_calls _ _ _ from_ (Kd.R_reads' HF3.out).2.2 (Kd.R_reads' HF3.out).2.1 (by have := H0.out.2.2.2.2.1; have := H0.out.2.1.len; omega)).mono ?_; rintro e w4 ⟨v101, rfl, ho, hb⟩; obtain ⟨A101, c101, rfl⟩ := Kd.R_slice ho; have HV4 := Aside0.mk (And.intro ho hb); clear ho hb) | (at_builtin; refine Kd.R_append (Kd.int .i64) (w0 := w3) w3.heap.size rfl (.tmp 101) (.tmp 103) 22 2 (.int .i64 0) 8 rfl Try.underlying22 info2 rfl (by decide) (by omega) (.slice A101 from_.length c101) from_ i [.int .i64 i] (fun _ => True) (fun _ => False) rfl (by first | (go_simp; done) | (go_simp; rfl)) ?aP (fun _ hk => hk.elim) (fun _ _ => trivial) ?aO ?aB ?aS ?aL ?_; (case aP => exact rfl); (case aO => exact HV4.out.1); (case aB => exact HV4.out.2); (case aS => exact HV4.out.2.size); (case aL => have := H0.out.2.2.2.2.1; have := H0.out.2.1.len; omega); intro v104 w5 ho hb hg hat; obtain ⟨A104, c104, rfl⟩ := Kd.R_slice ho; have HV5 := Aside0.mk (And.intro ho hb); clear ho hb hg hat))
        obtain ⟨fr1, HF1⟩ : ∃ f1, Aside0 (f1 = from_ ++ [i]) := ⟨_, ⟨rfl⟩⟩
        have HD := Aside0.mk (show fr1.length = from_.length + 1 ∧ SI w0 g Ac cc coils (some ad) cp pieces (some ⟨b, 0, none⟩) cl n left1 s' vb1 w5 ∧ Kd.R (Kd.int .i64) 2 w5 w0.heap.size (fun k => k ≠ g ∧ some k ≠ (Value.slice (some ⟨b, 0, none⟩) n cl).ownBlock) (.slice A104 fr1.length c104) fr1 ∧ Good left1 fr1 from by
          have hbw := HJ3.out.1.bw.size
          refine ⟨by rw [HF1.out]; simp, HJ3.out.1.below HV5.out.2, ?_, ?_⟩
          · rw [HF1.out]
            refine Kd.R_mono (Kd.R_lower (Kd.R_bound HV5.out.1) hbw) (fun k hk => ?_)
            have h1 := hk.2.1
            have h2 := blk_lt HJ3.out.1.tb
            have h3 := Kd.R_lt HJ3.out.1.rl b rfl
            exact ⟨by omega, fun e => by have e : k = b := Option.some.inj e; omega⟩
          · rw [HL1.out, HF1.out]
            exact H0.out.2.1.step dn x ps left from_ i H0.out.1 H0.out.2.2.2.2.2.2.2.1 H0.out.2.2.2.1 HK.out.1 (by have := H0.out.2.2.2.2.2.2.2.2; have := C2.out; omega) C3.out)
        have HE1 := Aside0.mk (show from_.length + 1 = fr1.length from HD.out.1.symm)
        simp only [List.length_append, List.length_cons, List.length_nil, Nat.zero_add, HE1.out]
        refine (HIH.out w5 left1 fr1 A104 c104 vb1 s' HD.out.2.1 HD.out.2.2.1 (by rw [HD.out.1, H0.out.2.2.2.1]) HD.out.2.2.2).mono ?_
        rintro e w6 ⟨rfl, vb6, hJ6, hT6⟩
        have HJ6 := Aside0.mk (And.intro hJ6 ((HJ3.out.2.later (HV5.out.2)).step hT6))
        clear hJ6 hT6
        have f2 := blk_cell HJ6.out.1.tb 2
        simp only [List.getElem?_toArray, List.getElem?_cons_zero, List.getElem?_cons_succ] at f2
        have g0 : w6.cell? ⟨b, i.toNat, none⟩ = some (.int .i64 (rd left i - x)) := by
          have h := (row_cell HJ6.out.1.rl i HK.out.1 C2.out).1
          have h1 : i.toNat < left.length := by have := H0.out.2.2.2.2.2.2.2.2; have := C2.out; have := HK.out; omega
          have e : rd left1 i = rd left i - x := by rw [HL1.out]; simp [rd, List.getD_eq_getElem?_getD, List.getElem?_set, h1]
          rw [← e]
          exact h
        have z0 := (row_cell HJ6.out.1.rl i HK.out.1 C2.out).2
        go_wp2_with (fail)
        go_roundg gq
        case measure => omega
        case rel =>
          have hw := wrap_id (i + 1) (by have := HK.out; omega) (by have := HK.out; have := H0.out.2.2.1; omega)
          have hw2 := wrap_id (rd left i) (by have := HBD.out; omega) (by have := HBD.out; omega)
          have hback : left1.set i.toNat (rd left i) = left := by
            rw [HL1.out, List.set_set]
            have h1 : i.toNat < left.length := by have := H0.out.2.2.2.2.2.2.2.2; have := C2.out; have := HK.out; omega
            have e : rd left i = left[i.toNat] := by simp [rd, List.getD_eq_getElem?_getD, h1]
            rw [e, List.set_getElem_self]
          refine ⟨i + 1, by rw [hw], ⟨by have := HK.out; omega, by have := HK.out; omega, by have := C2.out; have := HK.out; omega⟩, vb6, wkG (lfS coils) ps left1 fr1 s', ⟨?_⟩, ⟨?_⟩⟩
          · rw [hw2]
            have h := HJ6.out.1.put i (rd left i)
            rw [hback] at h
            exact ⟨h, HJ6.out.2.set (p := ⟨b, i.toNat, none⟩) (fun _ => .inr rfl) _⟩
          · rw [← HS.out]
            obtain ⟨gr, rfl⟩ : ∃ m, gq = m + 1 := ⟨gq - 1, by have := C2.out; have := HK.out; omega⟩
            show rdsG _ gr (i + 1) _ = rdsG _ (gr + 1) i s'
            rw [rdsG, turn, if_pos C3.out, ← HL1.out, ← HF1.out]
      · have c3b := decide_eq_false c3
        have C3 := Aside0.mk c3
        clear c3
        go_wp2_with (fail)
        go_roundg gq
        case measure => omega
        case rel =>
          have hw := wrap_id (i + 1) (by have := HK.out; omega) (by have := HK.out; have := H0.out.2.2.1; omega)
          refine ⟨i + 1, by rw [hw], ⟨by have := HK.out; omega, by have := HK.out; omega, by have := C2.out; have := HK.out; omega⟩, vb1, s', HJ, ⟨?_⟩⟩
          rw [← HS.out]
          obtain ⟨gr, rfl⟩ : ∃ m, gq = m + 1 := ⟨gq - 1, by have := C2.out; have := HK.out; omega⟩
          show rdsG _ gr (i + 1) s' = rdsG _ (gr + 1) i s'
          rw [rdsG, turn, if_neg (by have := C3.out; omega)]
    · have c2b := decide_eq_false c2
      have C2 := Aside0.mk c2
      clear c2
      go_wp2_with (fail)
      go_end0
      obtain rfl : gq = 0 := by have := C2.out; have := HK.out; omega
      have hs : s' = wkG (lfS coils) (x :: ps) left from_ s := HS.out
      subst hs
      exact ⟨rfl, vb1, HJ.out.1, HJ.out.2⟩
end

section
variable {w0 : World} {g : Nat} {Ac : Option Addr} {cc : Nat} {coils : List Int} {Ap : Option Addr} {cp : Nat} {pieces : List Int} {Al : Option Addr} {cl n : Nat} {Good : List Int → List Int → Prop}
theorem walk_calls (hgd : GoodOk Good pieces) (hsm : n ≤ 1000) : ∀ (ps dn : List Int) (W : World) (left fr : List Int) (Af : Option Addr) (cf : Nat) (vb : Value) (s : List Int × Int × Int), pieces = dn ++ ps → SI w0 g Ac cc coils Ap cp pieces Al cl n left s vb W → Kd.R (Kd.int .i64) 2 W w0.heap.size (fun k => k ≠ g ∧ some k ≠ (Value.slice Al n cl).ownBlock) (.slice Af fr.length cf) fr → fr.length = dn.length → Good left fr →
      Calls Try.prog 36 #[.pointer (some ⟨g, 0, none⟩), .slice Af fr.length cf] W (PostW w0 g Ac cc coils Ap cp pieces Al cl n left (wkG (lfS coils) ps left fr s) W) := by
  intro ps
  induction ps with
  | nil =>
    intro dn W left fr Af cf vb s hp h hf hl hg
    exact walk_leaf h (Kd.R_mono hf (fun _ hk => hk.2)) (by rw [hp, hl]; simp) hsm
  | cons x ps ih =>
    intro dn W left fr Af cf vb s hp h hf hl hg
    exact walk_node hp hgd hsm (fun W' left' fr' Af' cf' vb' s' h' hf' hl' hg' => ih (dn ++ [x]) W' left' fr' Af' cf' vb' s' (by rw [hp]; simp) h' hf' (by rw [hl']; simp) hg') h hf hl hg
end
def PostA (w : World) (Ac : Option Addr) (cc : Nat) (coils : List Int) (Ap : Option Addr) (cp : Nat) (pieces : List Int) (e : Ending) (w' : World) : Prop :=
  ∃ g Al cl n left vb, e = .returned (.pointer (some ⟨g, 0, none⟩)) ∧ SI w g Ac cc coils Ap cp pieces Al cl n left (wkG (lfS coils) pieces coils [] ([], -1, 0)) vb w'
set_option maxHeartbeats 8000000 in
set_option maxRecDepth 100000 in
theorem all_calls (w : World) (A0 : Option Addr) (c0 : Nat) (l0 : List Int) (A1 : Option Addr) (c1 : Nat) (l1 : List Int) (hr0 : Kd.C (Kd.int .i64) w A0 l0.length l0) (hc0 : l0.length ≤ c0) (hr1 : Kd.C (Kd.int .i64) w A1 l1.length l1) (hok : okCut l0 l1) (W : World) (hW : Below w.heap.size w W) :
    Calls Try.prog 20 #[.slice A0 l0.length c0, .slice A1 l1.length c1] W (PostA w A0 c0 l0 A1 c1 l1) := by
  have H0 := Aside0.mk (And.intro hr0 (And.intro hc0 (And.intro hr1 (And.intro hok hW))))
  clear hr0 hc0 hr1 hok hW
  go_enter Try.func20, Try.ntmps20
  go_upto_region 2 with (go_at_call 35; refine (own_calls _ _ _ l0 (Kd.C_below H0.out.1 H0.out.2.2.2.2) H0.out.2.1 (by have := H0.out.2.2.2.1.1.1; omega)).mono ?_; rintro e w1 ⟨v9, rfl, ho, hb⟩; obtain ⟨A9, c9, rfl⟩ := Kd.R_slice ho; have HV := Aside0.mk (And.intro ho hb); clear ho hb)
  obtain ⟨g, HG⟩ : ∃ g, Aside0 (g = w1.heap.size) := ⟨_, ⟨rfl⟩⟩
  rw [← HG.out]
  obtain ⟨w2, HW⟩ : ∃ w2, Aside0 (w2 = w1.alloc (.cells #[.slice A0 l0.length c0, .slice A1 l1.length c1, .slice A9 l0.length c9, .slice none 0 0, .int .i64 (-1), .int .i64 0] 41)) := ⟨_, ⟨rfl⟩⟩
  rw [← HW.out]
  have HS := Aside0.mk (show SI w g A0 c0 l0 A1 c1 l1 A9 c9 l0.length l0 ([], -1, 0) (.slice none 0 0) w2 ∧ (∀ k, (Value.slice A9 l0.length c9).ownBlock = some k → k < w2.heap.size) ∧ g < w2.heap.size from by
    obtain ⟨hr0, hc0, hr1, hok, hW⟩ := H0.out
    obtain ⟨ho, hb⟩ := HV.out
    have b12 : Below w1.heap.size w1 w2 := HW.out ▸ below_alloc (Below.refl _ _) _
    have s1 := hb.size
    have s0 := hW.size
    refine ⟨⟨by rw [HW.out, HG.out]; exact alloc_at _ _, by have := HG.out; omega, hr0, hr1, Kd.R_lower (Kd.R_below ho b12) s0, Kd.R_nil _ _ _ _ _, hW.trans ((hb.trans (b12.mono s1)).mono s0), rfl⟩, fun k hk => ?_, ?_⟩
    · have := Kd.R_lt ho k hk
      have := b12.size
      omega
    · rw [HG.out, HW.out, size_alloc]; omega)
  clear HW HG
  go_upto_region 3 with (first | ((with_reducible refine gate_dst (N := 13) rfl ?_); refine Kd.R_lit (Kd.int .i64) (w0 := w2) w2.heap.size 2 ?hg (N := 13) ?hd (xs := ([] : List Int)) (inner := []) (ok := fun _ => True) (okp := fun _ => True) ?hr ?hp (fun _ hk => hk) trivial (Below.refl _ _) (Nat.le_refl _) (by simp) ?_; (case hd => rfl); (case hg => rfl); (case hr => first | (go_simp; done) | (go_simp; rfl)); (case hp => exact (Reps.none _ _)); intro v13 w3 ho hb hg_ hnew_; obtain ⟨A13, c13, hv13⟩ := Kd.R_slice ho; subst hv13; have HV13 := Aside0.mk (And.intro ho hb); clear hg_ hnew_ ho hb) | (go_at_call 36; refine (walk_calls (goodCut_ok H0.out.2.2.2.1) H0.out.2.2.2.1.1.1 l1 [] _ l0 [] A13 c13 (.slice none 0 0) ([], -1, 0) rfl (HS.out.1.below HV13.out.2) ?hf rfl (goodCut_start H0.out.2.2.2.1)).mono ?_; (case hf => exact Kd.R_mono (Kd.R_lower (Kd.R_bound HV13.out.1) HS.out.1.bw.size) (fun k hk => ⟨by have := hk.2.1; have := HS.out.2.2; omega, fun e => by have := hk.2.1; have := HS.out.2.1 k e.symm; omega⟩)); rintro e w4 ⟨rfl, vb, hs, ht⟩; have HR := Aside0.mk hs; clear hs ht))
  go_wp2
  go_ret
  exact ⟨g, A9, c9, l0.length, l0, vb, rfl, HR.out⟩
end Go.Proofs.Ytmgnloojcnoffaa.Cut
