/- The program's function answers as the statement says. Conditions: none beyond the given statement's own. -/
import Derived.Test.YtcjandlemjfojaaDoorHRtx5
import Derived.Test.YtcjandlemjfojaaDoorLib
set_option linter.unusedVariables false
set_option linter.unusedSimpArgs false
namespace Go.Proofs.YtcjandlemjfojaaDoor.PureFnExactReadTackle
open Go.RowKit Go.Proofs.YtcjandlemjfojaaDoor.HRt Go.Proofs.YtcjandlemjfojaaDoorW.PrintWords Go.Proofs.YtcjandlemjfojaaDoorW.PrintLast Go.Proofs.YtcjandlemjfojaaDoorW.PrintMore Go.Proofs.YtcjandlemjfojaaDoor.Lib
theorem rdEPurchase {xs : List S32} {i : Nat} (h : i < xs.length) : rd_T32 xs (i : Int) = xs[i] := by
  unfold rd_T32; simp [List.getD_eq_getElem?_getD, h]
theorem eqPurchase_self (x : S32) : laws_eqPurchase.f x.f0 x.f1 x.f2 x.f0 x.f1 x.f2 = some true := by
  simp [laws_eqPurchase.f]
theorem eqPurchaseS_l0 (x0 : List S32) (hn : x0.length ≤ 1048576) : ∀ (d i : Nat), i + d = x0.length → Ev (fun k => laws_eqPurchaseS.l0 k x0 x0 (i : Int)) true
  | 0, i, hd => by
    refine ev_succ ?_
    simp only [laws_eqPurchaseS.l0]
    exact ev_neg (by omega) (Ev.now _)
  | d + 1, i, hd => by
    refine ev_succ ?_
    simp only [laws_eqPurchaseS.l0]
    refine ev_pos (by omega) (ev_pos (by omega) (ev_pos (by omega) (ev_now (eqPurchase_self _) (ev_pos (by trivial) ?_))))
    rw [w64s (by omega)]
    exact eqPurchaseS_l0 x0 hn d (i + 1) (by omega)
theorem eqPurchaseS_self (l : List S32) (hn : l.length ≤ 1048576) : Ev (fun k => laws_eqPurchaseS.f k l l) true := by
  simp only [laws_eqPurchaseS.f]
  exact ev_pos (by trivial) (eqPurchaseS_l0 l hn l.length 0 (by omega))

/-- Marks in a row of structs of two numbers and a bool: what stands there behind them. -/
theorem rdPPurchase {xs : List S32} {i : Nat} (h : i < xs.length) : rd_T32 xs (i : Int) = xs[i] := by
  unfold rd_T32; simp [List.getD_eq_getElem?_getD, h]
theorem rdSetPurchase {xs : List S32} {i : Nat} (h : i < xs.length) (v : S32) : rd_T32 (xs.set i v) (i : Int) = v := by
  rw [rdPPurchase (by simpa using h), List.getElem_set_self]
theorem take_setP {α : Type} : ∀ (i : Nat) (xs ys : List α) (v : α) (_ : i < xs.length) (h : i < ys.length), xs.take i = ys.take i → v = ys[i] → (xs.set i v).take (i + 1) = ys.take (i + 1) := by
  intro i xs ys v hx hy h1 h2
  rw [List.take_add_one, List.take_add_one, List.take_set_of_le (Nat.le_refl i), h1, List.getElem?_set_self hx, List.getElem?_eq_getElem hy, h2]
def mkPPurchase (s : Int) (n : Nat) : List S32 := (List.range n).map fun (j : Nat) => ⟨s + 3 * (j : Int), s + 3 * (j : Int) + 1, Int.tmod (s + 3 * (j : Int) + 1 + 1) 3 == 0⟩
theorem mkPPurchase_length (s : Int) (n : Nat) : (mkPPurchase s n).length = n := by simp [mkPPurchase]
theorem mkPPurchase_get (s : Int) (n i : Nat) (h : i < (mkPPurchase s n).length) : (mkPPurchase s n)[i] = ⟨s + 3 * (i : Int), s + 3 * (i : Int) + 1, Int.tmod (s + 3 * (i : Int) + 1 + 1) 3 == 0⟩ := by simp [mkPPurchase]
theorem markPPurchaseS_l0 (s : Int) (h0 : 0 ≤ s) (n : Nat) (hn : s + 3 * n < 4611686018427387904) : ∀ (d i : Nat) (x0 : List S32), i + d = n → x0.length = n → x0.take i = (mkPPurchase s n).take i →
    Ev (fun k => laws_markPurchaseS.l0 k x0 (s + 3 * i) (i : Int)) (s + 3 * n, mkPPurchase s n)
  | 0, i, x0, hd, hl, ht => by
    refine ev_succ ?_
    simp only [laws_markPurchaseS.l0]
    refine ev_neg (by omega) (ev_some ?_)
    rw [List.take_of_length_le (by omega), List.take_of_length_le (by rw [mkPPurchase_length]; omega)] at ht
    rw [ht]; congr 1; omega
  | d + 1, i, x0, hd, hl, ht => by
    have hi : i < x0.length := by omega
    refine ev_succ ?_
    simp only [laws_markPurchaseS.l0]
    refine ev_pos (by omega) (ev_pos (by omega) (ev_now rfl (ev_now rfl ?_)))
    rw [w64s (by omega), w64 (x := s + 3 * (i : Int) + 1) (by omega) (by omega), w64 (x := s + 3 * (i : Int) + 1 + 1) (by omega) (by omega), w64 (x := s + 3 * (i : Int) + 1 + 1 + 1) (by omega) (by omega)]
    simp only [Int.toNat_natCast, List.set_set, rdSetPurchase hi]
    have e : s + 3 * (i : Int) + 1 + 1 + 1 = s + 3 * ((i + 1 : Nat) : Int) := by omega
    rw [e]
    refine markPPurchaseS_l0 s h0 n hn d (i + 1) _ (by omega) (by simpa using hl) (take_setP _ _ _ _ (by omega) (by rw [mkPPurchase_length]; omega) ht ?_)
    rw [mkPPurchase_get]
theorem markPPurchaseS_ev (l : List S32) (s : Int) (h0 : 0 ≤ s) (hn : s + 3 * l.length < 4611686018427387904) :
    Ev (fun k => laws_markPurchaseS.f k l s) (s + 3 * l.length, mkPPurchase s l.length) := by
  simp only [laws_markPurchaseS.f]
  have := markPPurchaseS_l0 s h0 l.length hn l.length 0 l (by omega) rfl (by simp)
  simpa using this
theorem heldPPurchaseS_l0 (s : Int) (h0 : 0 ≤ s) (n : Nat) (hn : s + 3 * n < 4611686018427387904) : ∀ (d i : Nat), i + d = n →
    Ev (fun k => laws_heldPurchaseS.l0 k (mkPPurchase s n) (s + 3 * i) (i : Int)) (s + 3 * n)
  | 0, i, hd => by
    refine ev_succ ?_
    simp only [laws_heldPurchaseS.l0]
    refine ev_neg (by rw [mkPPurchase_length]; omega) (ev_some ?_)
    omega
  | d + 1, i, hd => by
    refine ev_succ ?_
    simp only [laws_heldPurchaseS.l0]
    rw [rdPPurchase (by rw [mkPPurchase_length]; omega), mkPPurchase_get, w64s (by omega), w64 (x := s + 3 * (i : Int) + 1) (by omega) (by omega), w64 (x := s + 3 * (i : Int) + 1 + 1) (by omega) (by omega), w64 (x := s + 3 * (i : Int) + 1 + 1 + 1) (by omega) (by omega)]
    refine ev_pos (by rw [mkPPurchase_length]; omega) (ev_pos (by omega) (ev_pos rfl (ev_pos rfl (ev_neg (by simp) ?_))))
    have e : s + 3 * (i : Int) + 1 + 1 + 1 = s + 3 * ((i + 1 : Nat) : Int) := by omega
    rw [e]
    exact heldPPurchaseS_l0 s h0 n hn d (i + 1) (by omega)
theorem heldPPurchaseS_ev (s : Int) (h0 : 0 ≤ s) (n : Nat) (hn : s + 3 * n < 4611686018427387904) :
    Ev (fun k => laws_heldPurchaseS.f k (mkPPurchase s n) s) (s + 3 * n) := by
  simp only [laws_heldPurchaseS.f]
  have := heldPPurchaseS_l0 s h0 n hn n 0 (by omega)
  simpa using this

theorem l00In_eq (a b c : Int) : spec_l00In.f a b c = some (decide (b ≤ a ∧ a ≤ c)) := by
  unfold spec_l00In.f; by_cases h : a ≥ b <;> simp [h]

theorem within_eq (a b c : Int) : impl_within.f a b c = some (decide (b ≤ a ∧ a ≤ c)) := by
  unfold impl_within.f; by_cases h : a ≥ b <;> simp [h]

def okP (p : S32) : Prop := (0 ≤ p.f0 ∧ p.f0 ≤ 4) ∧ (0 ≤ p.f1 ∧ p.f1 ≤ 4) ∧ 1 ≤ p.f0 + p.f1 ∧ (if p.f2 = true then 0 ≤ p.f1 - p.f0 ∧ p.f1 - p.f0 ≤ 1 else 0 ≤ p.f0 - p.f1 ∧ p.f0 - p.f1 ≤ 1)
instance (p : S32) : Decidable (okP p) := inferInstanceAs (Decidable ((0 ≤ p.f0 ∧ p.f0 ≤ 4) ∧ (0 ≤ p.f1 ∧ p.f1 ≤ 4) ∧ 1 ≤ p.f0 + p.f1 ∧ (if p.f2 = true then 0 ≤ p.f1 - p.f0 ∧ p.f1 - p.f0 ≤ 1 else 0 ≤ p.f0 - p.f1 ∧ p.f0 - p.f1 ≤ 1)))
def okPs (t : List S32) : Prop := ∀ p ∈ t, okP p
instance (t : List S32) : Decidable (okPs t) := inferInstanceAs (Decidable (∀ p ∈ t, okP p))
def okT (t : List S32) : Prop := okPs t ∧ 1 ≤ t.length ∧ t.length ≤ 6
instance (t : List S32) : Decidable (okT t) := inferInstanceAs (Decidable (okPs t ∧ 1 ≤ t.length ∧ t.length ≤ 6))
theorem okPs_drop {l : List S32} {i : Nat} (h : i < l.length) : okPs (l.drop i) ↔ okP l[i] ∧ okPs (l.drop (i + 1)) := all_drop h
theorem rdP {xs : List S32} {i : Nat} (h : i < xs.length) : rd_T32 xs (i : Int) = xs[i] := by
  unfold rd_T32; simp [List.getD_eq_getElem?_getD, h]

theorem validPurchase_ev (p : S32) : Ev (fun k => impl_ValidPurchase.f k p.f0 p.f1 p.f2) (decide (okP p)) := by
  have jt : Ev (fun k => impl_ValidPurchase.j0 k true p.f0 p.f1 p.f2) false := by
    refine ev_succ ?_; simp only [impl_ValidPurchase.j0]; exact ev_pos (by trivial) (Ev.now _)
  simp only [impl_ValidPurchase.f]
  refine ev_now (within_eq _ _ _) (ev_if (fun h0 => ev_now (within_eq _ _ _) (ev_if (fun h1 => ?_) (fun h1 => ?_))) (fun h0 => ?_))
  · have h0 := of_decide_eq_true h0
    have h1 := of_decide_eq_true h1
    rw [w64 (x := p.f0 + p.f1) (by omega) (by omega)]
    by_cases h2 : p.f0 + p.f1 = 0
    · rw [beq_iff_eq.2 h2, ofd (p := okP p) (fun g => by have := g.2.2.1; omega)]; exact jt
    · rw [beq_eq_false_iff_ne.2 h2]
      refine ev_succ ?_; simp only [impl_ValidPurchase.j0]
      refine ev_neg (by simp) (ev_if (fun h3 => ?_) (fun h3 => ?_))
      · rw [w64 (x := p.f1 - p.f0) (by omega) (by omega)]
        refine ev_now (within_eq _ _ _) (ev_some ?_)
        apply decide_eq_decide.2; unfold okP; rw [if_pos h3]
        exact ⟨fun g => ⟨h0, h1, by omega, g⟩, fun g => g.2.2.2⟩
      · rw [w64 (x := p.f0 - p.f1) (by omega) (by omega)]
        refine ev_now (within_eq _ _ _) (ev_some ?_)
        apply decide_eq_decide.2; unfold okP; rw [if_neg h3]
        exact ⟨fun g => ⟨h0, h1, by omega, g⟩, fun g => g.2.2.2⟩
  · rw [ofd (p := okP p) (fun g => h1 (ofd1 g.2.1))]; exact jt
  · rw [ofd (p := okP p) (fun g => h0 (ofd1 g.1))]; exact jt
theorem validTackle_l0 (x0 : List S32) (h1 : 1 ≤ x0.length) (h6 : x0.length ≤ 6) : ∀ (d i : Nat), i + d = x0.length → (okPs (x0.drop i) → okPs x0) →
    Ev (fun k => impl_ValidTackle.l0 k x0 (x0.length : Int) (i : Int)) (decide (okT x0))
  | 0, i, hd, hi => by
    refine ev_succ ?_
    simp only [impl_ValidTackle.l0]
    have e : x0.drop i = [] := by simp; omega
    have g := hi (by rw [e]; simp [okPs])
    exact ev_neg (by omega) (ev_some (ofd1 (p := okT x0) ⟨g, h1, h6⟩).symm)
  | d + 1, i, hd, hi => by
    have hil : i < x0.length := by omega
    refine ev_succ ?_
    simp only [impl_ValidTackle.l0]
    rw [rdP hil, w64s (by omega)]
    refine ev_pos (by omega) (ev_pos (by omega) (ev_pos (by omega) (Ev.bind (validPurchase_ev x0[i]) (ev_if (fun h => ?_) (fun h => ev_some ?_)))))
    · refine validTackle_l0 x0 h1 h6 d (i + 1) (by omega) (fun g => hi ?_)
      rw [okPs_drop hil]; exact ⟨of_decide_eq_true h, g⟩
    · symm; apply ofd; intro g; exact h (ofd1 (g.1 _ (List.getElem_mem _)))
theorem validTackle_ev (t : List S32) : Ev (fun k => impl_ValidTackle.f k t) (decide (okT t)) := by
  have jt : Ev (fun k => impl_ValidTackle.j0 k t true) false := by
    refine ev_succ ?_; simp only [impl_ValidTackle.j0]; exact ev_pos (by trivial) (Ev.now _)
  simp only [impl_ValidTackle.f]
  refine ev_if (fun h => ?_) (fun h => ?_)
  · rw [ofd (p := okT t) (fun g => by have := g.2.1; omega)]; exact jt
  · by_cases h6 : (t.length : Int) > 6
    · rw [ofd1 h6, ofd (p := okT t) (fun g => by have := g.2.2; omega)]; exact jt
    · rw [ofd h6]
      refine ev_succ ?_; simp only [impl_ValidTackle.j0]
      exact ev_neg (by simp) (validTackle_l0 t (by omega) (by omega) t.length 0 (by omega) (by simp))

theorem l05One_ev (p : S32) : Ev (fun k => spec_l05One.f k p.f0 p.f1 p.f2) (decide (okP p), p.f0, p.f1, p.f2) := by
  have jt : Ev (fun k => spec_l05One.j0 k true p.f0 p.f1 p.f2) (false, p.f0, p.f1, p.f2) := by
    refine ev_succ ?_; simp only [spec_l05One.j0]; exact ev_pos (by trivial) (Ev.now _)
  simp only [spec_l05One.f]
  refine ev_now (l00In_eq _ _ _) (ev_if (fun h0 => ev_now (l00In_eq _ _ _) (ev_if (fun h1 => ?_) (fun h1 => ?_))) (fun h0 => ?_))
  · have h0 := of_decide_eq_true h0
    have h1 := of_decide_eq_true h1
    rw [w64 (x := p.f0 + p.f1) (by omega) (by omega)]
    by_cases h2 : p.f0 + p.f1 < 1
    · rw [ofd1 h2, ofd (p := okP p) (fun g => by have := g.2.2.1; omega)]; exact jt
    · rw [ofd h2]
      refine ev_succ ?_; simp only [spec_l05One.j0]
      refine ev_neg (by simp) (ev_if (fun h3 => ?_) (fun h3 => ?_))
      · rw [w64 (x := p.f1 - p.f0) (by omega) (by omega)]
        refine ev_now (l00In_eq _ _ _) (ev_some ?_)
        congr 1
        apply decide_eq_decide.2; unfold okP; rw [if_pos h3]
        exact ⟨fun g => ⟨h0, h1, by omega, g⟩, fun g => g.2.2.2⟩
      · rw [w64 (x := p.f0 - p.f1) (by omega) (by omega)]
        refine ev_now (l00In_eq _ _ _) (ev_some ?_)
        congr 1
        apply decide_eq_decide.2; unfold okP; rw [if_neg h3]
        exact ⟨fun g => ⟨h0, h1, by omega, g⟩, fun g => g.2.2.2⟩
  · rw [ofd (p := okP p) (fun g => h1 (ofd1 g.2.1))]; exact jt
  · rw [ofd (p := okP p) (fun g => h0 (ofd1 g.1))]; exact jt

theorem l05One_at_ev (p : S32) : Ev (fun k => spec_l05One_at.f k p.f0 p.f1 p.f2) (decide (okP p)) := by
  simp only [spec_l05One_at.f]
  exact Ev.bind (l05One_ev p) (Ev.now _)
theorem l05Ok_l0 (x0 : List S32) (hn : x0.length ≤ 35184372088832) : ∀ (d i : Nat), i + d = x0.length → (okPs (x0.drop i) → okPs x0) →
    Ev (fun k => spec_l05Ok.l0 k x0 (i : Int)) (decide (okT x0))
  | 0, i, hd, hi => by
    refine ev_succ ?_
    simp only [spec_l05Ok.l0]
    have e : x0.drop i = [] := by simp; omega
    have g := hi (by rw [e]; simp [okPs])
    refine ev_neg (by omega) (ev_now (l00In_eq _ _ _) (ev_some ?_))
    apply decide_eq_decide.2; unfold okT; exact ⟨fun q => ⟨g, by omega, by omega⟩, fun q => by omega⟩
  | d + 1, i, hd, hi => by
    have hil : i < x0.length := by omega
    refine ev_succ ?_
    simp only [spec_l05Ok.l0]
    rw [rdP hil, w64s (by omega)]
    refine ev_pos (by omega) (ev_pos (by omega) (Ev.bind (l05One_at_ev x0[i]) (ev_if (fun h => ?_) (fun h => ev_some ?_))))
    · refine l05Ok_l0 x0 hn d (i + 1) (by omega) (fun g => hi ?_)
      rw [okPs_drop hil]; exact ⟨of_decide_eq_true h, g⟩
    · symm; apply ofd; intro g; exact h (ofd1 (g.1 _ (List.getElem_mem _)))
theorem l05Ok_ev (t : List S32) (hn : t.length ≤ 35184372088832) : Ev (fun k => spec_l05Ok.f k t) (decide (okT t)) := by
  simp only [spec_l05Ok.f]
  exact l05Ok_l0 t hn t.length 0 (by omega) (by simp)

/-- A text's words between blanks. -/
def splW : List UInt8 → List (List UInt8)
  | [] => [[]]
  | c :: cs => if c = 32 then [] :: splW cs else match splW cs with
    | [] => [[c]]
    | w :: ws => (c :: w) :: ws
theorem splW_ne : ∀ l, splW l ≠ []
  | [] => by simp [splW]
  | c :: cs => by
    unfold splW
    split
    · simp
    · split <;> simp
theorem index_cons (c : UInt8) (cs : List UInt8) : Go.Lib.index (c :: cs) [32] = if c = 32 then 0 else if Go.Lib.index cs [32] = -1 then -1 else Go.Lib.index cs [32] + 1 := by
  conv => lhs; unfold Go.Lib.index
  by_cases h : c = 32
  · subst h
    simp
  · have h2 : (32 : UInt8) ≠ c := fun e => h e.symm
    have h1 : List.isPrefixOf [(32 : UInt8)] (c :: cs) = false := by simp [List.isPrefixOf, h2]
    rw [h1, if_neg h]
    simp
theorem splitK_W : ∀ l : List UInt8, Go.Lib.splitK [32] 0 (Go.Lib.count l [32]) l = splW l
  | [] => rfl
  | c :: cs => by
    have ih := splitK_W cs
    have hi := index_cons c cs
    by_cases h : c = 32
    · rw [if_pos h] at hi
      have hc : Go.Lib.count (c :: cs) [32] = 1 + Go.Lib.count cs [32] := by
        have := Go.Lib.count_hit (s := c :: cs) (sub := [32]) (i := 0) (by simp) hi
        simpa using this
      rw [hc, Nat.add_comm]
      unfold Go.Lib.splitK splW
      rw [hi, if_pos h, ← ih]
      simp
    · rw [if_neg h] at hi
      have hge := Go.Lib.index_ge cs [32]
      by_cases hm : Go.Lib.index cs [32] = -1
      · rw [if_pos hm] at hi
        have hc : Go.Lib.count (c :: cs) [32] = 0 := Go.Lib.count_miss hi
        have hc2 : Go.Lib.count cs [32] = 0 := Go.Lib.count_miss hm
        rw [hc2] at ih
        rw [hc]
        have ih : [cs] = splW cs := ih
        unfold splW
        rw [if_neg h, ← ih]
        rfl
      · rw [if_neg hm] at hi
        obtain ⟨i, hx⟩ : ∃ i : Nat, Go.Lib.index cs [32] = (i : Int) := ⟨(Go.Lib.index cs [32]).toNat, by omega⟩
        rw [hx] at hi
        have hi : Go.Lib.index (c :: cs) [32] = ((i + 1 : Nat) : Int) := by rw [hi]; omega
        have c1 : Go.Lib.count (c :: cs) [32] = 1 + Go.Lib.count (cs.drop (i + 1)) [32] := by
          have := Go.Lib.count_hit (s := c :: cs) (sub := [32]) (i := i + 1) (by simp) hi
          simpa using this
        have c2 : Go.Lib.count cs [32] = 1 + Go.Lib.count (cs.drop (i + 1)) [32] := by
          have := Go.Lib.count_hit (s := cs) (sub := [32]) (i := i) (by simp) hx
          simpa using this
        rw [c2, Nat.add_comm] at ih
        rw [c1, Nat.add_comm]
        unfold Go.Lib.splitK at ih
        rw [hx] at ih
        have e1 : (((i : Nat) : Int) == -1) = false := by rw [beq_eq_false_iff_ne]; omega
        rw [e1] at ih
        unfold Go.Lib.splitK splW
        rw [hi, if_neg h, ← ih]
        have e2 : (((i + 1 : Nat) : Int) == -1) = false := by rw [beq_eq_false_iff_ne]; omega
        rw [e2]
        simp

def ba (l : List UInt8) : ByteArray := ⟨l.toArray⟩
theorem ba_self (x : ByteArray) : ba x.data.toList = x := by apply ByteArray.ext; simp [ba]
theorem ba_list (l : List UInt8) : (ba l).data.toList = l := by simp [ba]
theorem ba_ext {x y : ByteArray} (h : x.data.toList = y.data.toList) : x = y := by rw [← ba_self x, h, ba_self]
theorem bt_list {x : ByteArray} {i : Nat} (h : i < x.data.toList.length) : bt x (i : Int) = (x.data.toList[i].toNat : Int) := by
  have hs : (i : Int).toNat < x.size := by rw [Go.Lib.size_eq]; simpa using h
  unfold bt
  rw [dif_pos hs]
  rfl
theorem ext_ba (x : ByteArray) (a b : Nat) (hb : b ≤ x.size) : x.extract a b = ba ((x.data.toList.take b).drop a) := by
  apply ba_ext
  rw [ba_list, Go.Lib.extract_data]
  simp [List.drop_take]
theorem specSplit_l0 (x : ByteArray) (hx : x.size ≤ 1048576) : ∀ (d i f : Nat) (out : List ByteArray), i + d = x.size → f ≤ i → out.length ≤ i →
    ∃ w ws, splW (x.data.toList.drop i) = w :: ws ∧ Ev (fun k => spec_l01Split.l0 k x 32 out (f : Int) (i : Int)) (out ++ ba ((x.data.toList.take i).drop f ++ w) :: ws.map ba)
  | 0, i, f, out, hd, hf, ho => by
    have hs := Go.Lib.size_eq x
    have e : x.data.toList.drop i = [] := by rw [List.drop_eq_nil_iff]; omega
    refine ⟨[], [], by rw [e]; rfl, ev_succ ?_⟩
    simp only [spec_l01Split.l0]
    refine ev_neg (by omega) (ev_pos (by omega) (ev_pos (by omega) (ev_pos (by omega) (ev_some ?_))))
    rw [List.append_nil, Int.toNat_natCast, ext_ba x f x.size (Nat.le_refl _), show i = x.size by omega]
    rfl
  | d + 1, i, f, out, hd, hf, ho => by
    have hs := Go.Lib.size_eq x
    have hi : i < x.data.toList.length := by omega
    have hb := bt_list hi
    have hdrop : x.data.toList.drop i = x.data.toList[i] :: x.data.toList.drop (i + 1) := List.drop_eq_getElem_cons hi
    by_cases c : x.data.toList[i] = 32
    · obtain ⟨w, ws, e1, e2⟩ := specSplit_l0 x hx d (i + 1) (i + 1) (out ++ [x.extract f i]) (by omega) (Nat.le_refl _) (by simp; omega)
      refine ⟨[], w :: ws, by rw [hdrop, splW, if_pos c, e1], ev_succ ?_⟩
      simp only [spec_l01Split.l0]
      rw [w64s (i := i) (by omega), Int.toNat_natCast, Int.toNat_natCast]
      refine ev_pos (by omega) (ev_pos (by omega) (ev_pos (by rw [hb, c]; rfl) (ev_pos (by omega) (ev_pos (by omega) (ev_pos (by omega) (ev_pos (by omega) ?_))))))
      have e3 : (x.data.toList.take (i + 1)).drop (i + 1) = [] := by rw [List.drop_eq_nil_iff]; simp; omega
      rw [e3, List.nil_append] at e2
      rw [ext_ba x f i (by omega)] at e2 ⊢
      rw [List.append_nil, List.map_cons]
      simpa [List.append_assoc] using e2
    · obtain ⟨w, ws, e1, e2⟩ := specSplit_l0 x hx d (i + 1) f out (by omega) (by omega) (by omega)
      refine ⟨x.data.toList[i] :: w, ws, by rw [hdrop, splW, if_neg c, e1], ev_succ ?_⟩
      simp only [spec_l01Split.l0]
      rw [w64s (i := i) (by omega)]
      refine ev_pos (by omega) (ev_pos (by omega) (ev_neg ?_ ?_))
      · rw [hb]
        intro h
        apply c
        apply UInt8.toNat_inj.mp
        have : (x.data.toList[i]).toNat = 32 := by omega
        rw [this]; rfl
      · have e3 : (x.data.toList.take (i + 1)).drop f = (x.data.toList.take i).drop f ++ [x.data.toList[i]] := by
          rw [List.take_add_one, List.getElem?_eq_getElem hi, List.drop_append_of_le_length (by simp; omega)]
          rfl
        rw [e3, List.append_assoc] at e2
        exact e2
theorem specSplit_ev (x : ByteArray) (hx : x.size ≤ 1048576) : Ev (fun k => spec_l01Split.f k x 32) ((splW x.data.toList).map ba) := by
  obtain ⟨w, ws, e1, e2⟩ := specSplit_l0 x hx x.size 0 0 [] (by omega) (Nat.le_refl _) (by simp)
  rw [List.drop_zero] at e1
  simp only [spec_l01Split.f]
  rw [e1]
  simpa using e2
theorem implSplit_eq (x : ByteArray) (hx : x.size ≤ 1048576) : strings_Split.f x (⟨#[32]⟩ : ByteArray) = some ((splW x.data.toList).map ba) := by
  unfold strings_Split.f
  rw [if_pos (by omega), if_pos (by decide)]
  have h := Go.Lib.splitB_data (⟨#[32]⟩ : ByteArray) 0 (Go.Lib.countB x (⟨#[32]⟩ : ByteArray)) x
  have h2 : Go.Lib.splitK [32] 0 (Go.Lib.countB x (⟨#[32]⟩ : ByteArray)) x.data.toList = splW x.data.toList := splitK_W x.data.toList
  have h3 : (⟨#[32]⟩ : ByteArray).data.toList = [32] := rfl
  rw [h3, h2] at h
  rw [← h, List.map_map]
  congr 1
  symm
  rw [List.map_congr_left (g := id) (fun y _ => by simp [ba_self])]
  simp
theorem splW_len : ∀ l, (splW l).length ≤ l.length + 1
  | [] => by simp [splW]
  | c :: cs => by
    have ih := splW_len cs
    unfold splW
    split
    · simp; omega
    · split
      · simp
      · rename_i e
        rw [e] at ih
        simp at ih ⊢; omega

theorem p18 : ∀ i : Fin 19, (10 : Int) ^ i.val ≤ 1000000000000000000 := by decide
theorem decOf (n : Int) (h0 : -9223372036854775808 ≤ n) (h1 : n ≤ 9223372036854775807) : impl_Decimal.f n = some (ba (Go.Lib.itoa n)) := by
  unfold impl_Decimal.f; rw [if_pos h0, if_pos h1]; rfl
theorem dec_l0 (t g : ByteArray) (hg : g.size ≤ 18) : ∀ (d i : Nat) (n : Int), i + d = g.size → 0 ≤ n → n < 10 ^ i →
    ∃ r : Int × Bool, Ev (fun k => impl_ReadDecimal.l0 k t g n (i : Int)) r ∧ (r.2 = true → t.data.toList = Go.Lib.itoa r.1)
  | 0, i, n, hd, h0, h1 => by
    have hp := p18 ⟨i, by omega⟩
    have hp : (10 : Int) ^ i ≤ 1000000000000000000 := hp
    have hn : wrap64 (-n) = -n := w64 (by omega) (by omega)
    have key : ∀ m : Int, -9223372036854775808 ≤ m → m ≤ 9223372036854775807 → ∃ r : Int × Bool, Ev (fun k => (impl_Decimal.f m).bind fun t133 => (if t133.toList = t.toList then (some (m, true)) else (some (0, false)))) r ∧ (r.2 = true → t.data.toList = Go.Lib.itoa r.1) := by
      intro m m0 m1
      by_cases e : (ba (Go.Lib.itoa m)).toList = t.toList
      · refine ⟨(m, true), ev_now (decOf m m0 m1) (ev_pos e (Ev.now _)), fun _ => ?_⟩
        rw [Go.Lib.toList_data, Go.Lib.toList_data, ba_list] at e
        exact e.symm
      · exact ⟨(0, false), ev_now (decOf m m0 m1) (ev_neg e (Ev.now _)), fun h => by cases h⟩
    by_cases c : (g.size : Int) < (t.size : Int)
    · obtain ⟨r, e1, e2⟩ := key (-n) (by omega) (by omega)
      refine ⟨r, ev_succ ?_, e2⟩
      simp only [impl_ReadDecimal.l0]
      rw [hn]
      exact ev_neg (by omega) (ev_pos c e1)
    · obtain ⟨r, e1, e2⟩ := key n (by omega) (by omega)
      refine ⟨r, ev_succ ?_, e2⟩
      simp only [impl_ReadDecimal.l0]
      exact ev_neg (by omega) (ev_neg c e1)
  | d + 1, i, n, hd, h0, h1 => by
    have hp : (10 : Int) ^ (i + 1) ≤ 1000000000000000000 := p18 ⟨i + 1, by omega⟩
    have hb := bt_range g (i : Int)
    by_cases c1 : bt g (i : Int) < 48
    · refine ⟨(0, false), ev_succ ?_, fun h => by cases h⟩
      simp only [impl_ReadDecimal.l0]
      exact ev_pos (by omega) (ev_pos (by omega) (ev_pos c1 (Ev.now _)))
    by_cases c2 : bt g (i : Int) > 57
    · refine ⟨(0, false), ev_succ ?_, fun h => by cases h⟩
      simp only [impl_ReadDecimal.l0]
      exact ev_pos (by omega) (ev_pos (by omega) (ev_neg c1 (ev_pos c2 (Ev.now _))))
    have hm : (bt g (i : Int) - 48) % 256 = bt g (i : Int) - 48 := by omega
    rw [Int.pow_succ] at hp
    obtain ⟨r, e1, e2⟩ := dec_l0 t g hg d (i + 1) (10 * n + (bt g (i : Int) - 48)) (by omega) (by omega) (by rw [Int.pow_succ]; omega)
    refine ⟨r, ev_succ ?_, e2⟩
    simp only [impl_ReadDecimal.l0]
    rw [hm, w64 (x := 10 * n) (by omega) (by omega), w64 (x := 10 * n + (bt g (i : Int) - 48)) (by omega) (by omega), w64s (by omega)]
    exact ev_pos (by omega) (ev_pos (by omega) (ev_neg c1 (ev_neg c2 e1)))
theorem dec_ev (t : ByteArray) : ∃ r : Int × Bool, Ev (fun k => impl_ReadDecimal.f k t) r ∧ (r.2 = true → t.data.toList = Go.Lib.itoa r.1) := by
  simp only [impl_ReadDecimal.f]
  have hp : strings_TrimPrefix.f t (⟨#[45]⟩ : ByteArray) = some (ba (Go.Lib.trimPrefix t.data.toList [45])) := rfl
  generalize ba (Go.Lib.trimPrefix t.data.toList [45]) = g at hp
  have jt : Ev (fun k => impl_ReadDecimal.j0 k t g true) (0, false) := by
    refine ev_succ ?_; simp only [impl_ReadDecimal.j0]; exact ev_pos (by trivial) (Ev.now _)
  by_cases c1 : (g.size : Int) < 1
  · exact ⟨(0, false), ev_now hp (ev_pos c1 jt), fun h => by cases h⟩
  by_cases c2 : (g.size : Int) > 18
  · refine ⟨(0, false), ev_now hp (ev_neg c1 ?_), fun h => by cases h⟩
    rw [decide_eq_true c2]; exact jt
  · obtain ⟨r, e1, e2⟩ := dec_l0 t g (by omega) g.size 0 0 (by omega) (by omega) (by simp)
    refine ⟨r, ev_now hp (ev_neg c1 ?_), e2⟩
    rw [decide_eq_false c2]
    refine ev_succ ?_; simp only [impl_ReadDecimal.j0]
    exact ev_neg (by simp) e1
theorem dec_digit (t : ByteArray) (d : Nat) (hd : d < 10) (ht : t.data.toList = [UInt8.ofNat (48 + d)]) : Ev (fun k => impl_ReadDecimal.f k t) ((d : Int), true) := by
  have hs : t.size = 1 := by rw [Go.Lib.size_eq, ht]; rfl
  have hb : bt t 0 = ((48 + d : Nat) : Int) := by
    have := bt_list (x := t) (i := 0) (by rw [ht]; simp)
    have e : t.data.toList[0]'(by rw [ht]; simp) = UInt8.ofNat (48 + d) := by simp [ht]
    rw [e] at this
    rw [show ((0 : Nat) : Int) = 0 from rfl] at this
    rw [this, UInt8.toNat_ofNat']
    congr 1
    omega
  have htrim : Go.Lib.trimPrefix t.data.toList [45] = t.data.toList := by
    rw [ht]
    have : d = 0 ∨ d = 1 ∨ d = 2 ∨ d = 3 ∨ d = 4 ∨ d = 5 ∨ d = 6 ∨ d = 7 ∨ d = 8 ∨ d = 9 := by omega
    rcases this with rfl | rfl | rfl | rfl | rfl | rfl | rfl | rfl | rfl | rfl <;> rfl
  have hi : Go.Lib.itoa (d : Int) = [UInt8.ofNat (48 + d)] := by
    unfold Go.Lib.itoa
    rw [if_neg (by omega)]
    unfold Go.Lib.decDigits
    rw [dif_pos (by omega)]
    rfl
  have hp : strings_TrimPrefix.f t (⟨#[45]⟩ : ByteArray) = some t := by
    show some (ba (Go.Lib.trimPrefix t.data.toList [45])) = some t
    rw [htrim, ba_self]
  simp only [impl_ReadDecimal.f]
  refine ev_now hp (ev_neg (by omega) ?_)
  rw [decide_eq_false (by omega)]
  refine ev_succ ?_; simp only [impl_ReadDecimal.j0]
  refine ev_neg (by simp) ?_
  refine ev_succ ?_; simp only [impl_ReadDecimal.l0]
  rw [hb]
  have e1 : wrap64 (wrap64 (10 * 0) + (((48 + d : Nat) : Int) - 48) % 256) = (d : Int) := by
    rw [w64 (x := 10 * 0) (by omega) (by omega), w64 (by omega) (by omega)]; omega
  have e2 : wrap64 (0 + 1) = 1 := by rw [w64 (by omega) (by omega)]; rfl
  rw [e1, e2]
  refine ev_pos (by omega) (ev_pos (by omega) (ev_neg (by omega) (ev_neg (by omega) ?_)))
  refine ev_succ ?_; simp only [impl_ReadDecimal.l0]
  refine ev_neg (by omega) (ev_neg (by omega) (ev_now (decOf _ (by omega) (by omega)) (ev_pos ?_ (Ev.now _))))
  rw [Go.Lib.toList_data, Go.Lib.toList_data, ba_list, hi, ht]

theorem digit_eq (x : Int) : spec_l01Digit.f x = some (decide (48 ≤ x ∧ x ≤ 57)) := by
  unfold spec_l01Digit.f
  by_cases h : x ≥ 48
  · rw [if_pos h]; congr 1; apply decide_eq_decide.2; omega
  · rw [if_neg h]; congr 1; symm; apply decide_eq_false; omega
def okT3 (w : ByteArray) : Prop := w.size = 3 ∧ (48 ≤ bt w 0 ∧ bt w 0 ≤ 57) ∧ (48 ≤ bt w 2 ∧ bt w 2 ≤ 57) ∧ (bt w 1 = 60 ∨ bt w 1 = 62)
instance (w : ByteArray) : Decidable (okT3 w) := inferInstanceAs (Decidable (_ ∧ (_ ∧ _) ∧ (_ ∧ _) ∧ (_ ∨ _)))
def stP (w : ByteArray) : S32 := ⟨bt w 0 - 48, bt w 2 - 48, bt w 1 == 62⟩
def tkR (L : List ByteArray) (out : List S32) : List S32 × Bool :=
  if (∀ w ∈ L, okT3 w) ∧ okT (out ++ L.map stP) then (out ++ L.map stP, true) else ([], false)
theorem tkR_step (w : ByteArray) (L : List ByteArray) (out : List S32) (h : okT3 w) : tkR (w :: L) out = tkR L (out ++ [stP w]) := by
  unfold tkR
  rw [List.map_cons, List.append_assoc]
  by_cases q : (∀ w ∈ L, okT3 w) ∧ okT (out ++ stP w :: L.map stP)
  · rw [if_pos ⟨List.forall_mem_cons.mpr ⟨h, q.1⟩, q.2⟩, if_pos ⟨q.1, q.2⟩]; rfl
  · rw [if_neg (fun g => q ⟨(List.forall_mem_cons.mp g.1).2, g.2⟩), if_neg (fun g => q ⟨g.1, g.2⟩)]
theorem tkR_no (w : ByteArray) (L : List ByteArray) (out : List S32) (h : ¬ okT3 w) : tkR (w :: L) out = ([], false) := by
  unfold tkR
  rw [if_neg (fun g => h (List.forall_mem_cons.mp g.1).1)]
theorem tkR_bad (p : S32) (L : List ByteArray) (out : List S32) (h : ¬ okP p) : tkR L (out ++ [p]) = ([], false) := by
  unfold tkR
  rw [if_neg (fun g => h (g.2.1 p (by simp)))]
theorem rdOfT {L : List ByteArray} {i : Nat} (h : i < L.length) : rdOf ByteArray.empty L (i : Int) = L[i] := by
  unfold rdOf; simp [List.getD_eq_getElem?_getD, h]
theorem specTk_l0 (L : List ByteArray) (hL : L.length ≤ 1048577) : ∀ (d i : Nat) (out : List S32), i + d = L.length → out.length = i →
    Ev (fun k => spec_ReadTackle.l0 k L out (i : Int)) (tkR (L.drop i) out)
  | 0, i, out, hd, ho => by
    have e : L.drop i = [] := by rw [List.drop_eq_nil_iff]; omega
    refine ev_succ ?_
    simp only [spec_ReadTackle.l0]
    rw [e]
    refine ev_neg (by omega) (Ev.bind (l05Ok_ev out (by omega)) (ev_if (fun h => ev_some ?_) (fun h => ev_some ?_)))
    · unfold tkR; rw [if_pos ⟨fun w hw => (by cases hw), by simpa using of_decide_eq_true h⟩]; simp
    · unfold tkR; rw [if_neg (fun g => h (decide_eq_true (by simpa using g.2)))]
  | d + 1, i, out, hd, ho => by
    have hi : i < L.length := by omega
    have hb0 := bt_range L[i] 0
    have hb2 := bt_range L[i] 2
    have ih := specTk_l0 L hL d (i + 1) (out ++ [stP L[i]]) (by omega) (by simp; omega)
    rw [List.drop_eq_getElem_cons hi]
    refine ev_succ ?_
    simp only [spec_ReadTackle.l0]
    rw [rdOfT hi, w64s (by omega)]
    refine ev_pos (by omega) (ev_pos (by omega) ?_)
    by_cases ok : okT3 L[i]
    · rw [tkR_step _ _ _ ok]
      obtain ⟨o1, ⟨o2, o3⟩, ⟨o4, o5⟩, o6⟩ := ok
      have es : (⟨(bt L[i] 0 - 48) % 256, (bt L[i] 2 - 48) % 256, (bt L[i] 1 == 62)⟩ : S32) = stP L[i] := by
        unfold stP; rw [show (bt L[i] 0 - 48) % 256 = bt L[i] 0 - 48 by omega, show (bt L[i] 2 - 48) % 256 = bt L[i] 2 - 48 by omega]
      rw [es]
      refine ev_pos (by omega) (ev_pos (by omega) (ev_now (digit_eq _) (ev_pos (decide_eq_true ⟨o2, o3⟩) (ev_pos (by omega) (ev_now (digit_eq _) (ev_pos (decide_eq_true ⟨o4, o5⟩) (ev_pos (by omega) ?_)))))))
      exact ev_if (fun _ => ev_pos (by omega) ih) (fun h => ev_pos (by omega) (ev_pos (by omega) ih))
    · rw [tkR_no _ _ _ ok]
      refine ev_if (fun h1 => ev_pos (by omega) (ev_now (digit_eq _) (ev_if (fun h2 => ev_pos (by omega) (ev_now (digit_eq _) (ev_if (fun h3 => ev_pos (by omega) ?_) (fun _ => Ev.now _)))) (fun _ => Ev.now _)))) (fun _ => Ev.now _)
      have h2 := of_decide_eq_true h2
      have h3 := of_decide_eq_true h3
      exact ev_neg (fun h => ok ⟨by omega, h2, h3, .inl h⟩) (ev_neg (fun h => ok ⟨by omega, h2, h3, .inr h⟩) (Ev.now _))
theorem indexAny_cases (c : List UInt8) : ∀ l : List UInt8, Go.Lib.indexAny l c = -1 ∧ (∀ x ∈ l, c.contains x = false) ∨ ∃ (i : Nat) (h : i < l.length), Go.Lib.indexAny l c = i ∧ c.contains l[i] = true ∧ ∀ (j : Nat) (hj : j < i), c.contains (l[j]'(by omega)) = false
  | [] => .inl ⟨rfl, fun x hx => by cases hx⟩
  | b :: l => by
    by_cases h : c.contains b = true
    · refine .inr ⟨0, by simp, ?_, h, fun j hj => absurd hj (by omega)⟩
      unfold Go.Lib.indexAny; rw [if_pos h]; rfl
    · have hf : c.contains b = false := by simpa using h
      rcases indexAny_cases c l with ⟨h1, h2⟩ | ⟨i, hi, h1, h2, h3⟩
      · refine .inl ⟨?_, List.forall_mem_cons.mpr ⟨hf, h2⟩⟩
        unfold Go.Lib.indexAny; rw [if_neg h, h1]; rfl
      · refine .inr ⟨i + 1, by simp; omega, ?_, by simpa using h2, fun j hj => ?_⟩
        · unfold Go.Lib.indexAny; rw [if_neg h, h1, if_neg (fun e => by have := beq_iff_eq.mp e; omega)]; push_cast; rfl
        · cases j with
          | zero => exact hf
          | succ j => simpa using h3 j (by omega)
theorem itoa_dig {n : Int} (h0 : 0 ≤ n) (h1 : n ≤ 9) : Go.Lib.itoa n = [UInt8.ofNat (48 + n.toNat)] := by
  unfold Go.Lib.itoa
  rw [if_neg (by omega)]
  unfold Go.Lib.decDigits
  rw [dif_pos (by omega)]
theorem marks_true {x : UInt8} (h : ([60, 62] : List UInt8).contains x = true) : (x.toNat : Int) = 60 ∨ (x.toNat : Int) = 62 := by
  simp at h
  rcases h with h | h
  · left; rw [h]; rfl
  · right; rw [h]; rfl
theorem marks_false {x : UInt8} (h : ([60, 62] : List UInt8).contains x = false) : (x.toNat : Int) ≠ 60 ∧ (x.toNat : Int) ≠ 62 := by
  simp at h
  refine ⟨fun e => h.1 (UInt8.toNat_inj.mp ?_), fun e => h.2 (UInt8.toNat_inj.mp ?_)⟩
  · show x.toNat = 60; omega
  · show x.toNat = 62; omega
/-- A word that begins with its mark's place: what the two numbers read as. -/
theorem tk_word (w : ByteArray) (i : Nat) (hi : i < w.data.toList.length) (h1 : ([60, 62] : List UInt8).contains w.data.toList[i] = true) (h2 : ∀ (j : Nat) (hj : j < i), ([60, 62] : List UInt8).contains (w.data.toList[j]'(by omega)) = false) :
    ∃ (r s : Int × Bool), Ev (fun k => impl_ReadDecimal.f k (w.extract 0 i)) r ∧ Ev (fun k => impl_ReadDecimal.f k (w.extract (i + 1) w.size)) s ∧
      (okT3 w → r.2 = true ∧ s.2 = true ∧ (⟨r.1, s.1, bt w i == 62⟩ : S32) = stP w) ∧ (¬ okT3 w → r.2 = true → s.2 = true → ¬ okP (⟨r.1, s.1, bt w i == 62⟩ : S32)) := by
  have hs := Go.Lib.size_eq w
  have hbt : ∀ (j : Nat) (hj : j < w.data.toList.length), bt w (j : Int) = ((w.data.toList[j]'hj).toNat : Int) := fun j hj => bt_list hj
  have x1 : (w.extract 0 i).data.toList = w.data.toList.take i := by rw [ext_ba w 0 i (by omega), ba_list, List.drop_zero]
  have x2 : (w.extract (i + 1) w.size).data.toList = w.data.toList.drop (i + 1) := Go.Lib.extract_to_end w (i + 1)
  by_cases ok : okT3 w
  · obtain ⟨o1, ⟨o2, o3⟩, ⟨o4, o5⟩, o6⟩ := ok
    have hl : w.data.toList.length = 3 := by omega
    have b0 := hbt 0 (by omega)
    have b1 := hbt 1 (by omega)
    have b2 := hbt 2 (by omega)
    have c0 : bt w 0 = ((w.data.toList[0]'(by omega)).toNat : Int) := b0
    have c1 : bt w 1 = ((w.data.toList[1]'(by omega)).toNat : Int) := b1
    have c2 : bt w 2 = ((w.data.toList[2]'(by omega)).toNat : Int) := b2
    have hi1 : i = 1 := by
      rcases (show i = 0 ∨ i = 1 ∨ i = 2 by omega) with rfl | rfl | rfl
      · have := marks_true h1; omega
      · rfl
      · have := marks_false (h2 1 (by omega)); omega
    subst hi1
    obtain ⟨a, ha, ha9⟩ : ∃ a : Nat, bt w 0 = ((48 + a : Nat) : Int) ∧ a < 10 := ⟨(bt w 0 - 48).toNat, by omega, by omega⟩
    obtain ⟨b, hb, hb9⟩ : ∃ b : Nat, bt w 2 = ((48 + b : Nat) : Int) ∧ b < 10 := ⟨(bt w 2 - 48).toNat, by omega, by omega⟩
    have y1 : w.data.toList.take 1 = [UInt8.ofNat (48 + a)] := by
      rw [List.take_succ_eq_append_getElem (by omega), List.take_zero, List.nil_append]
      congr 1
      apply UInt8.toNat_inj.mp
      rw [UInt8.toNat_ofNat']
      omega
    have y2 : w.data.toList.drop 2 = [UInt8.ofNat (48 + b)] := by
      rw [List.drop_eq_getElem_cons (by omega), List.drop_eq_nil_iff.mpr (by omega)]
      congr 1
      apply UInt8.toNat_inj.mp
      rw [UInt8.toNat_ofNat']
      omega
    refine ⟨((a : Int), true), ((b : Int), true), dec_digit _ a ha9 (by rw [x1, y1]), dec_digit _ b hb9 (by rw [x2]; exact y2), fun _ => ⟨rfl, rfl, ?_⟩, fun g => absurd ⟨o1, ⟨o2, o3⟩, ⟨o4, o5⟩, o6⟩ g⟩
    unfold stP
    rw [show bt w 0 - 48 = (a : Int) by omega, show bt w 2 - 48 = (b : Int) by omega]
    rfl
  · obtain ⟨r, e1, f1⟩ := dec_ev (w.extract 0 i)
    obtain ⟨s, e2, f2⟩ := dec_ev (w.extract (i + 1) w.size)
    refine ⟨r, s, e1, e2, fun g => absurd g ok, fun _ q1 q2 hp => ok ?_⟩
    obtain ⟨⟨p1, p2⟩, ⟨p3, p4⟩, _⟩ := hp
    have p1 : 0 ≤ r.1 := p1
    have p2 : r.1 ≤ 4 := p2
    have p3 : 0 ≤ s.1 := p3
    have p4 : s.1 ≤ 4 := p4
    have g1 := f1 q1
    have g2 := f2 q2
    rw [x1, itoa_dig p1 (by omega)] at g1
    rw [x2, itoa_dig p3 (by omega)] at g2
    have l1 : i = 1 := by
      have := congrArg List.length g1
      rw [List.length_take] at this
      simp at this
      omega
    subst l1
    have l2 : w.data.toList.length = 3 := by
      have := congrArg List.length g2
      rw [List.length_drop] at this
      simp only [List.length_cons, List.length_nil] at this
      omega
    have b0 : bt w 0 = ((w.data.toList[0]'(by omega)).toNat : Int) := hbt 0 (by omega)
    have b1 : bt w 1 = ((w.data.toList[1]'(by omega)).toNat : Int) := hbt 1 (by omega)
    have b2 : bt w 2 = ((w.data.toList[2]'(by omega)).toNat : Int) := hbt 2 (by omega)
    rw [List.take_succ_eq_append_getElem (by omega), List.take_zero, List.nil_append] at g1
    rw [List.drop_eq_getElem_cons (by omega)] at g2
    have u1 := (List.cons.inj g1).1
    have u2 := (List.cons.inj g2).1
    rw [u1, UInt8.toNat_ofNat'] at b0
    have u2' : (w.data.toList[2]'(by omega)) = UInt8.ofNat (48 + s.1.toNat) := u2
    rw [u2', UInt8.toNat_ofNat'] at b2
    have u3 := marks_true h1
    exact ⟨by omega, by omega, by omega, by omega⟩
theorem implTk_l0 (L : List ByteArray) (hL : L.length ≤ 1048577) (hw : ∀ w ∈ L, w.size ≤ 1048576) : ∀ (d i : Nat) (out : List S32), i + d = L.length → out.length = i →
    Ev (fun k => impl_ReadTackle.l0 k out L (L.length : Int) (i : Int)) (tkR (L.drop i) out)
  | 0, i, out, hd, ho => by
    have e : L.drop i = [] := by rw [List.drop_eq_nil_iff]; omega
    refine ev_succ ?_
    simp only [impl_ReadTackle.l0]
    rw [e]
    refine ev_neg (by omega) (Ev.bind (validTackle_ev out) (ev_if (fun h => ev_some ?_) (fun h => ev_some ?_)))
    · unfold tkR; rw [if_pos ⟨fun w hw => (by cases hw), by simpa using of_decide_eq_true h⟩]; simp
    · unfold tkR; rw [if_neg (fun g => h (decide_eq_true (by simpa using g.2)))]
  | d + 1, i, out, hd, ho => by
    have hi : i < L.length := by omega
    have hsz := hw L[i] (List.getElem_mem _)
    have hs := Go.Lib.size_eq L[i]
    rw [List.drop_eq_getElem_cons hi]
    refine ev_succ ?_
    simp only [impl_ReadTackle.l0]
    rw [rdOfT hi, w64s (i := i) (by omega)]
    have hx : strings_IndexAny.f L[i] (⟨#[60, 62]⟩ : ByteArray) = some (Go.Lib.indexAny L[i].data.toList [60, 62]) := by
      unfold strings_IndexAny.f; rw [if_pos (by omega), if_pos rfl]
    refine ev_pos (by omega) (ev_pos (by omega) (ev_pos (by omega) (ev_now hx ?_)))
    rcases indexAny_cases [60, 62] L[i].data.toList with ⟨h1, h2⟩ | ⟨j, hj, h1, h2, h3⟩
    · rw [h1]
      have no : ¬ okT3 L[i] := fun ok => by
        have hl : 1 < L[i].data.toList.length := by have := ok.1; omega
        have b0 := bt_list hl
        have b1 : bt L[i] 1 = ((L[i].data.toList[1]'hl).toNat : Int) := b0
        have := marks_false (h2 _ (List.getElem_mem hl))
        have := ok.2.2.2
        omega
      rw [tkR_no _ _ _ no]
      exact ev_pos (by omega) (Ev.now _)
    · rw [h1]
      obtain ⟨r, s, e1, e2, q1, q2⟩ := tk_word L[i] j hj h2 h3
      have hw1 : wrap64 ((j : Int) + 1) = ((j + 1 : Nat) : Int) := w64s (by omega)
      rw [hw1]
      have hjs : j < L[i].size := by omega
      clear hw1 h1 h2 h3 hx
      have t0 : ((j : Nat) : Int).toNat = j := by omega
      have t1 : (((j + 1 : Nat) : Nat) : Int).toNat = j + 1 := by omega
      rw [t0, t1]
      refine ev_neg (by omega) (ev_pos (by omega) (ev_pos (by omega) (Ev.bind e1 (ev_pos (by omega) (ev_pos (by omega) (Ev.bind e2 ?_))))))
      have ih := fun p => implTk_l0 L hL hw d (i + 1) (out ++ [p]) (by omega) (by simp; omega)
      by_cases ok : okT3 L[i]
      · obtain ⟨a1, a2, a3⟩ := q1 ok
        rw [tkR_step _ _ _ ok, ← a3]
        exact ev_pos a1 (ev_pos a2 (ev_pos (by omega) (ev_pos (by omega) (ih _))))
      · rw [tkR_no _ _ _ ok]
        refine ev_if (fun a1 => ev_if (fun a2 => ev_pos (by omega) (ev_pos (by omega) ?_)) (fun _ => Ev.now _)) (fun _ => Ev.now _)
        have ih := ih ⟨r.1, s.1, bt L[i] j == 62⟩
        rw [tkR_bad _ _ _ (q2 ok a1 a2)] at ih
        exact ih
theorem splW_size : ∀ (l : List UInt8), ∀ w ∈ splW l, w.length ≤ l.length
  | [] => by simp [splW]
  | c :: cs => by
    have ih := splW_size cs
    unfold splW
    split
    · intro w hw
      rcases List.mem_cons.mp hw with rfl | hw
      · simp
      · have := ih w hw; simp; omega
    · split
      · rename_i e
        intro w hw
        simp at hw
        subst hw
        simp
      · rename_i v vs e
        intro w hw
        rcases List.mem_cons.mp hw with rfl | hw
        · have := ih v (by rw [e]; simp); simpa using this
        · have := ih w (by rw [e]; simp [hw]); simp; omega
theorem tkR_len (L : List ByteArray) : (tkR L []).1.length ≤ 6 := by
  unfold tkR
  split
  · rename_i h; exact h.2.2.2
  · simp
theorem readTk_both (x : ByteArray) (hx : x.size ≤ 1048576) : ∃ (l : List S32) (b : Bool), l.length ≤ 6 ∧ Ev (fun k => spec_ReadTackle.f k x) (l, b) ∧ Ev (fun k => impl_ReadTackle.f k x) (l, b) := by
  have s1 := specSplit_ev x hx
  have s2 := implSplit_eq x hx
  have hl := splW_len x.data.toList
  have hs := Go.Lib.size_eq x
  have hz : ∀ w ∈ (splW x.data.toList).map ba, w.size ≤ 1048576 := by
    intro w hw
    obtain ⟨v, hv, rfl⟩ := List.mem_map.mp hw
    have := splW_size _ v hv
    rw [Go.Lib.size_eq, ba_list]
    omega
  obtain ⟨L, hL⟩ : ∃ L, L = (splW x.data.toList).map ba := ⟨_, rfl⟩
  have hn : L.length ≤ 1048577 := by rw [hL, List.length_map]; omega
  rw [← hL] at s1 s2 hz
  have e1 := specTk_l0 L hn L.length 0 [] (by omega) rfl
  have e2 := implTk_l0 L hn hz L.length 0 [] (by omega) rfl
  rw [List.drop_zero] at e1 e2
  refine ⟨(tkR L []).1, (tkR L []).2, tkR_len L, ?_, ?_⟩
  · simp only [spec_ReadTackle.f]; exact Ev.bind s1 e1
  · simp only [impl_ReadTackle.f]; exact ev_now s2 e2

theorem FnExactReadTackle : laws_FnExactReadTackle.Pure := by
  intro x _
  refine Ev.rounds ?_
  simp only [laws_FnExactReadTackle.f]
  refine ev_if (fun _ => Ev.now _) (fun hx => ?_)
  obtain ⟨v, c, hv6, e1, e2⟩ := readTk_both x (by omega)
  have hv : v.length ≤ 1048576 := by omega
  have ev := eqPurchaseS_self v hv
  have bf : (c != c) = false := by simp
  have mv := markPPurchaseS_ev v 1 (by omega) (by omega)
  have hd := heldPPurchaseS_ev 1 (by omega) v.length (by omega)
  have j1 : Ev (fun k => laws_FnExactReadTackle.j1 k (mkPPurchase 1 v.length) (1 + 3 * (v.length : Int)) false) true := by
    refine ev_succ ?_; simp only [laws_FnExactReadTackle.j1]
    exact ev_neg (by simp) (Ev.bind hd (ev_neg (by omega) (ev_pos rfl (Ev.now _))))
  have j0 : Ev (fun k => laws_FnExactReadTackle.j0 k x v c v false) true := by
    refine ev_succ ?_; simp only [laws_FnExactReadTackle.j0]
    refine ev_neg (by simp) (Ev.bind mv (Ev.bind hd (ev_neg (by omega) (ev_pos rfl (Ev.bind e2 (Ev.bind ev (ev_pos (by trivial) ?_)))))))
    rw [bf]; exact j1
  refine Ev.bind e1 (Ev.bind e2 (Ev.bind ev (ev_pos (by trivial) ?_)))
  rw [bf]
  exact j0

end Go.Proofs.YtcjandlemjfojaaDoor.PureFnExactReadTackle
namespace Go.Proofs.YtcjandlemjfojaaDoor.Pure
open Go.Proofs.YtcjandlemjfojaaDoor.HRt
theorem FnExactReadTackle : laws_FnExactReadTackle.Pure := PureFnExactReadTackle.FnExactReadTackle
end Go.Proofs.YtcjandlemjfojaaDoor.Pure
