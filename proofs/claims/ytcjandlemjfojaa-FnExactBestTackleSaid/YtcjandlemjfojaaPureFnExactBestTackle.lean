/- The program's function answers as the statement says. Conditions: none beyond the given statement's own. -/
import Derived.Test.YtcjandlemjfojaaHTacx7
import Derived.Test.YtcjandlemjfojaaLib
set_option linter.unusedVariables false
set_option linter.unusedSimpArgs false
namespace Go.Proofs.Ytcjandlemjfojaa.PureFnExactBestTackle
open Go.RowKit Go.Proofs.Ytcjandlemjfojaa.HTac Go.Proofs.YtcjandlemjfojaaW.PrintWords Go.Proofs.YtcjandlemjfojaaW.PrintLast Go.Proofs.YtcjandlemjfojaaW.PrintMore Go.Proofs.Ytcjandlemjfojaa.Lib
theorem rdEPurchase {xs : List S39} {i : Nat} (h : i < xs.length) : rd_T39 xs (i : Int) = xs[i] := by
  unfold rd_T39; simp [List.getD_eq_getElem?_getD, h]
theorem eqPurchase_self (x : S39) : laws_eqPurchase.f x.f0 x.f1 x.f2 x.f0 x.f1 x.f2 = some true := by
  simp [laws_eqPurchase.f]
theorem eqPurchaseS_l0 (x0 : List S39) (hn : x0.length ≤ 1048576) : ∀ (d i : Nat), i + d = x0.length → Ev (fun k => laws_eqPurchaseS.l0 k x0 x0 (i : Int)) true
  | 0, i, hd => by
    refine ev_succ ?_
    simp only [laws_eqPurchaseS.l0]
    exact ev_neg (by omega) (Ev.now _)
  | d + 1, i, hd => by
    refine ev_succ ?_
    simp only [laws_eqPurchaseS.l0]
    refine ev_pos (by omega) (ev_pos (by omega) (ev_pos (by omega) (ev_now (eqPurchase_self _) (ev_pos (by trivial) ?_))))
    rw [w64s (by omega)]
    exact eqPurchaseS_l0 x0 hn d (i + 1) (by omega)
theorem eqPurchaseS_self (l : List S39) (hn : l.length ≤ 1048576) : Ev (fun k => laws_eqPurchaseS.f k l l) true := by
  simp only [laws_eqPurchaseS.f]
  exact ev_pos (by trivial) (eqPurchaseS_l0 l hn l.length 0 (by omega))

/-- Marks in a row of structs of two numbers and a bool: what stands there behind them. -/
theorem rdPPurchase {xs : List S39} {i : Nat} (h : i < xs.length) : rd_T39 xs (i : Int) = xs[i] := by
  unfold rd_T39; simp [List.getD_eq_getElem?_getD, h]
theorem rdSetPurchase {xs : List S39} {i : Nat} (h : i < xs.length) (v : S39) : rd_T39 (xs.set i v) (i : Int) = v := by
  rw [rdPPurchase (by simpa using h), List.getElem_set_self]
theorem take_setP {α : Type} : ∀ (i : Nat) (xs ys : List α) (v : α) (_ : i < xs.length) (h : i < ys.length), xs.take i = ys.take i → v = ys[i] → (xs.set i v).take (i + 1) = ys.take (i + 1) := by
  intro i xs ys v hx hy h1 h2
  rw [List.take_add_one, List.take_add_one, List.take_set_of_le (Nat.le_refl i), h1, List.getElem?_set_self hx, List.getElem?_eq_getElem hy, h2]
def mkPPurchase (s : Int) (n : Nat) : List S39 := (List.range n).map fun (j : Nat) => ⟨s + 3 * (j : Int), s + 3 * (j : Int) + 1, Int.tmod (s + 3 * (j : Int) + 1 + 1) 3 == 0⟩
theorem mkPPurchase_length (s : Int) (n : Nat) : (mkPPurchase s n).length = n := by simp [mkPPurchase]
theorem mkPPurchase_get (s : Int) (n i : Nat) (h : i < (mkPPurchase s n).length) : (mkPPurchase s n)[i] = ⟨s + 3 * (i : Int), s + 3 * (i : Int) + 1, Int.tmod (s + 3 * (i : Int) + 1 + 1) 3 == 0⟩ := by simp [mkPPurchase]
theorem markPPurchaseS_l0 (s : Int) (h0 : 0 ≤ s) (n : Nat) (hn : s + 3 * n < 4611686018427387904) : ∀ (d i : Nat) (x0 : List S39), i + d = n → x0.length = n → x0.take i = (mkPPurchase s n).take i →
    Ev (fun k => laws_markPurchaseS.l0 k x0 (s + 3 * i) (i : Int)) (s + 3 * n, mkPPurchase s n)
  | 0, i, x0, hd, hl, ht => by
    refine ev_succ ?_
    simp only [laws_markPurchaseS.l0]
    refine ev_neg (by omega) (ev_some ?_)
    rw [List.take_of_length_le (by omega), List.take_of_length_le (by rw [mkPPurchase_length]; omega)] at ht
    rw [ht]; congr 1; omega
  | d + 1, i, x0, hd, hl, ht => by
    have hi : i < x0.length := by omega
    refine ev_succ ?_
    simp only [laws_markPurchaseS.l0]
    refine ev_pos (by omega) (ev_pos (by omega) (ev_now rfl (ev_now rfl ?_)))
    rw [w64s (by omega), w64 (x := s + 3 * (i : Int) + 1) (by omega) (by omega), w64 (x := s + 3 * (i : Int) + 1 + 1) (by omega) (by omega), w64 (x := s + 3 * (i : Int) + 1 + 1 + 1) (by omega) (by omega)]
    simp only [Int.toNat_natCast, List.set_set, rdSetPurchase hi]
    have e : s + 3 * (i : Int) + 1 + 1 + 1 = s + 3 * ((i + 1 : Nat) : Int) := by omega
    rw [e]
    refine markPPurchaseS_l0 s h0 n hn d (i + 1) _ (by omega) (by simpa using hl) (take_setP _ _ _ _ (by omega) (by rw [mkPPurchase_length]; omega) ht ?_)
    rw [mkPPurchase_get]
theorem markPPurchaseS_ev (l : List S39) (s : Int) (h0 : 0 ≤ s) (hn : s + 3 * l.length < 4611686018427387904) :
    Ev (fun k => laws_markPurchaseS.f k l s) (s + 3 * l.length, mkPPurchase s l.length) := by
  simp only [laws_markPurchaseS.f]
  have := markPPurchaseS_l0 s h0 l.length hn l.length 0 l (by omega) rfl (by simp)
  simpa using this
theorem heldPPurchaseS_l0 (s : Int) (h0 : 0 ≤ s) (n : Nat) (hn : s + 3 * n < 4611686018427387904) : ∀ (d i : Nat), i + d = n →
    Ev (fun k => laws_heldPurchaseS.l0 k (mkPPurchase s n) (s + 3 * i) (i : Int)) (s + 3 * n)
  | 0, i, hd => by
    refine ev_succ ?_
    simp only [laws_heldPurchaseS.l0]
    refine ev_neg (by rw [mkPPurchase_length]; omega) (ev_some ?_)
    omega
  | d + 1, i, hd => by
    refine ev_succ ?_
    simp only [laws_heldPurchaseS.l0]
    rw [rdPPurchase (by rw [mkPPurchase_length]; omega), mkPPurchase_get, w64s (by omega), w64 (x := s + 3 * (i : Int) + 1) (by omega) (by omega), w64 (x := s + 3 * (i : Int) + 1 + 1) (by omega) (by omega), w64 (x := s + 3 * (i : Int) + 1 + 1 + 1) (by omega) (by omega)]
    refine ev_pos (by rw [mkPPurchase_length]; omega) (ev_pos (by omega) (ev_pos rfl (ev_pos rfl (ev_neg (by simp) ?_))))
    have e : s + 3 * (i : Int) + 1 + 1 + 1 = s + 3 * ((i + 1 : Nat) : Int) := by omega
    rw [e]
    exact heldPPurchaseS_l0 s h0 n hn d (i + 1) (by omega)
theorem heldPPurchaseS_ev (s : Int) (h0 : 0 ≤ s) (n : Nat) (hn : s + 3 * n < 4611686018427387904) :
    Ev (fun k => laws_heldPurchaseS.f k (mkPPurchase s n) s) (s + 3 * n) := by
  simp only [laws_heldPurchaseS.f]
  have := heldPPurchaseS_l0 s h0 n hn n 0 (by omega)
  simpa using this

/-- What a search has kept: the program's and the reference's. -/
def TkR (n : Nat) (x : Option (List S39 × Int)) (y : List S39 × Int) : Prop :=
  (x = none ∧ y = ([], -1)) ∨ ∃ l c, 0 ≤ c ∧ 1 ≤ l.length ∧ l.length ≤ n ∧ x = some (l, c) ∧ y = (l, c)
theorem rdD_id {σ : Type} (f : Int → σ → Option σ) (s : σ) : ∀ q : Nat, (∀ a : Int, 2 ≤ a → a ≤ (q : Int) + 1 → f a s = some s) → rdD f q s = some s
  | 0, _ => rfl
  | q + 1, h => by
    rw [rdD, h ((q : Int) + 2) (by omega) (by omega)]
    exact rdD_id f s q (fun a h1 h2 => h a h1 (by omega))
theorem rdD_two {σ τ : Type} (P : σ → τ → Prop) (f : Int → σ → Option σ) (g : Int → τ → Option τ) : ∀ (q : Nat) (s : σ) (t : τ), (∀ (a : Int) (s : σ) (t : τ), 2 ≤ a → a ≤ (q : Int) + 1 → P s t → ∃ s' t', P s' t' ∧ f a s = some s' ∧ g a t = some t') → P s t → ∃ s' t', P s' t' ∧ rdD f q s = some s' ∧ rdD g q t = some t'
  | 0, s, t, _, h0 => ⟨s, t, h0, rfl, rfl⟩
  | q + 1, s, t, h, h0 => by
    obtain ⟨s1, t1, h1, e1, e2⟩ := h ((q : Int) + 2) s t (by omega) (by omega) h0
    obtain ⟨s2, t2, h2, e3, e4⟩ := rdD_two P f g q s1 t1 (fun a s t ha hb => h a s t ha (by omega)) h1
    exact ⟨s2, t2, h2, by rw [rdD, e1]; exact e3, by rw [rdD, e2]; exact e4⟩
theorem top_le {most left : Int} {q : Nat} (hq : q = ((if most < left then most else left) - 1).toNat) (h1 : 1 ≤ left) (h2 : 0 ≤ most ∧ most ≤ 9) {a : Int} (ha : 2 ≤ a) (hb : a ≤ (q : Int) + 1) : a ≤ 9 ∧ a ≤ left ∧ a ≤ most := by
  subst hq
  split at hb <;> omega
/-- The tables of both sides: the same first purchases, of the same number of blocks. -/
structure TkT (fst : Int → S39) (all : Int → Option (List S39)) (cI cS : S39 → Option Int) : Prop where
  at_ : ∀ a : Int, 2 ≤ a → a ≤ 9 → ∃ (rest : List S39) (c : Int), all a = some (fst a :: rest) ∧ cI (fst a) = some c ∧ cS (fst a) = some c ∧ 0 ≤ c ∧ c ≤ 2
section
variable {fst : Int → S39} {all : Int → Option (List S39)} {cI cS : S39 → Option Int}
theorem tkI_cut (H : TkT fst all cI cS) (l : List S39) (c : Int) : ∀ (m : Nat) (left most blocks : Int) (list : List S39), 1 ≤ left → (0 ≤ most ∧ most ≤ 9) → c ≤ blocks → tkI fst cI m left most blocks list (some (l, c)) = some (some (l, c))
  | 0, left, most, blocks, list, h1, h2, h3 => by
    unfold tkI
    split
    · show some (if blocks < c then some (list, blocks) else some (l, c)) = _
      rw [if_neg (by omega)]
    · rfl
  | m + 1, left, most, blocks, list, h1, h2, h3 => by
    rw [tkI]
    split
    · show some (if blocks < c then some (list, blocks) else some (l, c)) = _
      rw [if_neg (by omega)]
    · refine rdD_id _ _ _ (fun a ha hb => ?_)
      have hb := top_le rfl h1 h2 ha hb
      split
      · rename_i hd
        obtain ⟨rest, d, e1, e2, e3, e4, e5⟩ := H.at_ a ha hb.1
        rw [e2]
        show (if 0 ≤ d ∧ d ≤ 2 then _ else _) = _
        rw [if_pos ⟨e4, e5⟩]
        refine tkI_cut H l c m (Int.tdiv left a) a (blocks + d) (list ++ [fst a]) ?_ ⟨by omega, hb.1⟩ (by omega)
        obtain ⟨z, hz⟩ : ∃ z, left = a * z := ⟨Int.tdiv left a, by have := Int.mul_tdiv_add_tmod left a; rw [hd] at this; omega⟩
        rw [hz, Int.mul_tdiv_cancel_left _ (by omega)]
        have : ¬ z ≤ 0 := fun h => by have := Int.mul_nonpos_of_nonneg_of_nonpos (show 0 ≤ a by omega) h; omega
        omega
      · rfl
theorem tk_both (H : TkT fst all cI cS) : ∀ (m n : Nat) (left most blocks : Int) (list : List S39) (x : Option (List S39 × Int)) (y : List S39 × Int), list.length + m ≤ n → (left = 1 → 1 ≤ list.length) → 1 ≤ left → (0 ≤ most ∧ most ≤ 9) → 0 ≤ blocks → TkR n x y →
    ∃ x' y', TkR n x' y' ∧ tkI fst cI m left most blocks list x = some x' ∧ tkS all cS m left most blocks list y = some y'
  | 0, n, left, most, blocks, list, x, y, hl, hne, h1, h2, h3, hr => by
    by_cases hp : 0 ≤ y.2 ∧ y.2 ≤ blocks
    · rcases hr with ⟨rfl, rfl⟩ | ⟨l, c, hc, q1, q2, rfl, rfl⟩
      · exact absurd hp.1 (by decide)
      · exact ⟨_, _, Or.inr ⟨l, c, hc, q1, q2, rfl, rfl⟩, tkI_cut H l c 0 _ _ _ _ h1 h2 hp.2, by unfold tkS; rw [if_pos hp]⟩
    · by_cases hx : left = 1
      · refine ⟨some (list, blocks), (list, blocks), Or.inr ⟨list, blocks, h3, hne hx, by omega, rfl, rfl⟩, ?_, by unfold tkS; rw [if_neg hp, if_pos hx]⟩
        unfold tkI; rw [if_pos hx]
        rcases hr with ⟨rfl, rfl⟩ | ⟨l, c, hc, q1, q2, rfl, rfl⟩
        · rfl
        · show some (if blocks < c then some (list, blocks) else some (l, c)) = _
          rw [if_pos (by have hp : ¬ (0 ≤ c ∧ c ≤ blocks) := hp; omega)]
      · exact ⟨x, y, hr, by unfold tkI; rw [if_neg hx], by unfold tkS; rw [if_neg hp, if_neg hx]⟩
  | m + 1, n, left, most, blocks, list, x, y, hl, hne, h1, h2, h3, hr => by
    by_cases hp : 0 ≤ y.2 ∧ y.2 ≤ blocks
    · rcases hr with ⟨rfl, rfl⟩ | ⟨l, c, hc, q1, q2, rfl, rfl⟩
      · exact absurd hp.1 (by decide)
      · exact ⟨_, _, Or.inr ⟨l, c, hc, q1, q2, rfl, rfl⟩, tkI_cut H l c (m + 1) _ _ _ _ h1 h2 hp.2, by unfold tkS; rw [if_pos hp]⟩
    · by_cases hx : left = 1
      · refine ⟨some (list, blocks), (list, blocks), Or.inr ⟨list, blocks, h3, hne hx, by omega, rfl, rfl⟩, ?_, by unfold tkS; rw [if_neg hp, if_pos hx]⟩
        unfold tkI; rw [if_pos hx]
        rcases hr with ⟨rfl, rfl⟩ | ⟨l, c, hc, q1, q2, rfl, rfl⟩
        · rfl
        · show some (if blocks < c then some (list, blocks) else some (l, c)) = _
          rw [if_pos (by have hp : ¬ (0 ≤ c ∧ c ≤ blocks) := hp; omega)]
      · rw [tkI, tkS, if_neg hx, if_neg hp, if_neg hx]
        refine rdD_two (TkR n) _ _ _ _ _ (fun a s t ha hb hst => ?_) hr
        have hb := top_le rfl h1 h2 ha hb
        by_cases hd : Int.tmod left a = 0
        · obtain ⟨rest, d, e1, e2, e3, e4, e5⟩ := H.at_ a ha hb.1
          have hz : 1 ≤ Int.tdiv left a := by
            obtain ⟨z, hz⟩ : ∃ z, left = a * z := ⟨Int.tdiv left a, by have := Int.mul_tdiv_add_tmod left a; rw [hd] at this; omega⟩
            rw [hz, Int.mul_tdiv_cancel_left _ (by omega)]
            have : ¬ z ≤ 0 := fun h => by have := Int.mul_nonpos_of_nonneg_of_nonpos (show 0 ≤ a by omega) h; omega
            omega
          obtain ⟨x', y', q1, q2, q3⟩ := tk_both H m n (Int.tdiv left a) a (blocks + d) (list ++ [fst a]) s t (by simp; omega) (fun _ => by simp) hz ⟨by omega, hb.1⟩ (by omega) hst
          refine ⟨x', y', q1, ?_, ?_⟩
          · rw [if_pos hd, e2]
            show (if 0 ≤ d ∧ d ≤ 2 then _ else _) = _
            rw [if_pos ⟨e4, e5⟩]; exact q2
          · rw [if_pos hd, e1, Option.bind_some, if_pos (by simp)]
            have e6 : rd_T39 (fst a :: rest) 0 = fst a := rfl
            rw [e6, e3]
            show (if 0 ≤ d ∧ d ≤ 2 then _ else _) = _
            rw [if_pos ⟨e4, e5⟩]; exact q3
        · exact ⟨s, t, hst, by rw [if_neg hd], by rw [if_neg hd]⟩
end

def tkF (a : Int) : S39 := if a = 2 then ⟨0, 1, true⟩ else if a = 3 then ⟨1, 1, true⟩ else if a = 4 then ⟨1, 2, true⟩ else if a = 5 then ⟨2, 2, true⟩ else if a = 6 then ⟨2, 3, true⟩ else if a = 7 then ⟨3, 3, true⟩ else if a = 8 then ⟨3, 4, true⟩ else ⟨4, 4, true⟩
theorem fst1_2 : fst1 600 2 = some ⟨0, 1, true⟩ := by kernel_rfl
theorem fst1_3 : fst1 600 3 = some ⟨1, 1, true⟩ := by kernel_rfl
theorem fst1_4 : fst1 600 4 = some ⟨1, 2, true⟩ := by kernel_rfl
theorem fst1_5 : fst1 600 5 = some ⟨2, 2, true⟩ := by kernel_rfl
theorem fst1_6 : fst1 600 6 = some ⟨2, 3, true⟩ := by kernel_rfl
theorem fst1_7 : fst1 600 7 = some ⟨3, 3, true⟩ := by kernel_rfl
theorem fst1_8 : fst1 600 8 = some ⟨3, 4, true⟩ := by kernel_rfl
theorem fst1_9 : fst1 600 9 = some ⟨4, 4, true⟩ := by kernel_rfl
theorem fsts_600 : fsts 600 = some tkF := by
  unfold fsts
  rw [fst1_2, fst1_3, fst1_4, fst1_5, fst1_6, fst1_7, fst1_8, fst1_9]
  rfl
theorem headS {a : Int} {p : S39} (h : (spec_l05All.f 600 a).bind (fun l => l.head?) = some p) : ∃ rest, allS 600 a = some (p :: rest) := by
  obtain ⟨l, hl, hp⟩ := Option.bind_eq_some_iff.mp h
  cases l with
  | nil => cases hp
  | cons x rest => exact ⟨rest, by rw [← Option.some.inj hp]; exact hl⟩
theorem tkT_600 : TkT tkF (allS 600) cntB cntP := by
  refine ⟨fun a h2 h9 => ?_⟩
  have hc : a = 2 ∨ a = 3 ∨ a = 4 ∨ a = 5 ∨ a = 6 ∨ a = 7 ∨ a = 8 ∨ a = 9 := by omega
  rcases hc with rfl | rfl | rfl | rfl | rfl | rfl | rfl | rfl
  · obtain ⟨rest, hr⟩ := headS (a := 2) (p := tkF 2) (by kernel_rfl); exact ⟨rest, 1, hr, by kernel_rfl, by kernel_rfl, by decide, by decide⟩
  · obtain ⟨rest, hr⟩ := headS (a := 3) (p := tkF 3) (by kernel_rfl); exact ⟨rest, 2, hr, by kernel_rfl, by kernel_rfl, by decide, by decide⟩
  · obtain ⟨rest, hr⟩ := headS (a := 4) (p := tkF 4) (by kernel_rfl); exact ⟨rest, 2, hr, by kernel_rfl, by kernel_rfl, by decide, by decide⟩
  · obtain ⟨rest, hr⟩ := headS (a := 5) (p := tkF 5) (by kernel_rfl); exact ⟨rest, 2, hr, by kernel_rfl, by kernel_rfl, by decide, by decide⟩
  · obtain ⟨rest, hr⟩ := headS (a := 6) (p := tkF 6) (by kernel_rfl); exact ⟨rest, 2, hr, by kernel_rfl, by kernel_rfl, by decide, by decide⟩
  · obtain ⟨rest, hr⟩ := headS (a := 7) (p := tkF 7) (by kernel_rfl); exact ⟨rest, 2, hr, by kernel_rfl, by kernel_rfl, by decide, by decide⟩
  · obtain ⟨rest, hr⟩ := headS (a := 8) (p := tkF 8) (by kernel_rfl); exact ⟨rest, 2, hr, by kernel_rfl, by kernel_rfl, by decide, by decide⟩
  · obtain ⟨rest, hr⟩ := headS (a := 9) (p := tkF 9) (by kernel_rfl); exact ⟨rest, 2, hr, by kernel_rfl, by kernel_rfl, by decide, by decide⟩
/-- Both sides find the same. -/
theorem best_both (a : Int) (h : 1 ≤ a ∧ a ≤ 5000) : ∃ (l : List S39) (c : Int), l.length ≤ 6 ∧ (c < 0 ↔ l.length = 0) ∧ Ev (fun k => impl_bestTackle.f k a) l ∧ Ev (fun k => spec_l05Best.f k a) (l, c) := by
  by_cases h1 : a = 1
  · refine ⟨[⟨1, 0, false⟩], 1, by simp, by simp, Ev.of (impl_bestTackle.mono a) (k := 0) ?_, Ev.of (spec_l05Best.mono a) (k := 0) ?_⟩
    · unfold impl_bestTackle.f; rw [if_pos h1]
    · unfold spec_l05Best.f; rw [if_pos h1]
  · obtain ⟨x, y, hr, e1, e2⟩ := tk_both tkT_600 6 6 a 9 0 [] none ([], -1) (by simp) (fun h => absurd h h1) h.1 (by omega) (by omega) (Or.inl ⟨rfl, rfl⟩)
    have i1 : impl_bestTackle.f 600 a = some (tkRes x) := by
      unfold impl_bestTackle.f; rw [if_neg h1, if_pos h, fsts_600]
      show (tkI tkF cntB 6 a 9 0 [] none).bind _ = _
      rw [e1]; rfl
    have s1 : spec_l05Best.f 600 a = some (y.1, y.2) := by
      unfold spec_l05Best.f; rw [if_neg h1, if_pos h, e2]; rfl
    refine ⟨tkRes x, y.2, ?_, ?_, Ev.of (impl_bestTackle.mono a) i1, ?_⟩
    · rcases hr with ⟨rfl, rfl⟩ | ⟨l, c, q0, q1, q2, rfl, rfl⟩
      · exact Nat.zero_le _
      · exact q2
    · rcases hr with ⟨rfl, rfl⟩ | ⟨l, c, q0, q1, q2, rfl, rfl⟩
      · exact ⟨fun _ => rfl, fun _ => by decide⟩
      · exact ⟨fun h => by have h : c < 0 := h; omega, fun h => by have h : l.length = 0 := h; omega⟩
    · refine Ev.of (spec_l05Best.mono a) (s1.trans ?_)
      rcases hr with ⟨rfl, rfl⟩ | ⟨l, c, q0, q1, q2, rfl, rfl⟩ <;> rfl
theorem wanted_yes {a : Int} (h : 1 ≤ a ∧ a ≤ 5000) : spec_l05Wanted.f a = some true := by
  unfold spec_l05Wanted.f spec_l00In.f; rw [if_pos (show a ≥ 1 from h.1), decide_eq_true h.2]; rfl
theorem wanted_no {a : Int} (h : ¬ (1 ≤ a ∧ a ≤ 5000)) : spec_l05Wanted.f a = some false := by
  unfold spec_l05Wanted.f spec_l00In.f
  split
  · rw [decide_eq_false (fun hh => h ⟨by assumption, hh⟩)]; rfl
  · rfl
/-- BestTackle: the same on both sides. -/
theorem tackle_both (a : Int) : ∃ (l : List S39) (c : Int), l.length ≤ 6 ∧ Ev (fun k => impl_BestTackle.f k a) (l, c) ∧ Ev (fun k => spec_BestTackle.f k a) (l, c) := by
  by_cases h : 1 ≤ a ∧ a ≤ 5000
  · obtain ⟨l, c, h6, hc, i1, s1⟩ := best_both a h
    by_cases hl : l.length = 0
    · obtain rfl := List.eq_nil_of_length_eq_zero hl
      refine ⟨[], 3, by simp, ?_, ?_⟩
      · simp only [impl_BestTackle.f]
        exact ev_pos h (Ev.bind i1 (ev_pos rfl (Ev.now _)))
      · simp only [spec_BestTackle.f]
        exact ev_now (wanted_yes h) (ev_pos rfl (Ev.bind s1 (ev_pos (hc.mpr hl) (Ev.now _))))
    · refine ⟨l, 0, h6, ?_, ?_⟩
      · simp only [impl_BestTackle.f]
        exact ev_pos h (Ev.bind i1 (ev_neg hl (Ev.now _)))
      · simp only [spec_BestTackle.f]
        exact ev_now (wanted_yes h) (ev_pos rfl (Ev.bind s1 (ev_neg (fun h => hl (hc.mp h)) (Ev.now _))))
  · refine ⟨[], 2, by simp, ?_, ?_⟩
    · simp only [impl_BestTackle.f]
      exact ev_neg h (Ev.now _)
    · simp only [spec_BestTackle.f]
      exact ev_now (wanted_no h) (ev_neg (by simp) (Ev.now _))

theorem FnExactBestTackle : laws_FnExactBestTackle.Pure := by
  intro a _
  refine Ev.rounds ?_
  simp only [laws_FnExactBestTackle.f]
  obtain ⟨v, c, hv6, e2, e1⟩ := tackle_both a
  have hv : v.length ≤ 1048576 := by omega
  have ev := eqPurchaseS_self v hv
  have bf : (c != c) = false := by simp
  have mv := markPPurchaseS_ev v 1 (by omega) (by omega)
  have hd := heldPPurchaseS_ev 1 (by omega) v.length (by omega)
  have j1 : Ev (fun k => laws_FnExactBestTackle.j1 k (mkPPurchase 1 v.length) (1 + 3 * (v.length : Int)) false) true := by
    refine ev_succ ?_; simp only [laws_FnExactBestTackle.j1]
    exact ev_neg (by simp) (Ev.bind hd (ev_neg (by omega) (ev_pos rfl (Ev.now _))))
  have j0 : Ev (fun k => laws_FnExactBestTackle.j0 k a v c v false) true := by
    refine ev_succ ?_; simp only [laws_FnExactBestTackle.j0]
    refine ev_neg (by simp) (Ev.bind mv (Ev.bind hd (ev_neg (by omega) (ev_pos rfl (Ev.bind e2 (Ev.bind ev (ev_pos (by trivial) ?_)))))))
    rw [bf]; exact j1
  refine Ev.bind e1 (Ev.bind e2 (Ev.bind ev (ev_pos (by trivial) ?_)))
  rw [bf]
  exact j0

end Go.Proofs.Ytcjandlemjfojaa.PureFnExactBestTackle
namespace Go.Proofs.Ytcjandlemjfojaa.Pure
open Go.Proofs.Ytcjandlemjfojaa.HTac
theorem FnExactBestTackle : laws_FnExactBestTackle.Pure := PureFnExactBestTackle.FnExactBestTackle
end Go.Proofs.Ytcjandlemjfojaa.Pure
