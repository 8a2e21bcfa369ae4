/- The program's function answers as the statement says. Conditions: none beyond the given statement's own. -/
import Derived.Test.YtdhdokhfgadikaaDoorHFnExactTackleTextx5
import Derived.Test.YtdhdokhfgadikaaDoorLib
set_option linter.unusedVariables false
set_option linter.unusedSimpArgs false
namespace Go.Proofs.YtdhdokhfgadikaaDoor.PureFnExactTackleText
open Go.RowKit Go.Proofs.YtdhdokhfgadikaaDoor.HFnExactTackleText Go.Proofs.YtdhdokhfgadikaaDoorW.PrintWords Go.Proofs.YtdhdokhfgadikaaDoorW.PrintLast Go.Proofs.YtdhdokhfgadikaaDoorW.PrintMore Go.Proofs.YtdhdokhfgadikaaDoor.Lib
theorem szPurchaseS_eq (l : List S33) (n : Int) (hl : l.length ≤ maxLen) (h0 : 0 ≤ n) (h1 : n ≤ 1048576) : laws_szPurchaseS.f l n = some (if n - (l.length : Int) < 0 then -1 else n - (l.length : Int)) := by
  unfold maxLen at hl
  unfold laws_szPurchaseS.f
  rw [w64 (x := n - (l.length : Int)) (by omega) (by omega)]
  split <;> rfl

def convPurchase (x : S33) : S31 := ⟨x.f0, x.f1, x.f2⟩
theorem rdLPurchase {xs : List S33} {i : Nat} (h : i < xs.length) : rd_T33 xs (i : Int) = xs[i] := by
  unfold rd_T33; simp [List.getD_eq_getElem?_getD, h]
theorem rdIPurchase {xs : List S31} {i : Nat} (h : i < xs.length) : rd_T31 xs (i : Int) = xs[i] := by
  unfold rd_T31; simp [List.getD_eq_getElem?_getD, h]
theorem toPurchaseS_l0 (x0 : List S33) (hn : x0.length ≤ 1048576) : ∀ (d i : Nat) (x3 : List S31), i + d = x0.length → x3.length = x0.length → x3.take i = (x0.map convPurchase).take i →
    Ev (fun k => laws_toPurchaseS.l0 k x0 x3 (i : Int)) (x0.map convPurchase)
  | 0, i, x3, hd, hl, ht => by
    refine ev_succ ?_
    simp only [laws_toPurchaseS.l0]
    refine ev_neg (by omega) (ev_some ?_)
    rw [List.take_of_length_le (by omega), List.take_of_length_le (by simp; omega)] at ht; exact ht
  | d + 1, i, x3, hd, hl, ht => by
    refine ev_succ ?_
    simp only [laws_toPurchaseS.l0]
    refine ev_pos (by omega) (ev_pos (by omega) (ev_now rfl (ev_pos (by omega) ?_)))
    rw [w64s (by omega), Int.toNat_natCast, rdLPurchase (by omega)]
    exact toPurchaseS_l0 x0 hn d (i + 1) _ (by omega) (by simpa using hl) (take_set _ _ _ _ (by omega) (by simp; omega) ht (by simp [convPurchase]))
theorem toPurchaseS_ev (l : List S33) (hn : l.length ≤ 1048576) : Ev (fun k => laws_toPurchaseS.f k l) (l.map convPurchase) := by
  simp only [laws_toPurchaseS.f]
  refine ev_pos (by omega) (ev_pos (by omega) ?_)
  exact toPurchaseS_l0 l (by omega) l.length 0 _ (by omega) (by simp) (by simp)

theorem rdEPurchase {xs : List S31} {i : Nat} (h : i < xs.length) : rd_T31 xs (i : Int) = xs[i] := by
  unfold rd_T31; simp [List.getD_eq_getElem?_getD, h]
theorem eqPurchase_self (x : S31) : laws_eqPurchase.f x.f0 x.f1 x.f2 x.f0 x.f1 x.f2 = some true := by
  simp [laws_eqPurchase.f]
theorem eqPurchaseS_l0 (x0 : List S31) (hn : x0.length ≤ 1048576) : ∀ (d i : Nat), i + d = x0.length → Ev (fun k => laws_eqPurchaseS.l0 k x0 x0 (i : Int)) true
  | 0, i, hd => by
    refine ev_succ ?_
    simp only [laws_eqPurchaseS.l0]
    exact ev_neg (by omega) (Ev.now _)
  | d + 1, i, hd => by
    refine ev_succ ?_
    simp only [laws_eqPurchaseS.l0]
    refine ev_pos (by omega) (ev_pos (by omega) (ev_pos (by omega) (ev_now (eqPurchase_self _) (ev_pos (by trivial) ?_))))
    rw [w64s (by omega)]
    exact eqPurchaseS_l0 x0 hn d (i + 1) (by omega)
theorem eqPurchaseS_self (l : List S31) (hn : l.length ≤ 1048576) : Ev (fun k => laws_eqPurchaseS.f k l l) true := by
  simp only [laws_eqPurchaseS.f]
  exact ev_pos (by trivial) (eqPurchaseS_l0 l hn l.length 0 (by omega))


theorem l00In_eq (a b c : Int) : spec_l00In.f a b c = some (decide (b ≤ a ∧ a ≤ c)) := by
  unfold spec_l00In.f; by_cases h : a ≥ b <;> simp [h]

theorem within_eq (a b c : Int) : impl_within.f a b c = some (decide (b ≤ a ∧ a ≤ c)) := by
  unfold impl_within.f; by_cases h : a ≥ b <;> simp [h]

def okP (p : S31) : Prop := (0 ≤ p.f0 ∧ p.f0 ≤ 4) ∧ (0 ≤ p.f1 ∧ p.f1 ≤ 4) ∧ 1 ≤ p.f0 + p.f1 ∧ (if p.f2 = true then 0 ≤ p.f1 - p.f0 ∧ p.f1 - p.f0 ≤ 1 else 0 ≤ p.f0 - p.f1 ∧ p.f0 - p.f1 ≤ 1)
instance (p : S31) : Decidable (okP p) := inferInstanceAs (Decidable ((0 ≤ p.f0 ∧ p.f0 ≤ 4) ∧ (0 ≤ p.f1 ∧ p.f1 ≤ 4) ∧ 1 ≤ p.f0 + p.f1 ∧ (if p.f2 = true then 0 ≤ p.f1 - p.f0 ∧ p.f1 - p.f0 ≤ 1 else 0 ≤ p.f0 - p.f1 ∧ p.f0 - p.f1 ≤ 1)))
def okPs (t : List S31) : Prop := ∀ p ∈ t, okP p
instance (t : List S31) : Decidable (okPs t) := inferInstanceAs (Decidable (∀ p ∈ t, okP p))
def okT (t : List S31) : Prop := okPs t ∧ 1 ≤ t.length ∧ t.length ≤ 6
instance (t : List S31) : Decidable (okT t) := inferInstanceAs (Decidable (okPs t ∧ 1 ≤ t.length ∧ t.length ≤ 6))
theorem okPs_drop {l : List S31} {i : Nat} (h : i < l.length) : okPs (l.drop i) ↔ okP l[i] ∧ okPs (l.drop (i + 1)) := all_drop h
theorem rdP {xs : List S31} {i : Nat} (h : i < xs.length) : rd_T31 xs (i : Int) = xs[i] := by
  unfold rd_T31; simp [List.getD_eq_getElem?_getD, h]

theorem validPurchase_ev (p : S31) : Ev (fun k => impl_ValidPurchase.f k p.f0 p.f1 p.f2) (decide (okP p)) := by
  have jt : Ev (fun k => impl_ValidPurchase.j0 k true p.f0 p.f1 p.f2) false := by
    refine ev_succ ?_; simp only [impl_ValidPurchase.j0]; exact ev_pos (by trivial) (Ev.now _)
  simp only [impl_ValidPurchase.f]
  refine ev_now (within_eq _ _ _) (ev_if (fun h0 => ev_now (within_eq _ _ _) (ev_if (fun h1 => ?_) (fun h1 => ?_))) (fun h0 => ?_))
  · have h0 := of_decide_eq_true h0
    have h1 := of_decide_eq_true h1
    rw [w64 (x := p.f0 + p.f1) (by omega) (by omega)]
    by_cases h2 : p.f0 + p.f1 = 0
    · rw [beq_iff_eq.2 h2, ofd (p := okP p) (fun g => by have := g.2.2.1; omega)]; exact jt
    · rw [beq_eq_false_iff_ne.2 h2]
      refine ev_succ ?_; simp only [impl_ValidPurchase.j0]
      refine ev_neg (by simp) (ev_if (fun h3 => ?_) (fun h3 => ?_))
      · rw [w64 (x := p.f1 - p.f0) (by omega) (by omega)]
        refine ev_now (within_eq _ _ _) (ev_some ?_)
        apply decide_eq_decide.2; unfold okP; rw [if_pos h3]
        exact ⟨fun g => ⟨h0, h1, by omega, g⟩, fun g => g.2.2.2⟩
      · rw [w64 (x := p.f0 - p.f1) (by omega) (by omega)]
        refine ev_now (within_eq _ _ _) (ev_some ?_)
        apply decide_eq_decide.2; unfold okP; rw [if_neg h3]
        exact ⟨fun g => ⟨h0, h1, by omega, g⟩, fun g => g.2.2.2⟩
  · rw [ofd (p := okP p) (fun g => h1 (ofd1 g.2.1))]; exact jt
  · rw [ofd (p := okP p) (fun g => h0 (ofd1 g.1))]; exact jt
theorem validTackle_l0 (x0 : List S31) (h1 : 1 ≤ x0.length) (h6 : x0.length ≤ 6) : ∀ (d i : Nat), i + d = x0.length → (okPs (x0.drop i) → okPs x0) →
    Ev (fun k => impl_ValidTackle.l0 k x0 (x0.length : Int) (i : Int)) (decide (okT x0))
  | 0, i, hd, hi => by
    refine ev_succ ?_
    simp only [impl_ValidTackle.l0]
    have e : x0.drop i = [] := by simp; omega
    have g := hi (by rw [e]; simp [okPs])
    exact ev_neg (by omega) (ev_some (ofd1 (p := okT x0) ⟨g, h1, h6⟩).symm)
  | d + 1, i, hd, hi => by
    have hil : i < x0.length := by omega
    refine ev_succ ?_
    simp only [impl_ValidTackle.l0]
    rw [rdP hil, w64s (by omega)]
    refine ev_pos (by omega) (ev_pos (by omega) (ev_pos (by omega) (Ev.bind (validPurchase_ev x0[i]) (ev_if (fun h => ?_) (fun h => ev_some ?_)))))
    · refine validTackle_l0 x0 h1 h6 d (i + 1) (by omega) (fun g => hi ?_)
      rw [okPs_drop hil]; exact ⟨of_decide_eq_true h, g⟩
    · symm; apply ofd; intro g; exact h (ofd1 (g.1 _ (List.getElem_mem _)))
theorem validTackle_ev (t : List S31) : Ev (fun k => impl_ValidTackle.f k t) (decide (okT t)) := by
  have jt : Ev (fun k => impl_ValidTackle.j0 k t true) false := by
    refine ev_succ ?_; simp only [impl_ValidTackle.j0]; exact ev_pos (by trivial) (Ev.now _)
  simp only [impl_ValidTackle.f]
  refine ev_if (fun h => ?_) (fun h => ?_)
  · rw [ofd (p := okT t) (fun g => by have := g.2.1; omega)]; exact jt
  · by_cases h6 : (t.length : Int) > 6
    · rw [ofd1 h6, ofd (p := okT t) (fun g => by have := g.2.2; omega)]; exact jt
    · rw [ofd h6]
      refine ev_succ ?_; simp only [impl_ValidTackle.j0]
      exact ev_neg (by simp) (validTackle_l0 t (by omega) (by omega) t.length 0 (by omega) (by simp))

theorem l05One_ev (p : S31) : Ev (fun k => spec_l05One.f k p.f0 p.f1 p.f2) (decide (okP p), p.f0, p.f1, p.f2) := by
  have jt : Ev (fun k => spec_l05One.j0 k true p.f0 p.f1 p.f2) (false, p.f0, p.f1, p.f2) := by
    refine ev_succ ?_; simp only [spec_l05One.j0]; exact ev_pos (by trivial) (Ev.now _)
  simp only [spec_l05One.f]
  refine ev_now (l00In_eq _ _ _) (ev_if (fun h0 => ev_now (l00In_eq _ _ _) (ev_if (fun h1 => ?_) (fun h1 => ?_))) (fun h0 => ?_))
  · have h0 := of_decide_eq_true h0
    have h1 := of_decide_eq_true h1
    rw [w64 (x := p.f0 + p.f1) (by omega) (by omega)]
    by_cases h2 : p.f0 + p.f1 < 1
    · rw [ofd1 h2, ofd (p := okP p) (fun g => by have := g.2.2.1; omega)]; exact jt
    · rw [ofd h2]
      refine ev_succ ?_; simp only [spec_l05One.j0]
      refine ev_neg (by simp) (ev_if (fun h3 => ?_) (fun h3 => ?_))
      · rw [w64 (x := p.f1 - p.f0) (by omega) (by omega)]
        refine ev_now (l00In_eq _ _ _) (ev_some ?_)
        congr 1
        apply decide_eq_decide.2; unfold okP; rw [if_pos h3]
        exact ⟨fun g => ⟨h0, h1, by omega, g⟩, fun g => g.2.2.2⟩
      · rw [w64 (x := p.f0 - p.f1) (by omega) (by omega)]
        refine ev_now (l00In_eq _ _ _) (ev_some ?_)
        congr 1
        apply decide_eq_decide.2; unfold okP; rw [if_neg h3]
        exact ⟨fun g => ⟨h0, h1, by omega, g⟩, fun g => g.2.2.2⟩
  · rw [ofd (p := okP p) (fun g => h1 (ofd1 g.2.1))]; exact jt
  · rw [ofd (p := okP p) (fun g => h0 (ofd1 g.1))]; exact jt

theorem l05One_at_ev (p : S31) : Ev (fun k => spec_l05One_at.f k p.f0 p.f1 p.f2) (decide (okP p)) := by
  simp only [spec_l05One_at.f]
  exact Ev.bind (l05One_ev p) (Ev.now _)
theorem l05Ok_l0 (x0 : List S31) (hn : x0.length ≤ 35184372088832) : ∀ (d i : Nat), i + d = x0.length → (okPs (x0.drop i) → okPs x0) →
    Ev (fun k => spec_l05Ok.l0 k x0 (i : Int)) (decide (okT x0))
  | 0, i, hd, hi => by
    refine ev_succ ?_
    simp only [spec_l05Ok.l0]
    have e : x0.drop i = [] := by simp; omega
    have g := hi (by rw [e]; simp [okPs])
    refine ev_neg (by omega) (ev_now (l00In_eq _ _ _) (ev_some ?_))
    apply decide_eq_decide.2; unfold okT; exact ⟨fun q => ⟨g, by omega, by omega⟩, fun q => by omega⟩
  | d + 1, i, hd, hi => by
    have hil : i < x0.length := by omega
    refine ev_succ ?_
    simp only [spec_l05Ok.l0]
    rw [rdP hil, w64s (by omega)]
    refine ev_pos (by omega) (ev_pos (by omega) (Ev.bind (l05One_at_ev x0[i]) (ev_if (fun h => ?_) (fun h => ev_some ?_))))
    · refine l05Ok_l0 x0 hn d (i + 1) (by omega) (fun g => hi ?_)
      rw [okPs_drop hil]; exact ⟨of_decide_eq_true h, g⟩
    · symm; apply ofd; intro g; exact h (ofd1 (g.1 _ (List.getElem_mem _)))
theorem l05Ok_ev (t : List S31) (hn : t.length ≤ 35184372088832) : Ev (fun k => spec_l05Ok.f k t) (decide (okT t)) := by
  simp only [spec_l05Ok.f]
  exact l05Ok_l0 t hn t.length 0 (by omega) (by simp)

/-- One digit. -/
def dg (n : Int) : ByteArray := ⟨#[UInt8.ofNat (48 + n.toNat)]⟩
theorem dg_size (n : Int) : (dg n).size = 1 := rfl
theorem implDec (n : Int) (h : 0 ≤ n ∧ n ≤ 9) : impl_Decimal.f n = some (dg n) := by
  unfold impl_Decimal.f
  rw [if_pos h.1, if_pos (by omega)]
  unfold Go.Lib.decDigits
  rw [dif_pos (by omega)]
  rfl
theorem specDec (n : Int) (h : 0 ≤ n ∧ n ≤ 9) : Ev (fun k => spec_l01Dec.f k n) (dg n) := by
  obtain h | h | h | h | h | h | h | h | h | h : n = 0 ∨ n = 1 ∨ n = 2 ∨ n = 3 ∨ n = 4 ∨ n = 5 ∨ n = 6 ∨ n = 7 ∨ n = 8 ∨ n = 9 := by omega
  all_goals subst h; exact Ev.of (spec_l01Dec.mono _) (k := 5) (by kernel_rfl)

def jn (l : List ByteArray) : ByteArray := ⟨(Go.Lib.join (l.map (·.data.toList)) [32]).toArray⟩
theorem jn_nil : jn [] = ⟨#[]⟩ := rfl
theorem jn_one (x : ByteArray) : jn [x] = x := by
  apply ByteArray.ext; simp [jn, Go.Lib.join_one]
theorem jn_snoc (l : List ByteArray) (x : ByteArray) (h : l ≠ []) : jn (l ++ [x]) = (jn l ++ (⟨#[32]⟩ : ByteArray)) ++ x := by
  obtain ⟨a, r, rfl⟩ : ∃ a r, l = a :: r := by
    cases l with
    | nil => exact absurd rfl h
    | cons a r => exact ⟨a, r, rfl⟩
  apply ByteArray.ext
  apply Array.toList_inj.1
  simp [jn, Go.Lib.join_cons, Go.Lib.joinTail, ByteArray.data_append]
theorem join_some (l : List ByteArray) (h0 : l.length ≤ 100) (h : (jn l).size ≤ 1000) : strings_Join.f l (⟨#[32]⟩ : ByteArray) = some (jn l) := by
  unfold strings_Join.f
  have e : (Go.Lib.join (l.map (·.data.toList)) (⟨#[32]⟩ : ByteArray).data.toList).length = (jn l).size := by
    simp [jn, ByteArray.size]
  rw [if_pos (by omega), if_pos (by omega)]
  rfl

def wP (p : S31) : ByteArray := if p.f2 = true then (dg p.f0 ++ (⟨#[62]⟩ : ByteArray)) ++ dg p.f1 else (dg p.f0 ++ (⟨#[60]⟩ : ByteArray)) ++ dg p.f1
theorem wP_size (p : S31) : (wP p).size = 3 := by
  unfold wP; split <;> simp [ByteArray.size_append, dg_size] <;> rfl
theorem take_w (t : List S31) {i : Nat} (h : i < t.length) : (t.take (i + 1)).map wP = (t.take i).map wP ++ [wP t[i]] := by
  rw [List.take_succ_eq_append_getElem h, List.map_append]; rfl
theorem w_ne (t : List S31) {i : Nat} (h0 : i ≠ 0) (h : i < t.length) : (t.take i).map wP ≠ [] := by
  intro e
  have := congrArg List.length e
  rw [List.length_map, List.length_take] at this
  simp only [List.length_nil] at this
  omega
theorem jn_w (t : List S31) : ∀ {i : Nat}, i ≤ t.length → (jn ((t.take i).map wP)).size ≤ 4 * i
  | 0, _ => by simp [jn_nil]; rfl
  | i + 1, h => by
    have ih := jn_w t (i := i) (by omega)
    rw [take_w t (by omega)]
    by_cases h0 : i = 0
    · subst h0; simp only [List.take_zero, List.map_nil, List.nil_append]; rw [jn_one, wP_size]; omega
    · rw [jn_snoc _ _ (w_ne t (by omega) (by omega)), ByteArray.size_append, ByteArray.size_append, wP_size]
      have : (⟨#[32]⟩ : ByteArray).size = 1 := rfl
      omega
theorem spec_j1 (t : List S31) (ho : okPs t) (i : Nat) (hi : i < t.length) (hl : t.length ≤ 6) (acc r : ByteArray) (ha : acc.size ≤ 1000)
    (h : Ev (fun k => spec_l05Text.l0 k t (acc ++ wP t[i]) (((i + 1 : Nat) : Int))) r) : Ev (fun k => spec_l05Text.j1 k t acc (i : Int)) r := by
  have hp := ho _ (List.getElem_mem hi)
  obtain ⟨a1, a2, _, _⟩ := id hp
  have hs := wP_size t[i]
  have d0 := specDec t[i].f0 (by omega)
  have d1 := specDec t[i].f1 (by omega)
  refine ev_succ ?_
  simp only [spec_l05Text.j1]
  rw [rdP hi, w64s (by omega)]
  refine ev_pos (by omega) (ev_pos (by omega) ?_)
  generalize t[i] = p at *
  have z0 := dg_size p.f0
  have z1 := dg_size p.f1
  have y1 : (⟨#[62]⟩ : ByteArray).size = 1 := rfl
  have y2 : (⟨#[60]⟩ : ByteArray).size = 1 := rfl
  refine ev_if (fun g => ?_) (fun g => ?_)
  · have e : wP p = (dg p.f0 ++ (⟨#[62]⟩ : ByteArray)) ++ dg p.f1 := by unfold wP; rw [if_pos g]
    rw [e] at h hs
    refine Ev.bind d0 (ev_pos (by omega) (Ev.bind d1 (ev_pos (by rw [ByteArray.size_append] at *; omega) (ev_pos (by omega) h))))
  · have e : wP p = (dg p.f0 ++ (⟨#[60]⟩ : ByteArray)) ++ dg p.f1 := by unfold wP; rw [if_neg g]
    rw [e] at h hs
    refine Ev.bind d0 (ev_pos (by omega) (Ev.bind d1 (ev_pos (by rw [ByteArray.size_append] at *; omega) (ev_pos (by omega) h))))
theorem spec_l0 (t : List S31) (ho : okPs t) (hl : t.length ≤ 6) : ∀ (d i : Nat), i + d = t.length → Ev (fun k => spec_l05Text.l0 k t (jn ((t.take i).map wP)) (i : Int)) (jn (t.map wP))
  | 0, i, hd => by
    refine ev_succ ?_
    simp only [spec_l05Text.l0]
    refine ev_neg (by omega) (ev_some ?_)
    rw [List.take_of_length_le (by omega)]
  | d + 1, i, hd => by
    have hi : i < t.length := by omega
    have ih := spec_l0 t ho hl d (i + 1) (by omega)
    have hs := jn_w t (i := i) (by omega)
    rw [take_w t hi] at ih
    refine ev_succ ?_
    simp only [spec_l05Text.l0]
    refine ev_pos (by omega) (ev_if (fun g => ev_pos (by omega) ?_) (fun g => ?_))
    · refine spec_j1 t ho i hi hl _ _ (by rw [ByteArray.size_append]; have : (⟨#[32]⟩ : ByteArray).size = 1 := rfl; omega) ?_
      rw [jn_snoc _ _ (w_ne t (by omega) (by omega))] at ih
      exact ih
    · have h0 : i = 0 := by omega
      subst h0
      refine spec_j1 t ho 0 hi hl _ _ (by omega) ?_
      simp only [List.take_zero, List.map_nil, List.nil_append] at ih ⊢
      rw [jn_one] at ih
      have e : jn [] ++ wP t[0] = wP t[0] := by apply ByteArray.ext; simp [jn_nil, ByteArray.data_append]
      rw [e]; exact ih
theorem impl_l0 (t : List S31) (ho : okPs t) (hl : t.length ≤ 6) : ∀ (d i : Nat), i + d = t.length → Ev (fun k => impl_TackleText.l0 k ((t.take i).map wP) t (t.length : Int) (i : Int)) (jn (t.map wP))
  | 0, i, hd => by
    have hs := jn_w t (i := i) (by omega)
    refine ev_succ ?_
    simp only [impl_TackleText.l0]
    refine ev_neg (by omega) (ev_now (join_some _ (by simp; omega) (by omega)) (ev_some ?_))
    rw [List.take_of_length_le (by omega)]
  | d + 1, i, hd => by
    have hi : i < t.length := by omega
    have ih := impl_l0 t ho hl d (i + 1) (by omega)
    have hp := ho _ (List.getElem_mem hi)
    obtain ⟨a1, a2, _, _⟩ := id hp
    have d0 := implDec t[i].f0 (by omega)
    have d1 := implDec t[i].f1 (by omega)
    rw [take_w t hi] at ih
    refine ev_succ ?_
    simp only [impl_TackleText.l0]
    rw [rdP hi, w64s (by omega)]
    refine ev_pos (by omega) (ev_pos (by omega) (ev_pos (by omega) ?_))
    have hn : ((t.take i).map wP).length < 8796093022208 := by simp; omega
    generalize t[i] = p at *
    have z0 := dg_size p.f0
    have z1 := dg_size p.f1
    have y1 : (⟨#[62]⟩ : ByteArray).size = 1 := rfl
    have y2 : (⟨#[60]⟩ : ByteArray).size = 1 := rfl
    refine ev_if (fun g => ?_) (fun g => ?_)
    · have e : wP p = (dg p.f0 ++ (⟨#[62]⟩ : ByteArray)) ++ dg p.f1 := by unfold wP; rw [if_pos g]
      rw [e] at ih
      exact ev_now d0 (ev_pos (by omega) (ev_now d1 (ev_pos (by rw [ByteArray.size_append]; omega) (ev_pos hn ih))))
    · have e : wP p = (dg p.f0 ++ (⟨#[60]⟩ : ByteArray)) ++ dg p.f1 := by unfold wP; rw [if_neg g]
      rw [e] at ih
      exact ev_now d0 (ev_pos (by omega) (ev_now d1 (ev_pos (by rw [ByteArray.size_append]; omega) (ev_pos hn ih))))
theorem key (t : List S31) (hn : t.length ≤ 1048576) : ∃ r : ByteArray, Ev (fun k => spec_TackleText.f k t) r ∧ Ev (fun k => impl_TackleText.f k t) r := by
  have es := l05Ok_ev t (by omega)
  have ei := validTackle_ev t
  by_cases h : okT t
  · rw [ofd1 h] at es ei
    have s := spec_l0 t h.1 h.2.2 t.length 0 (by omega)
    have i := impl_l0 t h.1 h.2.2 t.length 0 (by omega)
    refine ⟨jn (t.map wP), ?_, ?_⟩
    · simp only [spec_TackleText.f, spec_l05Text.f]
      exact Ev.bind es (ev_pos (by trivial) (Ev.bind s (Ev.now _)))
    · simp only [impl_TackleText.f]
      exact Ev.bind ei (ev_pos (by trivial) i)
  · rw [ofd h] at es ei
    refine ⟨⟨#[]⟩, ?_, ?_⟩
    · simp only [spec_TackleText.f]
      exact Ev.bind es (ev_neg (by simp) (Ev.now _))
    · simp only [impl_TackleText.f]
      exact Ev.bind ei (ev_neg (by simp) (Ev.now _))
theorem FnExactTackleText : laws_FnExactTackleText.Pure := by
  intro l0 hl _
  refine Ev.rounds ?_
  simp only [laws_FnExactTackleText.f]
  refine ev_now (szPurchaseS_eq l0 1048576 hl (by omega) (by omega)) (ev_if (fun _ => Ev.now _) (fun h => ?_))
  have hn : l0.length ≤ 1048576 := by
    by_cases g : (1048576 : Int) - (l0.length : Int) < 0
    · rw [if_pos g] at h; omega
    · omega
  have t0 := toPurchaseS_ev l0 hn
  have hm : (l0.map convPurchase).length ≤ 1048576 := by simpa using hn
  obtain ⟨r, e1, e2⟩ := key (l0.map convPurchase) hm
  exact Ev.bind t0 (Ev.bind e1 (Ev.bind t0 (Ev.bind e2 (ev_pos (by trivial) (Ev.bind t0 (Ev.bind (eqPurchaseS_self _ hm) (ev_pos (by trivial) (Ev.now _))))))))

end Go.Proofs.YtdhdokhfgadikaaDoor.PureFnExactTackleText
namespace Go.Proofs.YtdhdokhfgadikaaDoor.Pure
open Go.Proofs.YtdhdokhfgadikaaDoor.HFnExactTackleText
theorem FnExactTackleText : laws_FnExactTackleText.Pure := PureFnExactTackleText.FnExactTackleText
end Go.Proofs.YtdhdokhfgadikaaDoor.Pure
