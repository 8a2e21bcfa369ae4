/- The program's function answers as the statement says. Conditions: none beyond the given statement's own. -/
import Derived.Test.YtacijlpnpkhjaaaHFrx40
import Derived.Test.YtacijlpnpkhjaaaLib
set_option linter.unusedVariables false
set_option linter.unusedSimpArgs false
namespace Go.Proofs.Ytacijlpnpkhjaaa.PureFnExactSameFrame
open Go.RowKit Go.Proofs.Ytacijlpnpkhjaaa.HFr Go.Proofs.YtacijlpnpkhjaaaW.PrintWords Go.Proofs.YtacijlpnpkhjaaaW.PrintLast Go.Proofs.YtacijlpnpkhjaaaW.PrintMore Go.Proofs.Ytacijlpnpkhjaaa.Lib
def convKnot (x : S113) : S82 := ⟨x.f0, x.f1, x.f2⟩
theorem rdLKnot {xs : List S113} {i : Nat} (h : i < xs.length) : rd_T113 xs (i : Int) = xs[i] := by
  unfold rd_T113; simp [List.getD_eq_getElem?_getD, h]
theorem rdIKnot {xs : List S82} {i : Nat} (h : i < xs.length) : rd_T82 xs (i : Int) = xs[i] := by
  unfold rd_T82; simp [List.getD_eq_getElem?_getD, h]
theorem toKnotS_l0 (x0 : List S113) (hn : x0.length ≤ 1048576) : ∀ (d i : Nat) (x3 : List S82), i + d = x0.length → x3.length = x0.length → x3.take i = (x0.map convKnot).take i →
    Ev (fun k => laws_toKnotS.l0 k x0 x3 (i : Int)) (x0.map convKnot)
  | 0, i, x3, hd, hl, ht => by
    refine ev_succ ?_
    simp only [laws_toKnotS.l0]
    refine ev_neg (by omega) (ev_some ?_)
    rw [List.take_of_length_le (by omega), List.take_of_length_le (by simp; omega)] at ht; exact ht
  | d + 1, i, x3, hd, hl, ht => by
    refine ev_succ ?_
    simp only [laws_toKnotS.l0]
    refine ev_pos (by omega) (ev_pos (by omega) (ev_now rfl (ev_pos (by omega) ?_)))
    rw [w64s (by omega), Int.toNat_natCast, rdLKnot (by omega)]
    exact toKnotS_l0 x0 hn d (i + 1) _ (by omega) (by simpa using hl) (take_set _ _ _ _ (by omega) (by simp; omega) ht (by simp [convKnot]))
theorem toKnotS_ev (l : List S113) (hn : l.length ≤ 1048576) : Ev (fun k => laws_toKnotS.f k l) (l.map convKnot) := by
  simp only [laws_toKnotS.f]
  refine ev_pos (by omega) (ev_pos (by omega) ?_)
  exact toKnotS_l0 l (by omega) l.length 0 _ (by omega) (by simp) (by simp)

def sameKnot (x y : S82) : Bool := !(!(x.f0 == y.f0) || (!(x.f1 == y.f1) || (!(x.f2 == y.f2))))
def eqLKnot : List S82 → List S82 → Bool
  | x :: a, y :: b => sameKnot x y && eqLKnot a b
  | _, _ => true
theorem eqLKnot_drop {a b : List S82} {i : Nat} (h : i < a.length) (h' : i < b.length) : eqLKnot (a.drop i) (b.drop i) = (sameKnot a[i] b[i] && eqLKnot (a.drop (i + 1)) (b.drop (i + 1))) := by
  rw [List.drop_eq_getElem_cons h, List.drop_eq_getElem_cons h']; rfl
theorem eqLKnot_end {a b : List S82} {i : Nat} (h : a.length ≤ i) : eqLKnot (a.drop i) (b.drop i) = true := by
  rw [List.drop_eq_nil_of_le h]; rfl
theorem eqKnot_l0 (a b : List S82) (hl : a.length = b.length) (hn : a.length ≤ 1048576) : ∀ (d i : Nat), i + d = a.length → Ev (fun k => impl_Knot.l0 k a b (a.length : Int) (i : Int)) (eqLKnot (a.drop i) (b.drop i))
  | 0, i, hd => by
    rw [eqLKnot_end (by omega)]
    refine ev_succ ?_; simp only [impl_Knot.l0]; exact ev_neg (by omega) (Ev.now _)
  | d + 1, i, hd => by
    have hi : i < a.length := by omega
    have hi' : i < b.length := by omega
    have ih := eqKnot_l0 a b hl hn d (i + 1) (by omega)
    rw [eqLKnot_drop hi hi']
    refine ev_succ ?_; simp only [impl_Knot.l0]
    rw [rdIKnot hi, rdIKnot hi', w64s (by omega)]
    refine ev_pos (by omega) (ev_pos (by omega) (ev_pos (by omega) (ev_pos (by omega) (ev_if (fun g => ev_some ?_) (fun g => ?_)))))
    · unfold sameKnot; rw [g]; rfl
    · unfold sameKnot; rw [Bool.eq_false_iff.2 g]; simpa using ih
theorem eqKnot_ev (a b : List S82) (hn : a.length ≤ 1048576) : Ev (fun k => impl_Knot.f k a b) (if a.length = b.length then eqLKnot a b else false) := by
  simp only [impl_Knot.f]
  refine ev_if (fun h => ?_) (fun h => ev_some ?_)
  · rw [if_pos (by omega)]; exact eqKnot_l0 a b (by omega) hn a.length 0 (by omega)
  · rw [if_neg (by omega)]

def convBar (x : S115) : S84 := ⟨x.f0, x.f1, x.f2⟩
theorem rdLBar {xs : List S115} {i : Nat} (h : i < xs.length) : rd_T115 xs (i : Int) = xs[i] := by
  unfold rd_T115; simp [List.getD_eq_getElem?_getD, h]
theorem rdIBar {xs : List S84} {i : Nat} (h : i < xs.length) : rd_T84 xs (i : Int) = xs[i] := by
  unfold rd_T84; simp [List.getD_eq_getElem?_getD, h]
theorem toBarS_l0 (x0 : List S115) (hn : x0.length ≤ 1048576) : ∀ (d i : Nat) (x3 : List S84), i + d = x0.length → x3.length = x0.length → x3.take i = (x0.map convBar).take i →
    Ev (fun k => laws_toBarS.l0 k x0 x3 (i : Int)) (x0.map convBar)
  | 0, i, x3, hd, hl, ht => by
    refine ev_succ ?_
    simp only [laws_toBarS.l0]
    refine ev_neg (by omega) (ev_some ?_)
    rw [List.take_of_length_le (by omega), List.take_of_length_le (by simp; omega)] at ht; exact ht
  | d + 1, i, x3, hd, hl, ht => by
    refine ev_succ ?_
    simp only [laws_toBarS.l0]
    refine ev_pos (by omega) (ev_pos (by omega) (ev_now rfl (ev_pos (by omega) ?_)))
    rw [w64s (by omega), Int.toNat_natCast, rdLBar (by omega)]
    exact toBarS_l0 x0 hn d (i + 1) _ (by omega) (by simpa using hl) (take_set _ _ _ _ (by omega) (by simp; omega) ht (by simp [convBar]))
theorem toBarS_ev (l : List S115) (hn : l.length ≤ 1048576) : Ev (fun k => laws_toBarS.f k l) (l.map convBar) := by
  simp only [laws_toBarS.f]
  refine ev_pos (by omega) (ev_pos (by omega) ?_)
  exact toBarS_l0 l (by omega) l.length 0 _ (by omega) (by simp) (by simp)

def sameBar (x y : S84) : Bool := !(!(x.f0 == y.f0) || (!(x.f1 == y.f1) || (!(x.f2 == y.f2))))
def eqLBar : List S84 → List S84 → Bool
  | x :: a, y :: b => sameBar x y && eqLBar a b
  | _, _ => true
theorem eqLBar_drop {a b : List S84} {i : Nat} (h : i < a.length) (h' : i < b.length) : eqLBar (a.drop i) (b.drop i) = (sameBar a[i] b[i] && eqLBar (a.drop (i + 1)) (b.drop (i + 1))) := by
  rw [List.drop_eq_getElem_cons h, List.drop_eq_getElem_cons h']; rfl
theorem eqLBar_end {a b : List S84} {i : Nat} (h : a.length ≤ i) : eqLBar (a.drop i) (b.drop i) = true := by
  rw [List.drop_eq_nil_of_le h]; rfl
theorem eqBar_l0 (a b : List S84) (hl : a.length = b.length) (hn : a.length ≤ 1048576) : ∀ (d i : Nat), i + d = a.length → Ev (fun k => impl_Bar.l0 k a b (a.length : Int) (i : Int)) (eqLBar (a.drop i) (b.drop i))
  | 0, i, hd => by
    rw [eqLBar_end (by omega)]
    refine ev_succ ?_; simp only [impl_Bar.l0]; exact ev_neg (by omega) (Ev.now _)
  | d + 1, i, hd => by
    have hi : i < a.length := by omega
    have hi' : i < b.length := by omega
    have ih := eqBar_l0 a b hl hn d (i + 1) (by omega)
    rw [eqLBar_drop hi hi']
    refine ev_succ ?_; simp only [impl_Bar.l0]
    rw [rdIBar hi, rdIBar hi', w64s (by omega)]
    refine ev_pos (by omega) (ev_pos (by omega) (ev_pos (by omega) (ev_pos (by omega) (ev_if (fun g => ev_some ?_) (fun g => ?_)))))
    · unfold sameBar; rw [g]; rfl
    · unfold sameBar; rw [Bool.eq_false_iff.2 g]; simpa using ih
theorem eqBar_ev (a b : List S84) (hn : a.length ≤ 1048576) : Ev (fun k => impl_Bar.f k a b) (if a.length = b.length then eqLBar a b else false) := by
  simp only [impl_Bar.f]
  refine ev_if (fun h => ?_) (fun h => ev_some ?_)
  · rw [if_pos (by omega)]; exact eqBar_l0 a b (by omega) hn a.length 0 (by omega)
  · rw [if_neg (by omega)]

theorem rdEKnot {xs : List S82} {i : Nat} (h : i < xs.length) : rd_T82 xs (i : Int) = xs[i] := by
  unfold rd_T82; simp [List.getD_eq_getElem?_getD, h]
theorem eqKnot_self (x : S82) : laws_eqKnot.f x.f0 x.f1 x.f2 x.f0 x.f1 x.f2 = some true := by
  simp [laws_eqKnot.f]
theorem eqKnotS_l0 (x0 : List S82) (hn : x0.length ≤ 1048576) : ∀ (d i : Nat), i + d = x0.length → Ev (fun k => laws_eqKnotS.l0 k x0 x0 (i : Int)) true
  | 0, i, hd => by
    refine ev_succ ?_
    simp only [laws_eqKnotS.l0]
    exact ev_neg (by omega) (Ev.now _)
  | d + 1, i, hd => by
    refine ev_succ ?_
    simp only [laws_eqKnotS.l0]
    refine ev_pos (by omega) (ev_pos (by omega) (ev_pos (by omega) (ev_now (eqKnot_self _) (ev_pos (by trivial) ?_))))
    rw [w64s (by omega)]
    exact eqKnotS_l0 x0 hn d (i + 1) (by omega)
theorem eqKnotS_self (l : List S82) (hn : l.length ≤ 1048576) : Ev (fun k => laws_eqKnotS.f k l l) true := by
  simp only [laws_eqKnotS.f]
  exact ev_pos (by trivial) (eqKnotS_l0 l hn l.length 0 (by omega))

theorem rdEBar {xs : List S84} {i : Nat} (h : i < xs.length) : rd_T84 xs (i : Int) = xs[i] := by
  unfold rd_T84; simp [List.getD_eq_getElem?_getD, h]
theorem eqBar_self (x : S84) : laws_eqBar.f x.f0 x.f1 x.f2 x.f0 x.f1 x.f2 = some true := by
  simp [laws_eqBar.f]
theorem eqBarS_l0 (x0 : List S84) (hn : x0.length ≤ 1048576) : ∀ (d i : Nat), i + d = x0.length → Ev (fun k => laws_eqBarS.l0 k x0 x0 (i : Int)) true
  | 0, i, hd => by
    refine ev_succ ?_
    simp only [laws_eqBarS.l0]
    exact ev_neg (by omega) (Ev.now _)
  | d + 1, i, hd => by
    refine ev_succ ?_
    simp only [laws_eqBarS.l0]
    refine ev_pos (by omega) (ev_pos (by omega) (ev_pos (by omega) (ev_now (eqBar_self _) (ev_pos (by trivial) ?_))))
    rw [w64s (by omega)]
    exact eqBarS_l0 x0 hn d (i + 1) (by omega)
theorem eqBarS_self (l : List S84) (hn : l.length ≤ 1048576) : Ev (fun k => laws_eqBarS.f k l l) true := by
  simp only [laws_eqBarS.f]
  exact ev_pos (by trivial) (eqBarS_l0 l hn l.length 0 (by omega))

theorem szKnotS_eq (l : List S113) (n : Int) (hl : l.length ≤ maxLen) (h0 : 0 ≤ n) (h1 : n ≤ 1048576) : laws_szKnotS.f l n = some (if n - (l.length : Int) < 0 then -1 else n - (l.length : Int)) := by
  unfold maxLen at hl
  unfold laws_szKnotS.f
  rw [w64 (x := n - (l.length : Int)) (by omega) (by omega)]
  split <;> rfl

theorem szBarS_eq (l : List S115) (n : Int) (hl : l.length ≤ maxLen) (h0 : 0 ≤ n) (h1 : n ≤ 1048576) : laws_szBarS.f l n = some (if n - (l.length : Int) < 0 then -1 else n - (l.length : Int)) := by
  unfold maxLen at hl
  unfold laws_szBarS.f
  rw [w64 (x := n - (l.length : Int)) (by omega) (by omega)]
  split <;> rfl

theorem szF_eq (l0 : List S113) (l1 : List S115) (n : Int) (h0 : l0.length ≤ maxLen) (h1 : l1.length ≤ maxLen) (hn : 0 ≤ n) (hn' : n ≤ 1048576) :
    ∃ r : Int, laws_szFrame.f l0 l1 n = some r ∧ (¬ r < 0 → l0.length ≤ 1048576 ∧ l1.length ≤ 1048576 ∧ r ≤ n) := by
  unfold laws_szFrame.f
  rw [szKnotS_eq l0 n h0 hn hn']
  simp only [Option.bind_some]
  by_cases g : n - (l0.length : Int) < 0
  · rw [if_pos g]; exact ⟨-1, rfl, fun h => by omega⟩
  · rw [if_neg g, if_neg g, szBarS_eq l1 _ h1 (by omega) (by omega)]
    simp only [Option.bind_some]
    by_cases g' : n - (l0.length : Int) - (l1.length : Int) < 0
    · rw [if_pos g']; exact ⟨-1, rfl, fun h => by omega⟩
    · rw [if_neg g', if_neg g']; exact ⟨_, rfl, fun h => by omega⟩
theorem toF_ev (l0 : List S113) (l1 : List S115) (h0 : l0.length ≤ 1048576) (h1 : l1.length ≤ 1048576) : Ev (fun k => laws_toFrame.f k l0 l1) (l0.map convKnot, l1.map convBar) := by
  simp only [laws_toFrame.f]
  exact Ev.bind (toKnotS_ev l0 h0) (Ev.bind (toBarS_ev l1 h1) (Ev.now _))
theorem eqF_self (ks : List S82) (bs : List S84) (h0 : ks.length ≤ 1048576) (h1 : bs.length ≤ 1048576) : Ev (fun k => laws_eqFrame.f k ks bs ks bs) true := by
  simp only [laws_eqFrame.f]
  exact Ev.bind (eqKnotS_self _ h0) (ev_pos (by trivial) (Ev.bind (eqBarS_self _ h1) (ev_pos (by trivial) (Ev.now _))))

theorem s_l1 (a : List S82) (b : List S84) (c : List S82) (d : List S84) (hl : b.length = d.length) (hn : b.length ≤ 1048576) : ∀ (e i : Nat), i + e = b.length → Ev (fun k => spec_SameFrame.l1 k (i : Int) a b c d) (eqLBar (b.drop i) (d.drop i))
  | 0, i, hd => by
    rw [eqLBar_end (by omega)]
    refine ev_succ ?_; simp only [spec_SameFrame.l1]; exact ev_neg (by omega) (Ev.now _)
  | e + 1, i, hd => by
    have hi : i < b.length := by omega
    have hi' : i < d.length := by omega
    have ih := s_l1 a b c d hl hn e (i + 1) (by omega)
    rw [eqLBar_drop hi hi']
    refine ev_succ ?_; simp only [spec_SameFrame.l1]
    rw [rdIBar hi, rdIBar hi', w64s (by omega)]
    refine ev_pos (by omega) (ev_pos (by omega) (ev_pos (by omega) (ev_if (fun g => ev_some ?_) (fun g => ?_))))
    · unfold sameBar; rw [g]; rfl
    · unfold sameBar; rw [Bool.eq_false_iff.2 g]; simpa using ih
theorem s_l0 (a : List S82) (b : List S84) (c : List S82) (d : List S84) (hl : b.length = d.length) (hn : b.length ≤ 1048576) (hl' : a.length = c.length) (hn' : a.length ≤ 1048576) : ∀ (e i : Nat), i + e = a.length → Ev (fun k => spec_SameFrame.l0 k (i : Int) a b c d) (eqLKnot (a.drop i) (c.drop i) && eqLBar b d)
  | 0, i, hd => by
    rw [eqLKnot_end (by omega)]
    refine ev_succ ?_; simp only [spec_SameFrame.l0]
    exact ev_neg (by omega) (s_l1 a b c d hl hn b.length 0 (by omega))
  | e + 1, i, hd => by
    have hi : i < a.length := by omega
    have hi' : i < c.length := by omega
    have ih := s_l0 a b c d hl hn hl' hn' e (i + 1) (by omega)
    rw [eqLKnot_drop hi hi']
    refine ev_succ ?_; simp only [spec_SameFrame.l0]
    rw [rdIKnot hi, rdIKnot hi', w64s (by omega)]
    refine ev_pos (by omega) (ev_pos (by omega) (ev_pos (by omega) (ev_if (fun g => ev_some ?_) (fun g => ?_))))
    · unfold sameKnot; rw [g]; rfl
    · unfold sameKnot; rw [Bool.eq_false_iff.2 g]; simpa using ih
def sameF (a : List S82) (b : List S84) (c : List S82) (d : List S84) : Bool := (if a.length = c.length then eqLKnot a c else false) && (if b.length = d.length then eqLBar b d else false)
theorem spec_ev (a : List S82) (b : List S84) (c : List S82) (d : List S84) (hn : b.length ≤ 1048576) (hn' : a.length ≤ 1048576) : Ev (fun k => spec_SameFrame.f k a b c d) (sameF a b c d) := by
  have bad : Ev (fun k => spec_SameFrame.j0 k true a b c d) false := by
    refine ev_succ ?_; simp only [spec_SameFrame.j0]; exact ev_pos (by trivial) (Ev.now _)
  simp only [spec_SameFrame.f]
  unfold sameF
  refine ev_if (fun h => ?_) (fun h => ?_)
  · rw [if_pos (show a.length = c.length by omega)]
    by_cases g : b.length = d.length
    · rw [if_pos g, show ((b.length : Int) != (d.length : Int)) = false by simp [g]]
      refine ev_succ ?_; simp only [spec_SameFrame.j0]
      exact ev_neg (by simp) (s_l0 a b c d g hn (by omega) hn' a.length 0 (by omega))
    · rw [if_neg g, show ((b.length : Int) != (d.length : Int)) = true by simp; omega, Bool.and_false]
      exact bad
  · rw [if_neg (show ¬ a.length = c.length by omega)]; exact bad
theorem impl_ev (a : List S82) (b : List S84) (c : List S82) (d : List S84) (hn : b.length ≤ 1048576) (hn' : a.length ≤ 1048576) : Ev (fun k => impl_SameFrame.f k a b c d) (sameF a b c d) := by
  simp only [impl_SameFrame.f]
  unfold sameF
  refine Ev.bind (eqKnot_ev a c hn') (ev_if (fun h => Ev.bind (eqBar_ev b d hn) (ev_some ?_)) (fun h => ev_some ?_))
  · rw [h, Bool.true_and]
  · rw [Bool.eq_false_iff.2 h]; rfl
theorem FnExactSameFrame : laws_FnExactSameFrame.Pure := by
  intro l0 l1 l2 l3 h0 _ h1 _ h2 _ h3 _
  refine Ev.rounds ?_
  simp only [laws_FnExactSameFrame.f]
  obtain ⟨r, es, hr⟩ := szF_eq l0 l1 1048576 h0 h1 (by omega) (by omega)
  refine ev_now es (ev_if (fun _ => Ev.now _) (fun h => ?_))
  obtain ⟨q0, q1, qr⟩ := hr h
  obtain ⟨r', es', hr'⟩ := szF_eq l2 l3 r h2 h3 (by omega) qr
  refine ev_now es' (ev_if (fun _ => Ev.now _) (fun h' => ?_))
  obtain ⟨q2, q3, _⟩ := hr' h'
  have t0 := toF_ev l0 l1 q0 q1
  have t1 := toF_ev l2 l3 q2 q3
  have m0 : (l0.map convKnot).length ≤ 1048576 := by simpa using q0
  have m1 : (l1.map convBar).length ≤ 1048576 := by simpa using q1
  have m2 : (l2.map convKnot).length ≤ 1048576 := by simpa using q2
  have m3 : (l3.map convBar).length ≤ 1048576 := by simpa using q3
  have e1 := spec_ev (l0.map convKnot) (l1.map convBar) (l2.map convKnot) (l3.map convBar) m1 m0
  have e2 := impl_ev (l0.map convKnot) (l1.map convBar) (l2.map convKnot) (l3.map convBar) m1 m0
  exact Ev.bind t0 (Ev.bind t1 (Ev.bind e1 (Ev.bind t0 (Ev.bind t1 (Ev.bind e2 (ev_neg (by simp) (Ev.bind t0 (Ev.bind (eqF_self _ _ m0 m1) (ev_pos (by trivial) (Ev.bind t1 (Ev.bind (eqF_self _ _ m2 m3) (ev_pos (by trivial) (Ev.now _)))))))))))))

end Go.Proofs.Ytacijlpnpkhjaaa.PureFnExactSameFrame
namespace Go.Proofs.Ytacijlpnpkhjaaa.Pure
open Go.Proofs.Ytacijlpnpkhjaaa.HFr
theorem FnExactSameFrame : laws_FnExactSameFrame.Pure := PureFnExactSameFrame.FnExactSameFrame
end Go.Proofs.Ytacijlpnpkhjaaa.Pure
