/- The program's function answers as the statement says. Conditions: none beyond the given statement's own. -/
import Derived.Test.YtmpgcmfjjjmhmaaHFnExactSameWayx3
import Derived.Test.YtmpgcmfjjjmhmaaLib
set_option linter.unusedVariables false
set_option linter.unusedSimpArgs false
namespace Go.Proofs.Ytmpgcmfjjjmhmaa.PureFnExactSameWay
open Go.RowKit Go.Proofs.Ytmpgcmfjjjmhmaa.HFnExactSameWay Go.Proofs.YtmpgcmfjjjmhmaaW.PrintWords Go.Proofs.YtmpgcmfjjjmhmaaW.PrintLast Go.Proofs.YtmpgcmfjjjmhmaaW.PrintMore Go.Proofs.Ytmpgcmfjjjmhmaa.Lib
theorem szStopS_eq (l : List S58) (n : Int) (hl : l.length ≤ maxLen) (h0 : 0 ≤ n) (h1 : n ≤ 1048576) : laws_szStopS.f l n = some (if n - (l.length : Int) < 0 then -1 else n - (l.length : Int)) := by
  unfold maxLen at hl
  unfold laws_szStopS.f
  rw [w64 (x := n - (l.length : Int)) (by omega) (by omega)]
  split <;> rfl

def convStop (x : S58) : S56 := ⟨x.f0, x.f1⟩
theorem rdLStop {xs : List S58} {i : Nat} (h : i < xs.length) : rd_T58 xs (i : Int) = xs[i] := by
  unfold rd_T58; simp [List.getD_eq_getElem?_getD, h]
theorem rdIStop {xs : List S56} {i : Nat} (h : i < xs.length) : rd_T56 xs (i : Int) = xs[i] := by
  unfold rd_T56; simp [List.getD_eq_getElem?_getD, h]
theorem toStopS_l0 (x0 : List S58) (hn : x0.length ≤ 1048576) : ∀ (d i : Nat) (x3 : List S56), i + d = x0.length → x3.length = x0.length → x3.take i = (x0.map convStop).take i →
    Ev (fun k => laws_toStopS.l0 k x0 x3 (i : Int)) (x0.map convStop)
  | 0, i, x3, hd, hl, ht => by
    refine ev_succ ?_
    simp only [laws_toStopS.l0]
    refine ev_neg (by omega) (ev_some ?_)
    rw [List.take_of_length_le (by omega), List.take_of_length_le (by simp; omega)] at ht; exact ht
  | d + 1, i, x3, hd, hl, ht => by
    refine ev_succ ?_
    simp only [laws_toStopS.l0]
    refine ev_pos (by omega) (ev_pos (by omega) (ev_now rfl (ev_pos (by omega) ?_)))
    rw [w64s (by omega), Int.toNat_natCast, rdLStop (by omega)]
    exact toStopS_l0 x0 hn d (i + 1) _ (by omega) (by simpa using hl) (take_set _ _ _ _ (by omega) (by simp; omega) ht (by simp [convStop]))
theorem toStopS_ev (l : List S58) (hn : l.length ≤ 1048576) : Ev (fun k => laws_toStopS.f k l) (l.map convStop) := by
  simp only [laws_toStopS.f]
  refine ev_pos (by omega) (ev_pos (by omega) ?_)
  exact toStopS_l0 l (by omega) l.length 0 _ (by omega) (by simp) (by simp)

theorem rdEStop {xs : List S56} {i : Nat} (h : i < xs.length) : rd_T56 xs (i : Int) = xs[i] := by
  unfold rd_T56; simp [List.getD_eq_getElem?_getD, h]
theorem eqStop_self (x : S56) : laws_eqStop.f x.f0 x.f1 x.f0 x.f1 = some true := by
  simp [laws_eqStop.f]
theorem eqStopS_l0 (x0 : List S56) (hn : x0.length ≤ 1048576) : ∀ (d i : Nat), i + d = x0.length → Ev (fun k => laws_eqStopS.l0 k x0 x0 (i : Int)) true
  | 0, i, hd => by
    refine ev_succ ?_
    simp only [laws_eqStopS.l0]
    exact ev_neg (by omega) (Ev.now _)
  | d + 1, i, hd => by
    refine ev_succ ?_
    simp only [laws_eqStopS.l0]
    refine ev_pos (by omega) (ev_pos (by omega) (ev_pos (by omega) (ev_now (eqStop_self _) (ev_pos (by trivial) ?_))))
    rw [w64s (by omega)]
    exact eqStopS_l0 x0 hn d (i + 1) (by omega)
theorem eqStopS_self (l : List S56) (hn : l.length ≤ 1048576) : Ev (fun k => laws_eqStopS.f k l l) true := by
  simp only [laws_eqStopS.f]
  exact ev_pos (by trivial) (eqStopS_l0 l hn l.length 0 (by omega))


/-- Two walks over two lists of one length, in step: they answer alike. -/
theorem same_walk {α : Type} (F G : Nat → Int → Option Bool) (a b : List α) (hl : a.length = b.length) (hn : a.length ≤ 35184372088832) (P : α → α → Bool)
    (hF : ∀ i : Nat, ∀ (h : i < a.length) (h' : i < b.length), ∀ r, (P a[i] b[i] = true → Ev (fun k => F k ((i + 1 : Nat) : Int)) r) → (P a[i] b[i] = false → r = false) → Ev (fun k => F k (i : Int)) r)
    (hG : ∀ i : Nat, ∀ (h : i < a.length) (h' : i < b.length), ∀ r, (P a[i] b[i] = true → Ev (fun k => G k ((i + 1 : Nat) : Int)) r) → (P a[i] b[i] = false → r = false) → Ev (fun k => G k (i : Int)) r)
    (eF : Ev (fun k => F k (a.length : Int)) true) (eG : Ev (fun k => G k (a.length : Int)) true) : ∀ (d i : Nat), i + d = a.length → ∃ r : Bool, Ev (fun k => F k (i : Int)) r ∧ Ev (fun k => G k (i : Int)) r
  | 0, i, hd => by
    have : i = a.length := by omega
    subst this
    exact ⟨true, eF, eG⟩
  | d + 1, i, hd => by
    obtain ⟨r, e1, e2⟩ := same_walk F G a b hl hn P hF hG eF eG d (i + 1) (by omega)
    have h : i < a.length := by omega
    have h' : i < b.length := by omega
    by_cases q : P a[i] b[i] = true
    · exact ⟨r, hF i h h' r (fun _ => e1) (fun q' => by rw [q] at q'; cases q'), hG i h h' r (fun _ => e2) (fun q' => by rw [q] at q'; cases q')⟩
    · exact ⟨false, hF i h h' false (fun q' => absurd q' q) (fun _ => rfl), hG i h h' false (fun q' => absurd q' q) (fun _ => rfl)⟩

theorem key (a b : List S56) (ha : a.length ≤ 1048576) : ∃ r : Bool, Ev (fun k => spec_SameWay.f k a b) r ∧ Ev (fun k => impl_SameWay.f k a b) r := by
  by_cases hl : a.length = b.length
  · obtain ⟨r, e1, e2⟩ := same_walk (fun k i => spec_SameWay.l0 k a b i) (fun k i => impl_Stop.l0 k a b (a.length : Int) i) a b hl (by omega) (fun x y => x.f0 == y.f0 && x.f1 == y.f1)
      (fun i h h' r h1 h2 => by
        refine ev_succ ?_; simp only [spec_SameWay.l0]; rw [rdIStop h, rdIStop h', w64s (by omega)]
        refine ev_pos (by omega) (ev_pos (by omega) (ev_pos (by omega) (ev_if (fun g => ev_some ?_) (fun g => h1 ?_))))
        · symm; apply h2; simp at g ⊢; intro q; rcases g with g | g
          · exact absurd q g
          · exact g
        · simpa using g)
      (fun i h h' r h1 h2 => by
        refine ev_succ ?_; simp only [impl_Stop.l0]; rw [rdIStop h, rdIStop h', w64s (by omega)]
        refine ev_pos (by omega) (ev_pos (by omega) (ev_pos (by omega) (ev_pos (by omega) (ev_if (fun g => ev_some ?_) (fun g => h1 ?_)))))
        · symm; apply h2; simp at g ⊢; intro q; rcases g with g | g
          · exact absurd q g
          · exact g
        · simpa using g)
      (by refine ev_succ ?_; simp only [spec_SameWay.l0]; exact ev_neg (by omega) (Ev.now _))
      (by refine ev_succ ?_; simp only [impl_Stop.l0]; exact ev_neg (by omega) (Ev.now _)) a.length 0 (by omega)
    refine ⟨r, ?_, ?_⟩
    · simp only [spec_SameWay.f]; exact ev_pos (by omega) e1
    · simp only [impl_SameWay.f, impl_Stop.f]; exact Ev.bind (ev_pos (by omega) e2) (Ev.now _)
  · refine ⟨false, ?_, ?_⟩
    · simp only [spec_SameWay.f]; exact ev_neg (by omega) (Ev.now _)
    · simp only [impl_SameWay.f, impl_Stop.f]; exact Ev.bind (ev_neg (by omega) (Ev.now _)) (Ev.now _)
theorem FnExactSameWay : laws_FnExactSameWay.Pure := by
  intro l0 l1 h0 _ h1 _
  refine Ev.rounds ?_
  simp only [laws_FnExactSameWay.f]
  refine ev_now (szStopS_eq l0 1048576 h0 (by omega) (by omega)) (ev_if (fun _ => Ev.now _) (fun h => ?_))
  have hn : l0.length ≤ 1048576 := by
    by_cases g : (1048576 : Int) - (l0.length : Int) < 0
    · rw [if_pos g] at h; omega
    · omega
  rw [if_neg (by omega)] at h ⊢
  refine ev_now (szStopS_eq l1 _ h1 (by omega) (by omega)) (ev_if (fun _ => Ev.now _) (fun h' => ?_))
  have hm : l1.length ≤ 1048576 := by
    by_cases g : (1048576 : Int) - (l0.length : Int) - (l1.length : Int) < 0
    · rw [if_pos g] at h'; omega
    · omega
  have t0 := toStopS_ev l0 hn
  have t1 := toStopS_ev l1 hm
  have q0 : (l0.map convStop).length ≤ 1048576 := by simpa using hn
  have q1 : (l1.map convStop).length ≤ 1048576 := by simpa using hm
  obtain ⟨r, e1, e2⟩ := key (l0.map convStop) (l1.map convStop) q0
  exact Ev.bind t0 (Ev.bind t1 (Ev.bind e1 (Ev.bind t0 (Ev.bind t1 (Ev.bind e2 (ev_neg (by simp) (Ev.bind t0 (Ev.bind (eqStopS_self _ q0) (ev_pos (by trivial) (Ev.bind t1 (Ev.bind (eqStopS_self _ q1) (ev_pos (by trivial) (Ev.now _)))))))))))))

end Go.Proofs.Ytmpgcmfjjjmhmaa.PureFnExactSameWay
namespace Go.Proofs.Ytmpgcmfjjjmhmaa.Pure
open Go.Proofs.Ytmpgcmfjjjmhmaa.HFnExactSameWay
theorem FnExactSameWay : laws_FnExactSameWay.Pure := PureFnExactSameWay.FnExactSameWay
end Go.Proofs.Ytmpgcmfjjjmhmaa.Pure
