/- The program's function answers as the statement says. Conditions: none beyond the given statement's own. -/
import Derived.Test.YtifdihbndlmgpaaDoorHRwx4
import Derived.Test.YtifdihbndlmgpaaDoorLib
set_option linter.unusedVariables false
set_option linter.unusedSimpArgs false
namespace Go.Proofs.YtifdihbndlmgpaaDoor.PureFnExactReadWay
open Go.RowKit Go.Proofs.YtifdihbndlmgpaaDoor.HRw Go.Proofs.YtifdihbndlmgpaaDoorW.PrintWords Go.Proofs.YtifdihbndlmgpaaDoorW.PrintLast Go.Proofs.YtifdihbndlmgpaaDoorW.PrintMore Go.Proofs.YtifdihbndlmgpaaDoor.Lib
theorem rdEStop {xs : List S31} {i : Nat} (h : i < xs.length) : rd_T31 xs (i : Int) = xs[i] := by
  unfold rd_T31; simp [List.getD_eq_getElem?_getD, h]
theorem eqStop_self (x : S31) : laws_eqStop.f x.f0 x.f1 x.f0 x.f1 = some true := by
  simp [laws_eqStop.f]
theorem eqStopS_l0 (x0 : List S31) (hn : x0.length ≤ 1048576) : ∀ (d i : Nat), i + d = x0.length → Ev (fun k => laws_eqStopS.l0 k x0 x0 (i : Int)) true
  | 0, i, hd => by
    refine ev_succ ?_
    simp only [laws_eqStopS.l0]
    exact ev_neg (by omega) (Ev.now _)
  | d + 1, i, hd => by
    refine ev_succ ?_
    simp only [laws_eqStopS.l0]
    refine ev_pos (by omega) (ev_pos (by omega) (ev_pos (by omega) (ev_now (eqStop_self _) (ev_pos (by trivial) ?_))))
    rw [w64s (by omega)]
    exact eqStopS_l0 x0 hn d (i + 1) (by omega)
theorem eqStopS_self (l : List S31) (hn : l.length ≤ 1048576) : Ev (fun k => laws_eqStopS.f k l l) true := by
  simp only [laws_eqStopS.f]
  exact ev_pos (by trivial) (eqStopS_l0 l hn l.length 0 (by omega))

theorem rdKStop {xs : List S31} {i : Nat} (h : i < xs.length) : rd_T31 xs (i : Int) = xs[i] := by
  unfold rd_T31; simp [List.getD_eq_getElem?_getD, h]
def mksStop (s : Int) (n : Nat) : List S31 := (List.range n).map fun (j : Nat) => ⟨s + 2 * (j : Int), s + 2 * (j : Int) + 1⟩
theorem mksStop_length (s : Int) (n : Nat) : (mksStop s n).length = n := by simp [mksStop]
theorem mksStop_get (s : Int) (n i : Nat) (h : i < (mksStop s n).length) : (mksStop s n)[i] = ⟨s + 2 * (i : Int), s + 2 * (i : Int) + 1⟩ := by simp [mksStop]
theorem markStopS_l0 (s : Int) (h0 : 0 ≤ s) (n : Nat) (hn : s + 2 * n < 4611686018427387904) : ∀ (d i : Nat) (x0 : List S31), i + d = n → x0.length = n → x0.take i = (mksStop s n).take i →
    Ev (fun k => laws_markStopS.l0 k x0 (s + 2 * i) (i : Int)) (s + 2 * n, mksStop s n)
  | 0, i, x0, hd, hl, ht => by
    refine ev_succ ?_
    simp only [laws_markStopS.l0]
    refine ev_neg (by omega) (ev_some ?_)
    rw [List.take_of_length_le (by omega), List.take_of_length_le (by rw [mksStop_length]; omega)] at ht
    rw [ht]; congr 1; omega
  | d + 1, i, x0, hd, hl, ht => by
    refine ev_succ ?_
    simp only [laws_markStopS.l0]
    refine ev_pos (by omega) (ev_pos (by omega) (ev_now rfl ?_))
    rw [w64s (by omega), w64 (x := s + 2 * (i : Int) + 1) (by omega) (by omega), w64 (x := s + 2 * (i : Int) + 1 + 1) (by omega) (by omega), Int.toNat_natCast, rdKStop (xs := x0.set i _) (by simp; omega)]
    have e : s + 2 * (i : Int) + 1 + 1 = s + 2 * ((i + 1 : Nat) : Int) := by omega
    rw [e, List.set_set, List.getElem_set_self]
    refine markStopS_l0 s h0 n hn d (i + 1) _ (by omega) (by simpa using hl) (take_set _ _ _ _ (by omega) (by rw [mksStop_length]; omega) ht ?_)
    rw [mksStop_get]
theorem markStopS_ev (l : List S31) (s : Int) (h0 : 0 ≤ s) (hn : s + 2 * l.length < 4611686018427387904) :
    Ev (fun k => laws_markStopS.f k l s) (s + 2 * l.length, mksStop s l.length) := by
  simp only [laws_markStopS.f]
  have := markStopS_l0 s h0 l.length hn l.length 0 l (by omega) rfl (by simp)
  simpa using this
theorem heldStopS_l0 (s : Int) (h0 : 0 ≤ s) (n : Nat) (hn : s + 2 * n < 4611686018427387904) : ∀ (d i : Nat), i + d = n →
    Ev (fun k => laws_heldStopS.l0 k (mksStop s n) (s + 2 * i) (i : Int)) (s + 2 * n)
  | 0, i, hd => by
    refine ev_succ ?_
    simp only [laws_heldStopS.l0]
    refine ev_neg (by rw [mksStop_length]; omega) (ev_some ?_)
    omega
  | d + 1, i, hd => by
    refine ev_succ ?_
    simp only [laws_heldStopS.l0]
    rw [rdKStop (by rw [mksStop_length]; omega), mksStop_get, w64s (by omega), w64 (x := s + 2 * (i : Int) + 1) (by omega) (by omega), w64 (x := s + 2 * (i : Int) + 1 + 1) (by omega) (by omega)]
    refine ev_pos (by rw [mksStop_length]; omega) (ev_pos (by omega) (ev_pos rfl (ev_pos rfl ?_)))
    have e : s + 2 * (i : Int) + 1 + 1 = s + 2 * ((i + 1 : Nat) : Int) := by omega
    rw [e]
    exact heldStopS_l0 s h0 n hn d (i + 1) (by omega)
theorem heldStopS_ev (s : Int) (h0 : 0 ≤ s) (n : Nat) (hn : s + 2 * n < 4611686018427387904) :
    Ev (fun k => laws_heldStopS.f k (mksStop s n) s) (s + 2 * n) := by
  simp only [laws_heldStopS.f]
  have := heldStopS_l0 s h0 n hn n 0 (by omega)
  simpa using this

/-- A text's words between blanks. -/
def splW : List UInt8 → List (List UInt8)
  | [] => [[]]
  | c :: cs => if c = 32 then [] :: splW cs else match splW cs with
    | [] => [[c]]
    | w :: ws => (c :: w) :: ws
theorem splW_ne : ∀ l, splW l ≠ []
  | [] => by simp [splW]
  | c :: cs => by
    unfold splW
    split
    · simp
    · split <;> simp
theorem index_cons (c : UInt8) (cs : List UInt8) : Go.Lib.index (c :: cs) [32] = if c = 32 then 0 else if Go.Lib.index cs [32] = -1 then -1 else Go.Lib.index cs [32] + 1 := by
  conv => lhs; unfold Go.Lib.index
  by_cases h : c = 32
  · subst h
    simp
  · have h2 : (32 : UInt8) ≠ c := fun e => h e.symm
    have h1 : List.isPrefixOf [(32 : UInt8)] (c :: cs) = false := by simp [List.isPrefixOf, h2]
    rw [h1, if_neg h]
    simp
theorem splitK_W : ∀ l : List UInt8, Go.Lib.splitK [32] 0 (Go.Lib.count l [32]) l = splW l
  | [] => rfl
  | c :: cs => by
    have ih := splitK_W cs
    have hi := index_cons c cs
    by_cases h : c = 32
    · rw [if_pos h] at hi
      have hc : Go.Lib.count (c :: cs) [32] = 1 + Go.Lib.count cs [32] := by
        have := Go.Lib.count_hit (s := c :: cs) (sub := [32]) (i := 0) (by simp) hi
        simpa using this
      rw [hc, Nat.add_comm]
      unfold Go.Lib.splitK splW
      rw [hi, if_pos h, ← ih]
      simp
    · rw [if_neg h] at hi
      have hge := Go.Lib.index_ge cs [32]
      by_cases hm : Go.Lib.index cs [32] = -1
      · rw [if_pos hm] at hi
        have hc : Go.Lib.count (c :: cs) [32] = 0 := Go.Lib.count_miss hi
        have hc2 : Go.Lib.count cs [32] = 0 := Go.Lib.count_miss hm
        rw [hc2] at ih
        rw [hc]
        have ih : [cs] = splW cs := ih
        unfold splW
        rw [if_neg h, ← ih]
        rfl
      · rw [if_neg hm] at hi
        obtain ⟨i, hx⟩ : ∃ i : Nat, Go.Lib.index cs [32] = (i : Int) := ⟨(Go.Lib.index cs [32]).toNat, by omega⟩
        rw [hx] at hi
        have hi : Go.Lib.index (c :: cs) [32] = ((i + 1 : Nat) : Int) := by rw [hi]; omega
        have c1 : Go.Lib.count (c :: cs) [32] = 1 + Go.Lib.count (cs.drop (i + 1)) [32] := by
          have := Go.Lib.count_hit (s := c :: cs) (sub := [32]) (i := i + 1) (by simp) hi
          simpa using this
        have c2 : Go.Lib.count cs [32] = 1 + Go.Lib.count (cs.drop (i + 1)) [32] := by
          have := Go.Lib.count_hit (s := cs) (sub := [32]) (i := i) (by simp) hx
          simpa using this
        rw [c2, Nat.add_comm] at ih
        rw [c1, Nat.add_comm]
        unfold Go.Lib.splitK at ih
        rw [hx] at ih
        have e1 : (((i : Nat) : Int) == -1) = false := by rw [beq_eq_false_iff_ne]; omega
        rw [e1] at ih
        unfold Go.Lib.splitK splW
        rw [hi, if_neg h, ← ih]
        have e2 : (((i + 1 : Nat) : Int) == -1) = false := by rw [beq_eq_false_iff_ne]; omega
        rw [e2]
        simp

def ba (l : List UInt8) : ByteArray := ⟨l.toArray⟩
theorem ba_self (x : ByteArray) : ba x.data.toList = x := by apply ByteArray.ext; simp [ba]
theorem ba_list (l : List UInt8) : (ba l).data.toList = l := by simp [ba]
theorem ba_ext {x y : ByteArray} (h : x.data.toList = y.data.toList) : x = y := by rw [← ba_self x, h, ba_self]
theorem bt_list {x : ByteArray} {i : Nat} (h : i < x.data.toList.length) : bt x (i : Int) = (x.data.toList[i].toNat : Int) := by
  have hs : (i : Int).toNat < x.size := by rw [Go.Lib.size_eq]; simpa using h
  unfold bt
  rw [dif_pos hs]
  rfl
theorem ext_ba (x : ByteArray) (a b : Nat) (hb : b ≤ x.size) : x.extract a b = ba ((x.data.toList.take b).drop a) := by
  apply ba_ext
  rw [ba_list, Go.Lib.extract_data]
  simp [List.drop_take]
theorem specSplit_l0 (x : ByteArray) (hx : x.size ≤ 1048576) : ∀ (d i f : Nat) (out : List ByteArray), i + d = x.size → f ≤ i → out.length ≤ i →
    ∃ w ws, splW (x.data.toList.drop i) = w :: ws ∧ Ev (fun k => spec_l01Split.l0 k x 32 out (f : Int) (i : Int)) (out ++ ba ((x.data.toList.take i).drop f ++ w) :: ws.map ba)
  | 0, i, f, out, hd, hf, ho => by
    have hs := Go.Lib.size_eq x
    have e : x.data.toList.drop i = [] := by rw [List.drop_eq_nil_iff]; omega
    refine ⟨[], [], by rw [e]; rfl, ev_succ ?_⟩
    simp only [spec_l01Split.l0]
    refine ev_neg (by omega) (ev_pos (by omega) (ev_pos (by omega) (ev_pos (by omega) (ev_some ?_))))
    rw [List.append_nil, Int.toNat_natCast, ext_ba x f x.size (Nat.le_refl _), show i = x.size by omega]
    rfl
  | d + 1, i, f, out, hd, hf, ho => by
    have hs := Go.Lib.size_eq x
    have hi : i < x.data.toList.length := by omega
    have hb := bt_list hi
    have hdrop : x.data.toList.drop i = x.data.toList[i] :: x.data.toList.drop (i + 1) := List.drop_eq_getElem_cons hi
    by_cases c : x.data.toList[i] = 32
    · obtain ⟨w, ws, e1, e2⟩ := specSplit_l0 x hx d (i + 1) (i + 1) (out ++ [x.extract f i]) (by omega) (Nat.le_refl _) (by simp; omega)
      refine ⟨[], w :: ws, by rw [hdrop, splW, if_pos c, e1], ev_succ ?_⟩
      simp only [spec_l01Split.l0]
      rw [w64s (i := i) (by omega), Int.toNat_natCast, Int.toNat_natCast]
      refine ev_pos (by omega) (ev_pos (by omega) (ev_pos (by rw [hb, c]; rfl) (ev_pos (by omega) (ev_pos (by omega) (ev_pos (by omega) (ev_pos (by omega) ?_))))))
      have e3 : (x.data.toList.take (i + 1)).drop (i + 1) = [] := by rw [List.drop_eq_nil_iff]; simp; omega
      rw [e3, List.nil_append] at e2
      rw [ext_ba x f i (by omega)] at e2 ⊢
      rw [List.append_nil, List.map_cons]
      simpa [List.append_assoc] using e2
    · obtain ⟨w, ws, e1, e2⟩ := specSplit_l0 x hx d (i + 1) f out (by omega) (by omega) (by omega)
      refine ⟨x.data.toList[i] :: w, ws, by rw [hdrop, splW, if_neg c, e1], ev_succ ?_⟩
      simp only [spec_l01Split.l0]
      rw [w64s (i := i) (by omega)]
      refine ev_pos (by omega) (ev_pos (by omega) (ev_neg ?_ ?_))
      · rw [hb]
        intro h
        apply c
        apply UInt8.toNat_inj.mp
        have : (x.data.toList[i]).toNat = 32 := by omega
        rw [this]; rfl
      · have e3 : (x.data.toList.take (i + 1)).drop f = (x.data.toList.take i).drop f ++ [x.data.toList[i]] := by
          rw [List.take_add_one, List.getElem?_eq_getElem hi, List.drop_append_of_le_length (by simp; omega)]
          rfl
        rw [e3, List.append_assoc] at e2
        exact e2
theorem specSplit_ev (x : ByteArray) (hx : x.size ≤ 1048576) : Ev (fun k => spec_l01Split.f k x 32) ((splW x.data.toList).map ba) := by
  obtain ⟨w, ws, e1, e2⟩ := specSplit_l0 x hx x.size 0 0 [] (by omega) (Nat.le_refl _) (by simp)
  rw [List.drop_zero] at e1
  simp only [spec_l01Split.f]
  rw [e1]
  simpa using e2
theorem implSplit_eq (x : ByteArray) (hx : x.size ≤ 1048576) : strings_Split.f x (⟨#[32]⟩ : ByteArray) = some ((splW x.data.toList).map ba) := by
  unfold strings_Split.f
  rw [if_pos (by omega), if_pos (by decide)]
  have h := Go.Lib.splitB_data (⟨#[32]⟩ : ByteArray) 0 (Go.Lib.countB x (⟨#[32]⟩ : ByteArray)) x
  have h2 : Go.Lib.splitK [32] 0 (Go.Lib.countB x (⟨#[32]⟩ : ByteArray)) x.data.toList = splW x.data.toList := splitK_W x.data.toList
  have h3 : (⟨#[32]⟩ : ByteArray).data.toList = [32] := rfl
  rw [h3, h2] at h
  rw [← h, List.map_map]
  congr 1
  symm
  rw [List.map_congr_left (g := id) (fun y _ => by simp [ba_self])]
  simp
theorem splW_len : ∀ l, (splW l).length ≤ l.length + 1
  | [] => by simp [splW]
  | c :: cs => by
    have ih := splW_len cs
    unfold splW
    split
    · simp; omega
    · split
      · simp
      · rename_i e
        rw [e] at ih
        simp at ih ⊢; omega

theorem within_eq (a b c : Int) : impl_within.f a b c = some (decide (b ≤ a ∧ a ≤ c)) := by
  unfold impl_within.f; by_cases h : a ≥ b <;> simp [h]

theorem p18 : ∀ i : Fin 19, (10 : Int) ^ i.val ≤ 1000000000000000000 := by decide
theorem decOf (n : Int) (h0 : -9223372036854775808 ≤ n) (h1 : n ≤ 9223372036854775807) : impl_Decimal.f n = some (ba (Go.Lib.itoa n)) := by
  unfold impl_Decimal.f; rw [if_pos h0, if_pos h1]; rfl
theorem dec_l0 (t g : ByteArray) (hg : g.size ≤ 18) : ∀ (d i : Nat) (n : Int), i + d = g.size → 0 ≤ n → n < 10 ^ i →
    ∃ r : Int × Bool, Ev (fun k => impl_ReadDecimal.l0 k t g n (i : Int)) r ∧ (r.2 = true → t.data.toList = Go.Lib.itoa r.1)
  | 0, i, n, hd, h0, h1 => by
    have hp := p18 ⟨i, by omega⟩
    have hp : (10 : Int) ^ i ≤ 1000000000000000000 := hp
    have hn : wrap64 (-n) = -n := w64 (by omega) (by omega)
    have key : ∀ m : Int, -9223372036854775808 ≤ m → m ≤ 9223372036854775807 → ∃ r : Int × Bool, Ev (fun k => (impl_Decimal.f m).bind fun t133 => (if t133.toList = t.toList then (some (m, true)) else (some (0, false)))) r ∧ (r.2 = true → t.data.toList = Go.Lib.itoa r.1) := by
      intro m m0 m1
      by_cases e : (ba (Go.Lib.itoa m)).toList = t.toList
      · refine ⟨(m, true), ev_now (decOf m m0 m1) (ev_pos e (Ev.now _)), fun _ => ?_⟩
        rw [Go.Lib.toList_data, Go.Lib.toList_data, ba_list] at e
        exact e.symm
      · exact ⟨(0, false), ev_now (decOf m m0 m1) (ev_neg e (Ev.now _)), fun h => by cases h⟩
    by_cases c : (g.size : Int) < (t.size : Int)
    · obtain ⟨r, e1, e2⟩ := key (-n) (by omega) (by omega)
      refine ⟨r, ev_succ ?_, e2⟩
      simp only [impl_ReadDecimal.l0]
      rw [hn]
      exact ev_neg (by omega) (ev_pos c e1)
    · obtain ⟨r, e1, e2⟩ := key n (by omega) (by omega)
      refine ⟨r, ev_succ ?_, e2⟩
      simp only [impl_ReadDecimal.l0]
      exact ev_neg (by omega) (ev_neg c e1)
  | d + 1, i, n, hd, h0, h1 => by
    have hp : (10 : Int) ^ (i + 1) ≤ 1000000000000000000 := p18 ⟨i + 1, by omega⟩
    have hb := bt_range g (i : Int)
    by_cases c1 : bt g (i : Int) < 48
    · refine ⟨(0, false), ev_succ ?_, fun h => by cases h⟩
      simp only [impl_ReadDecimal.l0]
      exact ev_pos (by omega) (ev_pos (by omega) (ev_pos c1 (Ev.now _)))
    by_cases c2 : bt g (i : Int) > 57
    · refine ⟨(0, false), ev_succ ?_, fun h => by cases h⟩
      simp only [impl_ReadDecimal.l0]
      exact ev_pos (by omega) (ev_pos (by omega) (ev_neg c1 (ev_pos c2 (Ev.now _))))
    have hm : (bt g (i : Int) - 48) % 256 = bt g (i : Int) - 48 := by omega
    rw [Int.pow_succ] at hp
    obtain ⟨r, e1, e2⟩ := dec_l0 t g hg d (i + 1) (10 * n + (bt g (i : Int) - 48)) (by omega) (by omega) (by rw [Int.pow_succ]; omega)
    refine ⟨r, ev_succ ?_, e2⟩
    simp only [impl_ReadDecimal.l0]
    rw [hm, w64 (x := 10 * n) (by omega) (by omega), w64 (x := 10 * n + (bt g (i : Int) - 48)) (by omega) (by omega), w64s (by omega)]
    exact ev_pos (by omega) (ev_pos (by omega) (ev_neg c1 (ev_neg c2 e1)))
theorem dec_ev (t : ByteArray) : ∃ r : Int × Bool, Ev (fun k => impl_ReadDecimal.f k t) r ∧ (r.2 = true → t.data.toList = Go.Lib.itoa r.1) := by
  simp only [impl_ReadDecimal.f]
  have hp : strings_TrimPrefix.f t (⟨#[45]⟩ : ByteArray) = some (ba (Go.Lib.trimPrefix t.data.toList [45])) := rfl
  generalize ba (Go.Lib.trimPrefix t.data.toList [45]) = g at hp
  have jt : Ev (fun k => impl_ReadDecimal.j0 k t g true) (0, false) := by
    refine ev_succ ?_; simp only [impl_ReadDecimal.j0]; exact ev_pos (by trivial) (Ev.now _)
  by_cases c1 : (g.size : Int) < 1
  · exact ⟨(0, false), ev_now hp (ev_pos c1 jt), fun h => by cases h⟩
  by_cases c2 : (g.size : Int) > 18
  · refine ⟨(0, false), ev_now hp (ev_neg c1 ?_), fun h => by cases h⟩
    rw [decide_eq_true c2]; exact jt
  · obtain ⟨r, e1, e2⟩ := dec_l0 t g (by omega) g.size 0 0 (by omega) (by omega) (by simp)
    refine ⟨r, ev_now hp (ev_neg c1 ?_), e2⟩
    rw [decide_eq_false c2]
    refine ev_succ ?_; simp only [impl_ReadDecimal.j0]
    exact ev_neg (by simp) e1
theorem dec_digit (t : ByteArray) (d : Nat) (hd : d < 10) (ht : t.data.toList = [UInt8.ofNat (48 + d)]) : Ev (fun k => impl_ReadDecimal.f k t) ((d : Int), true) := by
  have hs : t.size = 1 := by rw [Go.Lib.size_eq, ht]; rfl
  have hb : bt t 0 = ((48 + d : Nat) : Int) := by
    have := bt_list (x := t) (i := 0) (by rw [ht]; simp)
    have e : t.data.toList[0]'(by rw [ht]; simp) = UInt8.ofNat (48 + d) := by simp [ht]
    rw [e] at this
    rw [show ((0 : Nat) : Int) = 0 from rfl] at this
    rw [this, UInt8.toNat_ofNat']
    congr 1
    omega
  have htrim : Go.Lib.trimPrefix t.data.toList [45] = t.data.toList := by
    rw [ht]
    have : d = 0 ∨ d = 1 ∨ d = 2 ∨ d = 3 ∨ d = 4 ∨ d = 5 ∨ d = 6 ∨ d = 7 ∨ d = 8 ∨ d = 9 := by omega
    rcases this with rfl | rfl | rfl | rfl | rfl | rfl | rfl | rfl | rfl | rfl <;> rfl
  have hi : Go.Lib.itoa (d : Int) = [UInt8.ofNat (48 + d)] := by
    unfold Go.Lib.itoa
    rw [if_neg (by omega)]
    unfold Go.Lib.decDigits
    rw [dif_pos (by omega)]
    rfl
  have hp : strings_TrimPrefix.f t (⟨#[45]⟩ : ByteArray) = some t := by
    show some (ba (Go.Lib.trimPrefix t.data.toList [45])) = some t
    rw [htrim, ba_self]
  simp only [impl_ReadDecimal.f]
  refine ev_now hp (ev_neg (by omega) ?_)
  rw [decide_eq_false (by omega)]
  refine ev_succ ?_; simp only [impl_ReadDecimal.j0]
  refine ev_neg (by simp) ?_
  refine ev_succ ?_; simp only [impl_ReadDecimal.l0]
  rw [hb]
  have e1 : wrap64 (wrap64 (10 * 0) + (((48 + d : Nat) : Int) - 48) % 256) = (d : Int) := by
    rw [w64 (x := 10 * 0) (by omega) (by omega), w64 (by omega) (by omega)]; omega
  have e2 : wrap64 (0 + 1) = 1 := by rw [w64 (by omega) (by omega)]; rfl
  rw [e1, e2]
  refine ev_pos (by omega) (ev_pos (by omega) (ev_neg (by omega) (ev_neg (by omega) ?_)))
  refine ev_succ ?_; simp only [impl_ReadDecimal.l0]
  refine ev_neg (by omega) (ev_neg (by omega) (ev_now (decOf _ (by omega) (by omega)) (ev_pos ?_ (Ev.now _))))
  rw [Go.Lib.toList_data, Go.Lib.toList_data, ba_list, hi, ht]

def okWd (w : ByteArray) : Prop := w.size = 2 ∧ (bt w 0 = 102 ∨ bt w 0 = 109) ∧ 48 ≤ bt w 1 ∧ bt w 1 < 52
instance (w : ByteArray) : Decidable (okWd w) := inferInstanceAs (Decidable (_ ∧ _ ∧ _ ∧ _))
def stW (w : ByteArray) : S31 := ⟨if bt w 0 = 109 then 1 else 0, bt w 1 - 48⟩
theorem rdOf_at {L : List ByteArray} {i : Nat} (h : i < L.length) : rdOf ByteArray.empty L (i : Int) = L[i] := by
  unfold rdOf; simp [List.getD_eq_getElem?_getD, h]
theorem all_dropW {L : List ByteArray} {i : Nat} (h : i < L.length) : (∀ w ∈ L.drop i, okWd w) ↔ okWd L[i] ∧ ∀ w ∈ L.drop (i + 1), okWd w := by
  rw [List.drop_eq_getElem_cons h]; exact List.forall_mem_cons
theorem specWay_l0 (L : List ByteArray) (hL : L.length ≤ 1048577) : ∀ (d i : Nat) (out : List S31), i + d = L.length → out.length = i →
    Ev (fun k => spec_ReadWay.l0 k L out (i : Int)) (if (∀ w ∈ L.drop i, okWd w) ∧ L.length ≤ 8 then (out ++ (L.drop i).map stW, true) else ([], false))
  | 0, i, out, hd, ho => by
    have e : L.drop i = [] := by rw [List.drop_eq_nil_iff]; omega
    refine ev_succ ?_
    simp only [spec_ReadWay.l0]
    rw [e]
    refine ev_neg (by omega) (ev_if (fun h => ev_some ?_) (fun h => ev_some ?_))
    · rw [if_neg (fun g => by have := g.2; omega)]
    · rw [if_pos ⟨fun w hw => (by cases hw), by omega⟩]; simp
  | d + 1, i, out, hd, ho => by
    have hi : i < L.length := by omega
    have jt : Ev (fun k => spec_ReadWay.j1 k L out (i : Int) true) ([], false) := by
      refine ev_succ ?_; simp only [spec_ReadWay.j1]; exact ev_pos (by trivial) (Ev.now _)
    have hb1 := bt_range L[i] 1
    by_cases ok : okWd L[i]
    · obtain ⟨o1, o2, o3, o4⟩ := ok
      have ih := specWay_l0 L hL d (i + 1) (out ++ [stW L[i]]) (by omega) (by simp; omega)
      have e : (if (∀ w ∈ L.drop i, okWd w) ∧ L.length ≤ 8 then (out ++ (L.drop i).map stW, true) else (([] : List S31), false)) = (if (∀ w ∈ L.drop (i + 1), okWd w) ∧ L.length ≤ 8 then ((out ++ [stW L[i]]) ++ (L.drop (i + 1)).map stW, true) else ([], false)) := by
        by_cases q : (∀ w ∈ L.drop (i + 1), okWd w) ∧ L.length ≤ 8
        · rw [if_pos q, if_pos ⟨(all_dropW hi).mpr ⟨⟨o1, o2, o3, o4⟩, q.1⟩, q.2⟩, List.drop_eq_getElem_cons hi, List.map_cons, List.append_assoc]
          rfl
        · rw [if_neg q, if_neg (fun g => q ⟨((all_dropW hi).mp g.1).2, g.2⟩)]
      rw [e]
      have j1 : Ev (fun k => spec_ReadWay.j1 k L out (i : Int) false) (if (∀ w ∈ L.drop (i + 1), okWd w) ∧ L.length ≤ 8 then ((out ++ [stW L[i]]) ++ (L.drop (i + 1)).map stW, true) else ([], false)) := by
        refine ev_succ ?_; simp only [spec_ReadWay.j1]
        rw [rdOf_at hi, w64s (by omega)]
        refine ev_neg (by simp) (ev_pos (by omega) (ev_pos (by omega) (ev_pos (by omega) (ev_pos (by omega) (ev_if (fun h => ev_pos (by omega) ?_) (fun h => ev_pos (by omega) ?_))))))
        · have es : (⟨1, (bt L[i] 1 - 48) % 256⟩ : S31) = stW L[i] := by unfold stW; rw [if_pos h, show (bt L[i] 1 - 48) % 256 = bt L[i] 1 - 48 by omega]
          rw [es]; exact ih
        · have es : (⟨0, (bt L[i] 1 - 48) % 256⟩ : S31) = stW L[i] := by unfold stW; rw [if_neg h, show (bt L[i] 1 - 48) % 256 = bt L[i] 1 - 48 by omega]
          rw [es]; exact ih
      have ed : decide (bt L[i] 1 ≥ 52) = false := decide_eq_false (by omega)
      refine ev_succ ?_; simp only [spec_ReadWay.l0]
      rw [rdOf_at hi, ed]
      refine ev_pos (by omega) (ev_pos (by omega) (ev_pos (by omega) (ev_pos (by omega) (ev_if (fun h => ev_pos (by omega) (ev_neg (by omega) j1)) (fun h => ev_pos (by omega) (ev_pos (by omega) (ev_neg (by omega) j1)))))))
    · rw [if_neg (fun g => ok ((all_dropW hi).mp g.1).1)]
      refine ev_succ ?_; simp only [spec_ReadWay.l0]
      rw [rdOf_at hi]
      refine ev_pos (by omega) (ev_pos (by omega) (ev_if (fun h2 => ev_pos (by omega) ?_) (fun _ => jt)))
      have fin : (bt L[i] 0 = 102 ∨ bt L[i] 0 = 109) → ¬ bt L[i] 1 < 48 → Ev (fun k => spec_ReadWay.j1 k L out (i : Int) (decide (bt L[i] 1 ≥ 52))) ([], false) := by
        intro h0 h1
        rw [decide_eq_true (show bt L[i] 1 ≥ 52 by
          by_cases h : bt L[i] 1 < 52
          · exact absurd ⟨by omega, h0, by omega, h⟩ ok
          · omega)]
        exact jt
      refine ev_if (fun h => ev_pos (by omega) (ev_if (fun _ => jt) (fun h1 => fin (.inl h) h1))) (fun h => ev_if (fun h' => ev_pos (by omega) (ev_if (fun _ => jt) (fun h1 => fin (.inr h') h1))) (fun _ => jt))
theorem itoa_one {n : Int} (h0 : 0 ≤ n) (h1 : n ≤ 3) : Go.Lib.itoa n = [UInt8.ofNat (48 + n.toNat)] := by
  unfold Go.Lib.itoa
  rw [if_neg (by omega)]
  unfold Go.Lib.decDigits
  rw [dif_pos (by omega)]
/-- A word's sheave, as the program reads it. -/
theorem word_dec (w : ByteArray) (h1 : 1 ≤ w.size) : ∃ r : Int × Bool, Ev (fun k => impl_ReadDecimal.f k (w.extract 1 w.size)) r ∧ ((r.2 = true ∧ 0 ≤ r.1 ∧ r.1 ≤ 3) ↔ (w.size = 2 ∧ 48 ≤ bt w 1 ∧ bt w 1 < 52)) ∧ ((r.2 = true ∧ 0 ≤ r.1 ∧ r.1 ≤ 3) → r.1 = bt w 1 - 48) := by
  have hs := Go.Lib.size_eq w
  have ht : (w.extract 1 w.size).data.toList = w.data.toList.drop 1 := Go.Lib.extract_to_end w 1
  by_cases c : w.size = 2 ∧ 48 ≤ bt w 1 ∧ bt w 1 < 52
  · obtain ⟨c1, c2, c3⟩ := c
    have hl : 1 < w.data.toList.length := by omega
    have hb := bt_list hl
    have hb : bt w 1 = (w.data.toList[1].toNat : Int) := hb
    obtain ⟨d, hd⟩ : ∃ d : Nat, bt w 1 = ((48 + d : Nat) : Int) ∧ d < 4 := ⟨(bt w 1 - 48).toNat, by omega, by omega⟩
    have hx : w.data.toList.drop 1 = [UInt8.ofNat (48 + d)] := by
      rw [List.drop_eq_getElem_cons hl, List.drop_eq_nil_iff.mpr (by omega)]
      congr 1
      apply UInt8.toNat_inj.mp
      rw [UInt8.toNat_ofNat']
      omega
    refine ⟨((d : Int), true), dec_digit _ d (by omega) (by rw [ht, hx]), ⟨fun _ => ⟨c1, c2, c3⟩, fun _ => ⟨rfl, by show (0 : Int) ≤ d; omega, by show (d : Int) ≤ 3; omega⟩⟩, fun _ => ?_⟩
    show (d : Int) = _
    omega
  · obtain ⟨r, e1, e2⟩ := dec_ev (w.extract 1 w.size)
    have hno : ¬ (r.2 = true ∧ 0 ≤ r.1 ∧ r.1 ≤ 3) := by
      rintro ⟨q1, q2, q3⟩
      apply c
      have e := e2 q1
      rw [ht, itoa_one q2 q3] at e
      have hl : w.data.toList.length = 2 := by
        have := congrArg List.length e
        simp at this
        have : w.data.toList.length - 1 = 1 := by simpa using this
        omega
      have hl1 : 1 < w.data.toList.length := by omega
      have hb : bt w 1 = (w.data.toList[1].toNat : Int) := bt_list hl1
      rw [List.drop_eq_getElem_cons hl1] at e
      have e3 : w.data.toList[1] = UInt8.ofNat (48 + r.1.toNat) := (List.cons.inj e).1
      rw [e3, UInt8.toNat_ofNat'] at hb
      omega
    exact ⟨r, e1, ⟨fun h => absurd h hno, fun h => absurd h c⟩, fun h => absurd h hno⟩
theorem implWay_l0 (L : List ByteArray) (hL : L.length ≤ 8) : ∀ (d i : Nat) (out : List S31), i + d = L.length → out.length = i →
    Ev (fun k => impl_ReadWay.l0 k out L (L.length : Int) (i : Int)) (if ∀ w ∈ L.drop i, okWd w then (out ++ (L.drop i).map stW, true) else ([], false))
  | 0, i, out, hd, ho => by
    have e : L.drop i = [] := by rw [List.drop_eq_nil_iff]; omega
    refine ev_succ ?_
    simp only [impl_ReadWay.l0]
    rw [e]
    refine ev_neg (by omega) (ev_some ?_)
    rw [if_pos (fun w hw => (by cases hw))]; simp
  | d + 1, i, out, hd, ho => by
    have hi : i < L.length := by omega
    have ih := implWay_l0 L hL d (i + 1)
    have jt : ∀ w : ByteArray, Ev (fun k => impl_ReadWay.j1 k out w L (L.length : Int) (i : Int) true) ([], false) := by
      intro w
      refine ev_succ ?_; simp only [impl_ReadWay.j1]; exact ev_pos (by trivial) (Ev.now _)
    have jt2 : ∀ (w : ByteArray) (n : Int), Ev (fun k => impl_ReadWay.j2 k out w n L (L.length : Int) (i : Int) true) ([], false) := by
      intro w n
      refine ev_succ ?_; simp only [impl_ReadWay.j2]; exact ev_pos (by trivial) (Ev.now _)
    have hs := Go.Lib.size_eq L[i]
    refine ev_succ ?_; simp only [impl_ReadWay.l0]
    rw [rdOf_at hi]
    refine ev_pos (by omega) (ev_pos (by omega) (ev_pos (by omega) (ev_if (fun h => ?_) (fun h => ?_))))
    · rw [Go.Lib.toList_data] at h
      rw [if_neg (fun g => by
        have := ((all_dropW hi).mp g).1.1
        rw [hs, h] at this
        cases this)]
      exact jt _
    · have hpos : 1 ≤ L[i].size := by
        rw [Go.Lib.toList_data] at h
        rw [hs]
        exact List.length_pos_iff.mpr h
      have go : (bt L[i] 0 = 102 ∨ bt L[i] 0 = 109) → Ev (fun k => impl_ReadWay.j1 k out L[i] L (L.length : Int) (i : Int) false) (if ∀ w ∈ L.drop i, okWd w then (out ++ (L.drop i).map stW, true) else ([], false)) := by
        intro h0
        obtain ⟨r, e1, e2, e3⟩ := word_dec L[i] hpos
        refine ev_succ ?_; simp only [impl_ReadWay.j1]
        refine ev_neg (by simp) (ev_pos (by omega) (Ev.bind e1 ?_))
        by_cases q : r.2 = true ∧ 0 ≤ r.1 ∧ r.1 ≤ 3
        · have hq := e2.mp q
          have ok : okWd L[i] := ⟨hq.1, h0, hq.2.1, hq.2.2⟩
          have hw : impl_within.f r.1 0 3 = some true := by rw [within_eq, decide_eq_true ⟨q.2.1, q.2.2⟩]
          refine ev_pos q.1 (ev_now hw ?_)
          refine ev_succ ?_; simp only [impl_ReadWay.j2]
          rw [w64s (by omega), e3 q]
          have ih := ih (out ++ [stW L[i]]) (by omega) (by simp; omega)
          have e : (if ∀ w ∈ L.drop i, okWd w then (out ++ (L.drop i).map stW, true) else (([] : List S31), false)) = (if ∀ w ∈ L.drop (i + 1), okWd w then ((out ++ [stW L[i]]) ++ (L.drop (i + 1)).map stW, true) else ([], false)) := by
            by_cases q : ∀ w ∈ L.drop (i + 1), okWd w
            · rw [if_pos q, if_pos ((all_dropW hi).mpr ⟨ok, q⟩), List.drop_eq_getElem_cons hi, List.map_cons, List.append_assoc]
              rfl
            · rw [if_neg q, if_neg (fun g => q ((all_dropW hi).mp g).2)]
          rw [e]
          refine ev_neg (by simp) (ev_pos (by omega) (ev_if (fun h => ev_pos (by omega) ?_) (fun h => ev_pos (by omega) ?_)))
          · have es : (⟨1, bt L[i] 1 - 48⟩ : S31) = stW L[i] := by unfold stW; rw [if_pos h]
            rw [es]; exact ih
          · have es : (⟨0, bt L[i] 1 - 48⟩ : S31) = stW L[i] := by unfold stW; rw [if_neg h]
            rw [es]; exact ih
        · rw [if_neg (fun g => by
            have g := ((all_dropW hi).mp g).1
            exact q (e2.mpr ⟨g.1, g.2.2.1, g.2.2.2⟩))]
          refine ev_if (fun h2 => ?_) (fun _ => jt2 _ _)
          have hw : impl_within.f r.1 0 3 = some false := by rw [within_eq, decide_eq_false (fun g => q ⟨h2, g.1, g.2⟩)]
          exact ev_now hw (jt2 _ _)
      refine ev_pos (by omega) (ev_if (fun h0 => go (.inl h0)) (fun h0 => ?_))
      by_cases h9 : bt L[i] 0 = 109
      · rw [h9]
        have : ((109 : Int) != 109) = false := rfl
        rw [this]
        exact go (.inr h9)
      · have : (bt L[i] 0 != 109) = true := bne_iff_ne.mpr h9
        rw [this, if_neg (fun g => by
          have g := ((all_dropW hi).mp g).1.2.1
          rcases g with g | g
          · exact h0 g
          · exact h9 g)]
        exact jt _
theorem read_both (x : ByteArray) (hx : x.size ≤ 1048576) : ∃ (l : List S31) (b : Bool), l.length ≤ 8 ∧ Ev (fun k => spec_ReadWay.f k x) (l, b) ∧ Ev (fun k => impl_ReadWay.f k x) (l, b) := by
  have s1 := specSplit_ev x hx
  have s2 := implSplit_eq x hx
  have hl := splW_len x.data.toList
  have hs := Go.Lib.size_eq x
  obtain ⟨L, hL⟩ : ∃ L, L = (splW x.data.toList).map ba := ⟨_, rfl⟩
  have hn : L.length ≤ 1048577 := by rw [hL, List.length_map]; omega
  rw [← hL] at s1 s2
  have e1 := specWay_l0 L hn L.length 0 [] (by omega) rfl
  rw [List.drop_zero] at e1
  by_cases c : L.length ≤ 8
  · have e2 := implWay_l0 L c L.length 0 [] (by omega) rfl
    rw [List.drop_zero] at e2
    by_cases q : ∀ w ∈ L, okWd w
    · rw [if_pos ⟨q, c⟩] at e1
      rw [if_pos q] at e2
      refine ⟨[] ++ L.map stW, true, by simpa using c, ?_, ?_⟩
      · simp only [spec_ReadWay.f]; exact Ev.bind s1 e1
      · simp only [impl_ReadWay.f]; exact ev_now s2 (ev_neg (by omega) e2)
    · rw [if_neg (fun g => q g.1)] at e1
      rw [if_neg q] at e2
      refine ⟨[], false, by simp, ?_, ?_⟩
      · simp only [spec_ReadWay.f]; exact Ev.bind s1 e1
      · simp only [impl_ReadWay.f]; exact ev_now s2 (ev_neg (by omega) e2)
  · rw [if_neg (fun g => c g.2)] at e1
    refine ⟨[], false, by simp, ?_, ?_⟩
    · simp only [spec_ReadWay.f]; exact Ev.bind s1 e1
    · simp only [impl_ReadWay.f]; exact ev_now s2 (ev_pos (by omega) (Ev.now _))
theorem FnExactReadWay : laws_FnExactReadWay.Pure := by
  intro x _
  refine Ev.rounds ?_
  simp only [laws_FnExactReadWay.f]
  refine ev_if (fun _ => Ev.now _) (fun hx => ?_)
  obtain ⟨v, c, hv8, e1, e2⟩ := read_both x (by omega)
  have hv : v.length ≤ 1048576 := by omega
  have ev := eqStopS_self v hv
  have bf : (c != c) = false := by simp
  have mv := markStopS_ev v 1 (by omega) (by omega)
  have hd := heldStopS_ev 1 (by omega) v.length (by omega)
  have j1 : Ev (fun k => laws_FnExactReadWay.j1 k (mksStop 1 v.length) (1 + 2 * (v.length : Int)) false) true := by
    refine ev_succ ?_; simp only [laws_FnExactReadWay.j1]
    exact ev_neg (by simp) (Ev.bind hd (ev_neg (by omega) (ev_pos rfl (Ev.now _))))
  have j0 : Ev (fun k => laws_FnExactReadWay.j0 k x v c v false) true := by
    refine ev_succ ?_; simp only [laws_FnExactReadWay.j0]
    refine ev_neg (by simp) (Ev.bind mv (Ev.bind hd (ev_neg (by omega) (ev_pos rfl (Ev.bind e2 (Ev.bind ev (ev_pos (by trivial) ?_)))))))
    rw [bf]; exact j1
  refine Ev.bind e1 (Ev.bind e2 (Ev.bind ev (ev_pos (by trivial) ?_)))
  rw [bf]
  exact j0

end Go.Proofs.YtifdihbndlmgpaaDoor.PureFnExactReadWay
namespace Go.Proofs.YtifdihbndlmgpaaDoor.Pure
open Go.Proofs.YtifdihbndlmgpaaDoor.HRw
theorem FnExactReadWay : laws_FnExactReadWay.Pure := PureFnExactReadWay.FnExactReadWay
end Go.Proofs.YtifdihbndlmgpaaDoor.Pure
