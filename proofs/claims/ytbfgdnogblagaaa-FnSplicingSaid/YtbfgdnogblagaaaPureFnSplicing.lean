/- The program's function answers as the statement says. Conditions: none beyond the given statement's own. -/
import Derived.Test.YtbfgdnogblagaaaHFnSplicingx3
import Derived.Test.YtbfgdnogblagaaaLib
import Derived.Test.YtbfgdnogblagaaaLibDraw
set_option linter.unusedVariables false
set_option linter.unusedSimpArgs false
namespace Go.Proofs.Ytbfgdnogblagaaa.PureFnSplicing
open Go.RowKit Go.Proofs.Ytbfgdnogblagaaa.HFnSplicing Go.Proofs.YtbfgdnogblagaaaW.PrintWords Go.Proofs.YtbfgdnogblagaaaW.PrintLast Go.Proofs.YtbfgdnogblagaaaW.PrintMore Go.Proofs.Ytbfgdnogblagaaa.Lib
theorem next_ev (c : List Int) (at_ sd : Int) (m : Nat) (h : Sr c at_ (m + 1)) :
    ∃ r a' s', spec_l00Src_next.f c at_ sd = some (r, a', s') ∧ 0 ≤ r ∧ r ≤ 255 ∧ Sr c a' m := by
  obtain ⟨h1, h2, h3⟩ := h
  have e : wrap64 (at_ + 1) = at_ + 1 := w64 (by omega) (by omega)
  have hs : Sr c (at_ + 1) m := ⟨h1, by omega, by omega⟩
  unfold spec_l00Src_next.f
  rw [e]
  by_cases hl : at_ < (c.length : Int)
  · rw [if_pos hl, if_pos h2, if_pos (by omega)]
    have := h1 _ (rd_mem h2 hl)
    rw [w64 (by omega) (by omega)]
    exact ⟨_, _, _, rfl, this.1, this.2, hs⟩
  · rw [if_neg hl, if_neg (by omega)]
    have := and255 (IntKind.u64.wrap (IntKind.u64.wrap (sd * 6364136223846793005)) + 1442695040888963407)
    refine ⟨_, _, _, rfl, ?_, ?_, hs⟩
    · rw [w64 (by omega) (by omega)]; exact this.1
    · rw [w64 (by omega) (by omega)]; exact this.2
theorem pick_ev (c : List Int) (at_ sd n : Int) (m : Nat) (h : Sr c at_ (m + 2)) :
    ∃ r a' s', spec_l00Src_pick.f c at_ sd n = some (r, a', s') ∧ 0 ≤ r ∧ (n ≤ 1 ∧ r = 0 ∨ 1 < n ∧ r < n) ∧ Sr c a' m := by
  unfold spec_l00Src_pick.f
  by_cases h1 : n ≤ 1
  · rw [if_pos h1]; exact ⟨_, _, _, rfl, by omega, .inl ⟨h1, rfl⟩, h.less (by omega)⟩
  · rw [if_neg h1]
    obtain ⟨r, a', s', e, r0, r1, hs⟩ := next_ev c at_ sd (m + 1) h
    rw [e]; simp only [Option.bind_some]
    by_cases h2 : n > 200
    · rw [if_pos h2]
      obtain ⟨q, b', t', e', q0, q1, hs'⟩ := next_ev c a' s' m hs
      rw [e']; simp only [Option.bind_some]
      rw [if_neg (by omega), w64 (x := r * 256) (by omega) (by omega), w64 (x := r * 256 + q) (by omega) (by omega)]
      exact ⟨_, _, _, rfl, Int.tmod_nonneg _ (by omega), .inr ⟨by omega, Int.tmod_lt_of_pos _ (by omega)⟩, hs'⟩
    · rw [if_neg h2, if_neg (by omega)]
      exact ⟨_, _, _, rfl, Int.tmod_nonneg _ (by omega), .inr ⟨by omega, Int.tmod_lt_of_pos _ (by omega)⟩, hs.less (by omega)⟩

def okL (l : List Int) : Prop := ∀ x ∈ l, 1 ≤ x ∧ x ≤ 20000
instance (l : List Int) : Decidable (okL l) := inferInstanceAs (Decidable (∀ x ∈ l, 1 ≤ x ∧ x ≤ 20000))
def okC (a b : List Int) : Prop := okL a ∧ okL b ∧ a.length ≤ 5 ∧ b.length ≤ 7
instance (a b : List Int) : Decidable (okC a b) := inferInstanceAs (Decidable (okL a ∧ okL b ∧ a.length ≤ 5 ∧ b.length ≤ 7))
theorem okL_drop {l : List Int} {i : Nat} (h : i < l.length) : okL (l.drop i) ↔ (1 ≤ l[i] ∧ l[i] ≤ 20000) ∧ okL (l.drop (i + 1)) := all_drop h

theorem A2Coils_l1 (c x5 : List Int) : ∀ (d : Nat) (x7 : List Int) (at_ sd : Int), Sr c at_ (2 * d) → okL x7 → x7.length + d ≤ 100 →
    ∃ b, Ev (fun k => spec_A2Coils.l1 k x5 x7 (d : Int) c at_ sd) (x5, b) ∧ okL b ∧ b.length = x7.length + d
  | 0, x7, at_, sd, hs, ho, hl => by
    refine ⟨x7, ev_succ ?_, ho, by omega⟩
    simp only [spec_A2Coils.l1]
    exact ev_neg (by omega) (Ev.now _)
  | d + 1, x7, at_, sd, hs, ho, hl => by
    obtain ⟨r, a', s', e, r0, r1, hs'⟩ := pick_ev c at_ sd 10 (2 * d) hs
    obtain ⟨b, eb, hb, hn⟩ := A2Coils_l1 c x5 d (x7 ++ [10 * (1 + r)]) a' s' hs' (by
      intro x hx; rcases List.mem_append.1 hx with h | h
      · exact ho x h
      · simp at h; omega) (by simp; omega)
    refine ⟨b, ev_succ ?_, hb, by simp at hn; omega⟩
    simp only [spec_A2Coils.l1]
    refine ev_pos (by omega) (ev_now e ?_)
    simp only []
    rw [w64 (x := 1 + r) (by omega) (by omega), w64 (x := 10 * (1 + r)) (by omega) (by omega), w64 (x := ((d + 1 : Nat) : Int) - 1) (by omega) (by omega)]
    refine ev_pos (by omega) ?_
    have e2 : ((d + 1 : Nat) : Int) - 1 = (d : Int) := by omega
    rw [e2]; exact eb
theorem A2Coils_l0 (c : List Int) : ∀ (d : Nat) (x5 : List Int) (at_ sd : Int), Sr c at_ (2 * d + 12) → okL x5 → x5.length + d ≤ 5 →
    ∃ a b, Ev (fun k => spec_A2Coils.l0 k x5 (d : Int) c at_ sd) (a, b) ∧ okC a b
  | 0, x5, at_, sd, hs, ho, hl => by
    obtain ⟨r, a', s', e, r0, r1, hs'⟩ := pick_ev c at_ sd 6 10 hs
    obtain ⟨n, rfl⟩ := Int.eq_ofNat_of_zero_le r0
    obtain ⟨b, eb, hb, hn⟩ := A2Coils_l1 c x5 n [] a' s' (hs'.less (by omega)) (by simp [okL]) (by simp; omega)
    refine ⟨x5, b, ev_succ ?_, ho, hb, by omega, by simp at hn; omega⟩
    simp only [spec_A2Coils.l0]
    refine ev_neg (by omega) (ev_now e ?_)
    exact eb
  | d + 1, x5, at_, sd, hs, ho, hl => by
    obtain ⟨r, a', s', e, r0, r1, hs'⟩ := pick_ev c at_ sd 20 (2 * d + 12) (hs.less (by omega))
    obtain ⟨a, b, eb, hb⟩ := A2Coils_l0 c d (x5 ++ [10 * (1 + r)]) a' s' hs' (by
      intro x hx; rcases List.mem_append.1 hx with h | h
      · exact ho x h
      · simp at h; omega) (by simp; omega)
    refine ⟨a, b, ev_succ ?_, hb⟩
    simp only [spec_A2Coils.l0]
    refine ev_pos (by omega) (ev_now e ?_)
    simp only []
    rw [w64 (x := 1 + r) (by omega) (by omega), w64 (x := 10 * (1 + r)) (by omega) (by omega), w64 (x := ((d + 1 : Nat) : Int) - 1) (by omega) (by omega)]
    refine ev_pos (by omega) ?_
    have e2 : ((d + 1 : Nat) : Int) - 1 = (d : Int) := by omega
    rw [e2]; exact eb
theorem A2Coils_ev (c : List Int) (h : ∀ x ∈ c, (Lit.int .u8 x).wf = true) : ∃ a b, Ev (fun k => spec_A2Coils.f k c) (a, b) ∧ okC a b := by
  obtain ⟨r, a', s', e, r0, r1, hs'⟩ := pick_ev c 0 0 5 100 ((Sr.start h).less (by omega))
  obtain ⟨n, rfl⟩ := Int.eq_ofNat_of_zero_le r0
  obtain ⟨a, b, eb, hb⟩ := A2Coils_l0 c n [] a' s' (hs'.less (by omega)) (by simp [okL]) (by simp; omega)
  refine ⟨a, b, ?_, hb⟩
  simp only [spec_A2Coils.f, spec_l00From.f]
  exact ev_now rfl (ev_now e eb)

theorem within_eq (a b c : Int) : impl_within.f a b c = some (decide (b ≤ a ∧ a ≤ c)) := by
  unfold impl_within.f; by_cases h : a ≥ b <;> simp [h]

theorem iValidCoils_l1 (x19 : List (List Int)) (x20 x21 : Int) (x25 : List Int) (hn : x25.length ≤ 35184372088832) (r : Bool)
    (hr : okL x25 → Ev (fun k => impl_ValidCoils.l0 k x19 x20 (wrap64 (x21 + 1))) r) (hr' : ¬ okL x25 → r = false) : ∀ (d i : Nat), i + d = x25.length → (okL (x25.drop i) → okL x25) →
    Ev (fun k => impl_ValidCoils.l1 k x19 x20 x21 x25 (x25.length : Int) (i : Int)) r
  | 0, i, hd, hi => by
    refine ev_succ ?_
    simp only [impl_ValidCoils.l1]
    refine ev_neg (by omega) ?_
    have : x25.drop i = [] := by simp; omega
    exact hr (hi (by rw [this]; simp [okL]))
  | d + 1, i, hd, hi => by
    refine ev_succ ?_
    simp only [impl_ValidCoils.l1]
    refine ev_pos (by omega) (ev_pos (by omega) (ev_pos (by omega) (ev_now (within_eq _ _ _) (ev_if (fun h => ?_) (fun h => ev_some ?_)))))
    · rw [w64s (by omega)]
      rw [rd_nat (by omega)] at h
      refine iValidCoils_l1 x19 x20 x21 x25 hn r hr hr' d (i + 1) (by omega) (fun g => hi ?_)
      rw [okL_drop (by omega)]; exact ⟨of_decide_eq_true h, g⟩
    · rw [rd_nat (by omega)] at h
      symm; apply hr'; intro g
      apply h; apply ofd1; exact g _ (List.getElem_mem _)
theorem iValidCoils_ev (a b : List Int) (ha : a.length ≤ 35184372088832) (hb : b.length ≤ 35184372088832) :
    Ev (fun k => impl_ValidCoils.f k a b) (decide (okC a b)) := by
  have e2 : Ev (fun k => impl_ValidCoils.l0 k [a, b] 2 2) true := by
    refine ev_succ ?_; simp only [impl_ValidCoils.l0]; exact ev_neg (by omega) (Ev.now _)
  have e1 : Ev (fun k => impl_ValidCoils.l0 k [a, b] 2 1) (decide (okL b)) := by
    refine ev_succ ?_; simp only [impl_ValidCoils.l0]
    refine ev_pos (by omega) (ev_pos (by omega) (ev_pos (by simp) ?_))
    refine iValidCoils_l1 [a, b] 2 1 b hb _ (fun h => ?_) (fun h => ofd h) b.length 0 (by omega) (fun h => by simpa using h)
    rw [ofd1 h, w64 (by omega) (by omega)]; exact e2
  have e0 : Ev (fun k => impl_ValidCoils.l0 k [a, b] 2 0) (decide (okL a ∧ okL b)) := by
    refine ev_succ ?_; simp only [impl_ValidCoils.l0]
    refine ev_pos (by omega) (ev_pos (by omega) (ev_pos (by simp) ?_))
    refine iValidCoils_l1 [a, b] 2 0 a ha _ (fun h => ?_) (fun h => ofd (fun g => h g.1)) a.length 0 (by omega) (fun h => by simpa using h)
    simp only [h, true_and]; rw [w64 (by omega) (by omega)]; exact e1
  have ej : Ev (fun k => impl_ValidCoils.j0 k a b true) false := by
    refine ev_succ ?_; simp only [impl_ValidCoils.j0]; exact ev_pos (by trivial) (Ev.now _)
  have ek : Ev (fun k => impl_ValidCoils.j0 k a b false) (decide (okL a ∧ okL b)) := by
    refine ev_succ ?_; simp only [impl_ValidCoils.j0]; exact ev_neg (by simp) (ev_now rfl e0)
  simp only [impl_ValidCoils.f]
  refine ev_if (fun h => ?_) (fun h => ?_)
  · rw [ofd (p := okC a b) (fun g => by have := g.2.2.1; omega)]; exact ej
  · by_cases h7 : (b.length : Int) > 7
    · rw [ofd1 h7, ofd (p := okC a b) (fun g => by have := g.2.2.2; omega)]; exact ej
    · rw [ofd h7]
      have : decide (okC a b) = decide (okL a ∧ okL b) := by
        apply decide_eq_decide.2; unfold okC; constructor
        · intro g; exact ⟨g.1, g.2.1⟩
        · intro g; exact ⟨g.1, g.2, by omega, by omega⟩
      rw [this]; exact ek

def cnt (a p : Int) : List Int → Int → Int
  | [], s => s
  | e :: es, s => cnt a p es (if a < e ∧ e < a + p then s + 1 else s)
def pref (s : Int) : List Int → List Int
  | [] => []
  | c :: cs => (s + c) :: pref (s + c) cs
def tot (E : List Int) : List Int → Int → Int → Int × Int
  | [], a, s => (s, a)
  | p :: ps, a, s => tot E ps (a + p) (cnt a p E s)
theorem pref_length (s : Int) (l : List Int) : (pref s l).length = l.length := by
  induction l generalizing s with
  | nil => rfl
  | cons c cs ih => simp [pref, ih]
theorem cnt_bd (a p : Int) (E : List Int) (s : Int) : s ≤ cnt a p E s ∧ cnt a p E s ≤ s + E.length := by
  induction E generalizing s with
  | nil => simp [cnt]
  | cons e es ih =>
    have := ih (if a < e ∧ e < a + p then s + 1 else s)
    simp only [cnt, List.length_cons]
    by_cases h : a < e ∧ e < a + p
    · rw [if_pos h] at this ⊢; omega
    · rw [if_neg h] at this ⊢; omega
theorem tot_snd (E : List Int) (ps : List Int) (a s : Int) : (tot E ps a s).2 = a + ps.sum := by
  induction ps generalizing a s with
  | nil => simp [tot]
  | cons p ps ih => simp only [tot, ih, List.sum_cons]; omega
theorem tot_fst (E : List Int) (ps : List Int) (a s : Int) : s ≤ (tot E ps a s).1 ∧ (tot E ps a s).1 ≤ s + E.length * ps.length := by
  induction ps generalizing a s with
  | nil => simp [tot]
  | cons p ps ih =>
    have h1 := ih (a + p) (cnt a p E s)
    have h2 := cnt_bd a p E s
    have e : (E.length : Int) * ((p :: ps).length : Nat) = (E.length : Int) * (ps.length : Nat) + E.length := by
      rw [List.length_cons, Int.natCast_add, Int.mul_add]; simp
    simp only [tot]
    omega
theorem okL_get {l : List Int} (h : okL l) {i : Nat} (hi : i < l.length) : 1 ≤ l[i] ∧ l[i] ≤ 20000 := h _ (List.getElem_mem _)
theorem sum_bd {l : List Int} (h : okL l) : (l.length : Int) ≤ l.sum ∧ l.sum ≤ 20000 * l.length := by
  induction l with
  | nil => simp
  | cons x xs ih =>
    have h1 := h x (by simp)
    have h2 := ih (fun y hy => h y (by simp [hy]))
    simp only [List.length_cons, List.sum_cons]; omega

theorem iSpliced_l2 (x6 : List Int) (x7 : Int) (x11 x13 : Int) (h11 : 0 ≤ x11) (h11' : x11 ≤ 1000000) (h13 : 0 ≤ x13) (h13' : x13 ≤ 20000) (hl : x6.length ≤ 5) (x35 : List Int) (x36 x37 : Int) (r : Int × Int) :
    ∀ (d i : Nat) (c : Int), i + d = x6.length → 0 ≤ c → c ≤ 1000 + i →
    Ev (fun k => impl_SplicedPieces.l1 k x6 x7 (cnt x11 x13 (x6.drop i) c) (x11 + x13) x35 x36 (wrap64 (x37 + 1))) r →
    Ev (fun k => impl_SplicedPieces.l2 k x6 x7 c x11 x13 x35 x36 x37 x6 (x6.length : Int) (i : Int)) r
  | 0, i, c, hd, h0, h1, hr => by
    refine ev_succ ?_
    simp only [impl_SplicedPieces.l2]
    have e : x6.drop i = [] := by simp; omega
    rw [e] at hr; simp only [cnt] at hr
    refine ev_neg (by omega) ?_
    rw [w64 (x := x11 + x13) (by omega) (by omega)]; exact hr
  | d + 1, i, c, hd, h0, h1, hr => by
    have hi : i < x6.length := by omega
    refine ev_succ ?_
    simp only [impl_SplicedPieces.l2]
    rw [List.drop_eq_getElem_cons hi] at hr
    simp only [cnt] at hr
    rw [rd_nat hi, w64s (by omega), w64 (x := x11 + x13) (by omega) (by omega), w64 (x := c + 1) (by omega) (by omega)]
    refine ev_pos (by omega) (ev_pos (by omega) (ev_pos (by omega) (ev_if (fun ha => ev_if (fun hb => ?_) (fun hb => ?_)) (fun ha => ?_))))
    · rw [if_pos ⟨ha, hb⟩] at hr
      exact iSpliced_l2 x6 x7 x11 x13 h11 h11' h13 h13' hl x35 x36 x37 r d (i + 1) _ (by omega) (by omega) (by omega) hr
    · rw [if_neg (fun g => hb g.2)] at hr
      exact iSpliced_l2 x6 x7 x11 x13 h11 h11' h13 h13' hl x35 x36 x37 r d (i + 1) _ (by omega) (by omega) (by omega) hr
    · rw [if_neg (fun g => ha g.1)] at hr
      exact iSpliced_l2 x6 x7 x11 x13 h11 h11' h13 h13' hl x35 x36 x37 r d (i + 1) _ (by omega) (by omega) (by omega) hr
theorem iSpliced_l1 (x6 : List Int) (x7 : Int) (hl : x6.length ≤ 5) (x1 : List Int) (ho : okL x1) (h7 : x1.length ≤ 7) : ∀ (d i : Nat) (s a : Int), i + d = x1.length → 0 ≤ s → s ≤ 5 * i → 0 ≤ a → a ≤ 20000 * i →
    Ev (fun k => impl_SplicedPieces.l1 k x6 x7 s a x1 (x1.length : Int) (i : Int)) (if (tot x6 (x1.drop i) a s).2 > x7 then (0, 5) else ((tot x6 (x1.drop i) a s).1, 0))
  | 0, i, s, a, hd, h0, h1, h2, h3 => by
    refine ev_succ ?_
    simp only [impl_SplicedPieces.l1]
    have e : x1.drop i = [] := by simp; omega
    have e2 : tot x6 (x1.drop i) a s = (s, a) := by rw [e]; rfl
    rw [e2]
    refine ev_neg (by omega) (ev_if (fun h => ev_some ?_) (fun h => ev_some ?_))
    · rw [if_pos h]
    · rw [if_neg h]
  | d + 1, i, s, a, hd, h0, h1, h2, h3 => by
    have hi : i < x1.length := by omega
    have hp := okL_get ho hi
    have hb := cnt_bd a x1[i] x6 s
    refine ev_succ ?_
    simp only [impl_SplicedPieces.l1]
    rw [rd_nat hi, List.drop_eq_getElem_cons hi]
    simp only [tot]
    refine ev_pos (by omega) (ev_pos (by omega) (ev_pos (by omega) ?_))
    have ih := iSpliced_l1 x6 x7 hl x1 ho h7 d (i + 1) (cnt a x1[i] x6 s) (a + x1[i]) (by omega) (by omega) (by omega) (by omega) (by omega)
    have := iSpliced_l2 x6 x7 a x1[i] h2 (by omega) (by omega) (by omega) hl x1 (x1.length : Int) (i : Int) _ x6.length 0 s (by omega) (by omega) (by omega)
      (by rw [w64s (by omega)]; simpa using ih)
    simpa using this
theorem iSpliced_l0 (x1 x21 : List Int) (ho : okL x21) (hl : x21.length ≤ 5) (r : Int × Int) : ∀ (d i : Nat) (x6 : List Int) (x7 : Int), i + d = x21.length → x6.length = i → 0 ≤ x7 → x7 ≤ 20000 * i →
    Ev (fun k => impl_SplicedPieces.l1 k (x6 ++ pref x7 (x21.drop i)) (x7 + (x21.drop i).sum) 0 0 x1 (x1.length : Int) 0) r →
    Ev (fun k => impl_SplicedPieces.l0 k x1 x6 x7 x21 (x21.length : Int) (i : Int)) r
  | 0, i, x6, x7, hd, h6, h0, h1, hr => by
    refine ev_succ ?_
    simp only [impl_SplicedPieces.l0]
    have e : x21.drop i = [] := by simp; omega
    rw [e] at hr; simp only [pref, List.append_nil, List.sum_nil, Int.add_zero] at hr
    exact ev_neg (by omega) hr
  | d + 1, i, x6, x7, hd, h6, h0, h1, hr => by
    have hi : i < x21.length := by omega
    have hp := okL_get ho hi
    refine ev_succ ?_
    simp only [impl_SplicedPieces.l0]
    rw [List.drop_eq_getElem_cons hi] at hr
    simp only [pref, List.sum_cons] at hr
    rw [rd_nat hi, w64s (by omega), w64 (x := x7 + x21[i]) (by omega) (by omega)]
    refine ev_pos (by omega) (ev_pos (by omega) (ev_pos (by omega) (ev_pos (by omega) ?_)))
    refine iSpliced_l0 x1 x21 ho hl r d (i + 1) _ _ (by omega) (by simp [h6]) (by omega) (by omega) ?_
    rw [List.append_assoc, List.singleton_append, Int.add_assoc]; exact hr
theorem iSpliced_ev (a b : List Int) (ha : a.length ≤ 35184372088832) (hb : b.length ≤ 35184372088832) :
    Ev (fun k => impl_SplicedPieces.f k a b) (if okC a b then (if b.sum > a.sum then (0, 5) else ((tot (pref 0 a) b 0 0).1, 0)) else (0, 1)) := by
  have e := iValidCoils_ev a b ha hb
  simp only [impl_SplicedPieces.f]
  refine Ev.bind e (ev_if (fun h => ?_) (fun h => ev_some ?_))
  · have hc : okC a b := of_decide_eq_true h
    rw [if_pos hc]
    have e1 := iSpliced_l1 (pref 0 a) a.sum (by rw [pref_length]; exact hc.2.2.1) b hc.2.1 hc.2.2.2 b.length 0 0 0 (by omega) (by omega) (by omega) (by omega) (by omega)
    rw [List.drop_zero, tot_snd, Int.zero_add] at e1
    have := iSpliced_l0 b a hc.1 hc.2.2.1 _ a.length 0 [] 0 (by omega) rfl (by omega) (by omega) (by simpa using e1)
    simpa using this
  · have hc : ¬ okC a b := fun g => h (ofd1 g)
    rw [if_neg hc]

def hit (e : Int) : List Int → Int → Int
  | [], _ => 0
  | p :: ps, a => (if a < e ∧ e < a + p then 1 else 0) + hit e ps (a + p)
theorem hit_lo (e : Int) (ps : List Int) (a : Int) (ho : okL ps) (h : e ≤ a) : hit e ps a = 0 := by
  induction ps generalizing a with
  | nil => rfl
  | cons p ps ih =>
    have hp := ho p (by simp)
    simp only [hit]
    rw [if_neg (by omega), ih (a + p) (fun x hx => ho x (by simp [hx])) (by omega)]; rfl
theorem hit_hi (e : Int) (ps : List Int) (a : Int) (ho : okL ps) (h : a + ps.sum ≤ e) : hit e ps a = 0 := by
  induction ps generalizing a with
  | nil => rfl
  | cons p ps ih =>
    have hp := ho p (by simp)
    have ho' : okL ps := fun x hx => ho x (by simp [hx])
    have hs := sum_bd ho'
    rw [List.sum_cons] at h
    simp only [hit]
    rw [if_neg (by omega), ih (a + p) ho' (by omega)]; rfl
theorem hit_bd (e : Int) (ps : List Int) (a : Int) (ho : okL ps) : 0 ≤ hit e ps a ∧ hit e ps a ≤ 1 := by
  induction ps generalizing a with
  | nil => simp [hit]
  | cons p ps ih =>
    have ho' : okL ps := fun x hx => ho x (by simp [hx])
    have := ih (a + p) ho'
    simp only [hit]
    split
    · rw [hit_lo e ps (a + p) ho' (by omega)]; omega
    · omega
theorem cnt_sum (a p : Int) (E : List Int) (s : Int) : cnt a p E s = s + (E.map fun e => if a < e ∧ e < a + p then (1 : Int) else 0).sum := by
  induction E generalizing s with
  | nil => simp [cnt]
  | cons e es ih =>
    simp only [cnt, ih, List.map_cons, List.sum_cons]
    split <;> omega
theorem sum_add (E : List Int) (f g : Int → Int) : (E.map fun e => f e + g e).sum = (E.map f).sum + (E.map g).sum := by
  induction E with
  | nil => rfl
  | cons e es ih => simp only [List.map_cons, List.sum_cons, ih]; omega
theorem tot_hits (E ps : List Int) (a s : Int) : (tot E ps a s).1 = s + (E.map fun e => hit e ps a).sum := by
  induction ps generalizing a s with
  | nil =>
    have : ∀ E : List Int, (E.map fun e => hit e [] a).sum = 0 := by
      intro E; induction E with
      | nil => rfl
      | cons e es ih => simp only [List.map_cons, List.sum_cons, ih]; rfl
    rw [this]; simp [tot]
  | cons p ps ih =>
    simp only [tot, ih, cnt_sum, hit, sum_add]; omega
theorem pref_hits (f : Int → Int) (h0 : ∀ e, 0 ≤ f e ∧ f e ≤ 1) (l : List Int) (s : Int) (hf : f (s + l.sum) = 0) :
    0 ≤ ((pref s l).map f).sum ∧ (((pref s l).map f).sum ≤ (l.length : Int) - 1 ∨ l = [] ∧ ((pref s l).map f).sum = 0) := by
  induction l generalizing s with
  | nil => simp [pref]
  | cons c cs ih =>
    have := ih (s + c) (by rw [List.sum_cons, ← Int.add_assoc] at hf; exact hf)
    have h1 := h0 (s + c)
    simp only [pref, List.map_cons, List.sum_cons, List.length_cons]
    rcases this with ⟨g0, g | ⟨rfl, g⟩⟩
    · exact ⟨by omega, .inl (by omega)⟩
    · simp only [List.sum_cons, List.sum_nil, Int.add_zero] at hf
      exact ⟨by omega, .inl (by simp; omega)⟩
theorem a2Sum_l0 (x0 : List Int) (hc : okL x0) (hl : x0.length ≤ 7) : ∀ (d i : Nat) (s : Int), i + d = x0.length → 0 ≤ s → s ≤ 20000 * i →
    Ev (fun k => laws_a2Sum.l0 k x0 s (i : Int)) (s + (x0.drop i).sum)
  | 0, i, s, hd, h0, h1 => by
    refine ev_succ ?_
    simp only [laws_a2Sum.l0]
    have e : x0.drop i = [] := by simp; omega
    refine ev_neg (by omega) (ev_some ?_)
    rw [e]; simp
  | d + 1, i, s, hd, h0, h1 => by
    have hi : i < x0.length := by omega
    have hp := okL_get hc hi
    refine ev_succ ?_
    simp only [laws_a2Sum.l0]
    rw [rd_nat hi, w64s (by omega), w64 (by omega) (by omega), List.drop_eq_getElem_cons hi]
    refine ev_pos (by omega) (ev_pos (by omega) ?_)
    have := a2Sum_l0 x0 hc hl d (i + 1) (s + x0[i]) (by omega) (by omega) (by omega)
    rw [List.sum_cons, ← Int.add_assoc]; exact this
def term (g t : Int) (k : Nat) : Int := mx 1 (t - k) * (g + 6 * k)
def szs (g t : Int) : Nat → Int
  | 0 => 200
  | n + 1 => szs g t n + term g t n
theorem term_bd (g t : Int) (k : Nat) (hg : 1 ≤ g ∧ g ≤ 1000) (ht : 1 ≤ t ∧ t ≤ 50) (hk : k ≤ 5) : 1 ≤ term g t k ∧ term g t k ≤ 60000 := by
  unfold term
  have h1 : 1 ≤ mx 1 (t - k) ∧ mx 1 (t - k) ≤ 50 := by unfold mx; split <;> omega
  have h2 : 1 ≤ g + 6 * (k : Int) ∧ g + 6 * (k : Int) ≤ 1030 := by omega
  have a := Int.mul_le_mul h1.1 h2.1 (by omega) (by omega)
  have b := Int.mul_le_mul h1.2 h2.2 (by omega) (by omega)
  omega
theorem term_le (g t : Int) (k : Nat) (hg : 1 ≤ g) : term g t k ≤ term g (t + 1) k := by
  unfold term
  apply Int.mul_le_mul_of_nonneg_right
  · unfold mx; split <;> split <;> omega
  · omega
theorem szs_bd (g t : Int) (n : Nat) (hg : 1 ≤ g ∧ g ≤ 1000) (ht : 1 ≤ t ∧ t ≤ 50) (hn : n ≤ 5) : 200 + (n : Int) ≤ szs g t n ∧ szs g t n ≤ 200 + 60000 * n := by
  induction n with
  | zero => simp [szs]
  | succ n ih =>
    have h1 := ih (by omega)
    have h2 := term_bd g t n hg ht (by omega)
    simp only [szs]; omega
theorem szs_lt (g t : Int) (n : Nat) (hg : 1 ≤ g) (ht : 1 ≤ t) : szs g t (n + 1) < szs g (t + 1) (n + 1) := by
  induction n with
  | zero =>
    simp only [szs, term, mx]
    rw [Int.natCast_zero] at *
    have e1 : (if (1 : Int) < t - 0 then t - 0 else 1) = t := by split <;> omega
    have e2 : (if (1 : Int) < t + 1 - 0 then t + 1 - 0 else 1) = t + 1 := by split <;> omega
    rw [e1, e2, Int.add_mul]; omega
  | succ n ih =>
    have := term_le g t (n + 1) hg
    rw [szs, szs.eq_def g (t + 1)]; simp only []; omega
theorem szs_one (g t : Int) (hg : 1 ≤ g ∧ g ≤ 1000) (ht : 1 ≤ t ∧ t ≤ 50) : ∀ n : Nat, n ≤ 4 → szs g t 1 ≤ szs g t (n + 1)
  | 0, _ => Int.le_refl _
  | m + 1, h => by
    have hm := term_bd g t (m + 1) hg ht (by omega)
    have e : szs g t (m + 1 + 1) = szs g t (m + 1) + term g t (m + 1) := rfl
    have := szs_one g t hg ht m (by omega)
    omega
theorem iSeiz_l0 (g t : Int) (n : Nat) (hg : 1 ≤ g ∧ g ≤ 1000) (ht : 1 ≤ t ∧ t ≤ 50) (hn : n ≤ 5) : ∀ (d i : Nat), i + d = n →
    Ev (fun k => impl_SeizingLength.l0 k g t n (szs g t i) i) (szs g t n, 0)
  | 0, i, hd => by
    refine ev_succ ?_
    simp only [impl_SeizingLength.l0]
    have : i = n := by omega
    subst this
    exact ev_neg (by omega) (Ev.now _)
  | d + 1, i, hd => by
    refine ev_succ ?_
    simp only [impl_SeizingLength.l0]
    have h1 := szs_bd g t i hg ht (by omega)
    have h2 := term_bd g t i hg ht (by omega)
    have ih := iSeiz_l0 g t n hg ht hn d (i + 1) (by omega)
    simp only [szs, term] at ih h2
    rw [w64s (by omega), w64 (x := t - i) (by omega) (by omega), w64 (x := 6 * (i : Int)) (by omega) (by omega), w64 (x := g + 6 * (i : Int)) (by omega) (by omega), w64 (x := mx 1 (t - i) * (g + 6 * (i : Int))) (by omega) (by omega), w64 (x := szs g t i + mx 1 (t - i) * (g + 6 * (i : Int))) (by omega) (by omega)]
    exact ev_pos (by omega) ih
theorem iSeiz_ev (g t : Int) (n : Nat) (hg : 1 ≤ g ∧ g ≤ 1000) (ht : 1 ≤ t ∧ t ≤ 50) (hn : n ≤ 5) (h1 : 1 ≤ n) :
    Ev (fun k => impl_SeizingLength.f k g t n) (szs g t n, 0) := by
  have e := iSeiz_l0 g t n hg ht hn n 0 (by omega)
  simp only [impl_SeizingLength.f]
  refine ev_now (within_eq _ _ _) (ev_pos (by simpa using hg) (ev_now (within_eq _ _ _) (ev_pos (by simpa using ht) (ev_now (within_eq _ _ _) ?_))))
  rw [ofd1 (by omega)]
  refine ev_succ ?_; simp only [impl_SeizingLength.j0]
  exact ev_neg (by simp) e
theorem a2At_eq (l : List Int) (h : ∀ x ∈ l, 0 ≤ x ∧ x ≤ 255) (i : Nat) (n : Int) (hn : 1 ≤ n) : ∃ r, laws_a2At.f l i n = some r ∧ 0 ≤ r ∧ r < n := by
  unfold laws_a2At.f
  by_cases h1 : (i : Int) ≥ (l.length : Int)
  · rw [if_pos h1]; exact ⟨0, rfl, by omega, by omega⟩
  · have hb := h _ (rd_mem (xs := l) (i := (i : Int)) (by omega) (by omega))
    rw [if_neg h1, if_neg (by omega), if_pos (by omega), if_pos (by omega), if_neg (by omega), w64 (by omega) (by omega)]
    exact ⟨_, rfl, Int.tmod_nonneg _ hb.1, Int.tmod_lt_of_pos _ (by omega)⟩
theorem FnSplicing : laws_FnSplicing.Pure := by
  intro l0 l1 _ h0 w0 _ h1 w1
  refine Ev.rounds ?_
  simp only [laws_FnSplicing.f]
  have el : laws_a2Long.f l0 l1 = some (decide ((l0.length : Int) > 3000 ∨ (l1.length : Int) > 3000)) := by
    unfold laws_a2Long.f; by_cases h : (l0.length : Int) > 3000 <;> simp [h]
  refine ev_now el (ev_if (fun _ => Ev.now _) (fun hb => ?_))
  obtain ⟨a, b, eab, hc⟩ := A2Coils_ev l0 w0
  have hb1 : ∀ x ∈ l1, 0 ≤ x ∧ x ≤ 255 := (Sr.start w1).1
  have esb := a2Sum_l0 b hc.2.1 hc.2.2.2 b.length 0 0 (by omega) (by omega) (by omega)
  have esa := a2Sum_l0 a hc.1 (by have := hc.2.2.1; omega) a.length 0 0 (by omega) (by omega) (by omega)
  rw [List.drop_zero, Int.zero_add] at esa esb
  have hla := hc.2.2.1
  have hlb := hc.2.2.2
  have ei := iSpliced_ev a b (by omega) (by omega)
  rw [if_pos hc] at ei
  have tail : Ev (fun k => laws_FnSplicing.j0 k l1 false) true := by
    obtain ⟨r0, q0, p0, u0⟩ := a2At_eq l1 hb1 0 100 (by omega)
    obtain ⟨r1, q1, p1, u1⟩ := a2At_eq l1 hb1 1 20 (by omega)
    obtain ⟨r2, q2, p2, u2⟩ := a2At_eq l1 hb1 2 4 (by omega)
    obtain ⟨n, rfl⟩ := Int.eq_ofNat_of_zero_le p2
    refine ev_succ ?_; simp only [laws_FnSplicing.j0]
    refine ev_neg (by simp) (ev_now q0 (ev_now q1 (ev_now q2 ?_)))
    rw [w64 (x := 1 + r0) (by omega) (by omega), w64 (x := 1 + r1) (by omega) (by omega), w64 (x := 1 + (n : Int)) (by omega) (by omega), w64 (x := 1 + r1 + 1) (by omega) (by omega), w64 (x := 1 + (n : Int) + 1) (by omega) (by omega)]
    have e1 := iSeiz_ev (1 + r0) (1 + r1) (n + 1) (by omega) (by omega) (by omega) (by omega)
    have e2 := iSeiz_ev (1 + r0) (1 + r1 + 1) (n + 1) (by omega) (by omega) (by omega) (by omega)
    have e3 := iSeiz_ev (1 + r0) (1 + r1) (n + 2) (by omega) (by omega) (by omega) (by omega)
    have e4 := iSeiz_ev (1 + r0) (1 + r1) 1 (by omega) (by omega) (by omega) (by omega)
    have c1 : ((n + 1 : Nat) : Int) = 1 + (n : Int) := by omega
    have c2 : ((n + 2 : Nat) : Int) = 1 + (n : Int) + 1 := by omega
    rw [c1] at e1 e2; rw [c2] at e3
    have t1 := szs_lt (1 + r0) (1 + r1) n (by omega) (by omega)
    have t2 := term_bd (1 + r0) (1 + r1) (n + 1) (by omega) (by omega) (by omega)
    have t3 : szs (1 + r0) (1 + r1) (n + 2) = szs (1 + r0) (1 + r1) (n + 1) + term (1 + r0) (1 + r1) (n + 1) := rfl
    have t4 : szs (1 + r0) (1 + r1) 1 = 200 + (1 + r1) * (1 + r0) := by
      simp only [szs, term]
      have : mx 1 (1 + r1 - ((0 : Nat) : Int)) = 1 + r1 := by unfold mx; split <;> omega
      rw [this]; simp
    have t5 := szs_one (1 + r0) (1 + r1) (by omega) (by omega) n (by omega)
    have b4 := szs_bd (1 + r0) (1 + r1) 1 (by omega) (by omega) (by omega)
    refine Ev.bind e1 (Ev.bind e2 (Ev.bind e3 (Ev.bind (by simpa using e4) (ev_pos (by trivial) (ev_pos (by trivial) (ev_pos (by trivial) (ev_pos (by trivial) (ev_pos t1 (ev_pos (by first | omega | (dsimp only; omega)) (ev_pos ?_ (ev_some ?_))))))))))) 
    · rw [t4] at b4 ⊢
      rw [w64 (x := (1 + r1) * (1 + r0)) (by omega) (by omega), w64 (by omega) (by omega)]
    · exact ofd1 t5
  refine Ev.bind eab ?_
  simp only []
  refine Ev.bind ei (Ev.bind esb (Ev.bind esa ?_))
  by_cases hs : b.sum > a.sum
  · rw [if_pos hs]
    refine ev_neg ?_ (ev_neg (by simp) (ev_pos (by trivial) tail))
    simp only []; rw [ofd (p := b.sum ≤ a.sum) (by omega)]; simp
  · rw [if_neg hs]
    have hh := pref_hits (fun e => hit e b 0) (fun e => hit_bd e b 0 hc.2.1) a 0 (hit_hi _ b 0 hc.2.1 (by omega))
    have ht := tot_hits (pref 0 a) b 0 0
    refine ev_neg ?_ (ev_pos (by trivial) (ev_neg (by first | omega | (dsimp only; omega)) ?_))
    · simp only []; rw [ofd1 (p := b.sum ≤ a.sum) (by omega)]; simp
    · rw [ofd]
      · exact tail
      · simp only [mx]
        rcases hh with ⟨g0, g | ⟨rfl, g⟩⟩
        · split <;> omega
        · simp; omega

end Go.Proofs.Ytbfgdnogblagaaa.PureFnSplicing
namespace Go.Proofs.Ytbfgdnogblagaaa.Pure
open Go.Proofs.Ytbfgdnogblagaaa.HFnSplicing
theorem FnSplicing : laws_FnSplicing.Pure := PureFnSplicing.FnSplicing
end Go.Proofs.Ytbfgdnogblagaaa.Pure
