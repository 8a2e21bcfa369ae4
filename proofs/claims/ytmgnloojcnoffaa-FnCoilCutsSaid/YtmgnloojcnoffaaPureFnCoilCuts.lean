/- The program's function answers as the statement says. Conditions: none beyond the given statement's own. -/
import Derived.Test.YtmgnloojcnoffaaHCoilx6
import Derived.Test.YtmgnloojcnoffaaLib
import Derived.Test.YtmgnloojcnoffaaLibDraw
set_option linter.unusedVariables false
set_option linter.unusedSimpArgs false
namespace Go.Proofs.Ytmgnloojcnoffaa.PureFnCoilCuts
open Go.RowKit Go.Proofs.Ytmgnloojcnoffaa.HCoil Go.Proofs.YtmgnloojcnoffaaW.PrintWords Go.Proofs.YtmgnloojcnoffaaW.PrintLast Go.Proofs.YtmgnloojcnoffaaW.PrintMore Go.Proofs.Ytmgnloojcnoffaa.Lib
theorem within_eq (a b c : Int) : impl_within.f a b c = some (decide (b ≤ a ∧ a ≤ c)) := by
  unfold impl_within.f; by_cases h : a ≥ b <;> simp [h]

def okL (l : List Int) : Prop := ∀ x ∈ l, 1 ≤ x ∧ x ≤ 20000
instance (l : List Int) : Decidable (okL l) := inferInstanceAs (Decidable (∀ x ∈ l, 1 ≤ x ∧ x ≤ 20000))
def okC (a b : List Int) : Prop := okL a ∧ okL b ∧ a.length ≤ 5 ∧ b.length ≤ 7
instance (a b : List Int) : Decidable (okC a b) := inferInstanceAs (Decidable (okL a ∧ okL b ∧ a.length ≤ 5 ∧ b.length ≤ 7))
theorem okL_drop {l : List Int} {i : Nat} (h : i < l.length) : okL (l.drop i) ↔ (1 ≤ l[i] ∧ l[i] ≤ 20000) ∧ okL (l.drop (i + 1)) := all_drop h

theorem iValidCoils_l1 (x19 : List (List Int)) (x20 x21 : Int) (x25 : List Int) (hn : x25.length ≤ 35184372088832) (r : Bool)
    (hr : okL x25 → Ev (fun k => impl_ValidCoils.l0 k x19 x20 (wrap64 (x21 + 1))) r) (hr' : ¬ okL x25 → r = false) : ∀ (d i : Nat), i + d = x25.length → (okL (x25.drop i) → okL x25) →
    Ev (fun k => impl_ValidCoils.l1 k x19 x20 x21 x25 (x25.length : Int) (i : Int)) r
  | 0, i, hd, hi => by
    refine ev_succ ?_
    simp only [impl_ValidCoils.l1]
    refine ev_neg (by omega) ?_
    have : x25.drop i = [] := by simp; omega
    exact hr (hi (by rw [this]; simp [okL]))
  | d + 1, i, hd, hi => by
    refine ev_succ ?_
    simp only [impl_ValidCoils.l1]
    refine ev_pos (by omega) (ev_pos (by omega) (ev_pos (by omega) (ev_now (within_eq _ _ _) (ev_if (fun h => ?_) (fun h => ev_some ?_)))))
    · rw [w64s (by omega)]
      rw [rd_nat (by omega)] at h
      refine iValidCoils_l1 x19 x20 x21 x25 hn r hr hr' d (i + 1) (by omega) (fun g => hi ?_)
      rw [okL_drop (by omega)]; exact ⟨of_decide_eq_true h, g⟩
    · rw [rd_nat (by omega)] at h
      symm; apply hr'; intro g
      apply h; apply ofd1; exact g _ (List.getElem_mem _)
theorem iValidCoils_ev (a b : List Int) (ha : a.length ≤ 35184372088832) (hb : b.length ≤ 35184372088832) :
    Ev (fun k => impl_ValidCoils.f k a b) (decide (okC a b)) := by
  have e2 : Ev (fun k => impl_ValidCoils.l0 k [a, b] 2 2) true := by
    refine ev_succ ?_; simp only [impl_ValidCoils.l0]; exact ev_neg (by omega) (Ev.now _)
  have e1 : Ev (fun k => impl_ValidCoils.l0 k [a, b] 2 1) (decide (okL b)) := by
    refine ev_succ ?_; simp only [impl_ValidCoils.l0]
    refine ev_pos (by omega) (ev_pos (by omega) (ev_pos (by simp) ?_))
    refine iValidCoils_l1 [a, b] 2 1 b hb _ (fun h => ?_) (fun h => ofd h) b.length 0 (by omega) (fun h => by simpa using h)
    rw [ofd1 h, w64 (by omega) (by omega)]; exact e2
  have e0 : Ev (fun k => impl_ValidCoils.l0 k [a, b] 2 0) (decide (okL a ∧ okL b)) := by
    refine ev_succ ?_; simp only [impl_ValidCoils.l0]
    refine ev_pos (by omega) (ev_pos (by omega) (ev_pos (by simp) ?_))
    refine iValidCoils_l1 [a, b] 2 0 a ha _ (fun h => ?_) (fun h => ofd (fun g => h g.1)) a.length 0 (by omega) (fun h => by simpa using h)
    simp only [h, true_and]; rw [w64 (by omega) (by omega)]; exact e1
  have ej : Ev (fun k => impl_ValidCoils.j0 k a b true) false := by
    refine ev_succ ?_; simp only [impl_ValidCoils.j0]; exact ev_pos (by trivial) (Ev.now _)
  have ek : Ev (fun k => impl_ValidCoils.j0 k a b false) (decide (okL a ∧ okL b)) := by
    refine ev_succ ?_; simp only [impl_ValidCoils.j0]; exact ev_neg (by simp) (ev_now rfl e0)
  simp only [impl_ValidCoils.f]
  refine ev_if (fun h => ?_) (fun h => ?_)
  · rw [ofd (p := okC a b) (fun g => by have := g.2.2.1; omega)]; exact ej
  · by_cases h7 : (b.length : Int) > 7
    · rw [ofd1 h7, ofd (p := okC a b) (fun g => by have := g.2.2.2; omega)]; exact ej
    · rw [ofd h7]
      have : decide (okC a b) = decide (okL a ∧ okL b) := by
        apply decide_eq_decide.2; unfold okC; constructor
        · intro g; exact ⟨g.1, g.2.1⟩
        · intro g; exact ⟨g.1, g.2, by omega, by omega⟩
      rw [this]; exact ek

open Go.Proofs.Ytmgnloojcnoffaa.Cut hiding rd_mem
/-- What two leaves keep between two states, all cuts keep. -/
theorem wk_sim {σ τ : Type} (R : σ → τ → Prop) (G : List Int → List Int → Prop) (f1 : List Int → List Int → σ → σ) (f2 : List Int → List Int → τ → τ) (hl : ∀ left fr s t, G left fr → R s t → R (f1 left fr s) (f2 left fr t))
    (hs : ∀ left fr (k x : Int), G left fr → 0 ≤ k → k < left.length → 1 ≤ x → x ≤ rd left k → G (left.set k.toNat (rd left k - x)) (fr ++ [k])) :
    ∀ (ps : List Int), (∀ x ∈ ps, 1 ≤ x) → ∀ left fr s t, G left fr → R s t → R (wkG f1 ps left fr s) (wkG f2 ps left fr t) := by
  intro ps
  induction ps with
  | nil => intro _ left fr s t hg hr; exact hl left fr s t hg hr
  | cons x ps ih =>
    intro hp left fr s t hg hr
    have go : ∀ (m : Nat) (i : Int) (s : σ) (t : τ), 0 ≤ i → i + m ≤ left.length → R s t → R (rdsG (fun k s => if x ≤ rd left k then wkG f1 ps (left.set k.toNat (rd left k - x)) (fr ++ [k]) s else s) m i s) (rdsG (fun k s => if x ≤ rd left k then wkG f2 ps (left.set k.toNat (rd left k - x)) (fr ++ [k]) s else s) m i t) := by
      intro m
      induction m with
      | zero => intro i s t _ _ h; exact h
      | succ m ihm =>
        intro i s t h0 h1 h
        simp only [rdsG]
        refine ihm (i + 1) _ _ (by omega) (by omega) ?_
        by_cases c : x ≤ rd left i
        · rw [if_pos c, if_pos c]
          exact ih (fun y hy => hp y (by simp [hy])) _ _ _ _ (hs left fr i x hg h0 (by omega) (hp x (by simp)) c) h
        · rw [if_neg c, if_neg c]; exact h
    exact go left.length 0 s t (by omega) (by omega) hr
theorem okCut_of {a b : List Int} (h : okC a b) : okCut a b := ⟨⟨by have := h.2.2.1; omega, by have := h.2.2.2; omega⟩, fun x hx => by have := h.1 x hx; omega, fun x hx => by have := h.2.1 x hx; omega⟩
/-! the greatest rest -/
theorem gm_mx (l : List Int) : ∀ (m : Nat) (i r : Int), 0 ≤ r → gmx l m i r = mxl l m i r ∧ 0 ≤ gmx l m i r
  | 0, _, r, h => ⟨rfl, h⟩
  | m + 1, i, r, h => by
    have e : mx r (rd l i) = if r > rd l i then r else rd l i := by unfold mx; split <;> split <;> omega
    simp only [gmx, mxl]
    rw [← e]
    exact gm_mx l m (i + 1) _ (by unfold mx; split <;> omega)
theorem bg_ge (a b : List Int) : ∀ (m : Nat) (i n : Int), 0 ≤ n → 0 ≤ bg a b m i n
  | 0, _, n, h => h
  | m + 1, i, n, h => by simp only [bg]; exact bg_ge a b m (i + 1) _ (by split <;> omega)
def RL (s : Int) (t : List Int × Int × Int) : Prop := (t.2.1 < 0 → s = -1 ∧ t.2.2 = 0) ∧ (0 ≤ t.2.1 → s = t.2.2 ∧ 0 ≤ s)
theorem longest_eq (a b : List Int) (hb : ∀ x ∈ b, 1 ≤ x) : RL (wkG leafL b a [] (-1)) (wkG (lfS a) b a [] ([], -1, 0)) := by
  refine wk_sim RL (fun _ _ => True) leafL (lfS a) ?_ (fun _ _ _ _ _ _ _ _ _ => trivial) b hb a [] (-1) ([], -1, 0) trivial ⟨fun _ => ⟨rfl, rfl⟩, fun h => by simp at h⟩
  intro left fr s t _ h
  obtain ⟨t1, t2, t3⟩ := t
  have hn := bg_ge a left a.length 0 0 (by omega)
  have h1 := h.1
  have h2 := h.2
  simp only at h1 h2
  have e : 0 ≤ mx s 0 ∧ mx s 0 = t3 := by
    by_cases c : t2 < 0
    · have := h1 c; unfold mx; split <;> omega
    · have := h2 (by omega); unfold mx; split <;> omega
  have g := gm_mx left left.length 0 (mx s 0) e.1
  have f : 0 ≤ (lfS a left fr (t1, t2, t3)).2.1 := by
    simp only [lfS]
    split <;> omega
  refine ⟨fun c => by omega, fun _ => ?_⟩
  show gmx left left.length 0 (mx s 0) = mxl left left.length 0 t3 ∧ 0 ≤ gmx left left.length 0 (mx s 0)
  rw [g.1, e.2]
  exact ⟨rfl, by rw [← e.2, ← g.1]; exact g.2⟩
/-! the fewest coils -/
theorem hasI_iff (l : List Int) (v : Int) : hasI l v = true ↔ v ∈ l := by
  have go : ∀ (m : Nat) (i : Nat), i + m = l.length → (0 ≤ idxI l v m (i : Int) ↔ v ∈ l.drop i) := by
    intro m
    induction m with
    | zero => intro i hi; have e : l.drop i = [] := by simp; omega
              rw [e]; simp [idxI]
    | succ m ih =>
      intro i hi
      rw [List.drop_eq_getElem_cons (by omega)]
      simp only [idxI, List.mem_cons]
      rw [rd_nat (by omega)]
      by_cases c : v = l[i]
      · rw [if_pos c]; constructor
        · intro _; exact .inl c
        · intro _; omega
      · rw [if_neg c]
        have := ih (i + 1) (by omega)
        rw [← this]
        constructor
        · intro h; exact .inr h
        · intro h; rcases h with h | h
          · exact absurd h c
          · exact h
  have := go l.length 0 (by omega)
  simp only [hasI, decide_eq_true_eq]
  simpa using this
def GB (a left fr : List Int) : Prop := left.length = a.length ∧ ∀ i : Int, 0 ≤ i → i < a.length → (i ∈ fr → rd left i < rd a i) ∧ (i ∉ fr → rd left i = rd a i)
theorem GB_step {a left fr : List Int} {k x : Int} (h : GB a left fr) (h0 : 0 ≤ k) (h1 : k < left.length) (hx : 1 ≤ x) : GB a (left.set k.toNat (rd left k - x)) (fr ++ [k]) := by
  refine ⟨by simpa using h.1, fun i i0 i1 => ?_⟩
  have hi := h.2 i i0 i1
  have e : rd (left.set k.toNat (rd left k - x)) i = if i = k then rd left k - x else rd left i := by
    have hk : k.toNat < left.length := by omega
    by_cases c : i = k
    · subst c; simp [rd, List.getD_eq_getElem?_getD, List.getElem?_set, hk]
    · have hn : k.toNat ≠ i.toNat := by omega
      simp [rd, List.getD_eq_getElem?_getD, List.getElem?_set, hn, c]
  rw [e]
  by_cases c : i = k
  · subst c
    rw [if_pos rfl]
    refine ⟨fun _ => ?_, fun hn => absurd (by simp) hn⟩
    by_cases d : i ∈ fr
    · have := hi.1 d; omega
    · have := hi.2 d; omega
  · rw [if_neg (by omega)]
    refine ⟨fun hm => hi.1 ?_, fun hm => hi.2 ?_⟩
    · simpa [c] using hm
    · intro h; exact hm (by simp [h])
theorem beg_eq {a left fr : List Int} (h : GB a left fr) : begI fr a.length 0 0 = bg a left a.length 0 0 := by
  have go : ∀ (m : Nat) (i n : Int), 0 ≤ i → i + m ≤ a.length → begI fr m i n = bg a left m i n := by
    intro m
    induction m with
    | zero => intro i n _ _; rfl
    | succ m ih =>
      intro i n i0 i1
      have hi := h.2 i i0 (by omega)
      simp only [begI, bg]
      have e : (if hasI fr i = true then n + 1 else n) = if rd left i < rd a i then n + 1 else n := by
        by_cases c : i ∈ fr
        · rw [if_pos ((hasI_iff fr i).2 c), if_pos (hi.1 c)]
        · rw [if_neg (fun q => c ((hasI_iff fr i).1 q)), if_neg (by have := hi.2 c; omega)]
      rw [e]
      exact ih (i + 1) _ (by omega) (by omega)
  exact go a.length 0 0 (by omega) (by omega)
theorem best_eq (a b : List Int) (hb : ∀ x ∈ b, 1 ≤ x) : wkG (leafB a.length) b a [] ([], -1) = ((wkG (lfS a) b a [] ([], -1, 0)).1, (wkG (lfS a) b a [] ([], -1, 0)).2.1) := by
  refine wk_sim (fun s t => s = (t.1, t.2.1)) (GB a) (leafB a.length) (lfS a) ?_ (fun left fr k x hg h0 h1 hx _ => GB_step hg h0 h1 hx) b hb a [] ([], -1) ([], -1, 0) ⟨rfl, fun i i0 i1 => ⟨fun h => by simp at h, fun _ => rfl⟩⟩ rfl
  intro left fr s t hg h
  subst h
  simp only [leafB, lfS, beg_eq hg]
  by_cases c : t.2.1 < 0 ∨ bg a left a.length 0 0 < t.2.1
  · rw [if_pos c, if_pos c, if_pos c]
  · rw [if_neg c, if_neg c, if_neg c]
theorem wk_len {σ : Type} (P : σ → Prop) (N : Nat) (f : List Int → List Int → σ → σ) (hf : ∀ left fr s, fr.length ≤ N → P s → P (f left fr s)) : ∀ (ps left fr : List Int) (s : σ), fr.length + ps.length ≤ N → P s → P (wkG f ps left fr s) := by
  intro ps
  induction ps with
  | nil => intro left fr s h hp; exact hf left fr s (by simpa using h) hp
  | cons x ps ih =>
    intro left fr s h hp
    have go : ∀ (m : Nat) (i : Int) (s : σ), P s → P (rdsG (fun k s => if x ≤ rd left k then wkG f ps (left.set k.toNat (rd left k - x)) (fr ++ [k]) s else s) m i s) := by
      intro m
      induction m with
      | zero => intro i s h; exact h
      | succ m ihm =>
        intro i s hs
        simp only [rdsG]
        refine ihm _ _ ?_
        split
        · exact ih _ _ _ (by simp at h ⊢; omega) hs
        · exact hs
    exact go _ _ _ hp

def stB (left : List Int) (p : Int) (tight : Bool) (k b : Int) : Int := if p ≤ rd left k then (if b < 0 then k else if (tight && decide (rd left k < rd left b)) = true then k else b) else b
def bsF (left : List Int) (p : Int) (tight : Bool) : Nat → Nat → Int → Int
  | 0, _, b => b
  | d + 1, k, b => bsF left p tight d (k + 1) (stB left p tight (k : Int) b)
theorem stB_bd {left : List Int} {p : Int} {tight : Bool} {k : Nat} {b : Int} (h : -1 ≤ b ∧ b < (k : Int)) : -1 ≤ stB left p tight (k : Int) b ∧ stB left p tight (k : Int) b < ((k + 1 : Nat) : Int) := by
  unfold stB; split
  · split
    · omega
    · split <;> omega
  · omega
theorem bsF_bd (left : List Int) (p : Int) (tight : Bool) : ∀ (d k : Nat) (b : Int), -1 ≤ b ∧ b < (k : Int) → -1 ≤ bsF left p tight d k b ∧ bsF left p tight d k b < ((k + d : Nat) : Int)
  | 0, k, b, h => by simp only [bsF]; omega
  | d + 1, k, b, h => by
    have := bsF_bd left p tight d (k + 1) _ (stB_bd (left := left) (p := p) (tight := tight) h)
    simp only [bsF]; omega
def cutF (tight : Bool) : List Int → List Int → List Int → Option (List Int)
  | _, [], out => some out
  | left, p :: ps, out => if bsF left p tight left.length 0 (-1) < 0 then none else cutF tight (left.set (bsF left p tight left.length 0 (-1)).toNat (wrap64 (rd left (bsF left p tight left.length 0 (-1)) - p))) ps (out ++ [bsF left p tight left.length 0 (-1)])
theorem cutF_len (tight : Bool) : ∀ (ps left out o : List Int), cutF tight left ps out = some o → o.length = out.length + ps.length
  | [], left, out, o, h => by simp only [cutF, Option.some.injEq] at h; subst h; simp
  | p :: ps, left, out, o, h => by
    simp only [cutF] at h
    split at h
    · cases h
    · have := cutF_len tight ps _ _ o h
      simp at this ⊢; omega
def resI : Option (List Int) → List Int × Int
  | some o => (o, 0)
  | none => ([], 5)

def okF (a f : List Int) : Prop := ∀ x ∈ f, 0 ≤ x ∧ x ≤ (a.length : Int) - 1
instance (a f : List Int) : Decidable (okF a f) := inferInstanceAs (Decidable (∀ x ∈ f, 0 ≤ x ∧ x ≤ (a.length : Int) - 1))
theorem okF_drop {a l : List Int} {i : Nat} (h : i < l.length) : okF a (l.drop i) ↔ (0 ≤ l[i] ∧ l[i] ≤ (a.length : Int) - 1) ∧ okF a (l.drop (i + 1)) := all_drop h
def codeC (a b f : List Int) : Int := if okC a b then (if okF a f ∧ f.length = b.length then 0 else 2) else 1
theorem codeC_zero {a b f : List Int} (h : codeC a b f = 0) : okC a b ∧ okF a f ∧ f.length = b.length := by
  unfold codeC at h; split at h
  · split at h
    · exact ⟨‹_›, ‹_›⟩
    · omega
  · omega
theorem iCode_l0 (x0 x18 : List Int) (ha : x0.length ≤ 35184372088832) (hn : x18.length ≤ 35184372088832) : ∀ (d i : Nat), i + d = x18.length → (okF x0 (x18.drop i) → okF x0 x18) →
    Ev (fun k => impl_cutCode.l0 k x0 x18 (x18.length : Int) (i : Int)) (if okF x0 x18 then 0 else 2)
  | 0, i, hd, hi => by
    refine ev_succ ?_
    simp only [impl_cutCode.l0]
    have e : x18.drop i = [] := by simp; omega
    have g := hi (by rw [e]; simp [okF])
    refine ev_neg (by omega) (ev_some ?_)
    rw [if_pos g]
  | d + 1, i, hd, hi => by
    refine ev_succ ?_
    simp only [impl_cutCode.l0]
    rw [rd_nat (by omega), w64s (by omega), w64 (x := (x0.length : Int) - 1) (by omega) (by omega)]
    refine ev_pos (by omega) (ev_pos (by omega) (ev_pos (by omega) (ev_now (within_eq _ _ _) (ev_if (fun h => ?_) (fun h => ev_some ?_)))))
    · refine iCode_l0 x0 x18 ha hn d (i + 1) (by omega) (fun g => hi ?_)
      rw [okF_drop (by omega)]; exact ⟨of_decide_eq_true h, g⟩
    · rw [if_neg]; intro g; apply h; apply ofd1; exact g _ (List.getElem_mem _)
theorem iCode_ev (a b f : List Int) (ha : a.length ≤ 35184372088832) (hb : b.length ≤ 35184372088832) (hf : f.length ≤ 35184372088832) :
    Ev (fun k => impl_cutCode.f k a b f) (codeC a b f) := by
  simp only [impl_cutCode.f]
  refine Ev.bind (iValidCoils_ev a b ha hb) (ev_if (fun h => ?_) (fun h => ev_some ?_))
  · unfold codeC; rw [if_pos (of_decide_eq_true h)]
    refine ev_if (fun g => ?_) (fun g => ev_some ?_)
    · have := iCode_l0 a f ha hf f.length 0 (by omega) (by simp)
      have e : (okF a f ∧ f.length = b.length) = okF a f := by simp; intro _; omega
      simp only [e]; exact this
    · rw [if_neg (fun q => g (by omega))]
  · unfold codeC; rw [if_neg (fun g => h (ofd1 g))]
def faultF : List Int → List Int → List Int → Int → Int × List Int
  | left, p :: ps, f :: fs, i => if rd left f < p then (i, left) else faultF (left.set f.toNat (rd left f - p)) ps fs (i + 1)
  | left, _, _, _ => (-1, left)
def subF : List Int → List Int → List Int → List Int
  | left, p :: ps, f :: fs => subF (left.set f.toNat (rd left f - p)) ps fs
  | left, _, _ => left
theorem rd_set (l : List Int) (f g : Int) (v : Int) (h0 : 0 ≤ f) (h1 : f < l.length) (hg : 0 ≤ g) : rd (l.set f.toNat v) g = if g = f then v else rd l g := by
  obtain ⟨m, rfl⟩ := Int.eq_ofNat_of_zero_le h0
  obtain ⟨n, rfl⟩ := Int.eq_ofNat_of_zero_le hg
  have hm : m < l.length := by omega
  simp only [rd, Int.toNat_natCast, List.getD_eq_getElem?_getD, List.getElem?_set]
  by_cases e : m = n
  · subst e; simp [hm]
  · have : ¬ ((n : Int) = (m : Int)) := by omega
    simp [e, this]
theorem faultF_fst (ps fs left : List Int) (i : Int) (h : 0 ≤ i) : (faultF left ps fs i).1 = -1 ∨ 0 ≤ (faultF left ps fs i).1 := by
  induction ps generalizing fs left i with
  | nil => left; simp [faultF]
  | cons p ps ih =>
    cases fs with
    | nil => left; simp [faultF]
    | cons f fs =>
      simp only [faultF]; split
      · right; exact h
      · exact ih _ _ _ (by omega)
theorem okL_rd {x0 : List Int} (h : okL x0) : ∀ g : Int, 0 ≤ g → g < x0.length → 0 ≤ rd x0 g ∧ rd x0 g ≤ 20000 := by
  intro g g0 g1; have := h _ (rd_mem g0 g1); omega

theorem iCutFault_l0 (x22 x2 : List Int) (h1 : okL x22) (hl : x22.length ≤ 7) (he : x2.length = x22.length) : ∀ (d i : Nat) (x9 : List Int), i + d = x22.length → okF x9 x2 → (∀ g : Int, 0 ≤ g → g < x9.length → 0 ≤ rd x9 g ∧ rd x9 g ≤ 20000) →
    Ev (fun k => impl_CutFault.l0 k x2 x9 x22 (x22.length : Int) (i : Int)) ((faultF x9 (x22.drop i) (x2.drop i) i).1, 0)
  | 0, i, x9, hd, hf, hx => by
    refine ev_succ ?_
    simp only [impl_CutFault.l0]
    have e : x22.drop i = [] := by simp; omega
    refine ev_neg (by omega) (ev_some ?_)
    rw [e]; rfl
  | d + 1, i, x9, hd, hf, hx => by
    have hi : i < x22.length := by omega
    have hi2 : i < x2.length := by omega
    have hp := h1 _ (List.getElem_mem hi)
    have hq := hf _ (List.getElem_mem hi2)
    have hr := hx x2[i] hq.1 (by omega)
    refine ev_succ ?_
    simp only [impl_CutFault.l0]
    rw [rd_nat hi2, rd_nat hi, w64s (by omega), w64 (x := rd x9 x2[i] - x22[i]) (by omega) (by omega), List.drop_eq_getElem_cons hi, List.drop_eq_getElem_cons hi2]
    simp only [faultF]
    refine ev_pos (by omega) (ev_pos (by omega) (ev_pos (by omega) (ev_pos (by omega) (ev_pos (by omega) (ev_pos (by omega) (ev_now rfl ?_))))))
    rw [rd_set _ _ _ _ hq.1 (by omega) hq.1, if_pos rfl]
    refine ev_if (fun h => ev_some ?_) (fun h => ?_)
    · rw [if_pos (by omega)]
    · rw [if_neg (by omega)]
      refine iCutFault_l0 x22 x2 h1 hl he d (i + 1) _ (by omega) (by unfold okF at hf ⊢; simpa using hf) (fun g g0 g1 => ?_)
      rw [List.length_set] at g1
      rw [rd_set _ _ _ _ hq.1 (by omega) g0]
      split
      · omega
      · exact hx g g0 g1

theorem subF_len (ps fs left : List Int) : (subF left ps fs).length = left.length := by
  induction ps generalizing fs left with
  | nil => simp [subF]
  | cons p ps ih =>
    cases fs with
    | nil => simp [subF]
    | cons f fs => simp [subF, ih]
theorem subF_le (a ps fs left : List Int) (hp : okL ps) (hf : okF a fs) (hl : left.length = a.length) : ∀ g : Int, 0 ≤ g → g < a.length → rd (subF left ps fs) g ≤ rd left g := by
  induction ps generalizing fs left with
  | nil => intro g _ _; simp [subF]
  | cons p ps ih =>
    cases fs with
    | nil => intro g _ _; simp [subF]
    | cons f fs =>
      intro g g0 g1
      have h1 := hp p (by simp)
      have h2 := hf f (by simp)
      simp only [subF]
      have := ih fs (left.set f.toNat (rd left f - p)) (fun x hx => hp x (by simp [hx])) (fun x hx => hf x (by simp [hx])) (by simpa using hl) g g0 g1
      rw [rd_set _ _ _ _ h2.1 (by omega) g0] at this
      split at this
      · subst_vars; omega
      · exact this
theorem subF_ge (a ps fs left : List Int) (hp : okL ps) (hf : okF a fs) (hl : left.length = a.length) (B : Int) : (∀ g : Int, 0 ≤ g → g < a.length → B ≤ rd left g) → ∀ g : Int, 0 ≤ g → g < a.length → B - 20000 * ps.length ≤ rd (subF left ps fs) g := by
  induction ps generalizing fs left B with
  | nil => intro h g g0 g1; simpa [subF] using h g g0 g1
  | cons p ps ih =>
    cases fs with
    | nil => intro h g g0 g1; have := h g g0 g1; simp only [subF, List.length_cons]; omega
    | cons f fs =>
      intro h g g0 g1
      have h1 := hp p (by simp)
      have h2 := hf f (by simp)
      simp only [subF]
      have := ih fs (left.set f.toNat (rd left f - p)) (fun x hx => hp x (by simp [hx])) (fun x hx => hf x (by simp [hx])) (by simpa using hl) (B - 20000) ?_ g g0 g1
      · simp only [List.length_cons]; omega
      · intro q q0 q1
        rw [rd_set _ _ _ _ h2.1 (by omega) q0]
        split
        · have := h f h2.1 (by omega); omega
        · have := h q q0 q1; omega
theorem fault_sub (a ps fs left : List Int) (i : Int) (hi : 0 ≤ i) (hp : okL ps) (hf : okF a fs) (hl : left.length = a.length) (h0 : ∀ g : Int, 0 ≤ g → g < a.length → 0 ≤ rd left g) :
    ((faultF left ps fs i).1 = -1 ∧ (faultF left ps fs i).2 = subF left ps fs ∧ ∀ g : Int, 0 ≤ g → g < a.length → 0 ≤ rd (subF left ps fs) g) ∨
    (0 ≤ (faultF left ps fs i).1 ∧ ∃ g : Int, 0 ≤ g ∧ g < a.length ∧ rd (subF left ps fs) g < 0) := by
  induction ps generalizing fs left i with
  | nil => left; simpa [faultF, subF] using h0
  | cons p ps ih =>
    cases fs with
    | nil => left; simpa [faultF, subF] using h0
    | cons f fs =>
      have h1 := hp p (by simp)
      have h2 := hf f (by simp)
      simp only [faultF, subF]
      by_cases h : rd left f < p
      · rw [if_pos h]; right
        refine ⟨hi, f, h2.1, by omega, ?_⟩
        have := subF_le a ps fs (left.set f.toNat (rd left f - p)) (fun x hx => hp x (by simp [hx])) (fun x hx => hf x (by simp [hx])) (by simpa using hl) f h2.1 (by omega)
        rw [rd_set _ _ _ _ h2.1 (by omega) h2.1, if_pos rfl] at this
        omega
      · rw [if_neg h]
        refine ih fs _ (i + 1) (by omega) (fun x hx => hp x (by simp [hx])) (fun x hx => hf x (by simp [hx])) (by simpa using hl) ?_
        intro q q0 q1
        rw [rd_set _ _ _ _ h2.1 (by omega) q0]
        split
        · omega
        · exact h0 q q0 q1
theorem iRests_l1 (x9 : List Int) (hn : x9.length ≤ 5) : ∀ (d i : Nat), i + d = x9.length → (∀ j : Nat, j < i → 0 ≤ rd x9 (j : Int)) →
    Ev (fun k => impl_RestsAfter.l1 k x9 x9 (x9.length : Int) (i : Int)) (if ∀ j : Nat, j < x9.length → 0 ≤ rd x9 (j : Int) then (x9, 0) else ([], 5))
  | 0, i, hd, hi => by
    refine ev_succ ?_
    simp only [impl_RestsAfter.l1]
    refine ev_neg (by omega) (ev_some ?_)
    rw [if_pos (fun j hj => hi j (by omega))]
  | d + 1, i, hd, hi => by
    refine ev_succ ?_
    simp only [impl_RestsAfter.l1]
    rw [w64s (by omega)]
    refine ev_pos (by omega) (ev_pos (by omega) (ev_pos (by omega) (ev_if (fun h => ev_some ?_) (fun h => ?_))))
    · rw [if_neg]; intro g; have := g i (by omega); omega
    · refine iRests_l1 x9 hn d (i + 1) (by omega) (fun j hj => ?_)
      by_cases e : j = i
      · subst e; omega
      · exact hi j (by omega)
theorem iRests_l0 (a x24 x2 : List Int) (ha : a.length ≤ 5) (h1 : okL x24) (hl : x24.length ≤ 7) (he : x2.length = x24.length) (hf : okF a x2) (r : List Int × Int) : ∀ (d i : Nat) (x9 : List Int), i + d = x24.length → x9.length = a.length →
    (∀ g : Int, 0 ≤ g → g < a.length → -20000 * (i : Int) ≤ rd x9 g ∧ rd x9 g ≤ 20000) →
    Ev (fun k => impl_RestsAfter.l1 k (subF x9 (x24.drop i) (x2.drop i)) (subF x9 (x24.drop i) (x2.drop i)) (a.length : Int) 0) r →
    Ev (fun k => impl_RestsAfter.l0 k x2 x9 x24 (x24.length : Int) (i : Int)) r
  | 0, i, x9, hd, h9, hx, hr => by
    refine ev_succ ?_
    simp only [impl_RestsAfter.l0]
    have e : x24.drop i = [] := by simp; omega
    rw [e] at hr; simp only [subF] at hr
    rw [h9]
    exact ev_neg (by omega) hr
  | d + 1, i, x9, hd, h9, hx, hr => by
    have hi : i < x24.length := by omega
    have hi2 : i < x2.length := by omega
    have hp := h1 _ (List.getElem_mem hi)
    have hq := hf _ (List.getElem_mem hi2)
    have hv := hx x2[i] hq.1 (by omega)
    refine ev_succ ?_
    simp only [impl_RestsAfter.l0]
    rw [List.drop_eq_getElem_cons hi, List.drop_eq_getElem_cons hi2] at hr
    simp only [subF] at hr
    rw [rd_nat hi2, rd_nat hi, w64s (by omega), w64 (x := rd x9 x2[i] - x24[i]) (by omega) (by omega)]
    refine ev_pos (by omega) (ev_pos (by omega) (ev_pos (by omega) (ev_pos (by omega) (ev_pos (by omega) (ev_pos (by omega) ?_)))))
    refine iRests_l0 a x24 x2 ha h1 hl he hf r d (i + 1) _ (by omega) (by simpa using h9) (fun g g0 g1 => ?_) hr
    rw [rd_set _ _ _ _ hq.1 (by omega) g0]
    split
    · omega
    · have := hx g g0 g1; omega

/-- A cut that can be made: each piece from a coil with enough left. -/
def PathC : List Int → List Int → List Int → Prop
  | _, [], [] => True
  | left, x :: ps, f :: fs => (0 ≤ f ∧ f < left.length) ∧ x ≤ rd left f ∧ PathC (left.set f.toNat (rd left f - x)) ps fs
  | _, _, _ => False
theorem rds_keep {σ : Type} {P : σ → Prop} {f : Int → σ → σ} : ∀ (m : Nat) (i : Int) (s : σ), (∀ j s, i ≤ j → j < i + m → P s → P (f j s)) → P s → P (rdsG f m i s)
  | 0, _, _, _, h => h
  | m + 1, i, s, h, hs => by
    rw [rdsG]
    exact rds_keep m (i + 1) _ (fun j s h1 h2 => h j s (by omega) (by omega)) (h i s (by omega) (by omega) hs)
theorem rds_hit {σ : Type} {P : σ → Prop} {f : Int → σ → σ} (h : ∀ j s, P s → P (f j s)) (g : Int) (hg : ∀ s, P (f g s)) : ∀ (m : Nat) (i : Int) (s : σ), i ≤ g → g < i + m → P (rdsG f m i s)
  | 0, i, _, h1, h2 => by omega
  | m + 1, i, s, h1, h2 => by
    rw [rdsG]
    by_cases e : i = g
    · subst e
      exact rds_keep m (i + 1) _ (fun j s _ _ => h j s) (hg s)
    · exact rds_hit h g hg m (i + 1) _ (by omega) (by omega)
section
variable {σ : Type} {leaf : List Int → List Int → σ → σ}
theorem wk_keep {P : σ → Prop} (hl : ∀ left fr s, P s → P (leaf left fr s)) : ∀ (ps left fr : List Int) (s : σ), P s → P (wkG leaf ps left fr s)
  | [], left, fr, s, h => by rw [wkG]; exact hl left fr s h
  | x :: ps, left, fr, s, h => by
    rw [wkG]
    refine rds_keep _ _ _ (fun j s _ _ hs => ?_) h
    split
    · exact wk_keep hl ps _ _ _ hs
    · exact hs
theorem wk_hit {P : σ → Prop} (hl : ∀ left fr s, P s → P (leaf left fr s)) : ∀ (ps left fs fr : List Int) (s : σ), PathC left ps fs → (∀ s, P (leaf (subF left ps fs) (fr ++ fs) s)) → P (wkG leaf ps left fr s)
  | [], left, [], fr, s, _, hh => by
    rw [wkG]
    have := hh s
    rw [List.append_nil] at this
    exact this
  | [], left, f :: fs, fr, s, hp, _ => hp.elim
  | x :: ps, left, [], fr, s, hp, _ => hp.elim
  | x :: ps, left, f :: fs, fr, s, hp, hh => by
    obtain ⟨hf, hx, hp⟩ := hp
    rw [wkG]
    refine rds_hit (fun j s hs => ?_) f (fun s => ?_) _ _ _ hf.1 (by omega)
    · split
      · exact wk_keep hl ps _ _ _ hs
      · exact hs
    · rw [if_pos hx]
      refine wk_hit hl ps _ fs (fr ++ [f]) s hp (fun s => ?_)
      rw [List.append_assoc]
      exact hh s
theorem wk_path {Q : σ → Prop} : ∀ (ps left fr : List Int) (s : σ), (∀ fs s, PathC left ps fs → Q s → Q (leaf (subF left ps fs) (fr ++ fs) s)) → Q s → Q (wkG leaf ps left fr s)
  | [], left, fr, s, h, hs => by
    rw [wkG]
    have := h [] s trivial hs
    rw [List.append_nil] at this
    exact this
  | x :: ps, left, fr, s, h, hs => by
    rw [wkG]
    refine rds_keep _ _ _ (fun j s h0 h1 hs => ?_) hs
    split
    · rename_i hx
      refine wk_path ps _ _ _ (fun fs s hp hs => ?_) hs
      have := h (j :: fs) s ⟨⟨by omega, by omega⟩, hx, hp⟩ hs
      rw [List.append_assoc]
      exact this
    · exact hs
end
theorem path_len : ∀ (ps left fs : List Int), PathC left ps fs → fs.length = ps.length
  | [], _, [], _ => rfl
  | [], _, _ :: _, h => h.elim
  | _ :: _, _, [], h => h.elim
  | x :: ps, left, f :: fs, h => by simp [path_len ps _ fs h.2.2]
theorem path_okF (a : List Int) : ∀ (ps left fs : List Int), left.length = a.length → PathC left ps fs → okF a fs
  | [], _, [], _, _ => by intro x hx; cases hx
  | [], _, _ :: _, _, h => h.elim
  | _ :: _, _, [], _, h => h.elim
  | x :: ps, left, f :: fs, hl, h => by
    intro y hy
    rcases List.mem_cons.mp hy with rfl | hy
    · have := h.1; omega
    · exact path_okF a ps _ fs (by simpa using hl) h.2.2 y hy
theorem path_ge : ∀ (ps left fs : List Int), (∀ g : Int, 0 ≤ g → g < left.length → 0 ≤ rd left g) → PathC left ps fs → ∀ g : Int, 0 ≤ g → g < left.length → 0 ≤ rd (subF left ps fs) g
  | [], _, [], h0, _ => by simpa [subF] using h0
  | [], _, _ :: _, _, h => h.elim
  | _ :: _, _, [], _, h => h.elim
  | x :: ps, left, f :: fs, h0, h => by
    intro g g0 g1
    refine path_ge ps _ fs (fun g g0 g1 => ?_) h.2.2 g g0 (by simpa using g1)
    rw [rd_set left f g _ h.1.1 h.1.2 g0]
    split
    · have := h.2.1; omega
    · exact h0 g g0 (by simpa using g1)
theorem sum_set : ∀ (l : List Int) (n : Nat) (v : Int) (h : n < l.length), (l.set n v).sum = l.sum - l[n] + v
  | [], n, v, h => by simp at h
  | x :: l, 0, v, h => by simp; omega
  | x :: l, n + 1, v, h => by
    have := sum_set l n v (by simpa using h)
    simp only [List.set_cons_succ, List.sum_cons, List.getElem_cons_succ]
    omega
theorem path_sum : ∀ (ps left fs : List Int), PathC left ps fs → (subF left ps fs).sum = left.sum - ps.sum
  | [], _, [], _ => by simp [subF]
  | [], _, _ :: _, h => h.elim
  | _ :: _, _, [], h => h.elim
  | x :: ps, left, f :: fs, h => by
    have ih := path_sum ps _ fs h.2.2
    have hf := h.1
    have e : rd left f = left[f.toNat]'(by omega) := by
      have : f.toNat < left.length := by omega
      simp [rd, List.getD_eq_getElem?_getD, this]
    rw [sum_set left f.toNat _ (by omega), ← e] at ih
    simp only [subF, List.sum_cons]
    omega
theorem path_GB (a : List Int) : ∀ (ps left fs fr : List Int), okL ps → GB a left fr → PathC left ps fs → GB a (subF left ps fs) (fr ++ fs)
  | [], _, [], _, _, h, _ => by simpa [subF] using h
  | [], _, _ :: _, _, _, _, h => h.elim
  | _ :: _, _, [], _, _, _, h => h.elim
  | x :: ps, left, f :: fs, fr, ho, h, hp => by
    have := path_GB a ps _ fs (fr ++ [f]) (fun y hy => ho y (by simp [hy])) (GB_step h hp.1.1 hp.1.2 (ho x (by simp)).1) hp.2.2
    rw [List.append_assoc] at this
    exact this
theorem bsF_ge (left : List Int) (p : Int) (tight : Bool) : ∀ (d k : Nat) (b : Int), (b < 0 ∨ p ≤ rd left b) → bsF left p tight d k b < 0 ∨ p ≤ rd left (bsF left p tight d k b)
  | 0, k, b, h => h
  | d + 1, k, b, h => by
    simp only [bsF]
    refine bsF_ge left p tight d (k + 1) _ ?_
    unfold stB
    split
    · rename_i hp
      split
      · exact .inr hp
      · split
        · exact .inr hp
        · exact h
    · exact h
theorem cutF_path (tight : Bool) : ∀ (ps left out o : List Int), okL ps → (∀ g : Int, 0 ≤ g → g < left.length → 0 ≤ rd left g ∧ rd left g ≤ 20000) → cutF tight left ps out = some o → ∃ fs, o = out ++ fs ∧ PathC left ps fs
  | [], left, out, o, _, _, h => by
    simp only [cutF, Option.some.injEq] at h
    exact ⟨[], by simp [h], trivial⟩
  | p :: ps, left, out, o, hp, hx, h => by
    simp only [cutF] at h
    have bd := bsF_bd left p tight left.length 0 (-1) (by omega)
    have bg := bsF_ge left p tight left.length 0 (-1) (.inl (by decide))
    generalize bsF left p tight left.length 0 (-1) = b at *
    split at h
    · cases h
    · rename_i hb
      have p1 := hp p (by simp)
      have b1 := hx b (by omega) (by omega)
      have hge : p ≤ rd left b := by rcases bg with h | h; exact absurd h hb; exact h
      rw [w64 (x := rd left b - p) (by omega) (by omega)] at h
      obtain ⟨fs, e, hq⟩ := cutF_path tight ps _ (out ++ [b]) o (fun y hy => hp y (by simp [hy])) (fun g g0 g1 => by
        rw [rd_set left b g _ (by omega) (by omega) g0]
        split
        · omega
        · exact hx g g0 (by simpa using g1)) h
      exact ⟨b :: fs, by rw [e, List.append_assoc]; rfl, ⟨by omega, by omega⟩, hge, hq⟩
theorem gmx_ge (l : List Int) : ∀ (m : Nat) (i r : Int), r ≤ gmx l m i r ∧ ∀ g : Int, i ≤ g → g < i + m → rd l g ≤ gmx l m i r
  | 0, i, r => ⟨Int.le_refl _, fun g h1 h2 => by omega⟩
  | m + 1, i, r => by
    have ih := gmx_ge l m (i + 1) (mx r (rd l i))
    have hm : r ≤ mx r (rd l i) ∧ rd l i ≤ mx r (rd l i) := by unfold mx; split <;> omega
    rw [gmx]
    refine ⟨Int.le_trans hm.1 ih.1, fun g h1 h2 => ?_⟩
    by_cases e : g = i
    · subst e; exact Int.le_trans hm.2 ih.1
    · exact ih.2 g (by omega) (by omega)
theorem leafL_ge (left fr : List Int) (s : Int) : s ≤ leafL left fr s ∧ 0 ≤ leafL left fr s ∧ ∀ g : Int, 0 ≤ g → g < left.length → rd left g ≤ leafL left fr s := by
  have h := gmx_ge left left.length 0 (mx s 0)
  have hm : s ≤ mx s 0 ∧ 0 ≤ mx s 0 := by unfold mx; split <;> omega
  unfold leafL
  exact ⟨Int.le_trans hm.1 h.1, Int.le_trans hm.2 h.1, fun g g0 g1 => h.2 g g0 (by omega)⟩
theorem begI_ge (fr : List Int) : ∀ (m : Nat) (i n : Int), 0 ≤ n → 0 ≤ begI fr m i n
  | 0, _, _, h => h
  | m + 1, i, n, h => by
    rw [begI]
    exact begI_ge fr m (i + 1) _ (by split <;> omega)
/-- The greatest rest over all cuts, and the cut that begins the fewest coils. -/
theorem longest_hit {a b fs : List Int} (h : PathC a b fs) : 0 ≤ wkG leafL b a [] (-1) ∧ ∀ g : Int, 0 ≤ g → g < a.length → rd (subF a b fs) g ≤ wkG leafL b a [] (-1) := by
  refine ⟨wk_hit (P := fun s => 0 ≤ s) (fun left fr s _ => (leafL_ge left fr s).2.1) b a fs [] (-1) h (fun s => (leafL_ge _ _ s).2.1), fun g g0 g1 => ?_⟩
  refine wk_hit (P := fun s => rd (subF a b fs) g ≤ s) (fun left fr s hs => Int.le_trans hs (leafL_ge left fr s).1) b a fs [] (-1) h (fun s => (leafL_ge _ _ s).2.2 g g0 ?_)
  rw [subF_len]; exact g1
theorem longest_none {a b : List Int} (h : ∀ fs, ¬ PathC a b fs) : wkG leafL b a [] (-1) = -1 :=
  wk_path (Q := fun s => s = -1) b a [] (-1) (fun fs _ hp _ => absurd hp (h fs)) rfl
theorem best_hit {a b fs : List Int} (N : Nat) (h : PathC a b fs) : 0 ≤ (wkG (leafB N) b a [] ([], -1)).2 ∧ (wkG (leafB N) b a [] ([], -1)).2 ≤ begI fs N 0 0 := by
  refine wk_hit (P := fun s : List Int × Int => 0 ≤ s.2 ∧ s.2 ≤ begI fs N 0 0) (fun left fr s hs => ?_) b a fs [] ([], -1) h (fun s => ?_)
  · have := begI_ge fr N 0 0 (by omega)
    unfold leafB
    split
    · rename_i c
      show 0 ≤ begI fr N 0 0 ∧ begI fr N 0 0 ≤ _
      omega
    · exact hs
  · have := begI_ge fs N 0 0 (by omega)
    unfold leafB
    rw [List.nil_append]
    split
    · show 0 ≤ begI fs N 0 0 ∧ begI fs N 0 0 ≤ _
      omega
    · rename_i c
      omega
theorem best_is {a b : List Int} (N : Nat) : (wkG (leafB N) b a [] ([], -1)).2 < 0 ∨ (PathC a b (wkG (leafB N) b a [] ([], -1)).1 ∧ (wkG (leafB N) b a [] ([], -1)).2 = begI (wkG (leafB N) b a [] ([], -1)).1 N 0 0) := by
  refine wk_path (Q := fun s : List Int × Int => s.2 < 0 ∨ (PathC a b s.1 ∧ s.2 = begI s.1 N 0 0)) b a [] ([], -1) (fun fs s hp hs => ?_) (.inl (by decide))
  unfold leafB
  rw [List.nil_append]
  split
  · exact .inr ⟨hp, rfl⟩
  · exact hs

theorem next_ev (c : List Int) (at_ sd : Int) (m : Nat) (h : Sr c at_ (m + 1)) :
    ∃ r a' s', spec_l00Src_next.f c at_ sd = some (r, a', s') ∧ 0 ≤ r ∧ r ≤ 255 ∧ Sr c a' m := by
  obtain ⟨h1, h2, h3⟩ := h
  have e : wrap64 (at_ + 1) = at_ + 1 := w64 (by omega) (by omega)
  have hs : Sr c (at_ + 1) m := ⟨h1, by omega, by omega⟩
  unfold spec_l00Src_next.f
  rw [e]
  by_cases hl : at_ < (c.length : Int)
  · rw [if_pos hl, if_pos h2, if_pos (by omega)]
    have := h1 _ (rd_mem h2 hl)
    rw [w64 (by omega) (by omega)]
    exact ⟨_, _, _, rfl, this.1, this.2, hs⟩
  · rw [if_neg hl, if_neg (by omega)]
    have := and255 (IntKind.u64.wrap (IntKind.u64.wrap (sd * 6364136223846793005)) + 1442695040888963407)
    refine ⟨_, _, _, rfl, ?_, ?_, hs⟩
    · rw [w64 (by omega) (by omega)]; exact this.1
    · rw [w64 (by omega) (by omega)]; exact this.2
theorem pick_ev (c : List Int) (at_ sd n : Int) (m : Nat) (h : Sr c at_ (m + 2)) :
    ∃ r a' s', spec_l00Src_pick.f c at_ sd n = some (r, a', s') ∧ 0 ≤ r ∧ (n ≤ 1 ∧ r = 0 ∨ 1 < n ∧ r < n) ∧ Sr c a' m := by
  unfold spec_l00Src_pick.f
  by_cases h1 : n ≤ 1
  · rw [if_pos h1]; exact ⟨_, _, _, rfl, by omega, .inl ⟨h1, rfl⟩, h.less (by omega)⟩
  · rw [if_neg h1]
    obtain ⟨r, a', s', e, r0, r1, hs⟩ := next_ev c at_ sd (m + 1) h
    rw [e]; simp only [Option.bind_some]
    by_cases h2 : n > 200
    · rw [if_pos h2]
      obtain ⟨q, b', t', e', q0, q1, hs'⟩ := next_ev c a' s' m hs
      rw [e']; simp only [Option.bind_some]
      rw [if_neg (by omega), w64 (x := r * 256) (by omega) (by omega), w64 (x := r * 256 + q) (by omega) (by omega)]
      exact ⟨_, _, _, rfl, Int.tmod_nonneg _ (by omega), .inr ⟨by omega, Int.tmod_lt_of_pos _ (by omega)⟩, hs'⟩
    · rw [if_neg h2, if_neg (by omega)]
      exact ⟨_, _, _, rfl, Int.tmod_nonneg _ (by omega), .inr ⟨by omega, Int.tmod_lt_of_pos _ (by omega)⟩, hs.less (by omega)⟩

theorem A2Coils_l1 (c x5 : List Int) : ∀ (d : Nat) (x7 : List Int) (at_ sd : Int), Sr c at_ (2 * d) → okL x7 → x7.length + d ≤ 100 →
    ∃ b, Ev (fun k => spec_A2Coils.l1 k x5 x7 (d : Int) c at_ sd) (x5, b) ∧ okL b ∧ b.length = x7.length + d
  | 0, x7, at_, sd, hs, ho, hl => by
    refine ⟨x7, ev_succ ?_, ho, by omega⟩
    simp only [spec_A2Coils.l1]
    exact ev_neg (by omega) (Ev.now _)
  | d + 1, x7, at_, sd, hs, ho, hl => by
    obtain ⟨r, a', s', e, r0, r1, hs'⟩ := pick_ev c at_ sd 10 (2 * d) hs
    obtain ⟨b, eb, hb, hn⟩ := A2Coils_l1 c x5 d (x7 ++ [10 * (1 + r)]) a' s' hs' (by
      intro x hx; rcases List.mem_append.1 hx with h | h
      · exact ho x h
      · simp at h; omega) (by simp; omega)
    refine ⟨b, ev_succ ?_, hb, by simp at hn; omega⟩
    simp only [spec_A2Coils.l1]
    refine ev_pos (by omega) (ev_now e ?_)
    simp only []
    rw [w64 (x := 1 + r) (by omega) (by omega), w64 (x := 10 * (1 + r)) (by omega) (by omega), w64 (x := ((d + 1 : Nat) : Int) - 1) (by omega) (by omega)]
    refine ev_pos (by omega) ?_
    have e2 : ((d + 1 : Nat) : Int) - 1 = (d : Int) := by omega
    rw [e2]; exact eb
theorem A2Coils_l0 (c : List Int) : ∀ (d : Nat) (x5 : List Int) (at_ sd : Int), Sr c at_ (2 * d + 12) → okL x5 → x5.length + d ≤ 5 →
    ∃ a b, Ev (fun k => spec_A2Coils.l0 k x5 (d : Int) c at_ sd) (a, b) ∧ okC a b
  | 0, x5, at_, sd, hs, ho, hl => by
    obtain ⟨r, a', s', e, r0, r1, hs'⟩ := pick_ev c at_ sd 6 10 hs
    obtain ⟨n, rfl⟩ := Int.eq_ofNat_of_zero_le r0
    obtain ⟨b, eb, hb, hn⟩ := A2Coils_l1 c x5 n [] a' s' (hs'.less (by omega)) (by simp [okL]) (by simp; omega)
    refine ⟨x5, b, ev_succ ?_, ho, hb, by omega, by simp at hn; omega⟩
    simp only [spec_A2Coils.l0]
    refine ev_neg (by omega) (ev_now e ?_)
    exact eb
  | d + 1, x5, at_, sd, hs, ho, hl => by
    obtain ⟨r, a', s', e, r0, r1, hs'⟩ := pick_ev c at_ sd 20 (2 * d + 12) (hs.less (by omega))
    obtain ⟨a, b, eb, hb⟩ := A2Coils_l0 c d (x5 ++ [10 * (1 + r)]) a' s' hs' (by
      intro x hx; rcases List.mem_append.1 hx with h | h
      · exact ho x h
      · simp at h; omega) (by simp; omega)
    refine ⟨a, b, ev_succ ?_, hb⟩
    simp only [spec_A2Coils.l0]
    refine ev_pos (by omega) (ev_now e ?_)
    simp only []
    rw [w64 (x := 1 + r) (by omega) (by omega), w64 (x := 10 * (1 + r)) (by omega) (by omega), w64 (x := ((d + 1 : Nat) : Int) - 1) (by omega) (by omega)]
    refine ev_pos (by omega) ?_
    have e2 : ((d + 1 : Nat) : Int) - 1 = (d : Int) := by omega
    rw [e2]; exact eb
theorem A2Coils_ev (c : List Int) (h : ∀ x ∈ c, (Lit.int .u8 x).wf = true) : ∃ a b, Ev (fun k => spec_A2Coils.f k c) (a, b) ∧ okC a b := by
  obtain ⟨r, a', s', e, r0, r1, hs'⟩ := pick_ev c 0 0 5 100 ((Sr.start h).less (by omega))
  obtain ⟨n, rfl⟩ := Int.eq_ofNat_of_zero_le r0
  obtain ⟨a, b, eb, hb⟩ := A2Coils_l0 c n [] a' s' (hs'.less (by omega)) (by simp [okL]) (by simp; omega)
  refine ⟨a, b, ?_, hb⟩
  simp only [spec_A2Coils.f, spec_l00From.f]
  exact ev_now rfl (ev_now e eb)

theorem clo_eqA (l : List Int) (k b : Int) (h0 : 0 ≤ k) (h1 : k < (l.length : Int)) (h2 : 0 ≤ b) (h3 : b < (l.length : Int)) : impl_FirstCut_c1.f l k b = some (false && decide (rd l k < rd l b)) := by
  unfold impl_FirstCut_c1.f
  first
    | rfl
    | simp [h0, h1, h2, h3]
theorem iCut_l1A (ps left out : List Int) (i : Nat) (hi : i < ps.length) (hp : ps.length ≤ 100) (hl : left.length ≤ 100) (ho : out.length ≤ 100) (r : List Int × Int) : ∀ (d k : Nat) (b : Int), k + d = left.length → (-1 ≤ b ∧ b < (k : Int)) →
    (bsF left ps[i] false d k b < 0 → r = ([], 5)) →
    (¬ bsF left ps[i] false d k b < 0 → Ev (fun n => impl_cutByA.l0 n (left.set (bsF left ps[i] false d k b).toNat (wrap64 (rd left (bsF left ps[i] false d k b) - ps[i]))) (out ++ [bsF left ps[i] false d k b]) ps (ps.length : Int) (((i + 1 : Nat) : Int))) r) →
    Ev (fun n => impl_cutByA.l1 n left out ps[i] b ps (ps.length : Int) (i : Int) (left.length : Int) (k : Int)) r
  | 0, k, b, hd, hb, h1, h2 => by
    simp only [bsF] at h1 h2
    refine ev_succ ?_
    simp only [impl_cutByA.l1]
    rw [w64s (i := i) (by omega)]
    exact ev_neg (by omega) (ev_if (fun g => ev_some (h1 g).symm) (fun g => ev_pos (by omega) (ev_pos (by omega) (ev_pos (by omega) (h2 g)))))
  | d + 1, k, b, hd, hb, h1, h2 => by
    simp only [bsF] at h1 h2
    have bd := stB_bd (left := left) (p := ps[i]) (tight := false) hb
    have ih := iCut_l1A ps left out i hi hp hl ho r d (k + 1) (stB left ps[i] false (k : Int) b) (by omega) bd h1 h2
    refine ev_succ ?_
    simp only [impl_cutByA.l1]
    rw [w64s (by omega)]
    unfold stB at ih
    refine ev_pos (by omega) (ev_pos (by omega) (ev_pos (by omega) (ev_if (fun g => ev_if (fun g2 => ?_) (fun g2 => ev_now (clo_eqA left (k : Int) b (by omega) (by omega) (by omega) (by omega)) (ev_if (fun g3 => ?_) (fun g3 => ?_)))) (fun g => ?_))))
    · rw [if_pos (by omega), if_pos g2] at ih; exact ih
    · rw [if_pos (by omega), if_neg g2, if_pos g3] at ih; exact ih
    · rw [if_pos (by omega), if_neg g2, if_neg g3] at ih; exact ih
    · rw [if_neg (by omega)] at ih; exact ih
theorem iCut_l0A (ps : List Int) (hp : ps.length ≤ 100) : ∀ (d i : Nat) (left out : List Int), i + d = ps.length → left.length ≤ 100 → out.length ≤ i →
    Ev (fun n => impl_cutByA.l0 n left out ps (ps.length : Int) (i : Int)) (resI (cutF false left (ps.drop i) out))
  | 0, i, left, out, hd, hl, ho => by
    have e : ps.drop i = [] := by simp; omega
    refine ev_succ ?_
    simp only [impl_cutByA.l0]
    rw [e]
    exact ev_neg (by omega) (ev_some rfl)
  | d + 1, i, left, out, hd, hl, ho => by
    have hi : i < ps.length := by omega
    refine ev_succ ?_
    simp only [impl_cutByA.l0]
    rw [List.drop_eq_getElem_cons hi, rd_nat hi]
    simp only [cutF]
    refine ev_pos (by omega) (ev_pos (by omega) (ev_pos (by omega) (iCut_l1A ps left out i hi hp hl (by omega) _ left.length 0 (-1) (by omega) (by omega) (fun g => by rw [if_pos g]; rfl) (fun g => ?_))))
    rw [if_neg g]
    exact iCut_l0A ps hp d (i + 1) _ _ (by omega) (by simpa using hl) (by simp; omega)
theorem iCutByA_ev (a b : List Int) (hz : okC a b) : Ev (fun k => impl_FirstCut.f k a b) (resI (cutF false a b [])) := by
  have ei := iValidCoils_ev a b (by have := hz.2.2.1; omega) (by have := hz.2.2.2; omega)
  rw [ofd1 hz] at ei
  have i := iCut_l0A b (by have := hz.2.2.2; omega) b.length 0 a [] (by omega) (by have := hz.2.2.1; omega) (by simp)
  rw [List.drop_zero] at i
  generalize resI (cutF false a b []) = R at i ⊢
  simp only [impl_FirstCut.f, impl_cutByA.f]
  exact Ev.bind (Ev.bind ei (ev_pos (by trivial) (ev_now rfl (ev_pos (by simp; have := hz.2.2.1; omega) (by simpa using i))))) (Ev.now _)

theorem clo_eqB (l : List Int) (k b : Int) (h0 : 0 ≤ k) (h1 : k < (l.length : Int)) (h2 : 0 ≤ b) (h3 : b < (l.length : Int)) : impl_TightCut_c1.f l k b = some (true && decide (rd l k < rd l b)) := by
  unfold impl_TightCut_c1.f
  first
    | rfl
    | simp [h0, h1, h2, h3]
theorem iCut_l1B (ps left out : List Int) (i : Nat) (hi : i < ps.length) (hp : ps.length ≤ 100) (hl : left.length ≤ 100) (ho : out.length ≤ 100) (r : List Int × Int) : ∀ (d k : Nat) (b : Int), k + d = left.length → (-1 ≤ b ∧ b < (k : Int)) →
    (bsF left ps[i] true d k b < 0 → r = ([], 5)) →
    (¬ bsF left ps[i] true d k b < 0 → Ev (fun n => impl_cutByB.l0 n (left.set (bsF left ps[i] true d k b).toNat (wrap64 (rd left (bsF left ps[i] true d k b) - ps[i]))) (out ++ [bsF left ps[i] true d k b]) ps (ps.length : Int) (((i + 1 : Nat) : Int))) r) →
    Ev (fun n => impl_cutByB.l1 n left out ps[i] b ps (ps.length : Int) (i : Int) (left.length : Int) (k : Int)) r
  | 0, k, b, hd, hb, h1, h2 => by
    simp only [bsF] at h1 h2
    refine ev_succ ?_
    simp only [impl_cutByB.l1]
    rw [w64s (i := i) (by omega)]
    exact ev_neg (by omega) (ev_if (fun g => ev_some (h1 g).symm) (fun g => ev_pos (by omega) (ev_pos (by omega) (ev_pos (by omega) (h2 g)))))
  | d + 1, k, b, hd, hb, h1, h2 => by
    simp only [bsF] at h1 h2
    have bd := stB_bd (left := left) (p := ps[i]) (tight := true) hb
    have ih := iCut_l1B ps left out i hi hp hl ho r d (k + 1) (stB left ps[i] true (k : Int) b) (by omega) bd h1 h2
    refine ev_succ ?_
    simp only [impl_cutByB.l1]
    rw [w64s (by omega)]
    unfold stB at ih
    refine ev_pos (by omega) (ev_pos (by omega) (ev_pos (by omega) (ev_if (fun g => ev_if (fun g2 => ?_) (fun g2 => ev_now (clo_eqB left (k : Int) b (by omega) (by omega) (by omega) (by omega)) (ev_if (fun g3 => ?_) (fun g3 => ?_)))) (fun g => ?_))))
    · rw [if_pos (by omega), if_pos g2] at ih; exact ih
    · rw [if_pos (by omega), if_neg g2, if_pos g3] at ih; exact ih
    · rw [if_pos (by omega), if_neg g2, if_neg g3] at ih; exact ih
    · rw [if_neg (by omega)] at ih; exact ih
theorem iCut_l0B (ps : List Int) (hp : ps.length ≤ 100) : ∀ (d i : Nat) (left out : List Int), i + d = ps.length → left.length ≤ 100 → out.length ≤ i →
    Ev (fun n => impl_cutByB.l0 n left out ps (ps.length : Int) (i : Int)) (resI (cutF true left (ps.drop i) out))
  | 0, i, left, out, hd, hl, ho => by
    have e : ps.drop i = [] := by simp; omega
    refine ev_succ ?_
    simp only [impl_cutByB.l0]
    rw [e]
    exact ev_neg (by omega) (ev_some rfl)
  | d + 1, i, left, out, hd, hl, ho => by
    have hi : i < ps.length := by omega
    refine ev_succ ?_
    simp only [impl_cutByB.l0]
    rw [List.drop_eq_getElem_cons hi, rd_nat hi]
    simp only [cutF]
    refine ev_pos (by omega) (ev_pos (by omega) (ev_pos (by omega) (iCut_l1B ps left out i hi hp hl (by omega) _ left.length 0 (-1) (by omega) (by omega) (fun g => by rw [if_pos g]; rfl) (fun g => ?_))))
    rw [if_neg g]
    exact iCut_l0B ps hp d (i + 1) _ _ (by omega) (by simpa using hl) (by simp; omega)
theorem iCutByB_ev (a b : List Int) (hz : okC a b) : Ev (fun k => impl_TightCut.f k a b) (resI (cutF true a b [])) := by
  have ei := iValidCoils_ev a b (by have := hz.2.2.1; omega) (by have := hz.2.2.2; omega)
  rw [ofd1 hz] at ei
  have i := iCut_l0B b (by have := hz.2.2.2; omega) b.length 0 a [] (by omega) (by have := hz.2.2.1; omega) (by simp)
  rw [List.drop_zero] at i
  generalize resI (cutF true a b []) = R at i ⊢
  simp only [impl_TightCut.f, impl_cutByB.f]
  exact Ev.bind (Ev.bind ei (ev_pos (by trivial) (ev_now rfl (ev_pos (by simp; have := hz.2.2.1; omega) (by simpa using i))))) (Ev.now _)

theorem rdN {l : List Int} {i : Nat} (h : i < l.length) : rd l (i : Int) = l[i] := by
  simp [rd, List.getD_eq_getElem?_getD, h]
theorem a2SumR_l0 (x0 : List Int) (hc : ∀ x ∈ x0, 0 ≤ x ∧ x ≤ 20000) (hl : x0.length ≤ 7) : ∀ (d i : Nat) (s : Int), i + d = x0.length → 0 ≤ s → s ≤ 20000 * i →
    Ev (fun k => laws_a2Sum.l0 k x0 s (i : Int)) (s + (x0.drop i).sum)
  | 0, i, s, hd, h0, h1 => by
    refine ev_succ ?_
    simp only [laws_a2Sum.l0]
    have e : x0.drop i = [] := by simp; omega
    refine ev_neg (by omega) (ev_some ?_)
    rw [e]; simp
  | d + 1, i, s, hd, h0, h1 => by
    have hi : i < x0.length := by omega
    have hp := hc _ (List.getElem_mem hi)
    refine ev_succ ?_
    simp only [laws_a2Sum.l0]
    rw [rdN hi, w64s (by omega), w64 (by omega) (by omega), List.drop_eq_getElem_cons hi]
    refine ev_pos (by omega) (ev_pos (by omega) ?_)
    have := a2SumR_l0 x0 hc hl d (i + 1) (s + x0[i]) (by omega) (by omega) (by omega)
    rw [List.sum_cons, ← Int.add_assoc]; exact this
theorem a2SumR_ev (x0 : List Int) (hc : ∀ x ∈ x0, 0 ≤ x ∧ x ≤ 20000) (hl : x0.length ≤ 7) : Ev (fun k => laws_a2Sum.f k x0) x0.sum := by
  have := a2SumR_l0 x0 hc hl x0.length 0 0 (by omega) (by omega) (by omega)
  rw [List.drop_zero, Int.zero_add] at this
  simp only [laws_a2Sum.f]; exact this
theorem sum_bd : ∀ (x0 : List Int), (∀ x ∈ x0, 0 ≤ x ∧ x ≤ 20000) → 0 ≤ x0.sum ∧ x0.sum ≤ 20000 * x0.length
  | [], _ => by simp
  | x :: l, h => by
    have h1 := h x (by simp)
    have h2 := sum_bd l (fun y hy => h y (by simp [hy]))
    simp only [List.sum_cons, List.length_cons]; omega
/-- The count of begun coils. -/
theorem begun_l0 (a R : List Int) (L : Int) (ha : a.length ≤ 5) (hR : R.length = a.length) (h0 : ∀ g : Int, 0 ≤ g → g < a.length → 0 ≤ rd R g ∧ rd R g ≤ rd a g ∧ rd R g ≤ L) : ∀ (d i : Nat) (c : Int), i + d = a.length → 0 ≤ c → c ≤ i →
    Ev (fun k => laws_a2Begun.l0 k a L R c (i : Int)) (bg a R d (i : Int) c)
  | 0, i, c, hd, c0, c1 => by
    refine ev_succ ?_
    simp only [laws_a2Begun.l0]
    exact ev_neg (by omega) (ev_some rfl)
  | d + 1, i, c, hd, c0, c1 => by
    have hx := h0 (i : Int) (by omega) (by omega)
    refine ev_succ ?_
    simp only [laws_a2Begun.l0]
    refine ev_pos (by omega) (ev_pos (by omega) (ev_pos (by omega) (ev_neg (by omega) (ev_neg (by omega) ?_))))
    rw [decide_eq_false (by omega)]
    refine ev_succ ?_
    simp only [laws_a2Begun.j2]
    rw [w64s (by omega), w64 (x := c + 1) (by omega) (by omega)]
    rw [bg]
    refine ev_neg (by simp) (ev_pos (by omega) (ev_pos (by omega) (ev_pos (by omega) (ev_if (fun h => ?_) (fun h => ?_)))))
    · rw [if_pos h]
      exact begun_l0 a R L ha hR h0 d (i + 1) (c + 1) (by omega) (by omega) (by omega)
    · rw [if_neg h]
      exact begun_l0 a R L ha hR h0 d (i + 1) c (by omega) (by omega) (by omega)
theorem mem_rd {l : List Int} {P : Int → Prop} (h : ∀ g : Int, 0 ≤ g → g < l.length → P (rd l g)) : ∀ x ∈ l, P x := by
  intro x hx
  obtain ⟨i, hi, rfl⟩ := List.mem_iff_getElem.mp hx
  have := h (i : Int) (by omega) (by omega)
  rw [rdN hi] at this
  exact this
theorem begun_ev {a b fs : List Int} {L : Int} (hc : okC a b) (hp : PathC a b fs) (hL : ∀ g : Int, 0 ≤ g → g < a.length → rd (subF a b fs) g ≤ L) : Ev (fun k => laws_a2Begun.f k a b fs L) (begI fs a.length 0 0) := by
  have hA := okL_rd hc.1
  have h5 := hc.2.2.1
  have h7 := hc.2.2.2
  have hlen := path_len b a fs hp
  have hf := path_okF a b a fs rfl hp
  have hge := path_ge b a fs (fun g g0 g1 => (hA g g0 g1).1) hp
  have hle := subF_le a b fs a hc.2.1 hf rfl
  have hsz : (subF a b fs).length = a.length := subF_len b fs a
  have hGB : GB a (subF a b fs) fs := path_GB a b a fs [] hc.2.1 ⟨rfl, fun i _ _ => ⟨fun h => (by cases h), fun _ => rfl⟩⟩ hp
  have hsum := path_sum b a fs hp
  have ei := iCode_ev a b fs (by omega) (by omega) (by omega)
  have hz : codeC a b fs = 0 := by unfold codeC; rw [if_pos hc, if_pos ⟨hf, hlen⟩]
  rw [hz] at ei
  have hfault : (faultF a b fs 0).1 = -1 := by
    rcases fault_sub a b fs a 0 (by omega) hc.2.1 hf rfl (fun g g0 g1 => (hA g g0 g1).1) with ⟨h, _, _⟩ | ⟨_, g, g0, g1, g2⟩
    · exact h
    · have := hge g g0 g1; omega
  have e1 : Ev (fun k => impl_CutFault.f k a b fs) (-1, 0) := by
    have e2 := iCutFault_l0 b fs hc.2.1 h7 hlen b.length 0 a (by omega) hf hA
    simp only [impl_CutFault.f]
    refine Ev.bind ei (ev_pos (by trivial) (ev_now rfl (ev_pos (by simp; omega) ?_)))
    simp only [List.drop_zero, Int.natCast_zero, Int.ofNat_zero] at e2
    rw [hfault] at e2
    simpa using e2
  have e2 : Ev (fun k => impl_RestsAfter.f k a b fs) (subF a b fs, 0) := by
    have e3 := iRests_l1 (subF a b fs) (by omega) (subF a b fs).length 0 (by omega) (by omega)
    rw [hsz] at e3
    have e4 := iRests_l0 a b fs h5 hc.2.1 h7 hlen hf _ b.length 0 a (by omega) rfl (fun g g0 g1 => by have := hA g g0 g1; omega) (by simpa using e3)
    have ee : Ev (fun k => impl_RestsAfter.f k a b fs) (if ∀ j : Nat, j < a.length → 0 ≤ rd (subF a b fs) (j : Int) then (subF a b fs, 0) else ([], 5)) := by
      simp only [impl_RestsAfter.f]
      refine Ev.bind ei (ev_pos (by trivial) (ev_now rfl (ev_pos (by simp; omega) ?_)))
      simpa using e4
    rw [if_pos (fun (j : Nat) hj => hge j (by omega) (by omega))] at ee
    exact ee
  have hR : ∀ g : Int, 0 ≤ g → g < a.length → 0 ≤ rd (subF a b fs) g ∧ rd (subF a b fs) g ≤ rd a g ∧ rd (subF a b fs) g ≤ L := fun g g0 g1 => ⟨hge g g0 g1, hle g g0 g1, hL g g0 g1⟩
  have hRm : ∀ x ∈ subF a b fs, 0 ≤ x ∧ x ≤ 20000 := mem_rd (fun g g0 g1 => by have h1 := hR g g0 (by omega); have h2 := hA g g0 (by omega); omega)
  have hAm : ∀ x ∈ a, 0 ≤ x ∧ x ≤ 20000 := fun x hx => by have := hc.1 x hx; omega
  have hBm : ∀ x ∈ b, 0 ≤ x ∧ x ≤ 20000 := fun x hx => by have := hc.2.1 x hx; omega
  have s1 := a2SumR_ev (subF a b fs) hRm (by omega)
  have s2 := a2SumR_ev a hAm (by omega)
  have s3 := a2SumR_ev b hBm (by omega)
  have b2 := sum_bd a hAm
  have b3 := sum_bd b hBm
  have hl0 := begun_l0 a (subF a b fs) L h5 hsz hR a.length 0 0 (by omega) (by omega) (by omega)
  rw [beg_eq hGB]
  simp only [laws_a2Begun.f]
  refine Ev.bind e1 (Ev.bind e2 (ev_pos rfl (ev_pos rfl (ev_pos rfl (ev_pos (by show ((subF a b fs).length : Int) = (a.length : Int); omega) (Ev.bind s1 (Ev.bind s2 (Ev.bind s3 ?_))))))))
  rw [w64 (x := a.sum - b.sum) (by omega) (by omega), hsum]
  have be : (a.sum - b.sum != a.sum - b.sum) = false := by simp
  rw [be]
  refine ev_succ ?_
  simp only [laws_a2Begun.j0]
  exact ev_neg (by simp) hl0
theorem FnCoilCuts : laws_FnCoilCuts.Pure := by
  intro c _ _ hc
  refine Ev.rounds ?_
  simp only [laws_FnCoilCuts.f]
  have hlong : ∃ z, laws_a2Long.f c ([] : List Int) = some z := by unfold laws_a2Long.f; split; exact ⟨_, rfl⟩; exact ⟨_, rfl⟩
  obtain ⟨z, hz⟩ := hlong
  refine ev_now hz (ev_if (fun _ => Ev.now _) (fun _ => ?_))
  obtain ⟨a, b, dr, ho⟩ := A2Coils_ev c hc
  have ei := iValidCoils_ev a b (by have := ho.2.2.1; omega) (by have := ho.2.2.2; omega)
  rw [ofd1 ho] at ei
  have hcut := okCut_of ho
  have f1 := iCutByA_ev a b ho
  have f2 := iCutByB_ev a b ho
  have hA := okL_rd ho.1
  have p1 : ∀ o, cutF false a b [] = some o → PathC a b o := fun o h => by
    obtain ⟨fs, e, hp⟩ := cutF_path false b a [] o ho.2.1 hA h
    rw [e]; exact hp
  have p2 : ∀ o, cutF true a b [] = some o → PathC a b o := fun o h => by
    obtain ⟨fs, e, hp⟩ := cutF_path true b a [] o ho.2.1 hA h
    rw [e]; exact hp
  have hbest := @best_is a b a.length
  by_cases cn : (wkG (leafB a.length) b a [] ([], -1)).2 < 0
  · have hno : ∀ fs, ¬ PathC a b fs := fun fs hp => by have := (best_hit a.length hp).1; omega
    have hL := longest_none hno
    have e1 : Ev (fun k => impl_BestCut.f k a b) ([], 0, 5) := by
      simp only [impl_BestCut.f]
      exact Ev.bind ei (ev_pos rfl (ev_pos hcut (ev_pos cn (Ev.now _))))
    have e2 : Ev (fun k => impl_LongestRest.f k a b) (0, 5) := by
      simp only [impl_LongestRest.f]
      exact Ev.bind ei (ev_pos rfl (ev_pos hcut (ev_pos (by rw [hL]; decide) (Ev.now _))))
    have n1 : cutF false a b [] = none := by
      cases h : cutF false a b [] with
      | none => rfl
      | some o => exact absurd (p1 o h) (hno o)
    have n2 : cutF true a b [] = none := by
      cases h : cutF true a b [] with
      | none => rfl
      | some o => exact absurd (p2 o h) (hno o)
    rw [n1] at f1
    rw [n2] at f2
    exact Ev.bind dr (Ev.bind f1 (Ev.bind f2 (Ev.bind e1 (Ev.bind e2 (ev_neg (by decide) (ev_pos rfl (ev_pos rfl (ev_pos rfl (ev_some (by simp))))))))))
  · rcases hbest with hb | ⟨hp, hfew⟩
    · exact absurd hb cn
    · have hL := longest_hit hp
      have e1 : Ev (fun k => impl_BestCut.f k a b) ((wkG (leafB a.length) b a [] ([], -1)).1, (wkG (leafB a.length) b a [] ([], -1)).2, 0) := by
        simp only [impl_BestCut.f]
        exact Ev.bind ei (ev_pos rfl (ev_pos hcut (ev_neg cn (Ev.now _))))
      have e2 : Ev (fun k => impl_LongestRest.f k a b) (wkG leafL b a [] (-1), 0) := by
        simp only [impl_LongestRest.f]
        exact Ev.bind ei (ev_pos rfl (ev_pos hcut (ev_neg (by omega) (Ev.now _))))
      have g0 := begun_ev ho hp hL.2
      rw [← hfew] at g0
      have each : ∀ o, PathC a b o → ∃ n, (wkG (leafB a.length) b a [] ([], -1)).2 ≤ n ∧ Ev (fun k => laws_a2Begun.f k a b o (wkG leafL b a [] (-1))) n := fun o h => ⟨_, (best_hit a.length h).2, begun_ev ho h (longest_hit h).2⟩
      generalize wkG (leafB a.length) b a [] ([], -1) = B at *
      generalize wkG leafL b a [] (-1) = L at *
      have last : ∀ (o : Option (List Int)), (∀ x, o = some x → PathC a b x) → Ev (fun k => if (resI o).2 = 0 then (laws_a2Begun.f k a b (resI o).1 L).bind fun t => some (decide (t ≥ B.2)) else some ((resI o).2 == 5)) true := by
        intro o h
        cases o with
        | none => exact ev_neg (by simp [resI]) (ev_some (by simp [resI]))
        | some x =>
          obtain ⟨n, h1, h2⟩ := each x (h x rfl)
          exact ev_pos rfl (Ev.bind h2 (ev_some (decide_eq_true h1)))
      have t2 := last _ p2
      have j0 : Ev (fun k => laws_FnCoilCuts.j0 k a b (resI (cutF false a b [])).1 (resI (cutF false a b [])).2 (resI (cutF true a b [])).1 (resI (cutF true a b [])).2 B.2 L false) true := by
        refine ev_succ ?_
        simp only [laws_FnCoilCuts.j0]
        refine ev_neg (by simp) ?_
        cases h1 : cutF false a b [] with
        | none => exact ev_neg (by simp [resI]) (ev_pos rfl t2)
        | some x =>
          obtain ⟨n, q1, q2⟩ := each x (p1 x h1)
          exact ev_pos rfl (Ev.bind q2 (ev_neg (by omega) t2))
      refine Ev.bind dr (Ev.bind f1 (Ev.bind f2 (Ev.bind e1 (Ev.bind e2 (ev_pos rfl (ev_pos rfl (ev_neg cn (Ev.bind g0 ?_))))))))
      have be : (B.2 != B.2) = false := by simp
      rw [be]
      exact j0

end Go.Proofs.Ytmgnloojcnoffaa.PureFnCoilCuts
namespace Go.Proofs.Ytmgnloojcnoffaa.Pure
open Go.Proofs.Ytmgnloojcnoffaa.HCoil
theorem FnCoilCuts : laws_FnCoilCuts.Pure := PureFnCoilCuts.FnCoilCuts
end Go.Proofs.Ytmgnloojcnoffaa.Pure
