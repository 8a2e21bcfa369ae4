/- Alternating forms on whole-number vectors, Cramer's rule, and how large such forms get. No condition. -/
namespace Go.Proofs.Ytebbdadpgapobaa.Elim

abbrev Vc := Nat → Int
/-- x times v and y times w. -/
def lin (x : Int) (v : Vc) (y : Int) (w : Vc) : Vc := fun i => x * v i + y * w i
structure Alt (f : List Vc → Int) : Prop where
  lin : ∀ us x v y w vs, f (us ++ lin x v y w :: vs) = x * f (us ++ v :: vs) + y * f (us ++ w :: vs)
  alt : ∀ us v vs, f (us ++ v :: v :: vs) = 0
theorem Alt.ins {f : List Vc → Int} (h : Alt f) (u : Vc) : Alt (fun us => f (u :: us)) :=
  ⟨fun us x v y w vs => h.lin (u :: us) x v y w vs, fun us v vs => h.alt (u :: us) v vs⟩
/-- A number's product with a form. -/
def w1 (f : Vc → Int) : List Vc → (List Vc → Int) → Int
  | [], _ => 0
  | v :: vs, o => f v * o vs - w1 f vs (fun us => o (v :: us))
theorem w1_zero (f : Vc → Int) : ∀ (vs : List Vc) (o : List Vc → Int), (∀ us, o us = 0) → w1 f vs o = 0
  | [], _, _ => rfl
  | v :: vs, o, h => by rw [w1, h, w1_zero f vs _ (fun us => h _)]; simp
theorem w1_add (f : Vc → Int) (x y : Int) : ∀ (vs : List Vc) (o q : List Vc → Int), w1 f vs (fun us => x * o us + y * q us) = x * w1 f vs o + y * w1 f vs q
  | [], _, _ => by simp [w1]
  | v :: vs, o, q => by rw [w1, w1, w1, w1_add f x y vs]; grind
theorem w1_fun (f g : Vc → Int) (x y : Int) : ∀ (vs : List Vc) (o : List Vc → Int), w1 (fun u => x * f u + y * g u) vs o = x * w1 f vs o + y * w1 g vs o
  | [], _ => by simp [w1]
  | v :: vs, o => by rw [w1, w1, w1, w1_fun f g x y vs]; grind
theorem w1_lin (f : Vc → Int) (hf : ∀ x v y w, f (lin x v y w) = x * f v + y * f w) (x : Int) (v : Vc) (y : Int) (w : Vc) (vs : List Vc) :
    ∀ (us : List Vc) (o : List Vc → Int), Alt o → w1 f (us ++ lin x v y w :: vs) o = x * w1 f (us ++ v :: vs) o + y * w1 f (us ++ w :: vs) o
  | [], o, h => by
    simp only [List.nil_append, w1]
    rw [show (fun us => o (lin x v y w :: us)) = fun us => x * o (v :: us) + y * o (w :: us) from funext fun us => h.lin [] x v y w us, w1_add, hf]
    grind
  | u :: us, o, h => by
    simp only [List.cons_append, w1]
    rw [h.lin, w1_lin f hf x v y w vs us _ (h.ins u)]
    grind
theorem w1_alt (f : Vc → Int) (v : Vc) (vs : List Vc) : ∀ (us : List Vc) (o : List Vc → Int), Alt o → w1 f (us ++ v :: v :: vs) o = 0
  | [], o, h => by
    simp only [List.nil_append, w1]
    rw [w1_zero f vs (fun us => o (v :: v :: us)) (fun us => h.alt [] v us)]
    grind
  | u :: us, o, h => by
    simp only [List.cons_append, w1]
    rw [h.alt, w1_alt f v vs us _ (h.ins u)]
    simp
/-- The area that two vectors span in the k-th pair of coordinates. -/
def bt (k : Nat) (v w : Vc) : Int := v (2 * k) * w (2 * k + 1) - v (2 * k + 1) * w (2 * k)
theorem bt_lin (k : Nat) (u : Vc) (x : Int) (v : Vc) (y : Int) (w : Vc) : bt k u (lin x v y w) = x * bt k u v + y * bt k u w := by unfold bt lin; grind
theorem bt_lin' (k : Nat) (x : Int) (v : Vc) (y : Int) (w : Vc) : bt k (lin x v y w) = fun u => x * bt k v u + y * bt k w u := by funext u; unfold bt lin; grind
theorem bt_self (k : Nat) (v : Vc) : bt k v v = 0 := by unfold bt; grind
/-- An area's product with a form. -/
def w2 (k : Nat) : List Vc → (List Vc → Int) → Int
  | [], _ => 0
  | v :: vs, o => w1 (bt k v) vs o + w2 k vs (fun us => o (v :: us))
theorem w2_zero (k : Nat) : ∀ (vs : List Vc) (o : List Vc → Int), (∀ us, o us = 0) → w2 k vs o = 0
  | [], _, _ => rfl
  | v :: vs, o, h => by rw [w2, w1_zero _ vs o h, w2_zero k vs _ (fun us => h _)]; simp
theorem w2_add (k : Nat) (x y : Int) : ∀ (vs : List Vc) (o q : List Vc → Int), w2 k vs (fun us => x * o us + y * q us) = x * w2 k vs o + y * w2 k vs q
  | [], _, _ => by simp [w2]
  | v :: vs, o, q => by rw [w2, w2, w2, w2_add k x y vs, w1_add]; grind
theorem w2_lin (k : Nat) (x : Int) (v : Vc) (y : Int) (w : Vc) (vs : List Vc) :
    ∀ (us : List Vc) (o : List Vc → Int), Alt o → w2 k (us ++ lin x v y w :: vs) o = x * w2 k (us ++ v :: vs) o + y * w2 k (us ++ w :: vs) o
  | [], o, h => by
    simp only [List.nil_append, w2]
    rw [show (fun us => o (lin x v y w :: us)) = fun us => x * o (v :: us) + y * o (w :: us) from funext fun us => h.lin [] x v y w us, w2_add, bt_lin', w1_fun]
    grind
  | u :: us, o, h => by
    simp only [List.cons_append, w2]
    rw [w1_lin (bt k u) (bt_lin k u) x v y w vs us o h, w2_lin k x v y w vs us _ (h.ins u)]
    grind
theorem w2_alt (k : Nat) (v : Vc) (vs : List Vc) : ∀ (us : List Vc) (o : List Vc → Int), Alt o → w2 k (us ++ v :: v :: vs) o = 0
  | [], o, h => by
    simp only [List.nil_append, w2, w1]
    rw [w2_zero k vs (fun us => o (v :: v :: us)) (fun us => h.alt [] v us), bt_self]
    grind
  | u :: us, o, h => by
    simp only [List.cons_append, w2]
    rw [w1_alt _ v vs us o h, w2_alt k v vs us _ (h.ins u)]
    simp
/-- The determinant of vectors with m pairs of coordinates. -/
def dt : Nat → List Vc → Int
  | 0, [] => 1
  | 0, _ :: _ => 0
  | m + 1, vs => w2 m vs (dt m)
theorem dt_alt : ∀ m, Alt (dt m)
  | 0 => ⟨fun us x v y w vs => by cases us <;> simp [dt], fun us v vs => by cases us <;> simp [dt]⟩
  | m + 1 => ⟨fun us x v y w vs => w2_lin m x v y w vs us _ (dt_alt m), fun us v vs => w2_alt m v vs us _ (dt_alt m)⟩

section
variable {f : List Vc → Int} (h : Alt f)
include h
theorem Alt.swap (us : List Vc) (v w : Vc) (vs : List Vc) : f (us ++ v :: w :: vs) = - f (us ++ w :: v :: vs) := by
  have h0 := h.alt us (Elim.lin 1 v 1 w) vs
  rw [h.lin] at h0
  have h1 := h.lin (us ++ [v]) 1 v 1 w vs
  have h2 := h.lin (us ++ [w]) 1 v 1 w vs
  simp only [List.append_assoc, List.singleton_append] at h1 h2
  rw [h1, h2, h.alt, h.alt] at h0
  omega
theorem Alt.far (v : Vc) (vs : List Vc) : ∀ (ms us : List Vc), f (us ++ v :: (ms ++ v :: vs)) = 0
  | [], us => h.alt us v vs
  | m :: ms, us => by
    have := Alt.far v vs ms (us ++ [m])
    rw [List.cons_append, h.swap]
    simpa using this
theorem Alt.same {l : List Vc} {i k : Nat} (hi : i < k) (hk : k < l.length) (he : l[i] = l[k]) : f l = 0 := by
  have e1 : l = l.take i ++ l[i] :: l.drop (i + 1) := by rw [← List.drop_eq_getElem_cons (by omega), List.take_append_drop]
  have e2 : l.drop (i + 1) = (l.drop (i + 1)).take (k - i - 1) ++ l[k] :: l.drop (k + 1) := by
    have e3 := List.take_append_drop (k - i - 1) (l.drop (i + 1))
    rw [List.drop_drop, show i + 1 + (k - i - 1) = k by omega, List.drop_eq_getElem_cons hk] at e3
    exact e3.symm
  rw [e1, e2, he]
  exact h.far _ _ _ _
end

/-- The list of the first n values. -/
def lst (n : Nat) (g : Nat → Vc) : List Vc := (List.range n).map g
def upd {α : Type} (g : Nat → α) (i : Nat) (v : α) : Nat → α := fun k => if k = i then v else g k
theorem upd_same {α : Type} (g : Nat → α) (i : Nat) (v : α) : upd g i v i = v := if_pos rfl
theorem upd_ne {α : Type} (g : Nat → α) {i k : Nat} (v : α) (h : k ≠ i) : upd g i v k = g k := if_neg h
theorem upd_upd {α : Type} (g : Nat → α) (i : Nat) (v w : α) : upd (upd g i v) i w = upd g i w := by funext k; unfold upd; split <;> rfl
theorem upd_comm {α : Type} (g : Nat → α) {i k : Nat} (v w : α) (h : i ≠ k) : upd (upd g i v) k w = upd (upd g k w) i v := by
  funext j; unfold upd; by_cases h1 : j = i <;> by_cases h2 : j = k <;> simp [h1, h2] <;> omega
theorem upd_self {α : Type} (g : Nat → α) (i : Nat) : upd g i (g i) = g := by funext k; unfold upd; split <;> simp_all
theorem lst_length (n : Nat) (g : Nat → Vc) : (lst n g).length = n := by simp [lst]
theorem lst_get (n : Nat) (g : Nat → Vc) (i : Nat) (h : i < (lst n g).length) : (lst n g)[i] = g i := by simp [lst]
theorem lst_upd {n : Nat} (g : Nat → Vc) {i : Nat} (hi : i < n) (v : Vc) : lst n (upd g i v) = (lst n g).take i ++ v :: (lst n g).drop (i + 1) := by
  apply List.ext_getElem
  · simp [lst]; omega
  · intro k h1 h2
    rw [lst_get]
    simp only [lst_length] at h1
    by_cases h3 : k = i
    · subst h3; rw [upd_same, List.getElem_append_right (by simp [lst_length]; omega)]; simp [lst_length, Nat.min_eq_left (Nat.le_of_lt hi)]
    · rw [upd_ne _ _ h3]
      by_cases h4 : k < i
      · rw [List.getElem_append_left (by simp [lst_length]; omega), List.getElem_take, lst_get]
      · rw [List.getElem_append_right (by simp [lst_length]; omega)]
        simp only [List.length_take, lst_length, Nat.min_eq_left (Nat.le_of_lt hi)]
        obtain ⟨j, rfl⟩ : ∃ j, k = i + 1 + j := ⟨k - i - 1, by omega⟩
        simp only [show i + 1 + j - i = j + 1 by omega, List.getElem_cons_succ, List.getElem_drop, lst_get]
section
variable {f : List Vc → Int} (h : Alt f) {n : Nat}
include h
theorem Alt.uLin (g : Nat → Vc) {i : Nat} (hi : i < n) (x : Int) (v : Vc) (y : Int) (w : Vc) :
    f (lst n (upd g i (Elim.lin x v y w))) = x * f (lst n (upd g i v)) + y * f (lst n (upd g i w)) := by
  rw [lst_upd g hi, lst_upd g hi, lst_upd g hi, h.lin]
theorem Alt.uSame (g : Nat → Vc) {i k : Nat} (hi : i < n) (hk : k < n) (hne : i ≠ k) (e : g i = g k) : f (lst n g) = 0 := by
  rcases Nat.lt_or_gt_of_ne hne with h1 | h1
  · exact h.same h1 (by rw [lst_length]; exact hk) (by rw [lst_get, lst_get]; exact e)
  · exact h.same h1 (by rw [lst_length]; exact hi) (by rw [lst_get, lst_get]; exact e.symm)
theorem Alt.uSwap (g : Nat → Vc) {a b : Nat} (ha : a < n) (hb : b < n) (hne : a ≠ b) : f (lst n (upd (upd g a (g b)) b (g a))) = - f (lst n g) := by
  have h0 := h.uSame (upd (upd g a (Elim.lin 1 (g a) 1 (g b))) b (Elim.lin 1 (g a) 1 (g b))) ha hb hne (by rw [upd_ne _ _ hne, upd_same, upd_same])
  rw [h.uLin _ hb, upd_comm _ _ _ hne, upd_comm _ _ _ hne, h.uLin _ ha, h.uLin _ ha] at h0
  rw [h.uSame (upd (upd g b (g a)) a (g a)) ha hb hne (by rw [upd_same, upd_ne _ _ (Ne.symm hne), upd_same]),
    h.uSame (upd (upd g b (g b)) a (g b)) ha hb hne (by rw [upd_same, upd_ne _ _ (Ne.symm hne), upd_same]), upd_self, upd_self] at h0
  rw [upd_comm _ _ _ hne]
  omega
end

def sumN : Nat → (Nat → Int) → Int
  | 0, _ => 0
  | n + 1, f => sumN n f + f n
theorem sumN_congr {f g : Nat → Int} : ∀ n, (∀ k, k < n → f k = g k) → sumN n f = sumN n g
  | 0, _ => rfl
  | n + 1, h => by rw [sumN, sumN, sumN_congr n (fun k hk => h k (by omega)), h n (by omega)]
theorem sumN_zero {f : Nat → Int} : ∀ n, (∀ k, k < n → f k = 0) → sumN n f = 0
  | 0, _ => rfl
  | n + 1, h => by rw [sumN, sumN_zero n (fun k hk => h k (by omega)), h n (by omega)]; rfl
theorem sumN_mul (x : Int) (f : Nat → Int) : ∀ n, sumN n (fun k => x * f k) = x * sumN n f
  | 0 => by simp [sumN]
  | n + 1 => by rw [sumN, sumN, sumN_mul x f n]; grind
theorem sumN_lin (x y : Int) (f g : Nat → Int) : ∀ n, sumN n (fun k => x * f k + y * g k) = x * sumN n f + y * sumN n g
  | 0 => by simp [sumN]
  | n + 1 => by rw [sumN, sumN, sumN, sumN_lin x y f g n]; grind
theorem sumN_but {f g : Nat → Int} {a : Nat} : ∀ n, a < n → (∀ k, k < n → k ≠ a → f k = g k) → sumN n f = sumN n g + (f a - g a)
  | 0, h, _ => absurd h (Nat.not_lt_zero _)
  | n + 1, h, e => by
    rw [sumN, sumN]
    by_cases hn : a = n
    · subst hn; rw [sumN_congr a (fun k hk => e k (by omega) (by omega))]; omega
    · rw [sumN_but n (by omega) (fun k hk hne => e k (by omega) hne), e n (by omega) (fun z => hn z.symm)]; omega
theorem sumN_one {f : Nat → Int} {a : Nat} (n : Nat) (h : a < n) (e : ∀ k, k < n → k ≠ a → f k = 0) : sumN n f = f a := by
  rw [sumN_but (g := fun _ => 0) n h e, sumN_zero n (fun _ _ => rfl)]; omega
theorem sumN_swap (f : Nat → Int) {a b : Nat} (n : Nat) (ha : a < n) (hb : b < n) (hne : a ≠ b) : sumN n (upd (upd f a (f b)) b (f a)) = sumN n f := by
  rw [sumN_but (g := upd f a (f b)) n hb (fun k _ hk => upd_ne _ _ hk), sumN_but (f := upd f a (f b)) (g := f) n ha (fun k _ hk => upd_ne _ _ hk), upd_same, upd_same, upd_ne _ _ (Ne.symm hne)]; omega

section
variable {f : List Vc → Int} (h : Alt f) {n : Nat}
include h
theorem Alt.uZero (g : Nat → Vc) {i : Nat} (hi : i < n) : f (lst n (upd g i (fun _ => 0))) = 0 := by
  have := h.uLin g hi 0 (fun _ => 0) 0 (fun _ => 0)
  rw [show Elim.lin 0 (fun _ => 0) 0 (fun _ => 0) = (fun _ => 0) by funext r; simp [Elim.lin]] at this
  omega
theorem Alt.uSum (g : Nat → Vc) {i : Nat} (hi : i < n) (c : Nat → Int) (u : Nat → Vc) : ∀ m, f (lst n (upd g i (fun r => sumN m (fun k => c k * u k r)))) = sumN m (fun k => c k * f (lst n (upd g i (u k))))
  | 0 => h.uZero g hi
  | m + 1 => by
    have e := h.uLin g hi 1 (fun r => sumN m (fun k => c k * u k r)) (c m) (u m)
    rw [show Elim.lin 1 (fun r => sumN m (fun k => c k * u k r)) (c m) (u m) = fun r => sumN (m + 1) (fun k => c k * u k r) by funext r; simp [Elim.lin, sumN]] at e
    rw [e, Alt.uSum g hi c u m, sumN]; omega
/-- Cramer's rule. -/
theorem Alt.cramer (g : Nat → Vc) {i : Nat} (hi : i < n) (c : Nat → Int) (e : Int) (w : Vc) (hw : ∀ r, e * w r = sumN n (fun k => c k * g k r)) :
    e * f (lst n (upd g i w)) = c i * f (lst n g) := by
  have h1 := h.uLin g hi e w 0 (fun _ => 0)
  rw [show Elim.lin e w 0 (fun _ => 0) = fun r => sumN n (fun k => c k * g k r) by funext r; simp [Elim.lin, hw], h.uSum g hi c g n] at h1
  rw [sumN_one n hi (fun k hk hne => by rw [h.uSame (upd g i (g k)) hi hk (Ne.symm hne) (by rw [upd_same, upd_ne _ _ hne]), Int.mul_zero]), upd_self] at h1
  omega
end

def swp {α : Type} (g : Nat → α) (a b : Nat) : Nat → α := upd (upd g a (g b)) b (g a)
theorem swp_self {α : Type} (g : Nat → α) (a : Nat) : swp g a a = g := by unfold swp; rw [upd_self, upd_self]
theorem swp_app {α β : Type} (g : Nat → α → β) (a b k : Nat) (x : α) : swp g a b k x = swp (fun k => g k x) a b k := by unfold swp upd; split <;> (try split) <;> rfl
theorem swp_map {α β : Type} (g : Nat → α) (F : α → β) (a b k : Nat) : F (swp g a b k) = swp (fun k => F (g k)) a b k := by unfold swp upd; split <;> (try split) <;> rfl
theorem swp_two {α β γ : Type} (F : α → β → γ) (m : Nat → α) (g : Nat → β) (a b k : Nat) : F (swp m a b k) (swp g a b k) = swp (fun k => F (m k) (g k)) a b k := by unfold swp upd; split <;> (try split) <;> rfl

/-- One step of the elimination without fractions. -/
def stp (M : Nat → Nat → Int) (t c : Nat) (d : Int) : Nat → Nat → Int := fun i j => if i = t then M t j else (M i j * M t c - M i c * M t j) / d
/-- What holds between two steps: each column is a combination of vectors that have the determinant d, with M's numbers. -/
structure Inv (f : List Vc → Int) (n : Nat) (W : Nat → Vc) (m : Nat) (M : Nat → Nat → Int) (d : Int) (g : Nat → Vc) : Prop where
  d0 : d ≠ 0
  dt : f (lst n g) = d ∨ f (lst n g) = -d
  eq : ∀ j, j ≤ m → ∀ r, d * W j r = sumN n (fun k => M k j * g k r)
theorem Inv.swap {f : List Vc → Int} (h : Alt f) {n : Nat} {W : Nat → Vc} {m : Nat} {M : Nat → Nat → Int} {d : Int} {g : Nat → Vc} (hI : Inv f n W m M d g) {a b : Nat} (ha : a < n) (hb : b < n) : Inv f n W m (swp M a b) d (swp g a b) := by
  by_cases e : a = b
  · subst e; rw [swp_self, swp_self]; exact hI
  · refine ⟨hI.d0, ?_, fun j hj r => ?_⟩
    · have e1 := h.uSwap g ha hb e
      have := hI.dt
      unfold swp; rw [e1]; omega
    · rw [hI.eq j hj r, ← sumN_swap _ n ha hb e]
      exact sumN_congr n (fun k _ => (swp_two (fun (x : Nat → Int) (y : Vc) => x j * y r) M g a b k).symm)
theorem Inv.val {f : List Vc → Int} (h : Alt f) {n : Nat} {W : Nat → Vc} {m : Nat} {M : Nat → Nat → Int} {d : Int} {g : Nat → Vc} (hI : Inv f n W m M d g) {i j : Nat} (hi : i < n) (hj : j ≤ m) :
    M i j = f (lst n (upd g i (W j))) ∨ M i j = - f (lst n (upd g i (W j))) := by
  have e := h.cramer g hi (fun k => M k j) d (W j) (hI.eq j hj)
  rcases hI.dt with e1 | e1
  · left
    have : d * M i j = d * f (lst n (upd g i (W j))) := by rw [e, e1]; grind
    exact Int.eq_of_mul_eq_mul_left hI.d0 this
  · right
    have : d * M i j = d * - f (lst n (upd g i (W j))) := by rw [Int.mul_neg, e, e1]; grind
    exact Int.eq_of_mul_eq_mul_left hI.d0 this
/-- The division is exact, and the invariant goes on. -/
theorem Inv.step {f : List Vc → Int} (h : Alt f) {n : Nat} {W : Nat → Vc} {m : Nat} {M : Nat → Nat → Int} {d : Int} {g : Nat → Vc} (hI : Inv f n W m M d g) {t c : Nat} (ht : t < n) (hc : c ≤ m) (hp : M t c ≠ 0) :
    (∀ i j, i < n → j ≤ m → i ≠ t → M i j * M t c - M i c * M t j = d * stp M t c d i j) ∧ Inv f n W m (stp M t c d) (M t c) (upd g t (W c)) := by
  have hd := hI.d0
  have e1 := h.cramer g ht (fun k => M k c) d (W c) (hI.eq c hc)
  have e2 : f (lst n (upd g t (W c))) = M t c ∨ f (lst n (upd g t (W c))) = - M t c := by
    rcases hI.dt with z | z
    · left; apply Int.eq_of_mul_eq_mul_left hd; rw [e1, z]; exact Int.mul_comm _ _
    · right; apply Int.eq_of_mul_eq_mul_left hd; rw [e1, z]; grind
  -- the sum over the new vectors
  have e3 : ∀ j, j ≤ m → ∀ r, (d * M t c) * W j r = sumN n (fun k => (if k = t then d * M t j else M k j * M t c - M k c * M t j) * upd g t (W c) k r) := by
    intro j hj r
    have a1 := sumN_lin (M t c) (- M t j) (fun k => M k j * g k r) (fun k => M k c * g k r) n
    rw [← hI.eq j hj r, ← hI.eq c hc r] at a1
    rw [sumN_but (g := fun k => M t c * (M k j * g k r) + -M t j * (M k c * g k r)) n ht (fun k _ hk => by rw [if_neg hk, upd_ne _ _ hk]; grind), a1, if_pos rfl, upd_same]
    grind
  have e4 : ∀ i j, i < n → j ≤ m → i ≠ t → d ∣ M i j * M t c - M i c * M t j := by
    intro i j hi hj hne
    have z := h.cramer (upd g t (W c)) hi _ (d * M t c) (W j) (e3 j hj)
    simp only [if_neg hne] at z
    rcases e2 with q | q
    · refine ⟨f (lst n (upd (upd g t (W c)) i (W j))), ?_⟩
      apply Int.eq_of_mul_eq_mul_left hp; rw [q] at z; grind
    · refine ⟨- f (lst n (upd (upd g t (W c)) i (W j))), ?_⟩
      apply Int.eq_of_mul_eq_mul_left hp; rw [q] at z; grind
  have e5 : ∀ i j, i < n → j ≤ m → i ≠ t → M i j * M t c - M i c * M t j = d * stp M t c d i j := by
    intro i j hi hj hne
    unfold stp; rw [if_neg hne]
    exact (Int.mul_ediv_cancel' (e4 i j hi hj hne)).symm
  refine ⟨e5, hp, e2, fun j hj r => ?_⟩
  apply Int.eq_of_mul_eq_mul_left hd
  rw [← sumN_mul, ← Int.mul_assoc, e3 j hj r]
  refine sumN_congr n (fun k hk => ?_)
  by_cases hne : k = t
  · subst hne; rw [if_pos rfl]; unfold stp; rw [if_pos rfl]; grind
  · rw [if_neg hne, e5 k j hk hj hne]; grind

/-- Among s numbers below m, s greater than m, two are equal. -/
theorem pigeon : ∀ (m s : Nat) (a : Nat → Nat), m < s → (∀ t, t < s → a t < m) → ∃ i k, i < k ∧ k < s ∧ a i = a k
  | 0, s, a, h, ha => absurd (ha 0 h) (Nat.not_lt_zero _)
  | m + 1, s, a, h, ha => by
    by_cases hx : ∃ t, t < s ∧ a t = m
    · obtain ⟨t0, h0, h1⟩ := hx
      by_cases hy : ∃ k, k < s ∧ k ≠ t0 ∧ a k = m
      · obtain ⟨k, k0, k1, k2⟩ := hy
        rcases Nat.lt_or_gt_of_ne k1 with z | z
        · exact ⟨k, t0, z, h0, by omega⟩
        · exact ⟨t0, k, z, k0, by omega⟩
      · have hz : ∀ k, k < s → k ≠ t0 → a k < m := fun k k0 k1 => by
          have := ha k k0
          rcases Nat.lt_or_ge (a k) m with z | z
          · exact z
          · exact absurd ⟨k, k0, k1, by omega⟩ hy
        obtain ⟨i, k, z0, z1, z2⟩ := pigeon m (s - 1) (fun t => a (if t < t0 then t else t + 1)) (by omega) (fun t ht => by
          show a (if t < t0 then t else t + 1) < m
          split
          · exact hz _ (by omega) (by omega)
          · exact hz _ (by omega) (by omega))
        refine ⟨if i < t0 then i else i + 1, if k < t0 then k else k + 1, ?_, ?_, z2⟩
        · split <;> split <;> omega
        · split <;> omega
    · obtain ⟨i, k, z0, z1, z2⟩ := pigeon m (s - 1) a (by omega) (fun t ht => by
        have := ha t (by omega)
        rcases Nat.lt_or_ge (a t) m with z | z
        · exact z
        · exact absurd ⟨t, by omega, by omega⟩ hx)
      exact ⟨i, k, z0, by omega, z2⟩
/-- Independent vectors that are combinations of some others are not more than these. -/
theorem Alt.rank {f : List Vc → Int} (h : Alt f) {n : Nat} {g : Nat → Vc} (hg : f (lst n g) ≠ 0) {s m : Nat} (hs : s ≤ n) (u : Nat → Vc)
    (hc : ∀ t, t < s → ∃ (e : Int) (c : Nat → Int), e ≠ 0 ∧ ∀ r, e * g t r = sumN m (fun k => c k * u k r)) : s ≤ m := by
  apply Nat.le_of_not_lt
  intro hlt
  have key : ∀ (q : Nat), q ≤ s → ∀ (a : Nat → Nat), (∀ t, t < s - q → a t < m) → f (lst n (fun k => if k < s - q then u (a k) else g k)) = 0 := by
    intro q
    induction q with
    | zero =>
      intro _ a ha
      obtain ⟨i, k, h0, h1, h2⟩ := pigeon m s a hlt (fun t ht => ha t (by omega))
      refine h.uSame _ (i := i) (k := k) (by omega) (by omega) (by omega) ?_
      rw [if_pos (by omega), if_pos (by omega), h2]
    | succ q ih =>
      intro hq a ha
      have hp : s - (q + 1) < n := by omega
      obtain ⟨e, c, he, hcr⟩ := hc (s - (q + 1)) (by omega)
      have e1 := h.uLin (fun k => if k < s - (q + 1) then u (a k) else g k) hp e (g (s - (q + 1))) 0 (fun _ => 0)
      rw [show Elim.lin e (g (s - (q + 1))) 0 (fun _ => 0) = fun r => sumN m (fun k => c k * u k r) by funext r; simp [Elim.lin, hcr], h.uSum _ hp c u m] at e1
      rw [sumN_zero m (fun k hk => by
        have z := ih (by omega) (fun t => if t < s - (q + 1) then a t else k) (fun t ht => by
          show (if t < s - (q + 1) then a t else k) < m
          split
          · exact ha t (by omega)
          · exact hk)
        rw [show (fun k' => if k' < s - q then u (if k' < s - (q + 1) then a k' else k) else g k') = upd (fun k' => if k' < s - (q + 1) then u (a k') else g k') (s - (q + 1)) (u k) by
          funext k'
          by_cases z1 : k' = s - (q + 1)
          · subst z1; rw [upd_same, if_pos (by omega), if_neg (by omega)]
          · rw [upd_ne _ _ z1]
            by_cases z2 : k' < s - (q + 1)
            · rw [if_pos (by omega), if_pos z2, if_pos z2]
            · rw [if_neg (by omega), if_neg z2]] at z
        rw [z, Int.mul_zero])] at e1
      have e2 : upd (fun k => if k < s - (q + 1) then u (a k) else g k) (s - (q + 1)) (g (s - (q + 1))) = fun k => if k < s - (q + 1) then u (a k) else g k := by
        have := upd_self (fun k => if k < s - (q + 1) then u (a k) else g k) (s - (q + 1))
        simpa using this
      rw [e2] at e1
      have e3 : e * f (lst n fun k => if k < s - (q + 1) then u (a k) else g k) = 0 := by omega
      rcases Int.mul_eq_zero.1 e3 with z | z
      · exact absurd z he
      · exact z
  have := key s (Nat.le_refl _) (fun _ => 0) (fun t ht => by omega)
  rw [show (fun k => if k < s - s then u 0 else g k) = g by funext k; rw [if_neg (by omega)]] at this
  exact hg this

/-! How large: each vector has a weight, and an area is at most the product of two weights. -/
section
variable (G : Vc → Nat → Prop)
inductive Wts : List Vc → List Nat → Prop
  | nil : Wts [] []
  | cons {v : Vc} {b : Nat} {vs : List Vc} {bs : List Nat} : G v b → Wts vs bs → Wts (v :: vs) (b :: bs)
def Bnd (o : List Vc → Int) (L C : Nat) : Prop := ∀ us bs, Wts G us bs → us.length = L → (o us).natAbs ≤ C * bs.prod
variable {G}
theorem Bnd.ins {o : List Vc → Int} {L C : Nat} (h : Bnd G o (L + 1) C) {v : Vc} {b : Nat} (hv : G v b) : Bnd G (fun us => o (v :: us)) L (C * b) := by
  intro us bs hw hl
  have := h (v :: us) (b :: bs) (.cons hv hw) (by simp [hl])
  simpa [Nat.mul_assoc] using this
theorem w1_bnd {f : Vc → Int} {c : Nat} (hf : ∀ v b, G v b → (f v).natAbs ≤ c * b) : ∀ (L : Nat) (vs : List Vc) (bs : List Nat) (o : List Vc → Int) (C : Nat), Wts G vs bs → vs.length = L + 1 → Bnd G o L C → (w1 f vs o).natAbs ≤ (L + 1) * (c * C * bs.prod)
  | L, [], _, _, _, _, hl, _ => by simp at hl
  | L, v :: vs, _, o, C, .cons (b := b) (bs := bs) hv hw, hl, ho => by
    have hl' : vs.length = L := by simpa using hl
    have e1 : (f v * o vs).natAbs ≤ c * C * (b :: bs).prod := by
      rw [Int.natAbs_mul]
      refine Nat.le_trans (Nat.mul_le_mul (hf v b hv) (ho vs bs hw hl')) (Nat.le_of_eq ?_)
      rw [List.prod_cons]; grind
    have e2 : (w1 f vs (fun us => o (v :: us))).natAbs ≤ L * (c * C * (b :: bs).prod) := by
      cases L with
      | zero => rw [List.length_eq_zero_iff.1 hl']; simp [w1]
      | succ L =>
        refine Nat.le_trans (w1_bnd hf L vs bs _ (C * b) hw hl' (ho.ins hv)) (Nat.le_of_eq ?_)
        rw [List.prod_cons]; grind
    rw [w1]
    have e3 := Int.natAbs_sub_le (f v * o vs) (w1 f vs (fun us => o (v :: us)))
    rw [Nat.add_mul, Nat.one_mul]
    omega
def tri : Nat → Nat
  | 0 => 1
  | n + 1 => tri n + (n + 2)
theorem w2_bnd {k : Nat} (hb : ∀ v b w q, G v b → G w q → (bt k v w).natAbs ≤ b * q) : ∀ (L : Nat) (vs : List Vc) (bs : List Nat) (o : List Vc → Int) (C : Nat), Wts G vs bs → vs.length = L + 2 → Bnd G o L C → (w2 k vs o).natAbs ≤ tri L * (C * bs.prod)
  | L, [], _, _, _, _, hl, _ => by simp at hl
  | L, v :: vs, _, o, C, .cons (b := b) (bs := bs) hv hw, hl, ho => by
    have hl' : vs.length = L + 1 := by simpa using hl
    have e1 := w1_bnd (f := bt k v) (c := b) (fun w q hq => hb v b w q hv hq) L vs bs o C hw hl' ho
    have e1' : (L + 1) * (b * C * bs.prod) = (L + 1) * (C * (b :: bs).prod) := by rw [List.prod_cons]; grind
    rw [w2]
    have e3 := Int.natAbs_add_le (w1 (bt k v) vs o) (w2 k vs (fun us => o (v :: us)))
    cases L with
    | zero =>
      obtain ⟨x, rfl⟩ := List.length_eq_one_iff.1 hl'
      have e2 : w2 k [x] (fun us => o (v :: us)) = 0 := by simp [w2, w1]
      rw [e2] at e3 ⊢
      simp only [tri] at *
      omega
    | succ L =>
      have e2 := w2_bnd hb L vs bs _ (C * b) hw hl' (ho.ins hv)
      have e2' : tri L * (C * b * bs.prod) = tri L * (C * (b :: bs).prod) := by rw [List.prod_cons]; grind
      have e4 : (L + 1 + 1) * (C * (b :: bs).prod) = (L + 2) * (C * (b :: bs).prod) := rfl
      rw [tri, Nat.add_mul]
      omega
def cst : Nat → Nat
  | 0 => 1
  | m + 1 => tri (2 * m) * cst m
theorem dt_bnd : ∀ (m : Nat), (∀ k, k < m → ∀ v b w q, G v b → G w q → (bt k v w).natAbs ≤ b * q) → Bnd G (dt m) (2 * m) (cst m)
  | 0, _ => fun us bs hw hl => by
    rw [List.length_eq_zero_iff.1 hl] at hw ⊢
    cases hw; simp [dt, cst]
  | m + 1, hb => fun us bs hw hl => by
    have := w2_bnd (hb m (by omega)) (2 * m) us bs (dt m) (cst m) hw (by omega) (dt_bnd m (fun k hk => hb k (by omega)))
    rw [cst, Nat.mul_assoc]; exact this
end
/-- An area between two ways from one knot of the square of side 12 is at most its half. -/
theorem area_le {kx ky px py qx qy : Int} (h1 : 0 ≤ kx ∧ kx ≤ 12) (h2 : 0 ≤ ky ∧ ky ≤ 12) (h3 : 0 ≤ px ∧ px ≤ 12) (h4 : 0 ≤ py ∧ py ≤ 12) (h5 : 0 ≤ qx ∧ qx ≤ 12) (h6 : 0 ≤ qy ∧ qy ≤ 12) :
    ((px - kx) * (qy - ky) - (py - ky) * (qx - kx)).natAbs ≤ 144 := by
  have e : (px - kx) * (qy - ky) - (py - ky) * (qx - kx) = px * (qy - ky) + qx * (ky - py) + kx * (py - qy) := by grind
  have one : ∀ x c : Int, 0 ≤ x ∧ x ≤ 12 → x * c ≤ 12 * max c 0 ∧ -(12 * max (-c) 0) ≤ x * c := by
    intro x c hx
    rcases Int.le_total 0 c with h | h
    · have a := Int.mul_le_mul_of_nonneg_right hx.2 h
      have b := Int.mul_nonneg hx.1 h
      omega
    · have a := Int.mul_le_mul_of_nonneg_right hx.2 (show 0 ≤ -c by omega)
      have b := Int.mul_nonneg hx.1 (show 0 ≤ -c by omega)
      rw [Int.mul_neg] at a b
      omega
  have a1 := one px (qy - ky) h3
  have a2 := one qx (ky - py) h5
  have a3 := one kx (py - qy) h1
  rw [e]
  omega

/-! The elimination, column by column. -/
/-- The first row from t on that has no 0 in column c; e rows are looked at. -/
def fnd (M : Nat → Nat → Int) (c : Nat) : Nat → Nat → Nat
  | 0, t => t
  | e + 1, t => if M t c = 0 then fnd M c e (t + 1) else t
theorem fnd_le (M : Nat → Nat → Int) (c : Nat) : ∀ e t, t ≤ fnd M c e t ∧ fnd M c e t ≤ t + e
  | 0, t => ⟨Nat.le_refl _, Nat.le_refl _⟩
  | e + 1, t => by
    rw [fnd]
    have := fnd_le M c e (t + 1)
    split <;> omega
theorem fnd_zero (M : Nat → Nat → Int) (c : Nat) : ∀ e t k, t ≤ k → k < fnd M c e t → M k c = 0
  | 0, t, k, h0, h1 => by rw [fnd] at h1; omega
  | e + 1, t, k, h0, h1 => by
    rw [fnd] at h1
    split at h1
    · by_cases hk : k = t
      · subst hk; assumption
      · exact fnd_zero M c e (t + 1) k (by omega) h1
    · omega
theorem fnd_ne (M : Nat → Nat → Int) (c : Nat) : ∀ e t, fnd M c e t < t + e → M (fnd M c e t) c ≠ 0
  | 0, t, h => by rw [fnd] at h; omega
  | e + 1, t, h => by
    rw [fnd] at h ⊢
    split
    · rename_i h0; rw [if_pos h0] at h; exact fnd_ne M c e (t + 1) (by omega)
    · assumption
structure St where
  M : Nat → Nat → Int
  d : Int
  t : Nat
  ps : Nat → Nat
  ld : Nat → Int
def col (n c : Nat) (s : St) : St :=
  if fnd s.M c (n - s.t) s.t = n then { s with ld := upd s.ld c (-1) }
  else { M := stp (swp s.M s.t (fnd s.M c (n - s.t) s.t)) s.t c s.d, d := s.M (fnd s.M c (n - s.t) s.t) c, t := s.t + 1, ps := upd s.ps s.t c, ld := upd s.ld c (s.t : Int) }
def El (n : Nat) (M0 : Nat → Nat → Int) : Nat → St
  | 0 => ⟨M0, 1, 0, fun _ => 0, fun _ => 0⟩
  | c + 1 => col n c (El n M0 c)
theorem swp_fst {α : Type} (g : Nat → α) (a b : Nat) : swp g a b a = g b := by
  unfold swp; by_cases h : a = b
  · subst h; rw [upd_same]
  · rw [upd_ne _ _ h, upd_same]
theorem swp_cases {α : Type} (g : Nat → α) (a b k : Nat) : ∃ k', (k' = k ∨ k' = a ∨ k' = b) ∧ swp g a b k = g k' := by
  unfold swp upd
  split
  · exact ⟨a, by simp, rfl⟩
  · split
    · exact ⟨b, by simp, rfl⟩
    · exact ⟨k, by simp, rfl⟩
theorem swp_out {α : Type} (g : Nat → α) {a b k : Nat} (h1 : k ≠ a) (h2 : k ≠ b) : swp g a b k = g k := by
  unfold swp; rw [upd_ne _ _ h2, upd_ne _ _ h1]
/-- What is known of the state after c columns. -/
structure ElInv (f : List Vc → Int) (n : Nat) (W : Nat → Vc) (m : Nat) (Q : Vc → Prop) (c : Nat) (s : St) (g : Nat → Vc) : Prop where
  inv : Inv f n W m s.M s.d g
  tn : s.t ≤ n
  tc : s.t ≤ c
  q : ∀ k, k < n → Q (g k)
  gp : ∀ k, k < s.t → g k = W (s.ps k)
  pl : ∀ k, k < s.t → s.ps k < c
  z : ∀ k j, k < n → j < c → s.t ≤ k → s.M k j = 0
  p : ∀ k i, k < n → i < s.t → s.M k (s.ps i) = if k = i then s.d else 0
  l0 : ∀ j, j < c → s.ld j = -1 ∨ ∃ i : Nat, i < s.t ∧ s.ld j = (i : Int) ∧ s.ps i = j
theorem El_inv {f : List Vc → Int} (h : Alt f) {n : Nat} {W : Nat → Vc} {m : Nat} {Q : Vc → Prop} {c : Nat} {s : St} {g : Nat → Vc} (hW : ∀ j, j < m → Q (W j)) (hI : ElInv f n W m Q c s g) (hc : c < m) :
    ∃ g', ElInv f n W m Q (c + 1) (col n c s) g' := by
  have hle := fnd_le s.M c (n - s.t) s.t
  have htn := hI.tn
  have htc := hI.tc
  unfold col
  by_cases e : fnd s.M c (n - s.t) s.t = n
  · rw [if_pos e]
    refine ⟨g, hI.inv, hI.tn, by show s.t ≤ c + 1; omega, hI.q, hI.gp, fun k hk => Nat.lt_succ_of_lt (hI.pl k hk), fun k j hk hj ht => ?_, hI.p, fun j hj => ?_⟩
    · by_cases hjc : j = c
      · subst hjc; exact fnd_zero s.M j (n - s.t) s.t k ht (by rw [e]; exact hk)
      · exact hI.z k j hk (by omega) ht
    · show upd s.ld c (-1) j = -1 ∨ ∃ i : Nat, i < s.t ∧ upd s.ld c (-1) j = (i : Int) ∧ s.ps i = j
      by_cases hjc : j = c
      · subst hjc; left; exact upd_same ..
      · rw [upd_ne _ _ hjc]; exact hI.l0 j (by omega)
  · rw [if_neg e]
    generalize hq : fnd s.M c (n - s.t) s.t = q at *
    have hqn : q < n := by omega
    have htq : s.t ≤ q := hle.1
    have hp : s.M q c ≠ 0 := by have := fnd_ne s.M c (n - s.t) s.t (by omega); rw [hq] at this; exact this
    have hsw := hI.inv.swap h (a := s.t) (b := q) (by omega) hqn
    have hp' : swp s.M s.t q s.t c ≠ 0 := by rw [swp_fst]; exact hp
    obtain ⟨ex, hst⟩ := hsw.step h (t := s.t) (c := c) (by omega) (by omega) hp'
    have hrow : ∀ k j, k < n → j < c → s.t ≤ k → swp s.M s.t q k j = 0 := by
      intro k j hk hj ht
      obtain ⟨k', hk', e'⟩ := swp_cases s.M s.t q k
      rw [e']; exact hI.z k' j (by omega) hj (by omega)
    have d0 := hI.inv.d0
    have hpiv : swp s.M s.t q s.t c = s.M q c := by rw [swp_fst]
    rw [hpiv] at hst ex hp'
    refine ⟨upd (swp g s.t q) s.t (W c), hst, by show s.t + 1 ≤ n; omega, by show s.t + 1 ≤ c + 1; omega, fun k hk => ?_, fun k hk => ?_, fun k hk => ?_, fun k j hk hj ht => ?_, fun k i hk hi => ?_, fun j hj => ?_⟩
    · by_cases hkt : k = s.t
      · subst hkt; rw [upd_same]; exact hW c hc
      · rw [upd_ne _ _ hkt]
        obtain ⟨k', hk', e'⟩ := swp_cases g s.t q k
        rw [e']; exact hI.q k' (by omega)
    · show upd (swp g s.t q) s.t (W c) k = W (upd s.ps s.t c k)
      have hk : k < s.t + 1 := hk
      by_cases hkt : k = s.t
      · subst hkt; rw [upd_same, upd_same]
      · rw [upd_ne _ _ hkt, upd_ne _ _ hkt, swp_out _ hkt (by omega)]; exact hI.gp k (by omega)
    · show upd s.ps s.t c k < c + 1
      have hk : k < s.t + 1 := hk
      by_cases hkt : k = s.t
      · subst hkt; rw [upd_same]; omega
      · rw [upd_ne _ _ hkt]; have := hI.pl k (by omega); omega
    · show stp (swp s.M s.t q) s.t c s.d k j = 0
      have ht : s.t + 1 ≤ k := ht
      apply Int.eq_of_mul_eq_mul_left d0
      rw [← ex k j hk (by omega) (by omega)]
      by_cases hjc : j = c
      · subst hjc; rw [hpiv]; grind
      · rw [hrow k j hk (by omega) (by omega), hrow s.t j (by omega) (by omega) (by omega)]; grind
    · show stp (swp s.M s.t q) s.t c s.d k (upd s.ps s.t c i) = if k = i then s.M q c else 0
      have hi : i < s.t + 1 := hi
      by_cases hit : i = s.t
      · subst hit
        rw [upd_same]
        by_cases hks : k = s.t
        · subst hks; rw [if_pos rfl]; unfold stp; rw [if_pos rfl, hpiv]
        · rw [if_neg hks]
          apply Int.eq_of_mul_eq_mul_left d0
          rw [← ex k c hk (by omega) hks, hpiv]; grind
      · rw [upd_ne _ _ hit]
        have hpl := hI.pl i (by omega)
        have z1 : swp s.M s.t q s.t (s.ps i) = 0 := hrow s.t _ (by omega) hpl (by omega)
        by_cases hks : k = s.t
        · subst hks; rw [if_neg (by omega)]; unfold stp; rw [if_pos rfl]; exact z1
        · apply Int.eq_of_mul_eq_mul_left d0
          rw [← ex k (s.ps i) hk (by omega) hks, z1]
          by_cases hki : k = i
          · subst hki; rw [if_pos rfl, swp_out _ hks (by omega), hI.p k k hk (by omega), if_pos rfl]; grind
          · rw [if_neg hki]
            have z2 : swp s.M s.t q k (s.ps i) = 0 := by
              by_cases hkq : s.t ≤ k
              · exact hrow k _ hk hpl hkq
              · rw [swp_out _ hks (by omega), hI.p k i hk (by omega), if_neg hki]
            rw [z2]; grind
    · show upd s.ld c (s.t : Int) j = -1 ∨ ∃ i : Nat, i < s.t + 1 ∧ upd s.ld c (s.t : Int) j = (i : Int) ∧ upd s.ps s.t c i = j
      by_cases hjc : j = c
      · subst hjc; right; exact ⟨s.t, by omega, upd_same .., upd_same ..⟩
      · rw [upd_ne _ _ hjc]
        rcases hI.l0 j (by omega) with z | ⟨i, z0, z1, z2⟩
        · exact .inl z
        · exact .inr ⟨i, by omega, z1, by rw [upd_ne _ _ (by omega)]; exact z2⟩
/-- A unit vector. -/
def ev (k : Nat) : Vc := fun r => if r = k then 1 else 0
theorem ev_sum (a : Nat → Int) (r : Nat) : ∀ n, sumN n (fun k => a k * ev k r) = if r < n then a r else 0
  | 0 => by simp [sumN]
  | n + 1 => by
    rw [sumN, ev_sum a r n]; unfold ev
    by_cases h1 : r < n
    · rw [if_pos h1, if_neg (by omega), if_pos (by omega)]; omega
    · by_cases h2 : r = n
      · subst h2; rw [if_neg h1, if_pos rfl, if_pos (by omega)]; omega
      · rw [if_neg h1, if_neg h2, if_neg (by omega)]; omega
/-- The columns of a table of n rows. -/
def clm (n : Nat) (M0 : Nat → Nat → Int) : Nat → Vc := fun j r => if r < n then M0 r j else 0
theorem El_all {f : List Vc → Int} (h : Alt f) {n : Nat} {M0 : Nat → Nat → Int} {m : Nat} {Q : Vc → Prop} (hu : f (lst n ev) = 1 ∨ f (lst n ev) = -1) (hW : ∀ j, j < m → Q (clm n M0 j)) (hQ : ∀ k, k < n → Q (ev k)) :
    ∀ c, c ≤ m → ∃ g, ElInv f n (clm n M0) m Q c (El n M0 c) g
  | 0, _ => ⟨ev, ⟨⟨by show (1 : Int) ≠ 0; omega, hu, fun j _ r => by
      show 1 * clm n M0 j r = sumN n (fun k => M0 k j * ev k r)
      rw [ev_sum, Int.one_mul]; rfl⟩, Nat.zero_le _, Nat.zero_le _, hQ, fun k hk => absurd hk (Nat.not_lt_zero _), fun k hk => absurd hk (Nat.not_lt_zero _), fun k j _ hj _ => absurd hj (Nat.not_lt_zero _), fun k i _ hi => absurd hi (Nat.not_lt_zero _), fun j hj => absurd hj (Nat.not_lt_zero _)⟩⟩
  | c + 1, hc => by
    obtain ⟨g, hg⟩ := El_all h hu hW hQ c (by omega)
    exact El_inv h hW hg (by omega)
theorem dt_ev : ∀ m, m ≤ 3 → dt m (lst (2 * m) ev) = 1 ∨ dt m (lst (2 * m) ev) = -1
  | 0, _ => by decide
  | 1, _ => by decide
  | 2, _ => by decide
  | 3, _ => by decide
/-- All columns have their pivot, or some have none. -/
theorem El_full (n : Nat) (M0 : Nat → Nat → Int) : ∀ c, ((El n M0 c).t = c ∧ ∀ j, j < c → (El n M0 c).ld j = (j : Int) ∧ (El n M0 c).ps j = j) ∨ ((El n M0 c).t < c ∧ ∃ j, j < c ∧ (El n M0 c).ld j = -1)
  | 0 => .inl ⟨rfl, fun j hj => absurd hj (Nat.not_lt_zero _)⟩
  | c + 1 => by
    rw [El]
    unfold col
    have ih := El_full n M0 c
    generalize El n M0 c = s at *
    by_cases e : fnd s.M c (n - s.t) s.t = n
    · rw [if_pos e]
      right
      refine ⟨?_, c, by omega, upd_same ..⟩
      rcases ih with h | h
      · show s.t < c + 1; omega
      · show s.t < c + 1; omega
    · rw [if_neg e]
      rcases ih with ⟨h0, h1⟩ | ⟨h0, j, h1, h2⟩
      · left
        refine ⟨by show s.t + 1 = c + 1; omega, fun j hj => ?_⟩
        show upd s.ld c (s.t : Int) j = (j : Int) ∧ upd s.ps s.t c j = j
        by_cases hj' : j = c
        · subst hj'; rw [upd_same]; subst h0; rw [upd_same]; exact ⟨rfl, rfl⟩
        · rw [upd_ne _ _ hj', upd_ne _ _ (by omega)]; exact h1 j (by omega)
      · right
        exact ⟨by show s.t + 1 < c + 1; omega, j, by omega, by show upd s.ld c _ j = -1; rw [upd_ne _ _ (by omega)]; exact h2⟩
/-- How many of the first c columns have a pivot. -/
def cntLd (ld : Nat → Int) : Nat → Nat
  | 0 => 0
  | c + 1 => cntLd ld c + if 0 ≤ ld c then 1 else 0
theorem cntLd_congr {a b : Nat → Int} : ∀ c, (∀ j, j < c → a j = b j) → cntLd a c = cntLd b c
  | 0, _ => rfl
  | c + 1, h => by rw [cntLd, cntLd, cntLd_congr c (fun j hj => h j (by omega)), h c (by omega)]
theorem El_cnt (n : Nat) (M0 : Nat → Nat → Int) : ∀ c, cntLd (El n M0 c).ld c = (El n M0 c).t
  | 0 => rfl
  | c + 1 => by
    rw [El]
    unfold col
    have ih := El_cnt n M0 c
    generalize El n M0 c = s at *
    split
    · show cntLd (upd s.ld c (-1)) c + (if 0 ≤ upd s.ld c (-1) c then 1 else 0) = s.t
      rw [upd_same, cntLd_congr c (b := s.ld) (fun j hj => upd_ne _ _ (by omega)), ih]; simp
    · show cntLd (upd s.ld c (s.t : Int)) c + (if 0 ≤ upd s.ld c (s.t : Int) c then 1 else 0) = s.t + 1
      rw [upd_same, cntLd_congr c (b := s.ld) (fun j hj => upd_ne _ _ (by omega)), ih, if_pos (by omega)]
/-- The rank of fewer columns: at most one less. -/
theorem El_rank {m' n : Nat} (h3 : m' ≤ 3) (hn : n = 2 * m') (M0 : Nat → Nat → Int) (m : Nat) : (El n (fun i j => M0 i (j + 1)) m).t ≤ (El n M0 (m + 1)).t ∧ (El n M0 (m + 1)).t ≤ (El n (fun i j => M0 i (j + 1)) m).t + 1 := by
  subst hn
  have hA := dt_alt m'
  have hu := dt_ev m' h3
  obtain ⟨g, hg⟩ := El_all (M0 := M0) (m := m + 1) (Q := fun _ => True) hA hu (fun _ _ => trivial) (fun _ _ => trivial) (m + 1) (Nat.le_refl _)
  obtain ⟨g', hg'⟩ := El_all (M0 := fun i j => M0 i (j + 1)) (m := m) (Q := fun _ => True) hA hu (fun _ _ => trivial) (fun _ _ => trivial) m (Nat.le_refl _)
  have nz : dt m' (lst (2 * m') g) ≠ 0 := by have := hg.inv.dt; have := hg.inv.d0; omega
  have nz' : dt m' (lst (2 * m') g') ≠ 0 := by have := hg'.inv.dt; have := hg'.inv.d0; omega
  have short : ∀ (t n : Nat) (c : Nat → Int) (u : Nat → Vc) (r : Nat), t ≤ n → (∀ k, k < n → t ≤ k → c k = 0) → sumN n (fun k => c k * u k r) = sumN t (fun k => c k * u k r) := by
    intro t n c u r ht hz
    induction n with
    | zero => obtain rfl : t = 0 := by omega
              rfl
    | succ n ih =>
      by_cases e : t = n + 1
      · subst e; rfl
      · rw [sumN, ih (by omega) (fun k hk => hz k (by omega)), hz n (by omega) (by omega)]; omega
  constructor
  · refine hA.rank nz' hg'.tn g (fun t ht => ?_)
    refine ⟨(El (2 * m') M0 (m + 1)).d, fun k => (El (2 * m') M0 (m + 1)).M k ((El (2 * m') (fun i j => M0 i (j + 1)) m).ps t + 1), hg.inv.d0, fun r => ?_⟩
    have hp := hg'.pl t ht
    rw [hg'.gp t ht, ← short _ _ _ _ r hg.tn (fun k hk htk => hg.z k _ hk (by omega) htk)]
    exact hg.inv.eq _ (by omega) r
  · refine hA.rank nz hg.tn (fun k => if k < (El (2 * m') (fun i j => M0 i (j + 1)) m).t then g' k else clm (2 * m') M0 0) (fun t ht => ?_)
    have hp := hg.pl t ht
    rw [hg.gp t ht]
    by_cases h0 : (El (2 * m') M0 (m + 1)).ps t = 0
    · refine ⟨1, fun k => if k = (El (2 * m') (fun i j => M0 i (j + 1)) m).t then 1 else 0, by omega, fun r => ?_⟩
      rw [h0, sumN, sumN_zero _ (fun k hk => by dsimp only; rw [if_neg (Nat.ne_of_lt hk), Int.zero_mul])]
      dsimp only
      rw [if_pos rfl, if_neg (Nat.lt_irrefl _)]; omega
    · obtain ⟨j, hj⟩ : ∃ j, (El (2 * m') M0 (m + 1)).ps t = j + 1 := ⟨_, (Nat.succ_pred_eq_of_ne_zero h0).symm⟩
      rw [hj]
      refine ⟨(El (2 * m') (fun i j => M0 i (j + 1)) m).d, fun k => if k < (El (2 * m') (fun i j => M0 i (j + 1)) m).t then (El (2 * m') (fun i j => M0 i (j + 1)) m).M k j else 0, hg'.inv.d0, fun r => ?_⟩
      rw [sumN]
      dsimp only
      rw [if_neg (Nat.lt_irrefl _), if_neg (Nat.lt_irrefl _), Int.zero_mul, Int.add_zero]
      have e := hg'.inv.eq j (by omega) r
      rw [short _ _ _ _ r hg'.tn (fun k hk htk => hg'.z k _ hk (by omega) htk)] at e
      rw [show clm (2 * m') M0 (j + 1) r = clm (2 * m') (fun i j => M0 i (j + 1)) j r from rfl, e]
      exact sumN_congr _ (fun k hk => by rw [if_pos hk, if_pos hk])
/-- With the last column doubled, the last column of what comes out is doubled. -/
theorem El_double {m' n : Nat} (h3 : m' ≤ 3) (hn : n = 2 * m') (M0 : Nat → Nat → Int) (m : Nat) : ∀ c, c ≤ m →
    (El n (fun i j => if j = m then 2 * M0 i j else M0 i j) c).d = (El n M0 c).d ∧ (El n (fun i j => if j = m then 2 * M0 i j else M0 i j) c).t = (El n M0 c).t ∧ (El n (fun i j => if j = m then 2 * M0 i j else M0 i j) c).ps = (El n M0 c).ps ∧
    (El n (fun i j => if j = m then 2 * M0 i j else M0 i j) c).ld = (El n M0 c).ld ∧ ∀ i j, i < n → j ≤ m → (El n (fun i j => if j = m then 2 * M0 i j else M0 i j) c).M i j = if j = m then 2 * (El n M0 c).M i j else (El n M0 c).M i j
  | 0, _ => ⟨rfl, rfl, rfl, rfl, fun _ _ _ _ => rfl⟩
  | c + 1, hc => by
    obtain ⟨i1, i2, i3, i4, i5⟩ := El_double h3 hn M0 m c (by omega)
    have hA := dt_alt m'
    have hu := dt_ev m' h3
    obtain ⟨g, hg⟩ := El_all (n := n) (M0 := M0) (m := m) (Q := fun _ => True) hA (by subst hn; exact hu) (fun _ _ => trivial) (fun _ _ => trivial) c (by omega)
    rw [El, El]
    generalize El n (fun i j => if j = m then 2 * M0 i j else M0 i j) c = s' at *
    generalize El n M0 c = s at *
    have ef : ∀ e t, t + e ≤ n → fnd s'.M c e t = fnd s.M c e t := by
      intro e
      induction e with
      | zero => intro t _; rfl
      | succ e ih => intro t ht; rw [fnd, fnd, i5 t c (by omega) (by omega), if_neg (show ¬ c = m by omega), ih (t + 1) (by omega)]
    have htn := hg.tn
    unfold col
    rw [i2, ef _ _ (by omega)]
    have hle := fnd_le s.M c (n - s.t) s.t
    by_cases e : fnd s.M c (n - s.t) s.t = n
    · rw [if_pos e, if_pos e]
      exact ⟨i1, rfl, i3, by show upd s'.ld c (-1) = upd s.ld c (-1); rw [i4], i5⟩
    · rw [if_neg e, if_neg e]
      generalize hq : fnd s.M c (n - s.t) s.t = q at *
      have hqn : q < n := by omega
      have hp : s.M q c ≠ 0 := by have := fnd_ne s.M c (n - s.t) s.t (by omega); rw [hq] at this; exact this
      have hsw := hg.inv.swap hA (a := s.t) (b := q) (by omega) hqn
      have hp' : swp s.M s.t q s.t c ≠ 0 := by rw [swp_fst]; exact hp
      obtain ⟨ex, _⟩ := hsw.step hA (t := s.t) (c := c) (by omega) (by omega) hp'
      have sw : ∀ i j, i < n → j ≤ m → swp s'.M s.t q i j = if j = m then 2 * swp s.M s.t q i j else swp s.M s.t q i j := by
        intro i j hi hj
        rw [swp_app, swp_app]
        unfold swp upd
        split
        · exact i5 _ _ (by omega) hj
        · split
          · exact i5 _ _ (by omega) hj
          · exact i5 _ _ hi hj
      refine ⟨?_, rfl, by show upd s'.ps s.t c = upd s.ps s.t c; rw [i3], by show upd s'.ld c _ = upd s.ld c _; rw [i4], fun i j hi hj => ?_⟩
      · show s'.M q c = s.M q c
        rw [i5 q c hqn (by omega), if_neg (by omega)]
      · show stp (swp s'.M s.t q) s.t c s'.d i j = if j = m then 2 * stp (swp s.M s.t q) s.t c s.d i j else stp (swp s.M s.t q) s.t c s.d i j
        rw [i1]
        by_cases hit : i = s.t
        · unfold stp; rw [if_pos hit, if_pos hit]; exact sw _ _ (by omega) hj
        · have x := ex i j hi hj hit
          have d0 := hg.inv.d0
          by_cases hjm : j = m
          · rw [if_pos hjm]
            conv => lhs; unfold stp
            rw [if_neg hit, sw i j hi hj, sw s.t c (by omega) (by omega), sw i c hi (by omega), sw s.t j (by omega) hj, if_pos hjm, if_neg (show ¬ c = m by omega), if_neg (show ¬ c = m by omega), if_pos hjm]
            rw [show 2 * swp s.M s.t q i j * swp s.M s.t q s.t c - swp s.M s.t q i c * (2 * swp s.M s.t q s.t j) = s.d * (2 * stp (swp s.M s.t q) s.t c s.d i j) by grind]
            exact Int.mul_ediv_cancel_left _ d0
          · rw [if_neg hjm]
            unfold stp
            rw [if_neg hit, if_neg hit, sw i j hi hj, sw s.t c (by omega) (by omega), sw i c hi (by omega), sw s.t j (by omega) hj, if_neg hjm, if_neg (show ¬ c = m by omega), if_neg (show ¬ c = m by omega), if_neg hjm]

/-! How large the numbers are. -/
/-- A column's two numbers at a knot: a way from the knot to a point of the square, or a unit, or nothing. -/
def Lt (m : Nat) (kx ky : Nat → Int) (v : Vc) : Prop := ∀ k, k < m → ((0 ≤ v (2 * k) + kx k ∧ v (2 * k) + kx k ≤ 12) ∧ (0 ≤ v (2 * k + 1) + ky k ∧ v (2 * k + 1) + ky k ≤ 12)) ∨ (v (2 * k)).natAbs + (v (2 * k + 1)).natAbs ≤ 1
def Wg (m : Nat) (kx ky : Nat → Int) (v : Vc) (b : Nat) : Prop := (b = 12 ∧ Lt m kx ky v) ∨ (b = 200 ∧ ∀ r, (v r).natAbs ≤ 100)
theorem mul_abs {x y : Int} {a b : Nat} (h1 : x.natAbs ≤ a) (h2 : y.natAbs ≤ b) : (x * y).natAbs ≤ a * b := by
  rw [Int.natAbs_mul]; exact Nat.mul_le_mul h1 h2
theorem bt_wg {m : Nat} {kx ky : Nat → Int} (hk : ∀ k, k < m → (0 ≤ kx k ∧ kx k ≤ 12) ∧ (0 ≤ ky k ∧ ky k ≤ 12)) : ∀ k, k < m → ∀ v b w q, Wg m kx ky v b → Wg m kx ky w q → (bt k v w).natAbs ≤ b * q := by
  intro k hkm v b w q hv hw
  obtain ⟨h1, h2⟩ := hk k hkm
  have lt : ∀ {v}, Lt m kx ky v → (v (2 * k)).natAbs ≤ 12 ∧ (v (2 * k + 1)).natAbs ≤ 12 := by
    intro v hv
    rcases hv k hkm with z | z <;> omega
  have lh : ∀ (x y z u : Int) (a b : Nat), x.natAbs ≤ a → y.natAbs ≤ a → z.natAbs ≤ b → u.natAbs ≤ b → (x * u - y * z).natAbs ≤ 2 * (a * b) := by
    intro x y z u a b hx hy hz hu
    have e1 := mul_abs hx hu
    have e2 := mul_abs hy hz
    have := Int.natAbs_sub_le (x * u) (y * z)
    omega
  have small : ∀ (x y z u : Int), x.natAbs ≤ 12 → y.natAbs ≤ 12 → z.natAbs + u.natAbs ≤ 1 → (x * u - y * z).natAbs ≤ 144 := by
    intro x y z u hx hy hz
    have e1 : (x * u).natAbs ≤ 12 * u.natAbs := mul_abs hx (Nat.le_refl _)
    have e2 : (y * z).natAbs ≤ 12 * z.natAbs := mul_abs hy (Nat.le_refl _)
    have := Int.natAbs_sub_le (x * u) (y * z)
    omega
  unfold bt
  rcases hv with ⟨rfl, hv⟩ | ⟨rfl, hv⟩
  · have lv := lt hv
    rcases hw with ⟨rfl, hw⟩ | ⟨rfl, hw⟩
    · have lw := lt hw
      rcases hw k hkm with z2 | z2
      · rcases hv k hkm with z1 | z1
        · have := area_le h1 h2 z1.1 z1.2 z2.1 z2.2
          simp only [Int.add_sub_cancel] at this
          exact this
        · have e := small (w (2 * k)) (w (2 * k + 1)) (v (2 * k)) (v (2 * k + 1)) lw.1 lw.2 z1
          rw [show v (2 * k) * w (2 * k + 1) - v (2 * k + 1) * w (2 * k) = -(w (2 * k) * v (2 * k + 1) - w (2 * k + 1) * v (2 * k)) by grind, Int.natAbs_neg]
          exact e
      · exact small _ _ _ _ lv.1 lv.2 z2
    · have e := lh (v (2 * k)) (v (2 * k + 1)) (w (2 * k)) (w (2 * k + 1)) 12 100 lv.1 lv.2 (hw _) (hw _)
      omega
  · rcases hw with ⟨rfl, hw⟩ | ⟨rfl, hw⟩
    · have lw := lt hw
      have e := lh (v (2 * k)) (v (2 * k + 1)) (w (2 * k)) (w (2 * k + 1)) 100 12 (hv _) (hv _) lw.1 lw.2
      omega
    · have e := lh (v (2 * k)) (v (2 * k + 1)) (w (2 * k)) (w (2 * k + 1)) 100 100 (hv _) (hv _) (hw _) (hw _)
      omega
theorem Wts_map {G : Vc → Nat → Prop} (g : Nat → Vc) (b : Nat → Nat) : ∀ l : List Nat, (∀ k, k ∈ l → G (g k) (b k)) → Wts G (l.map g) (l.map b)
  | [], _ => .nil
  | k :: l, h => .cons (h k (by simp)) (Wts_map g b l (fun k hk => h k (by simp [hk])))
theorem cst12 : ∀ m, m ≤ 3 → cst m * ((List.range (2 * m)).map (fun _ => 12)).prod ≤ 268738560
  | 0, _ => by decide
  | 1, _ => by decide
  | 2, _ => by decide
  | 3, _ => by decide
theorem cst200 : ∀ m, m ≤ 3 → ∀ i, i < 2 * m → cst m * ((List.range (2 * m)).map (upd (fun _ => 12) i 200)).prod ≤ 4478976000
  | 0, _ => by decide
  | 1, _ => by decide
  | 2, _ => by decide
  | 3, _ => by decide
theorem ev_lt {m : Nat} {kx ky : Nat → Int} (k : Nat) : Lt m kx ky (ev k) := by
  intro i _
  right
  unfold ev
  split <;> split <;> simp <;> omega
/-- What holds of the state after c columns, and how large its numbers are. -/
theorem El_bnd {m' n : Nat} (h3 : m' ≤ 3) (hn : n = 2 * m') {M0 : Nat → Nat → Int} {m : Nat} {kx ky : Nat → Int} (hk : ∀ k, k < m' → (0 ≤ kx k ∧ kx k ≤ 12) ∧ (0 ≤ ky k ∧ ky k ≤ 12))
    (hb : ∀ j, j < m → Lt m' kx ky (clm n M0 j)) (hl : ∀ i, i < n → (M0 i m).natAbs ≤ 100) {c : Nat} (hc : c ≤ m) :
    ∃ g, ElInv (dt m') n (clm n M0) m (Lt m' kx ky) c (El n M0 c) g ∧ (El n M0 c).d.natAbs ≤ 268738560 ∧ (∀ i j, i < n → j < m → ((El n M0 c).M i j).natAbs ≤ 268738560) ∧ ∀ i, i < n → ((El n M0 c).M i m).natAbs ≤ 4478976000 := by
  subst hn
  have hA := dt_alt m'
  obtain ⟨g, hg⟩ := El_all hA (dt_ev m' h3) hb (fun k _ => ev_lt (m := m') (kx := kx) (ky := ky) k) c hc
  have hB := dt_bnd (G := Wg m' kx ky) m' (bt_wg hk)
  have l12 : ∀ g' : Nat → Vc, (∀ k, k < 2 * m' → Lt m' kx ky (g' k)) → (dt m' (lst (2 * m') g')).natAbs ≤ 268738560 := by
    intro g' hq
    have := hB (lst (2 * m') g') _ (Wts_map g' (fun _ => 12) _ (fun k hk => .inl ⟨rfl, hq k (List.mem_range.1 hk)⟩)) (lst_length _ _)
    exact Nat.le_trans this (cst12 m' h3)
  refine ⟨g, hg, ?_, fun i j hi hj => ?_, fun i hi => ?_⟩
  · have e := l12 g hg.q
    rcases hg.inv.dt with z | z
    · rw [z] at e; exact e
    · rw [z, Int.natAbs_neg] at e; exact e
  · have e := l12 (upd g i (clm (2 * m') M0 j)) (fun k hk => by
      by_cases hki : k = i
      · subst hki; rw [upd_same]; exact hb j hj
      · rw [upd_ne _ _ hki]; exact hg.q k hk)
    rcases hg.inv.val hA hi (Nat.le_of_lt hj) with z | z
    · rw [z]; exact e
    · rw [z, Int.natAbs_neg]; exact e
  · have e := hB (lst (2 * m') (upd g i (clm (2 * m') M0 m))) _ (Wts_map _ (upd (fun _ => 12) i 200) _ (fun k hk => by
      have hk := List.mem_range.1 hk
      by_cases hki : k = i
      · subst hki; rw [upd_same, upd_same]
        refine .inr ⟨rfl, fun r => ?_⟩
        unfold clm
        split
        · rename_i hr; exact hl r hr
        · simp
      · rw [upd_ne _ _ hki, upd_ne _ _ hki]; exact .inl ⟨rfl, hg.q k hk⟩)) (lst_length _ _)
    have e := Nat.le_trans e (cst200 m' h3 i hi)
    rcases hg.inv.val hA hi (Nat.le_refl _) with z | z
    · rw [z]; exact e
    · rw [z, Int.natAbs_neg]; exact e

/-- With a pivot in each row nothing more happens. -/
theorem El_stop (n : Nat) (M0 : Nat → Nat → Int) {c : Nat} (h : (El n M0 c).t = n) : ∀ e, (El n M0 (c + e)).M = (El n M0 c).M ∧ (El n M0 (c + e)).d = (El n M0 c).d ∧ (El n M0 (c + e)).t = n
  | 0 => ⟨rfl, rfl, h⟩
  | e + 1 => by
    obtain ⟨h1, h2, h3⟩ := El_stop n M0 h e
    show (col n (c + e) (El n M0 (c + e))).M = _ ∧ (col n (c + e) (El n M0 (c + e))).d = _ ∧ (col n (c + e) (El n M0 (c + e))).t = n
    unfold col
    rw [h3, Nat.sub_self, fnd, if_pos rfl]
    exact ⟨h1, h2, rfl⟩
/-- What a walk through the elimination asks of its numbers. -/
structure Fit (n m : Nat) (M0 : Nat → Nat → Int) : Prop where
  n6 : n ≤ 6
  d0 : ∀ c, c ≤ m → (El n M0 c).d ≠ 0
  dB : ∀ c, c ≤ m → (El n M0 c).d.natAbs ≤ 268738560
  tn : ∀ c, c ≤ m → (El n M0 c).t ≤ n
  tc : ∀ c, c ≤ m → (El n M0 c).t ≤ c
  mB : ∀ c i j, c ≤ m → i < n → j < m → ((El n M0 c).M i j).natAbs ≤ 268738560
  lB : ∀ c i j, c ≤ m → i < n → j ≤ m → ((El n M0 c).M i j).natAbs ≤ 4478976000
  ex : ∀ c i j, c < m → fnd (El n M0 c).M c (n - (El n M0 c).t) (El n M0 c).t ≠ n → i < n → j ≤ m → i ≠ (El n M0 c).t →
    swp (El n M0 c).M (El n M0 c).t (fnd (El n M0 c).M c (n - (El n M0 c).t) (El n M0 c).t) i j * swp (El n M0 c).M (El n M0 c).t (fnd (El n M0 c).M c (n - (El n M0 c).t) (El n M0 c).t) (El n M0 c).t c -
      swp (El n M0 c).M (El n M0 c).t (fnd (El n M0 c).M c (n - (El n M0 c).t) (El n M0 c).t) i c * swp (El n M0 c).M (El n M0 c).t (fnd (El n M0 c).M c (n - (El n M0 c).t) (El n M0 c).t) (El n M0 c).t j = (El n M0 c).d * (El n M0 (c + 1)).M i j
theorem Fit.of {m' n : Nat} (h3 : m' ≤ 3) (hn : n = 2 * m') {M0 : Nat → Nat → Int} {m : Nat} {kx ky : Nat → Int} (hk : ∀ k, k < m' → (0 ≤ kx k ∧ kx k ≤ 12) ∧ (0 ≤ ky k ∧ ky k ≤ 12))
    (hb : ∀ j, j < m → Lt m' kx ky (clm n M0 j)) (hl : ∀ i, i < n → (M0 i m).natAbs ≤ 100) : Fit n m M0 := by
  have hA := dt_alt m'
  refine ⟨by omega, fun c hc => ?_, fun c hc => ?_, fun c hc => ?_, fun c hc => ?_, fun c i j hc hi hj => ?_, fun c i j hc hi hj => ?_, fun c i j hc hf hi hj hit => ?_⟩
  · obtain ⟨g, hg, _⟩ := El_bnd h3 hn hk hb hl hc; exact hg.inv.d0
  · obtain ⟨g, hg, h1, _⟩ := El_bnd h3 hn hk hb hl hc; exact h1
  · obtain ⟨g, hg, _⟩ := El_bnd h3 hn hk hb hl hc; exact hg.tn
  · obtain ⟨g, hg, _⟩ := El_bnd h3 hn hk hb hl hc; exact hg.tc
  · obtain ⟨g, hg, _, h2, _⟩ := El_bnd h3 hn hk hb hl hc; exact h2 i j hi hj
  · obtain ⟨g, hg, _, h2, h4⟩ := El_bnd h3 hn hk hb hl hc
    by_cases e : j = m
    · rw [e]; exact h4 i hi
    · have := h2 i j hi (by omega); omega
  · obtain ⟨g, hg, _⟩ := El_bnd h3 hn hk hb hl (Nat.le_of_lt hc)
    have hle := fnd_le (El n M0 c).M c (n - (El n M0 c).t) (El n M0 c).t
    have htn := hg.tn
    have hp := fnd_ne (El n M0 c).M c (n - (El n M0 c).t) (El n M0 c).t (by omega)
    have hsw := hg.inv.swap hA (a := (El n M0 c).t) (b := fnd (El n M0 c).M c (n - (El n M0 c).t) (El n M0 c).t) (by omega) (by omega)
    obtain ⟨ex, _⟩ := hsw.step hA (t := (El n M0 c).t) (c := c) (by omega) (by omega) (by rw [swp_fst]; exact hp)
    have e := ex i j hi hj hit
    rw [e]
    congr 1
    show _ = (col n c (El n M0 c)).M i j
    unfold col
    rw [if_neg hf]
/-- The state behind a column with a pivot. -/
theorem El_piv (n : Nat) (M0 : Nat → Nat → Int) (c : Nat) (hf : fnd (El n M0 c).M c (n - (El n M0 c).t) (El n M0 c).t ≠ n) :
    (El n M0 (c + 1)).d = (El n M0 c).M (fnd (El n M0 c).M c (n - (El n M0 c).t) (El n M0 c).t) c ∧ (El n M0 (c + 1)).t = (El n M0 c).t + 1 ∧
    (∀ j, (El n M0 (c + 1)).M (El n M0 c).t j = (El n M0 c).M (fnd (El n M0 c).M c (n - (El n M0 c).t) (El n M0 c).t) j) := by
  show (col n c (El n M0 c)).d = _ ∧ (col n c (El n M0 c)).t = _ ∧ (∀ j, (col n c (El n M0 c)).M _ j = _)
  unfold col
  rw [if_neg hf]
  refine ⟨rfl, rfl, fun j => ?_⟩
  show stp _ _ _ _ _ _ = _
  unfold stp
  rw [if_pos rfl, swp_fst]
theorem El_skip (n : Nat) (M0 : Nat → Nat → Int) (c : Nat) (hf : fnd (El n M0 c).M c (n - (El n M0 c).t) (El n M0 c).t = n) :
    (El n M0 (c + 1)).d = (El n M0 c).d ∧ (El n M0 (c + 1)).t = (El n M0 c).t ∧ (El n M0 (c + 1)).M = (El n M0 c).M := by
  show (col n c (El n M0 c)).d = _ ∧ (col n c (El n M0 c)).t = _ ∧ (col n c (El n M0 c)).M = _
  unfold col
  rw [if_pos hf]
  exact ⟨rfl, rfl, rfl⟩
end Go.Proofs.Ytebbdadpgapobaa.Elim
