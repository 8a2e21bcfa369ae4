import Derived.Shelf.Strings.IndexAnyAll
import Derived.Shelf.Small.Utf8
import Derived.Lib.OthersKept
import Derived.Laws.RangeAny
import Derived.Below
import Derived.Test.YtifdihbndlmgpaaGreatDoorShelf
import Derived.RegionTactic
import Derived.Deep.RegionWith
import Derived.Laws.Runes
namespace Go.Proofs.YtifdihbndlmgpaaGreatDoor.AnyMore
open Go.Shelf Go.RowKit Go.Lib
variable {ρ : Ren}

/-- The encoding of a rune of 128 or more: two bytes or more, the last one 128 or more. -/
theorem encode_high (r : Int) (h : 128 ≤ r) : (2 ≤ (Utf8.encode r).size ∧ (Utf8.encode r).size ≤ 4) ∧ ∀ i, (hi : i < (Utf8.encode r).size) → 0 < i → 128 ≤ ((Utf8.encode r)[i]'hi).toNat := by
  have hc : 128 ≤ (if Utf8.valid r then r.toNat else Utf8.runeError) := by
    split
    · omega
    · decide
  suffices key : ∀ e, Utf8.encode r = e → (2 ≤ e.size ∧ e.size ≤ 4) ∧ ∀ i, (hi : i < e.size) → 0 < i → 128 ≤ (e[i]'hi).toNat from key _ rfl
  intro e he
  unfold Utf8.encode at he
  generalize (if Utf8.valid r then r.toNat else Utf8.runeError) = c at hc he
  simp only [] at he
  rw [if_neg (by omega)] at he
  have hb : ∀ n, 128 ≤ n → n < 192 → 128 ≤ (UInt8.ofNat n).toNat := fun n h1 h2 => by rw [UInt8.toNat_ofNat']; omega
  split at he
  · subst he
    refine ⟨⟨by show 2 ≤ 2; omega, by show 2 ≤ 4; omega⟩, fun i hi h0 => ?_⟩
    match i, hi, h0 with
    | 1, _, _ => exact hb _ (by omega) (by omega)
    | i + 2, hi, _ => exact absurd (show i + 2 < 2 from hi) (by omega)
  split at he
  · subst he
    refine ⟨⟨by show 2 ≤ 3; omega, by show 3 ≤ 4; omega⟩, fun i hi h0 => ?_⟩
    match i, hi, h0 with
    | 1, _, _ => exact hb _ (by omega) (by omega)
    | 2, _, _ => exact hb _ (by omega) (by omega)
    | i + 3, hi, _ => exact absurd (show i + 3 < 3 from hi) (by omega)
  · subst he
    refine ⟨⟨by show 2 ≤ 4; omega, by show 4 ≤ 4; omega⟩, fun i hi h0 => ?_⟩
    match i, hi, h0 with
    | 1, _, _ => exact hb _ (by omega) (by omega)
    | 2, _, _ => exact hb _ (by omega) (by omega)
    | 3, _, _ => exact hb _ (by omega) (by omega)
    | i + 4, hi, _ => exact absurd (show i + 4 < 4 from hi) (by omega)

/-- What a rune of 128 or more takes up: bytes of 128 or more, no more than there are. -/
theorem decode_all_high (s : ByteArray) (pos : Nat) (h : pos < s.size) (ha : 128 ≤ (s[pos]'h).toNat) :
    128 ≤ (Utf8.decode s pos).1 ∧ 1 ≤ (Utf8.decode s pos).2 ∧ pos + (Utf8.decode s pos).2 ≤ s.size ∧ ∀ j, pos ≤ j → j < pos + (Utf8.decode s pos).2 → 128 ≤ (s.get! j).toNat := by
  have e0 : s.get! (pos + 0) = s[pos]'h := get_at s pos h
  have hn : ¬ (s.get! (pos + 0)).toNat < 128 := by rw [e0]; omega
  have h0 : 128 ≤ (s.get! pos).toNat := by have := e0 ▸ ha; simpa using this
  obtain ⟨d1, d2⟩ := decode_high s pos h ha
  refine ⟨d1, d2, ?_⟩
  clear d1 d2
  have one : ∀ r : Nat, pos + (r, 1).2 ≤ s.size ∧ ∀ j, pos ≤ j → j < pos + ((r, 1) : Nat × Nat).2 → 128 ≤ (s.get! j).toNat := fun r => ⟨by simp only []; omega, fun j h1 h2 => by
    have : j = pos := by simp only [] at h2; omega
    rw [this]; exact h0⟩
  have cn : ∀ k, (decide (pos + k < s.size) && (s.get! (pos + k)).toNat / 64 == 2) = true → pos + k < s.size ∧ 128 ≤ (s.get! (pos + k)).toNat := fun k hk => by
    simp only [Bool.and_eq_true, decide_eq_true_eq, beq_iff_eq] at hk
    exact ⟨hk.1, by omega⟩
  have more : ∀ (r m : Nat), (∀ k, k < m → 0 < k → pos + k < s.size ∧ 128 ≤ (s.get! (pos + k)).toNat) → 2 ≤ m → pos + ((r, m) : Nat × Nat).2 ≤ s.size ∧ ∀ j, pos ≤ j → j < pos + ((r, m) : Nat × Nat).2 → 128 ≤ (s.get! j).toNat := fun r m hm h2 => by
    refine ⟨?_, fun j j1 j2 => ?_⟩
    · have := (hm (m - 1) (by omega) (by omega)).1
      show pos + m ≤ s.size
      omega
    · by_cases e : j = pos
      · rw [e]; exact h0
      · have := (hm (j - pos) (by have : j < pos + m := j2; omega) (by omega)).2
        rwa [show pos + (j - pos) = j by omega] at this
  unfold Utf8.decode
  simp only []
  rw [if_neg hn]
  split
  · rename_i c
    simp only [Bool.and_eq_true] at c
    split
    · exact more _ 2 (fun k k1 k2 => by obtain rfl : k = 1 := by omega
                                        exact cn 1 (by simp only [Bool.and_eq_true]; exact c.2)) (by omega)
    · exact one _
  split
  · rename_i c
    simp only [Bool.and_eq_true] at c
    split
    · exact more _ 3 (fun k k1 k2 => by
        rcases (show k = 1 ∨ k = 2 by omega) with rfl | rfl
        · exact cn 1 (by simp only [Bool.and_eq_true]; exact c.1.2)
        · exact cn 2 (by simp only [Bool.and_eq_true]; exact c.2)) (by omega)
    · exact one _
  split
  · rename_i c
    simp only [Bool.and_eq_true] at c
    split
    · exact more _ 4 (fun k k1 k2 => by
        rcases (show k = 1 ∨ k = 2 ∨ k = 3 by omega) with rfl | rfl | rfl
        · exact cn 1 (by simp only [Bool.and_eq_true]; exact c.1.1.2)
        · exact cn 2 (by simp only [Bool.and_eq_true]; exact c.1.2)
        · exact cn 3 (by simp only [Bool.and_eq_true]; exact c.2)) (by omega)
    · exact one _
  · exact one _
/-- The two marks. -/
def marks : ByteArray := ⟨#[60, 62]⟩

set_option maxHeartbeats 4000000 in
set_option maxRecDepth 1000000 in
theorem strings_IndexRune_high (L : Lays.n152 Tryz.prog ρ) (r : Int) (w : World) (h0 : 128 ≤ r) (h1 : r ≤ 2147483647) :
    Calls Tryz.prog (ρ.f 152) #[.string marks, .int .i32 r] w fun e w' => e = .returned (.int .i64 (-1)) ∧ Below w.heap.size w w' := by
  have t3 := L.t3; have a3 := L.a3; have z3 := L.z3; have v3 := L.v3
  have t4 := L.t4; have a4 := L.a4; have z4 := L.z4; have v4 := L.v4
  have t5 := L.t5; have a5 := L.a5; have z5 := L.z5; have v5 := L.v5
  have t9 := L.t9; have a9 := L.a9; have z9 := L.z9; have v9 := L.v9
  have t21 := L.t21; have a21 := L.a21; have z21 := L.z21; have v21 := L.v21
  have e137 : ∀ args w, (callFunc (ρ.f 137) args).run Tryz.prog w = .ok (.enter (ρ.f 137) args) w := enters_of L.f137 (by kernel_rfl) rfl
  have e119 : ∀ args w, (callFunc (ρ.f 119) args).run Tryz.prog w = .ok (.enter (ρ.f 119) args) w := enters_of L.f119 (by kernel_rfl) rfl
  have hr0 : ¬ r < 128 := by omega
  have mixed := L.mixed
  have u3 := run_underlying L.t3; have u4 := run_underlying L.t4; have u5 := run_underlying L.t5; have u9 := run_underlying L.t9
  go_enter L.f152, Body.n152_ntmps ρ
  by_cases he : r = 65533
  · subst he
    go_wp2
    go_loopg [5, 6] 2 (fun g _ _ wx => ∃ i : Nat, i + g = 2 ∧ wx = w.iter marks i)
    case atStart => exact ⟨0, rfl, rfl⟩
    case round =>
      obtain ⟨i, hig, rfl⟩ := hrel
      cases gk with
      | zero =>
        obtain rfl : i = 2 := by omega
        have hnx := fun ty => run_next_end (P := Tryz.prog) w marks 2 ty (by decide)
        go_wp2
        go_ret
        exact ⟨rfl, (Below.refl _ _).alloc (Nat.le_refl _) _⟩
      | succ g =>
        have hi : i < marks.size := by show i < 2; omega
        rcases (show i = 0 ∨ i = 1 by omega) with rfl | rfl
        · have hnx := fun ty => run_next_ascii (P := Tryz.prog) w marks 0 ty (by decide) (by decide)
          go_wp2
          go_roundg g
          case measure => omega
          case rel => exact ⟨1, by omega, rfl⟩
        · have hnx := fun ty => run_next_ascii (P := Tryz.prog) w marks 1 ty (by decide) (by decide)
          go_wp2
          go_roundg g
          case measure => omega
          case rel => exact ⟨2, by omega, rfl⟩
  · by_cases hv : Lib.validRune r = true
    · go_wp2_with (go_at_fn (ρ.f 119); refine (Any.utf8_ValidRune { L with } _ _).mono ?_; rintro e w' ⟨rfl, hw⟩; rw [hw, hv])
      obtain ⟨n2, nh⟩ := encode_high r h0
      have hcv : ∀ w, (convert (ρ.t 21) (ρ.t 9) (.int .i32 r)).run Tryz.prog w = .ok (.string (Utf8.encode r)) w := fun w => run_convert_int_string w _ _ _ _ (by rw [t21]; rfl) t9
      generalize Utf8.encode r = q at n2 nh hcv
      clear hw
      rcases (show q.size = 2 ∨ q.size = 3 ∨ q.size = 4 by omega) with e | e | e
      · have hx : 128 ≤ (q[1]'(by omega)).toNat := nh 1 (by omega) (by omega)
        have hq1 : q[1]? = some (q[1]'(by omega)) := getElem?_pos q 1 (by omega)
        generalize hz : q[1]'(by omega) = x at hx hq1
        clear nh n2
        have hms : (marks.size : Int) = 2 := rfl
        have hi1 : ∀ w, (Instr.index (ρ.t 9) (.string marks) (.int .i64 1)).run Tryz.prog w = .ok (.int .u8 62) w := fun w => by rw [run_index_string w (ρ.t 9) marks .i64 1 t9, dif_pos (by decide)]; rfl
        have hi2 : ∀ w, (Instr.index (ρ.t 9) (.string q) (.int .i64 1)).run Tryz.prog w = .ok (.int .u8 x.toNat) w := fun w => by rw [run_index_string w (ρ.t 9) q .i64 1 t9, dif_pos (by omega)]; exact congrArg (fun z : UInt8 => Result.ok (Value.int .u8 z.toNat) w) hz
        have hsl : ∀ w, (Instr.slice (ρ.t 9) (.string marks) (some (.int .i64 2)) none none).run Tryz.prog w = .ok (.string (marks.extract 2 2)) w := fun w => by rw [run_slice_string_from_if w (ρ.t 9) marks .i64 2 t9, if_pos (by decide)]; rfl
        have hib : Lib.indexByte (List.take (marks.size - 2) (List.drop 2 marks.data.toList)) x = -1 := rfl
        clear hz hq1
        have hne : ((62 : Int) == (x.toNat : Int)) = false := beq_eq_false_iff_ne.2 (by omega)
        go_step3
        go_wp2
        go_loopg [9] 0 (fun _ s9 wx => s9 = .int .i64 1 ∧ wx = w)
        case atStart => exact ⟨rfl, rfl⟩
        case round =>
          obtain ⟨rfl, rfl⟩ := hrel
          go_wp2
          go_step3
          go_wp2
          go_region
          go_wp2
          go_region_with (go_at_fn (ρ.f 137); refine (Any.strings_IndexByte { L with } _ _ _).mono ?_; rintro e w' ⟨rfl, hw⟩; rw [hw])
          all_goals
            go_wp2
            rw [Exit.noGoto_ret]
            go_wp2
            rw [Exit.noGoto_ret]
            go_ret
            exact ⟨rfl, ((Below.refl _ _).drew).drew⟩
      · clear nh n2
        go_step3
        go_wp2
        go_loopg [9] 0 (fun _ s9 wx => s9 = .int .i64 2 ∧ wx = w)
        case atStart => exact ⟨rfl, rfl⟩
        case round =>
          obtain ⟨rfl, rfl⟩ := hrel
          go_wp2
          rw [Exit.noGoto_ret]
          go_ret
          exact ⟨rfl, Below.refl _ _⟩
      · clear nh n2
        go_step3
        go_wp2
        go_loopg [9] 0 (fun _ s9 wx => s9 = .int .i64 3 ∧ wx = w)
        case atStart => exact ⟨rfl, rfl⟩
        case round =>
          obtain ⟨rfl, rfl⟩ := hrel
          go_wp2
          rw [Exit.noGoto_ret]
          go_ret
          exact ⟨rfl, Below.refl _ _⟩
    · go_wp2_with (go_at_fn (ρ.f 119); refine (Any.utf8_ValidRune { L with } _ _).mono ?_; rintro e w' ⟨rfl, hw⟩; rw [hw, eq_false_of_ne_true hv])
      go_ret
      exact ⟨rfl, Below.refl _ _⟩

set_option maxHeartbeats 8000000 in
set_option maxRecDepth 1000000 in
/-- s of at most 8 bytes, whatever they are. -/
theorem strings_IndexAny_few (L : Lays.n153 Tryz.prog ρ) (s : ByteArray) (w : World) (h8 : s.size ≤ 8) :
    Calls Tryz.prog (ρ.f 153) #[.string s, .string marks] w fun e w' => e = .returned (.int .i64 (Lib.indexAny s.data.toList marks.data.toList)) ∧ Below w.heap.size w w' := by
  have hemp : marks.toList.isEmpty = false := by rw [Lib.toList_data]; rfl
  have hms : (marks.size : Int) = 2 := rfl
  have h8z : decide ((8 : Int) < (s.size : Int)) = false := decide_eq_false (by omega)
  have t3 := L.t3; have a3 := L.a3; have z3 := L.z3; have v3 := L.v3
  have t4 := L.t4; have a4 := L.a4; have z4 := L.z4; have v4 := L.v4
  have t5 := L.t5; have a5 := L.a5; have z5 := L.z5; have v5 := L.v5
  have t9 := L.t9; have a9 := L.a9; have z9 := L.z9; have v9 := L.v9
  have t21 := L.t21; have a21 := L.a21; have z21 := L.z21; have v21 := L.v21
  have e152 : ∀ args w, (callFunc (ρ.f 152) args).run Tryz.prog w = .ok (.enter (ρ.f 152) args) w := enters_of L.f152 (by kernel_rfl) rfl
  have e226 : ∀ args w, (callFunc (ρ.f 226) args).run Tryz.prog w = .ok (.enter (ρ.f 226) args) w := enters_of L.f226 (by kernel_rfl) rfl
  go_enter L.f153, Body.n153_ntmps ρ
  go_wp2_with (go_at_fn (ρ.f 226); refine (Any.strings_shouldUseASCIISet { L with } _ _).mono ?_; rintro e w' ⟨rfl, hw⟩; rw [hw, h8z])
  have hb0 : Aside (Below w.heap.size w (w.iter s 0)) := (Below.refl _ _).alloc (Nat.le_refl _) _
  have hk0 : Aside ((w.iter s 0).heap[w.heap.size]? = some (.stringIter s 0)) := World.iter_heap _ _ _
  go_loopg [9, 10] s.size (fun g _ _ wx => ∃ i : Nat, i ≤ s.size ∧ s.size ≤ i + g ∧ Below w.heap.size w wx ∧ wx.heap[w.heap.size]? = some (.stringIter s i) ∧ Lib.NoAny s.data.toList marks.data.toList i)
  case atStart => exact ⟨0, by omega, by omega, hb0.out, hk0.out, Lib.NoAny.zero _ _⟩
  case round =>
    obtain ⟨i, hi0, hig, hb, hk, hno⟩ := hrel
    have HN : Aside (Lib.NoAny s.data.toList marks.data.toList i) := hno
    have HB : Aside (Below w.heap.size w wr) := hb
    have HK : Aside (wr.heap[w.heap.size]? = some (.stringIter s i)) := hk
    clear hno hb hk
    by_cases hi : i < s.size
    · obtain ⟨x, hx⟩ : ∃ x : UInt8, s[i]'hi = x := ⟨_, rfl⟩
      have hxl : s.data.toList[i]? = some x := by rw [← hx]; exact Lib.data_getElem? s i hi
      have Hx : Aside (s.data.toList[i]? = some x) := hxl
      by_cases hx128 : x.toNat < 128
      · have hnx := fun ty => run_next_ascii_at (P := Tryz.prog) wr w.heap.size s i ty HK.out hi (by rw [hx]; exact hx128)
        rw [hx] at hnx
        have HB' : Aside (Below w.heap.size w (wr.iterAt w.heap.size s (i + 1))) := Lib.below_iterAt HB.out (Nat.le_refl _) s _
        have HK' : Aside ((wr.iterAt w.heap.size s (i + 1)).heap[w.heap.size]? = some (.stringIter s (i + 1))) := Lib.iterAt_heap wr _ s i _ HK.out
        have hcon := Lib.contains_iff_indexByte marks.data.toList x
        have hback : ((x.toNat : Int)).toNat.toUInt8 = x := by simp
        clear hx hxl
        cases hin : marks.data.toList.contains x
        · rw [hin] at hcon
          have hlt : ¬ ((0 : Int) ≤ Lib.indexByte marks.data.toList x) := of_decide_eq_false hcon.symm
          clear hcon
          have HI : Aside (marks.data.toList.contains x = false) := hin
          clear hin
          go_wp2_with (go_at_fn (ρ.f 152); refine (Any.strings_IndexRune_ascii { L with } _ _ _ (by omega) (by omega)).mono ?_; rintro e w' ⟨rfl, hw⟩; rw [hw, hback])
          go_roundg (s.size - (i + 1))
          case measure => omega
          case rel => exact ⟨i + 1, by omega, by omega, HB'.out, HK'.out, HN.out.succ Hx.out HI.out⟩
        · rw [hin] at hcon
          have hge : (0 : Int) ≤ Lib.indexByte marks.data.toList x := of_decide_eq_true hcon.symm
          clear hcon
          have HI : Aside (marks.data.toList.contains x = true) := hin
          clear hin
          go_wp2_with (go_at_fn (ρ.f 152); refine (Any.strings_IndexRune_ascii { L with } _ _ _ (by omega) (by omega)).mono ?_; rintro e w' ⟨rfl, hw⟩; rw [hw, hback])
          go_ret
          exact ⟨by rw [Lib.indexAny_hit HN.out Hx.out HI.out]; rfl, HB'.out⟩
      · have hd := decode_all_high s i hi (by rw [hx]; omega)
        have hd2 : (Utf8.decode s i).1 ≤ 2147483647 := decode_le s i
        have hnx := fun ty => run_next_any_at (P := Tryz.prog) wr w.heap.size s i ty HK.out hi
        generalize Utf8.decode s i = dk at hd hd2 hnx
        obtain ⟨r, k⟩ := dk
        obtain ⟨d1, d2, d3, d4⟩ := hd
        have D4 : Aside (∀ j, i ≤ j → j < i + k → 128 ≤ (s.get! j).toNat) := d4
        have d1' : 128 ≤ r := d1
        have d2' : 1 ≤ k := d2
        have d3' : i + k ≤ s.size := d3
        have hd2' : r ≤ 2147483647 := hd2
        clear d1 d2 d3 d4 hd2
        have HB' : Aside (Below w.heap.size w (wr.iterAt w.heap.size s (i + k))) := Lib.below_iterAt HB.out (Nat.le_refl _) s _
        have HK' : Aside ((wr.iterAt w.heap.size s (i + k)).heap[w.heap.size]? = some (.stringIter s (i + k))) := Lib.iterAt_heap wr _ s i _ HK.out
        have HN' : Aside (Lib.NoAny s.data.toList marks.data.toList (i + k)) := fun j b hj hb => by
          by_cases e : j < i
          · exact HN.out j b e hb
          · have h1 := D4.out j (by omega) hj
            have hjs : j < s.size := by omega
            have e2 : s.get! j = b := by
              have e3 := Lib.data_getElem? s j hjs
              rw [hb] at e3
              have e4 : s.get! (j + 0) = s[j]'hjs := get_at s j hjs
              rw [Nat.add_zero] at e4
              rw [e4]
              exact (Option.some.inj e3).symm
            rw [e2] at h1
            have n1 : b ≠ 60 := fun e => by rw [e] at h1; exact absurd h1 (by decide)
            have n2 : b ≠ 62 := fun e => by rw [e] at h1; exact absurd h1 (by decide)
            show ([60, 62] : List UInt8).contains b = false
            simp [n1, n2]
        clear hx hxl hx128
        go_wp2_with (go_at_fn (ρ.f 152); refine (strings_IndexRune_high { L with } _ _ (by omega) (by omega)).mono ?_; rintro e w' ⟨rfl, hw⟩)
        have HW : Aside (Below (wr.iterAt w.heap.size s (i + k)).heap.size (wr.iterAt w.heap.size s (i + k)) w') := hw
        clear hw
        have hlt : w.heap.size < (wr.iterAt w.heap.size s (i + k)).heap.size := (Array.getElem?_eq_some_iff.1 HK'.out).1
        go_roundg (s.size - (i + k))
        case measure => omega
        case rel => exact ⟨i + k, by omega, by omega, HB'.out.trans (HW.out.mono (by omega)), (HW.out.block _ hlt).trans HK'.out, HN'.out⟩
    · have hnx := fun ty => run_next_end_at (P := Tryz.prog) wr w.heap.size s i ty HK.out hi
      obtain rfl : i = s.size := by omega
      go_wp2
      go_ret
      exact ⟨by rw [Lib.indexAny_none (by rw [← Lib.size_eq]; exact HN.out)]; rfl, HB.out⟩
/-- Where the first of the two marks stands, whatever the bytes are. -/
theorem strings_IndexAny_marks (L : Lays.n153 Tryz.prog ρ) (h116 : (Tryz.prog.info? (ρ.t 116)).map (fun i => (i.zero, i.size)) = some (some (.agg (Array.replicate 256 (.bool false))), 256)) (s : ByteArray) (w : World) (hs : s.size < 4294967281) :
    Calls Tryz.prog (ρ.f 153) #[.string s, .string marks] w fun e w' => e = .returned (.int .i64 (Lib.indexAny s.data.toList marks.data.toList)) ∧ Below w.heap.size w w' := by
  by_cases h8 : s.size ≤ 8
  · exact strings_IndexAny_few L s w h8
  · refine (Any.strings_IndexAny_long L (zero_of_info h116).1 (zero_of_info h116).2 s marks w (by decide) (by omega) hs (by decide) (fun j b hb => ?_)).mono fun e w' ⟨h1, h2⟩ => ⟨h1, ?_⟩
    · have hm : ∀ b ∈ marks.data.toList, b.toNat < 128 := by decide
      exact hm b (List.mem_of_getElem? hb)
    · rw [h2]
      exact ((Below.refl _ _).alloc (Nat.le_refl _) _).alloc (by simp) _
end Go.Proofs.YtifdihbndlmgpaaGreatDoor.AnyMore
