/- Season: Trim, Cut and IndexByte of the library, as the program calls them. -/
import Derived.Test.YtjamemjmdlkpcaaDoorSe15
import Derived.Test.YtjamemjmdlkpcaaDoorSe21
namespace Go.Proofs.YtjamemjmdlkpcaaDoor
open Go.RowKit
open Se
open Go.Shelf

theorem digit_in (b : UInt8) : ([48, 49, 50, 51, 52, 53, 54, 55, 56, 57] : Txt).contains b = isDigit b := by
  have key : ∀ n : Fin 256, ([48, 49, 50, 51, 52, 53, 54, 55, 56, 57] : Txt).contains (UInt8.ofNat n.val) = isDigit (UInt8.ofNat n.val) := by decide +kernel
  have := key ⟨b.toNat, b.toNat_lt⟩
  simpa using this
theorem dropWhile_nil {α : Type} {p : α → Bool} : ∀ {l : List α}, l.dropWhile p = [] ↔ l.all p = true
  | [] => by simp
  | x :: l => by
    rw [List.dropWhile_cons, List.all_cons]
    cases h : p x
    · simp
    · simpa using dropWhile_nil (l := l)
theorem dropWhile_idem {α : Type} {p : α → Bool} (l : List α) : (l.dropWhile p).all p = true → l.all p = true := by
  induction l with
  | nil => simp
  | cons x l ih =>
    rw [List.dropWhile_cons]
    cases h : p x
    · simp [h]
    · simp only [if_true, List.all_cons, h, Bool.true_and]
      exact ih
theorem trim_nil {l : Txt} : Lib.trimS l [48, 49, 50, 51, 52, 53, 54, 55, 56, 57] = [] ↔ l.all isDigit = true := by
  have hp : (fun b => ([48, 49, 50, 51, 52, 53, 54, 55, 56, 57] : Txt).contains b) = isDigit := funext digit_in
  unfold Lib.trimS Lib.trimLeftS Lib.trimRightS
  rw [dropWhile_nil]
  show (List.dropWhile (fun b => ([48, 49, 50, 51, 52, 53, 54, 55, 56, 57] : Txt).contains b) l.reverse).reverse.all (fun b => ([48, 49, 50, 51, 52, 53, 54, 55, 56, 57] : Txt).contains b) = true ↔ _
  rw [hp, List.all_reverse]
  constructor
  · intro h
    have := dropWhile_idem _ h
    rwa [List.all_reverse] at this
  · intro h
    have h2 : l.reverse.dropWhile isDigit = [] := dropWhile_nil.2 (by rw [List.all_reverse]; exact h)
    rw [h2]; rfl
theorem trim_c (s : ByteArray) (b : Bool) (hb : s.data.toList.all isDigit = b) (hs : s.size ≤ 100000) (w : World) :
    Calls Tryd.prog 69 #[.string s, .string ⟨#[48, 49, 50, 51, 52, 53, 54, 55, 56, 57]⟩] w fun e w' => ∃ t : ByteArray, e = .returned (.string t) ∧ t.toList.isEmpty = b ∧ ∃ δ, w' = lat w δ := by
  have h : Calls Tryd.prog 69 #[.string s, .string ⟨#[48, 49, 50, 51, 52, 53, 54, 55, 56, 57]⟩] w fun e w' => e = .returned (.string ⟨(Lib.trimS s.data.toList (⟨#[48, 49, 50, 51, 52, 53, 54, 55, 56, 57]⟩ : ByteArray).data.toList).toArray⟩) ∧ Below w.heap.size w w' :=
    Any.strings_Trim_laid Tryd.lays160 (by kernel_rfl) s ⟨#[48, 49, 50, 51, 52, 53, 54, 55, 56, 57]⟩ w (by omega) (by decide) (ascii_of_all (by decide))
  refine h.mono ?_
  rintro e w1 ⟨rfl, hbl⟩
  refine ⟨_, rfl, ?_, lat_of' hbl⟩
  rw [ByteArray.toList_eq]
  show (Lib.trimS s.data.toList [48, 49, 50, 51, 52, 53, 54, 55, 56, 57]).isEmpty = b
  have := trim_nil (l := s.data.toList)
  cases b with
  | true => rw [this.2 hb]; rfl
  | false =>
    rw [← Bool.not_eq_true, List.isEmpty_iff]
    intro hc
    rw [this.1 hc] at hb
    cases hb

/-! ### IndexByte -/
theorem idx_found : ∀ {a m : Txt}, (∀ b ∈ a, b ≠ 10) → Lib.indexByte (a ++ 10 :: m) 10 = a.length
  | [], m, _ => by simp [Lib.indexByte]
  | x :: a, m, h => by
    have hx : x ≠ 10 := h x (by simp)
    have ih := idx_found (a := a) (m := m) (fun b hb => h b (by simp [hb]))
    have hn : ((a.length : Int) == -1) = false := by
      rw [beq_eq_false_iff_ne]; omega
    show (if x == 10 then (0 : Int) else if Lib.indexByte (a ++ 10 :: m) 10 == -1 then -1 else Lib.indexByte (a ++ 10 :: m) 10 + 1) = _
    rw [ih, hn]
    simp [hx]
theorem idx_none : ∀ {a : Txt}, (∀ b ∈ a, b ≠ 10) → Lib.indexByte a 10 = -1
  | [], _ => rfl
  | x :: a, h => by
    have hx : x ≠ 10 := h x (by simp)
    have ih := idx_none (a := a) (fun b hb => h b (by simp [hb]))
    show (if x == 10 then (0 : Int) else if Lib.indexByte a 10 == -1 then -1 else Lib.indexByte a 10 + 1) = _
    rw [ih]
    simp [hx]
theorem idx_letter (b : UInt8) : Lib.indexByte lettersB.data.toList b = letterI b := by
  have key : ∀ n : Fin 256, Lib.indexByte lettersB.data.toList (UInt8.ofNat n.val) = letterI (UInt8.ofNat n.val) := by decide +kernel
  have := key ⟨b.toNat, b.toNat_lt⟩
  simpa using this
theorem letter_c (b : UInt8) (u : Int) (hu : u = b.toNat) (w : World) :
    Calls Tryd.prog 71 #[.string ⟨#[65, 66, 67, 68, 69, 70, 71, 72, 73, 74, 75, 76, 77, 78, 79, 80, 81, 82, 83, 84, 85, 86, 87, 88, 89, 90, 97, 98, 99, 100, 101, 102, 103, 104, 105, 106, 107, 108, 109, 110, 111, 112, 113, 114, 115, 116, 117, 118, 119]⟩, .int .u8 u] w fun e w' => e = .returned (.int .i64 (letterI b)) ∧ w = w' := by
  subst hu
  have h : Calls Tryd.prog 71 #[.string lettersB, .int .u8 b.toNat] w fun e w' => e = .returned (.int .i64 (Lib.indexByte lettersB.data.toList ((b.toNat : Int).toNat.toUInt8))) ∧ w' = w := Any.strings_IndexByte Tryd.lays137 lettersB b.toNat w
  refine h.mono ?_
  rintro e w1 ⟨rfl, rfl⟩
  rw [Int.toNat_natCast, show b.toNat.toUInt8 = b by simp, idx_letter]
  exact ⟨rfl, rfl⟩
theorem index_one (s : ByteArray) (n : Int) (hn : Lib.indexByte s.data.toList 10 = n) (w : World) :
    Calls Tryd.prog 103 #[.string s, .string ⟨#[10]⟩] w fun e w' => e = .returned (.int .i64 n) ∧ w = w' := by
  have h : Calls Tryd.prog 103 #[.string s, .string ⟨#[10]⟩] w fun e w' => e = .returned (.int .i64 (Lib.indexByte s.data.toList 10)) ∧ w' = w := Any.stringslite_Index_one Tryd.lays219 s 10 w
  refine h.mono ?_
  rintro e w1 ⟨rfl, rfl⟩
  rw [hn]
  exact ⟨rfl, rfl⟩

/-! ### Cut -/
theorem cutIn_yes (s : ByteArray) (a m : Txt) (hs : s.data.toList = a ++ 10 :: m) (ha : ∀ b ∈ a, b ≠ 10) (hz : s.size ≤ 100000) (w : World) :
    Calls Tryd.prog 89 #[.string s, .string ⟨#[10]⟩] w fun e w' => e = .returned (.tuple #[.string (str a), .string (str m), .bool true]) ∧ ∃ δ, w' = lat w δ := by
  obtain ⟨n, hn⟩ : ∃ n, a.length = n := ⟨_, rfl⟩
  have hl : n + 1 + m.length = s.size := by rw [← size_len, hs, ← hn]; simp; omega
  have HI : Hid (Lib.indexByte s.data.toList 10 = (n : Int)) := Lib.hid (by rw [hs, ← hn]; exact idx_found ha)
  have e1 := fun (W : World) t k h => slice_to (P := Tryd.prog) W t s k n h (by omega)
  have e2 := fun (W : World) t k h => slice_from (P := Tryd.prog) W t s k (n + 1) h (by omega)
  rw [str_eq (a := s.extract 0 n) (l := a) (by rw [ext_lst, hs, ← hn]; simp)] at e1
  rw [str_eq (a := s.extract (n + 1) s.size) (l := m) (by
    have ht : s.data.toList.take s.size = s.data.toList := List.take_of_length_le (by rw [size_len]; exact Nat.le_refl _)
    rw [ext_lst, ht, hs, List.drop_append, List.drop_of_length_le (by omega), List.nil_append, hn]
    rw [show n + 1 - n = 1 by omega]; rfl)] at e2
  have e3 : (((n + 1 : Nat)) : Int) = (n : Int) + 1 := by omega
  rw [e3] at e2
  have hw : IntKind.i64.wrap ((n : Int) + 1) = (n : Int) + 1 := IntWalk.i64_in _ (by omega)
  clear hs ha e3 hn
  go_enter Tryd.func89, Tryd.ntmps89
  go_wp2_with (go_at_call 103; refine (index_one s n HI.out _).mono ?_; rintro e w1 ⟨rfl, rfl⟩)
  refine wp_region_lat (by kernel_rfl) (by kernel_rfl) ?_
  repeat (go_big_quiet_step ((first | (fail))))
  refine wpQuiet_nil ?_
  rintro _ ⟨δq, rfl⟩
  go_wp2
  go_ret3
  exact ⟨rfl, lat_ex⟩
theorem cutIn_no (s : ByteArray) (hs : ∀ b ∈ s.data.toList, b ≠ 10) (w : World) :
    Calls Tryd.prog 89 #[.string s, .string ⟨#[10]⟩] w fun e w' => e = .returned (.tuple #[.string s, .string ⟨#[]⟩, .bool false]) ∧ ∃ δ, w' = lat w δ := by
  have HI : Hid (Lib.indexByte s.data.toList 10 = -1) := Lib.hid (idx_none hs)
  clear hs
  go_enter Tryd.func89, Tryd.ntmps89
  go_wp2_with (go_at_call 103; refine (index_one s _ HI.out _).mono ?_; rintro e w1 ⟨rfl, rfl⟩)
  go_ret3
  exact ⟨rfl, lat_ex⟩
theorem cut_yes (s : ByteArray) (a m : Txt) (hs : s.data.toList = a ++ 10 :: m) (ha : ∀ b ∈ a, b ≠ 10) (hz : s.size ≤ 100000) (w : World) :
    Calls Tryd.prog 70 #[.string s, .string ⟨#[10]⟩] w fun e w' => e = .returned (.tuple #[.string (str a), .string (str m), .bool true]) ∧ ∃ δ, w' = lat w δ := by
  have H := Lib.hid hs
  have HA := Lib.hid ha
  clear hs ha
  go_enter Tryd.func70, Tryd.ntmps70
  go_wp2_with (go_at_call 89; refine (cutIn_yes s a m H.out HA.out hz _).mono ?_; rintro e w1 ⟨rfl, δ, rfl⟩)
  go_ret3
  exact ⟨rfl, lat_ex⟩
theorem cut_no (s : ByteArray) (hs : ∀ b ∈ s.data.toList, b ≠ 10) (w : World) :
    Calls Tryd.prog 70 #[.string s, .string ⟨#[10]⟩] w fun e w' => e = .returned (.tuple #[.string s, .string ⟨#[]⟩, .bool false]) ∧ ∃ δ, w' = lat w δ := by
  have H := Lib.hid hs
  clear hs
  go_enter Tryd.func70, Tryd.ntmps70
  go_wp2_with (go_at_call 89; refine (cutIn_no s H.out _).mono ?_; rintro e w1 ⟨rfl, δ, rfl⟩)
  go_ret3
  exact ⟨rfl, lat_ex⟩
end Go.Proofs.YtjamemjmdlkpcaaDoor
