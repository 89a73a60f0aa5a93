/- Season: what is a text, walked (the program's and the reference's). -/
import Derived.Test.YtjamemjmdlkpcaaDoorRows
import Derived.Test.YtjamemjmdlkpcaaDoorBase6
import Derived.Test.YtjamemjmdlkpcaaDoorSeP1
import Derived.Laws.RangeAny
import Derived.Lib.OthersKept
namespace Go.Proofs.YtjamemjmdlkpcaaDoor
open Go.RowKit
open Se

theorem get_byte (s : ByteArray) (i : Nat) (h : i < s.size) : s.data.toList[i]? = some (s[i]'h) := by
  have h' : i < s.data.size := h
  rw [List.getElem?_eq_getElem (by simpa using h')]
  rfl
theorem take_ok {l : Txt} {n : Nat} (h : (l.take n).all okB = true) {b : UInt8} (hb : l[n]? = some b) (hok : okB b = true) : (l.take (n + 1)).all okB = true := by
  rw [List.take_add_one, hb, List.all_append, h]
  simp [hok]
theorem all_bad {l : Txt} {n : Nat} {b : UInt8} (hb : l[n]? = some b) (hok : okB b = false) : l.all okB = false := by
  rw [List.all_eq_false]
  exact ⟨b, List.mem_of_getElem? hb, by simp [hok]⟩
theorem size_len (s : ByteArray) : s.data.toList.length = s.size := Array.length_toList
theorem rune_ok (s : ByteArray) (i : Nat) (h : i < s.size) (hok : okB (s[i]'h) = true) : Utf8.decode s i = ((s[i]'h).toNat, 1) ∧ 32 ≤ (s[i]'h).toNat ∧ (s[i]'h).toNat ≤ 126 := by
  have h1 : 32 ≤ (s[i]'h).toNat ∧ (s[i]'h).toNat ≤ 126 := by simpa [okB] using hok
  exact ⟨decode_ascii s i h (by omega), h1⟩
theorem rune_bad (s : ByteArray) (i : Nat) (h : i < s.size) (hok : okB (s[i]'h) = false) : (Utf8.decode s i).1 < 32 ∨ 126 < (Utf8.decode s i).1 := by
  by_cases ha : (s[i]'h).toNat < 128
  · rw [decode_ascii s i h ha]
    have h1 : 32 ≤ (s[i]'h).toNat → 126 < (s[i]'h).toNat := by simpa [okB] using hok
    show (s[i]'h).toNat < 32 ∨ 126 < (s[i]'h).toNat
    omega
  · have := (decode_high s i h (by omega)).1
    omega

/-! Season: the program's isText. -/
open Go.RowKit
open Se

set_option maxHeartbeats 4000000 in
theorem isText_c (s : ByteArray) (b : Bool) (hb : isText s.data.toList = b) (hs : s.size ≤ 140737488355328) (w : World) :
    Calls Tryd.prog 50 #[.string s] w fun e w' => ∃ δ, e = .returned (.bool b) ∧ w' = lat w δ := by
  subst hb
  go_enter Tryd.func50, Tryd.ntmps50
  go_wp2
  go_loopw [] (fun wr => ∃ pos : Nat, wr.heap[w.heap.size]? = some (.stringIter s pos) ∧ Below w.heap.size w wr ∧ (s.data.toList.take pos).all okB = true ∧ pos ≤ s.size) (fun wr => s.size - wr.iterPos w.heap.size)
  case atStart =>
    refine ⟨0, World.iter_heap w s 0, (Below.refl _ w).alloc (Nat.le_refl _) _, by simp, by omega⟩
  case round =>
    obtain ⟨pos, hit, hbw, hok, hle⟩ := hrel
    have hsz : w.heap.size < wr.heap.size := (Array.getElem?_eq_some_iff.1 hit).1
    by_cases hp : pos < s.size
    · have hnx : ∀ ty, (Instr.next (.pointer (some ⟨w.heap.size, 0, none⟩)) true ty).run Tryd.prog wr = _ := fun ty => Lib.run_next_any_at wr w.heap.size s pos ty hit hp
      have hd1 := decode_le s pos
      have hit2 := Lib.iterAt_heap wr w.heap.size s pos (pos + (Utf8.decode s pos).2) hit
      have hbw2 := Lib.below_iterAt hbw (k := w.heap.size) (by omega) s (pos + (Utf8.decode s pos).2)
      rcases hbb : okB (s[pos]'hp) with _ | _
      · have hf : isText s.data.toList = false := by
          have := all_bad (get_byte s pos hp) hbb
          simp [isText, this]
        rcases rune_bad s pos hp hbb with h1 | h1
        · go_wp2
          go_ret
          refine ⟨?_, wr.iterAt w.heap.size s (pos + (Utf8.decode s pos).2), (lat_of hbw2).symm⟩
          rfl
        · have h2 : ¬ (Utf8.decode s pos).1 < 32 := by omega
          go_wp2
          go_ret
          refine ⟨wr.iterAt w.heap.size s (pos + (Utf8.decode s pos).2), ?_, (lat_of hbw2).symm⟩
          rw [hf]
          rfl
      · obtain ⟨hdec, h1, h2⟩ := rune_ok s pos hp hbb
        rw [hdec] at hit2 hbw2 hd1 hnx
        go_wp2
        go_roundw
        case rel =>
          exact ⟨pos + 1, hit2, hbw2, take_ok hok (get_byte s pos hp) hbb, hp⟩
        case measure =>
          simp only [World.iterPos, hit2, hit]
          omega
    · have hnx : ∀ ty, (Instr.next (.pointer (some ⟨w.heap.size, 0, none⟩)) true ty).run Tryd.prog wr = _ := fun ty => Lib.run_next_end_at wr w.heap.size s pos ty hit hp
      have hall : s.data.toList.all okB = true := by
        have : s.data.toList.take pos = s.data.toList := List.take_of_length_le (by rw [size_len]; omega)
        rw [← this]; exact hok
      go_wp2
      go_ret
      refine ⟨_, ?_, (lat_of hbw).symm⟩
      simp [isText, hall]
      omega

/-! Season: the reference's IsText; a byte of a string from its beginning and from its end. -/
open Go.RowKit
open Se

theorem idx_at {P : Program} (w : World) (t : TypeId) (s : ByteArray) (k : IntKind) (i : Nat) (h : P.underlying t = some .string) (hi : i < s.size) :
    (Instr.index t (.string s) (.int k i)).run P w = .ok (.int .u8 (s[i]'hi).toNat) w := by
  rw [run_index_string w t s k i h, dif_pos ⟨by omega, by omega⟩]
  rfl
theorem okB_iff {b : UInt8} : okB b = true ↔ 32 ≤ b.toNat ∧ b.toNat ≤ 126 := by simp [okB]
theorem begin_c (s : ByteArray) (i : Nat) (hi : i < s.size) (w : World) :
    Calls Tryd.prog 67 #[.string s, .int .i64 i] w fun e w' => e = .returned (.int .u8 (s[i]'hi).toNat) ∧ w = w' := by
  have hx := fun t k h => idx_at (P := Tryd.prog) w t s k i h hi
  go_enter Tryd.func67, Tryd.ntmps67
  go_wp2
  go_ret
  exact ⟨rfl, rfl⟩
theorem end_c (s : ByteArray) (i j : Nat) (hi : i + j + 1 = s.size) (hs : s.size ≤ 140737488355328) (w : World) :
    Calls Tryd.prog 68 #[.string s, .int .i64 i] w fun e w' => e = .returned (.int .u8 (s[j]'(by omega)).toNat) ∧ w = w' := by
  have hx := fun t k h => idx_at (P := Tryd.prog) w t s k j h (by omega)
  have hj : (s.size : Int) - 1 - (i : Int) = (j : Int) := by omega
  go_enter Tryd.func68, Tryd.ntmps68
  go_wp2
  go_ret
  exact ⟨rfl, rfl⟩
theorem rIsText_c (s : ByteArray) (b : Bool) (hb : isText s.data.toList = b) (hs : s.size ≤ 140737488355328) (w : World) :
    Calls Tryd.prog 26 #[.string s] w fun e w' => e = .returned (.bool b) ∧ w = w' := by
  subst hb
  go_enter Tryd.func26, Tryd.ntmps26
  go_wp2
  go_loop [3] (fun i => ∃ k : Nat, k ≤ s.size ∧ i = .int .i64 k ∧ (s.data.toList.take k).all okB = true) (fun i => s.size - (intOf i).toNat)
  case atStart => exact ⟨0, Nat.zero_le _, rfl, by simp⟩
  case round =>
    obtain ⟨k, hk, rfl, hn⟩ := hrel
    by_cases hlt : k < s.size
    · have hx := fun t kk h => idx_at (P := Tryd.prog) w t s kk k h hlt
      have hg := get_byte s k hlt
      rcases hbb : okB (s[k]'hlt) with _ | _
      · have hf : isText s.data.toList = false := by
          have := all_bad hg hbb
          simp [isText, this]
        by_cases h1 : (s[k]'hlt).toNat < 32
        · go_wp2
          go_ret
          exact ⟨by first | rfl | (rw [hf]; rfl), rfl⟩
        · have h2 : 126 < (s[k]'hlt).toNat := by
            rcases Nat.lt_or_ge 126 (s[k]'hlt).toNat with h | h
            · exact h
            · exact absurd (okB_iff.2 ⟨by omega, h⟩) (by simp [hbb])
          go_wp2
          go_ret
          exact ⟨by first | rfl | (rw [hf]; rfl), rfl⟩
      · obtain ⟨h1, h2⟩ := okB_iff.1 hbb
        go_wp2
        go_round
        case rel => exact ⟨k + 1, hlt, by go_num, take_ok hn hg hbb⟩
        case measure => simp [intOf]; omega
    · obtain rfl : k = s.size := by omega
      have hall : s.data.toList.all okB = true := by
        have : s.data.toList.take s.size = s.data.toList := List.take_of_length_le (by rw [size_len]; omega)
        rw [← this]; exact hn
      go_wp2
      go_ret
      refine ⟨?_, rfl⟩
      simp [isText, hall]
      try omega

/-! Season: how many marks two strings have in common, from the beginning on. -/
open Go.RowKit
open Se

theorem byte_eq {a b : ByteArray} {k : Nat} (ha : k < a.size) (hb : k < b.size) (h : k ≤ cmn a.data.toList b.data.toList) : (a[k]'ha).toNat = (b[k]'hb).toNat ↔ k < cmn a.data.toList b.data.toList := by
  have h1 : k < a.data.toList.length := by rw [size_len]; exact ha
  have h2 : k < b.data.toList.length := by rw [size_len]; exact hb
  rw [← at_eq_iff h1 h2 h]
  have e1 : a.data.toList[k] = a[k]'ha := Option.some.inj ((List.getElem?_eq_getElem h1).symm.trans (get_byte a k ha))
  have e2 : b.data.toList[k] = b[k]'hb := Option.some.inj ((List.getElem?_eq_getElem h2).symm.trans (get_byte b k hb))
  rw [e1, e2]
  exact UInt8.toNat_inj
theorem commonB_c (a b : ByteArray) (up : Nat) (ha : up ≤ a.size) (hb : up ≤ b.size) (hs : a.size ≤ 140737488355328) (w : World) :
    Calls Tryd.prog 66 #[.string a, .string b, .int .i64 up, .func (.func 67) #[] #[]] w fun e w' => e = .returned (.int .i64 (min (cmn a.data.toList b.data.toList) up : Nat)) ∧ w = w' := by
  go_enter Tryd.func66, Tryd.ntmps66
  go_wp2
  go_loop [9] (fun i => ∃ k : Nat, k ≤ up ∧ i = .int .i64 k ∧ k ≤ cmn a.data.toList b.data.toList) (fun i => up - (intOf i).toNat)
  case atStart => exact ⟨0, Nat.zero_le _, rfl, Nat.zero_le _⟩
  case round =>
    obtain ⟨k, hk, rfl, hn⟩ := hrel
    by_cases hlt : k < up
    · have hka : k < a.size := by omega
      have hkb : k < b.size := by omega
      have hq := byte_eq hka hkb hn
      by_cases he : (a[k]'hka).toNat = (b[k]'hkb).toNat
      · have hq2 := hq.1 he
        clear hq
        go_wp2_with (go_at_call 67; refine (begin_c _ _ (by assumption) _).mono ?_; rintro e w1 ⟨rfl, rfl⟩)
        go_round
        case rel => exact ⟨k + 1, hlt, by go_num, hq2⟩
        case measure => simp [intOf]; omega
      · have hq2 : cmn a.data.toList b.data.toList = k := by
          have := mt hq.2 he
          omega
        clear hq
        go_wp2_with (go_at_call 67; refine (begin_c _ _ (by assumption) _).mono ?_; rintro e w1 ⟨rfl, rfl⟩)
        go_ret
        refine ⟨?_, rfl⟩
        rw [hq2, Nat.min_eq_left (by omega)]
        rfl
    · obtain rfl : k = up := by omega
      go_wp2
      go_ret
      refine ⟨?_, rfl⟩
      first | rfl | (rw [Nat.min_eq_right hn]; rfl)

/-! Season: how many marks two strings have in common, from the end on. -/
open Go.RowKit
open Se

theorem byte_eqE {a b : ByteArray} {k ja jb : Nat} (ha : k + ja + 1 = a.size) (hb : k + jb + 1 = b.size) (h : k ≤ cmn a.data.toList.reverse b.data.toList.reverse) :
    (a[ja]'(by omega)).toNat = (b[jb]'(by omega)).toNat ↔ k < cmn a.data.toList.reverse b.data.toList.reverse := by
  have h1 : k < a.data.toList.length := by rw [size_len]; omega
  have h2 : k < b.data.toList.length := by rw [size_len]; omega
  rw [← end_eq_iff h1 h2 h]
  have i1 : a.data.toList.length - 1 - k = ja := by rw [size_len]; omega
  have i2 : b.data.toList.length - 1 - k = jb := by rw [size_len]; omega
  have e1 : a.data.toList[a.data.toList.length - 1 - k]? = some (a[ja]'(by omega)) := by rw [i1]; exact get_byte a ja (by omega)
  have e2 : b.data.toList[b.data.toList.length - 1 - k]? = some (b[jb]'(by omega)) := by rw [i2]; exact get_byte b jb (by omega)
  have f1 := Option.some.inj ((List.getElem?_eq_getElem (by omega)).symm.trans e1)
  have f2 := Option.some.inj ((List.getElem?_eq_getElem (by omega)).symm.trans e2)
  rw [f1, f2]
  exact UInt8.toNat_inj
theorem commonE_c (a b : ByteArray) (up : Nat) (ha : up ≤ a.size) (hb : up ≤ b.size) (hs : a.size ≤ 140737488355328) (hs2 : b.size ≤ 140737488355328) (w : World) :
    Calls Tryd.prog 66 #[.string a, .string b, .int .i64 up, .func (.func 68) #[] #[]] w fun e w' => e = .returned (.int .i64 (min (cmn a.data.toList.reverse b.data.toList.reverse) up : Nat)) ∧ w = w' := by
  go_enter Tryd.func66, Tryd.ntmps66
  go_wp2
  go_loop [9] (fun i => ∃ k : Nat, k ≤ up ∧ i = .int .i64 k ∧ k ≤ cmn a.data.toList.reverse b.data.toList.reverse) (fun i => up - (intOf i).toNat)
  case atStart => exact ⟨0, Nat.zero_le _, rfl, Nat.zero_le _⟩
  case round =>
    obtain ⟨k, hk, rfl, hn⟩ := hrel
    by_cases hlt : k < up
    · obtain ⟨ja, hja⟩ : ∃ j, k + j + 1 = a.size := ⟨a.size - 1 - k, by omega⟩
      obtain ⟨jb, hjb⟩ : ∃ j, k + j + 1 = b.size := ⟨b.size - 1 - k, by omega⟩
      have hka : ja < a.size := by omega
      have hkb : jb < b.size := by omega
      have hq := byte_eqE hja hjb hn
      by_cases he : (a[ja]'hka).toNat = (b[jb]'hkb).toNat
      · have hq2 := hq.1 he
        clear hq
        go_wp2_with (go_at_call 68; refine (end_c _ _ _ (by first | exact hja | exact hjb) (by assumption) _).mono ?_; rintro e w1 ⟨rfl, rfl⟩)
        go_round
        case rel => exact ⟨k + 1, hlt, by go_num, hq2⟩
        case measure => simp [intOf]; omega
      · have hq2 : cmn a.data.toList.reverse b.data.toList.reverse = k := by
          have := mt hq.2 he
          omega
        clear hq
        go_wp2_with (go_at_call 68; refine (end_c _ _ _ (by first | exact hja | exact hjb) (by assumption) _).mono ?_; rintro e w1 ⟨rfl, rfl⟩)
        go_ret
        refine ⟨?_, rfl⟩
        rw [hq2, Nat.min_eq_left (by omega)]
        rfl
    · obtain rfl : k = up := by omega
      go_wp2
      go_ret
      refine ⟨?_, rfl⟩
      first | rfl | (rw [Nat.min_eq_right hn]; rfl)
end Go.Proofs.YtjamemjmdlkpcaaDoor
