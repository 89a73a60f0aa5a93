/- Season: the program's parse. -/
import Derived.Test.YtjamemjmdlkpcaaDoorSe24
import Derived.Test.YtjamemjmdlkpcaaDoorSe23
import Derived.Deep.RegionHeld3
namespace Go.Proofs.YtjamemjmdlkpcaaDoor
open Go.RowKit
open Se
open Go.Shelf

def rowE (r : Row) : List Value := [.int .i64 r.pre, .int .i64 r.suf, .string (str r.mid)]
theorem rowE_len (r : Row) : (rowE r).length = 3 := rfl
theorem slR : SlT Tryd.prog 52 23 (.agg #[.int .i64 0, .int .i64 0, .string ⟨#[]⟩]) 3 32 := SlT.mk Tryd.underlying52 (by kernel_rfl) rfl (by omega)
theorem split10 : ∀ {l : Txt}, (∀ b ∈ l, b ≠ 10) ∨ ∃ a m, l = a ++ 10 :: m ∧ ∀ b ∈ a, b ≠ 10
  | [] => .inl (by simp)
  | x :: l => by
    by_cases hx : x = 10
    · exact .inr ⟨[], l, by rw [hx]; rfl, by simp⟩
    · rcases split10 (l := l) with h | ⟨a, m, rfl, ha⟩
      · exact .inl fun b hb => by
          rcases List.mem_cons.1 hb with rfl | hb
          · exact hx
          · exact h b hb
      · exact .inr ⟨x :: a, m, rfl, fun b hb => by
          rcases List.mem_cons.1 hb with rfl | hb
          · exact hx
          · exact ha b hb⟩
/-- What parse returns. -/
def ParsePost (w : World) (o : Option (List Row)) (e : Ending) (w' : World) : Prop :=
  (match o with
    | some rs => ∃ A c, e = .returned (.tuple #[.slice A rs.length c, .bool true]) ∧ w'.ownsRow w.heap.size 23 3 (.slice A rs.length c) rs.length (rs.flatMap rowE)
    | none => e = .returned (.tuple #[.slice none 0 0, .bool false])) ∧ ∃ δ, w' = lat w δ
theorem str_nil : (str []).toList.isEmpty = true := by rw [toList_lst]; rfl
theorem str_cons {l : Txt} (h : l ≠ []) : (str l).toList.isEmpty = false := by
  rw [toList_lst, lst_str]
  cases l with
  | nil => exact absurd rfl h
  | cons x l => rfl
theorem idx_str {P : Program} (w : World) (t : TypeId) (k : IntKind) (l : Txt) (i : Int) (j : Nat) (hi : i = (j : Int)) (b : UInt8) (h : P.underlying t = some .string) (hb : l[j]? = some b) :
    (Instr.index t (.string (str l)) (.int k i)).run P w = .ok (.int .u8 b.toNat) w := by
  subst hi
  have hj : j < (str l).size := by rw [size_str]; exact (List.getElem?_eq_some_iff.1 hb).1
  rw [idx_at w t (str l) k j h hj]
  have h2 := get_byte (str l) j hj
  rw [lst_str, hb] at h2
  injection h2 with h2
  rw [h2]
theorem from_str {P : Program} (w : World) (t : TypeId) (k : IntKind) (l : Txt) (i : Int) (j : Nat) (hi : i = (j : Int)) (m : Txt) (h : P.underlying t = some .string) (hj : j ≤ l.length) (hm : l.drop j = m) :
    (Instr.slice t (.string (str l)) (some (.int k i)) none none).run P w = .ok (.string (str m)) w := by
  subst hi
  rw [slice_from w t (str l) k j h (by rw [size_str]; exact hj)]
  rw [str_eq (a := (str l).extract j (str l).size) (l := m)]
  rw [ext_lst, List.take_of_length_le (by rw [size_len]; exact Nat.le_refl _), lst_str, hm]
theorem to_str {P : Program} (w : World) (t : TypeId) (k : IntKind) (l : Txt) (j : Nat) (m : Txt) (h : P.underlying t = some .string) (hj : j ≤ l.length) (hm : l.take j = m) :
    (Instr.slice t (.string (str l)) none (some (.int k j)) none).run P w = .ok (.string (str m)) w := by
  rw [slice_to w t (str l) k j h (by rw [size_str]; exact hj)]
  rw [str_eq (a := (str l).extract 0 j) (l := m)]
  rw [ext_lst, List.drop_zero, lst_str, hm]
theorem form_none {l : Txt} (h : ¬ (3 ≤ l.length ∧ l.length ≤ 1100 ∧ (l.drop (l.length - 3)).all isDigit = true)) : formOf l = none := if_neg h
theorem parse_bad (l : Txt) (h : ¬ (3 ≤ l.length ∧ l.length ≤ 1100 ∧ (l.drop (l.length - 3)).all isDigit = true)) (hz : l.length ≤ 100000) (w : World) :
    Calls Tryd.prog 56 #[.string (str l)] w (ParsePost w (formOf l)) := by
  rw [form_none h]
  by_cases h1 : 1100 < l.length
  · have h1' : (1100 : Int) < (l.length : Int) := by omega
    clear h
    go_enter Tryd.func56, Tryd.ntmps56
    go_wp2
    go_ret2
    exact ⟨rfl, lat_ex⟩
  · have h1' : (l.length : Int) ≤ 1100 := by omega
    by_cases h2 : l.length < 3
    · have h2' : (l.length : Int) - 3 < 0 := by omega
      clear h
      go_enter Tryd.func56, Tryd.ntmps56
      go_wp2
      go_ret2
      exact ⟨rfl, lat_ex⟩
    · have h3 : (l.drop (l.length - 3)).all isDigit = false := by
        rw [← Bool.not_eq_true]
        exact fun hc => h ⟨by omega, by omega, hc⟩
      have h2' : ¬ (l.length : Int) - 3 < 0 := by omega
      have HD : Hid ((str (l.drop (l.length - 3))).data.toList.all isDigit = false) := Lib.hid (by rw [lst_str]; exact h3)
      have hx := fun (W : World) t k hh => from_str (P := Tryd.prog) W t k l ((l.length : Int) - 3) (l.length - 3) (by omega) (l.drop (l.length - 3)) hh (by omega) rfl
      have HZ : Hid ((str (l.drop (l.length - 3))).size ≤ 100000) := Lib.hid (by rw [size_str, List.length_drop]; omega)
      obtain ⟨d, hd⟩ : ∃ d, l.drop (l.length - 3) = d := ⟨_, rfl⟩
      rw [hd] at hx HD HZ
      clear h h3 hd
      go_enter Tryd.func56, Tryd.ntmps56
      go_wp2_with (go_at_call 69; refine (trim_c _ false HD.out HZ.out _).mono ?_; rintro e w1 ⟨t, rfl, ht, δ, rfl⟩)
      go_ret2
      exact ⟨rfl, lat_ex⟩
end Go.Proofs.YtjamemjmdlkpcaaDoor
