/- Season: the reference's BytesOf. -/
import Derived.Test.YtjamemjmdlkpcaaDoorSe13
import Derived.BigRegion
namespace Go.Proofs.YtjamemjmdlkpcaaDoor
open Go.RowKit
open Se

def lettersB : ByteArray := ⟨#[65, 66, 67, 68, 69, 70, 71, 72, 73, 74, 75, 76, 77, 78, 79, 80, 81, 82, 83, 84, 85, 86, 87, 88, 89, 90, 97, 98, 99, 100, 101, 102, 103, 104, 105, 106, 107, 108, 109, 110, 111, 112, 113, 114, 115, 116, 117, 118, 119]⟩
theorem letters_at : ∀ p : Fin 49, lettersB.data.toList[p.val]? = some (letter p.val) := by decide
theorem letters_size : lettersB.size = 49 := rfl
theorem slice_letters {P : Program} (w : World) (t : TypeId) (k k' : IntKind) (p : Nat) (h : P.underlying t = some .string) (hp : p ≤ 48) :
    (Instr.slice t (.string ⟨#[65, 66, 67, 68, 69, 70, 71, 72, 73, 74, 75, 76, 77, 78, 79, 80, 81, 82, 83, 84, 85, 86, 87, 88, 89, 90, 97, 98, 99, 100, 101, 102, 103, 104, 105, 106, 107, 108, 109, 110, 111, 112, 113, 114, 115, 116, 117, 118, 119]⟩) (some (.int k p)) (some (.int k' ((p : Int) + 1))) none).run P w = .ok (.string (str [letter p])) w := by
  have h1 := slice_at (P := P) w t lettersB k k' p (p + 1) h (by omega) (by rw [letters_size]; omega)
  rw [str_eq (a := lettersB.extract p (p + 1)) (l := [letter p])] at h1
  · exact h1
  · rw [ext_lst]
    have h2 := letters_at ⟨p, by omega⟩
    rw [List.take_add_one, h2]
    have h3 : (lettersB.data.toList.take p).length = p := by rw [List.length_take, size_len, letters_size]; omega
    rw [List.drop_append, h3, Nat.sub_self, List.drop_of_length_le (by omega)]
    rfl
theorem index_letters {P : Program} (w : World) (t : TypeId) (k : IntKind) (p : Nat) (h : P.underlying t = some .string) (hp : p ≤ 48) :
    (Instr.index t (.string ⟨#[65, 66, 67, 68, 69, 70, 71, 72, 73, 74, 75, 76, 77, 78, 79, 80, 81, 82, 83, 84, 85, 86, 87, 88, 89, 90, 97, 98, 99, 100, 101, 102, 103, 104, 105, 106, 107, 108, 109, 110, 111, 112, 113, 114, 115, 116, 117, 118, 119]⟩) (.int k p)).run P w = .ok (.int .u8 (letter p).toNat) w := by
  have h1 := idx_at (P := P) w t lettersB k p h (by rw [letters_size]; omega)
  have h2 := letters_at ⟨p, by omega⟩
  rw [get_byte lettersB p (by rw [letters_size]; omega)] at h2
  injection h2 with h2
  rw [h2] at h1
  exact h1
theorem add_str {P : Program} (w : World) (x y : Txt) (h : x.length + y.length ≤ 100000) : (Op.stringOp .add (str x) (str y)).run P w = .ok (.string (str (x ++ y))) w := by
  rw [run_string_add_sum (P := P) w (str x) (str y) (by rw [size_str, size_str]; omega)]
  rw [str_eq (a := str x ++ str y) (l := x ++ y) (by rw [app_lst, lst_str, lst_str])]
theorem back_one (W : World) (g c : Nat) (b : UInt8) (h : W.cell? ⟨g, 0, none⟩ = some (.int .u8 b.toNat)) :
    (convert 44 9 (.slice (some ⟨g, 0, none⟩) 1 c)).run Tryd.prog W = .ok (.string (str [b])) W := by
  exact run_convert_bytes_back (P := Tryd.prog) W 44 9 5 ⟨g, 0, none⟩ c [b] (by kernel_rfl) (by kernel_rfl) (by kernel_rfl) (fun j hj => by
    obtain rfl : j = 0 := by simpa using hj
    rw [show (⟨g, 0, none⟩ : Addr).add 0 = ⟨g, 0, none⟩ by simp [Addr.add_lit], h]
    rfl)
set_option maxHeartbeats 4000000 in
theorem rBytesOf_c (p s : Nat) (m : ByteArray) (y : Txt) (hy : m.data.toList = y) (hp : p ≤ 48) (hs : s ≤ 48) (hm : y.length ≤ 2000) (w : World) :
    Calls Tryd.prog 80 #[.agg #[.int .i64 p, .int .i64 s, .string m]] w fun e w' => e = .returned (.string (str (bytesOf ⟨p, s, y⟩))) ∧ ∃ δ, w' = lat w δ := by
  have e0 := str_eq hy
  subst e0
  have HB : Hid (bytesOf ⟨p, s, y⟩ = [letter p] ++ [letter s] ++ y ++ [10]) := Lib.hid (by simp [bytesOf])
  have x1 := fun (W : World) t k k' h => slice_letters (P := Tryd.prog) W t k k' p h hp
  have x2 := fun (W : World) t k k' h => slice_letters (P := Tryd.prog) W t k k' s h hs
  have a1 := fun (W : World) => add_str (P := Tryd.prog) W [letter p] [letter s] (by simp)
  have a2 := fun (W : World) => add_str (P := Tryd.prog) W ([letter p] ++ [letter s]) y (by simp; omega)
  have a3 := fun (W : World) => add_str (P := Tryd.prog) W ([letter p] ++ [letter s] ++ y) [10] (by simp; omega)
  have b1 := fun (W : World) (g c : Nat) (h : W.cell? ⟨g, 0, none⟩ = some (.int .u8 10)) => back_one W g c 10 h
  rw [← HB.out] at a3
  obtain ⟨z1, hz1⟩ : ∃ z, z = [letter p] := ⟨_, rfl⟩
  obtain ⟨z2, hz2⟩ : ∃ z, z = [letter s] := ⟨_, rfl⟩
  obtain ⟨z4, hz4⟩ : ∃ z, z = ([10] : Txt) := ⟨_, rfl⟩
  rw [← hz1] at x1 a1 a2 a3
  rw [← hz2] at x2 a1 a2 a3
  rw [← hz4] at b1 a3
  obtain ⟨z5, hz5⟩ : ∃ z, z = z1 ++ z2 := ⟨_, rfl⟩
  rw [← hz5] at a1 a2 a3
  obtain ⟨z6, hz6⟩ : ∃ z, z = z5 ++ y := ⟨_, rfl⟩
  rw [← hz6] at a2 a3
  have w1 : IntKind.i64.wrap ((p : Int) + 1) = (p : Int) + 1 := IntWalk.i64_in _ (by omega)
  have w2 : IntKind.i64.wrap ((s : Int) + 1) = (s : Int) + 1 := IntWalk.i64_in _ (by omega)
  clear hy hz1 hz2 hz4 hz5 hz6
  go_enter Tryd.func80, Tryd.ntmps80
  go_wp2_with (fail)
  go_region
  all_goals
    go_wp2
    go_ret
    exact ⟨rfl, lat_ex⟩
end Go.Proofs.YtjamemjmdlkpcaaDoor
