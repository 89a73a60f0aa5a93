/- Season: the reference's RowsOf. -/
import Derived.Test.YtjamemjmdlkpcaaDoorSe15
import Derived.Test.YtjamemjmdlkpcaaDoorSe10
namespace Go.Proofs.YtjamemjmdlkpcaaDoor
open Go.RowKit
open Se

def strE (t : Txt) : List Value := [.string (str t)]
theorem strE_len (t : Txt) : (strE t).length = 1 := rfl
theorem Sl.txt {B : Nat} {w : World} {A : Option Addr} {c : Nat} {ts : List Txt} (h : Sl strE B w A c ts) {k : Nat} (hk : k < ts.length) :
    ∃ b o, A = some ⟨b, o, none⟩ ∧ b < B ∧ w.cell? ⟨b, o + k, none⟩ = some (.string (str (nth ts k))) := by
  obtain ⟨b, o, hA, hb, hc⟩ := h.at_ strE_len hk (by omega)
  refine ⟨b, o, hA, hb, ?_⟩
  have := hc 0 (.string (str (nth ts k))) (by rw [nth_get _ hk]; rfl)
  simpa using this
/-- The text behind which the next one is written. -/
def lastD (a : Txt) (ts : List Txt) : Txt := ts.foldl (fun _ t => t) a
theorem lastD_snoc (a t : Txt) (ts : List Txt) : lastD a (ts ++ [t]) = t := by simp [lastD]
theorem rows_snoc (a t : Txt) (ts : List Txt) : rows a (ts ++ [t]) = rows a ts ++ [rowOf (lastD a ts) t] := by
  induction ts generalizing a with
  | nil => rfl
  | cons x xs ih =>
    show rowOf a x :: rows x (xs ++ [t]) = rowOf a x :: rows x xs ++ _
    rw [ih x]
    rfl
theorem bytesL_snoc (rs : List Row) (r : Row) : bytesL (rs ++ [r]) = bytesL rs ++ bytesOf r := by simp [bytesL]
theorem lastD_text {ts : List Txt} (h : allT ts) : isText (lastD [] ts) = true := by
  rcases List.eq_nil_or_concat ts with rfl | ⟨l, t, rfl⟩
  · exact text_nil
  · rw [List.concat_eq_append, lastD_snoc]
    exact h t (by simp)
theorem allT_take {ts : List Txt} (h : allT ts) (k : Nat) : allT (ts.take k) := fun t ht => h t (List.mem_of_mem_take ht)
theorem rRowsOf_c (A : Option Addr) (c : Nat) (ts : List Txt) (ln : Nat) (hn : ts.length = ln) (ht : allT ts) (h20 : ts.length ≤ 20) (B : Nat) (w : World) (hS : Sl strE B w A c ts) [hB : Le B w] :
    Calls Tryd.prog 61 #[.slice A ln c] w fun e w' => e = .returned (.string (str (bytesL (rows [] ts)))) ∧ ∃ δ, w' = lat w δ := by
  subst hn
  have HS := Lib.hid hS
  have HT := Lib.hid ht
  have hcl := hS.len
  clear hS ht
  go_enter Tryd.func61, Tryd.ntmps61
  go_wp2_with (fail)
  go_loopg [3, 4, 5] ts.length (fun g o b i wr => ∃ (k : Nat) (x y : Txt) (δ : World), k ≤ ts.length ∧ g = ts.length - k ∧ o = .string (str x) ∧ b = .string (str y) ∧ i = .int .i64 k ∧ Hid (x = bytesL (rows [] (ts.take k)) ∧ y = lastD [] (ts.take k)) ∧ wr = lat w δ)
  case atStart => exact ⟨0, [], [], w, Nat.zero_le _, rfl, rfl, rfl, rfl, ⟨rfl, rfl⟩, (lat_refl w).symm⟩
  case round =>
    obtain ⟨k, x, y, δ, hk, rfl, rfl, rfl, rfl, HX, rfl⟩ := hrel
    by_cases hlt : k < ts.length
    · obtain ⟨b, o, rfl, hb, d0⟩ := HS.out.txt hlt
      have ib : Lt b w := ⟨Nat.lt_of_lt_of_le hb hB.out⟩
      have hki : (k : Int) < (ts.length : Int) := by omega
      have hk0 : ¬ (k : Int) < 0 := by omega
      obtain ⟨t, hte⟩ : ∃ t, nth ts k = t := ⟨_, rfl⟩
      have HN0 : Hid (bytesL (rows [] (ts.take (k + 1))) = x ++ bytesOf ⟨(preOf y t : Nat), (sufOf y t : Nat), midOf y t⟩ ∧ t = lastD [] (ts.take (k + 1))) := by
        rw [take_snoc _ hlt, rows_snoc, bytesL_snoc, lastD_snoc, ← HX.out.1, ← HX.out.2, hte]
        exact ⟨rfl, rfl⟩
      have hyt : isText y = true := by rw [HX.out.2]; exact lastD_text (allT_take HT.out k)
      have htt : isText t = true := by rw [← hte]; exact HT.out _ (nth_mem _ hlt)
      have ly := (isText_iff.1 hyt).2
      have lt := (isText_iff.1 htt).2
      have hrl := row_le y t
      have hml := mid_len y t
      have hxl : x.length ≤ 51 * 20 := by
        rw [HX.out.1]
        have := bytes_len (a := []) (allT_take HT.out k)
        rw [List.length_take] at this
        omega
      have hbl : (bytesOf ⟨(preOf y t : Nat), (sufOf y t : Nat), midOf y t⟩).length = (midOf y t).length + 3 := row_bytes y t
      have a1 := fun (W : World) => add_str (P := Tryd.prog) W x (bytesOf ⟨(preOf y t : Nat), (sufOf y t : Nat), midOf y t⟩) (by omega)
      rw [← HN0.out.1] at a1
      rw [hte] at d0
      have l1 : preOf y t ≤ 48 := by omega
      have l2 : sufOf y t ≤ 48 := by omega
      have l3 : (midOf y t).length ≤ 2000 := by omega
      have HL : Hid ((str y).size ≤ 140737488355328 ∧ (str t).size ≤ 140737488355328) := Lib.hid (by rw [size_str, size_str]; omega)
      clear hyt htt hrl hml hxl hbl hte
      go_wp2_with (first
        | (go_at_call 52; refine (rRowOf_c (str y) (str t) y t (lst_str y) (lst_str t) HL.out.1 HL.out.2 _).mono ?_; rintro e w1 ⟨rfl, δ1, rfl⟩)
        | (go_at_call 80; refine (rBytesOf_c (preOf y t) (sufOf y t) (str (midOf y t)) (midOf y t) (lst_str _) l1 l2 l3 _).mono ?_; rintro e w1 ⟨rfl, δ1, rfl⟩))
      go_roundg (ts.length - (k + 1))
      case measure => omega
      case rel => exact ⟨k + 1, _, _, _, by omega, rfl, rfl, rfl, by go_num, ⟨rfl, HN0.out.2⟩, lat_def⟩
    · obtain rfl : k = ts.length := by omega
      obtain rfl : x = bytesL (rows [] ts) := by have := HX.out.1; rw [List.take_length] at this; exact this
      go_wp2
      go_ret
      exact ⟨rfl, lat_ex⟩
end Go.Proofs.YtjamemjmdlkpcaaDoor
