/- Season: the program's row. -/
import Derived.Test.YtjamemjmdlkpcaaDoorSe1
namespace Go.Proofs.YtjamemjmdlkpcaaDoor
open Go.RowKit
open Se

/-- The string of some bytes. -/
def str (l : Txt) : ByteArray := ⟨l.toArray⟩
@[go_sem] theorem lst_str (l : Txt) : (str l).data.toList = l := by simp [str]
@[go_sem] theorem size_str (l : Txt) : (str l).size = l.length := by simp [str, ByteArray.size]
theorem str_eq {a : ByteArray} {l : Txt} (h : a.data.toList = l) : a = str l := by
  subst h
  cases a
  simp [str]
theorem ext_lst (s : ByteArray) (i j : Nat) : (s.extract i j).data.toList = (s.data.toList.take j).drop i := by
  rw [ByteArray.data_extract, Array.toList_extract, List.extract_eq_take_drop, List.drop_take]
theorem slice_at {P : Program} (w : World) (t : TypeId) (s : ByteArray) (k k' : IntKind) (i j : Nat) (h : P.underlying t = some .string) (hij : i ≤ j) (hj : j ≤ s.size) :
    (Instr.slice t (.string s) (some (.int k i)) (some (.int k' j)) none).run P w = .ok (.string (s.extract i j)) w := by
  rw [run_slice_string_if w t s k k' i j h, if_pos ⟨by omega, by omega⟩, if_pos ⟨by omega, by omega⟩]
  rfl
theorem commonB_n (a b : ByteArray) (up p : Nat) (hp : cmn a.data.toList b.data.toList = p) (hu : p ≤ up) (ha : up ≤ a.size) (hb : up ≤ b.size) (hs : a.size ≤ 140737488355328) (w : World) :
    Calls Tryd.prog 66 #[.string a, .string b, .int .i64 up, .func (.func 67) #[] #[]] w fun e w' => e = .returned (.int .i64 p) ∧ w = w' := by
  refine (commonB_c a b up ha hb hs w).mono ?_
  rintro e w1 ⟨rfl, rfl⟩
  rw [hp, Nat.min_eq_left hu]
  exact ⟨rfl, rfl⟩
theorem commonE_n (a b : ByteArray) (up n : Nat) (u : Int) (hu : u = (up : Int)) (hn : min (cmn a.data.toList.reverse b.data.toList.reverse) up = n) (ha : up ≤ a.size) (hb : up ≤ b.size) (hs : a.size ≤ 140737488355328) (hs2 : b.size ≤ 140737488355328) (w : World) :
    Calls Tryd.prog 66 #[.string a, .string b, .int .i64 u, .func (.func 68) #[] #[]] w fun e w' => e = .returned (.int .i64 n) ∧ w = w' := by
  subst hu
  refine (commonE_c a b up ha hb hs hs2 w).mono ?_
  rintro e w1 ⟨rfl, rfl⟩
  rw [hn]
  exact ⟨rfl, rfl⟩
theorem row_c0 (a b : ByteArray) (p s : Nat) (hp : preOf a.data.toList b.data.toList = p) (hs : sufOf a.data.toList b.data.toList = s) (ha : a.size ≤ 140737488355328) (hb : b.size ≤ 140737488355328) (w : World) :
    Calls Tryd.prog 51 #[.string a, .string b] w fun e w' => e = .returned (.agg #[.int .i64 (p : Nat), .int .i64 (s : Nat), .string (b.extract p (b.size - s))]) ∧ ∃ δ, w' = lat w δ := by
  have hle := row_le a.data.toList b.data.toList
  have hcl := cmn_le a.data.toList b.data.toList
  have hsr := suf_rev a.data.toList b.data.toList
  rw [hp, hs] at hle
  rw [hp, hs, size_len, size_len] at hsr
  rw [size_len, size_len] at hle hcl
  unfold preOf at hp
  obtain ⟨l1, l2, l3, l4⟩ := hle
  have hp' : Hid (cmn a.data.toList b.data.toList = p) := hp
  have hsr' : Hid (s = min (cmn a.data.toList.reverse b.data.toList.reverse) (min a.size b.size - p)) := hsr
  have hz : (b.size : Int) - (s : Int) = ((b.size - s : Nat) : Int) := by omega
  have hx := fun (W : World) t k k' h => slice_at (P := Tryd.prog) W t b k k' p (b.size - s) h (by omega) (by omega)
  rw [hp] at hcl
  clear hp hs hsr
  go_enter Tryd.func51, Tryd.ntmps51
  go_wp2_with (fail)
  · refine (commonB_n a b b.size p hp'.out (by omega) (by omega) (by omega) ha _).mono ?_
    rintro e w1 ⟨rfl, rfl⟩
    go_wp2_with (fail)
    refine (commonE_n a b (b.size - p) s _ (by omega) (by rw [hsr'.out]; congr 1; omega) (by omega) (by omega) ha hb _).mono ?_
    rintro e w1 ⟨rfl, rfl⟩
    go_wp2
    refine bodyPost_ret (v := .agg #[.int .i64 (p : Nat), .int .i64 (s : Nat), .string (b.extract p (b.size - s))]) ?_ rfl ⟨rfl, lat_ex⟩
    simp only [results, Tryd.results51]
    go_simp
  · refine (commonB_n a b a.size p hp'.out (by omega) (by omega) (by omega) ha _).mono ?_
    rintro e w1 ⟨rfl, rfl⟩
    go_wp2_with (fail)
    refine (commonE_n a b (a.size - p) s _ (by omega) (by rw [hsr'.out]; congr 1; omega) (by omega) (by omega) ha hb _).mono ?_
    rintro e w1 ⟨rfl, rfl⟩
    go_wp2
    refine bodyPost_ret (v := .agg #[.int .i64 (p : Nat), .int .i64 (s : Nat), .string (b.extract p (b.size - s))]) ?_ rfl ⟨rfl, lat_ex⟩
    simp only [results, Tryd.results51]
    go_simp
theorem row_c (a b : ByteArray) (x y : Txt) (hx : a.data.toList = x) (hy : b.data.toList = y) (ha : a.size ≤ 140737488355328) (hb : b.size ≤ 140737488355328) (w : World) :
    Calls Tryd.prog 51 #[.string a, .string b] w fun e w' => e = .returned (.agg #[.int .i64 (preOf x y : Nat), .int .i64 (sufOf x y : Nat), .string (str (midOf x y))]) ∧ ∃ δ, w' = lat w δ := by
  subst hx hy
  refine (row_c0 a b _ _ rfl rfl ha hb w).mono ?_
  rintro e w1 ⟨rfl, h⟩
  refine ⟨?_, h⟩
  rw [str_eq (a := b.extract _ _) (l := midOf a.data.toList b.data.toList) (by rw [ext_lst]; unfold midOf; rw [size_len])]

/-! Season: the program's Row and back. -/
open Go.RowKit
open Se

theorem row_no (a b : ByteArray) (h : (isText a.data.toList && isText b.data.toList) = false) (ha : a.size ≤ 100000) (hb : b.size ≤ 100000) (w : World) :
    Calls Tryd.prog 16 #[.string a, .string b] w fun e w' => e = .returned (.tuple #[.agg #[.int .i64 0, .int .i64 0, .string ⟨#[]⟩], .int .i64 1]) ∧ ∃ δ, w' = lat w δ := by
  rcases h1 : isText a.data.toList with _ | _
  · clear h
    have HT := Lib.hid h1
    clear h1
    go_enter Tryd.func16, Tryd.ntmps16
    go_wp2_with (go_at_call 50; refine (isText_c a false HT.out (by omega) _).mono ?_; rintro e w1 ⟨δ, rfl, rfl⟩)
    refine bodyPost_ret (v := .tuple #[.agg #[.int .i64 0, .int .i64 0, .string ⟨#[]⟩], .int .i64 1]) ?_ rfl ⟨rfl, lat_ex⟩
    simp only [results, Tryd.results16]
    go_simp
  · rw [h1] at h
    have HT := Lib.hid h1
    have HU : Hid (isText b.data.toList = false) := Lib.hid (by simpa using h)
    clear h1 h
    go_enter Tryd.func16, Tryd.ntmps16
    go_wp2_with (first
      | (go_at_call 50; with_reducible refine (isText_c a true HT.out (by omega) _).mono ?_; rintro e w1 ⟨δ, rfl, rfl⟩)
      | (go_at_call 50; with_reducible refine (isText_c b false HU.out (by omega) _).mono ?_; rintro e w1 ⟨δ, rfl, rfl⟩))
    refine bodyPost_ret (v := .tuple #[.agg #[.int .i64 0, .int .i64 0, .string ⟨#[]⟩], .int .i64 1]) ?_ rfl ⟨rfl, lat_ex⟩
    simp only [results, Tryd.results16]
    go_simp
theorem row_yes (a b : ByteArray) (x y : Txt) (hx : a.data.toList = x) (hy : b.data.toList = y) (h1 : isText x = true) (h2 : isText y = true) (w : World) :
    Calls Tryd.prog 16 #[.string a, .string b] w fun e w' => e = .returned (.tuple #[.agg #[.int .i64 (preOf x y : Nat), .int .i64 (sufOf x y : Nat), .string (str (midOf x y))], .int .i64 0]) ∧ ∃ δ, w' = lat w δ := by
  have la : a.size ≤ 48 := by rw [← size_len, hx]; exact (isText_iff.1 h1).2
  have lb : b.size ≤ 48 := by rw [← size_len, hy]; exact (isText_iff.1 h2).2
  have HT : Hid (isText a.data.toList = true) := by rw [hx]; exact h1
  have HU : Hid (isText b.data.toList = true) := by rw [hy]; exact h2
  have HX := Lib.hid hx
  have HY := Lib.hid hy
  clear hx hy h1 h2
  go_enter Tryd.func16, Tryd.ntmps16
  go_wp2_with (first
    | (go_at_call 50; with_reducible refine (isText_c a true HT.out (by omega) _).mono ?_; rintro e w1 ⟨δ, rfl, rfl⟩)
    | (go_at_call 50; with_reducible refine (isText_c b true HU.out (by omega) _).mono ?_; rintro e w1 ⟨δ, rfl, rfl⟩)
    | (go_at_call 51; refine (row_c a b x y HX.out HY.out (by omega) (by omega) _).mono ?_; rintro e w1 ⟨rfl, δ, rfl⟩))
  refine bodyPost_ret (v := .tuple #[.agg #[.int .i64 (preOf x y : Nat), .int .i64 (sufOf x y : Nat), .string (str (midOf x y))], .int .i64 0]) ?_ rfl ⟨rfl, lat_ex⟩
  simp only [results, Tryd.results16]
  go_simp

/-! Season: the program's back. -/
open Go.RowKit
open Se

theorem toList_lst (s : ByteArray) : s.toList = s.data.toList := by
  rw [ByteArray.toList_eq]
theorem eql_row (q : Bool) (p s p' s' : Int) (m m' : ByteArray) (hq : decide (p = p' ∧ s = s' ∧ m.data.toList = m'.data.toList) = q) (W : World) :
    (binOp .eql 23 (.agg #[.int .i64 p, .int .i64 s, .string m]) (.agg #[.int .i64 p', .int .i64 s', .string m'])).run Tryd.prog W = .ok (.bool q) W := by
  rw [run_eql_struct]
  go_simp
  subst hq
  rw [toList_lst, toList_lst]
  by_cases h1 : p = p' <;> by_cases h2 : s = s' <;> by_cases h3 : m.data.toList = m'.data.toList <;> simp [h1, h2, h3]
theorem back_out (a : ByteArray) (p s : Int) (m : ByteArray) (h : ¬ (0 ≤ p ∧ 0 ≤ s ∧ p ≤ a.size ∧ s ≤ a.size - p)) (ha : a.size ≤ 100000) (_hm : m.size ≤ 100000) (w : World) :
    Calls Tryd.prog 53 #[.string a, .agg #[.int .i64 p, .int .i64 s, .string m]] w fun e w' => e = .returned (.tuple #[.string ⟨#[]⟩, .bool false]) ∧ ∃ δ, w' = lat w δ := by
  by_cases h1 : p < 0
  · clear h
    go_enter Tryd.func53, Tryd.ntmps53
    go_wp2
    go_ret2
    exact ⟨rfl, lat_ex⟩
  by_cases h2 : s < 0
  · clear h
    go_enter Tryd.func53, Tryd.ntmps53
    go_wp2
    go_ret2
    exact ⟨rfl, lat_ex⟩
  by_cases h3 : (a.size : Int) < p
  · clear h
    go_enter Tryd.func53, Tryd.ntmps53
    go_wp2
    go_ret2
    exact ⟨rfl, lat_ex⟩
  have h4 : (a.size : Int) - p < s := by omega
  clear h
  go_enter Tryd.func53, Tryd.ntmps53
  go_wp2
  go_ret2
  exact ⟨rfl, lat_ex⟩
theorem slice_to {P : Program} (w : World) (t : TypeId) (s : ByteArray) (k : IntKind) (j : Nat) (h : P.underlying t = some .string) (hj : j ≤ s.size) :
    (Instr.slice t (.string s) none (some (.int k j)) none).run P w = .ok (.string (s.extract 0 j)) w := by
  rw [run_slice_string_to_if w t s k j h, if_pos ⟨by omega, by omega⟩]
  rfl
theorem slice_from {P : Program} (w : World) (t : TypeId) (s : ByteArray) (k : IntKind) (i : Nat) (h : P.underlying t = some .string) (hi : i ≤ s.size) :
    (Instr.slice t (.string s) (some (.int k i)) none none).run P w = .ok (.string (s.extract i s.size)) w := by
  rw [run_slice_string_from_if w t s k i h, if_pos ⟨by omega, by omega⟩]
  rfl
theorem app_lst (a b : ByteArray) : (a ++ b).data.toList = a.data.toList ++ b.data.toList := by
  rw [ByteArray.data_append, Array.toList_append]
theorem app_size (a b : ByteArray) : (a ++ b).size = a.size + b.size := ByteArray.size_append
theorem ext_size (s : ByteArray) (i j : Nat) : (s.extract i j).size = min j s.size - i := ByteArray.size_extract
/-- The text that would have a row. -/
def joinB (a : ByteArray) (p s : Nat) (m : ByteArray) : ByteArray := a.extract 0 p ++ m ++ a.extract (a.size - s) a.size
theorem join_lst (a : ByteArray) (p s : Nat) (m : ByteArray) : (joinB a p s m).data.toList = join a.data.toList p s m.data.toList := by
  unfold joinB join
  have e : a.data.toList.take a.size = a.data.toList := List.take_of_length_le (by rw [size_len]; exact Nat.le_refl _)
  rw [app_lst, app_lst, ext_lst, ext_lst, size_len, List.drop_zero, e]
theorem join_size (a : ByteArray) (p s : Nat) (m : ByteArray) : (joinB a p s m).size ≤ a.size + m.size + a.size := by
  unfold joinB
  rw [app_size, app_size, ext_size, ext_size]
  omega
theorem back_in (a : ByteArray) (p s : Nat) (m : ByteArray) (x y : Txt) (hx : a.data.toList = x) (hy : m.data.toList = y) (h1 : p ≤ a.size) (h2 : s ≤ a.size - p) (ha : a.size ≤ 100000) (hm : m.size ≤ 100000) (c d : Bool) (hc : isText (join x p s y) = c) (hd : decide (rowOf x (join x p s y) = ⟨p, s, y⟩) = d) (w : World) :
    Calls Tryd.prog 53 #[.string a, .agg #[.int .i64 p, .int .i64 s, .string m]] w fun e w' => e = .returned (.tuple #[.string (str (join x p s y)), .bool (c && d)]) ∧ ∃ δ, w' = lat w δ := by
  have ht := join_lst a p s m
  have hts := join_size a p s m
  rw [hx, hy] at ht
  have htd : a.extract 0 p ++ m ++ a.extract (a.size - s) a.size = joinB a p s m := rfl
  have e1 := fun (W : World) t k h => slice_to (P := Tryd.prog) W t a k p h h1
  have e2 := fun (W : World) t k h => slice_from (P := Tryd.prog) W t a k (a.size - s) h (by omega)
  have e3 : (a.size : Int) - (s : Int) = ((a.size - s : Nat) : Int) := by omega
  have z1 := app_size (a.extract 0 p) m
  have z2 := ext_size a 0 p
  have z3 := ext_size a (a.size - s) a.size
  have g3 : ¬ ((a.size : Int) < p) := by omega
  have g4 : ¬ ((a.size : Int) - p < s) := by omega
  have g1 : ¬ ((p : Int) < 0) := by omega
  have g2 : ¬ ((s : Int) < 0) := by omega
  have e4 := fun (W : World) => run_string_add_sum (P := Tryd.prog) W (a.extract 0 p) m (by omega)
  have e5 := fun (W : World) => run_string_add_sum (P := Tryd.prog) W (a.extract 0 p ++ m) (a.extract (a.size - s) a.size) (by omega)
  rw [htd] at e5
  have HX := Lib.hid hx
  have HC : Hid (isText (joinB a p s m).data.toList = c) := Lib.hid (by rw [ht]; exact hc)
  have HT := Lib.hid ht
  have hq := fun W => eql_row d (preOf x (join x p s y) : Nat) (sufOf x (join x p s y) : Nat) p s (str (midOf x (join x p s y))) m (by
    rw [← hd, lst_str, hy]
    simp only [rowOf, Row.mk.injEq]) W
  rw [← str_eq ht]
  clear hx hy hc hd ht htd z1 z2 z3
  cases c with
  | false =>
    go_enter Tryd.func53, Tryd.ntmps53
    go_wp2_with (fail)
    refine wp_region_lat (by kernel_rfl) (by kernel_rfl) ?_
    repeat (go_big_quiet_step ((first | (fail))))
    refine wpQuiet_nil ?_
    rintro _ ⟨δq, rfl⟩
    go_wp2_with (fail)
    refine wp_region_lat (by kernel_rfl) (by kernel_rfl) ?_
    repeat (go_big_quiet_step ((first | (go_at_call 50; refine (isText_c _ false HC.out (by omega) _).mono ?_; rintro e w1 ⟨δ, rfl, rfl⟩; exact ⟨rfl, _, lat_lat _ _ _⟩))))
    refine wpQuiet_nil ?_
    rintro _ ⟨δr, rfl⟩
    go_wp2
    go_ret2
    exact ⟨rfl, lat_ex⟩
  | true =>
    go_enter Tryd.func53, Tryd.ntmps53
    go_wp2_with (fail)
    refine wp_region_lat (by kernel_rfl) (by kernel_rfl) ?_
    repeat (go_big_quiet_step ((first | (fail))))
    refine wpQuiet_nil ?_
    rintro _ ⟨δq, rfl⟩
    go_wp2_with (fail)
    refine wp_region_lat (by kernel_rfl) (by kernel_rfl) ?_
    repeat (go_big_quiet_step ((first | (go_at_call 50; refine (isText_c _ true HC.out (by omega) _).mono ?_; rintro e w1 ⟨δ, rfl, rfl⟩; exact ⟨rfl, _, lat_lat _ _ _⟩) | (go_at_call 51; exact Calls.lat_of (row_c a _ x _ HX.out HT.out (by omega) (by omega) _)))))
    refine wpQuiet_nil ?_
    rintro _ ⟨δr, rfl⟩
    go_wp2
    go_ret2
    exact ⟨rfl, lat_ex⟩

/-! Season: the program's Back. -/
open Go.RowKit
open Se

theorem isText_v (s : ByteArray) (b : Bool) (hb : isText s.data.toList = b) (hs : s.size ≤ 140737488355328) (w : World) :
    Calls Tryd.prog 50 #[.string s] w fun e w' => e = .returned (.bool b) ∧ ∃ δ, w' = lat w δ := by
  refine (isText_c s b hb hs w).mono ?_
  rintro e w1 ⟨δ, h1, h2⟩
  exact ⟨h1, δ, h2⟩
theorem isText_size {s : ByteArray} {x : Txt} (hx : s.data.toList = x) (h : isText x = true) : s.size ≤ 48 := by rw [← size_len, hx]; exact (isText_iff.1 h).2
theorem backOf_out {a : Txt} {r : Row} (h : ¬ (0 ≤ r.pre ∧ 0 ≤ r.suf ∧ r.pre ≤ a.length ∧ r.suf ≤ a.length - r.pre)) : backOf a r = none := by
  unfold backOf
  rw [if_neg]
  intro hc
  exact h ⟨hc.1, hc.2.1, hc.2.2.1, hc.2.2.2.1⟩
theorem backOf_in {a : Txt} {p s : Nat} {m : Txt} (h1 : p ≤ a.length) (h2 : s ≤ a.length - p) : backOf a ⟨p, s, m⟩ = if isText (join a p s m) = true ∧ rowOf a (join a p s m) = ⟨p, s, m⟩ then some (join a p s m) else none := by
  unfold backOf
  simp only [Int.toNat_natCast]
  by_cases h : isText (join a p s m) = true ∧ rowOf a (join a p s m) = ⟨p, s, m⟩
  · rw [if_pos h, if_pos ⟨by omega, by omega, by omega, by omega, h.1, h.2⟩]
  · rw [if_neg h, if_neg (fun hc => h ⟨hc.2.2.2.2.1, hc.2.2.2.2.2⟩)]
theorem back_none (a : ByteArray) (p s : Int) (m : ByteArray) (x y : Txt) (hx : a.data.toList = x) (hy : m.data.toList = y) (h : backOf x ⟨p, s, y⟩ = none) (ha : a.size ≤ 100000) (hm : m.size ≤ 100000) (w : World) :
    Calls Tryd.prog 53 #[.string a, .agg #[.int .i64 p, .int .i64 s, .string m]] w fun e w' => ∃ t, e = .returned (.tuple #[.string t, .bool false]) ∧ ∃ δ, w' = lat w δ := by
  by_cases ho : 0 ≤ p ∧ 0 ≤ s ∧ p ≤ a.size ∧ s ≤ a.size - p
  · obtain ⟨p, rfl⟩ := Int.eq_ofNat_of_zero_le ho.1
    obtain ⟨s, rfl⟩ := Int.eq_ofNat_of_zero_le ho.2.1
    have hl : x.length = a.size := by rw [← hx, size_len]
    rw [backOf_in (by omega) (by omega)] at h
    refine (back_in a p s m x y hx hy (by omega) (by omega) ha hm _ _ rfl rfl w).mono ?_
    rintro e w1 ⟨rfl, h2⟩
    refine ⟨str (join x p s y), ?_, h2⟩
    have hf : (isText (join x p s y) && decide (rowOf x (join x p s y) = ⟨p, s, y⟩)) = false := by
      by_cases hc : isText (join x p s y) = true ∧ rowOf x (join x p s y) = ⟨p, s, y⟩
      · rw [if_pos hc] at h; cases h
      · simpa using hc
    rw [hf]
  · refine (back_out a p s m ho ha hm w).mono ?_
    rintro e w1 ⟨rfl, h2⟩
    exact ⟨_, rfl, h2⟩
theorem back_some_c (a : ByteArray) (p s : Int) (m : ByteArray) (x y t : Txt) (hx : a.data.toList = x) (hy : m.data.toList = y) (h : backOf x ⟨p, s, y⟩ = some t) (ha : a.size ≤ 100000) (hm : m.size ≤ 100000) (w : World) :
    Calls Tryd.prog 53 #[.string a, .agg #[.int .i64 p, .int .i64 s, .string m]] w fun e w' => e = .returned (.tuple #[.string (str t), .bool true]) ∧ ∃ δ, w' = lat w δ := by
  have hl : x.length = a.size := by rw [← hx, size_len]
  by_cases ho : 0 ≤ p ∧ 0 ≤ s ∧ p ≤ a.size ∧ s ≤ a.size - p
  · obtain ⟨p, rfl⟩ := Int.eq_ofNat_of_zero_le ho.1
    obtain ⟨s, rfl⟩ := Int.eq_ofNat_of_zero_le ho.2.1
    rw [backOf_in (by omega) (by omega)] at h
    refine (back_in a p s m x y hx hy (by omega) (by omega) ha hm _ _ rfl rfl w).mono ?_
    rintro e w1 ⟨rfl, h2⟩
    refine ⟨?_, h2⟩
    by_cases hc : isText (join x p s y) = true ∧ rowOf x (join x p s y) = ⟨p, s, y⟩
    · rw [if_pos hc] at h
      injection h with h
      subst h
      have hf : (isText (join x p s y) && decide (rowOf x (join x p s y) = ⟨p, s, y⟩)) = true := by simpa using hc
      rw [hf]
    · rw [if_neg hc] at h; cases h
  · rw [backOf_out (by rw [hl]; exact ho)] at h
    cases h
/-! ### Back -/
theorem Back_arg (a : ByteArray) (p s : Int) (m : ByteArray) (h : (isText a.data.toList && isText m.data.toList) = false) (ha : a.size ≤ 100000) (hm : m.size ≤ 100000) (w : World) :
    Calls Tryd.prog 18 #[.string a, .agg #[.int .i64 p, .int .i64 s, .string m]] w fun e w' => e = .returned (.tuple #[.string ⟨#[]⟩, .int .i64 1]) ∧ ∃ δ, w' = lat w δ := by
  rcases h1 : isText a.data.toList with _ | _
  · clear h
    have HT := Lib.hid h1
    clear h1
    go_enter Tryd.func18, Tryd.ntmps18
    go_wp2_with (go_at_call 50; refine (isText_v a false HT.out (by omega) _).mono ?_; rintro e w1 ⟨rfl, δ, rfl⟩)
    go_ret2
    exact ⟨rfl, lat_ex⟩
  · rw [h1] at h
    have HT := Lib.hid h1
    have HU : Hid (isText m.data.toList = false) := Lib.hid (by simpa using h)
    clear h1 h
    go_enter Tryd.func18, Tryd.ntmps18
    go_wp2_with (first
      | (go_at_call 50; with_reducible refine (isText_v a true HT.out (by omega) _).mono ?_; rintro e w1 ⟨rfl, δ, rfl⟩)
      | (go_at_call 50; with_reducible refine (isText_v m false HU.out (by omega) _).mono ?_; rintro e w1 ⟨rfl, δ2, rfl⟩))
    go_ret2
    exact ⟨rfl, lat_ex⟩
theorem Back_row (a : ByteArray) (p s : Int) (m : ByteArray) (x y : Txt) (hx : a.data.toList = x) (hy : m.data.toList = y) (h1 : isText x = true) (h2 : isText y = true) (h : backOf x ⟨p, s, y⟩ = none) (w : World) :
    Calls Tryd.prog 18 #[.string a, .agg #[.int .i64 p, .int .i64 s, .string m]] w fun e w' => e = .returned (.tuple #[.string ⟨#[]⟩, .int .i64 142]) ∧ ∃ δ, w' = lat w δ := by
  have la := isText_size hx h1
  have lb := isText_size hy h2
  have HT : Hid (isText a.data.toList = true) := Lib.hid (by rw [hx]; exact h1)
  have HU : Hid (isText m.data.toList = true) := Lib.hid (by rw [hy]; exact h2)
  have HX := Lib.hid hx
  have HY := Lib.hid hy
  have HB := Lib.hid h
  clear hx hy h1 h2 h
  go_enter Tryd.func18, Tryd.ntmps18
  go_wp2_with (first
    | (go_at_call 50; with_reducible refine (isText_v a true HT.out (by omega) _).mono ?_; rintro e w1 ⟨rfl, δ, rfl⟩)
    | (go_at_call 50; with_reducible refine (isText_v m true HU.out (by omega) _).mono ?_; rintro e w1 ⟨rfl, δ2, rfl⟩)
    | (go_at_call 53; refine (back_none a p s m x y HX.out HY.out HB.out (by omega) (by omega) _).mono ?_; rintro e w1 ⟨t, rfl, δ3, rfl⟩))
  go_ret2
  exact ⟨rfl, lat_ex⟩
theorem Back_ok (a : ByteArray) (p s : Int) (m : ByteArray) (x y t : Txt) (hx : a.data.toList = x) (hy : m.data.toList = y) (h1 : isText x = true) (h2 : isText y = true) (h : backOf x ⟨p, s, y⟩ = some t) (w : World) :
    Calls Tryd.prog 18 #[.string a, .agg #[.int .i64 p, .int .i64 s, .string m]] w fun e w' => e = .returned (.tuple #[.string (str t), .int .i64 0]) ∧ ∃ δ, w' = lat w δ := by
  have la := isText_size hx h1
  have lb := isText_size hy h2
  have HT : Hid (isText a.data.toList = true) := Lib.hid (by rw [hx]; exact h1)
  have HU : Hid (isText m.data.toList = true) := Lib.hid (by rw [hy]; exact h2)
  have HX := Lib.hid hx
  have HY := Lib.hid hy
  have HB := Lib.hid h
  clear hx hy h1 h2 h
  go_enter Tryd.func18, Tryd.ntmps18
  go_wp2_with (first
    | (go_at_call 50; with_reducible refine (isText_v a true HT.out (by omega) _).mono ?_; rintro e w1 ⟨rfl, δ, rfl⟩)
    | (go_at_call 50; with_reducible refine (isText_v m true HU.out (by omega) _).mono ?_; rintro e w1 ⟨rfl, δ2, rfl⟩)
    | (go_at_call 53; refine (back_some_c a p s m x y t HX.out HY.out HB.out (by omega) (by omega) _).mono ?_; rintro e w1 ⟨rfl, δ3, rfl⟩))
  go_ret2
  exact ⟨rfl, lat_ex⟩
end Go.Proofs.YtjamemjmdlkpcaaDoor
