/- Season: the reference's RowOf. -/
import Derived.Test.YtjamemjmdlkpcaaDoorSe6
namespace Go.Proofs.YtjamemjmdlkpcaaDoor
open Go.RowKit
open Se

theorem take_beq {a b : ByteArray} {n : Nat} (h1 : n ≤ a.size) (h2 : n ≤ b.size) : ((a.extract 0 n).toList == (b.extract 0 n).toList) = decide (n ≤ cmn a.data.toList b.data.toList) := by
  rw [toList_lst, toList_lst, ext_lst, ext_lst, List.drop_zero, List.drop_zero]
  have := take_eq_iff (a := a.data.toList) (b := b.data.toList) (n := n) (by rw [size_len]; exact h1) (by rw [size_len]; exact h2)
  by_cases h : n ≤ cmn a.data.toList b.data.toList
  · rw [decide_eq_true h, beq_iff_eq]; exact this.2 h
  · rw [decide_eq_false h, beq_eq_false_iff_ne]; exact fun he => h (this.1 he)
theorem take_all (s : ByteArray) : s.data.toList.take s.size = s.data.toList := List.take_of_length_le (by rw [size_len]; exact Nat.le_refl _)
theorem drop_beq {a b : ByteArray} {n : Nat} (h1 : n ≤ a.size) (h2 : n ≤ b.size) : ((a.extract (a.size - n) a.size).toList == (b.extract (b.size - n) b.size).toList) = decide (n ≤ cmn a.data.toList.reverse b.data.toList.reverse) := by
  rw [toList_lst, toList_lst, ext_lst, ext_lst, take_all, take_all]
  have := drop_eq_iff (a := a.data.toList) (b := b.data.toList) (n := n) (by rw [size_len]; exact h1) (by rw [size_len]; exact h2)
  rw [size_len, size_len] at this
  by_cases h : n ≤ cmn a.data.toList.reverse b.data.toList.reverse
  · rw [decide_eq_true h, beq_iff_eq]; exact this.2 h
  · rw [decide_eq_false h, beq_eq_false_iff_ne]; exact fun he => h (this.1 he)
set_option maxHeartbeats 4000000 in
theorem rRowOf_c0 (a b : ByteArray) (p s : Nat) (hp : preOf a.data.toList b.data.toList = p) (hs : sufOf a.data.toList b.data.toList = s) (ha : a.size ≤ 140737488355328) (hb : b.size ≤ 140737488355328) (w : World) :
    Calls Tryd.prog 52 #[.string a, .string b] w fun e w' => e = .returned (.agg #[.int .i64 (p : Nat), .int .i64 (s : Nat), .string (b.extract p (b.size - s))]) ∧ ∃ δ, w' = lat w δ := by
  have hle := row_le a.data.toList b.data.toList
  have hcl := cmn_le a.data.toList b.data.toList
  have hsr := suf_rev a.data.toList b.data.toList
  rw [hp, hs] at hle
  rw [hp, hs, size_len, size_len] at hsr
  rw [size_len, size_len] at hle hcl
  unfold preOf at hp
  obtain ⟨l1, l2, l3, l4⟩ := hle
  have HP := Lib.hid hp
  have HS := Lib.hid hsr
  have hz : (b.size : Int) - (s : Int) = ((b.size - s : Nat) : Int) := by omega
  have hx := fun (W : World) t k k' h => slice_at (P := Tryd.prog) W t b k k' p (b.size - s) h (by omega) (by omega)
  rw [hp] at hcl
  obtain ⟨mn, hmn⟩ : ∃ mn : Nat, mn = min a.size b.size := ⟨_, rfl⟩
  have hmin : (if b.size < a.size then (b.size : Int) else (a.size : Int)) = (mn : Int) := by
    split <;> omega
  have hm1 : mn ≤ a.size := by omega
  have hm2 : mn ≤ b.size := by omega
  have hm3 : p ≤ mn := by omega
  have hm4 : s ≤ mn - p := by omega
  rw [← hmn] at hsr HS
  clear hp hs hsr hcl hmn
  go_enter Tryd.func52, Tryd.ntmps52
  go_upto_region 2 with fail
  refine wp_name fun W1 hW1 => ?_
  have iw1 : Le w.heap.size W1 := by rw [hW1.out]; infer_instance
  have iw2 : Grew w.heap.size w W1 := by rw [hW1.out]; infer_instance
  have iw3 : Lt (w.heap.size) W1 := by rw [hW1.out]; infer_instance
  have cw4 : W1.cell? ⟨w.heap.size, 0, none⟩ = some (.int .i64 0) := by rw [hW1.out]; go_simp
  have cw5 : W1.cell? ⟨w.heap.size, 1, none⟩ = some (.int .i64 0) := by rw [hW1.out]; go_simp
  have cw6 : W1.cell? ⟨w.heap.size, 2, none⟩ = some (.string ⟨#[]⟩) := by rw [hW1.out]; go_simp
  have fw7 : W1.frozen? ⟨w.heap.size, 0, none⟩ = false := by rw [hW1.out]; go_simp
  have fw8 : W1.frozen? ⟨w.heap.size, 1, none⟩ = false := by rw [hW1.out]; go_simp
  have fw9 : W1.frozen? ⟨w.heap.size, 2, none⟩ = false := by rw [hW1.out]; go_simp
  clear hW1 hmin
  go_wp2_with (fail)
  go_loopg [6] (mn - p) (fun g i wr => ∃ (k : Nat) (δ : World), k ≤ mn ∧ p ≤ k ∧ g = k - p ∧ i = .int .i64 k ∧ wr = lat W1 δ)
  case atStart => exact ⟨mn, W1, Nat.le_refl _, hm3, rfl, rfl, (lat_refl W1).symm⟩
  case round =>
    obtain ⟨k, δ, hk, hpk, rfl, rfl, rfl⟩ := hrel
    have t1 := fun (W : World) t kk h => slice_to (P := Tryd.prog) W t a kk k h (by omega)
    have t2 := fun (W : World) t kk h => slice_to (P := Tryd.prog) W t b kk k h (by omega)
    have hb1 := take_beq (a := a) (b := b) (n := k) (by omega) (by omega)
    rw [HP.out] at hb1
    by_cases hkp : k ≤ p
    · obtain rfl : k = p := by omega
      rw [decide_eq_true (Nat.le_refl _)] at hb1
      go_wp2_with (fail)
      refine wp_region_lat (by kernel_rfl) (by kernel_rfl) ?_
      repeat (go_big_quiet_step ((first | (fail))))
      refine wpQuiet_nil ?_
      rintro _ ⟨δq, rfl⟩
      go_wp2_with (fail)
      go_loopg [7] (mn - k - s) (fun g i wr => ∃ (j : Nat) (δ : World), j ≤ mn - k ∧ s ≤ j ∧ g = j - s ∧ i = .int .i64 j ∧ wr = lat W1 δ)
      case atStart => exact ⟨mn - k, _, Nat.le_refl _, hm4, rfl, int_eq (by omega), lat_def⟩
      case round =>
        obtain ⟨j, δ2, hj, hsj, rfl, rfl, rfl⟩ := hrel
        have ea : (a.size : Int) - (j : Int) = ((a.size - j : Nat) : Int) := by omega
        have eb : (b.size : Int) - (j : Int) = ((b.size - j : Nat) : Int) := by omega
        have t3 := fun (W : World) t kk h => slice_from (P := Tryd.prog) W t a kk (a.size - j) h (by omega)
        have t4 := fun (W : World) t kk h => slice_from (P := Tryd.prog) W t b kk (b.size - j) h (by omega)
        have hb2 := drop_beq (a := a) (b := b) (n := j) (by omega) (by omega)
        by_cases hjs : j ≤ s
        · obtain rfl : j = s := by omega
          have hle : j ≤ cmn a.data.toList.reverse b.data.toList.reverse := by rw [HS.out]; omega
          rw [decide_eq_true hle] at hb2
          clear hle
          go_wp2_with (fail)
          refine wp_region_lat (by kernel_rfl) (by kernel_rfl) ?_
          repeat (go_big_quiet_step ((first | (fail))))
          refine wpQuiet_nil ?_
          rintro _ ⟨δr, rfl⟩
          go_wp2
          refine bodyPost_ret (v := .agg #[.int .i64 (k : Nat), .int .i64 (j : Nat), .string (b.extract k (b.size - j))]) ?_ rfl ⟨rfl, lat_ex⟩
          simp only [results, Tryd.results52]
          go_simp
        · have hle : ¬ j ≤ cmn a.data.toList.reverse b.data.toList.reverse := by
            have := HS.out; omega
          rw [decide_eq_false hle] at hb2
          clear hle
          go_wp2_with (fail)
          refine wp_region_lat (by kernel_rfl) (by kernel_rfl) ?_
          repeat (go_big_quiet_step ((first | (fail))))
          refine wpQuiet_nil ?_
          rintro _ ⟨δr, rfl⟩
          go_wp2_with (fail)
          go_roundg (j - 1 - s)
          case measure => omega
          case rel => exact ⟨j - 1, _, by omega, by omega, rfl, int_eq (by omega), lat_def⟩
    · rw [decide_eq_false (by omega)] at hb1
      go_wp2_with (fail)
      refine wp_region_lat (by kernel_rfl) (by kernel_rfl) ?_
      repeat (go_big_quiet_step ((first | (fail))))
      refine wpQuiet_nil ?_
      rintro _ ⟨δq, rfl⟩
      go_wp2_with (fail)
      go_roundg (k - 1 - p)
      case measure => omega
      case rel => exact ⟨k - 1, _, by omega, by omega, rfl, int_eq (by omega), lat_def⟩

/-! Season: the reference's BackOf. -/
open Go.RowKit
open Se

theorem rIsText_v (s : ByteArray) (b : Bool) (hb : isText s.data.toList = b) (hs : s.size ≤ 140737488355328) (w : World) :
    Calls Tryd.prog 26 #[.string s] w fun e w' => e = .returned (.bool b) ∧ ∃ δ, w' = lat w δ := by
  refine (rIsText_c s b hb hs w).mono ?_
  rintro e w1 ⟨rfl, rfl⟩
  exact ⟨rfl, w, (lat_refl w).symm⟩
theorem rRowOf_c (a b : ByteArray) (x y : Txt) (hx : a.data.toList = x) (hy : b.data.toList = y) (ha : a.size ≤ 140737488355328) (hb : b.size ≤ 140737488355328) (w : World) :
    Calls Tryd.prog 52 #[.string a, .string b] w fun e w' => e = .returned (.agg #[.int .i64 (preOf x y : Nat), .int .i64 (sufOf x y : Nat), .string (str (midOf x y))]) ∧ ∃ δ, w' = lat w δ := by
  subst hx hy
  refine (rRowOf_c0 a b _ _ rfl rfl ha hb w).mono ?_
  rintro e w1 ⟨rfl, h⟩
  refine ⟨?_, h⟩
  rw [str_eq (a := b.extract _ _) (l := midOf a.data.toList b.data.toList) (by rw [ext_lst]; unfold midOf; rw [size_len])]
theorem neq_row (q : Bool) (p s p' s' : Int) (m m' : ByteArray) (hq : decide (p = p' ∧ s = s' ∧ m.data.toList = m'.data.toList) = q) (W : World) :
    (binOp .neq 23 (.agg #[.int .i64 p, .int .i64 s, .string m]) (.agg #[.int .i64 p', .int .i64 s', .string m'])).run Tryd.prog W = .ok (.bool (!q)) W := by
  rw [run_neq_struct]
  go_simp
  subst hq
  rw [toList_lst, toList_lst]
  by_cases h1 : p = p' <;> by_cases h2 : s = s' <;> by_cases h3 : m.data.toList = m'.data.toList <;> simp [h1, h2, h3]
theorem rback_out (a : ByteArray) (p s : Int) (m : ByteArray) (h : ¬ (0 ≤ p ∧ 0 ≤ s ∧ p ≤ a.size ∧ s ≤ a.size - p)) (ha : a.size ≤ 100000) (_hm : m.size ≤ 100000) (w : World) :
    Calls Tryd.prog 54 #[.string a, .agg #[.int .i64 p, .int .i64 s, .string m]] w fun e w' => e = .returned (.tuple #[.string ⟨#[]⟩, .bool false]) ∧ ∃ δ, w' = lat w δ := by
  by_cases h1 : p < 0
  · clear h
    go_enter Tryd.func54, Tryd.ntmps54
    go_wp2
    go_ret2
    exact ⟨rfl, lat_ex⟩
  by_cases h2 : s < 0
  · clear h
    go_enter Tryd.func54, Tryd.ntmps54
    go_wp2
    go_ret2
    exact ⟨rfl, lat_ex⟩
  by_cases h3 : (a.size : Int) < p
  · clear h
    go_enter Tryd.func54, Tryd.ntmps54
    go_wp2
    go_ret2
    exact ⟨rfl, lat_ex⟩
  have h4 : (a.size : Int) - p < s := by omega
  clear h
  go_enter Tryd.func54, Tryd.ntmps54
  go_wp2
  go_ret2
  exact ⟨rfl, lat_ex⟩
/-- What BackOf returns of a text that would be the one. -/
def backV (t : Txt) (c d : Bool) : Value := .tuple #[.string (str (if (c && d) = true then t else [])), .bool (c && d)]
set_option maxHeartbeats 4000000 in
theorem rback_in (a : ByteArray) (p s : Nat) (m : ByteArray) (x y : Txt) (hx : a.data.toList = x) (hy : m.data.toList = y) (h1 : p ≤ a.size) (h2 : s ≤ a.size - p) (ha : a.size ≤ 100000) (hm : m.size ≤ 100000) (c d : Bool) (hc : isText (join x p s y) = c) (hd : decide (rowOf x (join x p s y) = ⟨p, s, y⟩) = d) (w : World) :
    Calls Tryd.prog 54 #[.string a, .agg #[.int .i64 p, .int .i64 s, .string m]] w fun e w' => e = .returned (backV (join x p s y) c d) ∧ ∃ δ, w' = lat w δ := by
  have ht := join_lst a p s m
  have hts := join_size a p s m
  rw [hx, hy] at ht
  have htd : a.extract 0 p ++ m ++ a.extract (a.size - s) a.size = joinB a p s m := rfl
  have e1 := fun (W : World) t k h => slice_to (P := Tryd.prog) W t a k p h h1
  have e2 := fun (W : World) t k h => slice_from (P := Tryd.prog) W t a k (a.size - s) h (by omega)
  have e3 : (a.size : Int) - (s : Int) = ((a.size - s : Nat) : Int) := by omega
  have z1 := app_size (a.extract 0 p) m
  have z2 := ext_size a 0 p
  have z3 := ext_size a (a.size - s) a.size
  have g3 : ¬ ((a.size : Int) < p) := by omega
  have g4 : ¬ ((a.size : Int) - p < s) := by omega
  have g1 : ¬ ((p : Int) < 0) := by omega
  have g2 : ¬ ((s : Int) < 0) := by omega
  have e4 := fun (W : World) => run_string_add_sum (P := Tryd.prog) W (a.extract 0 p) m (by omega)
  have e5 := fun (W : World) => run_string_add_sum (P := Tryd.prog) W (a.extract 0 p ++ m) (a.extract (a.size - s) a.size) (by omega)
  rw [htd] at e5
  have HX := Lib.hid hx
  have HC : Hid (isText (joinB a p s m).data.toList = c) := Lib.hid (by rw [ht]; exact hc)
  have HT := Lib.hid ht
  have hq := fun W => neq_row d (preOf x (join x p s y) : Nat) (sufOf x (join x p s y) : Nat) p s (str (midOf x (join x p s y))) m (by
    rw [← hd, lst_str, hy]
    simp only [rowOf, Row.mk.injEq]) W
  have hv : ∀ b : Bool, b = (c && d) → backV (join x p s y) c d = .tuple #[.string (if b = true then joinB a p s m else ⟨#[]⟩), .bool b] := by
    rintro b rfl
    unfold backV
    rw [str_eq ht]
    congr 3
    split <;> rfl
  have HV := Lib.hid hv
  clear hx hy hc hd ht htd z1 z2 z3 hv
  cases c with
  | false =>
    rw [HV.out false rfl]
    go_enter Tryd.func54, Tryd.ntmps54
    go_wp2_with (fail)
    refine wp_region_lat (by kernel_rfl) (by kernel_rfl) ?_
    repeat (go_big_quiet_step ((first | (fail))))
    refine wpQuiet_nil ?_
    rintro _ ⟨δq, rfl⟩
    go_wp2_with (fail)
    refine wp_region_lat (by kernel_rfl) (by kernel_rfl) ?_
    repeat (go_big_quiet_step ((first | (go_at_call 26; exact Calls.lat_of (rIsText_v _ false HC.out (by omega) _)))))
    refine wpQuiet_nil ?_
    rintro _ ⟨δr, rfl⟩
    go_wp2
    go_ret2
    exact ⟨rfl, lat_ex⟩
  | true =>
    cases d with
    | false =>
      rw [HV.out false rfl]
      go_enter Tryd.func54, Tryd.ntmps54
      go_wp2_with (fail)
      refine wp_region_lat (by kernel_rfl) (by kernel_rfl) ?_
      repeat (go_big_quiet_step ((first | (fail))))
      refine wpQuiet_nil ?_
      rintro _ ⟨δq, rfl⟩
      go_wp2_with (fail)
      refine wp_region_lat (by kernel_rfl) (by kernel_rfl) ?_
      repeat (go_big_quiet_step ((first | (go_at_call 26; exact Calls.lat_of (rIsText_v _ true HC.out (by omega) _)) | (go_at_call 52; exact Calls.lat_of (rRowOf_c a _ x _ HX.out HT.out (by omega) (by omega) _)))))
      refine wpQuiet_nil ?_
      rintro _ ⟨δr, rfl⟩
      go_wp2
      go_ret2
      exact ⟨rfl, lat_ex⟩
    | true =>
      rw [HV.out true rfl]
      go_enter Tryd.func54, Tryd.ntmps54
      go_wp2_with (fail)
      refine wp_region_lat (by kernel_rfl) (by kernel_rfl) ?_
      repeat (go_big_quiet_step ((first | (fail))))
      refine wpQuiet_nil ?_
      rintro _ ⟨δq, rfl⟩
      go_wp2_with (fail)
      refine wp_region_lat (by kernel_rfl) (by kernel_rfl) ?_
      repeat (go_big_quiet_step ((first | (go_at_call 26; exact Calls.lat_of (rIsText_v _ true HC.out (by omega) _)) | (go_at_call 52; exact Calls.lat_of (rRowOf_c a _ x _ HX.out HT.out (by omega) (by omega) _)))))
      refine wpQuiet_nil ?_
      rintro _ ⟨δr, rfl⟩
      go_wp2
      go_ret2
      exact ⟨rfl, lat_ex⟩
/-- What BackOf returns. -/
def backR : Option Txt → Value
  | some t => .tuple #[.string (str t), .bool true]
  | none => .tuple #[.string ⟨#[]⟩, .bool false]
theorem rBackOf_c (a : ByteArray) (p s : Int) (m : ByteArray) (x y : Txt) (hx : a.data.toList = x) (hy : m.data.toList = y) (o : Option Txt) (h : backOf x ⟨p, s, y⟩ = o) (ha : a.size ≤ 100000) (hm : m.size ≤ 100000) (w : World) :
    Calls Tryd.prog 54 #[.string a, .agg #[.int .i64 p, .int .i64 s, .string m]] w fun e w' => e = .returned (backR o) ∧ ∃ δ, w' = lat w δ := by
  have hl : x.length = a.size := by rw [← hx, size_len]
  by_cases ho : 0 ≤ p ∧ 0 ≤ s ∧ p ≤ a.size ∧ s ≤ a.size - p
  · obtain ⟨p, rfl⟩ := Int.eq_ofNat_of_zero_le ho.1
    obtain ⟨s, rfl⟩ := Int.eq_ofNat_of_zero_le ho.2.1
    rw [backOf_in (by omega) (by omega)] at h
    refine (rback_in a p s m x y hx hy (by omega) (by omega) ha hm _ _ rfl rfl w).mono ?_
    rintro e w1 ⟨rfl, h2⟩
    refine ⟨?_, h2⟩
    by_cases hc : isText (join x p s y) = true ∧ rowOf x (join x p s y) = ⟨p, s, y⟩
    · rw [if_pos hc] at h
      subst h
      have hf : (isText (join x p s y) && decide (rowOf x (join x p s y) = ⟨p, s, y⟩)) = true := by simpa using hc
      unfold backV backR
      rw [hf, if_pos rfl]
    · rw [if_neg hc] at h
      subst h
      have hf : (isText (join x p s y) && decide (rowOf x (join x p s y) = ⟨p, s, y⟩)) = false := by simpa using hc
      unfold backV backR
      rw [hf, if_neg Bool.false_ne_true]
      rfl
  · rw [backOf_out (by rw [hl]; exact ho)] at h
    subst h
    exact rback_out a p s m ho ha hm w

/-! Season: the reference's Row and Back. -/
open Go.RowKit
open Se

theorem rrow_no (a b : ByteArray) (h : (isText a.data.toList && isText b.data.toList) = false) (ha : a.size ≤ 100000) (hb : b.size ≤ 100000) (w : World) :
    Calls Tryd.prog 17 #[.string a, .string b] w fun e w' => e = .returned (.tuple #[.agg #[.int .i64 0, .int .i64 0, .string ⟨#[]⟩], .int .i64 1]) ∧ ∃ δ, w' = lat w δ := by
  rcases h1 : isText a.data.toList with _ | _
  · clear h
    have HT := Lib.hid h1
    clear h1
    go_enter Tryd.func17, Tryd.ntmps17
    go_wp2_with (go_at_call 26; refine (rIsText_v a false HT.out (by omega) _).mono ?_; rintro e w1 ⟨rfl, δ, rfl⟩)
    refine bodyPost_ret (v := .tuple #[.agg #[.int .i64 0, .int .i64 0, .string ⟨#[]⟩], .int .i64 1]) ?_ rfl ⟨rfl, lat_ex⟩
    simp only [results, Tryd.results17]
    go_simp
  · rw [h1] at h
    have HT := Lib.hid h1
    have HU : Hid (isText b.data.toList = false) := Lib.hid (by simpa using h)
    clear h1 h
    go_enter Tryd.func17, Tryd.ntmps17
    go_wp2_with (first
      | (go_at_call 26; with_reducible refine (rIsText_v a true HT.out (by omega) _).mono ?_; rintro e w1 ⟨rfl, δ, rfl⟩)
      | (go_at_call 26; with_reducible refine (rIsText_v b false HU.out (by omega) _).mono ?_; rintro e w1 ⟨rfl, δ, rfl⟩))
    refine bodyPost_ret (v := .tuple #[.agg #[.int .i64 0, .int .i64 0, .string ⟨#[]⟩], .int .i64 1]) ?_ rfl ⟨rfl, lat_ex⟩
    simp only [results, Tryd.results17]
    go_simp
theorem rrow_yes (a b : ByteArray) (x y : Txt) (hx : a.data.toList = x) (hy : b.data.toList = y) (h1 : isText x = true) (h2 : isText y = true) (w : World) :
    Calls Tryd.prog 17 #[.string a, .string b] w fun e w' => e = .returned (.tuple #[.agg #[.int .i64 (preOf x y : Nat), .int .i64 (sufOf x y : Nat), .string (str (midOf x y))], .int .i64 0]) ∧ ∃ δ, w' = lat w δ := by
  have la := isText_size hx h1
  have lb := isText_size hy h2
  have HT : Hid (isText a.data.toList = true) := Lib.hid (by rw [hx]; exact h1)
  have HU : Hid (isText b.data.toList = true) := Lib.hid (by rw [hy]; exact h2)
  have HX := Lib.hid hx
  have HY := Lib.hid hy
  clear hx hy h1 h2
  go_enter Tryd.func17, Tryd.ntmps17
  go_wp2_with (first
    | (go_at_call 26; with_reducible refine (rIsText_v a true HT.out (by omega) _).mono ?_; rintro e w1 ⟨rfl, δ, rfl⟩)
    | (go_at_call 26; with_reducible refine (rIsText_v b true HU.out (by omega) _).mono ?_; rintro e w1 ⟨rfl, δ, rfl⟩)
    | (go_at_call 52; refine (rRowOf_c a b x y HX.out HY.out (by omega) (by omega) _).mono ?_; rintro e w1 ⟨rfl, δ, rfl⟩))
  refine bodyPost_ret (v := .tuple #[.agg #[.int .i64 (preOf x y : Nat), .int .i64 (sufOf x y : Nat), .string (str (midOf x y))], .int .i64 0]) ?_ rfl ⟨rfl, lat_ex⟩
  simp only [results, Tryd.results17]
  go_simp
theorem rBack_arg (a : ByteArray) (p s : Int) (m : ByteArray) (h : (isText a.data.toList && isText m.data.toList) = false) (ha : a.size ≤ 100000) (hm : m.size ≤ 100000) (w : World) :
    Calls Tryd.prog 19 #[.string a, .agg #[.int .i64 p, .int .i64 s, .string m]] w fun e w' => e = .returned (.tuple #[.string ⟨#[]⟩, .int .i64 1]) ∧ ∃ δ, w' = lat w δ := by
  rcases h1 : isText a.data.toList with _ | _
  · clear h
    have HT := Lib.hid h1
    clear h1
    go_enter Tryd.func19, Tryd.ntmps19
    go_wp2_with (go_at_call 26; refine (rIsText_v a false HT.out (by omega) _).mono ?_; rintro e w1 ⟨rfl, δ, rfl⟩)
    go_ret2
    exact ⟨rfl, lat_ex⟩
  · rw [h1] at h
    have HT := Lib.hid h1
    have HU : Hid (isText m.data.toList = false) := Lib.hid (by simpa using h)
    clear h1 h
    go_enter Tryd.func19, Tryd.ntmps19
    go_wp2_with (first
      | (go_at_call 26; with_reducible refine (rIsText_v a true HT.out (by omega) _).mono ?_; rintro e w1 ⟨rfl, δ, rfl⟩)
      | (go_at_call 26; with_reducible refine (rIsText_v m false HU.out (by omega) _).mono ?_; rintro e w1 ⟨rfl, δ2, rfl⟩))
    go_ret2
    exact ⟨rfl, lat_ex⟩
theorem rBack_row (a : ByteArray) (p s : Int) (m : ByteArray) (x y : Txt) (hx : a.data.toList = x) (hy : m.data.toList = y) (h1 : isText x = true) (h2 : isText y = true) (h : backOf x ⟨p, s, y⟩ = none) (w : World) :
    Calls Tryd.prog 19 #[.string a, .agg #[.int .i64 p, .int .i64 s, .string m]] w fun e w' => e = .returned (.tuple #[.string ⟨#[]⟩, .int .i64 142]) ∧ ∃ δ, w' = lat w δ := by
  have la := isText_size hx h1
  have lb := isText_size hy h2
  have HT : Hid (isText a.data.toList = true) := Lib.hid (by rw [hx]; exact h1)
  have HU : Hid (isText m.data.toList = true) := Lib.hid (by rw [hy]; exact h2)
  have HX := Lib.hid hx
  have HY := Lib.hid hy
  have HB := Lib.hid h
  clear hx hy h1 h2 h
  go_enter Tryd.func19, Tryd.ntmps19
  go_wp2_with (first
    | (go_at_call 26; with_reducible refine (rIsText_v a true HT.out (by omega) _).mono ?_; rintro e w1 ⟨rfl, δ, rfl⟩)
    | (go_at_call 26; with_reducible refine (rIsText_v m true HU.out (by omega) _).mono ?_; rintro e w1 ⟨rfl, δ2, rfl⟩)
    | (go_at_call 54; refine (rBackOf_c a p s m x y HX.out HY.out none HB.out (by omega) (by omega) _).mono ?_; rintro e w1 ⟨rfl, δ3, rfl⟩; simp only [backR]))
  go_ret2
  exact ⟨rfl, lat_ex⟩
theorem rBack_ok (a : ByteArray) (p s : Int) (m : ByteArray) (x y t : Txt) (hx : a.data.toList = x) (hy : m.data.toList = y) (h1 : isText x = true) (h2 : isText y = true) (h : backOf x ⟨p, s, y⟩ = some t) (w : World) :
    Calls Tryd.prog 19 #[.string a, .agg #[.int .i64 p, .int .i64 s, .string m]] w fun e w' => e = .returned (.tuple #[.string (str t), .int .i64 0]) ∧ ∃ δ, w' = lat w δ := by
  have la := isText_size hx h1
  have lb := isText_size hy h2
  have HT : Hid (isText a.data.toList = true) := Lib.hid (by rw [hx]; exact h1)
  have HU : Hid (isText m.data.toList = true) := Lib.hid (by rw [hy]; exact h2)
  have HX := Lib.hid hx
  have HY := Lib.hid hy
  have HB := Lib.hid h
  clear hx hy h1 h2 h
  go_enter Tryd.func19, Tryd.ntmps19
  go_wp2_with (first
    | (go_at_call 26; with_reducible refine (rIsText_v a true HT.out (by omega) _).mono ?_; rintro e w1 ⟨rfl, δ, rfl⟩)
    | (go_at_call 26; with_reducible refine (rIsText_v m true HU.out (by omega) _).mono ?_; rintro e w1 ⟨rfl, δ2, rfl⟩)
    | (go_at_call 54; refine (rBackOf_c a p s m x y HX.out HY.out (some t) HB.out (by omega) (by omega) _).mono ?_; rintro e w1 ⟨rfl, δ3, rfl⟩; simp only [backR]))
  go_ret2
  exact ⟨rfl, lat_ex⟩
end Go.Proofs.YtjamemjmdlkpcaaDoor
