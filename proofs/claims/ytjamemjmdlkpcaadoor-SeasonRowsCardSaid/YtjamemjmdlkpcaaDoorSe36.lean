/- Season: the laws SeasonRowed and SeasonAdds. -/
import Derived.Test.YtjamemjmdlkpcaaDoorSe35
import Derived.Test.YtjamemjmdlkpcaaDoorSe10
import Derived.Deep.DeepMust
namespace Go.Proofs.YtjamemjmdlkpcaaDoor
open Go.RowKit
open Se

/-- The program's and the reference's Row return the same. -/
theorem row_both (x y : Txt) (hx : x.length ≤ 100000) (hy : y.length ≤ 100000) : ∃ (p s : Int) (m : Txt) (n : Int),
    (∀ w, Calls Tryd.prog 16 #[.string (str x), .string (str y)] w fun e w' => e = .returned (.tuple #[.agg #[.int .i64 p, .int .i64 s, .string (str m)], .int .i64 n]) ∧ ∃ δ, w' = lat w δ) ∧
    ∀ w, Calls Tryd.prog 17 #[.string (str x), .string (str y)] w fun e w' => e = .returned (.tuple #[.agg #[.int .i64 p, .int .i64 s, .string (str m)], .int .i64 n]) ∧ ∃ δ, w' = lat w δ := by
  have sx : (str x).size ≤ 100000 := by rw [size_str]; exact hx
  have sy : (str y).size ≤ 100000 := by rw [size_str]; exact hy
  cases h : isText x && isText y with
  | true =>
    rw [Bool.and_eq_true] at h
    exact ⟨_, _, _, _, fun w => row_yes (str x) (str y) x y (lst_str x) (lst_str y) h.1 h.2 w, fun w => rrow_yes (str x) (str y) x y (lst_str x) (lst_str y) h.1 h.2 w⟩
  | false => exact ⟨0, 0, [], 1, fun w => row_no (str x) (str y) (by rw [lst_str, lst_str]; exact h) sx sy w, fun w => rrow_no (str x) (str y) (by rw [lst_str, lst_str]; exact h) sx sy w⟩
/-- .. and so do their Backs. -/
theorem back_both (x : Txt) (r : Row) (hx : x.length ≤ 100000) (hy : r.mid.length ≤ 100000) : ∃ (t : Txt) (n : Int),
    (∀ w, Calls Tryd.prog 18 #[.string (str x), .agg #[.int .i64 r.pre, .int .i64 r.suf, .string (str r.mid)]] w fun e w' => e = .returned (.tuple #[.string (str t), .int .i64 n]) ∧ ∃ δ, w' = lat w δ) ∧
    ∀ w, Calls Tryd.prog 19 #[.string (str x), .agg #[.int .i64 r.pre, .int .i64 r.suf, .string (str r.mid)]] w fun e w' => e = .returned (.tuple #[.string (str t), .int .i64 n]) ∧ ∃ δ, w' = lat w δ := by
  have sx : (str x).size ≤ 100000 := by rw [size_str]; exact hx
  have sy : (str r.mid).size ≤ 100000 := by rw [size_str]; exact hy
  cases h : isText x && isText r.mid with
  | true =>
    rw [Bool.and_eq_true] at h
    cases hb : backOf x r with
    | none => exact ⟨[], 142, fun w => Back_row (str x) r.pre r.suf (str r.mid) x r.mid (lst_str x) (lst_str _) h.1 h.2 hb w, fun w => rBack_row (str x) r.pre r.suf (str r.mid) x r.mid (lst_str x) (lst_str _) h.1 h.2 hb w⟩
    | some t => exact ⟨t, 0, fun w => Back_ok (str x) r.pre r.suf (str r.mid) x r.mid t (lst_str x) (lst_str _) h.1 h.2 hb w, fun w => rBack_ok (str x) r.pre r.suf (str r.mid) x r.mid t (lst_str x) (lst_str _) h.1 h.2 hb w⟩
  | false => exact ⟨[], 1, fun w => Back_arg (str x) r.pre r.suf (str r.mid) (by rw [lst_str, lst_str]; exact h) sx sy w, fun w => rBack_arg (str x) r.pre r.suf (str r.mid) (by rw [lst_str, lst_str]; exact h) sx sy w⟩
set_option maxRecDepth 100000 in
theorem lawRowed_c (x y : Txt) (r : Row) (w : World) (hT : TabIs w) [h6 : Le 6 w] :
    Calls Tryd.prog 3 #[.string (str x), .string (str y), .agg #[.int .i64 r.pre, .int .i64 r.suf, .string (str r.mid)]] w fun e w' => e = .returned (.bool true) ∧ ∃ δ, w' = lat w δ := by
  obtain ⟨p, s, m⟩ := r
  simp only
  by_cases h1 : x.length ≤ 200
  · by_cases h2 : y.length ≤ 200
    · by_cases h3 : m.length ≤ 200
      · obtain ⟨p1, s1, m1, n1, ha, hb⟩ := row_both x y (by omega) (by omega)
        obtain ⟨t2, n2, hc, hd⟩ := back_both x ⟨p, s, m⟩ (by omega) (by show m.length ≤ _; omega)
        have HA := Lib.hid ha
        have HB := Lib.hid hb
        have HC := Lib.hid hc
        have HD := Lib.hid hd
        have h1' : (x.length : Int) ≤ 200 := by omega
        have h2' : (y.length : Int) ≤ 200 := by omega
        have h3' : (m.length : Int) ≤ 200 := by omega
        have hq := fun W => eql_row true p1 s1 p1 s1 (str m1) (str m1) (by simp) W
        clear ha hb hc hd
        go_enter Tryd.func3, Tryd.ntmps3
        go_wp2_with (first
          | (go_at_call 16; refine (HA.out _).mono ?_; rintro e w1 ⟨rfl, δ1, rfl⟩)
          | (go_at_call 17; refine (HB.out _).mono ?_; rintro e w1 ⟨rfl, δ2, rfl⟩)
          | (go_at_call 18; refine (HC.out _).mono ?_; rintro e w1 ⟨rfl, δ3, rfl⟩)
          | (go_at_call 19; refine (HD.out _).mono ?_; rintro e w1 ⟨rfl, δ4, rfl⟩)
          | (go_at_call 15; refine (works_c _ hT.up).mono ?_; rintro e w1 ⟨rfl, δ5, rfl⟩))
        go_ret
        exact ⟨rfl, lat_ex⟩
      · have h1' : (x.length : Int) ≤ 200 := by omega
        have h2' : (y.length : Int) ≤ 200 := by omega
        have h3' : (200 : Int) < (m.length : Int) := by omega
        go_enter Tryd.func3, Tryd.ntmps3
        go_wp2_with (go_at_call 15; refine (works_c _ hT.up).mono ?_; rintro e w1 ⟨rfl, δ5, rfl⟩)
        go_ret
        exact ⟨rfl, lat_ex⟩
    · have h1' : (x.length : Int) ≤ 200 := by omega
      have h2' : (200 : Int) < (y.length : Int) := by omega
      go_enter Tryd.func3, Tryd.ntmps3
      go_wp2_with (go_at_call 15; refine (works_c _ hT.up).mono ?_; rintro e w1 ⟨rfl, δ5, rfl⟩)
      go_ret
      exact ⟨rfl, lat_ex⟩
  · have h1' : (200 : Int) < (x.length : Int) := by omega
    go_enter Tryd.func3, Tryd.ntmps3
    go_wp2_with (go_at_call 15; refine (works_c _ hT.up).mono ?_; rintro e w1 ⟨rfl, δ5, rfl⟩)
    go_ret
    exact ⟨rfl, lat_ex⟩
set_option maxRecDepth 100000 in
theorem lawAdds_c (x y : Txt) (w : World) (hT : TabIs w) [h6 : Le 6 w] :
    Calls Tryd.prog 8 #[.string (str x), .string (str y)] w fun e w' => e = .returned (.bool true) ∧ ∃ δ, w' = lat w δ := by
  by_cases h1 : x.length ≤ 2000
  · by_cases h2 : y.length ≤ 200
    · obtain ⟨s1, n1, e1⟩ := outV_form (addOf x y)
      obtain ⟨s2, n2, e2⟩ := outV_form (cutOf x)
      have E1 := Lib.hid e1
      have E2 := Lib.hid e2
      have hz1 : x.length ≤ 100000 := by omega
      have hz2 : y.length ≤ 2000 := by omega
      have h1' : (x.length : Int) ≤ 2000 := by omega
      have h2' : (y.length : Int) ≤ 200 := by omega
      clear e1 e2
      go_enter Tryd.func8, Tryd.ntmps8
      go_wp2_with (first
        | (go_at_call 29; refine (add_c x y hz1 hz2 _ hT.up).mono ?_; rw [E1.out]; rintro e w1 ⟨rfl, δ1, rfl⟩)
        | (go_at_call 30; refine (radd_c x y hz1 hz2 _).mono ?_; rw [E1.out]; rintro e w1 ⟨rfl, δ2, rfl⟩)
        | (go_at_call 31; refine (cut_c x hz1 _ hT.up).mono ?_; rw [E2.out]; rintro e w1 ⟨rfl, δ3, rfl⟩)
        | (go_at_call 32; refine (rcut_c x hz1 _).mono ?_; rw [E2.out]; rintro e w1 ⟨rfl, δ4, rfl⟩)
        | (go_at_call 15; refine (works_c _ hT.up).mono ?_; rintro e w1 ⟨rfl, δ5, rfl⟩))
      go_ret
      exact ⟨rfl, lat_ex⟩
    · have h1' : (x.length : Int) ≤ 2000 := by omega
      have h2' : (200 : Int) < (y.length : Int) := by omega
      go_enter Tryd.func8, Tryd.ntmps8
      go_wp2_with (go_at_call 15; refine (works_c _ hT.up).mono ?_; rintro e w1 ⟨rfl, δ5, rfl⟩)
      go_ret
      exact ⟨rfl, lat_ex⟩
  · have h1' : (2000 : Int) < (x.length : Int) := by omega
    go_enter Tryd.func8, Tryd.ntmps8
    go_wp2_with (go_at_call 15; refine (works_c _ hT.up).mono ?_; rintro e w1 ⟨rfl, δ5, rfl⟩)
    go_ret
    exact ⟨rfl, lat_ex⟩
end Go.Proofs.YtjamemjmdlkpcaaDoor
