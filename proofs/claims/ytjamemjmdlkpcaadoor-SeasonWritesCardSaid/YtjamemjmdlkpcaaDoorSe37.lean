/- Season: the law SeasonReads. -/
import Derived.Test.YtjamemjmdlkpcaaDoorSe35
import Derived.Deep.DeepMust
namespace Go.Proofs.YtjamemjmdlkpcaaDoor
open Go.RowKit
open Se

theorem same_t (A A' : Option Addr) (c c' : Nat) (ts : List Txt) (B : Nat) (w : World) (hS : Sl strE B w A c ts) (hS' : Sl strE B w A' c' ts) [hB : Le B w] :
    Calls Tryd.prog 23 #[.slice A ts.length c, .slice A' ts.length c'] w fun e w' => e = .returned (.bool true) ∧ ∃ δ, w' = lat w δ := by
  have := same_c A A' c c' ts ts _ _ rfl rfl B w hS hS'
  rwa [decide_eq_true rfl] at this
theorem sameRows_t (A A' : Option Addr) (c c' : Nat) (ts : List Row) (B : Nat) (w : World) (hS : Sl rowE B w A c ts) (hS' : Sl rowE B w A' c' ts) [hB : Le B w] :
    Calls Tryd.prog 34 #[.slice A ts.length c, .slice A' ts.length c'] w fun e w' => e = .returned (.bool true) ∧ ∃ δ, w' = lat w δ := by
  have := sameRows_c A A' c c' ts ts _ _ rfl rfl B w hS hS'
  rwa [decide_eq_true rfl] at this
/-- What Rows returns. -/
def RowsU (rs : List Row) (n : Int) (w : World) (e : Ending) (w' : World) : Prop := ∃ A c, e = .returned (.tuple #[.slice A rs.length c, .int .i64 n]) ∧ Hid (Sl rowE w'.heap.size w' A c rs) ∧ ∃ δ, w' = lat w δ
/-- What Read returns. -/
def ReadU (ts : List Txt) (n : Int) (w : World) (e : Ending) (w' : World) : Prop := ∃ A c, e = .returned (.tuple #[.slice A ts.length c, .int .i64 n]) ∧ Hid (Sl strE w'.heap.size w' A c ts) ∧ ∃ δ, w' = lat w δ
theorem rowsU_none {w : World} {n : Int} {e : Ending} {w' : World} (h : e = .returned (.tuple #[.slice none 0 0, .int .i64 n]) ∧ ∃ δ, w' = lat w δ) : RowsU [] n w e w' := ⟨none, 0, h.1, Lib.hid Sl.none_, h.2⟩
theorem readU_none {w : World} {n : Int} {e : Ending} {w' : World} (h : e = .returned (.tuple #[.slice none 0 0, .int .i64 n]) ∧ ∃ δ, w' = lat w δ) : ReadU [] n w e w' := ⟨none, 0, h.1, Lib.hid Sl.none_, h.2⟩
theorem rowsU_some {w : World} {rs : List Row} {e : Ending} {w' : World} (h : ∃ A c, e = .returned (.tuple #[.slice A rs.length c, .int .i64 0]) ∧ Hid (w'.ownsRow w.heap.size 23 3 (.slice A rs.length c) rs.length (rs.flatMap rowE)) ∧ ∃ δ, w' = lat w δ) : RowsU rs 0 w e w' := by
  obtain ⟨A, c, h1, h2, h3⟩ := h
  exact ⟨A, c, h1, Lib.hid (Sl.of_own h2.out), h3⟩
theorem readU_some {w : World} {ts : List Txt} {e : Ending} {w' : World} (h : ∃ A c, e = .returned (.tuple #[.slice A ts.length c, .int .i64 0]) ∧ Hid (w'.ownsRow w.heap.size 9 1 (.slice A ts.length c) ts.length (ts.flatMap strE)) ∧ ∃ δ, w' = lat w δ) : ReadU ts 0 w e w' := by
  obtain ⟨A, c, h1, h2, h3⟩ := h
  exact ⟨A, c, h1, Lib.hid (Sl.of_own h2.out), h3⟩
theorem rows_both (l : Txt) (hz : l.length ≤ 100000) : ∃ rs n, (∀ w, Calls Tryd.prog 33 #[.string (str l)] w (RowsU rs n w)) ∧ ∀ w, Calls Tryd.prog 44 #[.string (str l)] w (RowsU rs n w) := by
  cases h : formOf l with
  | none => exact ⟨[], 140, fun w => (rows_none l h hz w).mono fun _ _ => rowsU_none, fun w => (rrows_none l h hz w).mono fun _ _ => rowsU_none⟩
  | some rs => exact ⟨rs, 0, fun w => (rows_some l rs h hz w).mono fun _ _ => rowsU_some, fun w => (rrows_some l rs h hz w).mono fun _ _ => rowsU_some⟩
theorem read_both (l : Txt) (hz : l.length ≤ 100000) : ∃ ts n, (∀ w, TabIs w → Le 6 w → Calls Tryd.prog 22 #[.string (str l)] w (ReadU ts n w)) ∧ ∀ w, Calls Tryd.prog 45 #[.string (str l)] w (ReadU ts n w) := by
  cases h : readOf l with
  | bad n => exact ⟨[], n, fun w hT _ => (read_bad_c l n h hz w hT).mono fun _ _ => readU_none, fun w => (rread_bad l n h hz w).mono fun _ _ => readU_none⟩
  | all ts => exact ⟨ts, 0, fun w hT _ => (read_all_c l ts h hz w hT).mono fun _ _ => readU_some, fun w => (rread_all l ts h hz w).mono fun _ _ => readU_some⟩
theorem seal_both (l : Txt) (_hz : l.length ≤ 100000) : ∃ (v n : Int), (∀ w, Calls Tryd.prog 42 #[.string (str l)] w fun e w' => e = .returned (.tuple #[.int .i64 v, .int .i64 n]) ∧ ∃ δ, w' = lat w δ) ∧ ∀ w, Calls Tryd.prog 43 #[.string (str l)] w fun e w' => e = .returned (.tuple #[.int .i64 v, .int .i64 n]) ∧ ∃ δ, w' = lat w δ := by
  by_cases h : (str l).size ≤ 1100
  · exact ⟨_, _, fun w => seal_ok_c (str l) _ rfl h w, fun w => rSeal_ok_c (str l) _ rfl h w⟩
  · exact ⟨0, 1, fun w => seal_no_c (str l) (by omega) w, fun w => rSeal_no_c (str l) (by omega) w⟩
set_option maxRecDepth 100000 in
theorem lawReads_c (l : Txt) (w : World) (hT : TabIs w) [h6 : Le 6 w] :
    Calls Tryd.prog 13 #[.string (str l)] w fun e w' => e = .returned (.bool true) ∧ ∃ δ, w' = lat w δ := by
  by_cases h1 : l.length ≤ 2000
  · have hz : l.length ≤ 100000 := by omega
    have h1' : (l.length : Int) ≤ 2000 := by omega
    obtain ⟨v, n, ha, hb⟩ := seal_both l hz
    obtain ⟨rs, m, hc, hd⟩ := rows_both l hz
    obtain ⟨ts, q, he, hf⟩ := read_both l hz
    obtain ⟨u, hu⟩ : ∃ u, stateOf (readOf l) = u := ⟨_, rfl⟩
    have HA := Lib.hid ha
    have HB := Lib.hid hb
    have HC := Lib.hid hc
    have HD := Lib.hid hd
    have HE := Lib.hid he
    have HF := Lib.hid hf
    have HU := Lib.hid hu
    clear ha hb hc hd he hf hu
    go_enter Tryd.func13, Tryd.ntmps13
    go_wp2_with (first
      | (go_at_call 42; refine (HA.out _).mono ?_; rintro e w1 ⟨rfl, δ1, rfl⟩)
      | (go_at_call 43; refine (HB.out _).mono ?_; rintro e w1 ⟨rfl, δ2, rfl⟩)
      | (go_at_call 33; refine (HC.out _).mono ?_; rintro e w1 ⟨A1, c1, rfl, S1, δ3, rfl⟩)
      | (go_at_call 44; refine (HD.out _).mono ?_; rintro e w1 ⟨A2, c2, rfl, S2, δ4, rfl⟩)
      | (go_at_call 22; refine (HE.out _ hT.up inferInstance).mono ?_; rintro e w1 ⟨A3, c3, rfl, S3, δ5, rfl⟩)
      | (go_at_call 45; refine (HF.out _).mono ?_; rintro e w1 ⟨A4, c4, rfl, S4, δ6, rfl⟩)
      | (go_at_call 34; refine (sameRows_t _ _ _ _ rs _ _ (Sl.wide S1.out) (Sl.wide S2.out)).mono ?_; rintro e w1 ⟨rfl, δ7, rfl⟩)
      | (go_at_call 23; refine (same_t _ _ _ _ ts _ _ (Sl.wide S3.out) (Sl.wide S4.out)).mono ?_; rintro e w1 ⟨rfl, δ8, rfl⟩)
      | (go_at_call 24; refine (state_c l hz _ hT.up).mono ?_; rw [HU.out]; rintro e w1 ⟨rfl, δ9, rfl⟩)
      | (go_at_call 46; refine (rstate_c l hz _).mono ?_; rw [HU.out]; rintro e w1 ⟨rfl, δ10, rfl⟩)
      | (go_at_call 15; refine (works_c _ hT.up).mono ?_; rintro e w1 ⟨rfl, δ11, rfl⟩))
    go_ret
    exact ⟨rfl, lat_ex⟩
  · have h1' : (2000 : Int) < (l.length : Int) := by omega
    go_enter Tryd.func13, Tryd.ntmps13
    go_wp2_with (go_at_call 15; refine (works_c _ hT.up).mono ?_; rintro e w1 ⟨rfl, δ5, rfl⟩)
    go_ret
    exact ⟨rfl, lat_ex⟩
end Go.Proofs.YtjamemjmdlkpcaaDoor
