/- Season: the law's written, refused and works. -/
import Derived.Test.YtjamemjmdlkpcaaDoorSe34
import Derived.Test.YtjamemjmdlkpcaaDoorSe6
namespace Go.Proofs.YtjamemjmdlkpcaaDoor
open Go.RowKit
open Se

theorem errOf_ready {ts : List Txt} (h : readyT ts = true) : textsErr 20 ts = 0 := of_decide_eq_true h
theorem written_c (A : Option Addr) (c : Nat) (ts : List Txt) (hr : readyT ts = true) (ln : Nat) (hl : ts.length = ln) (B : Nat) (w : World) (hS : Sl strE B w A c ts) [hB : Le B w] (hT : TabIs w) [h6 : Le 6 w] :
    Calls Tryd.prog 21 #[.slice A ln c] w fun e w' => e = .returned (.tuple #[.string (str (file ts)), .bool true]) ∧ ∃ δ, w' = lat w δ := by
  subst hl
  have HS := Lib.hid hS
  have HR := Lib.hid (ready_yes hr)
  have HN := Lib.hid (errOf_ready hr)
  have hln := HR.out.1
  have h3 : (3 : Int) ≤ ((file ts).length : Int) := by rw [file_len]; omega
  have h4 : ((file ts).length : Int) ≤ 1100 := by
    have := bytes_len (a := []) HR.out.2
    rw [file_len]; omega
  obtain ⟨f, hf⟩ : ∃ f, file ts = f := ⟨_, rfl⟩
  have HF := Lib.hid hf
  rw [hf] at h3 h4 ⊢
  clear hS hr hf
  go_enter Tryd.func21, Tryd.ntmps21
  go_wp2_with (first
    | (at_builtin; (refine wpList_append_lit w slS (.tmp 7) (.tmp 8) rfl rfl (v := .slice (some ⟨_, 0, none⟩) 0 0) (own_lit0 (by go_simp) (by go_simp)) rfl (B := B) (A := A) (m := ts.length) (c := c) (news := ts.flatMap strE) rfl (HS.out.up.2.2) (len_enc strE 1 (fun _ => rfl) _) (one_enc strE one_str _) (by omega) (by omega) ?_); intro A1 c1 δ2 own1 hg1; have HW := Lib.hid (Sl.of_own own1); clear own1)
    | (go_at_call 36; refine (write_ok_c A1 c1 ts HN.out _ rfl (smallT_of HR.out.2) _ _ HW.out.up hT.up).mono ?_; rw [HF.out]; rintro e w1 ⟨rfl, δ3, rfl⟩))
  go_ret2
  exact ⟨rfl, lat_ex⟩
theorem refused_c (l : Txt) (hb : isBad (readOf l)) (hz : l.length ≤ 100000) (w : World) (hT : TabIs w) [h6 : Le 6 w] :
    Calls Tryd.prog 25 #[.string (str l)] w fun e w' => e = .returned (.bool true) ∧ ∃ δ, w' = lat w δ := by
  rcases hb with h | h | h
  · have H := Lib.hid h
    have HE : Hid (stateOf (readOf l) = 2) := Lib.hid (by rw [h]; rfl)
    clear h
    go_enter Tryd.func25, Tryd.ntmps25
    go_wp2_with (first
      | (go_at_call 22; refine (read_bad_c l _ H.out hz _ hT.up).mono ?_; rintro e w1 ⟨rfl, δ1, rfl⟩)
      | (go_at_call 24; refine (state_c l hz _ hT.up).mono ?_; rw [HE.out]; rintro e w1 ⟨rfl, δ2, rfl⟩))
    go_ret
    exact ⟨rfl, lat_ex⟩
  · have H := Lib.hid h
    have HE : Hid (stateOf (readOf l) = 3) := Lib.hid (by rw [h]; rfl)
    clear h
    go_enter Tryd.func25, Tryd.ntmps25
    go_wp2_with (first
      | (go_at_call 22; refine (read_bad_c l _ H.out hz _ hT.up).mono ?_; rintro e w1 ⟨rfl, δ1, rfl⟩)
      | (go_at_call 24; refine (state_c l hz _ hT.up).mono ?_; rw [HE.out]; rintro e w1 ⟨rfl, δ2, rfl⟩))
    go_ret
    exact ⟨rfl, lat_ex⟩
  · have H := Lib.hid h
    have HE : Hid (stateOf (readOf l) = 4) := Lib.hid (by rw [h]; rfl)
    clear h
    go_enter Tryd.func25, Tryd.ntmps25
    go_wp2_with (first
      | (go_at_call 22; refine (read_bad_c l _ H.out hz _ hT.up).mono ?_; rintro e w1 ⟨rfl, δ1, rfl⟩)
      | (go_at_call 24; refine (state_c l hz _ hT.up).mono ?_; rw [HE.out]; rintro e w1 ⟨rfl, δ2, rfl⟩))
    go_ret
    exact ⟨rfl, lat_ex⟩

/-! ### The chapter's examples -/
theorem sl_lit {W : World} {g : Nat} {T : TypeId} {ts : List Txt} {arr : Array Value} (hg : g = W.heap.size) (ha : arr = (ts.flatMap strE).toArray) (hn : ts.length ≤ 1000) : Sl strE (g + 1) (W.alloc (.cells arr T)) (some ⟨g, 0, none⟩) ts.length ts := by
  subst ha
  exact ⟨Nat.le_refl _, by omega, cells_lit hg⟩
theorem ex_row (w : World) : Calls Tryd.prog 16 #[.string ⟨#[97, 98]⟩, .string ⟨#[97, 120, 98]⟩] w fun e w' => e = .returned (.tuple #[.agg #[.int .i64 1, .int .i64 1, .string ⟨#[120]⟩], .int .i64 0]) ∧ ∃ δ, w' = lat w δ := by
  have h1 : preOf [97, 98] [97, 120, 98] = 1 := by decide
  have h2 : sufOf [97, 98] [97, 120, 98] = 1 := by decide
  have h3 : midOf [97, 98] [97, 120, 98] = [120] := by decide
  have := row_yes ⟨#[97, 98]⟩ ⟨#[97, 120, 98]⟩ [97, 98] [97, 120, 98] rfl rfl (by decide) (by decide) w
  rw [h1, h2, h3] at this
  exact this
theorem ex_back (w : World) : Calls Tryd.prog 18 #[.string ⟨#[97, 98]⟩, .agg #[.int .i64 1, .int .i64 1, .string ⟨#[120]⟩]] w fun e w' => e = .returned (.tuple #[.string ⟨#[97, 120, 98]⟩, .int .i64 0]) ∧ ∃ δ, w' = lat w δ :=
  Back_ok ⟨#[97, 98]⟩ 1 1 ⟨#[120]⟩ [97, 98] [120] [97, 120, 98] rfl rfl (by decide) (by decide) (by decide) w
theorem ex_write (W : World) (g : Nat) (hg : g = W.heap.size) (hT : TabIs W) [h6 : Le 6 W] : Calls Tryd.prog 36 #[.slice (some ⟨g, 0, none⟩) 2 2] (W.alloc (.cells #[.string ⟨#[97, 98]⟩, .string ⟨#[97, 120, 98]⟩] 9))
    fun e w' => e = .returned (.tuple #[.string ⟨#[65, 65, 97, 98, 10, 66, 66, 120, 10, 49, 53, 49]⟩, .int .i64 0]) ∧ ∃ δ, w' = lat (W.alloc (.cells #[.string ⟨#[97, 98]⟩, .string ⟨#[97, 120, 98]⟩] 9)) δ := by
  have hf : file [[97, 98], [97, 120, 98]] = [65, 65, 97, 98, 10, 66, 66, 120, 10, 49, 53, 49] := by decide
  have hB : Le (g + 1) (W.alloc (.cells #[.string ⟨#[97, 98]⟩, .string ⟨#[97, 120, 98]⟩] 9)) := ⟨by rw [hg]; simp⟩
  have := write_ok_c (some ⟨g, 0, none⟩) 2 [[97, 98], [97, 120, 98]] (by decide) 2 rfl (by intro t ht; simp at ht; rcases ht with rfl | rfl <;> decide) (g + 1) (W.alloc (.cells #[.string ⟨#[97, 98]⟩, .string ⟨#[97, 120, 98]⟩] 9)) (sl_lit hg rfl (by decide)) hT.up
  rw [hf] at this
  exact this
theorem ex_least (W : World) (g : Nat) (hg : g = W.heap.size) : Calls Tryd.prog 28 #[.slice (some ⟨g, 0, none⟩) 3 3] (W.alloc (.cells #[.string ⟨#[97, 98, 99]⟩, .string ⟨#[120]⟩, .string ⟨#[97, 98, 100]⟩] 9))
    fun e w' => e = .returned (.tuple #[.int .i64 17, .int .i64 0]) ∧ ∃ δ, w' = lat (W.alloc (.cells #[.string ⟨#[97, 98, 99]⟩, .string ⟨#[120]⟩, .string ⟨#[97, 98, 100]⟩] 9)) δ := by
  have hf : leastN [[97, 98, 99], [120], [97, 98, 100]] = 17 := by decide +kernel
  have hB : Le (g + 1) (W.alloc (.cells #[.string ⟨#[97, 98, 99]⟩, .string ⟨#[120]⟩, .string ⟨#[97, 98, 100]⟩] 9)) := ⟨by rw [hg]; simp⟩
  have := least_ok_c (some ⟨g, 0, none⟩) 3 [[97, 98, 99], [120], [97, 98, 100]] (by decide) 3 rfl (by intro t ht; simp at ht; rcases ht with rfl | rfl | rfl <;> decide) (g + 1) (W.alloc (.cells #[.string ⟨#[97, 98, 99]⟩, .string ⟨#[120]⟩, .string ⟨#[97, 98, 100]⟩] 9)) (sl_lit hg rfl (by decide))
  rw [hf] at this
  exact this
theorem ex_readOf : readOf [65, 65, 97, 10, 66, 65, 10, 48, 55, 55] = .all [[97], [97]] := by
  have h : file [[97], [97]] = [65, 65, 97, 10, 66, 65, 10, 48, 55, 55] := by decide
  rw [← h]
  exact read_file (by intro t ht; simp at ht; subst ht; decide) (by decide)
theorem ex_read (w : World) (hT : TabIs w) [h6 : Le 6 w] : Calls Tryd.prog 22 #[.string ⟨#[65, 65, 97, 10, 66, 65, 10, 48, 55, 55]⟩] w fun e w' => ∃ A c, e = .returned (.tuple #[.slice A 2 c, .int .i64 0]) ∧ Hid (w'.ownsRow w.heap.size 9 1 (.slice A 2 c) 2 (strE [97] ++ (strE [97] ++ []))) ∧ ∃ δ, w' = lat w δ :=
  read_all_c [65, 65, 97, 10, 66, 65, 10, 48, 55, 55] [[97], [97]] ex_readOf (by decide) w hT
theorem ex_cut (w : World) (hT : TabIs w) [h6 : Le 6 w] : Calls Tryd.prog 31 #[.string ⟨#[65, 65, 97, 10, 66, 65, 10, 48, 55, 55]⟩] w fun e w' => e = .returned (.tuple #[.string ⟨#[65, 65, 97, 10, 57, 49, 56]⟩, .int .i64 0]) ∧ ∃ δ, w' = lat w δ := by
  have h1 : cutOf [65, 65, 97, 10, 66, 65, 10, 48, 55, 55] = .ok [65, 65, 97, 10, 57, 49, 56] := by
    unfold cutOf
    rw [ex_readOf]
    have h : file ([[97], [97]].take 1) = [65, 65, 97, 10, 57, 49, 56] := by decide
    simp only
    rw [if_neg (by decide)]
    exact congrArg Out.ok h
  have := cut_c [65, 65, 97, 10, 66, 65, 10, 48, 55, 55] (by decide) w hT
  rw [h1] at this
  exact this
theorem ex_state (w : World) (hT : TabIs w) [h6 : Le 6 w] : Calls Tryd.prog 24 #[.string ⟨#[65, 66, 10, 55, 49, 51]⟩] w fun e w' => e = .returned (.int .i64 4) ∧ ∃ δ, w' = lat w δ := by
  have h1 : readOf [65, 66, 10, 55, 49, 51] = .bad 142 := by
    have hf : formOf [65, 66, 10, 55, 49, 51] = some [⟨0, 1, []⟩] := by decide
    have ht : texts [] [⟨0, 1, []⟩] = none := by decide
    exact readOf_texts hf (by decide) ht
  have := state_c [65, 66, 10, 55, 49, 51] (by decide) w hT
  rw [h1] at this
  exact this
theorem ex_same (V : World) (A : Option Addr) (c : Nat) (hS : Sl strE V.heap.size V A c [[97], [97]]) (g : Nat) (hg : g = V.heap.size) : Calls Tryd.prog 23 #[.slice A 2 c, .slice (some ⟨g, 0, none⟩) 2 2] (V.alloc (.cells #[.string ⟨#[97]⟩, .string ⟨#[97]⟩] 9))
    fun e w' => e = .returned (.bool true) ∧ ∃ δ, w' = lat (V.alloc (.cells #[.string ⟨#[97]⟩, .string ⟨#[97]⟩] 9)) δ := by
  have hB : Le (g + 1) (V.alloc (.cells #[.string ⟨#[97]⟩, .string ⟨#[97]⟩] 9)) := ⟨by rw [hg]; simp⟩
  have h1 : Sl strE (V.alloc (.cells #[.string ⟨#[97]⟩, .string ⟨#[97]⟩] 9)).heap.size (V.alloc (.cells #[.string ⟨#[97]⟩, .string ⟨#[97]⟩] 9)) A c [[97], [97]] := Sl.wide hS
  have h2 : Sl strE (V.alloc (.cells #[.string ⟨#[97]⟩, .string ⟨#[97]⟩] 9)).heap.size (V.alloc (.cells #[.string ⟨#[97]⟩, .string ⟨#[97]⟩] 9)) (some ⟨g, 0, none⟩) 2 [[97], [97]] := Sl.wide (w := V.alloc (.cells #[.string ⟨#[97]⟩, .string ⟨#[97]⟩] 9)) (sl_lit (ts := [[97], [97]]) hg rfl (by decide))
  exact same_c A (some ⟨g, 0, none⟩) c 2 [[97], [97]] [[97], [97]] 2 2 rfl rfl _ _ h1 h2
theorem ex_sl {W : World} {base : Nat} {A : Option Addr} {c : Nat} (h : W.ownsRow base 9 1 (.slice A 2 c) 2 (strE [97] ++ (strE [97] ++ []))) : Sl strE W.heap.size W A c [[97], [97]] := Sl.of_own (xs := [[97], [97]]) h
set_option maxRecDepth 100000 in
set_option maxHeartbeats 4000000 in
theorem works_c (w : World) (hT : TabIs w) [h6 : Le 6 w] :
    Calls Tryd.prog 15 #[] w fun e w' => e = .returned (.bool true) ∧ ∃ δ, w' = lat w δ := by
  have hq := fun W => eql_row true 1 1 1 1 ⟨#[120]⟩ ⟨#[120]⟩ (by simp) W
  go_enter Tryd.func15, Tryd.ntmps15
  go_wp2_with (first
    | (go_at_call 16; refine (ex_row _).mono ?_; rintro e w1 ⟨rfl, δ1, rfl⟩)
    | (go_at_call 18; refine (ex_back _).mono ?_; rintro e w1 ⟨rfl, δ2, rfl⟩)
    | (go_at_call 36; refine (ex_write _ _ (by go_simp) hT.up).mono ?_; rintro e w1 ⟨rfl, δ3, rfl⟩)
    | (go_at_call 28; refine (ex_least _ _ (by go_simp)).mono ?_; rintro e w1 ⟨rfl, δ4, rfl⟩)
    | (go_at_call 22; refine (ex_read _ hT.up).mono ?_; rintro e w1 ⟨A, c, rfl, HO, δ5, rfl⟩; have HS := Lib.hid (ex_sl HO.out))
    | (go_at_call 23; refine (ex_same _ _ _ (Sl.wide HS.out) _ (by go_simp)).mono ?_; rintro e w1 ⟨rfl, δ8, rfl⟩)
    | (go_at_call 31; refine (ex_cut _ hT.up).mono ?_; rintro e w1 ⟨rfl, δ6, rfl⟩)
    | (go_at_call 24; refine (ex_state _ hT.up).mono ?_; rintro e w1 ⟨rfl, δ7, rfl⟩))
  go_ret
  exact ⟨rfl, lat_ex⟩
end Go.Proofs.YtjamemjmdlkpcaaDoor
