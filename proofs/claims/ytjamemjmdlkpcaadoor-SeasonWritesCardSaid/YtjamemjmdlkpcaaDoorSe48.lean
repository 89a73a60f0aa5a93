/- Season: the law SeasonWrites. -/
import Derived.Test.YtjamemjmdlkpcaaDoorSe47
import Derived.Test.YtjamemjmdlkpcaaDoorSe37
namespace Go.Proofs.YtjamemjmdlkpcaaDoor
open Go.RowKit
open Se

theorem rleast_no_c (A : Option Addr) (c : Nat) (ts : List Txt) (n : Int) (hn : textsErr 6 ts = n) (h0 : n ≠ 0) (hs : smallT ts) (B : Nat) (w : World) (hS : Sl strE B w A c ts) [hB : Le B w] :
    Calls Tryd.prog 40 #[.slice A ts.length c] w fun e w' => e = .returned (.tuple #[.int .i64 0, .int .i64 n]) ∧ ∃ δ, w' = lat w δ := by
  have HS := Lib.hid hS
  have HZ := Lib.hid hs
  by_cases h6 : 6 < ts.length
  · have : n = 2 := by rw [← hn]; unfold textsErr; rw [if_pos h6]
    subst this
    have h6' : (6 : Int) < (ts.length : Int) := by omega
    clear hn hS hs h6
    go_enter Tryd.func40, Tryd.ntmps40
    go_wp2_with (fail)
    go_ret2
    exact ⟨rfl, lat_ex⟩
  · have HN : Hid (textsErr 20 ts = n) := Lib.hid (by rw [← hn]; unfold textsErr; rw [if_neg (by omega), if_neg h6])
    have h6' : ¬ (6 : Int) < (ts.length : Int) := by omega
    have h0' : (n != 0) = true := by simpa using h0
    clear hn hS hs h6 h0
    go_enter Tryd.func40, Tryd.ntmps40
    go_wp2_with (go_at_call 55; refine (rAreTexts_c A c ts n HN.out _ rfl HZ.out _ _ HS.out.up).mono ?_; rintro e w1 ⟨rfl, rfl⟩)
    go_ret2
    exact ⟨rfl, lat_ex⟩
/-- What a function of texts that a law asks returns. -/
abbrev Asks (f : FuncId) (v : Value) (ts : List Txt) : Prop := ∀ (A : Option Addr) (c : Nat) (w : World), Sl strE w.heap.size w A c ts → TabIs w → Le 6 w → Calls Tryd.prog f #[.slice A ts.length c] w fun e w' => e = .returned v ∧ ∃ δ, w' = lat w δ
theorem write_both {ts : List Txt} (hs : smallT ts) : ∃ (s : ByteArray) (n : Int), Asks 36 (.tuple #[.string s, .int .i64 n]) ts ∧ Asks 37 (.tuple #[.string s, .int .i64 n]) ts := by
  obtain ⟨s, n, h⟩ := outV_form (writeOf ts)
  exact ⟨s, n, fun A c w hS hT _ => by rw [← h]; exact write_c A c ts _ rfl hs _ w hS hT, fun A c w hS _ _ => by rw [← h]; exact rwrite_c A c ts _ rfl hs _ w hS⟩
theorem saves_both {ts : List Txt} (hs : smallT ts) : ∃ (s n : Int), Asks 38 (.tuple #[.int .i64 s, .int .i64 n]) ts ∧ Asks 39 (.tuple #[.int .i64 s, .int .i64 n]) ts := by
  by_cases h : textsErr 20 ts = 0
  · exact ⟨_, _, fun A c w hS hT _ => saves_ok_c A c ts h _ rfl hs _ w hS hT, fun A c w hS _ _ => rSaves_ok A c ts h _ rfl hs _ w hS⟩
  · exact ⟨_, _, fun A c w hS _ _ => saves_no_c A c ts _ rfl h _ rfl hs _ w hS, fun A c w hS _ _ => rSaves_no A c ts _ rfl h _ rfl hs _ w hS⟩
theorem least_both {ts : List Txt} (hs : smallT ts) : ∃ (s n : Int), Asks 28 (.tuple #[.int .i64 s, .int .i64 n]) ts ∧ Asks 40 (.tuple #[.int .i64 s, .int .i64 n]) ts := by
  by_cases h : textsErr 6 ts = 0
  · exact ⟨_, _, fun A c w hS _ _ => least_ok_c A c ts h _ rfl hs _ w hS, fun A c w hS _ _ => rleast_ok_c A c ts h _ w hS⟩
  · exact ⟨_, _, fun A c w hS _ _ => least_no_c A c ts _ rfl h _ rfl hs _ w hS, fun A c w hS _ _ => rleast_no_c A c ts _ rfl h hs _ w hS⟩
set_option maxRecDepth 100000 in
set_option maxHeartbeats 4000000 in
theorem lawWrites_c (A : Option Addr) (c : Nat) (ts : List Txt) (B : Nat) (w : World) (hS : Sl strE B w A c ts) [hB : Le B w] (hT : TabIs w) [h6 : Le 6 w] :
    Calls Tryd.prog 11 #[.slice A ts.length c] w fun e w' => e = .returned (.bool true) ∧ ∃ δ, w' = lat w δ := by
  have HS := Lib.hid hS
  have hcl := hS.len
  rcases hr : longT ts with _ | _
  · have HR := Lib.hid hr
    have hs := small_ready (long_no hr)
    have hl := (long_no hr).1
    obtain ⟨s1, n1, a1, b1⟩ := write_both hs
    obtain ⟨s2, n2, a2, b2⟩ := saves_both hs
    obtain ⟨s3, n3, a3, b3⟩ := least_both hs
    have A1 := Lib.hid a1
    have A2 := Lib.hid a2
    have A3 := Lib.hid a3
    have B1 := Lib.hid b1
    have B2 := Lib.hid b2
    have B3 := Lib.hid b3
    clear hr hS hs a1 a2 a3 b1 b2 b3
    go_enter Tryd.func11, Tryd.ntmps11
    go_wp2_with (first
      | (go_at_call 35; refine (long_c A c ts false HR.out _ rfl B _ HS.out.up).mono ?_; rintro e w1 ⟨rfl, rfl⟩)
      | (at_builtin; (refine wpList_append_lit w slS (.tmp 19) (.tmp 20) rfl rfl (v := .slice (some ⟨_, 0, none⟩) 0 0) (own_lit0 (by go_simp) (by go_simp)) rfl (B := B) (A := A) (m := ts.length) (c := c) (news := ts.flatMap strE) rfl (HS.out.up.2.2) (len_enc strE 1 (fun _ => rfl) _) (one_enc strE one_str _) (by omega) (by omega) ?_); intro A1' c1 δ2 own1 hg1; have S1 := Lib.hid (Sl.of_own own1); clear own1)
      | (go_at_call 36; (with_reducible refine Calls.mono (A1.out _ _ _ ?_ ?_ ?_) ?_); exact Sl.wide S1.out; exact hT.up; infer_instance; rintro e w1 ⟨rfl, δ3, rfl⟩)
      | (go_at_call 37; (with_reducible refine Calls.mono (B1.out _ _ _ ?_ ?_ ?_) ?_); exact Sl.wide HS.out; exact hT.up; infer_instance; rintro e w1 ⟨rfl, δ4, rfl⟩)
      | (go_at_call 38; (with_reducible refine Calls.mono (A2.out _ _ _ ?_ ?_ ?_) ?_); exact Sl.wide S1.out; exact hT.up; infer_instance; rintro e w1 ⟨rfl, δ5, rfl⟩)
      | (go_at_call 39; (with_reducible refine Calls.mono (B2.out _ _ _ ?_ ?_ ?_) ?_); exact Sl.wide HS.out; exact hT.up; infer_instance; rintro e w1 ⟨rfl, δ6, rfl⟩)
      | (go_at_call 28; (with_reducible refine Calls.mono (A3.out _ _ _ ?_ ?_ ?_) ?_); exact Sl.wide S1.out; exact hT.up; infer_instance; rintro e w1 ⟨rfl, δ7, rfl⟩)
      | (go_at_call 40; (with_reducible refine Calls.mono (B3.out _ _ _ ?_ ?_ ?_) ?_); exact Sl.wide HS.out; exact hT.up; infer_instance; rintro e w1 ⟨rfl, δ8, rfl⟩)
      | (go_at_call 23; refine (same_t _ _ _ _ ts _ _ (Sl.wide S1.out) (Sl.wide HS.out)).mono ?_; rintro e w1 ⟨rfl, δ9, rfl⟩)
      | (go_at_call 15; refine (works_c _ hT.up).mono ?_; rintro e w1 ⟨rfl, δ10, rfl⟩))
    go_ret
    exact ⟨rfl, lat_ex⟩
  · have HR := Lib.hid hr
    clear hr hS
    go_enter Tryd.func11, Tryd.ntmps11
    go_wp2_with (first
      | (go_at_call 35; refine (long_c A c ts true HR.out _ rfl B _ HS.out.up).mono ?_; rintro e w1 ⟨rfl, rfl⟩)
      | (go_at_call 15; refine (works_c _ hT.up).mono ?_; rintro e w1 ⟨rfl, δ10, rfl⟩))
    go_ret
    exact ⟨rfl, lat_ex⟩
end Go.Proofs.YtjamemjmdlkpcaaDoor
