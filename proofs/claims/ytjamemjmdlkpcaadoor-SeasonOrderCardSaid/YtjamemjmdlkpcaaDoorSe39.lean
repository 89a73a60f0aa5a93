/- Season: the law SeasonBack. -/
import Derived.Test.YtjamemjmdlkpcaaDoorSe37
namespace Go.Proofs.YtjamemjmdlkpcaaDoor
open Go.RowKit
open Se

theorem file_small {ts : List Txt} (h : readyT ts = true) : (file ts).length ≤ 1100 := by
  have := bytes_len (a := []) (ready_yes h).2
  have := (ready_yes h).1
  rw [file_len]; omega
theorem read_written {ts : List Txt} (h : readyT ts = true) : readOf (file ts) = .all ts := read_file (ready_yes h).2 (ready_yes h).1
theorem ready_read {l : Txt} {ts : List Txt} (h : readOf l = .all ts) : readyT ts = true := by
  obtain ⟨h1, h2, _, _⟩ := read_some h
  unfold readyT textsErr
  rw [if_neg (by omega), if_pos (List.all_eq_true.2 h2)]; rfl
set_option maxRecDepth 100000 in
set_option maxHeartbeats 4000000 in
theorem lawBack_c (A : Option Addr) (c : Nat) (ts : List Txt) (o : Txt) (B : Nat) (w : World) (hS : Sl strE B w A c ts) [hB : Le B w] (hT : TabIs w) [h6 : Le 6 w] :
    Calls Tryd.prog 4 #[.slice A ts.length c, .string (str o)] w fun e w' => e = .returned (.bool true) ∧ ∃ δ, w' = lat w δ := by
  have HS := Lib.hid hS
  clear hS
  rcases hr : readyT ts with _ | _
  · have HR := Lib.hid hr
    clear hr
    go_enter Tryd.func4, Tryd.ntmps4
    go_wp2_with (first
      | (go_at_call 20; refine (ready_c A c ts false HR.out _ rfl B _ HS.out.up).mono ?_; rintro e w1 ⟨rfl, rfl⟩)
      | (go_at_call 15; refine (works_c _ hT.up).mono ?_; rintro e w1 ⟨rfl, δ5, rfl⟩))
    go_ret
    exact ⟨rfl, lat_ex⟩
  · by_cases ho : o.length ≤ 2000
    · have HR := Lib.hid hr
      have hfs := file_small hr
      have h1 := read_written hr
      have HD : Hid (∀ w, TabIs w → Le 6 w → Calls Tryd.prog 22 #[.string (str (file ts))] w (ReadU ts 0 w)) := Lib.hid (fun w hT _ => (read_all_c _ ts h1 (by omega) w hT).mono fun _ _ => readU_some)
      have HST : Hid (stateOf (readOf (file ts)) = 1) := Lib.hid (by rw [h1]; rfl)
      have HWR : Hid (∀ (w : World), Sl strE w.heap.size w A c ts → TabIs w → Le 6 w → Calls Tryd.prog 21 #[.slice A ts.length c] w fun e w' => e = .returned (.tuple #[.string (str (file ts)), .bool true]) ∧ ∃ δ, w' = lat w δ) := Lib.hid (fun w hS hT _ => written_c A c ts hr _ rfl w.heap.size w hS hT)
      have HF : Hid (∀ us, readyT us = true → (file ts = file us ↔ us = ts)) := Lib.hid (fun us hu => ⟨fun e => (file_inj (ready_yes hr).2 (ready_yes hr).1 (ready_yes hu).2 (ready_yes hu).1 e).symm, fun e => by rw [e]⟩)
      obtain ⟨f, hf⟩ : ∃ f, file ts = f := ⟨_, rfl⟩
      rw [hf] at HD HST HWR HF hfs
      have ho' : ((o.length : Nat) : Int) ≤ 2000 := by omega
      have hz : f.length ≤ 100000 := by omega
      clear h1 hf hr
      rcases ho2 : readOf o with n | us
      · have hn : n ≠ 0 := readOf_bad0 ho2
        have hnb : (n != 0) = true := by simpa using hn
        have hbad : Hid (isBad (readOf o)) := Lib.hid (by
          rcases got_cases o with h | ⟨us, h⟩
          · exact h
          · rw [ho2] at h; cases h)
        have H2B : Hid (∀ w, TabIs w → Le 6 w → Calls Tryd.prog 22 #[.string (str o)] w fun e w' => e = .returned (.tuple #[.slice none 0 0, .int .i64 n]) ∧ ∃ δ, w' = lat w δ) := Lib.hid (fun w hT _ => read_bad_c o n ho2 (by omega) w hT)
        clear ho2
        go_enter Tryd.func4, Tryd.ntmps4
        go_wp2_with (first
          | (go_at_call 20; refine (ready_c A c ts true HR.out _ rfl B _ HS.out.up).mono ?_; rintro e w1 ⟨rfl, rfl⟩)
          | (go_at_call 21; refine (HWR.out _ (Sl.wide HS.out) hT.up inferInstance).mono ?_; rintro e w1 ⟨rfl, δ1, rfl⟩)
          | (go_at_call 22; (with_reducible refine Calls.mono (HD.out _ ?_ ?_) ?_); exact hT.up; infer_instance; rintro e w1 ⟨A3, c3, rfl, S3, δ2, rfl⟩)
          | (go_at_call 22; (with_reducible refine Calls.mono (H2B.out _ ?_ ?_) ?_); exact hT.up; infer_instance; rintro e w1 ⟨rfl, δ3, rfl⟩)
          | (go_at_call 24; refine (state_c f hz _ hT.up).mono ?_; rw [HST.out]; rintro e w1 ⟨rfl, δ4, rfl⟩)
          | (go_at_call 23; refine (same_t _ _ _ _ ts _ _ (Sl.wide S3.out) (Sl.wide HS.out)).mono ?_; rintro e w1 ⟨rfl, δ5, rfl⟩)
          | (go_at_call 25; refine (refused_c o hbad.out (by omega) _ hT.up).mono ?_; rintro e w1 ⟨rfl, δ6, rfl⟩)
          | (go_at_call 15; refine (works_c _ hT.up).mono ?_; rintro e w1 ⟨rfl, δ7, rfl⟩))
        go_ret
        exact ⟨rfl, lat_ex⟩
      · obtain ⟨g1, g2, g3, g4⟩ := read_some ho2
        have hru := ready_read ho2
        have HRD : Hid (∀ w : World, Sl strE w.heap.size w A c ts → Calls Tryd.prog 20 #[.slice A ts.length c] w fun e w' => e = .returned (.bool true) ∧ w = w') := Lib.hid (fun w h => ready_c A c ts true HR.out _ rfl _ w h)
        have HRU : Hid (∀ (A' : Option Addr) (c' : Nat) (w : World), Sl strE w.heap.size w A' c' us → Calls Tryd.prog 20 #[.slice A' us.length c'] w fun e w' => e = .returned (.bool true) ∧ w = w') := Lib.hid (fun A' c' w h => ready_c A' c' us true hru _ rfl _ w h)
        have HSS : Hid (∀ (A' : Option Addr) (c' : Nat) (w : World), Sl strE w.heap.size w A' c' ts → Sl strE w.heap.size w A c ts → Calls Tryd.prog 23 #[.slice A' ts.length c', .slice A ts.length c] w fun e w' => e = .returned (.bool true) ∧ ∃ δ, w' = lat w δ) := Lib.hid (fun A' c' w h1 h2 => same_t A' A c' c ts _ w h1 h2)
        have H2 : Hid (∀ w, TabIs w → Le 6 w → Calls Tryd.prog 22 #[.string (str o)] w (ReadU us 0 w)) := Lib.hid (fun w hT _ => (read_all_c _ us ho2 (by omega) w hT).mono fun _ _ => readU_some)
        have HW2 : Hid (∀ (A' : Option Addr) (c' : Nat) (w : World), Sl strE w.heap.size w A' c' us → TabIs w → Le 6 w → Calls Tryd.prog 21 #[.slice A' us.length c'] w fun e w' => e = .returned (.tuple #[.string (str o), .bool true]) ∧ ∃ δ, w' = lat w δ) := Lib.hid (fun A' c' w hS hT _ => by rw [← g3]; exact written_c A' c' us hru _ rfl w.heap.size w hS hT)
        have hio : decide (f = o) = decide (us = ts) := by rw [decide_eq_decide, ← g3]; exact HF.out us hru
        have hq := str_beq f o
        rw [hio] at hq
        obtain ⟨b, hb⟩ : ∃ b, decide (us = ts) = b := ⟨_, rfl⟩
        have HSM : Hid (∀ (A' : Option Addr) (c' : Nat) (w : World), Sl strE w.heap.size w A' c' us → Sl strE w.heap.size w A c ts → Calls Tryd.prog 23 #[.slice A' us.length c', .slice A ts.length c] w fun e w' => e = .returned (.bool b) ∧ ∃ δ, w' = lat w δ) := Lib.hid (fun A' c' w h1 h2 => by rw [← hb]; exact same_c A' A c' c us ts _ _ rfl rfl _ w h1 h2)
        rw [hb] at hq
        clear g1 g2 g3 g4 hru ho2 hio hb
        cases b
        all_goals
          go_enter Tryd.func4, Tryd.ntmps4
          go_wp2_with (first
            | (go_at_call 20; (with_reducible refine Calls.mono (HRD.out _ ?_) ?_); exact Sl.wide HS.out; rintro e w1 ⟨rfl, rfl⟩)
            | (go_at_call 20; (with_reducible refine Calls.mono (HRU.out A4 c4 _ ?_) ?_); exact Sl.wide S4.out; rintro e w1 ⟨rfl, rfl⟩)
            | (go_at_call 21; (with_reducible refine Calls.mono (HWR.out _ ?_ ?_ ?_) ?_); exact Sl.wide HS.out; exact hT.up; infer_instance; rintro e w1 ⟨rfl, δ1, rfl⟩)
            | (go_at_call 21; (with_reducible refine Calls.mono (HW2.out A4 c4 _ ?_ ?_ ?_) ?_); exact Sl.wide S4.out; exact hT.up; infer_instance; rintro e w1 ⟨rfl, δ8, rfl⟩)
            | (go_at_call 22; (with_reducible refine Calls.mono (HD.out _ ?_ ?_) ?_); exact hT.up; infer_instance; rintro e w1 ⟨A3, c3, rfl, S3, δ2, rfl⟩)
            | (go_at_call 22; (with_reducible refine Calls.mono (H2.out _ ?_ ?_) ?_); exact hT.up; infer_instance; rintro e w1 ⟨A4, c4, rfl, S4, δ3, rfl⟩)
            | (go_at_call 24; refine (state_c f hz _ hT.up).mono ?_; rw [HST.out]; rintro e w1 ⟨rfl, δ4, rfl⟩)
            | (go_at_call 23; (with_reducible refine Calls.mono (HSS.out A3 c3 _ ?_ ?_) ?_); exact Sl.wide S3.out; exact Sl.wide HS.out; rintro e w1 ⟨rfl, δ5, rfl⟩)
            | (go_at_call 23; (with_reducible refine Calls.mono (HSM.out A4 c4 _ ?_ ?_) ?_); exact Sl.wide S4.out; exact Sl.wide HS.out; rintro e w1 ⟨rfl, δ6, rfl⟩)
            | (go_at_call 15; refine (works_c _ hT.up).mono ?_; rintro e w1 ⟨rfl, δ7, rfl⟩))
          go_ret
          exact ⟨rfl, lat_ex⟩
    · have HR := Lib.hid hr
      have ho' : (2000 : Int) < ((o.length : Nat) : Int) := by omega
      clear hr
      go_enter Tryd.func4, Tryd.ntmps4
      go_wp2_with (first
        | (go_at_call 20; refine (ready_c A c ts true HR.out _ rfl B _ HS.out.up).mono ?_; rintro e w1 ⟨rfl, rfl⟩)
        | (go_at_call 15; refine (works_c _ hT.up).mono ?_; rintro e w1 ⟨rfl, δ5, rfl⟩))
      go_ret
      exact ⟨rfl, lat_ex⟩
end Go.Proofs.YtjamemjmdlkpcaaDoor
