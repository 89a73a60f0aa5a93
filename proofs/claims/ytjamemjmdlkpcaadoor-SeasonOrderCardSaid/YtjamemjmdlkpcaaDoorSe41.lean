/- Season: the law SeasonBegins. -/
import Derived.Test.YtjamemjmdlkpcaaDoorSe39
namespace Go.Proofs.YtjamemjmdlkpcaaDoor
open Go.RowKit
open Se

theorem ready_take {ts : List Txt} (h : readyT ts = true) (k : Nat) : readyT (ts.take k) = true := by
  obtain ⟨h1, h2⟩ := ready_yes h
  unfold readyT textsErr
  rw [if_neg (by rw [List.length_take]; omega), if_pos (List.all_eq_true.2 (allT_take h2 k))]; rfl
theorem to_strI {P : Program} (w : World) (t : TypeId) (k : IntKind) (l : Txt) (i : Int) (j : Nat) (hi : i = (j : Int)) (m : Txt) (h : P.underlying t = some .string) (hj : j ≤ l.length) (hm : l.take j = m) :
    (Instr.slice t (.string (str l)) none (some (.int k i)) none).run P w = .ok (.string (str m)) w := by
  subst hi
  exact to_str w t k l j m h hj hm
theorem file_pre (ts : List Txt) : (file ts).take ((file ts).length - 3) = bytesL (rows [] ts) := by
  unfold file
  rw [sealed_take]
theorem begins {ts : List Txt} (k : Nat) : (file (ts.take k)).length - 3 ≤ (file ts).length - 3 ∧ (file ts).take ((file (ts.take k)).length - 3) = (file (ts.take k)).take ((file (ts.take k)).length - 3) := by
  have h1 : bytesL (rows [] ts) = bytesL (rows [] (ts.take k)) ++ bytesL ((rows [] ts).drop k) := by
    rw [rows_take]; exact bytes_take _ _
  have h2 : (file (ts.take k)).length - 3 = (bytesL (rows [] (ts.take k))).length := by rw [file_len]; omega
  have h3 : (file ts).length - 3 = (bytesL (rows [] ts)).length := by rw [file_len]; omega
  refine ⟨by rw [h2, h3, h1, List.length_append]; omega, ?_⟩
  rw [file_pre, h2]
  have e : file ts = bytesL (rows [] (ts.take k)) ++ (bytesL ((rows [] ts).drop k) ++ three (sealOf (bytesL (rows [] ts)))) := by
    rw [← List.append_assoc, ← h1]; rfl
  rw [e, List.take_append_of_le_length (Nat.le_refl _), List.take_length]
set_option maxRecDepth 100000 in
set_option maxHeartbeats 4000000 in
theorem lawBegins_main (A : Option Addr) (c : Nat) (ts : List Txt) (k : Nat) (hr : readyT ts = true) (hk : k ≤ ts.length) (B : Nat) (w : World) (hS : Sl strE B w A c ts) [hB : Le B w] (hT : TabIs w) [h6 : Le 6 w] :
    Calls Tryd.prog 9 #[.slice A ts.length c, .int .i64 k] w fun e w' => e = .returned (.bool true) ∧ ∃ δ, w' = lat w δ := by
  have HS := Lib.hid hS
  have hkc : (k : Int) ≤ (c : Int) := by have := hS.1; omega
  have HR := Lib.hid hr
  have HIN : Hid (inB 0 (ts.length : Int) (k : Int) = true) := Lib.hid (inB_iff.2 (by omega))
  have hus : (ts.take k).length = k := by rw [List.length_take]; omega
  obtain ⟨us, hu⟩ : ∃ us, ts.take k = us := ⟨_, rfl⟩
  have hru := ready_take hr k
  have hbg := begins (ts := ts) k
  have hrt : (rows [] ts).take k = rows [] (ts.take k) := (rows_take _ _ _).symm
  rw [hu] at hus hru hbg hrt
  have HSU : Hid (Sl strE B w A c us) := Lib.hid (by rw [← hu]; exact hS.take k)
  have HW1 : Hid (∀ (w : World), Sl strE w.heap.size w A c ts → TabIs w → Le 6 w → Calls Tryd.prog 21 #[.slice A ts.length c] w fun e w' => e = .returned (.tuple #[.string (str (file ts)), .bool true]) ∧ ∃ δ, w' = lat w δ) := Lib.hid (fun w hS hT _ => written_c A c ts hr _ rfl w.heap.size w hS hT)
  have HW2 : Hid (∀ (w : World), Sl strE w.heap.size w A c us → TabIs w → Le 6 w → Calls Tryd.prog 21 #[.slice A k c] w fun e w' => e = .returned (.tuple #[.string (str (file us)), .bool true]) ∧ ∃ δ, w' = lat w δ) := Lib.hid (fun w hS hT _ => written_c A c us hru _ hus w.heap.size w hS hT)
  have f1 := form_file (ready_yes hr).2 (ready_yes hr).1
  have f2 := form_file (ready_yes hru).2 (ready_yes hru).1
  have l1 := file_small hr
  have l2 := file_small hru
  have l3 : 3 ≤ (file ts).length := by rw [file_len]; omega
  have l4 : 3 ≤ (file us).length := by rw [file_len]; omega
  have HR1 : Hid (∀ w, Calls Tryd.prog 33 #[.string (str (file ts))] w (RowsU (rows [] ts) 0 w)) := Lib.hid (fun w => (rows_some _ _ f1 (by omega) w).mono fun _ _ => rowsU_some)
  have HR2 : Hid (∀ w, Calls Tryd.prog 33 #[.string (str (file us))] w (RowsU (rows [] us) 0 w)) := Lib.hid (fun w => (rows_some _ _ f2 (by omega) w).mono fun _ _ => rowsU_some)
  have n1 : (rows [] ts).length = ts.length := rows_len _ _
  have n2 : (rows [] us).length = k := by rw [rows_len, hus]
  obtain ⟨r1, hr1⟩ : ∃ r, rows [] ts = r := ⟨_, rfl⟩
  obtain ⟨r2, hr2⟩ : ∃ r, rows [] us = r := ⟨_, rfl⟩
  obtain ⟨s, hs⟩ : ∃ s, file ts = s := ⟨_, rfl⟩
  obtain ⟨t, ht⟩ : ∃ s, file us = s := ⟨_, rfl⟩
  rw [hr1] at HR1 n1 hrt
  rw [hr2] at HR2 n2 hrt
  rw [hs] at HW1 HR1 l1 l3 hbg
  rw [ht] at HW2 HR2 l2 l4 hbg
  have HN1 := Lib.hid n1
  have HN2 := Lib.hid n2
  have HRT := Lib.hid hrt
  have b1 : (((r1.length : Nat) : Int) != (ts.length : Int)) = false := by simp; omega
  have b2 : (((r2.length : Nat) : Int) != (k : Int)) = false := by simp; omega
  have b3 : decide (((t.length : Nat) : Int) - 3 ≤ ((s.length : Nat) : Int) - 3) = true := decide_eq_true (by omega)
  have b4 : ((t.length : Nat) : Int) - 3 ≤ ((s.length : Nat) : Int) - 3 := by omega
  have t1 := fun (W : World) q kk hh => to_strI (P := Tryd.prog) W q kk s ((t.length : Int) - 3) (t.length - 3) (by omega) (t.take (t.length - 3)) hh (by omega) hbg.2
  have t2 := fun (W : World) q kk hh => to_strI (P := Tryd.prog) W q kk t ((t.length : Int) - 3) (t.length - 3) (by omega) (t.take (t.length - 3)) hh (by omega) rfl
  obtain ⟨z, hz⟩ : ∃ z, t.take (t.length - 3) = z := ⟨_, rfl⟩
  rw [hz] at t1 t2
  clear hS hr hru hu hus f1 f2 hr1 hr2 hs ht n1 n2 hbg hz hrt
  go_enter Tryd.func9, Tryd.ntmps9
  go_wp2_with (first
    | (go_at_call 20; refine (ready_c A c ts true HR.out _ rfl B _ HS.out.up).mono ?_; rintro e w1 ⟨rfl, rfl⟩)
    | (go_at_call 27; refine (within_is _ _ _ true HIN.out _).mono ?_; rintro e w1 ⟨rfl, rfl⟩)
    | (go_at_call 21; (with_reducible refine Calls.mono (HW1.out _ ?_ ?_ ?_) ?_); exact Sl.wide HS.out; exact hT.up; infer_instance; rintro e w1 ⟨rfl, δ1, rfl⟩)
    | (go_at_call 21; (with_reducible refine Calls.mono (HW2.out _ ?_ ?_ ?_) ?_); exact Sl.wide HSU.out; exact hT.up; infer_instance; rintro e w1 ⟨rfl, δ2, rfl⟩)
    | (go_at_call 33; (with_reducible refine Calls.mono (HR1.out _) ?_); rintro e w1 ⟨A1, c1, rfl, S1, δ3, rfl⟩)
    | (go_at_call 33; (with_reducible refine Calls.mono (HR2.out _) ?_); rintro e w1 ⟨A2, c2, rfl, S2, δ4, rfl⟩))
  have hk1c : (k : Int) ≤ (c1 : Int) := by have := S1.out.1; have := HN1.out; omega
  have HSR : Hid (∀ n, Calls Tryd.prog 34 #[.slice A1 k c1, .slice A2 r2.length c2] (lat (lat (lat (lat (lat w δ1) δ2) δ3) δ4) n) fun e w' => e = .returned (.bool true) ∧ ∃ δ, w' = lat (lat (lat (lat (lat (lat w δ1) δ2) δ3) δ4) n) δ) := Lib.hid (fun n => by
    have h1 : Sl rowE (lat (lat (lat (lat (lat w δ1) δ2) δ3) δ4) n).heap.size (lat (lat (lat (lat (lat w δ1) δ2) δ3) δ4) n) A1 c1 (r1.take k) := (Sl.wide S1.out).take k
    have h2 : Sl rowE (lat (lat (lat (lat (lat w δ1) δ2) δ3) δ4) n).heap.size (lat (lat (lat (lat (lat w δ1) δ2) δ3) δ4) n) A2 c2 r2 := Sl.wide S2.out
    have := sameRows_c A1 A2 c1 c2 (r1.take k) r2 k r2.length (by rw [List.length_take]; have := HN1.out; omega) rfl _ _ h1 h2
    rwa [HRT.out, decide_eq_true rfl] at this)
  refine wp_region_lat (by kernel_rfl) (by kernel_rfl) ?_
  repeat (go_big_quiet_step ((first | (go_at_call 34; exact Calls.lat_of (HSR.out _)) | (go_at_call 15; exact Calls.lat_of (works_c _ hT.up)))))
  refine wpQuiet_nil ?_
  rintro _ ⟨δq, rfl⟩
  go_wp2
  go_ret
  exact ⟨rfl, lat_ex⟩
theorem lawBegins_c (A : Option Addr) (c : Nat) (ts : List Txt) (a : Int) (B : Nat) (w : World) (hS : Sl strE B w A c ts) [hB : Le B w] (hT : TabIs w) [h6 : Le 6 w] :
    Calls Tryd.prog 9 #[.slice A ts.length c, .int .i64 a] w fun e w' => e = .returned (.bool true) ∧ ∃ δ, w' = lat w δ := by
  have HS := Lib.hid hS
  rcases hr : readyT ts with _ | _
  · have HR := Lib.hid hr
    clear hr hS
    go_enter Tryd.func9, Tryd.ntmps9
    go_wp2_with (first
      | (go_at_call 20; refine (ready_c A c ts false HR.out _ rfl B _ HS.out.up).mono ?_; rintro e w1 ⟨rfl, rfl⟩)
      | (go_at_call 15; refine (works_c _ hT.up).mono ?_; rintro e w1 ⟨rfl, δ5, rfl⟩))
    go_ret
    exact ⟨rfl, lat_ex⟩
  · have HR := Lib.hid hr
    rcases hb : inB 0 (ts.length : Int) a with _ | _
    · have HBF := Lib.hid hb
      clear hb hr hS
      go_enter Tryd.func9, Tryd.ntmps9
      go_wp2_with (first
        | (go_at_call 20; refine (ready_c A c ts true HR.out _ rfl B _ HS.out.up).mono ?_; rintro e w1 ⟨rfl, rfl⟩)
        | (go_at_call 27; refine (within_is _ _ _ false HBF.out _).mono ?_; rintro e w1 ⟨rfl, rfl⟩)
        | (go_at_call 15; refine (works_c _ hT.up).mono ?_; rintro e w1 ⟨rfl, δ5, rfl⟩))
      go_ret
      exact ⟨rfl, lat_ex⟩
    · obtain ⟨h0, h1⟩ := inB_iff.1 hb
      obtain ⟨k, rfl⟩ : ∃ k : Nat, a = k := ⟨a.toNat, by omega⟩
      exact lawBegins_main A c ts k hr (by omega) B w hS hT
end Go.Proofs.YtjamemjmdlkpcaaDoor
