/- Season: the program's check, Write, Saves and Seal. -/
import Derived.Test.YtjamemjmdlkpcaaDoorSe17
import Derived.Test.YtjamemjmdlkpcaaDoorSe22
namespace Go.Proofs.YtjamemjmdlkpcaaDoor
open Go.RowKit
open Se

theorem notText_c (s : ByteArray) (b : Bool) (hb : isText s.data.toList = b) (hs : s.size ≤ 140737488355328) (w : World) :
    Calls Tryd.prog 75 #[.string s] w fun e w' => e = .returned (.bool (!b)) ∧ ∃ δ, w' = lat w δ := by
  have HB := Lib.hid hb
  clear hb
  go_enter Tryd.func75, Tryd.ntmps75
  go_wp2_with (go_at_call 50; refine (isText_v s b HB.out hs _).mono ?_; rintro e w1 ⟨rfl, δ, rfl⟩)
  go_ret
  exact ⟨rfl, lat_ex⟩
theorem indexNot_c (A : Option Addr) (c : Nat) (ts : List Txt) (ln : Nat) (hl : ts.length = ln) (hs : smallT ts) (B : Nat) (w : World) (hS : Sl strE B w A c ts) [hB : Le B w] :
    Calls Tryd.prog 96 #[.slice A ln c, .func (.func 75) #[] #[]] w fun e w' => ∃ i : Int, e = .returned (.int .i64 i) ∧ (0 ≤ i ↔ ts.all isText = false) ∧ ∃ δ, w' = lat w δ := by
  subst hl
  have HS := Lib.hid hS
  have HZ := Lib.hid hs
  have hcl := hS.len
  clear hS hs
  go_enter Tryd.func96, Tryd.ntmps96
  go_wp2
  go_loopg [8] ts.length (fun g i wr => ∃ (k : Nat) (δ : World), k ≤ ts.length ∧ g = ts.length - k ∧ i = .int .i64 k ∧ Hid ((ts.take k).all isText = true) ∧ wr = lat w δ)
  case atStart => exact ⟨0, w, Nat.zero_le _, rfl, rfl, rfl, (lat_refl w).symm⟩
  case round =>
    obtain ⟨k, δ, hk, rfl, rfl, HK, rfl⟩ := hrel
    by_cases hlt : k < ts.length
    · obtain ⟨b, o, rfl, hb, d0⟩ := HS.out.txt hlt
      have ib : Lt b w := ⟨Nat.lt_of_lt_of_le hb hB.out⟩
      have hki : (k : Int) < (ts.length : Int) := by omega
      have hk0 : ¬ (k : Int) < 0 := by omega
      have hz : (str (nth ts k)).size ≤ 140737488355328 := by
        rw [size_str]
        have := HZ.out _ (nth_mem _ hlt)
        omega
      rcases hq : isText (nth ts k) with _ | _
      · have HF := Lib.hid (all_no hlt hq)
        have HQ : Hid (isText (str (nth ts k)).data.toList = false) := Lib.hid (by rw [lst_str]; exact hq)
        clear hq
        go_wp2_with (go_at_call 75; refine (notText_c _ _ HQ.out hz _).mono ?_; rintro e w1 ⟨rfl, δ1, rfl⟩)
        go_ret
        exact ⟨k, rfl, ⟨fun _ => HF.out, fun _ => by omega⟩, lat_ex⟩
      · have HQ : Hid (isText (str (nth ts k)).data.toList = true) := Lib.hid (by rw [lst_str]; exact hq)
        have HK2 := Lib.hid (all_snoc hlt HK.out hq)
        clear hq
        go_wp2_with (go_at_call 75; refine (notText_c _ _ HQ.out hz _).mono ?_; rintro e w1 ⟨rfl, δ1, rfl⟩)
        go_roundg (ts.length - (k + 1))
        case measure => omega
        case rel => exact ⟨k + 1, _, hlt, rfl, by go_num, HK2, lat_def⟩
    · obtain rfl : k = ts.length := by omega
      have HF : Hid (ts.all isText = true) := by have := HK.out; rw [List.take_length] at this; exact this
      go_wp2
      go_ret
      exact ⟨-1, rfl, ⟨fun h => by omega, fun h => by rw [HF.out] at h; cases h⟩, lat_ex⟩
theorem anyNot_c (A : Option Addr) (c : Nat) (ts : List Txt) (b : Bool) (hb : ts.all isText = b) (ln : Nat) (hl : ts.length = ln) (hs : smallT ts) (B : Nat) (w : World) (hS : Sl strE B w A c ts) [hB : Le B w] :
    Calls Tryd.prog 74 #[.slice A ln c, .func (.func 75) #[] #[]] w fun e w' => e = .returned (.bool (!b)) ∧ ∃ δ, w' = lat w δ := by
  have HS := Lib.hid hS
  have HZ := Lib.hid hs
  have HL := Lib.hid hl
  have HB := Lib.hid hb
  clear hS hs hl hb
  go_enter Tryd.func74, Tryd.ntmps74
  go_wp2_with (go_at_call 96; refine (indexNot_c A c ts _ HL.out HZ.out B _ HS.out.up).mono ?_; rintro e w1 ⟨i, rfl, hi, δ, rfl⟩; have HI := Lib.hid hi; clear hi)
  go_ret
  refine ⟨ret_bool ?_, lat_ex⟩
  have hi := HI.out
  rw [HB.out] at hi
  cases b
  · exact decide_eq_true (hi.2 rfl)
  · exact decide_eq_false (fun h => by cases hi.1 h)
theorem check_c (A : Option Addr) (c : Nat) (ts : List Txt) (many : Nat) (_hm : many ≤ 1000) (n : Int) (hn : textsErr many ts = n) (ln : Nat) (hl : ts.length = ln) (hs : smallT ts) (B : Nat) (w : World) (hS : Sl strE B w A c ts) [hB : Le B w] :
    Calls Tryd.prog 58 #[.slice A ln c, .int .i64 many] w fun e w' => e = .returned (.int .i64 n) ∧ ∃ δ, w' = lat w δ := by
  subst hl
  have HS := Lib.hid hS
  have HZ := Lib.hid hs
  have hcl := hS.len
  unfold textsErr at hn
  clear hS hs
  by_cases h20 : many < ts.length
  · rw [if_pos h20] at hn
    subst hn
    have h20' : (many : Int) < (ts.length : Int) := by omega
    go_enter Tryd.func58, Tryd.ntmps58
    go_wp2
    go_ret
    exact ⟨rfl, lat_ex⟩
  · rw [if_neg h20] at hn
    have h20' : (ts.length : Int) ≤ (many : Int) := by omega
    rcases hb : ts.all isText with _ | _
    · rw [hb, if_neg Bool.false_ne_true] at hn
      subst hn
      have HB := Lib.hid hb
      clear hb
      go_enter Tryd.func58, Tryd.ntmps58
      go_wp2_with (go_at_call 74; refine (anyNot_c A c ts _ HB.out _ rfl HZ.out B _ HS.out.up).mono ?_; rintro e w1 ⟨rfl, δ, rfl⟩)
      go_ret
      exact ⟨rfl, lat_ex⟩
    · rw [hb, if_pos rfl] at hn
      subst hn
      have HB := Lib.hid hb
      clear hb
      go_enter Tryd.func58, Tryd.ntmps58
      go_wp2_with (go_at_call 74; refine (anyNot_c A c ts _ HB.out _ rfl HZ.out B _ HS.out.up).mono ?_; rintro e w1 ⟨rfl, δ, rfl⟩)
      go_ret
      exact ⟨rfl, lat_ex⟩
theorem write_ok_c (A : Option Addr) (c : Nat) (ts : List Txt) (hn : textsErr 20 ts = 0) (ln : Nat) (hl : ts.length = ln) (hs : smallT ts) (B : Nat) (w : World) (hS : Sl strE B w A c ts) [hB : Le B w] (hT : TabIs w) [h6 : Le 6 w] :
    Calls Tryd.prog 36 #[.slice A ln c] w fun e w' => e = .returned (.tuple #[.string (str (file ts)), .int .i64 0]) ∧ ∃ δ, w' = lat w δ := by
  have HS := Lib.hid hS
  have HZ := Lib.hid hs
  have HN := Lib.hid hn
  have HL := Lib.hid hl
  have HT := Lib.hid (textsErr_0 hn)
  clear hS hs hn hl
  go_enter Tryd.func36, Tryd.ntmps36
  go_wp2_with (first
    | (go_at_call 58; refine (check_c A c ts 20 (by omega) 0 HN.out _ HL.out HZ.out B _ HS.out.up).mono ?_; rintro e w1 ⟨rfl, δ0, rfl⟩)
    | (go_at_call 60; refine (file_c A c ts _ HL.out HT.out.2 HT.out.1 B _ HS.out.up hT.up).mono ?_; rintro e w1 ⟨rfl, δ1, rfl⟩))
  go_ret2
  exact ⟨rfl, lat_ex⟩
theorem write_no_c (A : Option Addr) (c : Nat) (ts : List Txt) (n : Int) (hn : textsErr 20 ts = n) (h0 : n ≠ 0) (ln : Nat) (hl : ts.length = ln) (hs : smallT ts) (B : Nat) (w : World) (hS : Sl strE B w A c ts) [hB : Le B w] :
    Calls Tryd.prog 36 #[.slice A ln c] w fun e w' => e = .returned (.tuple #[.string ⟨#[]⟩, .int .i64 n]) ∧ ∃ δ, w' = lat w δ := by
  have HS := Lib.hid hS
  have HZ := Lib.hid hs
  have HN := Lib.hid hn
  have HL := Lib.hid hl
  have hd : (n != 0) = true := by simpa using h0
  clear hS hs hn hl
  go_enter Tryd.func36, Tryd.ntmps36
  go_wp2_with (go_at_call 58; refine (check_c A c ts 20 (by omega) n HN.out _ HL.out HZ.out B _ HS.out.up).mono ?_; rintro e w1 ⟨rfl, δ, rfl⟩)
  go_ret2
  exact ⟨rfl, lat_ex⟩
theorem saves_no_c (A : Option Addr) (c : Nat) (ts : List Txt) (n : Int) (hn : textsErr 20 ts = n) (h0 : n ≠ 0) (ln : Nat) (hl : ts.length = ln) (hs : smallT ts) (B : Nat) (w : World) (hS : Sl strE B w A c ts) [hB : Le B w] :
    Calls Tryd.prog 38 #[.slice A ln c] w fun e w' => e = .returned (.tuple #[.int .i64 0, .int .i64 n]) ∧ ∃ δ, w' = lat w δ := by
  have HS := Lib.hid hS
  have HZ := Lib.hid hs
  have HN := Lib.hid hn
  have HL := Lib.hid hl
  have H0 := Lib.hid h0
  have hd : (n != 0) = true := by simpa using h0
  clear hS hs hn hl h0
  go_enter Tryd.func38, Tryd.ntmps38
  go_wp2_with (go_at_call 36; refine (write_no_c A c ts n HN.out H0.out _ HL.out HZ.out B _ HS.out.up).mono ?_; rintro e w1 ⟨rfl, δ1, rfl⟩)
  go_ret2
  exact ⟨rfl, lat_ex⟩
theorem saves_ok_c (A : Option Addr) (c : Nat) (ts : List Txt) (hn : textsErr 20 ts = 0) (ln : Nat) (hl : ts.length = ln) (hs : smallT ts) (B : Nat) (w : World) (hS : Sl strE B w A c ts) [hB : Le B w] (hT : TabIs w) [h6 : Le 6 w] :
    Calls Tryd.prog 38 #[.slice A ln c] w fun e w' => e = .returned (.tuple #[.int .i64 ((whole ts : Nat) - (file ts).length : Int), .int .i64 0]) ∧ ∃ δ, w' = lat w δ := by
  subst hl
  have hT := textsErr_0 hn
  have hfl : (file ts).length ≤ 1100 := by
    have := bytes_len (a := []) hT.2
    have := hT.1
    rw [file_len]; omega
  have h20 : ts.length ≤ 20 := hT.1
  have HS := Lib.hid hS
  have HZ := Lib.hid hs
  have HN := Lib.hid hn
  have hcl := hS.len
  clear hS hs hn hT
  rename TabIs w => hT
  go_enter Tryd.func38, Tryd.ntmps38
  go_wp2_with (go_at_call 36; refine (write_ok_c A c ts HN.out _ rfl HZ.out B _ HS.out.up hT.up).mono ?_; rintro e w1 ⟨rfl, δ1, rfl⟩)
  go_loop [6, 22] (fun v i => ∃ k : Nat, k ≤ ts.length ∧ v = .int .i64 (((((ts.take k).map List.length).sum + k : Nat) : Int) - ((file ts).length : Int)) ∧ i = .int .i64 k) (fun _ i => ts.length - (intOf i).toNat)
  case atStart => exact ⟨0, Nat.zero_le _, int_eq (by simp), rfl⟩
  case round =>
    obtain ⟨k, hk, rfl, rfl⟩ := hrel
    by_cases hlt : k < ts.length
    · obtain ⟨b, o, rfl, hb, d0⟩ := HS.out.txt hlt
      have ib : Lt b w := ⟨Nat.lt_of_lt_of_le hb hB.out⟩
      have hki : (k : Int) < (ts.length : Int) := by omega
      have hk0 : ¬ (k : Int) < 0 := by omega
      have hz := HZ.out _ (nth_mem _ hlt)
      have hw := whole_le HZ.out k
      have HW := Lib.hid (whole_snoc hlt)
      obtain ⟨v, hv⟩ : ∃ v : Nat, v = ((ts.take k).map List.length).sum + k := ⟨_, rfl⟩
      have hvl : v ≤ 1000 + 2000 * 1000 := by omega
      have HV := Lib.hid hv
      rw [← hv]
      clear hv hw
      go_wp2
      go_round
      case rel => exact ⟨k + 1, hlt, int_eq (by rw [HW.out, HV.out]; omega), by go_num⟩
      case measure => simp [intOf]; omega
    · obtain rfl : k = ts.length := by omega
      have HW : Hid (((((ts.take ts.length).map List.length).sum + ts.length : Nat) : Int) = (whole ts : Nat)) := Lib.hid (by rw [List.take_length]; unfold whole; omega)
      rw [HW.out]
      go_wp2
      go_ret2
      exact ⟨rfl, lat_ex⟩
theorem seal_ok_c (s : ByteArray) (n : Nat) (hn : sealOf s.data.toList = n) (hs : s.size ≤ 1100) (w : World) :
    Calls Tryd.prog 42 #[.string s] w fun e w' => e = .returned (.tuple #[.int .i64 n, .int .i64 0]) ∧ ∃ δ, w' = lat w δ := by
  have HN := Lib.hid hn
  have h1 : (s.size : Int) ≤ 1100 := by omega
  clear hn
  go_enter Tryd.func42, Tryd.ntmps42
  go_wp2_with (go_at_call 63; refine (seal_c s n HN.out (by omega) _).mono ?_; rintro e w1 ⟨rfl, δ1, rfl⟩)
  go_ret2
  exact ⟨rfl, lat_ex⟩
theorem seal_no_c (s : ByteArray) (hs : 1100 < s.size) (w : World) :
    Calls Tryd.prog 42 #[.string s] w fun e w' => e = .returned (.tuple #[.int .i64 0, .int .i64 1]) ∧ ∃ δ, w' = lat w δ := by
  have h1 : (1100 : Int) < (s.size : Int) := by omega
  go_enter Tryd.func42, Tryd.ntmps42
  go_wp2
  go_ret2
  exact ⟨rfl, lat_ex⟩
theorem rSeal_ok_c (s : ByteArray) (n : Nat) (hn : sealOf s.data.toList = n) (hs : s.size ≤ 1100) (w : World) :
    Calls Tryd.prog 43 #[.string s] w fun e w' => e = .returned (.tuple #[.int .i64 n, .int .i64 0]) ∧ ∃ δ, w' = lat w δ := by
  have HN := Lib.hid hn
  have h1 : (s.size : Int) ≤ 1100 := by omega
  clear hn
  go_enter Tryd.func43, Tryd.ntmps43
  go_wp2_with (go_at_call 48; refine (rSealOf_c s n HN.out (by omega) _).mono ?_; rintro e w1 ⟨rfl, rfl⟩)
  go_ret2
  exact ⟨rfl, lat_ex⟩
theorem rSeal_no_c (s : ByteArray) (hs : 1100 < s.size) (w : World) :
    Calls Tryd.prog 43 #[.string s] w fun e w' => e = .returned (.tuple #[.int .i64 0, .int .i64 1]) ∧ ∃ δ, w' = lat w δ := by
  have h1 : (1100 : Int) < (s.size : Int) := by omega
  go_enter Tryd.func43, Tryd.ntmps43
  go_wp2
  go_ret2
  exact ⟨rfl, lat_ex⟩
end Go.Proofs.YtjamemjmdlkpcaaDoor
