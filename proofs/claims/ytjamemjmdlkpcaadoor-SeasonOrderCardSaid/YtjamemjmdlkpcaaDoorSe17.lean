/- Season: the reference's AreTexts, WholeOf, Write and Saves. -/
import Derived.Test.YtjamemjmdlkpcaaDoorSe16
namespace Go.Proofs.YtjamemjmdlkpcaaDoor
open Go.RowKit
open Se

/-- The error of texts, of which there can be so many. -/
def textsErr (many : Nat) (ts : List Txt) : Int := if many < ts.length then 2 else if ts.all isText = true then 0 else 1
def smallT (ts : List Txt) : Prop := ∀ t ∈ ts, t.length ≤ 2000
theorem all_snoc {ts : List Txt} {k : Nat} (hlt : k < ts.length) (h : (ts.take k).all isText = true) (h2 : isText (nth ts k) = true) : (ts.take (k + 1)).all isText = true := by
  rw [take_snoc _ hlt, List.all_append, h]
  simp [h2]
theorem all_no {ts : List Txt} {k : Nat} (hlt : k < ts.length) (h2 : isText (nth ts k) = false) : ts.all isText = false := by
  rw [List.all_eq_false]
  exact ⟨_, nth_mem _ hlt, by simp [h2]⟩
theorem rAreTexts_c (A : Option Addr) (c : Nat) (ts : List Txt) (n : Int) (hn : textsErr 20 ts = n) (ln : Nat) (hl : ts.length = ln) (hs : smallT ts) (B : Nat) (w : World) (hS : Sl strE B w A c ts) [hB : Le B w] :
    Calls Tryd.prog 55 #[.slice A ln c] w fun e w' => e = .returned (.int .i64 n) ∧ w = w' := by
  subst hl
  have HS := Lib.hid hS
  have HZ := Lib.hid hs
  have hcl := hS.len
  unfold textsErr at hn
  clear hS hs
  by_cases h20 : 20 < ts.length
  · rw [if_pos h20] at hn
    subst hn
    have h20' : (20 : Int) < (ts.length : Int) := by omega
    go_enter Tryd.func55, Tryd.ntmps55
    go_wp2
    go_ret
    exact ⟨rfl, rfl⟩
  · rw [if_neg h20] at hn
    have HN := Lib.hid hn
    have h20' : (ts.length : Int) ≤ 20 := by omega
    clear hn
    go_enter Tryd.func55, Tryd.ntmps55
    go_wp2
    go_loop [3] (fun i => ∃ k : Nat, k ≤ ts.length ∧ i = .int .i64 k ∧ Hid ((ts.take k).all isText = true)) (fun i => ts.length - (intOf i).toNat)
    case atStart => exact ⟨0, Nat.zero_le _, rfl, rfl⟩
    case round =>
      obtain ⟨k, hk, rfl, HK⟩ := hrel
      by_cases hlt : k < ts.length
      · obtain ⟨b, o, rfl, hb, d0⟩ := HS.out.txt hlt
        have ib : Lt b w := ⟨Nat.lt_of_lt_of_le hb hB.out⟩
        have hki : (k : Int) < (ts.length : Int) := by omega
        have hk0 : ¬ (k : Int) < 0 := by omega
        have hz : (str (nth ts k)).size ≤ 140737488355328 := by
          rw [size_str]
          have := HZ.out _ (nth_mem _ hlt)
          omega
        rcases hq : isText (nth ts k) with _ | _
        · have HF : Hid (n = 1) := by
            have := HN.out
            rw [all_no hlt hq, if_neg Bool.false_ne_true] at this
            exact this.symm
          have HQ : Hid (isText (str (nth ts k)).data.toList = false) := Lib.hid (by rw [lst_str]; exact hq)
          clear hq
          go_wp2_with (go_at_call 26; refine (rIsText_c _ _ HQ.out hz _).mono ?_; rintro e w1 ⟨rfl, rfl⟩)
          go_ret
          exact ⟨ret_int HF.out.symm, rfl⟩
        · have HQ : Hid (isText (str (nth ts k)).data.toList = true) := Lib.hid (by rw [lst_str]; exact hq)
          have HK2 := Lib.hid (all_snoc hlt HK.out hq)
          clear hq
          go_wp2_with (go_at_call 26; refine (rIsText_c _ _ HQ.out hz _).mono ?_; rintro e w1 ⟨rfl, rfl⟩)
          go_round
          case rel => exact ⟨k + 1, hlt, by go_num, HK2⟩
          case measure => simp [intOf]; omega
      · obtain rfl : k = ts.length := by omega
        have HF : Hid (n = 0) := by
          have := HN.out
          have h2 := HK.out
          rw [List.take_length] at h2
          rw [if_pos h2] at this
          exact this.symm
        go_wp2
        go_ret
        exact ⟨ret_int HF.out.symm, rfl⟩
theorem whole_snoc {ts : List Txt} {k : Nat} (hlt : k < ts.length) : ((ts.take (k + 1)).map List.length).sum = ((ts.take k).map List.length).sum + (nth ts k).length := by
  rw [take_snoc _ hlt, List.map_append, List.sum_append]
  simp
theorem whole_le {ts : List Txt} (hs : smallT ts) (k : Nat) : ((ts.take k).map List.length).sum ≤ 2000 * k := by
  induction k with
  | zero => simp
  | succ k ih =>
    by_cases hlt : k < ts.length
    · rw [whole_snoc hlt]
      have := hs _ (nth_mem _ hlt)
      omega
    · rw [List.take_of_length_le (by omega)]
      rw [List.take_of_length_le (by omega)] at ih
      omega
theorem rWholeOf_c (A : Option Addr) (c : Nat) (ts : List Txt) (ln : Nat) (hl : ts.length = ln) (hs : smallT ts) (hm : ts.length ≤ 1000) (B : Nat) (w : World) (hS : Sl strE B w A c ts) [hB : Le B w] :
    Calls Tryd.prog 41 #[.slice A ln c] w fun e w' => e = .returned (.int .i64 (whole ts : Nat)) ∧ w = w' := by
  subst hl
  have HS := Lib.hid hS
  have HZ := Lib.hid hs
  have hcl := hS.len
  clear hS hs
  go_enter Tryd.func41, Tryd.ntmps41
  go_wp2
  go_loop [3, 4] (fun v i => ∃ k : Nat, k ≤ ts.length ∧ v = .int .i64 ((ts.length + ((ts.take k).map List.length).sum : Nat) : Int) ∧ i = .int .i64 k) (fun _ i => ts.length - (intOf i).toNat)
  case atStart => exact ⟨0, Nat.zero_le _, by simp, rfl⟩
  case round =>
    obtain ⟨k, hk, rfl, rfl⟩ := hrel
    by_cases hlt : k < ts.length
    · obtain ⟨b, o, rfl, hb, d0⟩ := HS.out.txt hlt
      have ib : Lt b w := ⟨Nat.lt_of_lt_of_le hb hB.out⟩
      have hki : (k : Int) < (ts.length : Int) := by omega
      have hk0 : ¬ (k : Int) < 0 := by omega
      have hz := HZ.out _ (nth_mem _ hlt)
      have hw := whole_le HZ.out k
      have HW := Lib.hid (whole_snoc hlt)
      obtain ⟨v, hv⟩ : ∃ v : Nat, v = ts.length + ((ts.take k).map List.length).sum := ⟨_, rfl⟩
      have hvl : v ≤ 1000 + 2000 * 1000 := by omega
      have HV := Lib.hid hv
      rw [← hv]
      clear hv hw
      go_wp2
      go_round
      case rel => exact ⟨k + 1, hlt, int_eq (by rw [HW.out, HV.out]; omega), by go_num⟩
      case measure => simp [intOf]; omega
    · obtain rfl : k = ts.length := by omega
      have HW : Hid (((ts.length + ((ts.take ts.length).map List.length).sum : Nat) : Int) = (whole ts : Nat)) := Lib.hid (by rw [List.take_length]; unfold whole; omega)
      rw [HW.out]
      go_wp2
      go_ret
      exact ⟨rfl, rfl⟩
/-- What Write returns. -/
def wroteV (ts : List Txt) : Value := if textsErr 20 ts = 0 then .tuple #[.string (str (file ts)), .int .i64 0] else .tuple #[.string ⟨#[]⟩, .int .i64 (textsErr 20 ts)]
theorem textsErr_0 {many : Nat} {ts : List Txt} (h : textsErr many ts = 0) : ts.length ≤ many ∧ allT ts := by
  unfold textsErr at h
  split at h
  · cases h
  · split at h
    · rename_i h1 h2
      exact ⟨by omega, fun t ht => (List.all_eq_true.1 h2) t ht⟩
    · cases h
theorem rWrite_ok (A : Option Addr) (c : Nat) (ts : List Txt) (hn : textsErr 20 ts = 0) (ln : Nat) (hl : ts.length = ln) (hs : smallT ts) (B : Nat) (w : World) (hS : Sl strE B w A c ts) [hB : Le B w] :
    Calls Tryd.prog 37 #[.slice A ln c] w fun e w' => e = .returned (.tuple #[.string (str (file ts)), .int .i64 0]) ∧ ∃ δ, w' = lat w δ := by
  have HS := Lib.hid hS
  have HZ := Lib.hid hs
  have HN := Lib.hid hn
  have HL := Lib.hid hl
  have HT := Lib.hid (textsErr_0 hn)
  have HF : Hid (file ts = sealed (bytesL (rows [] ts))) := Lib.hid rfl
  have HB : Hid ((str (bytesL (rows [] ts))).size ≤ 140737488355328) := Lib.hid (by
    rw [size_str]
    have := bytes_len (a := []) HT.out.2
    have := HT.out.1
    omega)
  rw [HF.out]
  clear hS hs hn hl
  go_enter Tryd.func37, Tryd.ntmps37
  go_wp2_with (first
    | (go_at_call 55; refine (rAreTexts_c A c ts 0 HN.out _ HL.out HZ.out B _ HS.out.up).mono ?_; rintro e w1 ⟨rfl, rfl⟩)
    | (go_at_call 61; refine (rRowsOf_c A c ts _ HL.out HT.out.2 HT.out.1 B _ HS.out.up).mono ?_; rintro e w1 ⟨rfl, δ1, rfl⟩)
    | (go_at_call 47; refine (rSealed_c _ _ (lst_str _) HB.out _).mono ?_; rintro e w1 ⟨rfl, δ2, rfl⟩))
  go_ret2
  exact ⟨rfl, lat_ex⟩
theorem rWrite_no (A : Option Addr) (c : Nat) (ts : List Txt) (n : Int) (hn : textsErr 20 ts = n) (h0 : n ≠ 0) (ln : Nat) (hl : ts.length = ln) (hs : smallT ts) (B : Nat) (w : World) (hS : Sl strE B w A c ts) [hB : Le B w] :
    Calls Tryd.prog 37 #[.slice A ln c] w fun e w' => e = .returned (.tuple #[.string ⟨#[]⟩, .int .i64 n]) ∧ ∃ δ, w' = lat w δ := by
  have HS := Lib.hid hS
  have HZ := Lib.hid hs
  have HN := Lib.hid hn
  have HL := Lib.hid hl
  have hd : (n != 0) = true := by simpa using h0
  clear hS hs hn hl
  go_enter Tryd.func37, Tryd.ntmps37
  go_wp2_with (go_at_call 55; refine (rAreTexts_c A c ts n HN.out _ HL.out HZ.out B _ HS.out.up).mono ?_; rintro e w1 ⟨rfl, rfl⟩)
  go_ret2
  exact ⟨rfl, lat_ex⟩
theorem rSaves_ok (A : Option Addr) (c : Nat) (ts : List Txt) (hn : textsErr 20 ts = 0) (ln : Nat) (hl : ts.length = ln) (hs : smallT ts) (B : Nat) (w : World) (hS : Sl strE B w A c ts) [hB : Le B w] :
    Calls Tryd.prog 39 #[.slice A ln c] w fun e w' => e = .returned (.tuple #[.int .i64 ((whole ts : Nat) - (file ts).length : Int), .int .i64 0]) ∧ ∃ δ, w' = lat w δ := by
  have hT := textsErr_0 hn
  have hw := whole_le hs ts.length
  rw [List.take_length] at hw
  have hw2 : whole ts ≤ 1000000 := by
    have := hT.1
    unfold whole; omega
  have hfl : (file ts).length ≤ 1100 := by
    have := bytes_len (a := []) hT.2
    have := hT.1
    rw [file_len]; omega
  have hM : ts.length ≤ 1000 := by have := hT.1; omega
  have HS := Lib.hid hS
  have HZ := Lib.hid hs
  have HN := Lib.hid hn
  have HL := Lib.hid hl
  have HM := Lib.hid hM
  clear hS hs hn hl hw hT hM
  go_enter Tryd.func39, Tryd.ntmps39
  go_wp2_with (first
    | (go_at_call 37; refine (rWrite_ok A c ts HN.out _ HL.out HZ.out B _ HS.out.up).mono ?_; rintro e w1 ⟨rfl, δ1, rfl⟩)
    | (go_at_call 41; refine (rWholeOf_c A c ts _ HL.out HZ.out HM.out B _ HS.out.up).mono ?_; rintro e w1 ⟨rfl, rfl⟩))
  go_ret2
  exact ⟨rfl, lat_ex⟩
theorem rSaves_no (A : Option Addr) (c : Nat) (ts : List Txt) (n : Int) (hn : textsErr 20 ts = n) (h0 : n ≠ 0) (ln : Nat) (hl : ts.length = ln) (hs : smallT ts) (B : Nat) (w : World) (hS : Sl strE B w A c ts) [hB : Le B w] :
    Calls Tryd.prog 39 #[.slice A ln c] w fun e w' => e = .returned (.tuple #[.int .i64 0, .int .i64 n]) ∧ ∃ δ, w' = lat w δ := by
  have HS := Lib.hid hS
  have HZ := Lib.hid hs
  have HN := Lib.hid hn
  have HL := Lib.hid hl
  have H0 := Lib.hid h0
  have hd : (n != 0) = true := by simpa using h0
  clear hS hs hn hl h0
  go_enter Tryd.func39, Tryd.ntmps39
  go_wp2_with (go_at_call 37; refine (rWrite_no A c ts n HN.out H0.out _ HL.out HZ.out B _ HS.out.up).mono ?_; rintro e w1 ⟨rfl, δ1, rfl⟩)
  go_ret2
  exact ⟨rfl, lat_ex⟩
end Go.Proofs.YtjamemjmdlkpcaaDoor
