/- Layer 2: the walks of with, step and last of the program. -/
import Derived.Test.YtgpcaaknpfopgaaDoorAn5
import Derived.Test.YtgpcaaknpfopgaaDoorAnPlain2
namespace Go.Proofs.YtgpcaaknpfopgaaDoor
open Go.RowKit
open An

theorem with_c (s i : Nat) (w : World) (hs : s < 18446744073709551616) (hi : i < 6) :
    Calls Tryd.prog 105 #[.int .u64 s, .int .i64 i] w fun e w' => e = .returned (.int .u64 ((s ||| 2 ^ i : Nat) : Int)) ∧ w = w' := by
  have key : ∀ (j : Nat) (p : Nat), p < 18446744073709551616 → p = 2 ^ j → bits .or .u64 (s : Int) (p : Int) = ((s ||| 2 ^ j : Nat) : Int) := by
    intro j p hp he
    rw [u64_or_nat s p hs hp, he]
  have K0 := Lib.hid (key 0 1 (by omega) rfl)
  have K1 := Lib.hid (key 1 2 (by omega) rfl)
  have K2 := Lib.hid (key 2 4 (by omega) rfl)
  have K3 := Lib.hid (key 3 8 (by omega) rfl)
  have K4 := Lib.hid (key 4 16 (by omega) rfl)
  have K5 := Lib.hid (key 5 32 (by omega) rfl)
  clear key
  match i, hi with
  | 0, _ => 
    go_enter Tryd.func105, Tryd.ntmps105
    go_wp2
    go_ret
    exact ⟨ret_int K0.out, rfl⟩
  | 1, _ => 
    go_enter Tryd.func105, Tryd.ntmps105
    go_wp2
    go_ret
    exact ⟨ret_int K1.out, rfl⟩
  | 2, _ => 
    go_enter Tryd.func105, Tryd.ntmps105
    go_wp2
    go_ret
    exact ⟨ret_int K2.out, rfl⟩
  | 3, _ => 
    go_enter Tryd.func105, Tryd.ntmps105
    go_wp2
    go_ret
    exact ⟨ret_int K3.out, rfl⟩
  | 4, _ => 
    go_enter Tryd.func105, Tryd.ntmps105
    go_wp2
    go_ret
    exact ⟨ret_int K4.out, rfl⟩
  | 5, _ => 
    go_enter Tryd.func105, Tryd.ntmps105
    go_wp2
    go_ret
    exact ⟨ret_int K5.out, rfl⟩

theorem step_c (r : NetR) (n : Net) (rt : TruR) (t : Tru) (dr : Nat) (B : Nat) (w : World) [hB : Le B w] (h : NetIs B w r n) (h' : TruIs B w rt t) (ht : okTru n t) (hs : dr < 64) :
    Calls Tryd.prog 80 #[rowV r n rt t, .int .u64 dr] w fun e w' => e = .returned (.int .u64 (stepM n t dr)) ∧ ∃ δ, w' = lat w δ := by
  have hv := valid_iff.1 ht.1
  have h6 := hv.2.2.2.1
  clear hv
  go_enter Tryd.func80, Tryd.ntmps80
  go_wp2_with (fail)
  go_loopw [5, 12] (fun o i wr => ∃ (k : Nat) (δ : World), k ≤ n.ancs.length ∧ i = .int .i64 k ∧ o = .int .u64 (stepTo n t dr k) ∧ wr = lat (w.alloc (.cells #[.int .i64 n.wind.lo, .int .i64 n.wind.hi, .int .i64 n.cur.lo, .int .i64 n.cur.hi, .slice r.gA n.grips.length r.gc, .slice r.aA n.ancs.length r.ac, .slice r.wA n.wals.length r.wc, .int .i64 t.wind, .int .i64 t.cur, .slice rt.tA t.grips.length rt.tc] 87)) δ) (fun _ i _ => n.ancs.length - (intOf i).toNat)
  case atStart => exact ⟨0, _, Nat.zero_le _, rfl, rfl, (lat_refl _).symm⟩
  case round =>
    obtain ⟨k, δ, hk, rfl, rfl, rfl⟩ := hrel
    by_cases hlt : k < n.ancs.length
    · have hlo := stepTo_lt n t dr k hs (by omega)
      by_cases hb : dr.testBit k = true
      all_goals try rw [Bool.not_eq_true] at hb
      · have HN := Lib.hid (show stepTo n t dr (k + 1) = stepTo n t dr k by simp [stepTo, hb])
        go_wp2_with (go_at_call 77; refine (has_c _ _ _ (by omega) (by omega)).mono ?_; rintro e w1 ⟨rfl, rfl⟩)
        go_roundw
        case rel => exact ⟨k + 1, _, by omega, by go_num, by rw [HN.out], rfl⟩
        case measure => simp [intOf]; omega
      · by_cases hsp : spare n t k (fun i => dr.testBit i) < 0
        all_goals
          have hsp' := hsp
        · have HN := Lib.hid (show stepTo n t dr (k + 1) = stepTo n t dr k ||| 2 ^ k by simp [stepTo, hb, hsp])
          clear hsp'
          go_wp2_with (first
            | (go_at_call 77; refine (has_c _ _ _ (by omega) (by omega)).mono ?_; rintro e w1 ⟨rfl, rfl⟩)
            | (go_at_call 78; refine (spare_c r n rt t k dr B _ h.up h'.up ht hlt (by omega)).mono ?_; rintro e w1 ⟨rfl, δ1, rfl⟩)
            | (go_at_call 105; refine (with_c _ _ _ (by omega) (by omega)).mono ?_; rintro e w1 ⟨rfl, rfl⟩))
          go_roundw
          case rel => exact ⟨k + 1, _, by omega, by go_num, by rw [HN.out], lat_lat _ _ _⟩
          case measure => simp [intOf]; omega
        · have HN := Lib.hid (show stepTo n t dr (k + 1) = stepTo n t dr k by simp [stepTo, hb, hsp])
          clear hsp'
          go_wp2_with (first
            | (go_at_call 77; refine (has_c _ _ _ (by omega) (by omega)).mono ?_; rintro e w1 ⟨rfl, rfl⟩)
            | (go_at_call 78; refine (spare_c r n rt t k dr B _ h.up h'.up ht hlt (by omega)).mono ?_; rintro e w1 ⟨rfl, δ1, rfl⟩))
          go_roundw
          case rel => exact ⟨k + 1, _, by omega, by go_num, by rw [HN.out], lat_lat _ _ _⟩
          case measure => simp [intOf]; omega
    · obtain rfl : k = n.ancs.length := by omega
      go_wp2
      go_ret
      exact ⟨rfl, lat_ex⟩

theorem last_c (r : NetR) (n : Net) (rt : TruR) (t : Tru) (m0 : Nat) (B : Nat) (w : World) [hB : Le B w] (h : NetIs B w r n) (h' : TruIs B w rt t) (ht : okTru n t) (hs : m0 < 64) :
    Calls Tryd.prog 76 #[rowV r n rt t, .int .u64 m0] w fun e w' => ∃ m : Nat, e = .returned (.int .u64 m) ∧ m < 64 ∧ (∀ i, m.testBit i = true ↔ lastP n t (fun i => m0.testBit i) i) ∧ ∃ δ, w' = lat w δ := by
  have h6 := (valid_iff.1 ht.1).2.2.2.1
  go_enter Tryd.func76, Tryd.ntmps76
  go_wp2_with (fail)
  go_loopw [1] (fun d wr => ∃ (m : Nat) (δ : World), m < 64 ∧ d = .int .u64 m ∧ Hid (OnWay n t m0 m) ∧ wr = lat (w.alloc (.cells #[.int .i64 n.wind.lo, .int .i64 n.wind.hi, .int .i64 n.cur.lo, .int .i64 n.cur.hi, .slice r.gA n.grips.length r.gc, .slice r.aA n.ancs.length r.ac, .slice r.wA n.wals.length r.wc, .int .i64 t.wind, .int .i64 t.cur, .slice rt.tA t.grips.length rt.tc] 87)) δ) (fun d _ => 64 - (intOf d).toNat)
  case atStart => exact ⟨m0, _, hs, rfl, OnWay.start n t m0, (lat_refl _).symm⟩
  case round =>
    obtain ⟨m, δ, hm, rfl, hw, rfl⟩ := hrel
    have hlt := stepTo_lt n t m n.ancs.length hm h6
    have hge := stepM_ge n t m
    by_cases hf : stepM n t m = m
    · have HL := Lib.hid (fun i => hw.out.last hf i)
      clear hlt hge
      go_wp2_with (go_at_call 80; refine (step_c r n rt t m B _ h.up h'.up ht hm).mono ?_; rintro e w1 ⟨rfl, δ1, rfl⟩)
      go_ret
      exact ⟨m, rfl, hm, HL.out, lat_ex⟩
    · have hne : ((stepM n t m : Int) == (m : Int)) = false := by simp; omega
      have HS := Lib.hid (hw.out.step ht)
      have hlt' : stepM n t m < 64 := hlt
      clear hf hlt
      go_wp2_with (go_at_call 80; refine (step_c r n rt t m B _ h.up h'.up ht hm).mono ?_; rintro e w1 ⟨rfl, δ1, rfl⟩)
      go_roundw
      case rel => exact ⟨stepM n t m, _, hlt', rfl, HS.out, lat_lat _ _ _⟩
      case measure =>
        have : stepM n t m ≠ m := by intro he; rw [he] at hne; simp at hne
        simp [intOf]; omega

end Go.Proofs.YtgpcaaknpfopgaaDoor
