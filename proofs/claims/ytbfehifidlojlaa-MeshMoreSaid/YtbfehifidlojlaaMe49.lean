/- Layer 4: the reference's Rope. -/
import Derived.Test.YtbfehifidlojlaaMe48
namespace Go.Proofs.Ytbfehifidlojlaa
open Go.RowKit
open Me

theorem rRope_no (r : NetR) (n : Net) (hv : valid n = false) (B : Nat) (w : World) (hN : NetIs B w r n) [hB : Le B w] :
    Calls Try.prog 57 #[netV r n] w fun e w' => e = .returned (.tuple #[.int .i64 0, .int .i64 40]) ∧ ∃ δ, w' = lat w δ := by
  have HN := Lib.hid hN
  have HV := Lib.hid hv
  clear hN hv
  go_enter Try.func57, Try.ntmps57
  go_wp2_with (go_at_call 33; refine (rCheck_no r n HV.out B _ HN.out.up).mono ?_; rintro e w1 ⟨rfl, δ, rfl⟩)
  go_ret2
  exact ⟨rfl, lat_ex⟩
theorem rRope_none (r : NetR) (n : Net) (hv : valid n = true) (h0 : n.ps.length = 0) (B : Nat) (w : World) (hN : NetIs B w r n) [hB : Le B w] :
    Calls Try.prog 57 #[netV r n] w fun e w' => e = .returned (.tuple #[.int .i64 0, .int .i64 3]) ∧ ∃ δ, w' = lat w δ := by
  have HN := Lib.hid hN
  have HV := Lib.hid hv
  have hE : ((n.ps.length : Int) == 0) = true := by simp [h0]
  clear hN hv h0
  go_enter Try.func57, Try.ntmps57
  go_wp2_with (go_at_call 33; refine (rCheck_yes r n HV.out B _ HN.out.up).mono ?_; rintro e w1 ⟨rfl, δ, rfl⟩)
  go_ret2
  exact ⟨rfl, lat_ex⟩
theorem leastOf_loose (r : NetR) (n : Net) (i q : Nat) (hq : n.ps.length = q + 1) (hi : i ≤ q) (hv : valid n = true) (B : Nat) (w : World) (hN : NetIs B w r (looseN n i)) [hB : Le B w] :
    Calls Try.prog 83 #[.agg #[.int .i64 n.m, .slice r.hA n.hs.length r.hc, .slice r.pA q r.pc]] w fun e w' => e = .returned (.int .i64 (leastN (looseN n i))) ∧ ∃ δ, w' = lat w δ := by
  have h := rLeastOf_c r (looseN n i) (loose_valid hv i).1 B w hN
  rw [show netV r (looseN n i) = Value.agg #[.int .i64 n.m, .slice r.hA n.hs.length r.hc, .slice r.pA q r.pc] by simp only [netV, loose_len hq hi]; rfl] at h
  exact h

set_option maxRecDepth 100000 in
set_option maxHeartbeats 8000000 in
theorem rRope_yes (r : NetR) (n : Net) (hv : valid n = true) (h0 : 0 < n.ps.length) (B : Nat) (w : World) (hN : NetIs B w r n) [hB : Le B w] :
    Calls Try.prog 57 #[netV r n] w fun e w' => e = .returned (.tuple #[.int .i64 (ropeN n : Nat), .int .i64 0]) ∧ ∃ δ, w' = lat w δ := by
  have HN := Lib.hid hN
  have HV := Lib.hid hv
  have hE : ((n.ps.length : Int) == 0) = false := by simp; intro e; rw [e] at h0; simp at h0
  have h6 := (ok_of hv).2.1
  have h8 := (ok_of hv).2.2.1
  obtain ⟨q, hq⟩ : ∃ q, n.ps.length = q + 1 := ⟨n.ps.length - 1, by omega⟩
  have HQ := Lib.hid hq
  have HR := Lib.hid (show ropeN n = ropeK n n.ps.length from rfl)
  clear hN hv hq
  go_enter Try.func57, Try.ntmps57
  go_upto_region 7 with (first
    | (go_at_call 33; refine (rCheck_yes r n HV.out B _ HN.out.up).mono ?_; rintro e w1 ⟨rfl, δ, rfl⟩)
    | (go_at_call 55; refine (rLoose_c r n 0 q HQ.out (by omega) h6 h8 B _ HN.out.up).mono ?_; rintro e w1 ⟨r1, δ1, rfl, rfl, hL⟩)
    | (go_at_call 83; refine (leastOf_loose r1 n 0 q HQ.out (by omega) HV.out _ _ hL.out).mono ?_; rintro e w1 ⟨rfl, δ2, rfl⟩))
  refine wp_name fun W1 hW1 => ?_
  have iw1 : Le B W1 := by rw [hW1.out]; infer_instance
  have iw2 : Grew B w W1 := by rw [hW1.out]; infer_instance
  have iw3 : Le w.heap.size W1 := by rw [hW1.out]; infer_instance
  have iw4 : Grew w.heap.size w W1 := by rw [hW1.out]; infer_instance
  have iw5 : Lt (w.heap.size) W1 := by rw [hW1.out]; infer_instance
  have cw6 : W1.cell? ⟨w.heap.size, 0, none⟩ = some (.int .i64 n.m) := by rw [hW1.out]; go_simp
  have cw7 : W1.cell? ⟨w.heap.size, 1, none⟩ = some (.slice r.hA n.hs.length r.hc) := by rw [hW1.out]; go_simp
  have cw8 : W1.cell? ⟨w.heap.size, 2, none⟩ = some (.slice r.pA n.ps.length r.pc) := by rw [hW1.out]; go_simp
  have N1 := Lib.hid (HN.out.up : NetIs B W1 r n)
  clear hW1 hL
  go_wp2_with (fail)
  go_loopg [5, 6, 7] n.ps.length (fun g s5 s6 s7 wr => ∃ (k : Nat) (δ : World), k ≤ n.ps.length ∧ g = n.ps.length - k ∧ s7 = .int .i64 k ∧ s5 = .int .i64 (ropeK n k : Nat) ∧ s6 = .int .i64 (leastN (looseN n (ropeK n k))) ∧ wr = lat W1 δ)
  case atStart => exact ⟨0, W1, Nat.zero_le _, rfl, rfl, rfl, rfl, (lat_refl W1).symm⟩
  case round =>
    obtain ⟨k, δ, hk, rfl, rfl, rfl, rfl, rfl⟩ := hrel
    have hkr : ropeK n k ≤ 8 := by have := (ropeK_spec n k).1; omega
    by_cases hlt : k < n.ps.length
    · have hki : (k : Int) < (n.ps.length : Int) := by omega
      have HLT := Lib.hid hlt
      obtain ⟨f, hf⟩ : ∃ f, leastN (looseN n k) = f := ⟨_, rfl⟩
      obtain ⟨v, hv⟩ : ∃ v, leastN (looseN n (ropeK n k)) = v := ⟨_, rfl⟩
      have HF := Lib.hid hf
      have HVV := Lib.hid hv
      have hrk : ropeK n (k + 1) = if f < v then k else ropeK n k := by rw [← hf, ← hv]; rfl
      have HRK := Lib.hid hrk
      rw [hv]
      clear hlt hk hf hv hrk
      by_cases hc : f < v
      · have c1 : decide (f < v) = true := decide_eq_true hc
        have HE := Lib.hid (show ropeK n (k + 1) = k by rw [HRK.out, if_pos hc])
        clear hc
        go_wp2_with (first
          | (go_at_call 55; refine (rLoose_c r n k q HQ.out (by have := HQ.out; have := HLT.out; omega) h6 h8 B _ N1.out.up).mono ?_; rintro e w1 ⟨r1, δ1, rfl, rfl, hL⟩)
          | (go_at_call 83; refine (leastOf_loose r1 n k q HQ.out (by have := HQ.out; have := HLT.out; omega) HV.out _ _ hL.out).mono ?_; rw [HF.out]; rintro e w1 ⟨rfl, δ2, rfl⟩))
        go_roundg (n.ps.length - (k + 1))
        case measure => have := HLT.out; omega
        case rel => exact ⟨k + 1, _, HLT.out, rfl, by go_num, by rw [HE.out], by rw [HE.out, HF.out], lat_def⟩
      · have c1 : decide (f < v) = false := decide_eq_false hc
        have HE := Lib.hid (show ropeK n (k + 1) = ropeK n k by rw [HRK.out, if_neg hc])
        clear hc
        go_wp2_with (first
          | (go_at_call 55; refine (rLoose_c r n k q HQ.out (by have := HQ.out; have := HLT.out; omega) h6 h8 B _ N1.out.up).mono ?_; rintro e w1 ⟨r1, δ1, rfl, rfl, hL⟩)
          | (go_at_call 83; refine (leastOf_loose r1 n k q HQ.out (by have := HQ.out; have := HLT.out; omega) HV.out _ _ hL.out).mono ?_; rw [HF.out]; rintro e w1 ⟨rfl, δ2, rfl⟩))
        go_roundg (n.ps.length - (k + 1))
        case measure => have := HLT.out; omega
        case rel => exact ⟨k + 1, _, HLT.out, rfl, by go_num, by rw [HE.out], by rw [HE.out, HVV.out], lat_def⟩
    · obtain rfl : k = n.ps.length := by omega
      go_wp2_with (fail)
      go_ret2
      rw [HR.out]
      exact ⟨rfl, lat_ex⟩

end Go.Proofs.Ytbfehifidlojlaa
