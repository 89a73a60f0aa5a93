/- Layer 2: the walks of windOf, Wind and Storm of the reference. -/
import Derived.Test.YtgpcaaknpfopgaaDoorAn17
namespace Go.Proofs.YtgpcaaknpfopgaaDoor
open Go.RowKit
open An

/-- Some truth of the net in this wind is not calm; no truth is. -/
def hitWR (n : Net) (x : Nat) : Bool := decide (quietN (inW n x) < (truthsV (inW n x)).length)
def hitSR (n : Net) (x : Nat) : Bool := decide (quietN (inW n x) = 0)

set_option maxRecDepth 100000 in
set_option maxHeartbeats 4000000 in
theorem windOf_c (r : NetR) (n : Net) (B : Nat) (w : World) [hB : Le B w] (h : NetIs B w r n) (hv : valid n = true) :
    Calls Tryd.prog 67 #[netV r n] w fun e w' => e = .returned (.int .i64 (firstHit (hitWR n) 21 0)) ∧ ∃ δ, w' = lat w δ := by
  have hq1 : n.grips.length ≤ 1000 := by have := (valid_iff.1 hv).2.2.1; omega
  have hq2 : n.ancs.length ≤ 1000 := by have := (valid_iff.1 hv).2.2.2.1; omega
  have hq3 : n.wals.length ≤ 1000 := by have := (valid_iff.1 hv).2.2.2.2.1; omega
  have HV := Lib.hid hv
  have H := Lib.hid h
  clear hv h
  go_enter Tryd.func67, Tryd.ntmps67
  go_wp2_with (fail)
  refine wp_name fun W1 hW1 => ?_
  have iw1 : Le B W1 := by rw [hW1.out]; infer_instance
  have iw2 : Grew B w W1 := by rw [hW1.out]; infer_instance
  have iw3 : Le w.heap.size W1 := by rw [hW1.out]; infer_instance
  have iw4 : Grew w.heap.size w W1 := by rw [hW1.out]; infer_instance
  have iw5 : Lt (w.heap.size) W1 := by rw [hW1.out]; infer_instance
  have cw6 : W1.cell? ⟨w.heap.size, 0, none⟩ = some (.int .i64 n.wind.lo) := by rw [hW1.out]; go_simp
  have cw7 : W1.cell? ⟨w.heap.size, 1, none⟩ = some (.int .i64 n.wind.hi) := by rw [hW1.out]; go_simp
  have cw8 : W1.cell? ⟨w.heap.size, 2, none⟩ = some (.int .i64 n.cur.lo) := by rw [hW1.out]; go_simp
  have cw9 : W1.cell? ⟨w.heap.size, 3, none⟩ = some (.int .i64 n.cur.hi) := by rw [hW1.out]; go_simp
  have cw10 : W1.cell? ⟨w.heap.size, 4, none⟩ = some (.slice r.gA n.grips.length r.gc) := by rw [hW1.out]; go_simp
  have cw11 : W1.cell? ⟨w.heap.size, 5, none⟩ = some (.slice r.aA n.ancs.length r.ac) := by rw [hW1.out]; go_simp
  have cw12 : W1.cell? ⟨w.heap.size, 6, none⟩ = some (.slice r.wA n.wals.length r.wc) := by rw [hW1.out]; go_simp
  go_loopw [3] (fun i wr => ∃ (k : Nat) (δ : World), k ≤ 21 ∧ i = .int .i64 k ∧ Hid (∀ j, j < k → hitWR n j = false) ∧ wr = lat W1 δ) (fun i _ => 21 - (intOf i).toNat)
  case atStart => exact ⟨0, W1, by omega, rfl, fun j hj => by omega, (lat_refl W1).symm⟩
  case round =>
    obtain ⟨k, δ, hk, rfl, hn, rfl⟩ := hrel
    by_cases hlt : k < 21
    · have hvk := Lib.hid (valid_inW HV.out (x := k) (by omega))
      have hki : (k : Int) ≤ 20 := by omega
      by_cases hh : quietN (inW n k) < (truthsV (inW n k)).length
      all_goals
        have hh' := Lib.hid hh
      · have hlt' : (quietN (inW n k) : Int) < ((truthsV (inW n k)).length : Int) := by omega
        have HF := Lib.hid (firstHit_at (hitWR n) hlt hn.out (by simp [hitWR, hh]))
        clear hh
        go_wp2_with (first
          | (go_at_call 70; refine (inWind_c r n k B _ H.out.up hq1 hq2 hq3).mono ?_; rintro e w1 ⟨r', δ', rfl, rfl, ho⟩)
          | (go_at_call 69; refine (quiet_c r' (inW n k) _ _ ho.is hvk.out).mono ?_; rintro e w1 ⟨rfl, δ'', rfl⟩))
        go_ret
        exact ⟨ret_int (by rw [HF.out]), lat_ex⟩
      · have hlt' : ¬ (quietN (inW n k) : Int) < ((truthsV (inW n k)).length : Int) := by omega
        clear hh
        go_wp2_with (first
          | (go_at_call 70; refine (inWind_c r n k B _ H.out.up hq1 hq2 hq3).mono ?_; rintro e w1 ⟨r', δ', rfl, rfl, ho⟩)
          | (go_at_call 69; refine (quiet_c r' (inW n k) _ _ ho.is hvk.out).mono ?_; rintro e w1 ⟨rfl, δ'', rfl⟩))
        go_roundw
        case rel =>
          refine ⟨k + 1, _, by omega, by go_num, ?_, lat_def⟩
          intro j hj
          by_cases hjk : j = k
          · subst hjk; simp only [hitWR, decide_eq_false_iff_not]; exact hh'.out
          · exact hn.out j (by omega)
        case measure => simp [intOf]; omega
    · obtain rfl : k = 21 := by omega
      have HF := Lib.hid (firstHit_none (hitWR n) hn.out)
      go_wp2_with (fail)
      go_ret
      exact ⟨ret_int (by rw [HF.out]), lat_ex⟩

theorem firstHit_le (f : Nat → Bool) (m : Nat) : firstHit f m 0 ≤ m := by
  have := (firstHit_spec f m 0).2.1; omega

theorem rWind_c (r : NetR) (n : Net) (B : Nat) (w : World) [hB : Le B w] (h : NetIs B w r n) :
    Calls Tryd.prog 19 #[netV r n] w fun e w' => e = .returned (.tuple #[.int .i64 (windV (valid n) (firstHit (hitWR n) 21 0)), .int .i64 (windE (valid n) (firstHit (hitWR n) 21 0))]) ∧ ∃ δ, w' = lat w δ := by
  by_cases hv : valid n = true
  all_goals try rw [Bool.not_eq_true] at hv
  all_goals
    have HV := Lib.hid hv
    rw [hv]
    clear hv
  · have hle : firstHit (hitWR n) 21 0 ≤ 21 := firstHit_le (hitWR n) 21
    have hX : ∃ X, X = firstHit (hitWR n) 21 0 := ⟨_, rfl⟩
    obtain ⟨X, hX⟩ := hX
    rw [← hX] at hle ⊢
    have HX := Lib.hid hX
    clear hX
    by_cases hx : X = 21
    · subst hx
      go_enter Tryd.func19, Tryd.ntmps19
      go_wp2_with (first
        | (go_at_call 39; refine (rCheck_c r n B _ h.up).mono ?_; rw [HV.out]; rintro e w1 ⟨rfl, δ, rfl⟩)
        | (go_at_call 67; refine (windOf_c r n B _ h.up HV.out).mono ?_; rw [← HX.out]; rintro e w1 ⟨rfl, δ, rfl⟩))
      go_ret2
      exact ⟨rfl, lat_ex⟩
    · have hne : ¬ (20 : Int) < (X : Int) := by omega
      have HN := Lib.hid hx
      clear hx
      go_enter Tryd.func19, Tryd.ntmps19
      go_wp2_with (first
        | (go_at_call 39; refine (rCheck_c r n B _ h.up).mono ?_; rw [HV.out]; rintro e w1 ⟨rfl, δ, rfl⟩)
        | (go_at_call 67; refine (windOf_c r n B _ h.up HV.out).mono ?_; rw [← HX.out]; rintro e w1 ⟨rfl, δ, rfl⟩))
      go_ret2
      exact ⟨ret2 (int_eq (by simp [windV, HN.out])) (int_eq (by simp [windE, HN.out])), lat_ex⟩
  · go_enter Tryd.func19, Tryd.ntmps19
    go_wp2_with (go_at_call 39; refine (rCheck_c r n B _ h.up).mono ?_; rw [HV.out]; rintro e w1 ⟨rfl, δ, rfl⟩)
    go_ret2
    exact ⟨rfl, lat_ex⟩

set_option maxRecDepth 100000 in
set_option maxHeartbeats 4000000 in
theorem rStorm_c (r : NetR) (n : Net) (B : Nat) (w : World) [hB : Le B w] (h : NetIs B w r n) :
    Calls Tryd.prog 21 #[netV r n] w fun e w' => e = .returned (.tuple #[.int .i64 (windV (valid n) (firstHit (hitSR n) 21 0)), .int .i64 (windE (valid n) (firstHit (hitSR n) 21 0))]) ∧ ∃ δ, w' = lat w δ := by
  by_cases hv : valid n = true
  all_goals try rw [Bool.not_eq_true] at hv
  · have hq1 : n.grips.length ≤ 1000 := by have := (valid_iff.1 hv).2.2.1; omega
    have hq2 : n.ancs.length ≤ 1000 := by have := (valid_iff.1 hv).2.2.2.1; omega
    have hq3 : n.wals.length ≤ 1000 := by have := (valid_iff.1 hv).2.2.2.2.1; omega
    have HV := Lib.hid hv
    have H := Lib.hid h
    rw [hv]
    clear hv h
    go_enter Tryd.func21, Tryd.ntmps21
    go_upto_region 4 with (go_at_call 39; refine (rCheck_c r n B _ H.out.up).mono ?_; rw [HV.out]; rintro e w1 ⟨rfl, δ, rfl⟩)
    refine wp_name fun W1 hW1 => ?_
    have iw1 : Le B W1 := by rw [hW1.out]; infer_instance
    have iw2 : Grew B w W1 := by rw [hW1.out]; infer_instance
    have iw3 : Le w.heap.size W1 := by rw [hW1.out]; infer_instance
    have iw4 : Grew w.heap.size w W1 := by rw [hW1.out]; infer_instance
    have iw5 : Lt (w.heap.size) W1 := by rw [hW1.out]; infer_instance
    have cw6 : W1.cell? ⟨w.heap.size, 0, none⟩ = some (.int .i64 n.wind.lo) := by rw [hW1.out]; go_simp
    have cw7 : W1.cell? ⟨w.heap.size, 1, none⟩ = some (.int .i64 n.wind.hi) := by rw [hW1.out]; go_simp
    have cw8 : W1.cell? ⟨w.heap.size, 2, none⟩ = some (.int .i64 n.cur.lo) := by rw [hW1.out]; go_simp
    have cw9 : W1.cell? ⟨w.heap.size, 3, none⟩ = some (.int .i64 n.cur.hi) := by rw [hW1.out]; go_simp
    have cw10 : W1.cell? ⟨w.heap.size, 4, none⟩ = some (.slice r.gA n.grips.length r.gc) := by rw [hW1.out]; go_simp
    have cw11 : W1.cell? ⟨w.heap.size, 5, none⟩ = some (.slice r.aA n.ancs.length r.ac) := by rw [hW1.out]; go_simp
    have cw12 : W1.cell? ⟨w.heap.size, 6, none⟩ = some (.slice r.wA n.wals.length r.wc) := by rw [hW1.out]; go_simp
    go_wp2_with (fail)
    go_loopw [5] (fun i wr => ∃ (k : Nat) (δ : World), k ≤ 21 ∧ i = .int .i64 k ∧ Hid (∀ j, j < k → hitSR n j = false) ∧ wr = lat W1 δ) (fun i _ => 21 - (intOf i).toNat)
    case atStart => exact ⟨0, W1, by omega, rfl, fun j hj => by omega, (lat_refl W1).symm⟩
    case round =>
      obtain ⟨k, δ, hk, rfl, hn, rfl⟩ := hrel
      by_cases hlt : k < 21
      · have hvk := Lib.hid (valid_inW HV.out (x := k) (by omega))
        have hki : (k : Int) ≤ 20 := by omega
        by_cases hh : quietN (inW n k) = 0
        all_goals
          have hh' := Lib.hid hh
        · have hz : (quietN (inW n k) : Int) = 0 := by omega
          have HF := Lib.hid (firstHit_at (hitSR n) hlt hn.out (by simp [hitSR, hh]))
          have hk21 := Lib.hid (show k ≠ 21 by omega)
          clear hh
          go_wp2_with (first
            | (go_at_call 70; refine (inWind_c r n k B _ H.out.up hq1 hq2 hq3).mono ?_; rintro e w1 ⟨r', δ', rfl, rfl, ho⟩)
            | (go_at_call 69; refine (quiet_c r' (inW n k) _ _ ho.is hvk.out).mono ?_; rintro e w1 ⟨rfl, δ'', rfl⟩))
          go_ret2
          exact ⟨ret2 (int_eq (by rw [HF.out]; simp [windV, hk21.out])) (int_eq (by rw [HF.out]; simp [windE, hk21.out])), lat_ex⟩
        · have hne : ((quietN (inW n k) : Int) == 0) = false := by simp; omega
          clear hh
          go_wp2_with (first
            | (go_at_call 70; refine (inWind_c r n k B _ H.out.up hq1 hq2 hq3).mono ?_; rintro e w1 ⟨r', δ', rfl, rfl, ho⟩)
            | (go_at_call 69; refine (quiet_c r' (inW n k) _ _ ho.is hvk.out).mono ?_; rintro e w1 ⟨rfl, δ'', rfl⟩))
          go_roundw
          case rel =>
            (repeat apply Exists.intro)
            refine ⟨?_, rfl⟩
            refine ⟨k + 1, _, by omega, by go_num, ?_, lat_def⟩
            intro j hj
            by_cases hjk : j = k
            · subst hjk; simp only [hitSR, decide_eq_false_iff_not]; exact hh'.out
            · exact hn.out j (by omega)
          case measure => simp [intOf]; omega
      · obtain rfl : k = 21 := by omega
        have HF := Lib.hid (firstHit_none (hitSR n) hn.out)
        go_wp2_with (fail)
        go_ret2
        exact ⟨ret2 (int_eq (by rw [HF.out]; rfl)) (int_eq (by rw [HF.out]; rfl)), lat_ex⟩
  · have HV := Lib.hid hv
    rw [hv]
    clear hv
    go_enter Tryd.func21, Tryd.ntmps21
    go_wp2_with (go_at_call 39; refine (rCheck_c r n B _ h.up).mono ?_; rw [HV.out]; rintro e w1 ⟨rfl, δ, rfl⟩)
    go_ret2
    exact ⟨rfl, lat_ex⟩

end Go.Proofs.YtgpcaaknpfopgaaDoor
