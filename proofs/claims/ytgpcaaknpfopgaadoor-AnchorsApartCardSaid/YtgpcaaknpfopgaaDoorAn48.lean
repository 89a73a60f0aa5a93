/- Layer 2: what Far, ready and given say, to the letter. -/
import Derived.Test.YtgpcaaknpfopgaaDoorAn26
namespace Go.Proofs.YtgpcaaknpfopgaaDoor
open Go.RowKit
open An

namespace An
/-- How many currents and grips the first k bottoms allow. -/
def manyTo (n : Net) : Nat → Int
  | 0 => n.cur.hi - n.cur.lo + 1
  | k + 1 => manyTo n k * ((nth n.grips k).hi - (nth n.grips k).lo + 1)
def farV (n : Net) : Bool := hugeV n ⟨0, 0, []⟩ || (valid n && (decide (24 < manyTo n n.grips.length) || decide (100 < manyTo n n.grips.length * (n.wind.hi - n.wind.lo + 1))))
end An

set_option maxRecDepth 100000 in
set_option maxHeartbeats 4000000 in
theorem farV_c (r : NetR) (n : Net) (B : Nat) (w : World) [hB : Le B w] (h : NetIs B w r n) :
    Calls Tryd.prog 15 #[netV r n] w fun e w' => e = .returned (.bool (farV n)) ∧ ∃ δ, w' = lat w δ := by
  by_cases hg : hugeV n ⟨0, 0, []⟩ = true
  · go_enter Tryd.func15, Tryd.ntmps15
    go_wp2_with (go_at_call 37; refine (huge_c r n ⟨none, 0⟩ ⟨0, 0, []⟩ _).mono ?_; rw [hg]; rintro e w1 ⟨rfl, δ, rfl⟩)
    go_ret
    exact ⟨ret_bool (by unfold farV; rw [hg]; rfl), lat_ex⟩
  · rw [Bool.not_eq_true] at hg
    have HG := Lib.hid hg
    clear hg
    by_cases hv : valid n = true
    all_goals try rw [Bool.not_eq_true] at hv
    all_goals
      have HV := Lib.hid hv
      clear hv
    · have hg3 : n.grips.length ≤ 3 := (valid_iff.1 HV.out).2.2.1
      have hc : 0 ≤ n.cur.lo ∧ n.cur.lo ≤ n.cur.hi ∧ n.cur.hi ≤ 20 := by have := (valid_iff.1 HV.out).2.1; simp only [okSp, decide_eq_true_eq] at this; omega
      have hw : 0 ≤ n.wind.lo ∧ n.wind.lo ≤ n.wind.hi ∧ n.wind.hi ≤ 20 := by have := (valid_iff.1 HV.out).1; simp only [okSp, decide_eq_true_eq] at this; omega
      go_enter Tryd.func15, Tryd.ntmps15
      go_upto_region 6 with (first
        | (go_at_call 37; refine (huge_c r n ⟨none, 0⟩ ⟨0, 0, []⟩ _).mono ?_; rw [HG.out]; rintro e w1 ⟨rfl, δ, rfl⟩)
        | (go_at_call 39; refine (rCheck_c r n B _ h.up).mono ?_; rw [HV.out]; rintro e w1 ⟨rfl, δ', rfl⟩))
      refine wp_name fun W1 hW1 => ?_
      have iw1 : Le B W1 := by rw [hW1.out]; infer_instance
      have iw2 : Grew B w W1 := by rw [hW1.out]; infer_instance
      have iw3 : Le w.heap.size W1 := by rw [hW1.out]; infer_instance
      have iw4 : Grew w.heap.size w W1 := by rw [hW1.out]; infer_instance
      have iw5 : Lt (w.heap.size) W1 := by rw [hW1.out]; infer_instance
      have cw6 : W1.cell? ⟨w.heap.size, 0, none⟩ = some (.int .i64 n.wind.lo) := by rw [hW1.out]; go_simp
      have cw7 : W1.cell? ⟨w.heap.size, 1, none⟩ = some (.int .i64 n.wind.hi) := by rw [hW1.out]; go_simp
      have cw8 : W1.cell? ⟨w.heap.size, 2, none⟩ = some (.int .i64 n.cur.lo) := by rw [hW1.out]; go_simp
      have cw9 : W1.cell? ⟨w.heap.size, 3, none⟩ = some (.int .i64 n.cur.hi) := by rw [hW1.out]; go_simp
      have cw10 : W1.cell? ⟨w.heap.size, 4, none⟩ = some (.slice r.gA n.grips.length r.gc) := by rw [hW1.out]; go_simp
      have cw11 : W1.cell? ⟨w.heap.size, 5, none⟩ = some (.slice r.aA n.ancs.length r.ac) := by rw [hW1.out]; go_simp
      have cw12 : W1.cell? ⟨w.heap.size, 6, none⟩ = some (.slice r.wA n.wals.length r.wc) := by rw [hW1.out]; go_simp
      have s1 : Sl encSp B W1 r.gA r.gc n.grips := h.1.up
      have hlen := s1.len
      go_wp2_with (fail)
      go_loopg [3, 4] n.grips.length (fun g v i wr => ∃ (k : Nat) (m : Int) (δ : World), k ≤ n.grips.length ∧ g = n.grips.length - k ∧ v = .int .i64 m ∧ i = .int .i64 k ∧ Hid ((0 ≤ m ∧ m ≤ 21 * (10 : Int) ^ k) ∧ m = manyTo n k) ∧ wr = lat W1 δ)
      case atStart => exact ⟨0, _, W1, Nat.zero_le _, rfl, rfl, rfl, by unfold Hid; exact ⟨by omega, rfl⟩, (lat_refl W1).symm⟩
      case round =>
        obtain ⟨k, m, δ, hk, rfl, rfl, rfl, hm, rfl⟩ := hrel
        by_cases hlt : k < n.grips.length
        · obtain ⟨b, o, hA, hb, d0, d1⟩ := s1.sp hlt
          have ib : Lt b W1 := ⟨Nat.lt_of_lt_of_le hb iw1.out⟩
          have hgk : 0 ≤ (nth n.grips k).lo ∧ (nth n.grips k).lo ≤ (nth n.grips k).hi ∧ (nth n.grips k).hi ≤ 9 := by
            have := (List.all_eq_true.1 (by have := (valid_iff.1 HV.out).2.2.2.2.2.1; unfold okSps at this; exact this)) _ (nth_mem n.grips hlt)
            simp only [okSp, decide_eq_true_eq] at this; omega
          have hm1 : 0 ≤ m ∧ m ≤ 2100 := by
            have h1 := hm.out.1
            have : (10 : Int) ^ k ≤ 10 ^ 2 := by
              rcases (show k = 0 ∨ k = 1 ∨ k = 2 by omega) with h | h | h <;> rw [h] <;> decide
            omega
          have hmd := mul_bd (a := m) (A := 2100) (b := (nth n.grips k).hi - (nth n.grips k).lo + 1) (B := 10) hm1.1 hm1.2 (by omega) (by omega)
          have HM := Lib.hid (show 0 ≤ m * ((nth n.grips k).hi - (nth n.grips k).lo + 1) ∧ m * ((nth n.grips k).hi - (nth n.grips k).lo + 1) ≤ 21 * (10 : Int) ^ (k + 1) by
            have h1 := hm.out.1
            have h2 := mul_bd (a := m) (A := 21 * (10 : Int) ^ k) (b := (nth n.grips k).hi - (nth n.grips k).lo + 1) (B := 10) hm1.1 h1.2 (by omega) (by omega)
            refine ⟨h2.1, ?_⟩
            rw [Int.pow_succ, ← Int.mul_assoc]
            exact h2.2)
          have hki : (k : Int) < (n.grips.length : Int) := by omega
          have hk0 : ¬ (k : Int) < 0 := by omega
          rw [hA] at cw10
          clear hA
          go_wp2_with (fail)
          refine wp_region_lat (by kernel_rfl) (by kernel_rfl) ?_
          repeat (go_big_quiet_step ((first | (fail))))
          refine wpQuiet_nil ?_
          rintro _ ⟨δq, rfl⟩
          go_wp2_with (fail)
          go_roundg (n.grips.length - (k + 1))
          case measure => omega
          case rel => exact ⟨k + 1, _, _, by omega, rfl, rfl, by go_num, ⟨HM.out, by rw [hm.out.2]; rfl⟩, lat_def⟩
        · obtain rfl : k = n.grips.length := by omega
          have hm1 : 0 ≤ m ∧ m ≤ 21000 := by
            have h1 := hm.out.1
            have : (10 : Int) ^ n.grips.length ≤ 10 ^ 3 := by
              rcases (show n.grips.length = 0 ∨ n.grips.length = 1 ∨ n.grips.length = 2 ∨ n.grips.length = 3 by omega) with h | h | h | h <;> rw [h] <;> decide
            omega
          have hmd := mul_bd (a := m) (A := 21000) (b := n.wind.hi - n.wind.lo + 1) (B := 21) hm1.1 hm1.2 (by omega) (by omega)
          have HF := Lib.hid (show farV n = (decide (24 < m) || decide (100 < m * (n.wind.hi - n.wind.lo + 1))) by unfold farV; rw [HG.out, HV.out, hm.out.2]; rfl)
          by_cases q1 : 24 < m
          · go_wp2_with (fail)
            go_ret
            exact ⟨ret_bool (by rw [HF.out, decide_eq_true q1]; rfl), lat_ex⟩
          · by_cases q2 : 100 < m * (n.wind.hi - n.wind.lo + 1)
            all_goals
              have HQ := Lib.hid q2
              go_wp2_with (fail)
              go_ret
            · exact ⟨ret_bool (by rw [HF.out, decide_eq_true HQ.out]; simp), lat_ex⟩
            · exact ⟨ret_bool (by rw [HF.out, decide_eq_false (Int.not_lt.2 HQ.out), decide_eq_false (Int.not_lt.2 q1)]; rfl), lat_ex⟩
    · go_enter Tryd.func15, Tryd.ntmps15
      go_wp2_with (first
        | (go_at_call 37; refine (huge_c r n ⟨none, 0⟩ ⟨0, 0, []⟩ _).mono ?_; rw [HG.out]; rintro e w1 ⟨rfl, δ, rfl⟩)
        | (go_at_call 39; refine (rCheck_c r n B _ h.up).mono ?_; rw [HV.out]; rintro e w1 ⟨rfl, δ, rfl⟩))
      go_ret
      exact ⟨ret_bool (by unfold farV; rw [HG.out, HV.out]; rfl), lat_ex⟩


theorem farV_huge {n : Net} (h : farV n = false) : hugeV n ⟨0, 0, []⟩ = false := by
  unfold farV at h
  rw [Bool.or_eq_false_iff] at h
  exact h.1
namespace An
def readyV (n : Net) : Bool := !farV n && valid n
def givenV (n : Net) (t : Tru) : Bool := readyV n && (decide ((t.grips.length : Int) ≤ 40) && truB n t)
end An

set_option maxRecDepth 100000 in
set_option maxHeartbeats 4000000 in
theorem readyV_c (r : NetR) (n : Net) (B : Nat) (w : World) [hB : Le B w] (h : NetIs B w r n) :
    Calls Tryd.prog 35 #[netV r n] w fun e w' => e = .returned (.bool (readyV n)) ∧ ∃ δ, w' = lat w δ := by
  have HE := Lib.hid (show readyV n = (!farV n && valid n) from rfl)
  go_enter Tryd.func35, Tryd.ntmps35
  go_wp2_with (fail)
  refine (farV_c r n B _ h.up).mono ?_
  cases hf : farV n
  · have HF := Lib.hid hf
    clear hf
    rintro e w1 ⟨rfl, δ, rfl⟩
    by_cases hv : valid n = true
    all_goals try rw [Bool.not_eq_true] at hv
    all_goals
      have HV := Lib.hid hv
      clear hv
      go_wp2_with (go_at_call 39; refine (rCheck_c r n B _ h.up).mono ?_; rw [HV.out]; rintro e w1 ⟨rfl, δ, rfl⟩)
      go_ret
      exact ⟨ret_bool (by rw [HE.out, HF.out, HV.out]; rfl), lat_ex⟩
  · have HF := Lib.hid hf
    clear hf
    rintro e w1 ⟨rfl, δ, rfl⟩
    go_wp2_with (fail)
    go_ret
    exact ⟨ret_bool (by rw [HE.out, HF.out]; rfl), lat_ex⟩

set_option maxRecDepth 100000 in
set_option maxHeartbeats 4000000 in
theorem givenV_c (r : NetR) (n : Net) (rt : TruR) (t : Tru) (B : Nat) (w : World) [hB : Le B w] (h : NetIs B w r n) (h' : TruIs B w rt t) :
    Calls Tryd.prog 23 #[netV r n, truV rt t] w fun e w' => e = .returned (.bool (givenV n t)) ∧ ∃ δ, w' = lat w δ := by
  have HE := Lib.hid (show givenV n t = (readyV n && (decide ((t.grips.length : Int) ≤ 40) && truB n t)) from rfl)
  go_enter Tryd.func23, Tryd.ntmps23
  go_wp2_with (fail)
  refine (readyV_c r n B _ h.up).mono ?_
  cases hf : readyV n
  · have HF := Lib.hid hf
    clear hf
    rintro e w1 ⟨rfl, δ, rfl⟩
    go_wp2_with (fail)
    go_ret
    exact ⟨ret_bool (by rw [HE.out, HF.out]; rfl), lat_ex⟩
  · have HF := Lib.hid hf
    clear hf
    rintro e w1 ⟨rfl, δ, rfl⟩
    by_cases h40 : t.grips.length ≤ 40
    · have h40' : decide ((t.grips.length : Int) ≤ 40) = true := by simp; omega
      have HG := Lib.hid h40'
      go_wp2_with (go_at_call 71; refine (rIsTruth_c r n rt t B _ h.up h'.up).mono ?_; rintro e w1 ⟨rfl, δ, rfl⟩)
      go_ret
      exact ⟨ret_bool (by rw [HE.out, HF.out, HG.out]; rfl), lat_ex⟩
    · have h40' : decide ((t.grips.length : Int) ≤ 40) = false := by simp; omega
      have HG := Lib.hid h40'
      go_wp2_with (fail)
      go_ret
      exact ⟨ret_bool (by rw [HE.out, HF.out, HG.out]; rfl), lat_ex⟩

end Go.Proofs.YtgpcaaknpfopgaaDoor
