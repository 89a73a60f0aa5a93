/- Layer 2: the walks of the law's helpers. -/
import Derived.Test.YtgpcaaknpfopgaaDoorAnPlain4
namespace Go.Proofs.YtgpcaaknpfopgaaDoor
open Go.RowKit
open An

def hugeV (n : Net) (t : Tru) : Bool := decide (40 < n.grips.length) || decide (40 < n.ancs.length) || decide (40 < n.wals.length) || decide (40 < t.grips.length)

set_option maxHeartbeats 1000000 in
theorem huge_c (r : NetR) (n : Net) (rt : TruR) (t : Tru) (w : World) :
    Calls Tryd.prog 37 #[netV r n, truV rt t] w fun e w' => e = .returned (.bool (hugeV n t)) ∧ ∃ δ, w' = lat w δ := by
  go_enter Tryd.func37, Tryd.ntmps37
  go_wp2_with (fail)
  all_goals
    go_ret
    refine ⟨ret_bool ?_, lat_ex⟩
    go_light
    grind [hugeV]

theorem sameInts_c (A A' : Option Addr) (c c' : Nat) (xs ys : List Int) (B : Nat) (w : World) [hB : Le B w] (h : Sl encI B w A c xs) (h' : Sl encI B w A' c' ys) :
    Calls Tryd.prog 50 #[.slice A xs.length c, .slice A' ys.length c'] w fun e w' => ∃ b, e = .returned (.bool b) ∧ (b = true ↔ xs.length = ys.length ∧ ∀ i, i < xs.length → nth xs i = nth ys i) ∧ ∃ δ, w' = lat w δ := by
  have hl := h.len
  have hl' := h'.len
  by_cases hne : xs.length = ys.length
  · have hz : ((xs.length : Int) != (ys.length : Int)) = false := by simp; omega
    have HN := Lib.hid hne
    clear hne
    go_enter Tryd.func50, Tryd.ntmps50
    go_wp2_with (fail)
    go_loopw [5] (fun i wr => ∃ (k : Nat) (δ : World), k ≤ xs.length ∧ i = .int .i64 k ∧ Hid (∀ j, j < k → nth xs j = nth ys j) ∧ wr = lat w δ) (fun i _ => xs.length - (intOf i).toNat)
    case atStart => exact ⟨0, w, Nat.zero_le _, rfl, fun j hj => by omega, (lat_refl w).symm⟩
    case round =>
      obtain ⟨k, δ, hk, rfl, hn, rfl⟩ := hrel
      by_cases hlt : k < xs.length
      · obtain ⟨b, o, hA, hb, d0⟩ := h.int hlt
        have hlt' : k < ys.length := by have := HN.out; omega
        obtain ⟨b', o', hA', hb', d1⟩ := h'.int hlt'
        have ib : Lt b w := ⟨Nat.lt_of_lt_of_le hb hB.out⟩
        have ib' : Lt b' w := ⟨Nat.lt_of_lt_of_le hb' hB.out⟩
        have hki : (k : Int) < (xs.length : Int) := by omega
        have hki' : (k : Int) < (ys.length : Int) := by omega
        have hk0 : ¬ (k : Int) < 0 := by omega
        rw [hA, hA']
        clear hA hA'
        by_cases hq : nth xs k = nth ys k
        · have hq' : (nth xs k != nth ys k) = false := by simpa using hq
          have HQ := Lib.hid hq
          clear hq
          go_wp2_with (fail)
          refine wp_region_lat (by kernel_rfl) (by kernel_rfl) ?_
          repeat (go_big_quiet_step ((first | (fail))))
          refine wpQuiet_nil ?_
          rintro _ ⟨δq, rfl⟩
          go_wp2_with (fail)
          go_roundw
          case rel =>
            refine ⟨k + 1, _, by omega, by go_num, ?_, lat_def⟩
            intro j hj
            by_cases hjk : j = k
            · subst hjk; exact HQ.out
            · exact hn.out j (by omega)
          case measure => simp [intOf]; omega
        · have hq' : (nth xs k != nth ys k) = true := by simpa using hq
          have HQ := Lib.hid hq
          clear hq
          go_wp2_with (fail)
          refine wp_region_lat (by kernel_rfl) (by kernel_rfl) ?_
          repeat (go_big_quiet_step ((first | (fail))))
          refine wpQuiet_nil ?_
          rintro _ ⟨δq, rfl⟩
          go_wp2_with (fail)
          go_ret
          exact ⟨false, rfl, ⟨fun hf => absurd hf (by simp), fun hf => absurd (hf.2 k hlt) HQ.out⟩, lat_ex⟩
      · obtain rfl : k = xs.length := by omega
        go_wp2_with (fail)
        go_ret
        exact ⟨true, rfl, ⟨fun _ => ⟨HN.out, hn.out⟩, fun _ => rfl⟩, lat_ex⟩
  · have hz : ((xs.length : Int) != (ys.length : Int)) = true := by simp; omega
    have HN := Lib.hid hne
    clear hne
    go_enter Tryd.func50, Tryd.ntmps50
    go_wp2_with (fail)
    go_ret
    exact ⟨false, rfl, by simp [HN.out], lat_ex⟩

def FarPost (n : Net) (w : World) (e : Ending) (w' : World) : Prop := ∃ b, e = .returned (.bool b) ∧ (b = false → hugeV n ⟨0, 0, []⟩ = false) ∧ ∃ δ, w' = lat w δ

set_option maxRecDepth 100000 in
set_option maxHeartbeats 4000000 in
theorem far_c (r : NetR) (n : Net) (B : Nat) (w : World) [hB : Le B w] (h : NetIs B w r n) :
    Calls Tryd.prog 15 #[netV r n] w fun e w' => FarPost n w e w' := by
  by_cases hg : hugeV n ⟨0, 0, []⟩ = true
  · go_enter Tryd.func15, Tryd.ntmps15
    go_wp2_with (go_at_call 37; refine (huge_c r n ⟨none, 0⟩ ⟨0, 0, []⟩ _).mono ?_; rw [hg]; rintro e w1 ⟨rfl, δ, rfl⟩)
    go_ret
    unfold FarPost
    exact ⟨true, rfl, fun hf => absurd hf (by simp), lat_ex⟩
  · rw [Bool.not_eq_true] at hg
    have HG := Lib.hid hg
    clear hg
    by_cases hv : valid n = true
    all_goals try rw [Bool.not_eq_true] at hv
    all_goals
      have HV := Lib.hid hv
      clear hv
    · have hg3 : n.grips.length ≤ 3 := (valid_iff.1 HV.out).2.2.1
      have hc : 0 ≤ n.cur.lo ∧ n.cur.lo ≤ n.cur.hi ∧ n.cur.hi ≤ 20 := by have := (valid_iff.1 HV.out).2.1; simp only [okSp, decide_eq_true_eq] at this; omega
      have hw : 0 ≤ n.wind.lo ∧ n.wind.lo ≤ n.wind.hi ∧ n.wind.hi ≤ 20 := by have := (valid_iff.1 HV.out).1; simp only [okSp, decide_eq_true_eq] at this; omega
      go_enter Tryd.func15, Tryd.ntmps15
      go_upto_region 6 with (first
        | (go_at_call 37; refine (huge_c r n ⟨none, 0⟩ ⟨0, 0, []⟩ _).mono ?_; rw [HG.out]; rintro e w1 ⟨rfl, δ, rfl⟩)
        | (go_at_call 39; refine (rCheck_c r n B _ h.up).mono ?_; rw [HV.out]; rintro e w1 ⟨rfl, δ', rfl⟩))
      refine wp_name fun W1 hW1 => ?_
      have iw1 : Le B W1 := by rw [hW1.out]; infer_instance
      have iw2 : Grew B w W1 := by rw [hW1.out]; infer_instance
      have iw3 : Le w.heap.size W1 := by rw [hW1.out]; infer_instance
      have iw4 : Grew w.heap.size w W1 := by rw [hW1.out]; infer_instance
      have iw5 : Lt (w.heap.size) W1 := by rw [hW1.out]; infer_instance
      have cw6 : W1.cell? ⟨w.heap.size, 0, none⟩ = some (.int .i64 n.wind.lo) := by rw [hW1.out]; go_simp
      have cw7 : W1.cell? ⟨w.heap.size, 1, none⟩ = some (.int .i64 n.wind.hi) := by rw [hW1.out]; go_simp
      have cw8 : W1.cell? ⟨w.heap.size, 2, none⟩ = some (.int .i64 n.cur.lo) := by rw [hW1.out]; go_simp
      have cw9 : W1.cell? ⟨w.heap.size, 3, none⟩ = some (.int .i64 n.cur.hi) := by rw [hW1.out]; go_simp
      have cw10 : W1.cell? ⟨w.heap.size, 4, none⟩ = some (.slice r.gA n.grips.length r.gc) := by rw [hW1.out]; go_simp
      have cw11 : W1.cell? ⟨w.heap.size, 5, none⟩ = some (.slice r.aA n.ancs.length r.ac) := by rw [hW1.out]; go_simp
      have cw12 : W1.cell? ⟨w.heap.size, 6, none⟩ = some (.slice r.wA n.wals.length r.wc) := by rw [hW1.out]; go_simp
      have s1 : Sl encSp B W1 r.gA r.gc n.grips := h.1.up
      have hlen := s1.len
      go_wp2_with (fail)
      go_loopw [3, 4] (fun v i wr => ∃ (k : Nat) (m : Int) (δ : World), k ≤ n.grips.length ∧ v = .int .i64 m ∧ i = .int .i64 k ∧ Hid (0 ≤ m ∧ m ≤ 21 * (10 : Int) ^ k) ∧ wr = lat W1 δ) (fun _ i _ => n.grips.length - (intOf i).toNat)
      case atStart => exact ⟨0, _, W1, Nat.zero_le _, rfl, rfl, by unfold Hid; omega, (lat_refl W1).symm⟩
      case round =>
        obtain ⟨k, m, δ, hk, rfl, rfl, hm, rfl⟩ := hrel
        by_cases hlt : k < n.grips.length
        · obtain ⟨b, o, hA, hb, d0, d1⟩ := s1.sp hlt
          have ib : Lt b W1 := ⟨Nat.lt_of_lt_of_le hb iw1.out⟩
          have hgk : 0 ≤ (nth n.grips k).lo ∧ (nth n.grips k).lo ≤ (nth n.grips k).hi ∧ (nth n.grips k).hi ≤ 9 := by
            have := (List.all_eq_true.1 (by have := (valid_iff.1 HV.out).2.2.2.2.2.1; unfold okSps at this; exact this)) _ (nth_mem n.grips hlt)
            simp only [okSp, decide_eq_true_eq] at this; omega
          have hm1 : 0 ≤ m ∧ m ≤ 2100 := by
            have h1 := hm.out
            have : (10 : Int) ^ k ≤ 10 ^ 2 := by
              rcases (show k = 0 ∨ k = 1 ∨ k = 2 by omega) with h | h | h <;> rw [h] <;> decide
            omega
          have hmd := mul_bd (a := m) (A := 2100) (b := (nth n.grips k).hi - (nth n.grips k).lo + 1) (B := 10) hm1.1 hm1.2 (by omega) (by omega)
          have HM := Lib.hid (show 0 ≤ m * ((nth n.grips k).hi - (nth n.grips k).lo + 1) ∧ m * ((nth n.grips k).hi - (nth n.grips k).lo + 1) ≤ 21 * (10 : Int) ^ (k + 1) by
            have h1 := hm.out
            have h2 := mul_bd (a := m) (A := 21 * (10 : Int) ^ k) (b := (nth n.grips k).hi - (nth n.grips k).lo + 1) (B := 10) hm1.1 h1.2 (by omega) (by omega)
            refine ⟨h2.1, ?_⟩
            rw [Int.pow_succ, ← Int.mul_assoc]
            exact h2.2)
          have hki : (k : Int) < (n.grips.length : Int) := by omega
          have hk0 : ¬ (k : Int) < 0 := by omega
          rw [hA] at cw10
          clear hA
          go_wp2_with (fail)
          refine wp_region_lat (by kernel_rfl) (by kernel_rfl) ?_
          repeat (go_big_quiet_step ((first | (fail))))
          refine wpQuiet_nil ?_
          rintro _ ⟨δq, rfl⟩
          go_wp2_with (fail)
          go_roundw
          case rel =>
            (repeat apply Exists.intro)
            refine ⟨?_, rfl⟩
            exact ⟨k + 1, _, _, by omega, rfl, by go_num, HM.out, lat_def⟩
          case measure => simp [intOf]; omega
        · obtain rfl : k = n.grips.length := by omega
          have hm1 : 0 ≤ m ∧ m ≤ 21000 := by
            have h1 := hm.out
            have : (10 : Int) ^ n.grips.length ≤ 10 ^ 3 := by
              rcases (show n.grips.length = 0 ∨ n.grips.length = 1 ∨ n.grips.length = 2 ∨ n.grips.length = 3 by omega) with h | h | h | h <;> rw [h] <;> decide
            omega
          have hmd := mul_bd (a := m) (A := 21000) (b := n.wind.hi - n.wind.lo + 1) (B := 21) hm1.1 hm1.2 (by omega) (by omega)
          go_wp2_with (fail)
          all_goals
            go_ret
            unfold FarPost
            exact ⟨_, rfl, fun _ => HG.out, lat_ex⟩
    · go_enter Tryd.func15, Tryd.ntmps15
      go_wp2_with (first
        | (go_at_call 37; refine (huge_c r n ⟨none, 0⟩ ⟨0, 0, []⟩ _).mono ?_; rw [HG.out]; rintro e w1 ⟨rfl, δ, rfl⟩)
        | (go_at_call 39; refine (rCheck_c r n B _ h.up).mono ?_; rw [HV.out]; rintro e w1 ⟨rfl, δ, rfl⟩))
      go_ret
      unfold FarPost
      exact ⟨false, rfl, fun _ => HG.out, lat_ex⟩

end Go.Proofs.YtgpcaaknpfopgaaDoor
