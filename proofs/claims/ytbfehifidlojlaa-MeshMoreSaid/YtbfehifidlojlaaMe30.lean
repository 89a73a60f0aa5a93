/- Layer 4: the laws' Same. -/
import Derived.Test.YtbfehifidlojlaaMe20
namespace Go.Proofs.Ytbfehifidlojlaa
open Go.RowKit
open Me

set_option maxRecDepth 100000 in
set_option maxHeartbeats 4000000 in
theorem same_c (r r' : NetR) (n : Net) (B : Nat) (w : World) [hB : Le B w] (h : NetIs B w r n) (h' : NetIs B w r' n) :
    Calls Try.prog 27 #[netV r n, netV r' n] w fun e w' => e = .returned (.bool true) ∧ ∃ δ, w' = lat w δ := by
  have l1 := h.1.len
  have l2 := h.2.len
  go_enter Try.func27, Try.ntmps27
  go_upto_region 3 with fail
  refine wp_name fun W1 hW1 => ?_
  have iw1 : Le B W1 := by rw [hW1.out]; infer_instance
  have iw2 : Grew B w W1 := by rw [hW1.out]; infer_instance
  have iw3 : Le w.heap.size W1 := by rw [hW1.out]; infer_instance
  have iw4 : Grew w.heap.size w W1 := by rw [hW1.out]; infer_instance
  have iw5 : Lt (w.heap.size) W1 := by rw [hW1.out]; infer_instance
  have iw6 : Lt (w.heap.size + 1) W1 := by rw [hW1.out]; infer_instance
  have cw7 : W1.cell? ⟨w.heap.size, 0, none⟩ = some (.int .i64 n.m) := by rw [hW1.out]; go_simp
  have cw8 : W1.cell? ⟨w.heap.size, 1, none⟩ = some (.slice r.hA n.hs.length r.hc) := by rw [hW1.out]; go_simp
  have cw9 : W1.cell? ⟨w.heap.size, 2, none⟩ = some (.slice r.pA n.ps.length r.pc) := by rw [hW1.out]; go_simp
  have cw10 : W1.cell? ⟨w.heap.size + 1, 0, none⟩ = some (.int .i64 n.m) := by rw [hW1.out]; go_simp
  have cw11 : W1.cell? ⟨w.heap.size + 1, 1, none⟩ = some (.slice r'.hA n.hs.length r'.hc) := by rw [hW1.out]; go_simp
  have cw12 : W1.cell? ⟨w.heap.size + 1, 2, none⟩ = some (.slice r'.pA n.ps.length r'.pc) := by rw [hW1.out]; go_simp
  have s1 : NetIs B W1 r n := h.up
  have s2 : NetIs B W1 r' n := h'.up
  have S1 := Lib.hid s1
  have S2 := Lib.hid s2
  clear hW1 s1 s2 h h'
  go_wp2_with (fail)
  go_loopw [5] (fun i wr => ∃ (k : Nat) (δ : World), k ≤ n.hs.length ∧ i = .int .i64 k ∧ wr = lat W1 δ) (fun i _ => n.hs.length - (intOf i).toNat)
  case atStart => exact ⟨0, W1, Nat.zero_le _, rfl, (lat_refl W1).symm⟩
  case round =>
    obtain ⟨k, δ, hk, rfl, rfl⟩ := hrel
    by_cases hlt : k < n.hs.length
    · obtain ⟨b, o, hA, hb, d0, d1, d2, d3⟩ := S1.out.1.hole hlt
      obtain ⟨b', o', hA', hb', d0', d1', d2', d3'⟩ := S2.out.1.hole hlt
      have ib : Lt b W1 := ⟨Nat.lt_of_lt_of_le hb iw1.out⟩
      have ib' : Lt b' W1 := ⟨Nat.lt_of_lt_of_le hb' iw1.out⟩
      have hki : (k : Int) < (n.hs.length : Int) := by omega
      have hk0 : ¬ (k : Int) < 0 := by omega
      rw [hA] at cw8
      rw [hA'] at cw11
      clear hA hA'
      go_wp2_with (fail)
      refine wp_region_lat (by kernel_rfl) (by kernel_rfl) ?_
      repeat (go_big_quiet_step ((first | (fail))))
      refine wpQuiet_nil ?_
      rintro _ ⟨δq, rfl⟩
      go_wp2_with (fail)
      go_roundw
      case rel => exact ⟨k + 1, _, by omega, by go_num, lat_def⟩
      case measure => simp [intOf]; omega
    · obtain rfl : k = n.hs.length := by omega
      go_wp2_with (fail)
      go_loopw [6] (fun i wr => ∃ (k : Nat) (δ : World), k ≤ n.ps.length ∧ i = .int .i64 k ∧ wr = lat W1 δ) (fun i _ => n.ps.length - (intOf i).toNat)
      case atStart => exact ⟨0, δ, Nat.zero_le _, rfl, rfl⟩
      case round =>
        clear hk hlt
        obtain ⟨k, δ, hk, rfl, rfl⟩ := hrel
        by_cases hlt : k < n.ps.length
        · obtain ⟨b, o, hA, hb, d0, d1⟩ := S1.out.2.pr hlt
          obtain ⟨b', o', hA', hb', d0', d1'⟩ := S2.out.2.pr hlt
          have ib : Lt b W1 := ⟨Nat.lt_of_lt_of_le hb iw1.out⟩
          have ib' : Lt b' W1 := ⟨Nat.lt_of_lt_of_le hb' iw1.out⟩
          have hki : (k : Int) < (n.ps.length : Int) := by omega
          have hk0 : ¬ (k : Int) < 0 := by omega
          rw [hA] at cw9
          rw [hA'] at cw12
          clear hA hA'
          go_wp2_with (fail)
          refine wp_region_lat (by kernel_rfl) (by kernel_rfl) ?_
          repeat (go_big_quiet_step ((first | (fail))))
          refine wpQuiet_nil ?_
          rintro _ ⟨δq, rfl⟩
          go_wp2_with (fail)
          go_roundw
          case rel => exact ⟨k + 1, _, by omega, by go_num, lat_def⟩
          case measure => simp [intOf]; omega
        · obtain rfl : k = n.ps.length := by omega
          go_wp2_with (fail)
          go_ret
          exact ⟨rfl, lat_ex⟩

end Go.Proofs.Ytbfehifidlojlaa
