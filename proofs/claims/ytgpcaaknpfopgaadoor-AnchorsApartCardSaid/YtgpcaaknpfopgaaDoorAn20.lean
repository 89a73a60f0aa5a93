/- Layer 2: the walk of Same of the law, at equal nets. -/
import Derived.Test.YtgpcaaknpfopgaaDoorAn2
namespace Go.Proofs.YtgpcaaknpfopgaaDoor
open Go.RowKit
open An

set_option maxRecDepth 100000 in
set_option maxHeartbeats 4000000 in
theorem same_c (r r' : NetR) (n : Net) (B : Nat) (w : World) [hB : Le B w] (h : NetIs B w r n) (h' : NetIs B w r' n) :
    Calls Tryd.prog 22 #[netV r n, netV r' n] w fun e w' => e = .returned (.bool true) ∧ ∃ δ, w' = lat w δ := by
  have l1 := h.1.len
  have l2 := h.2.1.len
  have l3 := h.2.2.len
  go_enter Tryd.func22, Tryd.ntmps22
  go_upto_region 3 with fail
  refine wp_name fun W1 hW1 => ?_
  have iw1 : Le B W1 := by rw [hW1.out]; infer_instance
  have iw2 : Grew B w W1 := by rw [hW1.out]; infer_instance
  have iw3 : Le w.heap.size W1 := by rw [hW1.out]; infer_instance
  have iw4 : Grew w.heap.size w W1 := by rw [hW1.out]; infer_instance
  have iw5 : Lt (w.heap.size) W1 := by rw [hW1.out]; infer_instance
  have iw6 : Lt (w.heap.size + 1) W1 := by rw [hW1.out]; infer_instance
  have cw7 : W1.cell? ⟨w.heap.size, 0, none⟩ = some (.int .i64 n.wind.lo) := by rw [hW1.out]; go_simp
  have cw8 : W1.cell? ⟨w.heap.size, 1, none⟩ = some (.int .i64 n.wind.hi) := by rw [hW1.out]; go_simp
  have cw9 : W1.cell? ⟨w.heap.size, 2, none⟩ = some (.int .i64 n.cur.lo) := by rw [hW1.out]; go_simp
  have cw10 : W1.cell? ⟨w.heap.size, 3, none⟩ = some (.int .i64 n.cur.hi) := by rw [hW1.out]; go_simp
  have cw11 : W1.cell? ⟨w.heap.size, 4, none⟩ = some (.slice r.gA n.grips.length r.gc) := by rw [hW1.out]; go_simp
  have cw12 : W1.cell? ⟨w.heap.size, 5, none⟩ = some (.slice r.aA n.ancs.length r.ac) := by rw [hW1.out]; go_simp
  have cw13 : W1.cell? ⟨w.heap.size, 6, none⟩ = some (.slice r.wA n.wals.length r.wc) := by rw [hW1.out]; go_simp
  have cw14 : W1.cell? ⟨w.heap.size + 1, 0, none⟩ = some (.int .i64 n.wind.lo) := by rw [hW1.out]; go_simp
  have cw15 : W1.cell? ⟨w.heap.size + 1, 1, none⟩ = some (.int .i64 n.wind.hi) := by rw [hW1.out]; go_simp
  have cw16 : W1.cell? ⟨w.heap.size + 1, 2, none⟩ = some (.int .i64 n.cur.lo) := by rw [hW1.out]; go_simp
  have cw17 : W1.cell? ⟨w.heap.size + 1, 3, none⟩ = some (.int .i64 n.cur.hi) := by rw [hW1.out]; go_simp
  have cw18 : W1.cell? ⟨w.heap.size + 1, 4, none⟩ = some (.slice r'.gA n.grips.length r'.gc) := by rw [hW1.out]; go_simp
  have cw19 : W1.cell? ⟨w.heap.size + 1, 5, none⟩ = some (.slice r'.aA n.ancs.length r'.ac) := by rw [hW1.out]; go_simp
  have cw20 : W1.cell? ⟨w.heap.size + 1, 6, none⟩ = some (.slice r'.wA n.wals.length r'.wc) := by rw [hW1.out]; go_simp
  have s1 : NetIs B W1 r n := h.up
  have s2 : NetIs B W1 r' n := h'.up
  go_wp2_with (fail)
  go_loopw [5] (fun i wr => ∃ (k : Nat) (δ : World), k ≤ n.grips.length ∧ i = .int .i64 k ∧ wr = lat W1 δ) (fun i _ => n.grips.length - (intOf i).toNat)
  case atStart => exact ⟨0, W1, Nat.zero_le _, rfl, (lat_refl W1).symm⟩
  case round =>
    obtain ⟨k, δ, hk, rfl, rfl⟩ := hrel
    by_cases hlt : k < n.grips.length
    · obtain ⟨b, o, hA, hb, d0, d1⟩ := s1.1.sp hlt
      obtain ⟨b', o', hA', hb', d0', d1'⟩ := s2.1.sp hlt
      have ib : Lt b W1 := ⟨Nat.lt_of_lt_of_le hb iw1.out⟩
      have ib' : Lt b' W1 := ⟨Nat.lt_of_lt_of_le hb' iw1.out⟩
      have hki : (k : Int) < (n.grips.length : Int) := by omega
      have hk0 : ¬ (k : Int) < 0 := by omega
      rw [hA] at cw11
      rw [hA'] at cw18
      clear hA hA'
      go_wp2_with (fail)
      refine wp_region_lat (by kernel_rfl) (by kernel_rfl) ?_
      repeat (go_big_quiet_step ((first | (fail))))
      refine wpQuiet_nil ?_
      rintro _ ⟨δq, rfl⟩
      go_wp2_with (fail)
      go_roundw
      case rel => exact ⟨k + 1, _, by omega, by go_num, lat_def⟩
      case measure => simp [intOf]; omega
    · obtain rfl : k = n.grips.length := by omega
      go_wp2_with (fail)
      go_loopw [6] (fun i wr => ∃ (k : Nat) (δ : World), k ≤ n.ancs.length ∧ i = .int .i64 k ∧ wr = lat W1 δ) (fun i _ => n.ancs.length - (intOf i).toNat)
      case atStart => exact ⟨0, δ, Nat.zero_le _, rfl, rfl⟩
      case round =>
        clear hk hlt
        obtain ⟨k, δ, hk, rfl, rfl⟩ := hrel
        by_cases hlt : k < n.ancs.length
        · obtain ⟨b, o, hA, hb, d0, d1⟩ := s1.2.1.anc hlt
          obtain ⟨b', o', hA', hb', d0', d1'⟩ := s2.2.1.anc hlt
          have ib : Lt b W1 := ⟨Nat.lt_of_lt_of_le hb iw1.out⟩
          have ib' : Lt b' W1 := ⟨Nat.lt_of_lt_of_le hb' iw1.out⟩
          have hki : (k : Int) < (n.ancs.length : Int) := by omega
          have hk0 : ¬ (k : Int) < 0 := by omega
          rw [hA] at cw12
          rw [hA'] at cw19
          clear hA hA'
          go_wp2_with (fail)
          refine wp_region_lat (by kernel_rfl) (by kernel_rfl) ?_
          repeat (go_big_quiet_step ((first | (fail))))
          refine wpQuiet_nil ?_
          rintro _ ⟨δq, rfl⟩
          go_wp2_with (fail)
          go_roundw
          case rel => exact ⟨k + 1, _, by omega, by go_num, lat_def⟩
          case measure => simp [intOf]; omega
        · obtain rfl : k = n.ancs.length := by omega
          go_wp2_with (fail)
          go_loopw [7] (fun i wr => ∃ (k : Nat) (δ : World), k ≤ n.wals.length ∧ i = .int .i64 k ∧ wr = lat W1 δ) (fun i _ => n.wals.length - (intOf i).toNat)
          case atStart => exact ⟨0, δ, Nat.zero_le _, rfl, rfl⟩
          case round =>
            clear hk hlt
            obtain ⟨k, δ, hk, rfl, rfl⟩ := hrel
            by_cases hlt : k < n.wals.length
            · obtain ⟨b, o, hA, hb, d0, d1, d2, d3, d4⟩ := s1.2.2.wal hlt
              obtain ⟨b', o', hA', hb', d0', d1', d2', d3', d4'⟩ := s2.2.2.wal hlt
              have ib : Lt b W1 := ⟨Nat.lt_of_lt_of_le hb iw1.out⟩
              have ib' : Lt b' W1 := ⟨Nat.lt_of_lt_of_le hb' iw1.out⟩
              have hki : (k : Int) < (n.wals.length : Int) := by omega
              have hk0 : ¬ (k : Int) < 0 := by omega
              rw [hA] at cw13
              rw [hA'] at cw20
              clear hA hA'
              go_wp2_with (fail)
              refine wp_region_lat (by kernel_rfl) (by kernel_rfl) ?_
              repeat (go_big_quiet_step ((first | (fail))))
              refine wpQuiet_nil ?_
              rintro _ ⟨δq, rfl⟩
              go_wp2_with (fail)
              go_roundw
              case rel => exact ⟨k + 1, _, by omega, by go_num, lat_def⟩
              case measure => simp [intOf]; omega
            · obtain rfl : k = n.wals.length := by omega
              go_wp2_with (fail)
              go_ret
              exact ⟨rfl, lat_ex⟩

end Go.Proofs.YtgpcaaknpfopgaaDoor
