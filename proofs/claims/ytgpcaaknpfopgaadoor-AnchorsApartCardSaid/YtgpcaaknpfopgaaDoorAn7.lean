/- Layer 2: the walks of worst and best of the program. -/
import Derived.Test.YtgpcaaknpfopgaaDoorAn6
import Derived.Test.YtgpcaaknpfopgaaDoorBase2
namespace Go.Proofs.YtgpcaaknpfopgaaDoor
open Go.RowKit
open An

theorem slI : SlT Tryd.prog 36 3 (.int .i64 0) 1 8 := SlT.mk Tryd.underlying36 (by kernel_rfl) rfl (by omega)

def worstT (n : Net) : Tru := ⟨n.wind.hi, n.cur.hi, n.grips.map (·.lo)⟩
def bestT (n : Net) : Tru := ⟨n.wind.lo, n.cur.lo, n.grips.map (·.hi)⟩

set_option maxHeartbeats 1000000 in
theorem worst_c (r : NetR) (n : Net) (B : Nat) (w : World) [hB : Le B w] (h : NetIs B w r n) (h3 : n.grips.length ≤ 3) :
    Calls Tryd.prog 66 #[netV r n] w fun e w' => ∃ (rt : TruR) (δ : World), e = .returned (rowV r n rt (worstT n)) ∧ w' = lat w δ ∧ TruIs (lat w δ).heap.size (lat w δ) rt (worstT n) := by
  go_enter Tryd.func66, Tryd.ntmps66
  go_wp2_with (fail)
  refine wp_name fun W1 hW1 => ?_
  have iw1 : Le B W1 := by rw [hW1.out]; infer_instance
  have iw2 : Grew B w W1 := by rw [hW1.out]; infer_instance
  have iw3 : Le w.heap.size W1 := by rw [hW1.out]; infer_instance
  have iw4 : Grew w.heap.size w W1 := by rw [hW1.out]; infer_instance
  have iw5 : Lt (w.heap.size) W1 := by rw [hW1.out]; infer_instance
  have iw6 : Lt (w.heap.size + 1) W1 := by rw [hW1.out]; infer_instance
  have iw7 : Lt (w.heap.size + 1 + 1) W1 := by rw [hW1.out]; infer_instance
  have cw8 : W1.cell? ⟨w.heap.size, 0, none⟩ = some (.int .i64 n.wind.lo) := by rw [hW1.out]; go_simp
  have cw9 : W1.cell? ⟨w.heap.size, 1, none⟩ = some (.int .i64 n.wind.hi) := by rw [hW1.out]; go_simp
  have cw10 : W1.cell? ⟨w.heap.size, 2, none⟩ = some (.int .i64 n.cur.lo) := by rw [hW1.out]; go_simp
  have cw11 : W1.cell? ⟨w.heap.size, 3, none⟩ = some (.int .i64 n.cur.hi) := by rw [hW1.out]; go_simp
  have cw12 : W1.cell? ⟨w.heap.size, 4, none⟩ = some (.slice r.gA n.grips.length r.gc) := by rw [hW1.out]; go_simp
  have cw13 : W1.cell? ⟨w.heap.size, 5, none⟩ = some (.slice r.aA n.ancs.length r.ac) := by rw [hW1.out]; go_simp
  have cw14 : W1.cell? ⟨w.heap.size, 6, none⟩ = some (.slice r.wA n.wals.length r.wc) := by rw [hW1.out]; go_simp
  have cw15 : W1.cell? ⟨w.heap.size + 1, 0, none⟩ = some (.int .i64 0) := by rw [hW1.out]; go_simp
  have cw16 : W1.cell? ⟨w.heap.size + 1, 1, none⟩ = some (.int .i64 0) := by rw [hW1.out]; go_simp
  have cw17 : W1.cell? ⟨w.heap.size + 1, 2, none⟩ = some (.int .i64 0) := by rw [hW1.out]; go_simp
  have cw18 : W1.cell? ⟨w.heap.size + 1, 3, none⟩ = some (.int .i64 0) := by rw [hW1.out]; go_simp
  have cw19 : W1.cell? ⟨w.heap.size + 1, 4, none⟩ = some (.slice none 0 0) := by rw [hW1.out]; go_simp
  have cw20 : W1.cell? ⟨w.heap.size + 1, 5, none⟩ = some (.slice none 0 0) := by rw [hW1.out]; go_simp
  have cw21 : W1.cell? ⟨w.heap.size + 1, 6, none⟩ = some (.slice none 0 0) := by rw [hW1.out]; go_simp
  have cw22 : W1.cell? ⟨w.heap.size + 1, 7, none⟩ = some (.int .i64 0) := by rw [hW1.out]; go_simp
  have cw23 : W1.cell? ⟨w.heap.size + 1, 8, none⟩ = some (.int .i64 0) := by rw [hW1.out]; go_simp
  have cw24 : W1.cell? ⟨w.heap.size + 1, 9, none⟩ = some (.slice none 0 0) := by rw [hW1.out]; go_simp
  have fw25 : W1.frozen? ⟨w.heap.size + 1, 0, none⟩ = false := by rw [hW1.out]; go_simp
  have fw26 : W1.frozen? ⟨w.heap.size + 1, 1, none⟩ = false := by rw [hW1.out]; go_simp
  have fw27 : W1.frozen? ⟨w.heap.size + 1, 2, none⟩ = false := by rw [hW1.out]; go_simp
  have fw28 : W1.frozen? ⟨w.heap.size + 1, 3, none⟩ = false := by rw [hW1.out]; go_simp
  have fw29 : W1.frozen? ⟨w.heap.size + 1, 4, none⟩ = false := by rw [hW1.out]; go_simp
  have fw30 : W1.frozen? ⟨w.heap.size + 1, 5, none⟩ = false := by rw [hW1.out]; go_simp
  have fw31 : W1.frozen? ⟨w.heap.size + 1, 6, none⟩ = false := by rw [hW1.out]; go_simp
  have fw32 : W1.frozen? ⟨w.heap.size + 1, 7, none⟩ = false := by rw [hW1.out]; go_simp
  have fw33 : W1.frozen? ⟨w.heap.size + 1, 8, none⟩ = false := by rw [hW1.out]; go_simp
  have fw34 : W1.frozen? ⟨w.heap.size + 1, 9, none⟩ = false := by rw [hW1.out]; go_simp
  have cw35 : W1.cell? ⟨w.heap.size + 1 + 1, 0, none⟩ = some (.int .i64 n.wind.hi) := by rw [hW1.out]; go_simp
  have cw36 : W1.cell? ⟨w.heap.size + 1 + 1, 1, none⟩ = some (.int .i64 n.cur.hi) := by rw [hW1.out]; go_simp
  have cw37 : W1.cell? ⟨w.heap.size + 1 + 1, 2, none⟩ = some (.slice none 0 0) := by rw [hW1.out]; go_simp
  have fw38 : W1.frozen? ⟨w.heap.size + 1 + 1, 2, none⟩ = false := by rw [hW1.out]; go_simp
  have s1 : Sl encSp B W1 r.gA r.gc n.grips := h.1.up
  have hlen := s1.len
  go_loopw [16] (fun i wr => ∃ (k : Nat) (A : Option Addr) (c : Nat), k ≤ n.grips.length ∧ i = .int .i64 k ∧ wr.ownsRow W1.heap.size 3 1 (.slice A k c) k (((n.grips.map (·.lo)).take k).flatMap encI) ∧ ∃ δ, wr = (lat W1 δ).setCell ⟨w.heap.size + 1 + 1, 2, none⟩ (.slice A k c)) (fun i _ => n.grips.length - (intOf i).toNat)
  case atStart =>
    refine ⟨0, none, 0, Nat.zero_le _, rfl, by simpa using World.ownsRow_nil _ _ _ _, W1, ?_⟩
    rw [lat_refl, setCell_self (by assumption)]
  case round =>
    obtain ⟨k, A, c, hk, rfl, hown, δ, rfl⟩ := hrel
    by_cases hlt : k < n.grips.length
    · obtain ⟨b, o, hA, hb, d0, d1⟩ := s1.sp hlt
      have ib : Lt b W1 := ⟨Nat.lt_of_lt_of_le hb iw1.out⟩
      have in1 : NeN b (w.heap.size + 1 + 1) := ⟨by have := hB.out; omega⟩
      have HA := Lib.hid hA
      have HO := Lib.hid hown
      clear hA hown
      rw [HA.out]
      go_wp2_with (at_builtin; (refine wpList_append_new W1 slI (.tmp 21) (.tmp 24) rfl rfl (HO.out.alloc _) rfl rfl (by go_simp) rfl (by simp [Value.oneCell']) (by omega) (by omega) ?_); intro A' c' δ' hown')
      go_roundw
      case rel =>
        refine ⟨k + 1, A', c', by omega, by go_num, ?_, set_back (w0 := W1) δ (.slice A k c) (.slice A' (k + 1) c') (by assumption) below_inst⟩
        have := ownsRow_setCell_below hown' (a := ⟨w.heap.size + 1 + 1, 2, none⟩) iw7.out (.slice A' (k + 1) c')
        rw [flatMap_snoc encI (n.grips.map (·.lo)) (by simpa using hlt), nth_map _ _ hlt]
        exact this
      case measure => simp [intOf]; omega
    · obtain rfl : k = n.grips.length := by omega
      have HO := Lib.hid hown
      clear hown
      have in2 : NeN (w.heap.size + 1) (w.heap.size + 1 + 1) := ⟨by omega⟩
      go_wp2_with (fail)
      refine bodyPost_ret (v := rowV r n ⟨A, c⟩ (worstT n)) ?_ rfl ?_
      · simp only [results, Tryd.results66]
        go_simp
        simp [worstT]
      · refine ⟨⟨A, c⟩, _, rfl, lat_def, ?_⟩
        rw [← lat_def (w := w)]
        have H1 := HO.out
        rw [List.take_of_length_le (by simp)] at H1
        refine Sl.of_own (base := W1.heap.size) (e := 3) (size := 1) ?_
        rw [show (worstT n).grips.length = n.grips.length by simp [worstT]]
        show (_ : World).ownsRow W1.heap.size 3 1 _ _ ((n.grips.map (·.lo)).flatMap encI)
        iterate 10 (refine ownsRow_setCell_below (a := ⟨_, _, _⟩) ?_ iw6.out _)
        exact H1

set_option maxHeartbeats 1000000 in
theorem best_c (r : NetR) (n : Net) (B : Nat) (w : World) [hB : Le B w] (h : NetIs B w r n) (h3 : n.grips.length ≤ 3) :
    Calls Tryd.prog 68 #[netV r n] w fun e w' => ∃ (rt : TruR) (δ : World), e = .returned (rowV r n rt (bestT n)) ∧ w' = lat w δ ∧ TruIs (lat w δ).heap.size (lat w δ) rt (bestT n) := by
  go_enter Tryd.func68, Tryd.ntmps68
  go_wp2_with (fail)
  refine wp_name fun W1 hW1 => ?_
  have iw1 : Le B W1 := by rw [hW1.out]; infer_instance
  have iw2 : Grew B w W1 := by rw [hW1.out]; infer_instance
  have iw3 : Le w.heap.size W1 := by rw [hW1.out]; infer_instance
  have iw4 : Grew w.heap.size w W1 := by rw [hW1.out]; infer_instance
  have iw5 : Lt (w.heap.size) W1 := by rw [hW1.out]; infer_instance
  have iw6 : Lt (w.heap.size + 1) W1 := by rw [hW1.out]; infer_instance
  have iw7 : Lt (w.heap.size + 1 + 1) W1 := by rw [hW1.out]; infer_instance
  have cw8 : W1.cell? ⟨w.heap.size, 0, none⟩ = some (.int .i64 n.wind.lo) := by rw [hW1.out]; go_simp
  have cw9 : W1.cell? ⟨w.heap.size, 1, none⟩ = some (.int .i64 n.wind.hi) := by rw [hW1.out]; go_simp
  have cw10 : W1.cell? ⟨w.heap.size, 2, none⟩ = some (.int .i64 n.cur.lo) := by rw [hW1.out]; go_simp
  have cw11 : W1.cell? ⟨w.heap.size, 3, none⟩ = some (.int .i64 n.cur.hi) := by rw [hW1.out]; go_simp
  have cw12 : W1.cell? ⟨w.heap.size, 4, none⟩ = some (.slice r.gA n.grips.length r.gc) := by rw [hW1.out]; go_simp
  have cw13 : W1.cell? ⟨w.heap.size, 5, none⟩ = some (.slice r.aA n.ancs.length r.ac) := by rw [hW1.out]; go_simp
  have cw14 : W1.cell? ⟨w.heap.size, 6, none⟩ = some (.slice r.wA n.wals.length r.wc) := by rw [hW1.out]; go_simp
  have cw15 : W1.cell? ⟨w.heap.size + 1, 0, none⟩ = some (.int .i64 0) := by rw [hW1.out]; go_simp
  have cw16 : W1.cell? ⟨w.heap.size + 1, 1, none⟩ = some (.int .i64 0) := by rw [hW1.out]; go_simp
  have cw17 : W1.cell? ⟨w.heap.size + 1, 2, none⟩ = some (.int .i64 0) := by rw [hW1.out]; go_simp
  have cw18 : W1.cell? ⟨w.heap.size + 1, 3, none⟩ = some (.int .i64 0) := by rw [hW1.out]; go_simp
  have cw19 : W1.cell? ⟨w.heap.size + 1, 4, none⟩ = some (.slice none 0 0) := by rw [hW1.out]; go_simp
  have cw20 : W1.cell? ⟨w.heap.size + 1, 5, none⟩ = some (.slice none 0 0) := by rw [hW1.out]; go_simp
  have cw21 : W1.cell? ⟨w.heap.size + 1, 6, none⟩ = some (.slice none 0 0) := by rw [hW1.out]; go_simp
  have cw22 : W1.cell? ⟨w.heap.size + 1, 7, none⟩ = some (.int .i64 0) := by rw [hW1.out]; go_simp
  have cw23 : W1.cell? ⟨w.heap.size + 1, 8, none⟩ = some (.int .i64 0) := by rw [hW1.out]; go_simp
  have cw24 : W1.cell? ⟨w.heap.size + 1, 9, none⟩ = some (.slice none 0 0) := by rw [hW1.out]; go_simp
  have fw25 : W1.frozen? ⟨w.heap.size + 1, 0, none⟩ = false := by rw [hW1.out]; go_simp
  have fw26 : W1.frozen? ⟨w.heap.size + 1, 1, none⟩ = false := by rw [hW1.out]; go_simp
  have fw27 : W1.frozen? ⟨w.heap.size + 1, 2, none⟩ = false := by rw [hW1.out]; go_simp
  have fw28 : W1.frozen? ⟨w.heap.size + 1, 3, none⟩ = false := by rw [hW1.out]; go_simp
  have fw29 : W1.frozen? ⟨w.heap.size + 1, 4, none⟩ = false := by rw [hW1.out]; go_simp
  have fw30 : W1.frozen? ⟨w.heap.size + 1, 5, none⟩ = false := by rw [hW1.out]; go_simp
  have fw31 : W1.frozen? ⟨w.heap.size + 1, 6, none⟩ = false := by rw [hW1.out]; go_simp
  have fw32 : W1.frozen? ⟨w.heap.size + 1, 7, none⟩ = false := by rw [hW1.out]; go_simp
  have fw33 : W1.frozen? ⟨w.heap.size + 1, 8, none⟩ = false := by rw [hW1.out]; go_simp
  have fw34 : W1.frozen? ⟨w.heap.size + 1, 9, none⟩ = false := by rw [hW1.out]; go_simp
  have cw35 : W1.cell? ⟨w.heap.size + 1 + 1, 0, none⟩ = some (.int .i64 n.wind.lo) := by rw [hW1.out]; go_simp
  have cw36 : W1.cell? ⟨w.heap.size + 1 + 1, 1, none⟩ = some (.int .i64 n.cur.lo) := by rw [hW1.out]; go_simp
  have cw37 : W1.cell? ⟨w.heap.size + 1 + 1, 2, none⟩ = some (.slice none 0 0) := by rw [hW1.out]; go_simp
  have fw38 : W1.frozen? ⟨w.heap.size + 1 + 1, 2, none⟩ = false := by rw [hW1.out]; go_simp
  have s1 : Sl encSp B W1 r.gA r.gc n.grips := h.1.up
  have hlen := s1.len
  go_loopw [16] (fun i wr => ∃ (k : Nat) (A : Option Addr) (c : Nat), k ≤ n.grips.length ∧ i = .int .i64 k ∧ wr.ownsRow W1.heap.size 3 1 (.slice A k c) k (((n.grips.map (·.hi)).take k).flatMap encI) ∧ ∃ δ, wr = (lat W1 δ).setCell ⟨w.heap.size + 1 + 1, 2, none⟩ (.slice A k c)) (fun i _ => n.grips.length - (intOf i).toNat)
  case atStart =>
    refine ⟨0, none, 0, Nat.zero_le _, rfl, by simpa using World.ownsRow_nil _ _ _ _, W1, ?_⟩
    rw [lat_refl, setCell_self (by assumption)]
  case round =>
    obtain ⟨k, A, c, hk, rfl, hown, δ, rfl⟩ := hrel
    by_cases hlt : k < n.grips.length
    · obtain ⟨b, o, hA, hb, d0, d1⟩ := s1.sp hlt
      have ib : Lt b W1 := ⟨Nat.lt_of_lt_of_le hb iw1.out⟩
      have in1 : NeN b (w.heap.size + 1 + 1) := ⟨by have := hB.out; omega⟩
      have HA := Lib.hid hA
      have HO := Lib.hid hown
      clear hA hown
      rw [HA.out]
      go_wp2_with (at_builtin; (refine wpList_append_new W1 slI (.tmp 21) (.tmp 24) rfl rfl (HO.out.alloc _) rfl rfl (by go_simp) rfl (by simp [Value.oneCell']) (by omega) (by omega) ?_); intro A' c' δ' hown')
      go_roundw
      case rel =>
        refine ⟨k + 1, A', c', by omega, by go_num, ?_, set_back (w0 := W1) δ (.slice A k c) (.slice A' (k + 1) c') (by assumption) below_inst⟩
        have := ownsRow_setCell_below hown' (a := ⟨w.heap.size + 1 + 1, 2, none⟩) iw7.out (.slice A' (k + 1) c')
        rw [flatMap_snoc encI (n.grips.map (·.hi)) (by simpa using hlt), nth_map _ _ hlt]
        exact this
      case measure => simp [intOf]; omega
    · obtain rfl : k = n.grips.length := by omega
      have HO := Lib.hid hown
      clear hown
      have in2 : NeN (w.heap.size + 1) (w.heap.size + 1 + 1) := ⟨by omega⟩
      go_wp2_with (fail)
      refine bodyPost_ret (v := rowV r n ⟨A, c⟩ (bestT n)) ?_ rfl ?_
      · simp only [results, Tryd.results68]
        go_simp
        simp [bestT]
      · refine ⟨⟨A, c⟩, _, rfl, lat_def, ?_⟩
        rw [← lat_def (w := w)]
        have H1 := HO.out
        rw [List.take_of_length_le (by simp)] at H1
        refine Sl.of_own (base := W1.heap.size) (e := 3) (size := 1) ?_
        rw [show (bestT n).grips.length = n.grips.length by simp [bestT]]
        show (_ : World).ownsRow W1.heap.size 3 1 _ _ ((n.grips.map (·.hi)).flatMap encI)
        iterate 10 (refine ownsRow_setCell_below (a := ⟨_, _, _⟩) ?_ iw6.out _)
        exact H1

end Go.Proofs.YtgpcaaknpfopgaaDoor
