/- Layer 2: the walks of more and AtLast of the reference. -/
import Derived.Test.YtgpcaaknpfopgaaDoorAn12
import Derived.Test.YtgpcaaknpfopgaaDoorAnPlain2
namespace Go.Proofs.YtgpcaaknpfopgaaDoor
open Go.RowKit
open An

/-- The list that 'more' returns, up to anchor k. -/
def moreV (n : Net) (t : Tru) (L : List Int) (k : Nat) : List Int := rangeL k (stepB n t (inL L))
theorem stepB_in {n : Net} {t : Tru} {d : Nat → Bool} {i : Nat} (h : d i = true) : stepB n t d i = true := by unfold stepB; rw [h]; rfl

theorem in_is {A : Option Addr} {c : Nat} {L : List Int} {x : Int} {b : Bool} (hb : isIn L x = b) {B : Nat} {w : World} (h : Sl encI B w A c L) :
    Calls Tryd.prog 55 #[.slice A L.length c, .int .i64 x] w fun e w' => e = .returned (.bool b) ∧ w = w' := hb ▸ in_c A c L x B w h

set_option maxHeartbeats 4000000 in
theorem more_c (r : NetR) (n : Net) (rt : TruR) (t : Tru) (A : Option Addr) (c : Nat) (L : List Int) (B : Nat) (w : World) [hB : Le B w] (h : NetIs B w r n) (h' : TruIs B w rt t) (hL : Sl encI B w A c L) (ht : okTru n t) :
    Calls Tryd.prog 108 #[netV r n, truV rt t, .slice A L.length c] w fun e w' => ∃ (A' : Option Addr) (c' : Nat) (δ : World), e = .returned (.slice A' (moreV n t L n.ancs.length).length c') ∧ w' = lat w δ ∧ Sl encI (lat w δ).heap.size (lat w δ) A' c' (moreV n t L n.ancs.length) := by
  have h6 := (valid_iff.1 ht.1).2.2.2.1
  go_enter Tryd.func108, Tryd.ntmps108
  go_wp2_with (fail)
  refine wp_name fun W1 hW1 => ?_
  have iw1 : Le B W1 := by rw [hW1.out]; infer_instance
  have iw2 : Grew B w W1 := by rw [hW1.out]; infer_instance
  have iw3 : Le w.heap.size W1 := by rw [hW1.out]; infer_instance
  have iw4 : Grew w.heap.size w W1 := by rw [hW1.out]; infer_instance
  have iw5 : Lt (w.heap.size) W1 := by rw [hW1.out]; infer_instance
  have iw6 : Lt (w.heap.size + 1) W1 := by rw [hW1.out]; infer_instance
  have cw7 : W1.cell? ⟨w.heap.size, 0, none⟩ = some (.int .i64 n.wind.lo) := by rw [hW1.out]; go_simp
  have cw8 : W1.cell? ⟨w.heap.size, 1, none⟩ = some (.int .i64 n.wind.hi) := by rw [hW1.out]; go_simp
  have cw9 : W1.cell? ⟨w.heap.size, 2, none⟩ = some (.int .i64 n.cur.lo) := by rw [hW1.out]; go_simp
  have cw10 : W1.cell? ⟨w.heap.size, 3, none⟩ = some (.int .i64 n.cur.hi) := by rw [hW1.out]; go_simp
  have cw11 : W1.cell? ⟨w.heap.size, 4, none⟩ = some (.slice r.gA n.grips.length r.gc) := by rw [hW1.out]; go_simp
  have cw12 : W1.cell? ⟨w.heap.size, 5, none⟩ = some (.slice r.aA n.ancs.length r.ac) := by rw [hW1.out]; go_simp
  have cw13 : W1.cell? ⟨w.heap.size, 6, none⟩ = some (.slice r.wA n.wals.length r.wc) := by rw [hW1.out]; go_simp
  have cw14 : W1.cell? ⟨w.heap.size + 1, 0, none⟩ = some (.int .i64 t.wind) := by rw [hW1.out]; go_simp
  have cw15 : W1.cell? ⟨w.heap.size + 1, 1, none⟩ = some (.int .i64 t.cur) := by rw [hW1.out]; go_simp
  have cw16 : W1.cell? ⟨w.heap.size + 1, 2, none⟩ = some (.slice rt.tA t.grips.length rt.tc) := by rw [hW1.out]; go_simp
  have g1 : NetIs B W1 r n := h.up
  have g2 : TruIs B W1 rt t := h'.up
  have g3 : Sl encI B W1 A c L := hL.up
  go_loopw [7, 8] (fun o i wr => ∃ (k c' : Nat) (A' : Option Addr) (δ : World), k ≤ n.ancs.length ∧ i = .int .i64 k ∧ o = .slice A' (moreV n t L k).length c' ∧ wr.ownsRow W1.heap.size 3 1 (.slice A' (moreV n t L k).length c') (moreV n t L k).length ((moreV n t L k).flatMap encI) ∧ wr = lat W1 δ) (fun _ i _ => n.ancs.length - (intOf i).toNat)
  case atStart => exact ⟨0, 0, none, W1, Nat.zero_le _, rfl, rfl, World.ownsRow_nil _ _ _ _, (lat_refl W1).symm⟩
  case round =>
    obtain ⟨k, c', A', δ, hk, rfl, rfl, hown, rfl⟩ := hrel
    have HO := Lib.hid hown
    clear hown
    by_cases hlt : k < n.ancs.length
    · have hle : (moreV n t L k).length ≤ k := rangeL_len _ _
      have hS : moreV n t L (k + 1) = moreV n t L k ++ (if stepB n t (inL L) k = true then [(k : Int)] else []) := rangeL_succ _ _
      have hbb := bears_bd ht (d := inL L) hlt
      have hcb := (can_bd ht hlt).2.2.2.2.2.2
      by_cases hin : isIn L k = true
      case pos =>
        have HS := Lib.hid (show moreV n t L (k + 1) = moreV n t L k ++ [(k : Int)] by rw [hS, if_pos (stepB_in hin)])
        clear hS
        go_wp2_with (fail)
        refine wp_region_lat (by kernel_rfl) (by kernel_rfl) ?_
        repeat (go_big_quiet_step ((first | (go_at_call 55; exact Calls.lat_same (in_is hin g3.up)) | (go_at_call 104; exact Calls.lat_of (rBears_c r n rt t k A c L B _ g1.up g3.up ht hlt)) | (go_at_call 103; exact Calls.lat_of (rCan_c r n rt t k B _ g1.up g2.up ht hlt)))))
        refine wpQuiet_nil ?_
        rintro _ ⟨δq, rfl⟩
        go_wp2_with (at_builtin; (refine wpList_append_new W1 slI (.tmp 31) (.tmp 33) rfl rfl (owns_lat _ HO.out) rfl rfl (by go_simp) rfl (by simp [Value.oneCell']) (by omega) (by omega) ?_); intro A'' c'' δ' hown')
        go_roundw
        case rel =>
          have e1 : (moreV n t L (k + 1)).length = (moreV n t L k).length + 1 := by rw [HS.out]; simp
          refine ⟨k + 1, c'', A'', _, by omega, by go_num, by rw [e1], ?_, lat_def⟩
          rw [e1, HS.out, List.flatMap_append]
          exact hown'
        case measure => simp [intOf]; omega
      case neg =>
        rw [Bool.not_eq_true] at hin
        by_cases hsp : can n t k < bears n t k (inL L)
        case pos =>
          have HS := Lib.hid (show moreV n t L (k + 1) = moreV n t L k ++ [(k : Int)] by rw [hS, if_pos (by unfold stepB spare; simp [hlt]; omega)])
          clear hS
          go_wp2_with (fail)
          refine wp_region_lat (by kernel_rfl) (by kernel_rfl) ?_
          repeat (go_big_quiet_step ((first | (go_at_call 55; exact Calls.lat_same (in_is hin g3.up)) | (go_at_call 104; exact Calls.lat_of (rBears_c r n rt t k A c L B _ g1.up g3.up ht hlt)) | (go_at_call 103; exact Calls.lat_of (rCan_c r n rt t k B _ g1.up g2.up ht hlt)))))
          refine wpQuiet_nil ?_
          rintro _ ⟨δq, rfl⟩
          go_wp2_with (at_builtin; (refine wpList_append_new W1 slI (.tmp 31) (.tmp 33) rfl rfl (owns_lat _ HO.out) rfl rfl (by go_simp) rfl (by simp [Value.oneCell']) (by omega) (by omega) ?_); intro A'' c'' δ' hown')
          go_roundw
          case rel =>
            have e1 : (moreV n t L (k + 1)).length = (moreV n t L k).length + 1 := by rw [HS.out]; simp
            refine ⟨k + 1, c'', A'', _, by omega, by go_num, by rw [e1], ?_, lat_def⟩
            rw [e1, HS.out, List.flatMap_append]
            exact hown'
          case measure => simp [intOf]; omega
        case neg =>
          have HS := Lib.hid (show moreV n t L (k + 1) = moreV n t L k by rw [hS, if_neg (by unfold stepB spare; simp [inL, hin]; omega), List.append_nil])
          clear hS
          go_wp2_with (fail)
          refine wp_region_lat (by kernel_rfl) (by kernel_rfl) ?_
          repeat (go_big_quiet_step ((first | (go_at_call 55; exact Calls.lat_same (in_is hin g3.up)) | (go_at_call 104; exact Calls.lat_of (rBears_c r n rt t k A c L B _ g1.up g3.up ht hlt)) | (go_at_call 103; exact Calls.lat_of (rCan_c r n rt t k B _ g1.up g2.up ht hlt)))))
          refine wpQuiet_nil ?_
          rintro _ ⟨δq, rfl⟩
          go_wp2_with (fail)
          go_roundw
          case rel =>
            refine ⟨k + 1, c', A', _, by omega, by go_num, by rw [HS.out], ?_, lat_def⟩
            rw [HS.out]
            exact owns_lat _ HO.out
          case measure => simp [intOf]; omega
    · obtain rfl : k = n.ancs.length := by omega
      go_wp2_with (fail)
      go_ret
      exact ⟨A', c', _, rfl, lat_def, sl_def (Sl.of_own HO.out)⟩

end Go.Proofs.YtgpcaaknpfopgaaDoor
