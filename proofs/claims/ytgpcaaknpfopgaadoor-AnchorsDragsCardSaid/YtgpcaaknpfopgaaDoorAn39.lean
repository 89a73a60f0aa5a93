/- Layer 2: the walk of Key of the reference. -/
import Derived.Test.YtgpcaaknpfopgaaDoorAn38
import Derived.Outline
namespace Go.Proofs.YtgpcaaknpfopgaaDoor
open Go.RowKit
open An

namespace An
theorem keyTo_zero {n : Net} {t : Tru} : keyTo n t 0 = 0 := rfl
theorem keyTo_succ {n : Net} {t : Tru} (k : Nat) : keyTo n t (k + 1) = if (pulL n t (keyTo n t k)).length < (pulL n t k).length then k else keyTo n t k := rfl
end An

set_option maxRecDepth 100000 in
set_option maxHeartbeats 4000000 in
theorem rKey_c (r : NetR) (n : Net) (rt : TruR) (t : Tru) (B : Nat) (w : World) [hB : Le B w] (h : NetIs B w r n) (h' : TruIs B w rt t) :
    Calls Tryd.prog 62 #[netV r n, truV rt t] w fun e w' => e = .returned (.tuple #[.int .i64 (keyV n t), .int .i64 (keyE n t)]) ∧ ∃ δ, w' = lat w δ := by
  have H := Lib.hid h
  have H' := Lib.hid h'
  clear h h'
  by_cases hv : valid n = true
  all_goals try rw [Bool.not_eq_true] at hv
  all_goals
    by_cases ht : truB n t = true
    all_goals try rw [Bool.not_eq_true] at ht
  all_goals
    have HV := Lib.hid hv
    have HT := Lib.hid ht
    have HF := Lib.hid (show keyV n t = if valid n && truB n t then (keyTo n t n.ancs.length : Int) else 0 from rfl)
    have HE := Lib.hid (show keyE n t = if valid n then (if truB n t then (if n.ancs.length = 0 then 3 else 0) else 1) else 20 from rfl)
    rw [hv, ht] at HF HE
    clear hv ht
  · have h6 := (valid_iff.1 HV.out).2.2.2.1
    have HK := Lib.hid (okTru_of HV.out HT.out)
    by_cases h0 : n.ancs.length = 0
    · have hz : ((n.ancs.length : Int) == 0) = true := by rw [beq0]; exact decide_eq_true h0
      have H0 := Lib.hid h0
      have HE0 := Lib.hid (show keyE n t = 3 by rw [HE.out, if_pos rfl, if_pos rfl, if_pos h0])
      clear h0
      go_enter Tryd.func62, Tryd.ntmps62
      go_wp2_with (go_at_call 107; refine (rGiven_c r n rt t B _ H.out.up H'.out.up).mono ?_; rw [HV.out, HT.out]; rintro e w1 ⟨rfl, δ, rfl⟩)
      go_ret2
      exact ⟨ret2 (int_eq (by rw [HF.out, H0.out]; rfl)) (int_eq (by rw [HE0.out])), lat_ex⟩
    · have hz : ((n.ancs.length : Int) == 0) = false := by rw [beq0]; exact decide_eq_false h0
      have hpos : 0 < n.ancs.length := by omega
      have HE0 := Lib.hid (show keyE n t = 0 by rw [HE.out, if_pos rfl, if_pos rfl, if_neg h0])
      clear h0
      go_enter Tryd.func62, Tryd.ntmps62
      go_upto_region 6 with (go_at_call 107; refine (rGiven_c r n rt t B _ H.out.up H'.out.up).mono ?_; rw [HV.out, HT.out]; rintro e w1 ⟨rfl, δ, rfl⟩)
      refine wp_name fun W1 hW1 => ?_
      have iw1 : Le B W1 := by rw [hW1.out]; infer_instance
      have iw2 : Grew B w W1 := by rw [hW1.out]; infer_instance
      have iw3 : Le w.heap.size W1 := by rw [hW1.out]; infer_instance
      have iw4 : Grew w.heap.size w W1 := by rw [hW1.out]; infer_instance
      have iw5 : Lt (w.heap.size) W1 := by rw [hW1.out]; infer_instance
      have iw6 : Lt (w.heap.size + 1) W1 := by rw [hW1.out]; infer_instance
      have cw7 : W1.cell? ⟨w.heap.size, 0, none⟩ = some (.int .i64 n.wind.lo) := by rw [hW1.out]; go_simp
      have cw8 : W1.cell? ⟨w.heap.size, 1, none⟩ = some (.int .i64 n.wind.hi) := by rw [hW1.out]; go_simp
      have cw9 : W1.cell? ⟨w.heap.size, 2, none⟩ = some (.int .i64 n.cur.lo) := by rw [hW1.out]; go_simp
      have cw10 : W1.cell? ⟨w.heap.size, 3, none⟩ = some (.int .i64 n.cur.hi) := by rw [hW1.out]; go_simp
      have cw11 : W1.cell? ⟨w.heap.size, 4, none⟩ = some (.slice r.gA n.grips.length r.gc) := by rw [hW1.out]; go_simp
      have cw12 : W1.cell? ⟨w.heap.size, 5, none⟩ = some (.slice r.aA n.ancs.length r.ac) := by rw [hW1.out]; go_simp
      have cw13 : W1.cell? ⟨w.heap.size, 6, none⟩ = some (.slice r.wA n.wals.length r.wc) := by rw [hW1.out]; go_simp
      have cw14 : W1.cell? ⟨w.heap.size + 1, 0, none⟩ = some (.int .i64 t.wind) := by rw [hW1.out]; go_simp
      have cw15 : W1.cell? ⟨w.heap.size + 1, 1, none⟩ = some (.int .i64 t.cur) := by rw [hW1.out]; go_simp
      have cw16 : W1.cell? ⟨w.heap.size + 1, 2, none⟩ = some (.slice rt.tA t.grips.length rt.tc) := by rw [hW1.out]; go_simp
      have g1 : NetIs B W1 r n := H.out.up
      have g2 : TruIs B W1 rt t := H'.out.up
      go_wp2_with (fail)
      go_loopg [7, 8] n.ancs.length (fun g ky i wr => ∃ (k : Nat) (δ : World), k ≤ n.ancs.length ∧ g = n.ancs.length - k ∧ ky = .int .i64 (keyTo n t k) ∧ i = .int .i64 k ∧ wr = lat W1 δ)
      case atStart => exact ⟨0, W1, Nat.zero_le _, rfl, rfl, rfl, (lat_refl W1).symm⟩
      case round =>
        obtain ⟨k, δ, hk, rfl, rfl, rfl, rfl⟩ := hrel
        have hkl := keyTo_lt n t hk hpos
        by_cases hlt : k < n.ancs.length
        · have hp1 := pulL_le n t k
          have hp2 := pulL_le n t (keyTo n t k)
          have hst := keyTo_succ (n := n) (t := t) k
          obtain ⟨q, hq⟩ : ∃ q, q = keyTo n t k := ⟨_, rfl⟩
          rw [← hq] at hst hkl hp2 ⊢
          clear hq
          by_cases hm : (pulL n t q).length < (pulL n t k).length
          all_goals
            rw [show (if (pulL n t q).length < (pulL n t k).length then k else q) = _ from by first | exact if_pos hm | exact if_neg hm] at hst
            have HS := Lib.hid hst
            have hm1 := hm
            clear hst
          · have hm' : decide ((pulL n t q).length < (pulL n t k).length) = true := decide_eq_true hm
            clear hm
            go_wp2_with (fail)
            go_region_held3 (fun W => W.cell? ⟨w.heap.size, 0, none⟩ = some (.int .i64 n.wind.lo) ∧ W.cell? ⟨w.heap.size, 1, none⟩ = some (.int .i64 n.wind.hi) ∧ W.cell? ⟨w.heap.size, 2, none⟩ = some (.int .i64 n.cur.lo) ∧ W.cell? ⟨w.heap.size, 3, none⟩ = some (.int .i64 n.cur.hi) ∧ W.cell? ⟨w.heap.size, 4, none⟩ = some (.slice r.gA n.grips.length r.gc) ∧ W.cell? ⟨w.heap.size, 5, none⟩ = some (.slice r.aA n.ancs.length r.ac) ∧ W.cell? ⟨w.heap.size, 6, none⟩ = some (.slice r.wA n.wals.length r.wc) ∧ W.cell? ⟨w.heap.size + 1, 0, none⟩ = some (.int .i64 t.wind) ∧ W.cell? ⟨w.heap.size + 1, 1, none⟩ = some (.int .i64 t.cur) ∧ W.cell? ⟨w.heap.size + 1, 2, none⟩ = some (.slice rt.tA t.grips.length rt.tc))
              (refine ⟨?_, ?_, ?_, ?_, ?_, ?_, ?_, ?_, ?_, ?_⟩ <;> go_simp)
              (first
                | (go_at_call 98; refine (atLast1_c r n rt t k _ B _ g1.up g2.up HK.out hlt ?_).mono ?_; (focus (go_simp; done)); unfold AtLastPost; rintro e w1 ⟨A, c, δ2, rfl, rfl, hS⟩)
                | (go_at_call 98; refine (atLast1_c r n rt t q _ B _ g1.up g2.up HK.out hkl ?_).mono ?_; (focus (go_simp; done)); unfold AtLastPost; rintro e w1 ⟨A', c', δ3, rfl, rfl, hS'⟩))
            all_goals
              go_wp2_with (fail)
              go_roundg (n.ancs.length - (k + 1))
              case measure => omega
              case rel => exact ⟨k + 1, _, by omega, rfl, int_eq (by rw [HS.out]), by go_num, lat_def⟩
          · have hm' : decide ((pulL n t q).length < (pulL n t k).length) = false := decide_eq_false hm
            clear hm
            go_wp2_with (fail)
            go_region_held3 (fun W => W.cell? ⟨w.heap.size, 0, none⟩ = some (.int .i64 n.wind.lo) ∧ W.cell? ⟨w.heap.size, 1, none⟩ = some (.int .i64 n.wind.hi) ∧ W.cell? ⟨w.heap.size, 2, none⟩ = some (.int .i64 n.cur.lo) ∧ W.cell? ⟨w.heap.size, 3, none⟩ = some (.int .i64 n.cur.hi) ∧ W.cell? ⟨w.heap.size, 4, none⟩ = some (.slice r.gA n.grips.length r.gc) ∧ W.cell? ⟨w.heap.size, 5, none⟩ = some (.slice r.aA n.ancs.length r.ac) ∧ W.cell? ⟨w.heap.size, 6, none⟩ = some (.slice r.wA n.wals.length r.wc) ∧ W.cell? ⟨w.heap.size + 1, 0, none⟩ = some (.int .i64 t.wind) ∧ W.cell? ⟨w.heap.size + 1, 1, none⟩ = some (.int .i64 t.cur) ∧ W.cell? ⟨w.heap.size + 1, 2, none⟩ = some (.slice rt.tA t.grips.length rt.tc))
              (refine ⟨?_, ?_, ?_, ?_, ?_, ?_, ?_, ?_, ?_, ?_⟩ <;> go_simp)
              (first
                | (go_at_call 98; refine (atLast1_c r n rt t k _ B _ g1.up g2.up HK.out hlt ?_).mono ?_; (focus (go_simp; done)); unfold AtLastPost; rintro e w1 ⟨A, c, δ2, rfl, rfl, hS⟩)
                | (go_at_call 98; refine (atLast1_c r n rt t q _ B _ g1.up g2.up HK.out hkl ?_).mono ?_; (focus (go_simp; done)); unfold AtLastPost; rintro e w1 ⟨A', c', δ3, rfl, rfl, hS'⟩))
            all_goals
              go_wp2_with (fail)
              go_roundg (n.ancs.length - (k + 1))
              case measure => omega
              case rel => exact ⟨k + 1, _, by omega, rfl, int_eq (by rw [HS.out]), by go_num, lat_def⟩
        · obtain rfl : k = n.ancs.length := by omega
          go_wp2_with (fail)
          go_ret2
          exact ⟨ret2 (int_eq (by rw [HF.out]; rfl)) (int_eq (by rw [HE0.out])), lat_ex⟩
  all_goals
    go_enter Tryd.func62, Tryd.ntmps62
    go_wp2_with (go_at_call 107; refine (rGiven_c r n rt t B _ H.out.up H'.out.up).mono ?_; rw [HV.out, HT.out]; rintro e w1 ⟨rfl, δ, rfl⟩)
    go_ret2
    exact ⟨ret2 (int_eq (by rw [HF.out]; rfl)) (int_eq (by rw [HE.out]; rfl)), lat_ex⟩

end Go.Proofs.YtgpcaaknpfopgaaDoor
