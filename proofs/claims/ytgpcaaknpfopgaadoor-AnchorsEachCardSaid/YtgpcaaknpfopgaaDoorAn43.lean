/- Layer 2: the walk of the law AnchorsEach, where Safe says Surely. -/
import Derived.Test.YtgpcaaknpfopgaaDoorAn42
namespace Go.Proofs.YtgpcaaknpfopgaaDoor
open Go.RowKit
open An

set_option maxRecDepth 100000 in
set_option maxHeartbeats 8000000 in
theorem lawEach1_c (r : NetR) (n : Net) (rt : TruR) (t : Tru) (B : Nat) (w : World) [hB : Le B w] [h2 : Le 2 w] (h : NetIs B w r n) (h' : TruIs B w rt t) (hT : TabIs w) (hs : valid n = true → truB n t = true → Hid (safeX n = 1) ∧ decide (0 < (firstV n t).length) = false) :
    Calls Tryd.prog 12 #[netV r n, truV rt t] w fun e w' => e = .returned (.bool true) ∧ ∃ δ, w' = lat w δ := by
  have HT := Lib.hid hT
  have H := Lib.hid h
  have Ht := Lib.hid h'
  clear hT h h'
  go_enter Tryd.func12, Tryd.ntmps12
  go_wp2_with (fail)
  refine (given_c r n rt t B _ H.out.up Ht.out.up).mono ?_
  unfold GivenPost
  rintro e w1 ⟨b, rfl, hb, δ, rfl⟩
  cases b
  · go_wp2_with (go_at_call 16; refine (works_c _ (HT.out.up Grew.out)).mono ?_; rintro e w1 ⟨rfl, δ6, rfl⟩)
    go_ret
    exact ⟨rfl, lat_ex⟩
  have Q1 := Lib.hid (hb rfl)
  clear hb
  have h6 := (valid_iff.1 Q1.out.1).2.2.2.1
  have hq : t.grips.length ≤ 1000 := by
    have := (okTru_of Q1.out.1 Q1.out.2.2).2.2.2.1
    have := (valid_iff.1 Q1.out.1).2.2.1
    omega
  have HR := Lib.hid (first_rises Q1.out.1 Q1.out.2.2)
  have HP := Lib.hid (first_part Q1.out.1 Q1.out.2.2)
  go_upto_region 3 with fail
  refine wp_name fun W1 hW1 => ?_
  have iw1 : Le B W1 := by rw [hW1.out]; infer_instance
  have iw2 : Grew B w W1 := by rw [hW1.out]; infer_instance
  have iw3 : Le 2 W1 := by rw [hW1.out]; infer_instance
  have iw4 : Grew 2 w W1 := by rw [hW1.out]; infer_instance
  have iw5 : Le w.heap.size W1 := by rw [hW1.out]; infer_instance
  have iw6 : Grew w.heap.size w W1 := by rw [hW1.out]; infer_instance
  have iw7 : Lt (w.heap.size) W1 := by rw [hW1.out]; infer_instance
  have iw8 : Lt (w.heap.size + 1) W1 := by rw [hW1.out]; infer_instance
  have cw9 : W1.cell? ⟨w.heap.size, 0, none⟩ = some (.int .i64 n.wind.lo) := by rw [hW1.out]; go_simp
  have cw10 : W1.cell? ⟨w.heap.size, 1, none⟩ = some (.int .i64 n.wind.hi) := by rw [hW1.out]; go_simp
  have cw11 : W1.cell? ⟨w.heap.size, 2, none⟩ = some (.int .i64 n.cur.lo) := by rw [hW1.out]; go_simp
  have cw12 : W1.cell? ⟨w.heap.size, 3, none⟩ = some (.int .i64 n.cur.hi) := by rw [hW1.out]; go_simp
  have cw13 : W1.cell? ⟨w.heap.size, 4, none⟩ = some (.slice r.gA n.grips.length r.gc) := by rw [hW1.out]; go_simp
  have cw14 : W1.cell? ⟨w.heap.size, 5, none⟩ = some (.slice r.aA n.ancs.length r.ac) := by rw [hW1.out]; go_simp
  have cw15 : W1.cell? ⟨w.heap.size, 6, none⟩ = some (.slice r.wA n.wals.length r.wc) := by rw [hW1.out]; go_simp
  have cw16 : W1.cell? ⟨w.heap.size + 1, 0, none⟩ = some (.int .i64 t.wind) := by rw [hW1.out]; go_simp
  have cw17 : W1.cell? ⟨w.heap.size + 1, 1, none⟩ = some (.int .i64 t.cur) := by rw [hW1.out]; go_simp
  have cw18 : W1.cell? ⟨w.heap.size + 1, 2, none⟩ = some (.slice rt.tA t.grips.length rt.tc) := by rw [hW1.out]; go_simp
  have T1 := Lib.hid (HT.out.up iw4.out)
  go_wp2_with (fail)
  go_region_held3 (fun W => W.cell? ⟨w.heap.size, 0, none⟩ = some (.int .i64 n.wind.lo) ∧ W.cell? ⟨w.heap.size, 1, none⟩ = some (.int .i64 n.wind.hi) ∧ W.cell? ⟨w.heap.size, 2, none⟩ = some (.int .i64 n.cur.lo) ∧ W.cell? ⟨w.heap.size, 3, none⟩ = some (.int .i64 n.cur.hi) ∧ W.cell? ⟨w.heap.size, 4, none⟩ = some (.slice r.gA n.grips.length r.gc) ∧ W.cell? ⟨w.heap.size, 5, none⟩ = some (.slice r.aA n.ancs.length r.ac) ∧ W.cell? ⟨w.heap.size, 6, none⟩ = some (.slice r.wA n.wals.length r.wc) ∧ W.cell? ⟨w.heap.size + 1, 0, none⟩ = some (.int .i64 t.wind) ∧ W.cell? ⟨w.heap.size + 1, 1, none⟩ = some (.int .i64 t.cur) ∧ W.cell? ⟨w.heap.size + 1, 2, none⟩ = some (.slice rt.tA t.grips.length rt.tc))
    (refine ⟨?_, ?_, ?_, ?_, ?_, ?_, ?_, ?_, ?_, ?_⟩ <;> go_simp)
    (first
      | (go_at_call 52; refine (copyTruth_c rt t B _ Ht.out.up hq).mono ?_; rintro e w1 ⟨rt', δ, rfl, rfl, hc⟩)
      | (go_at_call 51; refine (first_k r n rt' t Q1.out.1 Q1.out.2.2 _ _ H.out.wide hc.wide (T1.out.up Grew.out)).mono ?_; rintro e w1 ⟨A1, c1, δ1, rfl, rfl, hS1⟩))
  go_wp2_with (fail)
  refine (lawDrags_c r n rt t B _ H.out.up Ht.out.up (T1.out.up Grew.out) Q1.out.1 Q1.out.2.2).mono ?_
  rintro e w1 ⟨A2, c2, δ2, rfl, rfl, hS2⟩
  have kk := hs Q1.out.1 Q1.out.2.2
  clear hs
  obtain ⟨k1, k2⟩ := kk
  all_goals
    go_wp2_with (fail)
    refine (safe_k r n _ k1.out Q1.out.1 B _ H.out.up).mono ?_
    rintro e w1 ⟨rfl, δ3, rfl⟩
    go_wp2_with (fail)
    refine (rising_c A1 c1 (firstV n t) 0 ((n.ancs.length : Int) - 1) _ _ hS1.wide HR.out _ rfl).mono ?_
    rintro e w1 ⟨rfl, δ4, rfl⟩
    go_wp2_with (fail)
    refine (isPart_c A1 A2 c1 c2 _ _ _ _ hS1.wide hS2.wide HP.out).mono ?_
    rintro e w1 ⟨rfl, δ5, rfl⟩
    go_wp2_with (fail)
    clear k1
    try clear k2
    refine wp_name fun W2 hW2 => ?_
    have iw19 : Le B W2 := by rw [hW2.out]; infer_instance
    have iw20 : Grew B w W2 := by rw [hW2.out]; infer_instance
    have iw21 : Le 2 W2 := by rw [hW2.out]; infer_instance
    have iw22 : Grew 2 w W2 := by rw [hW2.out]; infer_instance
    have iw23 : Le w.heap.size W2 := by rw [hW2.out]; infer_instance
    have iw24 : Grew w.heap.size w W2 := by rw [hW2.out]; infer_instance
    have iw25 : Lt (w.heap.size) W2 := by rw [hW2.out]; infer_instance
    have iw26 : Lt (w.heap.size + 1) W2 := by rw [hW2.out]; infer_instance
    have cw27 : W2.cell? ⟨w.heap.size, 0, none⟩ = some (.int .i64 n.wind.lo) := by rw [hW2.out]; go_simp
    have cw28 : W2.cell? ⟨w.heap.size, 1, none⟩ = some (.int .i64 n.wind.hi) := by rw [hW2.out]; go_simp
    have cw29 : W2.cell? ⟨w.heap.size, 2, none⟩ = some (.int .i64 n.cur.lo) := by rw [hW2.out]; go_simp
    have cw30 : W2.cell? ⟨w.heap.size, 3, none⟩ = some (.int .i64 n.cur.hi) := by rw [hW2.out]; go_simp
    have cw31 : W2.cell? ⟨w.heap.size, 4, none⟩ = some (.slice r.gA n.grips.length r.gc) := by rw [hW2.out]; go_simp
    have cw32 : W2.cell? ⟨w.heap.size, 5, none⟩ = some (.slice r.aA n.ancs.length r.ac) := by rw [hW2.out]; go_simp
    have cw33 : W2.cell? ⟨w.heap.size, 6, none⟩ = some (.slice r.wA n.wals.length r.wc) := by rw [hW2.out]; go_simp
    have cw34 : W2.cell? ⟨w.heap.size + 1, 0, none⟩ = some (.int .i64 t.wind) := by rw [hW2.out]; go_simp
    have cw35 : W2.cell? ⟨w.heap.size + 1, 1, none⟩ = some (.int .i64 t.cur) := by rw [hW2.out]; go_simp
    have cw36 : W2.cell? ⟨w.heap.size + 1, 2, none⟩ = some (.slice rt.tA t.grips.length rt.tc) := by rw [hW2.out]; go_simp
    have T2 : Sl encI W2.heap.size W2 A1 c1 (firstV n t) := by rw [hW2.out]; exact hS1.wide
    have T3 : Sl encI W2.heap.size W2 A2 c2 (dragsV n t) := by rw [hW2.out]; exact hS2.wide
    go_loopg [11] n.ancs.length (fun g i wr => ∃ (k : Nat) (δ : World), k ≤ n.ancs.length ∧ g = n.ancs.length - k ∧ i = .int .i64 k ∧ wr = lat W2 δ)
    case atStart => exact ⟨0, W2, Nat.zero_le _, rfl, rfl, (lat_refl W2).symm⟩
    case round =>
      obtain ⟨k, δ, hk, rfl, rfl, rfl⟩ := hrel
      by_cases hlt : k < n.ancs.length
      · have hki : (k : Int) < (n.ancs.length : Int) := by omega
        have HK := Lib.hid hlt
        have hs1 : ¬ spare n t k (fun _ => false) < (spareV n k).lo := by have := (spareV_lo Q1.out.1 Q1.out.2.2 hlt).1; omega
        have hs2 : ¬ (spareV n k).hi < spare n t k (fun _ => false) := by have := (spareV_lo Q1.out.1 Q1.out.2.2 hlt).2; omega
        rcases drag_cases Q1.out.1 Q1.out.2.2 hlt with ⟨m1, m2⟩ | ⟨m1, m2⟩ | ⟨m1, m2⟩ | ⟨m1, m2⟩
        all_goals
          go_wp2_with (fail)
          refine (drag_k r n k _ m1.out Q1.out.1 HK.out B _ H.out.up).mono ?_
          rintro e w1 ⟨rfl, δ3, rfl⟩
          go_wp2_with (fail)
          refine (spare_k r n k Q1.out.1 HK.out B _ H.out.up).mono ?_
          rintro e w1 ⟨rfl, δ4, rfl⟩
          go_wp2_with (fail)
          refine (spareOf_c r n rt t k B _ H.out.up Ht.out.up (okTru_of Q1.out.1 Q1.out.2.2) HK.out).mono ?_
          rintro e w1 ⟨rfl, δ5, rfl⟩
          go_wp2_with (fail)
          refine (in_is m2.out T3.wide).mono ?_
          rintro e w1 ⟨rfl, rfl⟩
          clear m1 m2
          go_wp2_with (fail)
          by_cases hn : spare n t k (fun _ => false) < 0
          · refine (in_is (b := true) (by rw [first_in Q1.out.1 Q1.out.2.2 HK.out]; exact decide_eq_true hn) T2.wide).mono ?_
            rintro e w1 ⟨rfl, rfl⟩
            go_wp2_with (fail)
            go_roundg (n.ancs.length - (k + 1))
            case measure => have := HK.out; omega
            case rel => exact ⟨k + 1, _, HK.out, rfl, by go_num, lat_def⟩
          · refine (in_is (b := false) (by rw [first_in Q1.out.1 Q1.out.2.2 HK.out]; exact decide_eq_false hn) T2.wide).mono ?_
            rintro e w1 ⟨rfl, rfl⟩
            go_wp2_with (fail)
            go_roundg (n.ancs.length - (k + 1))
            case measure => have := HK.out; omega
            case rel => exact ⟨k + 1, _, HK.out, rfl, by go_num, lat_def⟩
      · obtain rfl : k = n.ancs.length := by omega
        go_wp2_with (go_at_call 16; refine (works_c _ (HT.out.up Grew.out)).mono ?_; rintro e w1 ⟨rfl, δ6, rfl⟩)
        go_ret
        exact ⟨rfl, lat_ex⟩

end Go.Proofs.YtgpcaaknpfopgaaDoor
