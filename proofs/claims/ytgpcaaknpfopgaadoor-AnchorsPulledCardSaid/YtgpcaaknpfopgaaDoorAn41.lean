/- Layer 2: the walk of the law AnchorsPulled. -/
import Derived.Test.YtgpcaaknpfopgaaDoorAnPlain8
import Derived.Test.YtgpcaaknpfopgaaDoorAn37
import Derived.Test.YtgpcaaknpfopgaaDoorAn33
import Derived.Test.YtgpcaaknpfopgaaDoorAn27
namespace Go.Proofs.YtgpcaaknpfopgaaDoor
open Go.RowKit
open An

theorem pulled_k (r : NetR) (n : Net) (rt : TruR) (t : Tru) (k : Nat) (hv : valid n = true) (ht : truB n t = true) (hk : k < n.ancs.length) (B : Nat) (w : World) [hB : Le B w] [h2 : Le 2 w] (h : NetIs B w r n) (h' : TruIs B w rt t) (hT : TabIs w) :
    Calls Tryd.prog 56 #[netV r n, truV rt t, .int .i64 k] w fun e w' => ∃ (A : Option Addr) (c : Nat) (δ : World), e = .returned (.tuple #[.slice A (pulL n t k).length c, .int .i64 0]) ∧ w' = lat w δ ∧ Sl encI (lat w δ).heap.size (lat w δ) A c (pulL n t k) := by
  have hi : inB 0 ((n.ancs.length : Int) - 1) (k : Int) = true := by rw [inB_iff]; omega
  have := pulled_c r n rt t k B w h h' hT
  rw [show pulledV n t (k : Int) = pulL n t k by unfold pulledV; rw [hv, ht, hi]; rfl, show askE (valid n) (truB n t && inB 0 ((n.ancs.length : Int) - 1) (k : Int)) = 0 by rw [hv, ht, hi]; rfl] at this
  exact this
theorem key_k (r : NetR) (n : Net) (rt : TruR) (t : Tru) (hv : valid n = true) (ht : truB n t = true) (hk : 0 < n.ancs.length) (B : Nat) (w : World) [hB : Le B w] (h : NetIs B w r n) (h' : TruIs B w rt t) :
    Calls Tryd.prog 57 #[netV r n, truV rt t] w fun e w' => e = .returned (.tuple #[.int .i64 (keyTo n t n.ancs.length), .int .i64 0]) ∧ ∃ δ, w' = lat w δ := by
  have := key_c r n rt t B w h h'
  rw [show keyV n t = keyTo n t n.ancs.length by unfold keyV; rw [hv, ht]; rfl, show keyE n t = 0 by unfold keyE; rw [hv, ht, if_pos rfl, if_pos rfl, if_neg (by omega)]] at this
  exact this

set_option maxRecDepth 100000 in
set_option maxHeartbeats 8000000 in
theorem lawPulled_c (r : NetR) (n : Net) (rt : TruR) (t : Tru) (i : Int) (B : Nat) (w : World) [hB : Le B w] [h2 : Le 2 w] (h : NetIs B w r n) (h' : TruIs B w rt t) (hT : TabIs w) :
    Calls Tryd.prog 13 #[netV r n, truV rt t, .int .i64 i] w fun e w' => e = .returned (.bool true) ∧ ∃ δ, w' = lat w δ := by
  have HT := Lib.hid hT
  have H := Lib.hid h
  have Ht := Lib.hid h'
  clear hT h h'
  go_enter Tryd.func13, Tryd.ntmps13
  go_wp2_with (fail)
  refine (given_c r n rt t B _ H.out.up Ht.out.up).mono ?_
  unfold GivenPost
  rintro e w1 ⟨b, rfl, hb, δ, rfl⟩
  cases b
  · go_wp2_with (go_at_call 16; refine (works_c _ (HT.out.up Grew.out)).mono ?_; rintro e w1 ⟨rfl, δ6, rfl⟩)
    go_ret
    exact ⟨rfl, lat_ex⟩
  have Q1 := Lib.hid (hb rfl)
  clear hb
  by_cases hi : inB 0 (n.ancs.length - 1) i = false
  · have HI := Lib.hid hi
    clear hi
    go_wp2_with (fail)
    refine (rIsAnchor_is HI.out H.out.up).mono ?_
    rintro e w1 ⟨rfl, δ1, rfl⟩
    go_wp2_with (go_at_call 16; refine (works_c _ (HT.out.up Grew.out)).mono ?_; rintro e w1 ⟨rfl, δ6, rfl⟩)
    go_ret
    exact ⟨rfl, lat_ex⟩
  rw [Bool.not_eq_false, inB_iff] at hi
  obtain ⟨k, rfl⟩ := Int.eq_ofNat_of_zero_le hi.1
  have hk : k < n.ancs.length := by omega
  have HI := Lib.hid (show inB 0 ((n.ancs.length : Int) - 1) (k : Int) = true by rw [inB_iff]; omega)
  have hkk : keyTo n t n.ancs.length < n.ancs.length := keyTo_lt n t (Nat.le_refl _) (by omega)
  have HK := Lib.hid (show inB 0 ((n.ancs.length : Int) - 1) (keyTo n t n.ancs.length : Int) = true by rw [inB_iff]; omega)
  have hpl := pulL_le n t (keyTo n t n.ancs.length)
  have hmax := key_max n t _ _ hk
  have HR := Lib.hid (show Rises (pulL n t k) 0 ((n.ancs.length : Int) - 1) from rangeL_rises n.ancs.length (lastB n t (single k)))
  have HP := Lib.hid (drags_pul Q1.out.1 Q1.out.2.2 k)
  have HJ := Lib.hid (pul_in (t := t) hk)
  have h6 := (valid_iff.1 Q1.out.1).2.2.2.1
  have HH := Lib.hid (And.intro hk (And.intro hkk (And.intro hpl hmax)))
  have hq : t.grips.length ≤ 1000 := by
    have := (okTru_of Q1.out.1 Q1.out.2.2).2.2.2.1
    have := (valid_iff.1 Q1.out.1).2.2.1
    omega
  clear hi hk hkk hpl hmax
  go_wp2_with (fail)
  refine (rIsAnchor_is HI.out H.out.up).mono ?_
  rintro e w1 ⟨rfl, δ1, rfl⟩
  go_wp2_with (fail)
  refine (lawDrags_c r n rt t B _ H.out.up Ht.out.up (HT.out.up Grew.out) Q1.out.1 Q1.out.2.2).mono ?_
  rintro e w1 ⟨A1, c1, δ2, rfl, rfl, hS1⟩
  go_upto_region 4 with fail
  refine wp_name fun W1 hW1 => ?_
  have iw1 : Le B W1 := by rw [hW1.out]; infer_instance
  have iw2 : Grew B w W1 := by rw [hW1.out]; infer_instance
  have iw3 : Le 2 W1 := by rw [hW1.out]; infer_instance
  have iw4 : Grew 2 w W1 := by rw [hW1.out]; infer_instance
  have iw5 : Le w.heap.size W1 := by rw [hW1.out]; infer_instance
  have iw6 : Grew w.heap.size w W1 := by rw [hW1.out]; infer_instance
  have iw7 : Lt (w.heap.size) W1 := by rw [hW1.out]; infer_instance
  have iw8 : Lt (w.heap.size + 1) W1 := by rw [hW1.out]; infer_instance
  have cw9 : W1.cell? ⟨w.heap.size, 0, none⟩ = some (.int .i64 n.wind.lo) := by rw [hW1.out]; go_simp
  have cw10 : W1.cell? ⟨w.heap.size, 1, none⟩ = some (.int .i64 n.wind.hi) := by rw [hW1.out]; go_simp
  have cw11 : W1.cell? ⟨w.heap.size, 2, none⟩ = some (.int .i64 n.cur.lo) := by rw [hW1.out]; go_simp
  have cw12 : W1.cell? ⟨w.heap.size, 3, none⟩ = some (.int .i64 n.cur.hi) := by rw [hW1.out]; go_simp
  have cw13 : W1.cell? ⟨w.heap.size, 4, none⟩ = some (.slice r.gA n.grips.length r.gc) := by rw [hW1.out]; go_simp
  have cw14 : W1.cell? ⟨w.heap.size, 5, none⟩ = some (.slice r.aA n.ancs.length r.ac) := by rw [hW1.out]; go_simp
  have cw15 : W1.cell? ⟨w.heap.size, 6, none⟩ = some (.slice r.wA n.wals.length r.wc) := by rw [hW1.out]; go_simp
  have cw16 : W1.cell? ⟨w.heap.size + 1, 0, none⟩ = some (.int .i64 t.wind) := by rw [hW1.out]; go_simp
  have cw17 : W1.cell? ⟨w.heap.size + 1, 1, none⟩ = some (.int .i64 t.cur) := by rw [hW1.out]; go_simp
  have cw18 : W1.cell? ⟨w.heap.size + 1, 2, none⟩ = some (.slice rt.tA t.grips.length rt.tc) := by rw [hW1.out]; go_simp
  have T1 := Lib.hid (HT.out.up iw4.out)
  have hS1' : Sl encI W1.heap.size W1 A1 c1 (dragsV n t) := by rw [hW1]; exact hS1
  go_wp2_with (fail)
  go_region_held3 (fun W => W.cell? ⟨w.heap.size, 0, none⟩ = some (.int .i64 n.wind.lo) ∧ W.cell? ⟨w.heap.size, 1, none⟩ = some (.int .i64 n.wind.hi) ∧ W.cell? ⟨w.heap.size, 2, none⟩ = some (.int .i64 n.cur.lo) ∧ W.cell? ⟨w.heap.size, 3, none⟩ = some (.int .i64 n.cur.hi) ∧ W.cell? ⟨w.heap.size, 4, none⟩ = some (.slice r.gA n.grips.length r.gc) ∧ W.cell? ⟨w.heap.size, 5, none⟩ = some (.slice r.aA n.ancs.length r.ac) ∧ W.cell? ⟨w.heap.size, 6, none⟩ = some (.slice r.wA n.wals.length r.wc) ∧ W.cell? ⟨w.heap.size + 1, 0, none⟩ = some (.int .i64 t.wind) ∧ W.cell? ⟨w.heap.size + 1, 1, none⟩ = some (.int .i64 t.cur) ∧ W.cell? ⟨w.heap.size + 1, 2, none⟩ = some (.slice rt.tA t.grips.length rt.tc))
    (refine ⟨?_, ?_, ?_, ?_, ?_, ?_, ?_, ?_, ?_, ?_⟩ <;> go_simp)
    (first
      | (go_at_call 52; refine (copyTruth_c rt t B _ Ht.out.up hq).mono ?_; rintro e w1 ⟨rt', δ, rfl, rfl, hc⟩)
      | (go_at_call 56; refine (pulled_k r n rt' t k Q1.out.1 Q1.out.2.2 HH.out.1 _ _ H.out.wide hc.wide (T1.out.up Grew.out)).mono ?_; rintro e w1 ⟨A2, c2, δ1, rfl, rfl, hS2⟩))
  go_wp2_with (fail)
  go_region_held3 (fun W => W.cell? ⟨w.heap.size, 0, none⟩ = some (.int .i64 n.wind.lo) ∧ W.cell? ⟨w.heap.size, 1, none⟩ = some (.int .i64 n.wind.hi) ∧ W.cell? ⟨w.heap.size, 2, none⟩ = some (.int .i64 n.cur.lo) ∧ W.cell? ⟨w.heap.size, 3, none⟩ = some (.int .i64 n.cur.hi) ∧ W.cell? ⟨w.heap.size, 4, none⟩ = some (.slice r.gA n.grips.length r.gc) ∧ W.cell? ⟨w.heap.size, 5, none⟩ = some (.slice r.aA n.ancs.length r.ac) ∧ W.cell? ⟨w.heap.size, 6, none⟩ = some (.slice r.wA n.wals.length r.wc) ∧ W.cell? ⟨w.heap.size + 1, 0, none⟩ = some (.int .i64 t.wind) ∧ W.cell? ⟨w.heap.size + 1, 1, none⟩ = some (.int .i64 t.cur) ∧ W.cell? ⟨w.heap.size + 1, 2, none⟩ = some (.slice rt.tA t.grips.length rt.tc))
    (refine ⟨?_, ?_, ?_, ?_, ?_, ?_, ?_, ?_, ?_, ?_⟩ <;> go_simp)
    (first
      | (go_at_call 52; refine (copyTruth_c rt t B _ Ht.out.up hq).mono ?_; rintro e w1 ⟨rt2, δ, rfl, rfl, hc2⟩)
      | (go_at_call 57; refine (key_k r n rt2 t Q1.out.1 Q1.out.2.2 (Nat.lt_of_le_of_lt (Nat.zero_le _) HH.out.1) _ _ H.out.wide hc2.wide).mono ?_; rintro e w1 ⟨rfl, δ1, rfl⟩))
  go_wp2_with (fail)
  refine (rIsAnchor_is HK.out H.out.up).mono ?_
  rintro e w1 ⟨rfl, δ3, rfl⟩
  go_wp2_with (fail)
  refine (rising_c A2 c2 (pulL n t k) 0 ((n.ancs.length : Int) - 1) _ _ hS2.wide HR.out _ rfl).mono ?_
  rintro e w1 ⟨rfl, δ4, rfl⟩
  go_wp2_with (fail)
  refine (in_is HJ.out hS2.wide).mono ?_
  rintro e w1 ⟨rfl, rfl⟩
  go_wp2_with (fail)
  refine (isPart_c A1 A2 c1 c2 _ _ _ _ hS1'.wide hS2.wide HP.out).mono ?_
  rintro e w1 ⟨rfl, δ5, rfl⟩
  go_wp2_with (fail)
  by_cases hin : isIn (dragsV n t) k = true
  · refine (in_is hin hS1'.wide).mono ?_
    rintro e w1 ⟨rfl, rfl⟩
    have hlen : (((pulL n t k).length : Int) != ((dragsV n t).length : Int)) = false := by rw [pul_drags Q1.out.1 Q1.out.2.2 hin]; exact bne_self_eq_false _
    clear hin
    go_wp2_with (fail)
    · skip
      go_region_held3 (fun W => W.cell? ⟨w.heap.size, 0, none⟩ = some (.int .i64 n.wind.lo) ∧ W.cell? ⟨w.heap.size, 1, none⟩ = some (.int .i64 n.wind.hi) ∧ W.cell? ⟨w.heap.size, 2, none⟩ = some (.int .i64 n.cur.lo) ∧ W.cell? ⟨w.heap.size, 3, none⟩ = some (.int .i64 n.cur.hi) ∧ W.cell? ⟨w.heap.size, 4, none⟩ = some (.slice r.gA n.grips.length r.gc) ∧ W.cell? ⟨w.heap.size, 5, none⟩ = some (.slice r.aA n.ancs.length r.ac) ∧ W.cell? ⟨w.heap.size, 6, none⟩ = some (.slice r.wA n.wals.length r.wc) ∧ W.cell? ⟨w.heap.size + 1, 0, none⟩ = some (.int .i64 t.wind) ∧ W.cell? ⟨w.heap.size + 1, 1, none⟩ = some (.int .i64 t.cur) ∧ W.cell? ⟨w.heap.size + 1, 2, none⟩ = some (.slice rt.tA t.grips.length rt.tc))
        (refine ⟨?_, ?_, ?_, ?_, ?_, ?_, ?_, ?_, ?_, ?_⟩ <;> go_simp)
        (first
          | (go_at_call 52; refine (copyTruth_c rt t B _ Ht.out.up hq).mono ?_; rintro e w1 ⟨rt3, δ7, rfl, rfl, hc3⟩)
          | (go_at_call 56; refine (pulled_k r n rt3 t (keyTo n t n.ancs.length) Q1.out.1 Q1.out.2.2 HH.out.2.1 _ _ H.out.wide hc3.wide (T1.out.up Grew.out)).mono ?_; rintro e w1 ⟨A3, c3, δ8, rfl, rfl, hS3⟩))
      have f1 : decide ((pulL n t (keyTo n t n.ancs.length)).length ≤ n.ancs.length) = true := decide_eq_true HH.out.2.2.1
      by_cases hgt : (pulL n t k).length < (pulL n t (keyTo n t n.ancs.length)).length
      · have f2 : decide ((pulL n t k).length < (pulL n t (keyTo n t n.ancs.length)).length) = true := decide_eq_true hgt
        clear hgt
        go_wp2_with (go_at_call 16; refine (works_c _ (T1.out.up Grew.out)).mono ?_; rintro e w1 ⟨rfl, δ6, rfl⟩)
        go_ret
        exact ⟨rfl, lat_ex⟩
      · have e3 : (pulL n t (keyTo n t n.ancs.length)).length = (pulL n t k).length := by have := HH.out.2.2.2.1; omega
        have f2 : decide ((pulL n t k).length < (pulL n t (keyTo n t n.ancs.length)).length) = false := decide_eq_false hgt
        have f4 : decide (keyTo n t n.ancs.length ≤ k) = true := decide_eq_true (HH.out.2.2.2.2 e3.symm)
        have E3 := Lib.hid e3
        clear hgt e3
        go_wp2_with (go_at_call 16; refine (works_c _ (T1.out.up Grew.out)).mono ?_; rintro e w1 ⟨rfl, δ6, rfl⟩)
        · go_ret
          exact ⟨rfl, lat_ex⟩
        · exact absurd (show ((pulL n t (keyTo n t n.ancs.length)).length : Int) = ((pulL n t k).length : Int) from congrArg Nat.cast E3.out) (by assumption)
  · rw [Bool.not_eq_true] at hin
    refine (in_is hin hS1'.wide).mono ?_
    rintro e w1 ⟨rfl, rfl⟩
    clear hin
    go_wp2_with (fail)
    go_region_held3 (fun W => W.cell? ⟨w.heap.size, 0, none⟩ = some (.int .i64 n.wind.lo) ∧ W.cell? ⟨w.heap.size, 1, none⟩ = some (.int .i64 n.wind.hi) ∧ W.cell? ⟨w.heap.size, 2, none⟩ = some (.int .i64 n.cur.lo) ∧ W.cell? ⟨w.heap.size, 3, none⟩ = some (.int .i64 n.cur.hi) ∧ W.cell? ⟨w.heap.size, 4, none⟩ = some (.slice r.gA n.grips.length r.gc) ∧ W.cell? ⟨w.heap.size, 5, none⟩ = some (.slice r.aA n.ancs.length r.ac) ∧ W.cell? ⟨w.heap.size, 6, none⟩ = some (.slice r.wA n.wals.length r.wc) ∧ W.cell? ⟨w.heap.size + 1, 0, none⟩ = some (.int .i64 t.wind) ∧ W.cell? ⟨w.heap.size + 1, 1, none⟩ = some (.int .i64 t.cur) ∧ W.cell? ⟨w.heap.size + 1, 2, none⟩ = some (.slice rt.tA t.grips.length rt.tc))
      (refine ⟨?_, ?_, ?_, ?_, ?_, ?_, ?_, ?_, ?_, ?_⟩ <;> go_simp)
      (first
        | (go_at_call 52; refine (copyTruth_c rt t B _ Ht.out.up hq).mono ?_; rintro e w1 ⟨rt3, δ7, rfl, rfl, hc3⟩)
        | (go_at_call 56; refine (pulled_k r n rt3 t (keyTo n t n.ancs.length) Q1.out.1 Q1.out.2.2 HH.out.2.1 _ _ H.out.wide hc3.wide (T1.out.up Grew.out)).mono ?_; rintro e w1 ⟨A3, c3, δ8, rfl, rfl, hS3⟩))
    have f1 : decide ((pulL n t (keyTo n t n.ancs.length)).length ≤ n.ancs.length) = true := decide_eq_true HH.out.2.2.1
    by_cases hgt : (pulL n t k).length < (pulL n t (keyTo n t n.ancs.length)).length
    · have f2 : decide ((pulL n t k).length < (pulL n t (keyTo n t n.ancs.length)).length) = true := decide_eq_true hgt
      clear hgt
      go_wp2_with (go_at_call 16; refine (works_c _ (T1.out.up Grew.out)).mono ?_; rintro e w1 ⟨rfl, δ6, rfl⟩)
      go_ret
      exact ⟨rfl, lat_ex⟩
    · have e3 : (pulL n t (keyTo n t n.ancs.length)).length = (pulL n t k).length := by have := HH.out.2.2.2.1; omega
      have f2 : decide ((pulL n t k).length < (pulL n t (keyTo n t n.ancs.length)).length) = false := decide_eq_false hgt
      have f4 : decide (keyTo n t n.ancs.length ≤ k) = true := decide_eq_true (HH.out.2.2.2.2 e3.symm)
      have E3 := Lib.hid e3
      clear hgt e3
      go_wp2_with (go_at_call 16; refine (works_c _ (T1.out.up Grew.out)).mono ?_; rintro e w1 ⟨rfl, δ6, rfl⟩)
      · go_ret
        exact ⟨rfl, lat_ex⟩
      · exact absurd (show ((pulL n t (keyTo n t n.ancs.length)).length : Int) = ((pulL n t k).length : Int) from congrArg Nat.cast E3.out) (by assumption)

end Go.Proofs.YtgpcaaknpfopgaaDoor
