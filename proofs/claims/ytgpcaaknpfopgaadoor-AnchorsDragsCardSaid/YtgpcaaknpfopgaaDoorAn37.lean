/- Layer 2: the walks of Pulled and Key of the program. -/
import Derived.Test.YtgpcaaknpfopgaaDoorAnPlain7
import Derived.Test.YtgpcaaknpfopgaaDoorAn36
import Derived.Outline
namespace Go.Proofs.YtgpcaaknpfopgaaDoor
open Go.RowKit
open An

theorem with0_c (i : Nat) (w : World) (hi : i < 6) :
    Calls Tryd.prog 105 #[.int .u64 0, .int .i64 i] w fun e w' => e = .returned (.int .u64 ((2 ^ i : Nat) : Int)) ∧ w = w' := by
  have := with_c 0 i w (by omega) hi
  rw [Nat.zero_or] at this
  exact this
theorem last1_c (r : NetR) (n : Net) (rt : TruR) (t : Tru) (i : Nat) (B : Nat) (w : World) [hB : Le B w] (h : NetIs B w r n) (h' : TruIs B w rt t) (ht : okTru n t) (hi : i < n.ancs.length) :
    Calls Tryd.prog 76 #[rowV r n rt t, .int .u64 ((2 ^ i : Nat) : Int)] w fun e w' => ∃ m : Nat, e = .returned (.int .u64 m) ∧ m < 64 ∧ listM m = pulL n t i ∧ ∃ δ, w' = lat w δ := by
  have h6 := (valid_iff.1 ht.1).2.2.2.1
  have hlt : 2 ^ i < 64 := Nat.pow_lt_pow_right (n := 6) (by omega) (by omega)
  refine (last_c r n rt t (2 ^ i) B w h h' ht hlt).mono ?_
  rintro e w' ⟨m, rfl, hm, hl, hd⟩
  rw [bit_single] at hl
  exact ⟨m, rfl, hm, listM_last h6 (single_lt hi) hl, hd⟩

set_option maxRecDepth 100000 in
set_option maxHeartbeats 4000000 in
theorem pulled_c (r : NetR) (n : Net) (rt : TruR) (t : Tru) (i : Int) (B : Nat) (w : World) [hB : Le B w] [h2 : Le 2 w] (h : NetIs B w r n) (h' : TruIs B w rt t) (hT : TabIs w) :
    Calls Tryd.prog 56 #[netV r n, truV rt t, .int .i64 i] w fun e w' => ∃ (A : Option Addr) (c : Nat) (δ : World), e = .returned (.tuple #[.slice A (pulledV n t i).length c, .int .i64 (askE (valid n) (truB n t && inB 0 ((n.ancs.length : Int) - 1) i))]) ∧ w' = lat w δ ∧ Sl encI (lat w δ).heap.size (lat w δ) A c (pulledV n t i) := by
  have HTab := Lib.hid hT
  have H := Lib.hid h
  have H' := Lib.hid h'
  clear hT h h'
  by_cases hv : valid n = true
  all_goals try rw [Bool.not_eq_true] at hv
  all_goals
    by_cases ht : truB n t = true
    all_goals try rw [Bool.not_eq_true] at ht
  all_goals
    by_cases h1 : inB 0 ((n.ancs.length : Int) - 1) i = true
    all_goals try rw [Bool.not_eq_true] at h1
  all_goals
    have HV := Lib.hid hv
    have HT := Lib.hid ht
    have H1 := Lib.hid h1
    have HF := Lib.hid (show pulledV n t i = if valid n && (truB n t && inB 0 ((n.ancs.length : Int) - 1) i) then pulL n t i.toNat else [] from rfl)
    rw [hv, ht, h1] at HF ⊢
    clear hv ht h1
  · have h1' := inB_iff.1 H1.out
    obtain ⟨k, rfl⟩ := Int.eq_ofNat_of_zero_le h1'.1
    have hk : k < n.ancs.length := by omega
    have h6 := (valid_iff.1 HV.out).2.2.2.1
    have HK := Lib.hid (okTru_of HV.out HT.out)
    clear h1'
    go_enter Tryd.func56, Tryd.ntmps56
    go_upto_region 6 with (first
      | (go_at_call 38; refine (check_ok r n B _ H.out.up HV.out).mono ?_; rintro e w1 ⟨rfl, δ, rfl⟩)
      | (go_at_call 101; refine (isTruth_c r n rt t B _ H.out.up H'.out.up).mono ?_; rw [HT.out]; rintro e w1 ⟨rfl, δ, rfl⟩)
      | (go_at_call 74; refine (isAnchor_c r n k B _ H.out.up).mono ?_; rw [H1.out]; rintro e w1 ⟨rfl, δ, rfl⟩))
    refine wp_name fun W1 hW1 => ?_
    have iw1 : Le B W1 := by rw [hW1.out]; infer_instance
    have iw2 : Grew B w W1 := by rw [hW1.out]; infer_instance
    have iw3 : Le 2 W1 := by rw [hW1.out]; infer_instance
    have iw4 : Grew 2 w W1 := by rw [hW1.out]; infer_instance
    have iw5 : Le w.heap.size W1 := by rw [hW1.out]; infer_instance
    have iw6 : Grew w.heap.size w W1 := by rw [hW1.out]; infer_instance
    have iw7 : Lt (w.heap.size) W1 := by rw [hW1.out]; infer_instance
    have iw8 : Lt (w.heap.size + 1) W1 := by rw [hW1.out]; infer_instance
    have cw9 : W1.cell? ⟨w.heap.size, 0, none⟩ = some (.int .i64 n.wind.lo) := by rw [hW1.out]; go_simp
    have cw10 : W1.cell? ⟨w.heap.size, 1, none⟩ = some (.int .i64 n.wind.hi) := by rw [hW1.out]; go_simp
    have cw11 : W1.cell? ⟨w.heap.size, 2, none⟩ = some (.int .i64 n.cur.lo) := by rw [hW1.out]; go_simp
    have cw12 : W1.cell? ⟨w.heap.size, 3, none⟩ = some (.int .i64 n.cur.hi) := by rw [hW1.out]; go_simp
    have cw13 : W1.cell? ⟨w.heap.size, 4, none⟩ = some (.slice r.gA n.grips.length r.gc) := by rw [hW1.out]; go_simp
    have cw14 : W1.cell? ⟨w.heap.size, 5, none⟩ = some (.slice r.aA n.ancs.length r.ac) := by rw [hW1.out]; go_simp
    have cw15 : W1.cell? ⟨w.heap.size, 6, none⟩ = some (.slice r.wA n.wals.length r.wc) := by rw [hW1.out]; go_simp
    have cw16 : W1.cell? ⟨w.heap.size + 1, 0, none⟩ = some (.int .i64 t.wind) := by rw [hW1.out]; go_simp
    have cw17 : W1.cell? ⟨w.heap.size + 1, 1, none⟩ = some (.int .i64 t.cur) := by rw [hW1.out]; go_simp
    have cw18 : W1.cell? ⟨w.heap.size + 1, 2, none⟩ = some (.slice rt.tA t.grips.length rt.tc) := by rw [hW1.out]; go_simp
    have HT1 := Lib.hid (HTab.out.up iw4.out)
    go_region_held3 (fun W => W.cell? ⟨w.heap.size, 0, none⟩ = some (.int .i64 n.wind.lo) ∧ W.cell? ⟨w.heap.size, 1, none⟩ = some (.int .i64 n.wind.hi) ∧ W.cell? ⟨w.heap.size, 2, none⟩ = some (.int .i64 n.cur.lo) ∧ W.cell? ⟨w.heap.size, 3, none⟩ = some (.int .i64 n.cur.hi) ∧ W.cell? ⟨w.heap.size, 4, none⟩ = some (.slice r.gA n.grips.length r.gc) ∧ W.cell? ⟨w.heap.size, 5, none⟩ = some (.slice r.aA n.ancs.length r.ac) ∧ W.cell? ⟨w.heap.size, 6, none⟩ = some (.slice r.wA n.wals.length r.wc) ∧ W.cell? ⟨w.heap.size + 1, 0, none⟩ = some (.int .i64 t.wind) ∧ W.cell? ⟨w.heap.size + 1, 1, none⟩ = some (.int .i64 t.cur) ∧ W.cell? ⟨w.heap.size + 1, 2, none⟩ = some (.slice rt.tA t.grips.length rt.tc))
      (refine ⟨?_, ?_, ?_, ?_, ?_, ?_, ?_, ?_, ?_, ?_⟩ <;> go_simp)
      (first
        | (go_at_call 105; refine (with0_c k _ (by omega)).mono ?_; rintro e w1 ⟨rfl, rfl⟩)
        | (go_at_call 76; refine (last1_c r n rt t k B _ H.out.up H'.out.up HK.out hk).mono ?_; rintro e w1 ⟨m, rfl, hm, hl, δ1, rfl⟩; have HL := Lib.hid hl; clear hl)
        | (go_at_call 102; refine (list_c m _ hm (HT1.out.up Grew.out)).mono ?_; rw [HL.out]; rintro e w1 ⟨A, c, δ2, rfl, rfl, hS⟩))
    go_wp2_with (fail)
    go_ret2
    rw [HF.out]
    exact ⟨A, c, _, rfl, lat_def, sl_def hS⟩
  all_goals
    go_enter Tryd.func56, Tryd.ntmps56
    go_wp2_with (first
      | (go_at_call 38; refine (check_c r n B _ H.out.up).mono ?_; rw [HV.out]; rintro e w1 ⟨rfl, δ, rfl⟩)
      | (go_at_call 101; refine (isTruth_c r n rt t B _ H.out.up H'.out.up).mono ?_; rw [HT.out]; rintro e w1 ⟨rfl, δ, rfl⟩)
      | (go_at_call 74; refine (isAnchor_c r n i B _ H.out.up).mono ?_; rw [H1.out]; rintro e w1 ⟨rfl, δ, rfl⟩))
    go_ret2
    rw [HF.out]
    exact ⟨none, 0, _, rfl, lat_def, Sl.none_⟩

set_option maxRecDepth 100000 in
set_option maxHeartbeats 4000000 in
theorem key_c (r : NetR) (n : Net) (rt : TruR) (t : Tru) (B : Nat) (w : World) [hB : Le B w] (h : NetIs B w r n) (h' : TruIs B w rt t) :
    Calls Tryd.prog 57 #[netV r n, truV rt t] w fun e w' => e = .returned (.tuple #[.int .i64 (keyV n t), .int .i64 (keyE n t)]) ∧ ∃ δ, w' = lat w δ := by
  have H := Lib.hid h
  have H' := Lib.hid h'
  clear h h'
  by_cases hv : valid n = true
  all_goals try rw [Bool.not_eq_true] at hv
  all_goals
    by_cases ht : truB n t = true
    all_goals try rw [Bool.not_eq_true] at ht
  all_goals
    have HV := Lib.hid hv
    have HT := Lib.hid ht
    have HF := Lib.hid (show keyV n t = if valid n && truB n t then (keyTo n t n.ancs.length : Int) else 0 from rfl)
    have HE := Lib.hid (show keyE n t = if valid n then (if truB n t then (if n.ancs.length = 0 then 3 else 0) else 1) else 20 from rfl)
    rw [hv, ht] at HF HE
    clear hv ht
  · have h6 := (valid_iff.1 HV.out).2.2.2.1
    have HK := Lib.hid (okTru_of HV.out HT.out)
    by_cases h0 : n.ancs.length = 0
    · have hz : ((n.ancs.length : Int) == 0) = true := by rw [beq0]; exact decide_eq_true h0
      have H0 := Lib.hid h0
      have HE0 := Lib.hid (show keyE n t = 3 by rw [HE.out, if_pos rfl, if_pos rfl, if_pos h0])
      clear h0
      go_enter Tryd.func57, Tryd.ntmps57
      go_wp2_with (first
        | (go_at_call 38; refine (check_ok r n B _ H.out.up HV.out).mono ?_; rintro e w1 ⟨rfl, δ, rfl⟩)
        | (go_at_call 101; refine (isTruth_c r n rt t B _ H.out.up H'.out.up).mono ?_; rw [HT.out]; rintro e w1 ⟨rfl, δ, rfl⟩))
      go_ret2
      exact ⟨ret2 (int_eq (by rw [HF.out, H0.out]; rfl)) (int_eq (by rw [HE0.out])), lat_ex⟩
    · have hz : ((n.ancs.length : Int) == 0) = false := by rw [beq0]; exact decide_eq_false h0
      have hpos : 0 < n.ancs.length := by omega
      have HE0 := Lib.hid (show keyE n t = 0 by rw [HE.out, if_pos rfl, if_pos rfl, if_neg h0])
      clear h0
      go_enter Tryd.func57, Tryd.ntmps57
      go_upto_region 8 with (first
        | (go_at_call 38; refine (check_ok r n B _ H.out.up HV.out).mono ?_; rintro e w1 ⟨rfl, δ, rfl⟩)
        | (go_at_call 101; refine (isTruth_c r n rt t B _ H.out.up H'.out.up).mono ?_; rw [HT.out]; rintro e w1 ⟨rfl, δ, rfl⟩))
      refine wp_name fun W0 hW0 => ?_
      have iw1 : Le B W0 := by rw [hW0.out]; infer_instance
      have iw2 : Grew B w W0 := by rw [hW0.out]; infer_instance
      have iw3 : Le w.heap.size W0 := by rw [hW0.out]; infer_instance
      have iw4 : Grew w.heap.size w W0 := by rw [hW0.out]; infer_instance
      have iw5 : Lt (w.heap.size) W0 := by rw [hW0.out]; infer_instance
      have iw6 : Lt (w.heap.size + 1) W0 := by rw [hW0.out]; infer_instance
      have cw7 : W0.cell? ⟨w.heap.size, 0, none⟩ = some (.int .i64 n.wind.lo) := by rw [hW0.out]; go_simp
      have cw8 : W0.cell? ⟨w.heap.size, 1, none⟩ = some (.int .i64 n.wind.hi) := by rw [hW0.out]; go_simp
      have cw9 : W0.cell? ⟨w.heap.size, 2, none⟩ = some (.int .i64 n.cur.lo) := by rw [hW0.out]; go_simp
      have cw10 : W0.cell? ⟨w.heap.size, 3, none⟩ = some (.int .i64 n.cur.hi) := by rw [hW0.out]; go_simp
      have cw11 : W0.cell? ⟨w.heap.size, 4, none⟩ = some (.slice r.gA n.grips.length r.gc) := by rw [hW0.out]; go_simp
      have cw12 : W0.cell? ⟨w.heap.size, 5, none⟩ = some (.slice r.aA n.ancs.length r.ac) := by rw [hW0.out]; go_simp
      have cw13 : W0.cell? ⟨w.heap.size, 6, none⟩ = some (.slice r.wA n.wals.length r.wc) := by rw [hW0.out]; go_simp
      have cw14 : W0.cell? ⟨w.heap.size + 1, 0, none⟩ = some (.int .i64 t.wind) := by rw [hW0.out]; go_simp
      have cw15 : W0.cell? ⟨w.heap.size + 1, 1, none⟩ = some (.int .i64 t.cur) := by rw [hW0.out]; go_simp
      have cw16 : W0.cell? ⟨w.heap.size + 1, 2, none⟩ = some (.slice rt.tA t.grips.length rt.tc) := by rw [hW0.out]; go_simp
      go_upto_region 9 with fail
      refine wp_name fun W1 hW1 => ?_
      have iw17 : Le B W1 := by rw [hW1.out]; infer_instance
      have iw18 : Grew B w W1 := by rw [hW1.out]; infer_instance
      have iw19 : Le w.heap.size W1 := by rw [hW1.out]; infer_instance
      have iw20 : Grew w.heap.size w W1 := by rw [hW1.out]; infer_instance
      have iw21 : Lt (w.heap.size) W1 := by rw [hW1.out]; infer_instance
      have iw22 : Lt (W0.heap.size) W1 := by rw [hW1.out]; infer_instance
      have cw23 : W1.cell? ⟨w.heap.size, 0, none⟩ = some (.int .i64 n.wind.lo) := by rw [hW1.out]; go_simp
      have cw24 : W1.cell? ⟨w.heap.size, 1, none⟩ = some (.int .i64 n.wind.hi) := by rw [hW1.out]; go_simp
      have cw25 : W1.cell? ⟨w.heap.size, 2, none⟩ = some (.int .i64 n.cur.lo) := by rw [hW1.out]; go_simp
      have cw26 : W1.cell? ⟨w.heap.size, 3, none⟩ = some (.int .i64 n.cur.hi) := by rw [hW1.out]; go_simp
      have cw27 : W1.cell? ⟨w.heap.size, 4, none⟩ = some (.slice r.gA n.grips.length r.gc) := by rw [hW1.out]; go_simp
      have cw28 : W1.cell? ⟨w.heap.size, 5, none⟩ = some (.slice r.aA n.ancs.length r.ac) := by rw [hW1.out]; go_simp
      have cw29 : W1.cell? ⟨w.heap.size, 6, none⟩ = some (.slice r.wA n.wals.length r.wc) := by rw [hW1.out]; go_simp
      have cw30 : W1.cell? ⟨W0.heap.size, 0, none⟩ = some (.int .i64 n.wind.lo) := by rw [hW1.out]; go_simp
      have cw31 : W1.cell? ⟨W0.heap.size, 1, none⟩ = some (.int .i64 n.wind.hi) := by rw [hW1.out]; go_simp
      have cw32 : W1.cell? ⟨W0.heap.size, 2, none⟩ = some (.int .i64 n.cur.lo) := by rw [hW1.out]; go_simp
      have cw33 : W1.cell? ⟨W0.heap.size, 3, none⟩ = some (.int .i64 n.cur.hi) := by rw [hW1.out]; go_simp
      have cw34 : W1.cell? ⟨W0.heap.size, 4, none⟩ = some (.slice r.gA n.grips.length r.gc) := by rw [hW1.out]; go_simp
      have cw35 : W1.cell? ⟨W0.heap.size, 5, none⟩ = some (.slice r.aA n.ancs.length r.ac) := by rw [hW1.out]; go_simp
      have cw36 : W1.cell? ⟨W0.heap.size, 6, none⟩ = some (.slice r.wA n.wals.length r.wc) := by rw [hW1.out]; go_simp
      have cw37 : W1.cell? ⟨W0.heap.size, 7, none⟩ = some (.int .i64 t.wind) := by rw [hW1.out]; go_simp
      have cw38 : W1.cell? ⟨W0.heap.size, 8, none⟩ = some (.int .i64 t.cur) := by rw [hW1.out]; go_simp
      have cw39 : W1.cell? ⟨W0.heap.size, 9, none⟩ = some (.slice rt.tA t.grips.length rt.tc) := by rw [hW1.out]; go_simp
      have g1 : NetIs B W1 r n := H.out.up
      have g2 : TruIs B W1 rt t := H'.out.up
      go_wp2_with (fail)
      go_loopg [8, 9, 31] n.ancs.length (fun g ky mo i wr => ∃ (k : Nat) (δ : World), k ≤ n.ancs.length ∧ g = n.ancs.length - k ∧ ky = .int .i64 (keyTo n t k) ∧ mo = .int .i64 (mostTo n t k) ∧ i = .int .i64 k ∧ wr = lat W1 δ)
      case atStart => exact ⟨0, W1, Nat.zero_le _, rfl, rfl, rfl, rfl, (lat_refl W1).symm⟩
      case round =>
        obtain ⟨k, δ, hk, rfl, rfl, rfl, rfl, rfl⟩ := hrel
        by_cases hlt : k < n.ancs.length
        · have hst := key_step (t := t) hlt
          have hple := pulL_le n t k
          by_cases hm : mostTo n t k < (pulL n t k).length
          · have HS := Lib.hid (hst.1 hm)
            have hm' : (mostTo n t k : Int) < ((pulL n t k).length : Int) := by omega
            clear hst
            go_wp2_with (fail)
            go_region_held3 (fun W => W.cell? ⟨W0.heap.size, 0, none⟩ = some (.int .i64 n.wind.lo) ∧ W.cell? ⟨W0.heap.size, 1, none⟩ = some (.int .i64 n.wind.hi) ∧ W.cell? ⟨W0.heap.size, 2, none⟩ = some (.int .i64 n.cur.lo) ∧ W.cell? ⟨W0.heap.size, 3, none⟩ = some (.int .i64 n.cur.hi) ∧ W.cell? ⟨W0.heap.size, 4, none⟩ = some (.slice r.gA n.grips.length r.gc) ∧ W.cell? ⟨W0.heap.size, 5, none⟩ = some (.slice r.aA n.ancs.length r.ac) ∧ W.cell? ⟨W0.heap.size, 6, none⟩ = some (.slice r.wA n.wals.length r.wc) ∧ W.cell? ⟨W0.heap.size, 7, none⟩ = some (.int .i64 t.wind) ∧ W.cell? ⟨W0.heap.size, 8, none⟩ = some (.int .i64 t.cur) ∧ W.cell? ⟨W0.heap.size, 9, none⟩ = some (.slice rt.tA t.grips.length rt.tc))
              (refine ⟨?_, ?_, ?_, ?_, ?_, ?_, ?_, ?_, ?_, ?_⟩ <;> go_simp)
              (first
                | (go_at_call 105; refine (with0_c k _ (by omega)).mono ?_; rintro e w1 ⟨rfl, rfl⟩)
                | (go_at_call 76; refine (last1_c r n rt t k B _ g1.up g2.up HK.out hlt).mono ?_; rintro e w1 ⟨m, rfl, hm64, hl, δ1, rfl⟩; have HL := Lib.hid hl; clear hl)
                | (go_at_call 106; refine (setLen_c m _ hm64).mono ?_; rw [HL.out]; rintro e w1 ⟨rfl, rfl⟩))
            go_wp2_with (fail)
            go_roundg (n.ancs.length - (k + 1))
            case measure => omega
            case rel => exact ⟨k + 1, _, by omega, rfl, int_eq (by rw [HS.out.1]), int_eq (by rw [HS.out.2]), by go_num, lat_def⟩
          · have HS := Lib.hid (hst.2 hm)
            have hm' : ¬ (mostTo n t k : Int) < ((pulL n t k).length : Int) := by omega
            clear hst
            go_wp2_with (fail)
            go_region_held3 (fun W => W.cell? ⟨W0.heap.size, 0, none⟩ = some (.int .i64 n.wind.lo) ∧ W.cell? ⟨W0.heap.size, 1, none⟩ = some (.int .i64 n.wind.hi) ∧ W.cell? ⟨W0.heap.size, 2, none⟩ = some (.int .i64 n.cur.lo) ∧ W.cell? ⟨W0.heap.size, 3, none⟩ = some (.int .i64 n.cur.hi) ∧ W.cell? ⟨W0.heap.size, 4, none⟩ = some (.slice r.gA n.grips.length r.gc) ∧ W.cell? ⟨W0.heap.size, 5, none⟩ = some (.slice r.aA n.ancs.length r.ac) ∧ W.cell? ⟨W0.heap.size, 6, none⟩ = some (.slice r.wA n.wals.length r.wc) ∧ W.cell? ⟨W0.heap.size, 7, none⟩ = some (.int .i64 t.wind) ∧ W.cell? ⟨W0.heap.size, 8, none⟩ = some (.int .i64 t.cur) ∧ W.cell? ⟨W0.heap.size, 9, none⟩ = some (.slice rt.tA t.grips.length rt.tc))
              (refine ⟨?_, ?_, ?_, ?_, ?_, ?_, ?_, ?_, ?_, ?_⟩ <;> go_simp)
              (first
                | (go_at_call 105; refine (with0_c k _ (by omega)).mono ?_; rintro e w1 ⟨rfl, rfl⟩)
                | (go_at_call 76; refine (last1_c r n rt t k B _ g1.up g2.up HK.out hlt).mono ?_; rintro e w1 ⟨m, rfl, hm64, hl, δ1, rfl⟩; have HL := Lib.hid hl; clear hl)
                | (go_at_call 106; refine (setLen_c m _ hm64).mono ?_; rw [HL.out]; rintro e w1 ⟨rfl, rfl⟩))
            go_wp2_with (fail)
            go_roundg (n.ancs.length - (k + 1))
            case measure => omega
            case rel => exact ⟨k + 1, _, by omega, rfl, int_eq (by rw [HS.out.1]), int_eq (by rw [HS.out.2]), by go_num, lat_def⟩
        · obtain rfl : k = n.ancs.length := by omega
          go_wp2_with (fail)
          go_ret2
          exact ⟨ret2 (int_eq (by rw [HF.out]; rfl)) (int_eq (by rw [HE0.out])), lat_ex⟩
  all_goals
    go_enter Tryd.func57, Tryd.ntmps57
    go_wp2_with (first
      | (go_at_call 38; refine (check_c r n B _ H.out.up).mono ?_; rw [HV.out]; rintro e w1 ⟨rfl, δ, rfl⟩)
      | (go_at_call 101; refine (isTruth_c r n rt t B _ H.out.up H'.out.up).mono ?_; rw [HT.out]; rintro e w1 ⟨rfl, δ, rfl⟩))
    go_ret2
    exact ⟨ret2 (int_eq (by rw [HF.out]; rfl)) (int_eq (by rw [HE.out]; rfl)), lat_ex⟩

end Go.Proofs.YtgpcaaknpfopgaaDoor
