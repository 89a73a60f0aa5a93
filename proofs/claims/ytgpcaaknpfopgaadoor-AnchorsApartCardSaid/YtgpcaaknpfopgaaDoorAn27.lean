/- Layer 2: the walks of drags and of the law AnchorsCalmer. -/
import Derived.Test.YtgpcaaknpfopgaaDoorAnPlain6
import Derived.Test.YtgpcaaknpfopgaaDoorAn25
import Derived.Outline
namespace Go.Proofs.YtgpcaaknpfopgaaDoor
open Go.RowKit
open An

set_option maxRecDepth 100000 in
set_option maxHeartbeats 4000000 in
theorem lawDrags_c (r : NetR) (n : Net) (rt : TruR) (t : Tru) (B : Nat) (w : World) [hB : Le B w] [h2 : Le 2 w] (h : NetIs B w r n) (h' : TruIs B w rt t) (hT : TabIs w) (hv : valid n = true) (ht : truB n t = true) :
    Calls Tryd.prog 24 #[netV r n, truV rt t] w fun e w' => ∃ (A : Option Addr) (c : Nat) (δ : World), e = .returned (.tuple #[.slice A (dragsV n t).length c, .bool true]) ∧ w' = lat w δ ∧ Sl encI (lat w δ).heap.size (lat w δ) A c (dragsV n t) := by
  have h6 := (valid_iff.1 hv).2.2.2.1
  have hq : t.grips.length ≤ 1000 := by
    have := (okTru_of hv ht).2.2.2.1
    have := (valid_iff.1 hv).2.2.1
    omega
  have HR := Lib.hid (drags_rises hv ht)
  have HE := Lib.hid (show askE (valid n) (truB n t) = 0 by rw [hv, ht]; rfl)
  have HT := Lib.hid hT
  have H := Lib.hid h
  have H' := Lib.hid h'
  clear hT h h' hv ht
  go_enter Tryd.func24, Tryd.ntmps24
  go_wp2_with (fail)
  refine wp_name fun W1 hW1 => ?_
  have iw1 : Le B W1 := by rw [hW1.out]; infer_instance
  have iw2 : Grew B w W1 := by rw [hW1.out]; infer_instance
  have iw3 : Le 2 W1 := by rw [hW1.out]; infer_instance
  have iw4 : Grew 2 w W1 := by rw [hW1.out]; infer_instance
  have iw5 : Le w.heap.size W1 := by rw [hW1.out]; infer_instance
  have iw6 : Grew w.heap.size w W1 := by rw [hW1.out]; infer_instance
  have iw7 : Lt (w.heap.size) W1 := by rw [hW1.out]; infer_instance
  have iw8 : Lt (w.heap.size + 1) W1 := by rw [hW1.out]; infer_instance
  have cw9 : W1.cell? ⟨w.heap.size, 0, none⟩ = some (.int .i64 n.wind.lo) := by rw [hW1.out]; go_simp
  have cw10 : W1.cell? ⟨w.heap.size, 1, none⟩ = some (.int .i64 n.wind.hi) := by rw [hW1.out]; go_simp
  have cw11 : W1.cell? ⟨w.heap.size, 2, none⟩ = some (.int .i64 n.cur.lo) := by rw [hW1.out]; go_simp
  have cw12 : W1.cell? ⟨w.heap.size, 3, none⟩ = some (.int .i64 n.cur.hi) := by rw [hW1.out]; go_simp
  have cw13 : W1.cell? ⟨w.heap.size, 4, none⟩ = some (.slice r.gA n.grips.length r.gc) := by rw [hW1.out]; go_simp
  have cw14 : W1.cell? ⟨w.heap.size, 5, none⟩ = some (.slice r.aA n.ancs.length r.ac) := by rw [hW1.out]; go_simp
  have cw15 : W1.cell? ⟨w.heap.size, 6, none⟩ = some (.slice r.wA n.wals.length r.wc) := by rw [hW1.out]; go_simp
  have cw16 : W1.cell? ⟨w.heap.size + 1, 0, none⟩ = some (.int .i64 t.wind) := by rw [hW1.out]; go_simp
  have cw17 : W1.cell? ⟨w.heap.size + 1, 1, none⟩ = some (.int .i64 t.cur) := by rw [hW1.out]; go_simp
  have cw18 : W1.cell? ⟨w.heap.size + 1, 2, none⟩ = some (.slice rt.tA t.grips.length rt.tc) := by rw [hW1.out]; go_simp
  have HT1 := Lib.hid (HT.out.up iw4.out)
  go_region_held3 (fun W => W.cell? ⟨w.heap.size, 0, none⟩ = some (.int .i64 n.wind.lo) ∧ W.cell? ⟨w.heap.size, 1, none⟩ = some (.int .i64 n.wind.hi) ∧ W.cell? ⟨w.heap.size, 2, none⟩ = some (.int .i64 n.cur.lo) ∧ W.cell? ⟨w.heap.size, 3, none⟩ = some (.int .i64 n.cur.hi) ∧
      W.cell? ⟨w.heap.size, 4, none⟩ = some (.slice r.gA n.grips.length r.gc) ∧ W.cell? ⟨w.heap.size, 5, none⟩ = some (.slice r.aA n.ancs.length r.ac) ∧ W.cell? ⟨w.heap.size, 6, none⟩ = some (.slice r.wA n.wals.length r.wc) ∧
      W.cell? ⟨w.heap.size + 1, 0, none⟩ = some (.int .i64 t.wind) ∧ W.cell? ⟨w.heap.size + 1, 1, none⟩ = some (.int .i64 t.cur) ∧ W.cell? ⟨w.heap.size + 1, 2, none⟩ = some (.slice rt.tA t.grips.length rt.tc))
    (refine ⟨?_, ?_, ?_, ?_, ?_, ?_, ?_, ?_, ?_, ?_⟩ <;> go_simp)
    (first
      | (go_at_call 52; refine (copyTruth_c rt t B _ H'.out.up hq).mono ?_; rintro e w1 ⟨rt', δ, rfl, rfl, hc⟩)
      | (go_at_call 59; refine (drags_c r n rt' t _ _ H.out.wide hc.wide (HT1.out.up Grew.out)).mono ?_; rw [HE.out]; rintro e w1 ⟨A1, c1, δ1, rfl, rfl, hS1⟩))
  go_wp2_with (go_at_call 53; refine (rising_c A1 c1 (dragsV n t) 0 ((n.ancs.length : Int) - 1) _ _ hS1.wide HR.out _ rfl).mono ?_; rintro e w1 ⟨rfl, δ2, rfl⟩)
  go_ret2
  exact ⟨A1, c1, _, rfl, lat_def, sl_def hS1.wide⟩

theorem wind_none (r : NetR) (n : Net) (B : Nat) (w : World) [hB : Le B w] (h : NetIs B w r n) (hv : valid n = true) (hx : wN n = 21) :
    Calls Tryd.prog 18 #[netV r n] w fun e w' => e = .returned (.tuple #[.int .i64 0, .int .i64 3]) ∧ ∃ δ, w' = lat w δ := by
  have := wind_c r n B w h
  rw [hv, show firstHit (hitW n) 21 0 = 21 from hx] at this
  exact this
theorem wind_some (r : NetR) (n : Net) (B : Nat) (w : World) [hB : Le B w] (h : NetIs B w r n) (hv : valid n = true) (hx : wN n < 21) :
    Calls Tryd.prog 18 #[netV r n] w fun e w' => e = .returned (.tuple #[.int .i64 (wN n), .int .i64 0]) ∧ ∃ δ, w' = lat w δ := by
  have := wind_c r n B w h
  rw [hv, show windV true (firstHit (hitW n) 21 0) = (wN n : Int) by unfold windV wN at *; rw [if_pos rfl, if_neg (by omega)], show windE true (firstHit (hitW n) 21 0) = 0 by unfold windE wN at *; rw [if_pos rfl, if_neg (by omega)]] at this
  exact this
theorem storm_none (r : NetR) (n : Net) (B : Nat) (w : World) [hB : Le B w] (h : NetIs B w r n) (hv : valid n = true) (hx : sN n = 21) :
    Calls Tryd.prog 20 #[netV r n] w fun e w' => e = .returned (.tuple #[.int .i64 0, .int .i64 3]) ∧ ∃ δ, w' = lat w δ := by
  have := storm_c r n B w h
  rw [hv, show firstHit (hitS n) 21 0 = 21 from hx] at this
  exact this
theorem storm_some (r : NetR) (n : Net) (B : Nat) (w : World) [hB : Le B w] (h : NetIs B w r n) (hv : valid n = true) (hx : sN n < 21) :
    Calls Tryd.prog 20 #[netV r n] w fun e w' => e = .returned (.tuple #[.int .i64 (sN n), .int .i64 0]) ∧ ∃ δ, w' = lat w δ := by
  have := storm_c r n B w h
  rw [hv, show windV true (firstHit (hitS n) 21 0) = (sN n : Int) by unfold windV sN at *; rw [if_pos rfl, if_neg (by omega)], show windE true (firstHit (hitS n) 21 0) = 0 by unfold windE sN at *; rw [if_pos rfl, if_neg (by omega)]] at this
  exact this

namespace An
theorem calmer_cases {n : Net} {t : Tru} (hv : valid n = true) (ht : truB n t = true) :
    (Hid (wN n = 21) ∧ Hid (sN n = 21) ∧ decide (0 < (dragsV n t).length) = false) ∨
    (wN n < 21 ∧ Hid (sN n = 21) ∧ decide (t.wind < (wN n : Int)) = true ∧ decide (0 < (dragsV n t).length) = false) ∨
    (wN n < 21 ∧ sN n < 21 ∧ decide (t.wind < (wN n : Int)) = true ∧ decide (t.wind < (sN n : Int)) = true ∧ decide (0 < (dragsV n t).length) = false) ∨
    (wN n < 21 ∧ Hid (sN n = 21) ∧ decide (t.wind < (wN n : Int)) = false) ∨
    (wN n < 21 ∧ sN n < 21 ∧ decide (t.wind < (wN n : Int)) = false ∧ decide (t.wind < (sN n : Int)) = true) ∨
    (wN n < 21 ∧ sN n < 21 ∧ decide (t.wind < (wN n : Int)) = false ∧ decide (t.wind < (sN n : Int)) = false ∧ decide (0 < (dragsV n t).length) = true) := by
  have h1 := wN_sN hv
  have h2 := sN_le n
  have h3 : t.wind < wN n → (dragsV n t).length = 0 := fun h => by rw [(drags_nil hv ht).2 (calm_below hv ht h)]; rfl
  have h4 : sN n < 21 → (sN n : Int) ≤ t.wind → 0 < (dragsV n t).length := fun ha hb => by
    rcases Nat.eq_zero_or_pos (dragsV n t).length with h0 | h0
    · exact absurd ((drags_nil hv ht).1 (List.length_eq_zero_iff.1 h0)) (drag_above hv ht ha hb)
    · exact h0
  have h5 : t.wind ≤ 20 := by
    have ht' := ht
    simp only [truB, Bool.and_eq_true, decide_eq_true_eq, inSp, inB_iff] at ht'
    obtain ⟨h1, _⟩ := valid_iff.1 hv
    simp only [okSp, decide_eq_true_eq] at h1
    omega
  simp only [decide_eq_true_eq, decide_eq_false_iff_not, Hid]
  omega
end An

set_option maxRecDepth 100000 in
set_option maxHeartbeats 8000000 in
theorem lawCalmer_c (r : NetR) (n : Net) (rt : TruR) (t : Tru) (ru : TruR) (u : Tru) (B : Nat) (w : World) [hB : Le B w] [h2 : Le 2 w] (h : NetIs B w r n) (h' : TruIs B w rt t) (h'' : TruIs B w ru u) (hT : TabIs w) :
    Calls Tryd.prog 4 #[netV r n, truV rt t, truV ru u] w fun e w' => e = .returned (.bool true) ∧ ∃ δ, w' = lat w δ := by
  have HT := Lib.hid hT
  have H := Lib.hid h
  have Ht := Lib.hid h'
  have Hu := Lib.hid h''
  clear hT h h' h''
  go_enter Tryd.func4, Tryd.ntmps4
  go_wp2_with (fail)
  refine (given_c r n rt t B _ H.out.up Ht.out.up).mono ?_
  unfold GivenPost
  rintro e w1 ⟨b, rfl, hb, δ, rfl⟩
  cases b
  · go_wp2_with (go_at_call 16; refine (works_c _ (HT.out.up Grew.out)).mono ?_; rintro e w1 ⟨rfl, δ6, rfl⟩)
    go_ret
    exact ⟨rfl, lat_ex⟩
  have Q1 := Lib.hid (hb rfl)
  clear hb
  go_wp2_with (fail)
  refine (given_c r n ru u B _ H.out.up Hu.out.up).mono ?_
  unfold GivenPost
  rintro e w1 ⟨b, rfl, hb, δ1, rfl⟩
  cases b
  · go_wp2_with (go_at_call 16; refine (works_c _ (HT.out.up Grew.out)).mono ?_; rintro e w1 ⟨rfl, δ6, rfl⟩)
    go_ret
    exact ⟨rfl, lat_ex⟩
  have Q2 := Lib.hid (hb rfl).2.2
  clear hb
  by_cases hw : t.wind < u.wind
  · go_wp2_with (go_at_call 16; refine (works_c _ (HT.out.up Grew.out)).mono ?_; rintro e w1 ⟨rfl, δ6, rfl⟩)
    go_ret
    exact ⟨rfl, lat_ex⟩
  by_cases hc : t.cur < u.cur
  · go_wp2_with (go_at_call 16; refine (works_c _ (HT.out.up Grew.out)).mono ?_; rintro e w1 ⟨rfl, δ6, rfl⟩)
    go_ret
    exact ⟨rfl, lat_ex⟩
  have HW := Lib.hid hw
  have HC := Lib.hid hc
  go_upto_region 3 with fail
  clear hw hc
  refine wp_name fun W1 hW1 => ?_
  have iw1 : Le B W1 := by rw [hW1.out]; infer_instance
  have iw2 : Grew B w W1 := by rw [hW1.out]; infer_instance
  have iw3 : Le 2 W1 := by rw [hW1.out]; infer_instance
  have iw4 : Grew 2 w W1 := by rw [hW1.out]; infer_instance
  have iw5 : Le w.heap.size W1 := by rw [hW1.out]; infer_instance
  have iw6 : Grew w.heap.size w W1 := by rw [hW1.out]; infer_instance
  have iw7 : Lt (w.heap.size) W1 := by rw [hW1.out]; infer_instance
  have iw8 : Lt (w.heap.size + 1) W1 := by rw [hW1.out]; infer_instance
  have iw9 : Lt (w.heap.size + 1 + 1) W1 := by rw [hW1.out]; infer_instance
  have cw10 : W1.cell? ⟨w.heap.size, 0, none⟩ = some (.int .i64 n.wind.lo) := by rw [hW1.out]; go_simp
  have cw11 : W1.cell? ⟨w.heap.size, 1, none⟩ = some (.int .i64 n.wind.hi) := by rw [hW1.out]; go_simp
  have cw12 : W1.cell? ⟨w.heap.size, 2, none⟩ = some (.int .i64 n.cur.lo) := by rw [hW1.out]; go_simp
  have cw13 : W1.cell? ⟨w.heap.size, 3, none⟩ = some (.int .i64 n.cur.hi) := by rw [hW1.out]; go_simp
  have cw14 : W1.cell? ⟨w.heap.size, 4, none⟩ = some (.slice r.gA n.grips.length r.gc) := by rw [hW1.out]; go_simp
  have cw15 : W1.cell? ⟨w.heap.size, 5, none⟩ = some (.slice r.aA n.ancs.length r.ac) := by rw [hW1.out]; go_simp
  have cw16 : W1.cell? ⟨w.heap.size, 6, none⟩ = some (.slice r.wA n.wals.length r.wc) := by rw [hW1.out]; go_simp
  have cw17 : W1.cell? ⟨w.heap.size + 1, 0, none⟩ = some (.int .i64 t.wind) := by rw [hW1.out]; go_simp
  have cw18 : W1.cell? ⟨w.heap.size + 1, 1, none⟩ = some (.int .i64 t.cur) := by rw [hW1.out]; go_simp
  have cw19 : W1.cell? ⟨w.heap.size + 1, 2, none⟩ = some (.slice rt.tA t.grips.length rt.tc) := by rw [hW1.out]; go_simp
  have cw20 : W1.cell? ⟨w.heap.size + 1 + 1, 0, none⟩ = some (.int .i64 u.wind) := by rw [hW1.out]; go_simp
  have cw21 : W1.cell? ⟨w.heap.size + 1 + 1, 1, none⟩ = some (.int .i64 u.cur) := by rw [hW1.out]; go_simp
  have cw22 : W1.cell? ⟨w.heap.size + 1 + 1, 2, none⟩ = some (.slice ru.tA u.grips.length ru.tc) := by rw [hW1.out]; go_simp
  have s1 : Sl encI B W1 rt.tA rt.tc t.grips := Ht.out.up
  have s2 : Sl encI B W1 ru.tA ru.tc u.grips := Hu.out.up
  have hlt1 : t.grips.length ≤ 1000 := by
    have := (okTru_of Q1.out.1 Q1.out.2.2).2.2.2.1
    have := (valid_iff.1 Q1.out.1).2.2.1
    omega
  have HL := Lib.hid (show t.grips.length = u.grips.length ∧ t.grips.length = n.grips.length by
    have a := (okTru_of Q1.out.1 Q1.out.2.2).2.2.2.1
    have b := (okTru_of Q1.out.1 Q2.out).2.2.2.1
    exact ⟨by rw [a, b], a⟩)
  go_wp2_with (fail)
  go_loopg [7] t.grips.length (fun g i wr => ∃ (k : Nat) (δ : World), k ≤ t.grips.length ∧ g = t.grips.length - k ∧ i = .int .i64 k ∧ Hid (∀ j, j < k → nth t.grips j ≤ nth u.grips j) ∧ wr = lat W1 δ)
  case atStart => exact ⟨0, W1, Nat.zero_le _, rfl, rfl, fun j hj => by omega, (lat_refl W1).symm⟩
  case round =>
    obtain ⟨k, δ, hk, rfl, rfl, hn, rfl⟩ := hrel
    by_cases hlt : k < t.grips.length
    · obtain ⟨b, o, hA, hb, d0⟩ := s1.int hlt
      have hlt' : k < u.grips.length := by have := HL.out.1; omega
      obtain ⟨b', o', hA', hb', d1⟩ := s2.int hlt'
      have ib : Lt b W1 := ⟨Nat.lt_of_lt_of_le hb iw1.out⟩
      have ib' : Lt b' W1 := ⟨Nat.lt_of_lt_of_le hb' iw1.out⟩
      have hki : (k : Int) < (t.grips.length : Int) := by omega
      have hki' : (k : Int) < (u.grips.length : Int) := by omega
      have hk0 : ¬ (k : Int) < 0 := by omega
      rw [hA] at cw19
      rw [hA'] at cw22
      clear hA hA'
      by_cases hq : nth u.grips k < nth t.grips k
      · have HQ := Lib.hid hq
        go_wp2_with (fail)
        refine wp_region_lat (by kernel_rfl) (by kernel_rfl) ?_
        repeat (go_big_quiet_step ((first | (fail))))
        refine wpQuiet_nil ?_
        rintro _ ⟨δq, rfl⟩
        go_wp2_with (go_at_call 16; refine (works_c _ (HT.out.up Grew.out)).mono ?_; rintro e w1 ⟨rfl, δ6, rfl⟩)
        go_ret
        exact ⟨rfl, lat_ex⟩
      · have HQ := Lib.hid hq
        go_wp2_with (fail)
        refine wp_region_lat (by kernel_rfl) (by kernel_rfl) ?_
        repeat (go_big_quiet_step ((first | (fail))))
        refine wpQuiet_nil ?_
        rintro _ ⟨δq, rfl⟩
        go_wp2_with (fail)
        go_roundg (t.grips.length - (k + 1))
        case measure => omega
        case rel =>
          refine ⟨k + 1, _, by omega, rfl, by go_num, fun j hj => ?_, lat_def⟩
          by_cases hjk : j = k
          · subst hjk; have := HQ.out; omega
          · exact hn.out j (by omega)
    · obtain rfl : k = t.grips.length := by omega
      have hard : Harder n u t := ⟨by have := HW.out; omega, by have := HC.out; omega, fun b hb => hn.out b (by have := HL.out.2; omega)⟩
      have HP := Lib.hid (drags_part Q1.out.1 Q2.out Q1.out.2.2 hard)
      have hws := wN_sN Q1.out.1
      have hws' : ¬ (sN n : Int) < (wN n : Int) := by omega
      clear hard
      go_wp2_with (fail)
      refine (lawDrags_c r n rt t B _ H.out.up Ht.out.up (HT.out.up Grew.out) Q1.out.1 Q1.out.2.2).mono ?_
      rintro e w1 ⟨A1, c1, δ1, rfl, rfl, hS1⟩
      go_wp2_with (fail)
      refine (lawDrags_c r n ru u B _ H.out.up Hu.out.up (HT.out.up Grew.out) Q1.out.1 Q2.out).mono ?_
      rintro e w1 ⟨A2, c2, δ2, rfl, rfl, hS2⟩
      go_wp2_with (fail)
      rcases calmer_cases Q1.out.1 Q1.out.2.2 with ⟨k1, k2, k3⟩ | ⟨k1, k2, k3, k4⟩ | ⟨k1, k2, k3, k4, k5⟩ | ⟨k1, k2, k3⟩ | ⟨k1, k2, k3, k4⟩ | ⟨k1, k2, k3, k4, k5⟩
      · refine (wind_none r n B _ H.out.up Q1.out.1 k1.out).mono ?_
        rintro e w1 ⟨rfl, δ3, rfl⟩
        go_wp2_with (fail)
        refine (storm_none r n B _ H.out.up Q1.out.1 k2.out).mono ?_
        rintro e w1 ⟨rfl, δ4, rfl⟩
        go_wp2_with (fail)
        refine (isPart_c A2 A1 c2 c1 _ _ _ _ hS2.wide hS1.wide HP.out).mono ?_
        rintro e w1 ⟨rfl, δ5, rfl⟩
        go_wp2_with (fail)
        refine (works_c _ (HT.out.up Grew.out)).mono ?_
        rintro e w1 ⟨rfl, δ6, rfl⟩
        go_wp2_with (fail)
        go_ret
        exact ⟨rfl, lat_ex⟩
      · refine (wind_some r n B _ H.out.up Q1.out.1 k1).mono ?_
        rintro e w1 ⟨rfl, δ3, rfl⟩
        go_wp2_with (fail)
        refine (storm_none r n B _ H.out.up Q1.out.1 k2.out).mono ?_
        rintro e w1 ⟨rfl, δ4, rfl⟩
        go_wp2_with (fail)
        refine (isPart_c A2 A1 c2 c1 _ _ _ _ hS2.wide hS1.wide HP.out).mono ?_
        rintro e w1 ⟨rfl, δ5, rfl⟩
        go_wp2_with (fail)
        refine (works_c _ (HT.out.up Grew.out)).mono ?_
        rintro e w1 ⟨rfl, δ6, rfl⟩
        go_wp2_with (fail)
        go_ret
        exact ⟨rfl, lat_ex⟩
      · refine (wind_some r n B _ H.out.up Q1.out.1 k1).mono ?_
        rintro e w1 ⟨rfl, δ3, rfl⟩
        go_wp2_with (fail)
        refine (storm_some r n B _ H.out.up Q1.out.1 k2).mono ?_
        rintro e w1 ⟨rfl, δ4, rfl⟩
        go_wp2_with (fail)
        refine (isPart_c A2 A1 c2 c1 _ _ _ _ hS2.wide hS1.wide HP.out).mono ?_
        rintro e w1 ⟨rfl, δ5, rfl⟩
        go_wp2_with (fail)
        refine (works_c _ (HT.out.up Grew.out)).mono ?_
        rintro e w1 ⟨rfl, δ6, rfl⟩
        go_wp2_with (fail)
        go_ret
        exact ⟨rfl, lat_ex⟩
      · refine (wind_some r n B _ H.out.up Q1.out.1 k1).mono ?_
        rintro e w1 ⟨rfl, δ3, rfl⟩
        go_wp2_with (fail)
        refine (storm_none r n B _ H.out.up Q1.out.1 k2.out).mono ?_
        rintro e w1 ⟨rfl, δ4, rfl⟩
        go_wp2_with (fail)
        refine (isPart_c A2 A1 c2 c1 _ _ _ _ hS2.wide hS1.wide HP.out).mono ?_
        rintro e w1 ⟨rfl, δ5, rfl⟩
        go_wp2_with (fail)
        refine (works_c _ (HT.out.up Grew.out)).mono ?_
        rintro e w1 ⟨rfl, δ6, rfl⟩
        go_wp2_with (fail)
        go_ret
        exact ⟨rfl, lat_ex⟩
      · refine (wind_some r n B _ H.out.up Q1.out.1 k1).mono ?_
        rintro e w1 ⟨rfl, δ3, rfl⟩
        go_wp2_with (fail)
        refine (storm_some r n B _ H.out.up Q1.out.1 k2).mono ?_
        rintro e w1 ⟨rfl, δ4, rfl⟩
        go_wp2_with (fail)
        refine (isPart_c A2 A1 c2 c1 _ _ _ _ hS2.wide hS1.wide HP.out).mono ?_
        rintro e w1 ⟨rfl, δ5, rfl⟩
        go_wp2_with (fail)
        refine (works_c _ (HT.out.up Grew.out)).mono ?_
        rintro e w1 ⟨rfl, δ6, rfl⟩
        go_wp2_with (fail)
        go_ret
        exact ⟨rfl, lat_ex⟩
      · refine (wind_some r n B _ H.out.up Q1.out.1 k1).mono ?_
        rintro e w1 ⟨rfl, δ3, rfl⟩
        go_wp2_with (fail)
        refine (storm_some r n B _ H.out.up Q1.out.1 k2).mono ?_
        rintro e w1 ⟨rfl, δ4, rfl⟩
        go_wp2_with (fail)
        refine (isPart_c A2 A1 c2 c1 _ _ _ _ hS2.wide hS1.wide HP.out).mono ?_
        rintro e w1 ⟨rfl, δ5, rfl⟩
        go_wp2_with (fail)
        refine (works_c _ (HT.out.up Grew.out)).mono ?_
        rintro e w1 ⟨rfl, δ6, rfl⟩
        go_wp2_with (fail)
        go_ret
        exact ⟨rfl, lat_ex⟩

end Go.Proofs.YtgpcaaknpfopgaaDoor
