/- Layer 2: the walk of the law AnchorsBack. -/
import Derived.Test.YtgpcaaknpfopgaaDoorAn60
import Derived.Test.YtgpcaaknpfopgaaDoorAn61
namespace Go.Proofs.YtgpcaaknpfopgaaDoor
open Go.RowKit
open An

namespace An
theorem drags_bd {n : Net} {t : Tru} (hv : valid n = true) (ht : truB n t = true) : ∀ k, k < (dragsV n t).length → 0 ≤ nth (dragsV n t) k ∧ nth (dragsV n t) k ≤ 100 := by
  intro k hk
  have h6 := (valid_iff.1 hv).2.2.2.1
  have := (drags_rises hv ht k hk).1
  omega
end An

theorem drag_u (r : NetR) (n : Net) (j : Nat) (hv : valid n = true) (hj : j < n.ancs.length) (B : Nat) (w : World) [hB : Le B w] (h : NetIs B w r (turnN n)) :
    Calls Tryd.prog 30 #[netV r (turnN n), .int .i64 ((n.ancs.length : Int) - 1 - j)] w fun e w' => e = .returned (.tuple #[.int .i64 (dragV n j), .int .i64 0]) ∧ ∃ δ, w' = lat w δ := drag_t r n j _ rfl hv hj B w h
theorem spare_u (r : NetR) (n : Net) (j : Nat) (hv : valid n = true) (hj : j < n.ancs.length) (B : Nat) (w : World) [hB : Le B w] (h : NetIs B w r (turnN n)) :
    Calls Tryd.prog 33 #[netV r (turnN n), .int .i64 ((n.ancs.length : Int) - 1 - j)] w fun e w' => e = .returned (.tuple #[.agg #[.int .i64 (spareV n j).lo, .int .i64 (spareV n j).hi], .int .i64 0]) ∧ ∃ δ, w' = lat w δ := spare_t r n j _ rfl hv hj B w h

set_option maxRecDepth 100000 in
set_option maxHeartbeats 16000000 in
theorem lawBack_c (r : NetR) (n : Net) (rt : TruR) (t : Tru) (B : Nat) (w : World) [hB : Le B w] [h2 : Le 2 w] (h : NetIs B w r n) (h' : TruIs B w rt t) (hT : TabIs w) :
    Calls Tryd.prog 7 #[netV r n, truV rt t] w fun e w' => e = .returned (.bool true) ∧ ∃ δ, w' = lat w δ := by
  have HT := Lib.hid hT
  have H := Lib.hid h
  have Ht := Lib.hid h'
  by_cases hg : givenV n t = true
  all_goals try rw [Bool.not_eq_true] at hg
  case neg =>
    have HG := Lib.hid hg
    clear hT h h' hg
    go_enter Tryd.func7, Tryd.ntmps7
    go_wp2_with (fail)
    refine (givenV_is (r := r) HG.out H.out.up Ht.out.up).mono ?_
    rintro e w1 ⟨rfl, δ1, rfl⟩
    go_wp2_with (go_at_call 16; refine (works_c _ (HT.out.up Grew.out)).mono ?_; rintro e w1 ⟨rfl, δ6, rfl⟩)
    go_ret
    exact ⟨rfl, lat_ex⟩
  have HG := Lib.hid hg
  obtain ⟨hv, ht, hf⟩ := givenV_of hg
  have HV := Lib.hid hv
  have HR := Lib.hid ht
  have h6 := (valid_iff.1 hv).2.2.2.1
  have h3 := (valid_iff.1 hv).2.2.1
  have hw6 := wals_len hv
  have HTV := Lib.hid (turn_valid hv)
  have HTR := Lib.hid (show truB (turnN n) t = true from ht)
  have HM := Lib.hid (drags_mir hv ht)
  have HD := Lib.hid (drags_bd (turn_valid hv) (show truB (turnN n) t = true from ht))
  have HL := Lib.hid (And.intro h3 (And.intro h6 (show n.wals.length ≤ 6 by omega)))
  have HLA := Lib.hid (turn_len n)
  clear hT h h' hg hf hv ht hw6 h3
  go_enter Tryd.func7, Tryd.ntmps7
  go_upto_region 1 with fail
  refine wp_name fun W1 hW1 => ?_
  have iw1 : Le B W1 := by rw [hW1.out]; infer_instance
  have iw2 : Grew B w W1 := by rw [hW1.out]; infer_instance
  have iw3 : Le 2 W1 := by rw [hW1.out]; infer_instance
  have iw4 : Grew 2 w W1 := by rw [hW1.out]; infer_instance
  have iw5 : Le w.heap.size W1 := by rw [hW1.out]; infer_instance
  have iw6 : Grew w.heap.size w W1 := by rw [hW1.out]; infer_instance
  have iw7 : Lt (w.heap.size) W1 := by rw [hW1.out]; infer_instance
  have iw8 : Lt (w.heap.size + 1) W1 := by rw [hW1.out]; infer_instance
  have cw9 : W1.cell? ⟨w.heap.size, 0, none⟩ = some (.int .i64 n.wind.lo) := by rw [hW1.out]; go_simp
  have cw10 : W1.cell? ⟨w.heap.size, 1, none⟩ = some (.int .i64 n.wind.hi) := by rw [hW1.out]; go_simp
  have cw11 : W1.cell? ⟨w.heap.size, 2, none⟩ = some (.int .i64 n.cur.lo) := by rw [hW1.out]; go_simp
  have cw12 : W1.cell? ⟨w.heap.size, 3, none⟩ = some (.int .i64 n.cur.hi) := by rw [hW1.out]; go_simp
  have cw13 : W1.cell? ⟨w.heap.size, 4, none⟩ = some (.slice r.gA n.grips.length r.gc) := by rw [hW1.out]; go_simp
  have cw14 : W1.cell? ⟨w.heap.size, 5, none⟩ = some (.slice r.aA n.ancs.length r.ac) := by rw [hW1.out]; go_simp
  have cw15 : W1.cell? ⟨w.heap.size, 6, none⟩ = some (.slice r.wA n.wals.length r.wc) := by rw [hW1.out]; go_simp
  have cw16 : W1.cell? ⟨w.heap.size + 1, 0, none⟩ = some (.int .i64 t.wind) := by rw [hW1.out]; go_simp
  have cw17 : W1.cell? ⟨w.heap.size + 1, 1, none⟩ = some (.int .i64 t.cur) := by rw [hW1.out]; go_simp
  have cw18 : W1.cell? ⟨w.heap.size + 1, 2, none⟩ = some (.slice rt.tA t.grips.length rt.tc) := by rw [hW1.out]; go_simp
  go_wp2_with (fail)
  refine (givenV_is (r := r) HG.out H.out.up Ht.out.up).mono ?_
  rintro e w1 ⟨rfl, δ1, rfl⟩
  go_wp2_with (fail)
  refine (turned_c r n (by have := HL.out.1; omega) HL.out.2.1 HL.out.2.2 B _ H.out.up).mono ?_
  rintro e w1 ⟨r', δ2, rfl, rfl, ho⟩
  have HO := Lib.hid ho
  clear ho
  go_wp2_with (fail)
  refine (lawDrags_c r n rt t B _ H.out.up Ht.out.up (HT.out.up Grew.out) HV.out HR.out).mono ?_
  rintro e w1 ⟨A1, c1, δ3, rfl, rfl, hS1⟩
  have HS1 := Lib.hid hS1
  clear hS1
  go_wp2_with (fail)
  refine (lawDrags_c r' (turnN n) rt t _ _ HO.out.wide Ht.out.wide (HT.out.up Grew.out) HTV.out HTR.out).mono ?_
  rintro e w1 ⟨A2, c2, δ4, rfl, rfl, hS2⟩
  have HS2 := Lib.hid hS2
  clear hS2
  go_wp2_with (fail)
  refine (mirrored_c r n A1 A2 c1 c2 _ _ _ _ HS1.out.wide HS2.out.wide HM.out HL.out.2.1 HD.out).mono ?_
  rintro e w1 ⟨rfl, δ5, rfl⟩
  go_wp2_with (fail)
  refine (wind_h r n _ rfl B _ H.out.up HV.out).mono ?_
  rintro e w1 ⟨rfl, δ6, rfl⟩
  go_wp2_with (fail)
  refine (wind_h r' (turnN n) _ (wN_turn HV.out) _ _ HO.out.wide HTV.out).mono ?_
  rintro e w1 ⟨rfl, δ7, rfl⟩
  go_wp2_with (fail)
  refine (storm_h r n _ rfl B _ H.out.up HV.out).mono ?_
  rintro e w1 ⟨rfl, δ8, rfl⟩
  go_wp2_with (fail)
  refine (storm_h r' (turnN n) _ (sN_turn HV.out) _ _ HO.out.wide HTV.out).mono ?_
  rintro e w1 ⟨rfl, δ9, rfl⟩
  go_upto_region 14 with fail
  refine wp_name fun W2 hW2 => ?_
  have iw19 : Le B W2 := by rw [hW2.out]; infer_instance
  have iw20 : Grew B w W2 := by rw [hW2.out]; infer_instance
  have iw21 : Le 2 W2 := by rw [hW2.out]; infer_instance
  have iw22 : Grew 2 w W2 := by rw [hW2.out]; infer_instance
  have iw23 : Le w.heap.size W2 := by rw [hW2.out]; infer_instance
  have iw24 : Grew w.heap.size w W2 := by rw [hW2.out]; infer_instance
  have iw25 : Lt (w.heap.size) W2 := by rw [hW2.out]; infer_instance
  have iw26 : Lt (w.heap.size + 1) W2 := by rw [hW2.out]; infer_instance
  have iw27 : Lt ((lat (lat W1 δ1) δ2).heap.size) W2 := by rw [hW2.out]; infer_instance
  have cw28 : W2.cell? ⟨w.heap.size, 0, none⟩ = some (.int .i64 n.wind.lo) := by rw [hW2.out]; go_simp
  have cw29 : W2.cell? ⟨w.heap.size, 1, none⟩ = some (.int .i64 n.wind.hi) := by rw [hW2.out]; go_simp
  have cw30 : W2.cell? ⟨w.heap.size, 2, none⟩ = some (.int .i64 n.cur.lo) := by rw [hW2.out]; go_simp
  have cw31 : W2.cell? ⟨w.heap.size, 3, none⟩ = some (.int .i64 n.cur.hi) := by rw [hW2.out]; go_simp
  have cw32 : W2.cell? ⟨w.heap.size, 4, none⟩ = some (.slice r.gA n.grips.length r.gc) := by rw [hW2.out]; go_simp
  have cw33 : W2.cell? ⟨w.heap.size, 5, none⟩ = some (.slice r.aA n.ancs.length r.ac) := by rw [hW2.out]; go_simp
  have cw34 : W2.cell? ⟨w.heap.size, 6, none⟩ = some (.slice r.wA n.wals.length r.wc) := by rw [hW2.out]; go_simp
  have cw35 : W2.cell? ⟨(lat (lat W1 δ1) δ2).heap.size, 0, none⟩ = some (.int .i64 (turnN n).wind.lo) := by rw [hW2.out]; go_simp
  have cw36 : W2.cell? ⟨(lat (lat W1 δ1) δ2).heap.size, 1, none⟩ = some (.int .i64 (turnN n).wind.hi) := by rw [hW2.out]; go_simp
  have cw37 : W2.cell? ⟨(lat (lat W1 δ1) δ2).heap.size, 2, none⟩ = some (.int .i64 (turnN n).cur.lo) := by rw [hW2.out]; go_simp
  have cw38 : W2.cell? ⟨(lat (lat W1 δ1) δ2).heap.size, 3, none⟩ = some (.int .i64 (turnN n).cur.hi) := by rw [hW2.out]; go_simp
  have cw39 : W2.cell? ⟨(lat (lat W1 δ1) δ2).heap.size, 4, none⟩ = some (.slice r'.gA (turnN n).grips.length r'.gc) := by rw [hW2.out]; go_simp
  have cw40 : W2.cell? ⟨(lat (lat W1 δ1) δ2).heap.size, 5, none⟩ = some (.slice r'.aA (turnN n).ancs.length r'.ac) := by rw [hW2.out]; go_simp
  have cw41 : W2.cell? ⟨(lat (lat W1 δ1) δ2).heap.size, 6, none⟩ = some (.slice r'.wA (turnN n).wals.length r'.wc) := by rw [hW2.out]; go_simp
  have NO := Lib.hid (show NetIs W2.heap.size W2 r' (turnN n) by rw [hW2.out]; exact HO.out.wide)
  clear hW2 HO HS1 HS2
  generalize (lat (lat W1 δ1) δ2).heap.size = bo at *
  go_wp2_with (fail)
  go_loopg [19] n.ancs.length (fun g i wr => ∃ (j : Nat) (δ : World), j ≤ n.ancs.length ∧ g = n.ancs.length - j ∧ i = .int .i64 j ∧ wr = lat W2 δ)
  case atStart => exact ⟨0, W2, Nat.zero_le _, rfl, rfl, (lat_refl W2).symm⟩
  case round =>
    obtain ⟨j, δ, hj, rfl, rfl, rfl⟩ := hrel
    by_cases hlt : j < n.ancs.length
    · have hji : (j : Int) ≤ (n.ancs.length : Int) - 1 := by omega
      have HJ := Lib.hid hlt
      clear hlt
      go_wp2_with (fail)
      refine (drag_k r n j _ rfl HV.out HJ.out B _ H.out.up).mono ?_
      rintro e w1 ⟨rfl, δ3, rfl⟩
      go_wp2_with (fail)
      refine (drag_u r' n j HV.out HJ.out _ _ NO.out.wide).mono ?_
      rintro e w1 ⟨rfl, δ4, rfl⟩
      go_wp2_with (fail)
      refine (spare_k r n j HV.out HJ.out B _ H.out.up).mono ?_
      rintro e w1 ⟨rfl, δ5, rfl⟩
      go_wp2_with (fail)
      refine (spare_u r' n j HV.out HJ.out _ _ NO.out.wide).mono ?_
      rintro e w1 ⟨rfl, δ6, rfl⟩
      go_wp2_with (fail)
      go_roundg (n.ancs.length - (j + 1))
      case measure => have := HJ.out; omega
      case rel => exact ⟨j + 1, _, HJ.out, rfl, by go_num, lat_def⟩
    · obtain rfl : j = n.ancs.length := by omega
      by_cases hok : needOk n = true
      all_goals try rw [Bool.not_eq_true] at hok
      · have HN := Lib.hid (And.intro (needE_ok HV.out hok) (And.intro (needV_len HV.out hok) (And.intro (needE_ok HTV.out ((needOk_turn HV.out).trans hok)) ((needV_len HTV.out ((needOk_turn HV.out).trans hok)).trans HLA.out))))
        have HOK := Lib.hid hok
        clear hok
        go_wp2_with (fail)
        refine (need_c r n B _ H.out.up).mono ?_
        rw [HN.out.1, HN.out.2.1]
        rintro e w1 ⟨A3, c3, δ3, rfl, rfl, hS⟩
        have HS3 := Lib.hid hS
        clear hS
        go_wp2_with (fail)
        refine (need_c r' (turnN n) _ _ NO.out.wide).mono ?_
        rw [HN.out.2.2.1, HN.out.2.2.2]
        rintro e w1 ⟨A4, c4, δ4, rfl, rfl, hS⟩
        have HS4 := Lib.hid hS
        clear hS
        go_upto_region 28 with fail
        refine wp_name fun W3 hW3 => ?_
        have S3 : Sl encI W3.heap.size W3 A3 c3 (needV n) := by rw [hW3.out]; exact HS3.out.wide
        have S4 : Sl encI W3.heap.size W3 A4 c4 (needV (turnN n)) := by rw [hW3.out]; exact HS4.out.wide
        have iw42 : Le B W3 := by rw [hW3.out]; infer_instance
        have iw43 : Grew B w W3 := by rw [hW3.out]; infer_instance
        have iw44 : Le 2 W3 := by rw [hW3.out]; infer_instance
        have iw45 : Grew 2 w W3 := by rw [hW3.out]; infer_instance
        have iw46 : Le w.heap.size W3 := by rw [hW3.out]; infer_instance
        have iw47 : Grew w.heap.size w W3 := by rw [hW3.out]; infer_instance
        clear hW3
        go_wp2_with (fail)
        go_loopg [30] n.ancs.length (fun g i wr => ∃ (j : Nat) (δ : World), j ≤ n.ancs.length ∧ g = n.ancs.length - j ∧ i = .int .i64 j ∧ wr = lat W3 δ)
        case atStart => exact ⟨0, W3, Nat.zero_le _, rfl, rfl, (lat_refl W3).symm⟩
        case round =>
          obtain ⟨j, δ, hj, rfl, rfl, rfl⟩ := hrel
          by_cases hlt : j < n.ancs.length
          · obtain ⟨m, hm⟩ : ∃ m, n.ancs.length = j + 1 + m := ⟨n.ancs.length - 1 - j, by omega⟩
            obtain ⟨b3, o3, hA3, hb3, l3⟩ := S3.int (k := j) (by rw [HN.out.2.1]; exact hlt)
            obtain ⟨b4, o4, hA4, hb4, l4⟩ := S4.int (k := m) (by rw [HN.out.2.2.2]; omega)
            rw [needV_nth HV.out HOK.out hlt] at l3
            rw [needV_nth HTV.out ((needOk_turn HV.out).trans HOK.out) (by rw [turn_len]; omega), (needN_turn HV.out (by omega)).1, show n.ancs.length - 1 - m = j by omega] at l4
            have i3 : Lt b3 W3 := ⟨hb3⟩
            have i4 : Lt b4 W3 := ⟨hb4⟩
            have hA3 : A3 = some ⟨b3, o3, none⟩ := hA3
            have hA4 : A4 = some ⟨b4, o4, none⟩ := hA4
            subst hA3 hA4
            have hz : (n.ancs.length : Int) - 1 - (j : Int) = (m : Int) := by omega
            have hji : (j : Int) < (n.ancs.length : Int) := by omega
            have hj0 : ¬ (j : Int) < 0 := by omega
            have hmi : (m : Int) < (n.ancs.length : Int) := by omega
            have hm0 : ¬ (m : Int) < 0 := by omega
            have HK := Lib.hid (And.intro hlt hm)
            clear hlt hm
            go_wp2_with (fail)
            refine wp_region_lat (by kernel_rfl) (by kernel_rfl) ?_
            repeat (go_big_quiet_step ((first | (fail))))
            refine wpQuiet_nil ?_
            rintro _ ⟨δq, rfl⟩
            go_wp2_with (fail)
            go_roundg (n.ancs.length - (j + 1))
            case measure => have := HK.out.1; omega
            case rel => exact ⟨j + 1, _, HK.out.1, rfl, by go_num, lat_def⟩
          · obtain rfl : j = n.ancs.length := by omega
            go_wp2_with (go_at_call 16; refine (works_c _ (HT.out.up Grew.out)).mono ?_; rintro e w1 ⟨rfl, δ6, rfl⟩)
            go_ret
            exact ⟨rfl, lat_ex⟩
      · have HN := Lib.hid (And.intro (needE_no HV.out hok) (And.intro (needV_no hok) (And.intro (needE_no HTV.out ((needOk_turn HV.out).trans hok)) (needV_no ((needOk_turn HV.out).trans hok)))))
        clear hok
        go_wp2_with (fail)
        refine (need_c r n B _ H.out.up).mono ?_
        rw [HN.out.1, HN.out.2.1]
        rintro e w1 ⟨A3, c3, δ3, rfl, rfl, hS⟩
        clear hS
        go_wp2_with (fail)
        refine (need_c r' (turnN n) _ _ NO.out.wide).mono ?_
        rw [HN.out.2.2.1, HN.out.2.2.2]
        rintro e w1 ⟨A4, c4, δ4, rfl, rfl, hS⟩
        clear hS
        go_wp2_with (fail)
        go_loopg [30] 0 (fun g i wr => g = 0 ∧ i = .int .i64 0 ∧ ∃ δ, wr = lat W2 δ)
        case atStart => exact ⟨rfl, rfl, lat_ex⟩
        case round =>
          obtain ⟨rfl, rfl, δ7, rfl⟩ := hrel
          go_wp2_with (go_at_call 16; refine (works_c _ (HT.out.up Grew.out)).mono ?_; rintro e w1 ⟨rfl, δ6, rfl⟩)
          go_ret
          exact ⟨rfl, lat_ex⟩

end Go.Proofs.YtgpcaaknpfopgaaDoor
