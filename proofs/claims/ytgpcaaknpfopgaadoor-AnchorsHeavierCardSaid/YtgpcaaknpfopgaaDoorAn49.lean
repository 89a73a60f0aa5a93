/- Layer 2: the walk of the law AnchorsHeavier where net, truth, anchor and weight are given. -/
import Derived.Test.YtgpcaaknpfopgaaDoorAn47
import Derived.Test.YtgpcaaknpfopgaaDoorAn48
import Derived.Test.YtgpcaaknpfopgaaDoorAn33
import Derived.Test.YtgpcaaknpfopgaaDoorAn27
import Derived.Test.YtgpcaaknpfopgaaDoorAn42
import Derived.Outline
import Derived.Deep.DeepCutAuto
namespace Go.Proofs.YtgpcaaknpfopgaaDoor
open Go.RowKit
open An

theorem givenV_is {n : Net} {t : Tru} {b : Bool} (hb : givenV n t = b) {r : NetR} {rt : TruR} {B : Nat} {w : World} [hB : Le B w] (h : NetIs B w r n) (h' : TruIs B w rt t) :
    Calls Tryd.prog 23 #[netV r n, truV rt t] w fun e w' => e = .returned (.bool b) ∧ ∃ δ, w' = lat w δ := by
  subst hb; exact givenV_c r n rt t B w h h'

namespace An
def WindPost (m : Nat) (w : World) (e : Ending) (w' : World) : Prop := ∃ (x y : Int) (δ : World), e = .returned (.tuple #[.int .i64 x, .int .i64 y]) ∧ w' = lat w δ ∧ Hid ((m < 21 ∧ x = m ∧ y = 0) ∨ (m = 21 ∧ x = 0 ∧ y = 3))
theorem givenV_of {n : Net} {t : Tru} (h : givenV n t = true) : valid n = true ∧ truB n t = true ∧ farV n = false := by
  unfold givenV readyV at h
  simp only [Bool.and_eq_true, Bool.not_eq_true'] at h
  exact ⟨h.1.2, h.2.2, h.1.1⟩
end An
theorem wind_x (r : NetR) (n : Net) (B : Nat) (w : World) [hB : Le B w] (h : NetIs B w r n) (hv : valid n = true) :
    Calls Tryd.prog 18 #[netV r n] w (WindPost (wN n) w) := by
  by_cases hx : wN n = 21
  · refine (wind_none r n B w h hv hx).mono ?_
    rintro e w1 ⟨rfl, δ, rfl⟩
    exact ⟨0, 3, δ, rfl, rfl, .inr ⟨hx, rfl, rfl⟩⟩
  · have := wN_le n
    refine (wind_some r n B w h hv (by omega)).mono ?_
    rintro e w1 ⟨rfl, δ, rfl⟩
    exact ⟨_, 0, δ, rfl, rfl, .inl ⟨by omega, rfl, rfl⟩⟩
theorem storm_x (r : NetR) (n : Net) (B : Nat) (w : World) [hB : Le B w] (h : NetIs B w r n) (hv : valid n = true) :
    Calls Tryd.prog 20 #[netV r n] w (WindPost (sN n) w) := by
  by_cases hx : sN n = 21
  · refine (storm_none r n B w h hv hx).mono ?_
    rintro e w1 ⟨rfl, δ, rfl⟩
    exact ⟨0, 3, δ, rfl, rfl, .inr ⟨hx, rfl, rfl⟩⟩
  · have := sN_le n
    refine (storm_some r n B w h hv (by omega)).mono ?_
    rintro e w1 ⟨rfl, δ, rfl⟩
    exact ⟨_, 0, δ, rfl, rfl, .inl ⟨by omega, rfl, rfl⟩⟩

namespace An
theorem heavy_cases {n : Net} (hv : valid n = true) {i : Nat} {x : Int} (hv' : valid (heav n i x) = true) (hx : 0 ≤ x) {j : Nat} (hj : j < n.ancs.length) :
    (Hid (dragV n j = 1) ∧ Hid (dragV (heav n i x) j = 1)) ∨ (Hid (dragV n j = 1) ∧ Hid (dragV (heav n i x) j = 3)) ∨ (Hid (dragV n j = 1) ∧ Hid (dragV (heav n i x) j = 2)) ∨
    (Hid (dragV n j = 3) ∧ Hid (dragV (heav n i x) j = 3)) ∨ (Hid (dragV n j = 3) ∧ Hid (dragV (heav n i x) j = 2)) ∨ (Hid (dragV n j = 2) ∧ Hid (dragV (heav n i x) j = 2)) := by
  have h := drag_heav hv hv' hx hj
  have e : ∀ m : Net, valid m = true → m.ancs.length = n.ancs.length → dragV m j = 1 ∨ dragV m j = 2 ∨ dragV m j = 3 := by
    intro m hm hl
    unfold dragV
    rw [hm, show inB 0 ((m.ancs.length : Int) - 1) (j : Int) = true by rw [inB_iff]; omega]
    unfold onOk knownB
    simp only [Bool.and_self, if_true]
    split
    · exact .inl rfl
    · split
      · exact .inr (.inr rfl)
      · exact .inr (.inl rfl)
  have h1 := e n hv rfl
  have h2 := e _ hv' (heav_len _ _ _)
  simp only [Hid]
  omega
end An

set_option maxRecDepth 100000 in
set_option maxHeartbeats 8000000 in
theorem lawHeavierT_c (r : NetR) (n : Net) (rt : TruR) (t : Tru) (k : Nat) (x : Int) (B : Nat) (w : World) [hB : Le B w] [h2 : Le 2 w] (h : NetIs B w r n) (h' : TruIs B w rt t) (hT : TabIs w)
    (hg : givenV n t = true) (hi : inB 0 (n.ancs.length - 1) (k : Int) = true) (hx : inB 0 (20 - (nth n.ancs k).wt) x = true) :
    Calls Tryd.prog 6 #[netV r n, truV rt t, .agg #[.int .i64 k, .int .i64 x]] w fun e w' => e = .returned (.bool true) ∧ ∃ δ, w' = lat w δ := by
  have HT := Lib.hid hT
  have H := Lib.hid h
  have Ht := Lib.hid h'
  have HG := Lib.hid hg
  have HI := Lib.hid hi
  have HX := Lib.hid hx
  have hi' := inB_iff.1 hi
  have hk : k < n.ancs.length := by omega
  have hki : (k : Int) < (n.ancs.length : Int) := by omega
  have hk0 : ¬ (k : Int) < 0 := by omega
  obtain ⟨hv, ht, hf⟩ := givenV_of hg
  have HV := Lib.hid hv
  have HR := Lib.hid ht
  have ha := okAnc_nth hv hk
  simp only [okAnc, decide_eq_true_eq] at ha
  have hx' := inB_iff.1 hx
  have hw0 : 0 ≤ (nth n.ancs k).wt := ha.1
  have hw1 : (nth n.ancs k).wt ≤ 20 := ha.2.1
  have HO' := Lib.hid (heav_valid hv (x := x) hk (by omega) (by omega))
  have HP := Lib.hid (drags_heav hv ht HO'.out hx'.1)
  have HQ := Lib.hid (huge_no (farV_huge hf))
  have HW := Lib.hid (show -100 ≤ (nth n.ancs k).wt + x ∧ (nth n.ancs k).wt + x ≤ 100 by omega)
  have HWS := Lib.hid (And.intro (wN_heav hv (i := k) hx'.1) (sN_heav hv (i := k) hx'.1))
  have HXP := Lib.hid hx'.1
  have HK := Lib.hid hk
  obtain ⟨gA, gc, aA, ac, wA, wc⟩ := r
  obtain ⟨b, o, hA, hb, d0, d1⟩ := h.2.1.anc hk
  have hA : aA = some ⟨b, o, none⟩ := hA
  subst hA
  have ib : Lt b w := ⟨Nat.lt_of_lt_of_le hb hB.out⟩
  clear hT h h' hg hi hx hi' hv ht ha hx' hk hf hb
  go_enter Tryd.func6, Tryd.ntmps6
  rw [show netV ⟨gA, gc, some ⟨b, o, none⟩, ac, wA, wc⟩ n = Value.agg #[.int .i64 n.wind.lo, .int .i64 n.wind.hi, .int .i64 n.cur.lo, .int .i64 n.cur.hi, .slice gA n.grips.length gc, .slice (some ⟨b, o, none⟩) n.ancs.length ac, .slice wA n.wals.length wc] from rfl]
  go_upto_region 1 with fail
  refine wp_name fun W1 hW1 => ?_
  have iw1 : Le B W1 := by rw [hW1.out]; infer_instance
  have iw2 : Grew B w W1 := by rw [hW1.out]; infer_instance
  have iw3 : Le 2 W1 := by rw [hW1.out]; infer_instance
  have iw4 : Grew 2 w W1 := by rw [hW1.out]; infer_instance
  have iw5 : Le w.heap.size W1 := by rw [hW1.out]; infer_instance
  have iw6 : Grew w.heap.size w W1 := by rw [hW1.out]; infer_instance
  have iw7 : Lt (w.heap.size) W1 := by rw [hW1.out]; infer_instance
  have iw8 : Lt (w.heap.size + 1) W1 := by rw [hW1.out]; infer_instance
  have iw9 : Lt (w.heap.size + 1 + 1) W1 := by rw [hW1.out]; infer_instance
  have iw10 : Lt (b) W1 := by rw [hW1.out]; infer_instance
  have cw11 : W1.cell? ⟨w.heap.size, 0, none⟩ = some (.int .i64 n.wind.lo) := by rw [hW1.out]; go_simp
  have cw12 : W1.cell? ⟨w.heap.size, 1, none⟩ = some (.int .i64 n.wind.hi) := by rw [hW1.out]; go_simp
  have cw13 : W1.cell? ⟨w.heap.size, 2, none⟩ = some (.int .i64 n.cur.lo) := by rw [hW1.out]; go_simp
  have cw14 : W1.cell? ⟨w.heap.size, 3, none⟩ = some (.int .i64 n.cur.hi) := by rw [hW1.out]; go_simp
  have cw15 : W1.cell? ⟨w.heap.size, 4, none⟩ = some (.slice gA n.grips.length gc) := by rw [hW1.out]; go_simp
  have cw16 : W1.cell? ⟨w.heap.size, 5, none⟩ = some (.slice (some ⟨b, o, none⟩) n.ancs.length ac) := by rw [hW1.out]; go_simp
  have cw17 : W1.cell? ⟨w.heap.size, 6, none⟩ = some (.slice wA n.wals.length wc) := by rw [hW1.out]; go_simp
  have cw18 : W1.cell? ⟨w.heap.size + 1, 0, none⟩ = some (.int .i64 t.wind) := by rw [hW1.out]; go_simp
  have cw19 : W1.cell? ⟨w.heap.size + 1, 1, none⟩ = some (.int .i64 t.cur) := by rw [hW1.out]; go_simp
  have cw20 : W1.cell? ⟨w.heap.size + 1, 2, none⟩ = some (.slice rt.tA t.grips.length rt.tc) := by rw [hW1.out]; go_simp
  have cw21 : W1.cell? ⟨w.heap.size + 1 + 1, 0, none⟩ = some (.int .i64 k) := by rw [hW1.out]; go_simp
  have cw22 : W1.cell? ⟨w.heap.size + 1 + 1, 1, none⟩ = some (.int .i64 x) := by rw [hW1.out]; go_simp
  have d2 : W1.cell? ⟨b, o + k * 2, none⟩ = some (.int .i64 (nth n.ancs k).wt) := by rw [hW1.out]; go_simp
  clear d0 d1
  refine wp_region_lat (by kernel_rfl) (by kernel_rfl) ?_
  repeat (go_big_quiet_step ((first | (go_at_call 23; exact Calls.lat_of (givenV_is (r := ⟨gA, gc, some ⟨b, o, none⟩, ac, wA, wc⟩) HG.out H.out.up Ht.out.up)) | (go_at_call 27; exact Calls.lat_of (rIsAnchor_is (r := ⟨gA, gc, some ⟨b, o, none⟩, ac, wA, wc⟩) HI.out H.out.up)) | (go_at_call 28; exact Calls.lat_same (within_is HX.out _)))))
  refine wpQuiet_nil ?_
  rintro _ ⟨δq, rfl⟩
  go_wp2_with (fail)
  refine (heavier_c ⟨gA, gc, some ⟨b, o, none⟩, ac, wA, wc⟩ n k x HK.out HW.out B _ H.out.up HQ.out.1 HQ.out.2.1 HQ.out.2.2.1).mono ?_
  rintro e w1 ⟨r', δ1, rfl, rfl, ho⟩
  have HO := Lib.hid ho
  clear ho
  go_wp2_with (fail)
  refine (lawDrags_c ⟨gA, gc, some ⟨b, o, none⟩, ac, wA, wc⟩ n rt t B _ H.out.up Ht.out.up (HT.out.up Grew.out) HV.out HR.out).mono ?_
  rintro e w1 ⟨A1, c1, δ2, rfl, rfl, hS1⟩
  have HS1 := Lib.hid hS1
  clear hS1
  go_wp2_with (fail)
  refine (lawDrags_c r' (heav n k x) rt t _ _ HO.out.wide Ht.out.wide (HT.out.up Grew.out) HO'.out HR.out).mono ?_
  rintro e w1 ⟨A2, c2, δ3, rfl, rfl, hS2⟩
  have HS2 := Lib.hid hS2
  clear hS2
  go_wp2_with (fail)
  refine (isPart_c A2 A1 c2 c1 _ _ _ _ HS2.out.wide HS1.out.wide HP.out).mono ?_
  rintro e w1 ⟨rfl, δ4, rfl⟩
  go_wp2_with (fail)
  refine (wind_x ⟨gA, gc, some ⟨b, o, none⟩, ac, wA, wc⟩ n B _ H.out.up HV.out).mono ?_
  rintro e w1 ⟨x1, y1, δ5, rfl, rfl, hq1⟩
  go_wp2_with (fail)
  refine (wind_x r' (heav n k x) _ _ HO.out.wide HO'.out).mono ?_
  rintro e w1 ⟨x2, y2, δ6, rfl, rfl, hq2⟩
  go_wp2_with (fail)
  refine (storm_x ⟨gA, gc, some ⟨b, o, none⟩, ac, wA, wc⟩ n B _ H.out.up HV.out).mono ?_
  rintro e w1 ⟨x3, y3, δ7, rfl, rfl, hq3⟩
  go_wp2_with (fail)
  refine (storm_x r' (heav n k x) _ _ HO.out.wide HO'.out).mono ?_
  rintro e w1 ⟨x4, y4, δ8, rfl, rfl, hq4⟩
  go_upto_region 12 with fail
  refine wp_name fun W2 hW2 => ?_
  have iw23 : Le B W2 := by rw [hW2.out]; infer_instance
  have iw24 : Grew B w W2 := by rw [hW2.out]; infer_instance
  have iw25 : Le 2 W2 := by rw [hW2.out]; infer_instance
  have iw26 : Grew 2 w W2 := by rw [hW2.out]; infer_instance
  have iw27 : Le w.heap.size W2 := by rw [hW2.out]; infer_instance
  have iw28 : Grew w.heap.size w W2 := by rw [hW2.out]; infer_instance
  have iw29 : Lt (w.heap.size) W2 := by rw [hW2.out]; infer_instance
  have iw30 : Lt (w.heap.size + 1) W2 := by rw [hW2.out]; infer_instance
  have iw31 : Lt ((lat (lat W1 δq) δ1).heap.size) W2 := by rw [hW2.out]; infer_instance
  have cw32 : W2.cell? ⟨w.heap.size, 0, none⟩ = some (.int .i64 n.wind.lo) := by rw [hW2.out]; go_simp
  have cw33 : W2.cell? ⟨w.heap.size, 1, none⟩ = some (.int .i64 n.wind.hi) := by rw [hW2.out]; go_simp
  have cw34 : W2.cell? ⟨w.heap.size, 2, none⟩ = some (.int .i64 n.cur.lo) := by rw [hW2.out]; go_simp
  have cw35 : W2.cell? ⟨w.heap.size, 3, none⟩ = some (.int .i64 n.cur.hi) := by rw [hW2.out]; go_simp
  have cw36 : W2.cell? ⟨w.heap.size, 4, none⟩ = some (.slice gA n.grips.length gc) := by rw [hW2.out]; go_simp
  have cw37 : W2.cell? ⟨w.heap.size, 5, none⟩ = some (.slice (some ⟨b, o, none⟩) n.ancs.length ac) := by rw [hW2.out]; go_simp
  have cw38 : W2.cell? ⟨w.heap.size, 6, none⟩ = some (.slice wA n.wals.length wc) := by rw [hW2.out]; go_simp
  have cw39 : W2.cell? ⟨(lat (lat W1 δq) δ1).heap.size, 0, none⟩ = some (.int .i64 (heav n k x).wind.lo) := by rw [hW2.out]; go_simp
  have cw40 : W2.cell? ⟨(lat (lat W1 δq) δ1).heap.size, 1, none⟩ = some (.int .i64 (heav n k x).wind.hi) := by rw [hW2.out]; go_simp
  have cw41 : W2.cell? ⟨(lat (lat W1 δq) δ1).heap.size, 2, none⟩ = some (.int .i64 (heav n k x).cur.lo) := by rw [hW2.out]; go_simp
  have cw42 : W2.cell? ⟨(lat (lat W1 δq) δ1).heap.size, 3, none⟩ = some (.int .i64 (heav n k x).cur.hi) := by rw [hW2.out]; go_simp
  have cw43 : W2.cell? ⟨(lat (lat W1 δq) δ1).heap.size, 4, none⟩ = some (.slice r'.gA (heav n k x).grips.length r'.gc) := by rw [hW2.out]; go_simp
  have cw44 : W2.cell? ⟨(lat (lat W1 δq) δ1).heap.size, 5, none⟩ = some (.slice r'.aA (heav n k x).ancs.length r'.ac) := by rw [hW2.out]; go_simp
  have cw45 : W2.cell? ⟨(lat (lat W1 δq) δ1).heap.size, 6, none⟩ = some (.slice r'.wA (heav n k x).wals.length r'.wc) := by rw [hW2.out]; go_simp
  have NO := Lib.hid (show NetIs W2.heap.size W2 r' (heav n k x) by rw [hW2.out]; exact HO.out.wide)
  generalize (lat (lat W1 δq) δ1).heap.size = bo at *
  go_cut [124] (fun s wx => s = .bool false ∧ W2 = wx)
  case first =>
    have hws1 := HWS.out.1
    have hws2 := HWS.out.2
    have z1 : ¬ (wN (heav n k x) : Int) < (wN n : Int) := by omega
    have z2 : ¬ (sN (heav n k x) : Int) < (sN n : Int) := by omega
    rcases hq1.out with ⟨a1, rfl, rfl⟩ | ⟨a1, rfl, rfl⟩ <;> rcases hq2.out with ⟨a2, rfl, rfl⟩ | ⟨a2, rfl, rfl⟩ <;> first | (exfalso; omega) | skip
    all_goals rcases hq3.out with ⟨a3, rfl, rfl⟩ | ⟨a3, rfl, rfl⟩ <;> rcases hq4.out with ⟨a4, rfl, rfl⟩ | ⟨a4, rfl, rfl⟩ <;> first | (exfalso; omega) | skip
    all_goals
      clear a1 a2 a3 a4 hws1 hws2 hq1 hq2 hq3 hq4
      go_wp2_with (fail)
      go_meet
      exact ⟨rfl, rfl⟩
  case rest =>
    obtain ⟨rfl, rfl⟩ := hcut
    have h6 := (valid_iff.1 HV.out).2.2.2.1
    go_wp2_with (fail)
    go_loopg [20] n.ancs.length (fun g i wr => ∃ (j : Nat) (δ : World), j ≤ n.ancs.length ∧ g = n.ancs.length - j ∧ i = .int .i64 j ∧ wr = lat W2 δ)
    case atStart => exact ⟨0, W2, Nat.zero_le _, rfl, rfl, (lat_refl W2).symm⟩
    case round =>
      obtain ⟨j, δ, hj, rfl, rfl, rfl⟩ := hrel
      by_cases hlt : j < n.ancs.length
      · have hji : (j : Int) < (n.ancs.length : Int) := by omega
        have HJ := Lib.hid hlt
        have HJ' := Lib.hid (show j < (heav n k x).ancs.length by rw [heav_len]; exact hlt)
        rcases heavy_cases HV.out HO'.out HXP.out hlt with ⟨m1, m2⟩ | ⟨m1, m2⟩ | ⟨m1, m2⟩ | ⟨m1, m2⟩ | ⟨m1, m2⟩ | ⟨m1, m2⟩
        all_goals
          go_wp2_with (fail)
          refine (drag_k ⟨gA, gc, some ⟨b, o, none⟩, ac, wA, wc⟩ n j _ m1.out HV.out HJ.out B _ H.out.up).mono ?_
          rintro e w1 ⟨rfl, δ3, rfl⟩
          go_wp2_with (fail)
          refine (drag_k r' (heav n k x) j _ m2.out HO'.out HJ'.out _ _ NO.out.wide).mono ?_
          rintro e w1 ⟨rfl, δ4, rfl⟩
          clear m1 m2
          go_wp2_with (fail)
          go_roundg (n.ancs.length - (j + 1))
          case measure => have := HJ.out; omega
          case rel => exact ⟨j + 1, _, HJ.out, rfl, by go_num, lat_def⟩
      · obtain rfl : j = n.ancs.length := by omega
        go_wp2_with (go_at_call 16; refine (works_c _ (HT.out.up Grew.out)).mono ?_; rintro e w1 ⟨rfl, δ6, rfl⟩)
        go_ret
        exact ⟨rfl, lat_ex⟩

/-! Layer 2: the walk of the law AnchorsHeavier. -/
open Go.RowKit
open An

set_option maxRecDepth 100000 in
set_option maxHeartbeats 8000000 in
theorem lawHeavier_c (r : NetR) (n : Net) (rt : TruR) (t : Tru) (i x : Int) (B : Nat) (w : World) [hB : Le B w] [h2 : Le 2 w] (h : NetIs B w r n) (h' : TruIs B w rt t) (hT : TabIs w) :
    Calls Tryd.prog 6 #[netV r n, truV rt t, .agg #[.int .i64 i, .int .i64 x]] w fun e w' => e = .returned (.bool true) ∧ ∃ δ, w' = lat w δ := by
  by_cases hg : givenV n t = true
  all_goals try rw [Bool.not_eq_true] at hg
  case neg =>
    have HT := Lib.hid hT
    have H := Lib.hid h
    have Ht := Lib.hid h'
    have HG := Lib.hid hg
    clear hT h h' hg
    go_enter Tryd.func6, Tryd.ntmps6
    go_wp2_with (fail)
    refine wp_region_lat (by kernel_rfl) (by kernel_rfl) ?_
    repeat (go_big_quiet_step ((first | (go_at_call 23; exact Calls.lat_of (givenV_is (r := r) HG.out H.out.up Ht.out.up)))))
    refine wpQuiet_nil ?_
    rintro _ ⟨δq, rfl⟩
    go_wp2_with (go_at_call 16; refine (works_c _ (HT.out.up Grew.out)).mono ?_; rintro e w1 ⟨rfl, δ6, rfl⟩)
    go_ret
    exact ⟨rfl, lat_ex⟩
  by_cases hi : inB 0 (n.ancs.length - 1) i = true
  all_goals try rw [Bool.not_eq_true] at hi
  case neg =>
    have HT := Lib.hid hT
    have H := Lib.hid h
    have Ht := Lib.hid h'
    have HG := Lib.hid hg
    have HI := Lib.hid hi
    clear hT h h' hg hi
    go_enter Tryd.func6, Tryd.ntmps6
    go_wp2_with (fail)
    refine wp_region_lat (by kernel_rfl) (by kernel_rfl) ?_
    repeat (go_big_quiet_step ((first | (go_at_call 23; exact Calls.lat_of (givenV_is (r := r) HG.out H.out.up Ht.out.up)) | (go_at_call 27; exact Calls.lat_of (rIsAnchor_is (r := r) HI.out H.out.up)))))
    refine wpQuiet_nil ?_
    rintro _ ⟨δq, rfl⟩
    go_wp2_with (go_at_call 16; refine (works_c _ (HT.out.up Grew.out)).mono ?_; rintro e w1 ⟨rfl, δ6, rfl⟩)
    go_ret
    exact ⟨rfl, lat_ex⟩
  have hi' := inB_iff.1 hi
  obtain ⟨k, rfl⟩ := Int.eq_ofNat_of_zero_le hi'.1
  have hk : k < n.ancs.length := by omega
  by_cases hx : inB 0 (20 - (nth n.ancs k).wt) x = true
  · exact lawHeavierT_c r n rt t k x B w h h' hT hg hi hx
  rw [Bool.not_eq_true] at hx
  have hki : (k : Int) < (n.ancs.length : Int) := by omega
  have hk0 : ¬ (k : Int) < 0 := by omega
  have HT := Lib.hid hT
  have H := Lib.hid h
  have Ht := Lib.hid h'
  have HG := Lib.hid hg
  have HI := Lib.hid hi
  have HX := Lib.hid hx
  obtain ⟨hv, ht, hf⟩ := givenV_of hg
  have ha := okAnc_nth hv hk
  simp only [okAnc, decide_eq_true_eq] at ha
  have hw0 : 0 ≤ (nth n.ancs k).wt := ha.1
  have hw1 : (nth n.ancs k).wt ≤ 20 := ha.2.1
  obtain ⟨gA, gc, aA, ac, wA, wc⟩ := r
  obtain ⟨b, o, hA, hb, d0, d1⟩ := h.2.1.anc hk
  have hA : aA = some ⟨b, o, none⟩ := hA
  subst hA
  have ib : Lt b w := ⟨Nat.lt_of_lt_of_le hb hB.out⟩
  clear hT h h' hg hi hi' hx hv ht hf ha hk hb
  go_enter Tryd.func6, Tryd.ntmps6
  rw [show netV ⟨gA, gc, some ⟨b, o, none⟩, ac, wA, wc⟩ n = Value.agg #[.int .i64 n.wind.lo, .int .i64 n.wind.hi, .int .i64 n.cur.lo, .int .i64 n.cur.hi, .slice gA n.grips.length gc, .slice (some ⟨b, o, none⟩) n.ancs.length ac, .slice wA n.wals.length wc] from rfl]
  go_wp2_with (fail)
  refine wp_region_lat (by kernel_rfl) (by kernel_rfl) ?_
  repeat (go_big_quiet_step ((first | (go_at_call 23; exact Calls.lat_of (givenV_is (r := ⟨gA, gc, some ⟨b, o, none⟩, ac, wA, wc⟩) HG.out H.out.up Ht.out.up)) | (go_at_call 27; exact Calls.lat_of (rIsAnchor_is (r := ⟨gA, gc, some ⟨b, o, none⟩, ac, wA, wc⟩) HI.out H.out.up)) | (go_at_call 28; exact Calls.lat_same (within_is HX.out _)))))
  refine wpQuiet_nil ?_
  rintro _ ⟨δq, rfl⟩
  go_wp2_with (go_at_call 16; refine (works_c _ (HT.out.up Grew.out)).mono ?_; rintro e w1 ⟨rfl, δ6, rfl⟩)
  go_ret
  exact ⟨rfl, lat_ex⟩

end Go.Proofs.YtgpcaaknpfopgaaDoor
