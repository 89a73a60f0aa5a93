/- Layer 2: the walk of the law AnchorsDrags. -/
import Derived.Test.YtgpcaaknpfopgaaDoorAn39
import Derived.Test.YtgpcaaknpfopgaaDoorAn20
import Derived.Test.YtgpcaaknpfopgaaDoorAn57
import Derived.Test.YtgpcaaknpfopgaaDoorAn37
import Derived.Test.YtgpcaaknpfopgaaDoorAn25
import Derived.Outline
import Derived.Deep.DeepCutAuto
import Derived.Deep.RegionWith
namespace Go.Proofs.YtgpcaaknpfopgaaDoor
open Go.RowKit
open An

theorem sameTruth_c (rt ru : TruR) (t : Tru) (B : Nat) (w : World) [hB : Le B w] (h : TruIs B w rt t) (h' : TruIs B w ru t) :
    Calls Tryd.prog 63 #[truV rt t, truV ru t] w fun e w' => e = .returned (.bool true) ∧ ∃ δ, w' = lat w δ := by
  have H := Lib.hid h
  have H' := Lib.hid h'
  clear h h'
  go_enter Tryd.func63, Tryd.ntmps63
  go_wp2_with (go_at_call 50; refine (sameEq_c rt.tA ru.tA rt.tc ru.tc t.grips _ rfl _ _ _ H.out.wide H'.out.wide).mono ?_; rintro e w1 ⟨rfl, δ, rfl⟩)
  go_ret
  exact ⟨rfl, lat_ex⟩

theorem grew_tr {B : Nat} {w W wr : World} (h : Grew B w W) (h2 : Grew W.heap.size W wr) [hB : Le B W] : Grew B w wr :=
  ⟨⟨h2.out.1.trans h.out.1, h2.out.2.1.trans h.out.2.1, h2.out.2.2.1.trans h.out.2.2.1, fun b hb => (h2.out.2.2.2 b (Nat.lt_of_lt_of_le hb hB.out)).trans (h.out.2.2.2 b hb)⟩⟩
theorem lt_alloc_of {b : Nat} {W : World} {o : Obj} [h : Le b W] : Lt b (W.alloc o) := ⟨by simpa using Nat.lt_succ_of_le h.out⟩
/-- The cells of a net's box and of a truth's box. -/
def Cells10 (b b' : Nat) (r : NetR) (n : Net) (rt : TruR) (t : Tru) (W : World) : Prop := W.cell? ⟨b, 0, none⟩ = some (.int .i64 n.wind.lo) ∧ W.cell? ⟨b, 1, none⟩ = some (.int .i64 n.wind.hi) ∧ W.cell? ⟨b, 2, none⟩ = some (.int .i64 n.cur.lo) ∧ W.cell? ⟨b, 3, none⟩ = some (.int .i64 n.cur.hi) ∧ W.cell? ⟨b, 4, none⟩ = some (.slice r.gA n.grips.length r.gc) ∧ W.cell? ⟨b, 5, none⟩ = some (.slice r.aA n.ancs.length r.ac) ∧ W.cell? ⟨b, 6, none⟩ = some (.slice r.wA n.wals.length r.wc) ∧ W.cell? ⟨b', 0, none⟩ = some (.int .i64 t.wind) ∧ W.cell? ⟨b', 1, none⟩ = some (.int .i64 t.cur) ∧ W.cell? ⟨b', 2, none⟩ = some (.slice rt.tA t.grips.length rt.tc)
theorem cells10_up {b b' : Nat} {r : NetR} {n : Net} {rt : TruR} {t : Tru} {W1 W : World} (h : Cells10 b b' r n rt t W1) [i1 : Lt b W1] [i2 : Lt b' W1] [g : Grew W1.heap.size W1 W] : Cells10 b b' r n rt t W := by
  have k1 := fun o => cells_same g.out b o i1.out
  have k2 := fun o => cells_same g.out b' o i2.out
  unfold Cells10 at *
  rw [k1, k1, k1, k1, k1, k1, k1, k2, k2, k2]
  exact h

/-- Two copies, each in a box of its own. -/
def CopyCut (n : Net) (t : Tru) (W1 : World) (s7 s8 : Value) (wx : World) : Prop := ∃ (r' : NetR) (rt' : TruR) (b1 b2 : Nat), s7 = .pointer (some ⟨b1, 0, none⟩) ∧ s8 = .pointer (some ⟨b2, 0, none⟩) ∧ Lt b1 wx ∧ Lt b2 wx ∧
  (wx.cell? ⟨b1, 0, none⟩ = some (.int .i64 n.wind.lo) ∧ wx.cell? ⟨b1, 1, none⟩ = some (.int .i64 n.wind.hi) ∧ wx.cell? ⟨b1, 2, none⟩ = some (.int .i64 n.cur.lo) ∧ wx.cell? ⟨b1, 3, none⟩ = some (.int .i64 n.cur.hi) ∧ wx.cell? ⟨b1, 4, none⟩ = some (.slice r'.gA n.grips.length r'.gc) ∧ wx.cell? ⟨b1, 5, none⟩ = some (.slice r'.aA n.ancs.length r'.ac) ∧ wx.cell? ⟨b1, 6, none⟩ = some (.slice r'.wA n.wals.length r'.wc)) ∧ (wx.cell? ⟨b2, 0, none⟩ = some (.int .i64 t.wind) ∧ wx.cell? ⟨b2, 1, none⟩ = some (.int .i64 t.cur) ∧ wx.cell? ⟨b2, 2, none⟩ = some (.slice rt'.tA t.grips.length rt'.tc)) ∧ NetIs wx.heap.size wx r' n ∧ TruIs wx.heap.size wx rt' t ∧ Grew W1.heap.size W1 wx ∧ Le W1.heap.size wx

set_option maxRecDepth 100000 in
set_option maxHeartbeats 16000000 in
theorem copies_cut (r : NetR) (n : Net) (rt : TruR) (t : Tru) (i : Int) (B : Nat) (w : World) [hB : Le B w] [h2 : Le 2 w] (h : NetIs B w r n) (h' : TruIs B w rt t) (hT : TabIs w) (hg : hugeV n t = false) :
    Calls Tryd.prog 14 #[netV r n, truV rt t, .int .i64 i] w fun e w' => e = .returned (.bool true) ∧ ∃ δ, w' = lat w δ := by
  have HT := Lib.hid hT
  have H := Lib.hid h
  have H' := Lib.hid h'
  have HG := Lib.hid hg
  have HQ := Lib.hid (huge_no hg)
  clear hT h h' hg
  go_enter Tryd.func14, Tryd.ntmps14
  go_wp2_with (go_at_call 37; refine (huge_c r n rt t _).mono ?_; rw [HG.out]; rintro e w1 ⟨rfl, δ, rfl⟩)
  refine wp_name fun W1 hW1 => ?_
  have iw1 : Le B W1 := by rw [hW1.out]; infer_instance
  have iw2 : Grew B w W1 := by rw [hW1.out]; infer_instance
  have iw3 : Le 2 W1 := by rw [hW1.out]; infer_instance
  have iw4 : Grew 2 w W1 := by rw [hW1.out]; infer_instance
  have iw5 : Le w.heap.size W1 := by rw [hW1.out]; infer_instance
  have iw6 : Grew w.heap.size w W1 := by rw [hW1.out]; infer_instance
  have iw7 : Lt (w.heap.size) W1 := by rw [hW1.out]; infer_instance
  have iw8 : Lt (w.heap.size + 1) W1 := by rw [hW1.out]; infer_instance
  have cw9 : W1.cell? ⟨w.heap.size, 0, none⟩ = some (.int .i64 n.wind.lo) := by rw [hW1.out]; go_simp
  have cw10 : W1.cell? ⟨w.heap.size, 1, none⟩ = some (.int .i64 n.wind.hi) := by rw [hW1.out]; go_simp
  have cw11 : W1.cell? ⟨w.heap.size, 2, none⟩ = some (.int .i64 n.cur.lo) := by rw [hW1.out]; go_simp
  have cw12 : W1.cell? ⟨w.heap.size, 3, none⟩ = some (.int .i64 n.cur.hi) := by rw [hW1.out]; go_simp
  have cw13 : W1.cell? ⟨w.heap.size, 4, none⟩ = some (.slice r.gA n.grips.length r.gc) := by rw [hW1.out]; go_simp
  have cw14 : W1.cell? ⟨w.heap.size, 5, none⟩ = some (.slice r.aA n.ancs.length r.ac) := by rw [hW1.out]; go_simp
  have cw15 : W1.cell? ⟨w.heap.size, 6, none⟩ = some (.slice r.wA n.wals.length r.wc) := by rw [hW1.out]; go_simp
  have cw16 : W1.cell? ⟨w.heap.size + 1, 0, none⟩ = some (.int .i64 t.wind) := by rw [hW1.out]; go_simp
  have cw17 : W1.cell? ⟨w.heap.size + 1, 1, none⟩ = some (.int .i64 t.cur) := by rw [hW1.out]; go_simp
  have cw18 : W1.cell? ⟨w.heap.size + 1, 2, none⟩ = some (.slice rt.tA t.grips.length rt.tc) := by rw [hW1.out]; go_simp
  have H10 : Hid (Cells10 w.heap.size (w.heap.size + 1) r n rt t W1) := by
    unfold Cells10
    refine ⟨?_, ?_, ?_, ?_, ?_, ?_, ?_, ?_, ?_, ?_⟩ <;> assumption
  go_cut [7, 8] (fun s7 s8 wx => CopyCut n t W1 s7 s8 wx)
  case first =>
    go_region_held3 (fun W => W.cell? ⟨w.heap.size, 0, none⟩ = some (.int .i64 n.wind.lo) ∧ W.cell? ⟨w.heap.size, 1, none⟩ = some (.int .i64 n.wind.hi) ∧ W.cell? ⟨w.heap.size, 2, none⟩ = some (.int .i64 n.cur.lo) ∧ W.cell? ⟨w.heap.size, 3, none⟩ = some (.int .i64 n.cur.hi) ∧ W.cell? ⟨w.heap.size, 4, none⟩ = some (.slice r.gA n.grips.length r.gc) ∧ W.cell? ⟨w.heap.size, 5, none⟩ = some (.slice r.aA n.ancs.length r.ac) ∧ W.cell? ⟨w.heap.size, 6, none⟩ = some (.slice r.wA n.wals.length r.wc) ∧ W.cell? ⟨w.heap.size + 1, 0, none⟩ = some (.int .i64 t.wind) ∧ W.cell? ⟨w.heap.size + 1, 1, none⟩ = some (.int .i64 t.cur) ∧ W.cell? ⟨w.heap.size + 1, 2, none⟩ = some (.slice rt.tA t.grips.length rt.tc))
      (exact cells10_up H10.out)
      (first
        | (go_at_call 17; refine (copy_c r n B _ H.out.up HQ.out.1 HQ.out.2.1 HQ.out.2.2.1).mono ?_; rintro e w1 ⟨r', δ1, rfl, rfl, ho⟩; have HO := Lib.hid (NetR2.of ho); clear ho)
        | (go_at_call 52; refine (copyTruthO_c rt t B _ H'.out.up HQ.out.2.2.2).mono ?_; rintro e w1 ⟨rt', δ2, rfl, rfl, hc⟩; have HC := Lib.hid (OwnR.of hc); clear hc))
    all_goals
      go_wp2_with (fail)
      go_meet
      refine ⟨r', rt', _, _, rfl, rfl, (by first | infer_instance | exact lt_alloc_of), (by first | infer_instance | exact lt_alloc_of), ⟨?_, ?_, ?_, ?_, ?_, ?_, ?_⟩, ⟨?_, ?_, ?_⟩, net_go HO.out (fun h => ?_), row_go HC.out (fun h => ?_), inferInstance, inferInstance⟩
      · go_simp
      · go_simp
      · go_simp
      · go_simp
      · go_simp
      · go_simp
      · go_simp
      · go_simp
      · go_simp
      · go_simp
      · repeat (first | with_reducible exact h | with_reducible refine NetR2.alloc ?_ _ | with_reducible refine NetR2.set ?_ _ | with_reducible refine NetR2.lat ?_ _ | with_reducible refine NetR2.drew ?_)
      · repeat (first | with_reducible exact h | with_reducible refine OwnR.alloc ?_ _ | with_reducible refine OwnR.set ?_ _ | with_reducible refine OwnR.lat ?_ _ | with_reducible refine OwnR.drew ?_)
  case rest =>
    obtain ⟨r', rt', b1, b2, rfl, rfl, k1, k2, ⟨c0, c1, c2, c3, c4, c5, c6⟩, ⟨d0, d1, d2⟩, hN, hTr, g1, g2⟩ := hcut
    have HN := Lib.hid hN
    have HTr := Lib.hid hTr
    have hb1 : w.heap.size + 1 < W1.heap.size := (inferInstance : Lt (w.heap.size + 1) W1).out
    have i1 : Lt w.heap.size wc := ⟨Nat.lt_of_lt_of_le (by omega) g2.out⟩
    have i2 : Lt (w.heap.size + 1) wc := ⟨Nat.lt_of_lt_of_le hb1 g2.out⟩
    have i3 : Le B wc := ⟨Nat.le_trans (inferInstance : Le B W1).out g2.out⟩
    have i4 : Le 2 wc := ⟨Nat.le_trans (inferInstance : Le 2 W1).out g2.out⟩
    have i5 : Le w.heap.size wc := ⟨Nat.le_trans (Nat.le_of_lt (Nat.lt_of_succ_lt hb1)) g2.out⟩
    have i6 : Grew B w wc := grew_tr (W := W1) inferInstance g1
    have i7 : Grew 2 w wc := grew_tr (W := W1) inferInstance g1
    have i8 : Grew w.heap.size w wc := grew_tr (W := W1) inferInstance g1
    obtain ⟨e0, e1, e2, e3, e4, e5, e6, e7, e8, e9⟩ := cells10_up (W := wc) H10.out
    clear hN hTr hb1
    go_wp2_with (fail)
    refine (first_c r' n rt' t _ _ HN.out.wide HTr.out.wide (HT.out.up Grew.out)).mono ?_
    rintro e w1 ⟨A1, q1, δ1, rfl, rfl, hS⟩
    have HS1 := Lib.hid hS
    clear hS
    go_wp2_with (fail)
    refine (rFirst_c r n rt t B _ H.out.up H'.out.up).mono ?_
    unfold ListPost
    rintro e w1 ⟨A2, q2, δ2, rfl, rfl, hS⟩
    have HS2 := Lib.hid hS
    clear hS
    go_wp2_with (fail)
    refine (drags_c r' n rt' t _ _ HN.out.wide HTr.out.wide (HT.out.up Grew.out)).mono ?_
    rintro e w1 ⟨A3, q3, δ3, rfl, rfl, hS⟩
    have HS3 := Lib.hid hS
    clear hS
    go_wp2_with (fail)
    refine (rDrags_c r n rt t B _ H.out.up H'.out.up).mono ?_
    unfold ListPost
    rintro e w1 ⟨A4, q4, δ4, rfl, rfl, hS⟩
    have HS4 := Lib.hid hS
    clear hS
    go_wp2_with (fail)
    refine (sameEq_c A1 A2 q1 q2 (firstV n t) _ rfl _ _ _ HS1.out.wide HS2.out.wide).mono ?_
    rintro e w1 ⟨rfl, δ5, rfl⟩
    go_wp2_with (fail)
    refine (sameEq_c A3 A4 q3 q4 (dragsV n t) _ rfl _ _ _ HS3.out.wide HS4.out.wide).mono ?_
    rintro e w1 ⟨rfl, δ6, rfl⟩
    go_wp2_with (fail)
    refine (pulled_c r' n rt' t i _ _ HN.out.wide HTr.out.wide (HT.out.up Grew.out)).mono ?_
    rintro e w1 ⟨A5, q5, δ7, rfl, rfl, hS⟩
    have HS5 := Lib.hid hS
    clear hS
    go_wp2_with (fail)
    refine (rPulled_c r n rt t i B _ H.out.up H'.out.up).mono ?_
    unfold ListPost
    rintro e w1 ⟨A6, q6, δ8, rfl, rfl, hS⟩
    have HS6 := Lib.hid hS
    clear hS
    go_wp2_with (fail)
    refine (key_c r' n rt' t _ _ HN.out.wide HTr.out.wide).mono ?_
    rintro e w1 ⟨rfl, δ9, rfl⟩
    go_wp2_with (fail)
    refine (rKey_c r n rt t B _ H.out.up H'.out.up).mono ?_
    rintro e w1 ⟨rfl, δ10, rfl⟩
    go_wp2_with (fail)
    refine (sameEq_c A5 A6 q5 q6 (pulledV n t i) _ rfl _ _ _ HS5.out.wide HS6.out.wide).mono ?_
    rintro e w1 ⟨rfl, δ11, rfl⟩
    go_wp2_with (fail)
    refine (same_c r' r n _ _ HN.out.wide H.out.wide).mono ?_
    rintro e w1 ⟨rfl, δ12, rfl⟩
    go_wp2_with (fail)
    refine (sameTruth_c rt' rt t _ _ HTr.out.wide H'.out.wide).mono ?_
    rintro e w1 ⟨rfl, δ13, rfl⟩
    go_wp2_with (fail)
    refine (works_c _ (HT.out.up Grew.out)).mono ?_
    rintro e w1 ⟨rfl, δ14, rfl⟩
    go_wp2_with (fail)
    go_ret
    exact ⟨rfl, lat_ex⟩

set_option maxRecDepth 100000 in
set_option maxHeartbeats 4000000 in
theorem lawDragsL_c (r : NetR) (n : Net) (rt : TruR) (t : Tru) (i : Int) (B : Nat) (w : World) [hB : Le B w] [h2 : Le 2 w] (h : NetIs B w r n) (h' : TruIs B w rt t) (hT : TabIs w) :
    Calls Tryd.prog 14 #[netV r n, truV rt t, .int .i64 i] w fun e w' => e = .returned (.bool true) ∧ ∃ δ, w' = lat w δ := by
  by_cases hg : hugeV n t = true
  all_goals try rw [Bool.not_eq_true] at hg
  case neg => exact copies_cut r n rt t i B w h h' hT hg
  have HT := Lib.hid hT
  have HG := Lib.hid hg
  clear hT h h' hg
  go_enter Tryd.func14, Tryd.ntmps14
  go_wp2_with (go_at_call 37; refine (huge_c r n rt t _).mono ?_; rw [HG.out]; rintro e w1 ⟨rfl, δ, rfl⟩)
  go_wp2_with (go_at_call 16; refine (works_c _ (HT.out.up Grew.out)).mono ?_; rintro e w1 ⟨rfl, δ6, rfl⟩)
  go_ret
  exact ⟨rfl, lat_ex⟩

end Go.Proofs.YtgpcaaknpfopgaaDoor
