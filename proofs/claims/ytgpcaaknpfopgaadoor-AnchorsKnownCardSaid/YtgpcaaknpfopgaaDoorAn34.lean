/- Layer 2: the walk of Spare of the reference. -/
import Derived.Test.YtgpcaaknpfopgaaDoorAn33
import Derived.Outline
namespace Go.Proofs.YtgpcaaknpfopgaaDoor
open Go.RowKit
open An

theorem Grew.trans {B : Nat} {w W wr : World} (h : Grew B w W) (h2 : Grew W.heap.size W wr) [hB : Le B W] : Grew B w wr :=
  ⟨⟨h2.out.1.trans h.out.1, h2.out.2.1.trans h.out.2.1, h2.out.2.2.1.trans h.out.2.2.1, fun b hb => (h2.out.2.2.2 b (Nat.lt_of_lt_of_le hb hB.out)).trans (h.out.2.2.2 b hb)⟩⟩
theorem frozen_same {B : Nat} {w W : World} (h : Same B w W) : ∀ b o, b < B → W.frozen? ⟨b, o, none⟩ = w.frozen? ⟨b, o, none⟩ := fun b o hb => World.frozen?_of_block (a := ⟨b, o, none⟩) (h.2.2.2 b hb)
namespace An
def sp0 (n : Net) (i k : Nat) : Int := spare n (nth (truthsV n) k) i (fun _ => false)
/-- Between what the numbers of the first j truths lie. -/
def Minmax (n : Net) (i j : Nat) (lo hi : Int) : Prop := (∃ k, k < (truthsV n).length ∧ lo = sp0 n i k) ∧ (∃ k, k < (truthsV n).length ∧ hi = sp0 n i k) ∧ ∀ k, k < j → lo ≤ sp0 n i k ∧ sp0 n i k ≤ hi
theorem sp0_bd {n : Net} (hv : valid n = true) {i k : Nat} (hi : i < n.ancs.length) (hk : k < (truthsV n).length) : -1440 ≤ sp0 n i k ∧ sp0 n i k ≤ 360 := by
  have hok := okTru_of hv (mem_truthsV.1 (nth_mem _ hk))
  have h1 := bears_bd hok (d := fun _ => false) hi
  have h2 := (can_bd hok hi).2.2.2.2.2.2
  unfold sp0 spare; omega
theorem minmax_bd {n : Net} (hv : valid n = true) {i j : Nat} {lo hi : Int} (hi' : i < n.ancs.length) (h : Minmax n i j lo hi) : -1440 ≤ lo ∧ lo ≤ 360 ∧ -1440 ≤ hi ∧ hi ≤ 360 := by
  obtain ⟨⟨k, hk, rfl⟩, ⟨m, hm, rfl⟩, _⟩ := h
  have := sp0_bd hv hi' hk
  have := sp0_bd hv hi' hm
  omega
theorem minmax_succ {n : Net} {i j : Nat} {lo hi : Int} (hj : j < (truthsV n).length) (h : Minmax n i j lo hi) : Minmax n i (j + 1) (min lo (sp0 n i j)) (max hi (sp0 n i j)) := by
  obtain ⟨a, b, c⟩ := h
  refine ⟨?_, ?_, fun k hk => ?_⟩
  · rcases Int.le_total lo (sp0 n i j) with h | h
    · rw [Int.min_eq_left h]; exact a
    · rw [Int.min_eq_right h]; exact ⟨j, hj, rfl⟩
  · rcases Int.le_total hi (sp0 n i j) with h | h
    · rw [Int.max_eq_right h]; exact ⟨j, hj, rfl⟩
    · rw [Int.max_eq_left h]; exact b
  · by_cases hkj : k = j
    · subst hkj; omega
    · have := c k (by omega); omega
theorem minmax_succ' {n : Net} {i j : Nat} {lo hi lo' hi' : Int} (hj : j < (truthsV n).length) (h : Minmax n i j lo hi) (h1 : lo' = min lo (sp0 n i j)) (h2 : hi' = max hi (sp0 n i j)) : Minmax n i (j + 1) lo' hi' := by
  rw [h1, h2]; exact minmax_succ hj h
theorem minmax_end {n : Net} (hv : valid n = true) {i : Nat} (hi' : i < n.ancs.length) {lo hi : Int} (h : Minmax n i (truthsV n).length lo hi) : lo = spare n (worstT n) i (fun _ => false) ∧ hi = spare n (bestT n) i (fun _ => false) := by
  obtain ⟨⟨k, hk, rfl⟩, ⟨m, hm, rfl⟩, c⟩ := h
  obtain ⟨a, ha, hae⟩ := List.getElem_of_mem (mem_truthsV.2 (worst_tru hv))
  obtain ⟨b, hb, hbe⟩ := List.getElem_of_mem (mem_truthsV.2 (best_tru hv))
  have e1 : sp0 n i a = spare n (worstT n) i (fun _ => false) := by unfold sp0; rw [nth_get _ ha, hae]
  have e2 : sp0 n i b = spare n (bestT n) i (fun _ => false) := by unfold sp0; rw [nth_get _ hb, hbe]
  have h1 := c a ha
  have h2 := c b hb
  have h3 : spare n (worstT n) i (fun _ => false) ≤ sp0 n i k := spare_harder hv (harder_worst (mem_truthsV.1 (nth_mem _ hk))) hi'
  have h4 : sp0 n i m ≤ spare n (bestT n) i (fun _ => false) := spare_harder hv (harder_best (mem_truthsV.1 (nth_mem _ hm))) hi'
  omega
end An

set_option maxRecDepth 100000 in
set_option maxHeartbeats 4000000 in
theorem rSpare_c (r : NetR) (n : Net) (i : Int) (B : Nat) (w : World) [hB : Le B w] (h : NetIs B w r n) :
    Calls Tryd.prog 46 #[netV r n, .int .i64 i] w fun e w' => e = .returned (.tuple #[.agg #[.int .i64 (spareV n i).lo, .int .i64 (spareV n i).hi], .int .i64 (askE (valid n) (inB 0 (n.ancs.length - 1) i))]) ∧ ∃ δ, w' = lat w δ := by
  have H := Lib.hid h
  clear h
  by_cases hv : valid n = true
  all_goals try rw [Bool.not_eq_true] at hv
  all_goals
    by_cases h1 : inB 0 (n.ancs.length - 1) i = true
    all_goals try rw [Bool.not_eq_true] at h1
  all_goals
    have HV := Lib.hid hv
    have H1 := Lib.hid h1
    have HF := Lib.hid (show spareV n i = if valid n && inB 0 (n.ancs.length - 1) i then ⟨spare n (worstT n) i.toNat (fun _ => false), spare n (bestT n) i.toNat (fun _ => false)⟩ else ⟨0, 0⟩ from rfl)
    rw [hv, h1] at HF ⊢
    clear hv h1
  · have h1' := inB_iff.1 H1.out
    obtain ⟨k, rfl⟩ := Int.eq_ofNat_of_zero_le h1'.1
    have hk : k < n.ancs.length := by omega
    have hlen := truthsV_len HV.out
    have hpos := truthsV_pos HV.out
    clear h1'
    go_enter Tryd.func46, Tryd.ntmps46
    go_wp2_with (fail)
    refine wp_region_lat (by kernel_rfl) (by kernel_rfl) ?_
    repeat (go_big_quiet_step ((first | (go_at_call 27; exact Calls.lat_of (rIsAnchor_is H1.out H.out.up)) | (go_at_call 92; exact Calls.lat_of (rAsk_is (by rw [HV.out]) H.out.up)))))
    refine wpQuiet_nil ?_
    rintro _ ⟨δq, rfl⟩
    go_upto_region 5 with (go_at_call 97; refine (truths_c r n B _ H.out.up HV.out).mono ?_; rintro e w1 ⟨Al, cl, δ, rfl, rfl, hSl⟩)
    refine wp_name fun W1 hW1 => ?_
    have iw1 : Le B W1 := by rw [hW1.out]; infer_instance
    have iw2 : Grew B w W1 := by rw [hW1.out]; infer_instance
    have iw3 : Le w.heap.size W1 := by rw [hW1.out]; infer_instance
    have iw4 : Grew w.heap.size w W1 := by rw [hW1.out]; infer_instance
    have iw5 : Lt (w.heap.size) W1 := by rw [hW1.out]; infer_instance
    have iw6 : Lt (w.heap.size + 1) W1 := by rw [hW1.out]; infer_instance
    have cw7 : W1.cell? ⟨w.heap.size, 0, none⟩ = some (.int .i64 n.wind.lo) := by rw [hW1.out]; go_simp
    have cw8 : W1.cell? ⟨w.heap.size, 1, none⟩ = some (.int .i64 n.wind.hi) := by rw [hW1.out]; go_simp
    have cw9 : W1.cell? ⟨w.heap.size, 2, none⟩ = some (.int .i64 n.cur.lo) := by rw [hW1.out]; go_simp
    have cw10 : W1.cell? ⟨w.heap.size, 3, none⟩ = some (.int .i64 n.cur.hi) := by rw [hW1.out]; go_simp
    have cw11 : W1.cell? ⟨w.heap.size, 4, none⟩ = some (.slice r.gA n.grips.length r.gc) := by rw [hW1.out]; go_simp
    have cw12 : W1.cell? ⟨w.heap.size, 5, none⟩ = some (.slice r.aA n.ancs.length r.ac) := by rw [hW1.out]; go_simp
    have cw13 : W1.cell? ⟨w.heap.size, 6, none⟩ = some (.slice r.wA n.wals.length r.wc) := by rw [hW1.out]; go_simp
    have cw14 : W1.cell? ⟨w.heap.size + 1, 0, none⟩ = some (.int .i64 0) := by rw [hW1.out]; go_simp
    have cw15 : W1.cell? ⟨w.heap.size + 1, 1, none⟩ = some (.int .i64 0) := by rw [hW1.out]; go_simp
    have fw16 : W1.frozen? ⟨w.heap.size + 1, 0, none⟩ = false := by rw [hW1.out]; go_simp
    have fw17 : W1.frozen? ⟨w.heap.size + 1, 1, none⟩ = false := by rw [hW1.out]; go_simp
    have hS1 : SlTru W1 Al cl (truthsV n) := by rw [hW1.out]; exact hSl
    have g1 : NetIs B W1 r n := H.out.up
    obtain ⟨b, o, rfl, hb, hall⟩ := hS1.all_ (truthsV_pos HV.out)
    have HT := Lib.hid hall
    have ib : Lt b W1 := ⟨hb⟩
    clear hS1 hSl hall
    obtain ⟨A0, c0, d0, d1, d2, hgs⟩ := HT.out 0 hpos
    rw [Nat.zero_mul, Nat.add_zero] at d0 d1 d2
    have hok := Lib.hid (okTru_of HV.out (mem_truthsV.1 (nth_mem _ hpos)))
    go_region_held3 (fun W => W.cell? ⟨w.heap.size, 0, none⟩ = some (.int .i64 n.wind.lo) ∧ W.cell? ⟨w.heap.size, 1, none⟩ = some (.int .i64 n.wind.hi) ∧ W.cell? ⟨w.heap.size, 2, none⟩ = some (.int .i64 n.cur.lo) ∧ W.cell? ⟨w.heap.size, 3, none⟩ = some (.int .i64 n.cur.hi) ∧ W.cell? ⟨w.heap.size, 4, none⟩ = some (.slice r.gA n.grips.length r.gc) ∧ W.cell? ⟨w.heap.size, 5, none⟩ = some (.slice r.aA n.ancs.length r.ac) ∧ W.cell? ⟨w.heap.size, 6, none⟩ = some (.slice r.wA n.wals.length r.wc) ∧ W.cell? ⟨b, o, none⟩ = some (.int .i64 (nth (truthsV n) 0).wind) ∧ W.cell? ⟨b, o + 1, none⟩ = some (.int .i64 (nth (truthsV n) 0).cur) ∧ W.cell? ⟨b, o + 2, none⟩ = some (.slice A0 (nth (truthsV n) 0).grips.length c0))
      (refine ⟨?_, ?_, ?_, ?_, ?_, ?_, ?_, ?_, ?_, ?_⟩ <;> go_simp)
      (first
        | (go_at_call 54; refine (spareOf_c r n ⟨A0, c0⟩ (nth (truthsV n) 0) k _ _ g1.wide hgs.wide hok.out hk).mono ?_; rw [show spare n (nth (truthsV n) 0) k (fun _ => false) = sp0 n k 0 from rfl]; rintro e w1 ⟨rfl, δ2, rfl⟩))
    go_upto_region 6 with fail
    refine wp_name fun W2 hW2 => ?_
    have iw18 : Le B W2 := by rw [hW2.out]; infer_instance
    have iw19 : Grew B w W2 := by rw [hW2.out]; infer_instance
    have iw20 : Le w.heap.size W2 := by rw [hW2.out]; infer_instance
    have iw21 : Grew w.heap.size w W2 := by rw [hW2.out]; infer_instance
    have iw22 : Lt (w.heap.size) W2 := by rw [hW2.out]; infer_instance
    have iw23 : Lt (w.heap.size + 1) W2 := by rw [hW2.out]; infer_instance
    have iw24 : Le w.heap.size W2 := by rw [hW2.out]; infer_instance
    have iw25 : Grew w.heap.size W1 W2 := by rw [hW2.out]; infer_instance
    have iw26 : Le W1.heap.size W2 := by rw [hW2.out]; infer_instance
    have iw27 : Grew W1.heap.size W1 W2 := by rw [hW2.out]; infer_instance
    have cw28 : W2.cell? ⟨w.heap.size, 0, none⟩ = some (.int .i64 n.wind.lo) := by rw [hW2.out]; go_simp
    have cw29 : W2.cell? ⟨w.heap.size, 1, none⟩ = some (.int .i64 n.wind.hi) := by rw [hW2.out]; go_simp
    have cw30 : W2.cell? ⟨w.heap.size, 2, none⟩ = some (.int .i64 n.cur.lo) := by rw [hW2.out]; go_simp
    have cw31 : W2.cell? ⟨w.heap.size, 3, none⟩ = some (.int .i64 n.cur.hi) := by rw [hW2.out]; go_simp
    have cw32 : W2.cell? ⟨w.heap.size, 4, none⟩ = some (.slice r.gA n.grips.length r.gc) := by rw [hW2.out]; go_simp
    have cw33 : W2.cell? ⟨w.heap.size, 5, none⟩ = some (.slice r.aA n.ancs.length r.ac) := by rw [hW2.out]; go_simp
    have cw34 : W2.cell? ⟨w.heap.size, 6, none⟩ = some (.slice r.wA n.wals.length r.wc) := by rw [hW2.out]; go_simp
    have cw35 : W2.cell? ⟨w.heap.size + 1, 0, none⟩ = some (.int .i64 0) := by rw [hW2.out]; go_simp
    have cw36 : W2.cell? ⟨w.heap.size + 1, 1, none⟩ = some (.int .i64 0) := by rw [hW2.out]; go_simp
    have fw37 : W2.frozen? ⟨w.heap.size + 1, 0, none⟩ = false := by rw [hW2.out]; go_simp
    have fw38 : W2.frozen? ⟨w.heap.size + 1, 1, none⟩ = false := by rw [hW2.out]; go_simp
    have HT2 : Hid (∀ k, k < (truthsV n).length → ∃ A' c', W2.cell? ⟨b, o + k * 3, none⟩ = some (.int .i64 (nth (truthsV n) k).wind) ∧ W2.cell? ⟨b, o + k * 3 + 1, none⟩ = some (.int .i64 (nth (truthsV n) k).cur) ∧ W2.cell? ⟨b, o + k * 3 + 2, none⟩ = some (.slice A' (nth (truthsV n) k).grips.length c') ∧ Sl encI W2.heap.size W2 A' c' (nth (truthsV n) k).grips) := by
      intro j hj
      obtain ⟨A', c', e0, e1, e2, hs⟩ := HT.out j hj
      have hg : Grew W1.heap.size W1 W2 := by rw [hW2.out]; infer_instance
      have hc := cells_same hg.out
      exact ⟨A', c', (hc _ _ hb).trans e0, (hc _ _ hb).trans e1, (hc _ _ hb).trans e2, hs.wide⟩
    have g2 : NetIs B W2 r n := H.out.up
    have hb2 : b < W2.heap.size := by rw [hW2.out]; exact Nat.lt_of_lt_of_le hb (by first | exact (inferInstance : Le W1.heap.size _).out)
    clear d0 d1 d2 hgs hok HT
    have hmm0 := Lib.hid (show Minmax n k 0 (sp0 n k 0) (sp0 n k 0) from ⟨⟨0, hpos, rfl⟩, ⟨0, hpos, rfl⟩, fun j hj => by omega⟩)
    have hw1 : w.heap.size + 1 < W2.heap.size := (inferInstance : Lt (w.heap.size + 1) W2).out
    go_wp2_with (fail)
    go_loopg [10] (truthsV n).length (fun g i wr => ∃ (j : Nat) (lo hi : Int), j ≤ (truthsV n).length ∧ g = (truthsV n).length - j ∧ i = .int .i64 j ∧ Hid (Minmax n k j lo hi) ∧ Box wr W2.heap.size 23 #[.int .i64 lo, .int .i64 hi] ∧ Grew W2.heap.size W2 wr)
    case atStart => exact ⟨0, sp0 n k 0, sp0 n k 0, Nat.zero_le _, rfl, rfl, hmm0.out, Box.new rfl, inferInstance⟩
    case round =>
      clear hmm0
      obtain ⟨j, lo, hi, hj, rfl, rfl, hm, hbx, i1⟩ := hrel
      have i2 : Lt W2.heap.size wr := hbx.lt
      have i2' : Le W2.heap.size wr := ⟨Nat.le_of_lt i2.out⟩
      have hcell := cells_same i1.out
      have hfz := frozen_same i1.out
      have i3 : Lt w.heap.size wr := ⟨Nat.lt_trans (Nat.lt_of_succ_lt hw1) i2.out⟩
      have i3' : Lt (w.heap.size + 1) wr := ⟨Nat.lt_trans hw1 i2.out⟩
      have i4 : Lt b wr := ⟨Nat.lt_trans hb2 i2.out⟩
      have i5 : Le B wr := ⟨Nat.le_trans (inferInstance : Le B W2).out i2'.out⟩
      have i6 : Grew B w wr := Grew.trans (w := w) (W := W2) inferInstance i1
      have c0' := hbx.cell (i := 0) rfl
      have c1' := hbx.cell (i := 1) rfl
      have f0' := hbx.free 0
      have f1' := hbx.free 1
      have HB := Lib.hid hbx
      clear hbx
      by_cases hlt : j < (truthsV n).length
      · obtain ⟨A', c', d0, d1, d2, hgs⟩ := HT2.out j hlt
        have hok := Lib.hid (okTru_of HV.out (mem_truthsV.1 (nth_mem _ hlt)))
        have hki : (j : Int) < ((truthsV n).length : Int) := by omega
        have hk0 : ¬ (j : Int) < 0 := by omega
        go_wp2_with (fail)
        go_region_held3 (fun W => W.cell? ⟨w.heap.size, 0, none⟩ = some (.int .i64 n.wind.lo) ∧ W.cell? ⟨w.heap.size, 1, none⟩ = some (.int .i64 n.wind.hi) ∧ W.cell? ⟨w.heap.size, 2, none⟩ = some (.int .i64 n.cur.lo) ∧ W.cell? ⟨w.heap.size, 3, none⟩ = some (.int .i64 n.cur.hi) ∧ W.cell? ⟨w.heap.size, 4, none⟩ = some (.slice r.gA n.grips.length r.gc) ∧ W.cell? ⟨w.heap.size, 5, none⟩ = some (.slice r.aA n.ancs.length r.ac) ∧ W.cell? ⟨w.heap.size, 6, none⟩ = some (.slice r.wA n.wals.length r.wc) ∧ W.cell? ⟨b, o + j * 3, none⟩ = some (.int .i64 (nth (truthsV n) j).wind) ∧ W.cell? ⟨b, o + j * 3 + 1, none⟩ = some (.int .i64 (nth (truthsV n) j).cur) ∧ W.cell? ⟨b, o + j * 3 + 2, none⟩ = some (.slice A' (nth (truthsV n) j).grips.length c'))
          (refine ⟨?_, ?_, ?_, ?_, ?_, ?_, ?_, ?_, ?_, ?_⟩ <;> go_simp)
          (first
            | (go_at_call 54; refine (spareOf_c r n ⟨A', c'⟩ (nth (truthsV n) j) k _ _ H.out.wide hgs.wide hok.out hk).mono ?_; rw [show spare n (nth (truthsV n) j) k (fun _ => false) = sp0 n k j from rfl]; rintro e w1 ⟨rfl, δ2, rfl⟩))
        go_wp2_with (fail)
        all_goals
          go_roundg ((truthsV n).length - (j + 1))
          case measure => omega
          case rel => exact ⟨j + 1, _, _, by omega, rfl, by go_num, minmax_succ' hlt hm.out (by omega) (by omega), ((HB.out.drew.lat δ2).set 0 _).set 1 _, inferInstance⟩
      · obtain rfl : j = (truthsV n).length := by omega
        have HE := Lib.hid (minmax_end HV.out hk hm.out)
        have i7 : Grew w.heap.size w wr := Grew.trans (w := w) (W := W2) inferInstance i1
        have i8 : Le w.heap.size wr := ⟨Nat.le_of_lt i3.out⟩
        go_wp2_with (fail)
        refine bodyPost_ret (v := .tuple #[.agg #[.int .i64 lo, .int .i64 hi], .int .i64 0]) ?_ rfl ?_
        · simp only [results, Tryd.results46]
          go_simp
        · exact ⟨ret2 (by rw [HF.out, HE.out.1, HE.out.2]; rfl) rfl, lat_ex⟩
  · go_enter Tryd.func46, Tryd.ntmps46
    go_wp2_with (fail)
    refine wp_region_lat (by kernel_rfl) (by kernel_rfl) ?_
    repeat (go_big_quiet_step ((first | (go_at_call 27; exact Calls.lat_of (rIsAnchor_is H1.out H.out.up)) | (go_at_call 92; exact Calls.lat_of (rAsk_is (by rw [HV.out]) H.out.up)))))
    refine wpQuiet_nil ?_
    rintro _ ⟨δq, rfl⟩
    go_wp2_with (fail)
    refine bodyPost_ret (v := .tuple #[.agg #[.int .i64 0, .int .i64 0], .int .i64 (askE true false)]) ?_ rfl ?_
    · simp only [results, Tryd.results46]
      go_simp
    · exact ⟨ret2 (by rw [HF.out]; rfl) rfl, lat_ex⟩
  · go_enter Tryd.func46, Tryd.ntmps46
    go_wp2_with (fail)
    refine wp_region_lat (by kernel_rfl) (by kernel_rfl) ?_
    repeat (go_big_quiet_step ((first | (go_at_call 27; exact Calls.lat_of (rIsAnchor_is H1.out H.out.up)) | (go_at_call 92; exact Calls.lat_of (rAsk_is (by rw [HV.out]) H.out.up)))))
    refine wpQuiet_nil ?_
    rintro _ ⟨δq, rfl⟩
    go_wp2_with (fail)
    refine bodyPost_ret (v := .tuple #[.agg #[.int .i64 0, .int .i64 0], .int .i64 (askE false true)]) ?_ rfl ?_
    · simp only [results, Tryd.results46]
      go_simp
    · exact ⟨ret2 (by rw [HF.out]; rfl) rfl, lat_ex⟩
  · go_enter Tryd.func46, Tryd.ntmps46
    go_wp2_with (fail)
    refine wp_region_lat (by kernel_rfl) (by kernel_rfl) ?_
    repeat (go_big_quiet_step ((first | (go_at_call 27; exact Calls.lat_of (rIsAnchor_is H1.out H.out.up)) | (go_at_call 92; exact Calls.lat_of (rAsk_is (by rw [HV.out]) H.out.up)))))
    refine wpQuiet_nil ?_
    rintro _ ⟨δq, rfl⟩
    go_wp2_with (fail)
    refine bodyPost_ret (v := .tuple #[.agg #[.int .i64 0, .int .i64 0], .int .i64 (askE false false)]) ?_ rfl ?_
    · simp only [results, Tryd.results46]
      go_simp
    · exact ⟨ret2 (by rw [HF.out]; rfl) rfl, lat_ex⟩

end Go.Proofs.YtgpcaaknpfopgaaDoor
