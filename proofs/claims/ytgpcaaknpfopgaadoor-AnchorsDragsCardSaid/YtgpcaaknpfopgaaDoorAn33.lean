/- Layer 2: the walks of Drag, Safe and Spare of the reference. -/
import Derived.Test.YtgpcaaknpfopgaaDoorAn32
import Derived.Outline
namespace Go.Proofs.YtgpcaaknpfopgaaDoor
open Go.RowKit
open An

namespace An
noncomputable def dragTo (n : Net) (i : Nat) (k : Nat) : Nat := (((truthsV n).take k).filter fun t => dragB n t i).length
theorem dragTo_le (n : Net) (i k : Nat) : dragTo n i k ≤ k := by
  unfold dragTo
  have := List.length_filter_le (fun t => dragB n t i) ((truthsV n).take k)
  rw [List.length_take] at this; omega
theorem dragTo_succ {n : Net} (i : Nat) {k : Nat} (hk : k < (truthsV n).length) : dragTo n i (k + 1) = dragTo n i k + if dragB n (nth (truthsV n) k) i = true then 1 else 0 := by
  unfold dragTo
  rw [take_snoc _ hk, List.filter_append, List.length_append]
  congr 1
  by_cases hc : dragB n (nth (truthsV n) k) i = true <;> simp [List.filter_cons, hc]
theorem drag_same {n : Net} (hv : valid n = true) (i : Nat) : knownI (dragTo n i (truthsV n).length) (truthsV n).length = knownB (dragB n (bestT n) i) (dragB n (worstT n) i) := by
  have hb := mem_truthsV.2 (best_tru hv)
  have hw := mem_truthsV.2 (worst_tru hv)
  have hpos : 0 < (truthsV n).length := List.length_pos_of_mem hb
  have hz : dragTo n i (truthsV n).length = 0 ↔ dragB n (worstT n) i = false := by
    unfold dragTo
    rw [List.take_length, List.length_eq_zero_iff, List.filter_eq_nil_iff]
    constructor
    · intro h; rw [← Bool.not_eq_true]; exact h _ hw
    · intro h t ht hd
      have := last_harder hv (harder_worst (mem_truthsV.1 ht)) (d := fun _ => false) hd
      rw [show lastB n (worstT n) (fun _ => false) i = dragB n (worstT n) i from rfl, h] at this
      cases this
  have ha : dragTo n i (truthsV n).length = (truthsV n).length ↔ dragB n (bestT n) i = true := by
    unfold dragTo
    rw [List.take_length, List.length_filter_eq_length_iff]
    constructor
    · intro h; exact h _ hb
    · intro h t ht
      exact last_harder hv (harder_best (mem_truthsV.1 ht)) (d := fun _ => false) h
  unfold knownI knownB
  by_cases h1 : dragTo n i (truthsV n).length = 0
  · have h2 : dragB n (bestT n) i = false := by
      rw [← Bool.not_eq_true]
      intro h
      have := ha.2 h
      omega
    rw [if_pos (by omega), h2, hz.1 h1]; rfl
  · rw [if_neg (by omega)]
    have h3 : dragB n (worstT n) i = true := by
      rw [← Bool.not_eq_false]; exact fun h => h1 (hz.2 h)
    by_cases h2 : dragB n (bestT n) i = true
    · rw [if_pos (by have := ha.2 h2; omega), h2]; rfl
    · rw [if_neg (fun h => h2 (ha.1 (by omega))), if_neg h2, if_pos h3]
end An

theorem SlTru.all_ {w : World} {A : Option Addr} {c : Nat} {L : List Tru} (h : SlTru w A c L) (h0 : 0 < L.length) : ∃ b o, A = some ⟨b, o, none⟩ ∧ b < w.heap.size ∧ ∀ k, k < L.length → ∃ A' c', w.cell? ⟨b, o + k * 3, none⟩ = some (.int .i64 (nth L k).wind) ∧ w.cell? ⟨b, o + k * 3 + 1, none⟩ = some (.int .i64 (nth L k).cur) ∧
    w.cell? ⟨b, o + k * 3 + 2, none⟩ = some (.slice A' (nth L k).grips.length c') ∧ Sl encI w.heap.size w A' c' (nth L k).grips := by
  obtain ⟨b, o, _, _, hA, hb, _⟩ := h.at_ h0
  refine ⟨b, o, hA, hb, fun k hk => ?_⟩
  obtain ⟨b', o', A', c', hA', _, d0, d1, d2, s⟩ := h.at_ hk
  rw [hA] at hA'
  injection hA' with q
  injection q with q1 q2
  subst q1 q2
  exact ⟨A', c', d0, d1, d2, s⟩
theorem truthsV_pos {n : Net} (hv : valid n = true) : 0 < (truthsV n).length := List.length_pos_of_mem (mem_truthsV.2 (best_tru hv))
theorem rIsAnchor_is {n : Net} {i : Int} {b : Bool} (hb : inB 0 (n.ancs.length - 1) i = b) {r : NetR} {B : Nat} {w : World} [hB : Le B w] (h : NetIs B w r n) :
    Calls Tryd.prog 27 #[netV r n, .int .i64 i] w fun e w' => e = .returned (.bool b) ∧ ∃ δ, w' = lat w δ := by
  subst hb; exact rIsAnchor_c r n i B w h

set_option maxRecDepth 100000 in
set_option maxHeartbeats 4000000 in
theorem rDrag_c (r : NetR) (n : Net) (i : Int) (B : Nat) (w : World) [hB : Le B w] (h : NetIs B w r n) :
    Calls Tryd.prog 44 #[netV r n, .int .i64 i] w fun e w' => e = .returned (.tuple #[.int .i64 (dragV n i), .int .i64 (askE (valid n) (inB 0 (n.ancs.length - 1) i))]) ∧ ∃ δ, w' = lat w δ := by
  have H := Lib.hid h
  clear h
  by_cases hv : valid n = true
  all_goals try rw [Bool.not_eq_true] at hv
  all_goals
    by_cases h1 : inB 0 (n.ancs.length - 1) i = true
    all_goals try rw [Bool.not_eq_true] at h1
  all_goals
    have HV := Lib.hid hv
    have H1 := Lib.hid h1
    have HF := Lib.hid (show dragV n i = onOk (valid n && inB 0 (n.ancs.length - 1) i) (knownB (dragB n (bestT n) i.toNat) (dragB n (worstT n) i.toNat)) from rfl)
    rw [hv, h1] at HF ⊢
    clear hv h1
  · have h1' := inB_iff.1 H1.out
    obtain ⟨k, rfl⟩ := Int.eq_ofNat_of_zero_le h1'.1
    have hk : k < n.ancs.length := by omega
    have hlen := truthsV_len HV.out
    have HS := Lib.hid (drag_same HV.out k)
    clear h1'
    go_enter Tryd.func44, Tryd.ntmps44
    go_wp2_with (fail)
    refine wp_region_lat (by kernel_rfl) (by kernel_rfl) ?_
    repeat (go_big_quiet_step ((first | (go_at_call 27; exact Calls.lat_of (rIsAnchor_is H1.out H.out.up)) | (go_at_call 92; exact Calls.lat_of (rAsk_is (by rw [HV.out]) H.out.up)))))
    refine wpQuiet_nil ?_
    rintro _ ⟨δq, rfl⟩
    go_upto_region 5 with (go_at_call 97; refine (truths_c r n B _ H.out.up HV.out).mono ?_; rintro e w1 ⟨Al, cl, δ, rfl, rfl, hSl⟩)
    refine wp_name fun W1 hW1 => ?_
    have iw1 : Le B W1 := by rw [hW1.out]; infer_instance
    have iw2 : Grew B w W1 := by rw [hW1.out]; infer_instance
    have iw3 : Le w.heap.size W1 := by rw [hW1.out]; infer_instance
    have iw4 : Grew w.heap.size w W1 := by rw [hW1.out]; infer_instance
    have iw5 : Lt (w.heap.size) W1 := by rw [hW1.out]; infer_instance
    have cw6 : W1.cell? ⟨w.heap.size, 0, none⟩ = some (.int .i64 n.wind.lo) := by rw [hW1.out]; go_simp
    have cw7 : W1.cell? ⟨w.heap.size, 1, none⟩ = some (.int .i64 n.wind.hi) := by rw [hW1.out]; go_simp
    have cw8 : W1.cell? ⟨w.heap.size, 2, none⟩ = some (.int .i64 n.cur.lo) := by rw [hW1.out]; go_simp
    have cw9 : W1.cell? ⟨w.heap.size, 3, none⟩ = some (.int .i64 n.cur.hi) := by rw [hW1.out]; go_simp
    have cw10 : W1.cell? ⟨w.heap.size, 4, none⟩ = some (.slice r.gA n.grips.length r.gc) := by rw [hW1.out]; go_simp
    have cw11 : W1.cell? ⟨w.heap.size, 5, none⟩ = some (.slice r.aA n.ancs.length r.ac) := by rw [hW1.out]; go_simp
    have cw12 : W1.cell? ⟨w.heap.size, 6, none⟩ = some (.slice r.wA n.wals.length r.wc) := by rw [hW1.out]; go_simp
    have hS1 : SlTru W1 Al cl (truthsV n) := by rw [hW1.out]; exact hSl
    have g1 : NetIs B W1 r n := H.out.up
    obtain ⟨b, o, rfl, hb, hall⟩ := hS1.all_ (truthsV_pos HV.out)
    have HT := Lib.hid hall
    have ib : Lt b W1 := ⟨hb⟩
    clear hS1 hSl hall
    go_wp2_with (fail)
    go_loopg [8, 9] (truthsV n).length (fun g s i wr => ∃ (j : Nat) (δ : World), j ≤ (truthsV n).length ∧ g = (truthsV n).length - j ∧ i = .int .i64 j ∧ s = .int .i64 (dragTo n k j) ∧ wr = lat W1 δ)
    case atStart => exact ⟨0, W1, Nat.zero_le _, rfl, rfl, rfl, (lat_refl W1).symm⟩
    case round =>
      obtain ⟨j, δ, hj, rfl, rfl, rfl, rfl⟩ := hrel
      have hdl := dragTo_le n k j
      by_cases hlt : j < (truthsV n).length
      · obtain ⟨A', c', d0, d1, d2, hgs⟩ := HT.out j hlt
        have hok := Lib.hid (okTru_of HV.out (mem_truthsV.1 (nth_mem _ hlt)))
        have HS2 := Lib.hid (dragTo_succ k hlt)
        have hki : (j : Int) < ((truthsV n).length : Int) := by omega
        have hk0 : ¬ (j : Int) < 0 := by omega
        by_cases hc : dragB n (nth (truthsV n) j) k = true
        all_goals try rw [Bool.not_eq_true] at hc
        all_goals
          have HC := Lib.hid (show isIn (atL n (nth (truthsV n) j) (fun _ => false)) (k : Int) = _ from (show _ = dragB n (nth (truthsV n) j) k by rw [Bool.eq_iff_iff, isIn_iff]; unfold atL; rw [mem_rangeL]; exact ⟨fun h => h.2, fun h => ⟨hk, h⟩⟩).trans hc)
          rw [hc] at HS2
          clear hc
          go_wp2_with (fail)
          go_region_held3 (fun W => W.cell? ⟨w.heap.size, 0, none⟩ = some (.int .i64 n.wind.lo) ∧ W.cell? ⟨w.heap.size, 1, none⟩ = some (.int .i64 n.wind.hi) ∧ W.cell? ⟨w.heap.size, 2, none⟩ = some (.int .i64 n.cur.lo) ∧ W.cell? ⟨w.heap.size, 3, none⟩ = some (.int .i64 n.cur.hi) ∧ W.cell? ⟨w.heap.size, 4, none⟩ = some (.slice r.gA n.grips.length r.gc) ∧ W.cell? ⟨w.heap.size, 5, none⟩ = some (.slice r.aA n.ancs.length r.ac) ∧ W.cell? ⟨w.heap.size, 6, none⟩ = some (.slice r.wA n.wals.length r.wc) ∧ W.cell? ⟨b, o + j * 3, none⟩ = some (.int .i64 (nth (truthsV n) j).wind) ∧ W.cell? ⟨b, o + j * 3 + 1, none⟩ = some (.int .i64 (nth (truthsV n) j).cur) ∧ W.cell? ⟨b, o + j * 3 + 2, none⟩ = some (.slice A' (nth (truthsV n) j).grips.length c'))
            (refine ⟨?_, ?_, ?_, ?_, ?_, ?_, ?_, ?_, ?_, ?_⟩ <;> go_simp)
            (first
              | (go_at_call 98; refine (atLast0_c r n ⟨A', c'⟩ (nth (truthsV n) j) _ _ g1.wide hgs.wide hok.out).mono ?_; unfold AtLastPost; rintro e w1 ⟨A2, c2, δ2, rfl, rfl, hS2⟩)
              | (go_at_call 55; refine (in_is HC.out hS2).mono ?_; rintro e w1 ⟨rfl, rfl⟩))
          go_wp2_with (fail)
          go_roundg ((truthsV n).length - (j + 1))
          case measure => omega
          case rel => exact ⟨j + 1, _, by omega, rfl, by go_num, int_eq (by rw [HS2.out]; simp), lat_def⟩
      · obtain rfl : j = (truthsV n).length := by omega
        go_wp2_with (go_at_call 96; refine (known_c _ _ _).mono ?_; rintro e w1 ⟨rfl, rfl⟩)
        go_ret2
        exact ⟨ret2 (int_eq (by rw [HF.out, HS.out]; rfl)) rfl, lat_ex⟩
  all_goals
    go_enter Tryd.func44, Tryd.ntmps44
    go_wp2_with (fail)
    refine wp_region_lat (by kernel_rfl) (by kernel_rfl) ?_
    repeat (go_big_quiet_step ((first | (go_at_call 27; exact Calls.lat_of (rIsAnchor_is H1.out H.out.up)) | (go_at_call 92; exact Calls.lat_of (rAsk_is (by rw [HV.out]) H.out.up)))))
    refine wpQuiet_nil ?_
    rintro _ ⟨δq, rfl⟩
    go_wp2_with (fail)
    go_ret2
    exact ⟨ret2 (int_eq (by rw [HF.out]; rfl)) rfl, lat_ex⟩

namespace An
def safeV (n : Net) : Int := onOk (valid n) (knownB (decide (stepM n (worstT n) 0 = 0)) (decide (stepM n (bestT n) 0 = 0)))
theorem safe_same {n : Net} (hv : valid n = true) : knownI (quietN n) (truthsV n).length = safeV n := by
  have ha := quiet_all hv
  have hz := quiet_none hv
  have hle : quietN n ≤ (truthsV n).length := List.length_filter_le _ _
  have hpos := truthsV_pos hv
  unfold safeV knownI knownB onOk
  rw [hv, if_pos rfl]
  by_cases h1 : stepM n (worstT n) 0 = 0
  · have : ¬ quietN n < (truthsV n).length := fun h => ha.1 h h1
    rw [if_neg (by omega), if_pos (by omega), h1]; rfl
  · have h2 := ha.2 h1
    by_cases h3 : stepM n (bestT n) 0 = 0
    · have : ¬ quietN n = 0 := fun h => hz.1 h h3
      rw [if_neg (by omega), if_neg (by omega), if_neg (by simpa using h1), if_pos (by simpa using h3)]
    · have := hz.2 h3
      rw [if_pos (by omega), if_neg (by simpa using h1), if_neg (by simpa using h3)]
end An

set_option maxRecDepth 100000 in
set_option maxHeartbeats 4000000 in
theorem rSafe_c (r : NetR) (n : Net) (B : Nat) (w : World) [hB : Le B w] (h : NetIs B w r n) :
    Calls Tryd.prog 45 #[netV r n] w fun e w' => e = .returned (.tuple #[.int .i64 (safeV n), .int .i64 (errOf (valid n) 20)]) ∧ ∃ δ, w' = lat w δ := by
  have H := Lib.hid h
  clear h
  by_cases hv : valid n = true
  all_goals try rw [Bool.not_eq_true] at hv
  all_goals
    have HV := Lib.hid hv
    have HF := Lib.hid (show safeV n = onOk (valid n) (knownB (decide (stepM n (worstT n) 0 = 0)) (decide (stepM n (bestT n) 0 = 0))) from rfl)
    rw [hv] at HF ⊢
  · have HS := Lib.hid (safe_same hv)
    clear hv
    go_enter Tryd.func45, Tryd.ntmps45
    go_wp2_with (first
      | (go_at_call 39; refine (rCheck_c r n B _ H.out.up).mono ?_; rw [HV.out]; rintro e w1 ⟨rfl, δ, rfl⟩)
      | (go_at_call 69; refine (quiet_c r n B _ H.out.up HV.out).mono ?_; rintro e w1 ⟨rfl, δ', rfl⟩)
      | (go_at_call 96; refine (known_c _ _ _).mono ?_; rintro e w1 ⟨rfl, rfl⟩))
    go_ret2
    exact ⟨ret2 (int_eq (by rw [HS.out])) rfl, lat_ex⟩
  · clear hv
    go_enter Tryd.func45, Tryd.ntmps45
    go_wp2_with (go_at_call 39; refine (rCheck_c r n B _ H.out.up).mono ?_; rw [HV.out]; rintro e w1 ⟨rfl, δ, rfl⟩)
    go_ret2
    exact ⟨ret2 (int_eq (by rw [HF.out]; rfl)) rfl, lat_ex⟩

end Go.Proofs.YtgpcaaknpfopgaaDoor
