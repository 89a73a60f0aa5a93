/- The plain words of layer 2: the law of each anchor. -/
import Derived.Test.YtgpcaaknpfopgaaDoorAnPlain8
namespace Go.Proofs.YtgpcaaknpfopgaaDoor
open Go.RowKit
namespace An

theorem firstV_st {n : Net} {t : Tru} (hv : valid n = true) (ht : truB n t = true) : firstV n t = rangeL n.ancs.length (stepB n t fun _ => false) := by
  unfold firstV
  rw [if_pos (by rw [hv, ht]; rfl)]
  have e : (fun i => (stepM n t 0).testBit i) = stepB n t (fun _ => false) := by
    funext i
    rw [stepM_bit]
    congr 1
    exact funext fun i => Nat.zero_testBit i
  show rangeL 6 (fun i => (stepM n t 0).testBit i) = rangeL n.ancs.length (stepB n t fun _ => false)
  rw [e]
  exact range_six (valid_iff.1 hv).2.2.2.1 (stepB_lt (by intro k hk; cases hk))
theorem first_in {n : Net} {t : Tru} (hv : valid n = true) (ht : truB n t = true) {i : Nat} (hi : i < n.ancs.length) : isIn (firstV n t) i = decide (spare n t i (fun _ => false) < 0) := by
  rw [Bool.eq_iff_iff, isIn_iff, firstV_st hv ht, mem_rangeL, decide_eq_true_eq]
  unfold stepB
  simp [hi]
theorem drags_in {n : Net} {t : Tru} (hv : valid n = true) (ht : truB n t = true) {i : Nat} (hi : i < n.ancs.length) : isIn (dragsV n t) i = dragB n t i := by
  rw [Bool.eq_iff_iff, isIn_iff, dragsV_at hv ht]
  unfold atL
  rw [mem_rangeL]
  exact ⟨fun h => h.2, fun h => ⟨hi, h⟩⟩
theorem first_rises {n : Net} {t : Tru} (hv : valid n = true) (ht : truB n t = true) : Rises (firstV n t) 0 ((n.ancs.length : Int) - 1) := by
  rw [firstV_st hv ht]; exact rangeL_rises _ _
theorem first_part {n : Net} {t : Tru} (hv : valid n = true) (ht : truB n t = true) : Part (firstV n t) (dragsV n t) := by
  rw [firstV_st hv ht, dragsV_at hv ht]
  refine part_of fun x hx => ?_
  obtain ⟨k, rfl, hk, hd⟩ := mem_rangeL' hx
  unfold atL
  rw [mem_rangeL]
  exact ⟨hk, lastB_iff.2 fun S hS _ => hS k (stepB_mono (okTru_of hv ht) (fun _ h => by cases h) hd)⟩
theorem first_nil {n : Net} {t : Tru} (hv : valid n = true) (ht : truB n t = true) : 0 < (firstV n t).length ↔ ¬ calmP n t := by
  constructor
  · intro h hc
    have hm := nth_mem _ h
    generalize nth (firstV n t) 0 = x at hm
    rw [firstV_st hv ht] at hm
    obtain ⟨k, _, hk, hd⟩ := mem_rangeL' hm
    unfold stepB at hd
    simp only [Bool.false_or, Bool.and_eq_true, decide_eq_true_eq] at hd
    have := hc k hk
    omega
  · intro hc
    rcases Nat.eq_zero_or_pos (firstV n t).length with h0 | h0
    · refine absurd (fun i hi => ?_) hc
      have : isIn (firstV n t) i = false := by rw [List.length_eq_zero_iff.1 h0]; simp [isIn]
      rw [first_in hv ht hi, decide_eq_false_iff_not] at this
      omega
    · exact h0
def safeX (n : Net) : Int := onOk (valid n) (knownB (decide (stepM n (worstT n) 0 = 0)) (decide (stepM n (bestT n) 0 = 0)))
theorem safe_cases {n : Net} {t : Tru} (hv : valid n = true) (ht : truB n t = true) :
    (Hid (safeX n = 1) ∧ decide (0 < (firstV n t).length) = false) ∨ Hid (safeX n = 3) ∨ (Hid (safeX n = 2) ∧ ((((firstV n t).length : Int) == 0) = false)) := by
  have h1 := harder_worst ht
  have h2 := harder_best ht
  unfold safeX
  rw [hv]
  by_cases ha : stepM n (worstT n) 0 = 0
  · refine .inl ⟨Lib.hid (by simp [onOk, knownB, ha]), decide_eq_false fun h => (first_nil hv ht).1 h (calmP_mono hv h1 (step0_iff.1 ha))⟩
  · by_cases hb : stepM n (bestT n) 0 = 0
    · exact .inr (.inl (Lib.hid (by simp [onOk, knownB, ha, hb])))
    · exact .inr (.inr ⟨Lib.hid (by simp [onOk, knownB, ha, hb]), by have := (first_nil hv ht).2 fun h => hb (step0_iff.2 (calmP_mono hv h2 h)); rw [beq_eq_false_iff_ne]; omega⟩)
theorem drag_cases {n : Net} {t : Tru} (hv : valid n = true) (ht : truB n t = true) {i : Nat} (hi : i < n.ancs.length) :
    (Hid (dragV n i = 1) ∧ Hid (isIn (dragsV n t) i = true)) ∨ (Hid (dragV n i = 3) ∧ Hid (isIn (dragsV n t) i = true)) ∨ (Hid (dragV n i = 3) ∧ Hid (isIn (dragsV n t) i = false)) ∨ (Hid (dragV n i = 2) ∧ Hid (isIn (dragsV n t) i = false)) := by
  have e : dragV n i = knownB (dragB n (bestT n) i) (dragB n (worstT n) i) := by
    unfold dragV
    rw [hv, show inB 0 ((n.ancs.length : Int) - 1) (i : Int) = true by rw [inB_iff]; omega]
    rfl
  rw [drags_in hv ht hi, e]
  have h1 : dragB n (bestT n) i = true → dragB n t i = true := last_harder hv (harder_best ht)
  have h2 : dragB n t i = true → dragB n (worstT n) i = true := last_harder hv (harder_worst ht)
  unfold Hid knownB
  cases ha : dragB n (bestT n) i <;> cases hb : dragB n t i <;> cases hc : dragB n (worstT n) i <;> simp_all
theorem spareV_lo {n : Net} {t : Tru} (hv : valid n = true) (ht : truB n t = true) {i : Nat} (hi : i < n.ancs.length) :
    (spareV n i).lo ≤ spare n t i (fun _ => false) ∧ spare n t i (fun _ => false) ≤ (spareV n i).hi := by
  have e : spareV n i = ⟨spare n (worstT n) i (fun _ => false), spare n (bestT n) i (fun _ => false)⟩ := by
    unfold spareV
    rw [hv, show inB 0 ((n.ancs.length : Int) - 1) (i : Int) = true by rw [inB_iff]; omega]
    rfl
  rw [e]
  exact ⟨spare_harder hv (harder_worst ht) hi, spare_harder hv (harder_best ht) hi⟩
end An
end Go.Proofs.YtgpcaaknpfopgaaDoor
