/- The plain words of layer 2: what is pulled, and the key. -/
import Derived.Test.YtgpcaaknpfopgaaDoorAn32
namespace Go.Proofs.YtgpcaaknpfopgaaDoor
namespace An

def single (i : Nat) (k : Nat) : Bool := decide (k = i)
noncomputable def pulL (n : Net) (t : Tru) (i : Nat) : List Int := atL n t (single i)
noncomputable def pulledV (n : Net) (t : Tru) (i : Int) : List Int := if valid n && (truB n t && inB 0 ((n.ancs.length : Int) - 1) i) then pulL n t i.toNat else []
theorem range_six {m : Nat} (h6 : m ≤ 6) {d : Nat → Bool} (hd : ∀ k, d k = true → k < m) : rangeL 6 d = rangeL m d := by
  have key : ∀ j, rangeL (m + j) d = rangeL m d := by
    intro j
    induction j with
    | zero => rfl
    | succ j ih =>
      rw [← Nat.add_assoc, rangeL_succ, ih, if_neg (fun h => by have := hd _ h; omega), List.append_nil]
  have := key (6 - m)
  rwa [show m + (6 - m) = 6 by omega] at this
theorem single_lt {i m : Nat} (hi : i < m) : ∀ k, single i k = true → k < m := fun k hk => by simp [single] at hk; omega
theorem single_range {i m : Nat} (hi : i < m) : rangeL m (single i) = [(i : Int)] := by
  induction m with
  | zero => omega
  | succ m ih =>
    rw [rangeL_succ]
    by_cases h : i = m
    · subst h
      have : rangeL i (single i) = [] := by
        unfold rangeL
        rw [List.map_eq_nil_iff, List.filter_eq_nil_iff]
        intro k hk
        have : k < i := by simpa using hk
        simp [single]; omega
      rw [this, if_pos (by simp [single])]; rfl
    · rw [ih (by omega), if_neg (by simp [single]; omega), List.append_nil]
theorem bit_single (i : Nat) : (fun k => (2 ^ i : Nat).testBit k) = single i := by
  funext k
  rw [Nat.testBit_two_pow, single, decide_eq_decide]
  exact eq_comm
theorem listM_last {n : Net} {t : Tru} {d : Nat → Bool} (h6 : n.ancs.length ≤ 6) (hd : ∀ k, d k = true → k < n.ancs.length) {m : Nat} (hl : ∀ i, m.testBit i = true ↔ lastP n t d i) : listM m = atL n t d := by
  have e : (fun i => m.testBit i) = lastB n t d := funext fun i => bit_last (hl i)
  show rangeL 6 (fun i => m.testBit i) = rangeL n.ancs.length (lastB n t d)
  rw [e]
  exact range_six h6 fun k hk => last_lt hd hk
theorem firstV_eq {n : Net} {t : Tru} (hv : valid n = true) (ht : truB n t = true) : firstV n t = moreV n t [] n.ancs.length := by
  unfold firstV
  rw [if_pos (by rw [hv, ht]; rfl)]
  have h6 := (valid_iff.1 hv).2.2.2.1
  have e0 : inL [] = fun _ => false := by funext k; simp [inL, isIn]
  have e : (fun i => (stepM n t 0).testBit i) = stepB n t (inL []) := by
    funext i
    rw [stepM_bit, e0]
    congr 1
    exact funext fun i => Nat.zero_testBit i
  show rangeL 6 (fun i => (stepM n t 0).testBit i) = rangeL n.ancs.length (stepB n t (inL []))
  rw [e]
  exact range_six h6 (stepB_lt (by rw [e0]; intro k hk; cases hk))
theorem dragsV_at {n : Net} {t : Tru} (hv : valid n = true) (ht : truB n t = true) : dragsV n t = atL n t (fun _ => false) := by
  rw [dragsV_eq hv ht]
  show rangeL 6 (dragB n t) = rangeL n.ancs.length (dragB n t)
  exact range_six (valid_iff.1 hv).2.2.2.1 fun k hk => drag_lt hk
theorem pulL_pos {n : Net} {t : Tru} {i : Nat} (hi : i < n.ancs.length) : 0 < (pulL n t i).length := by
  have : (i : Int) ∈ pulL n t i := by
    unfold pulL atL
    rw [mem_rangeL]
    exact ⟨hi, last_sub (by simp [single])⟩
  exact List.length_pos_of_mem this
theorem pulL_le (n : Net) (t : Tru) (i : Nat) : (pulL n t i).length ≤ n.ancs.length := rangeL_len _ _
/-- The anchor that pulls the most, of the first k. -/
noncomputable def keyTo (n : Net) (t : Tru) : Nat → Nat
  | 0 => 0
  | k + 1 => if (pulL n t (keyTo n t k)).length < (pulL n t k).length then k else keyTo n t k
theorem keyTo_lt (n : Net) (t : Tru) {k m : Nat} (h : k ≤ m) (h0 : 0 < m) : keyTo n t k < m := by
  induction k with
  | zero => exact h0
  | succ k ih => unfold keyTo; split <;> first | omega | exact ih (by omega)
noncomputable def keyV (n : Net) (t : Tru) : Int := if valid n && truB n t then keyTo n t n.ancs.length else 0
def keyE (n : Net) (t : Tru) : Int := if valid n then (if truB n t then (if n.ancs.length = 0 then 3 else 0) else 1) else 20
/-- How many the key of the first k pulls; 0 of none. -/
noncomputable def mostTo (n : Net) (t : Tru) : Nat → Nat
  | 0 => 0
  | k + 1 => (pulL n t (keyTo n t (k + 1))).length
theorem key_step {n : Net} {t : Tru} {k : Nat} (hk : k < n.ancs.length) : (mostTo n t k < (pulL n t k).length → keyTo n t (k + 1) = k ∧ mostTo n t (k + 1) = (pulL n t k).length) ∧ (¬ mostTo n t k < (pulL n t k).length → keyTo n t (k + 1) = keyTo n t k ∧ mostTo n t (k + 1) = mostTo n t k) := by
  cases k with
  | zero =>
    have hp := pulL_pos (t := t) hk
    have e : keyTo n t 1 = 0 := by unfold keyTo; split <;> rfl
    refine ⟨fun _ => ⟨e, by show (pulL n t (keyTo n t 1)).length = _; rw [e]⟩, fun h => absurd hp h⟩
  | succ k =>
    constructor
    · intro h
      have h' : (pulL n t (keyTo n t (k + 1))).length < (pulL n t (k + 1)).length := h
      have e : keyTo n t (k + 1 + 1) = k + 1 := by rw [keyTo]; exact if_pos h'
      exact ⟨e, by show (pulL n t (keyTo n t (k + 1 + 1))).length = _; rw [e]⟩
    · intro h
      have h' : ¬ (pulL n t (keyTo n t (k + 1))).length < (pulL n t (k + 1)).length := h
      have e : keyTo n t (k + 1 + 1) = keyTo n t (k + 1) := by rw [keyTo]; exact if_neg h'
      exact ⟨e, by show (pulL n t (keyTo n t (k + 1 + 1))).length = _; rw [e]; rfl⟩

end An

/-! The plain words of layer 2: laws of what is pulled, and of the key. -/
namespace An

theorem rangeL_pw (m : Nat) (d : Nat → Bool) : (rangeL m d).Pairwise (· < ·) := by
  unfold rangeL
  rw [List.pairwise_map]
  refine List.Pairwise.filter _ ?_
  exact List.Pairwise.imp (fun h => by omega) List.pairwise_lt_range
theorem mem_rangeL' {m : Nat} {d : Nat → Bool} {x : Int} (h : x ∈ rangeL m d) : ∃ k : Nat, x = k ∧ k < m ∧ d k = true := by
  have h' := h
  unfold rangeL at h
  simp only [List.mem_map] at h
  obtain ⟨k, _, rfl⟩ := h
  exact ⟨k, rfl, mem_rangeL.1 h'⟩
theorem rangeL_rises (m : Nat) (d : Nat → Bool) : Rises (rangeL m d) 0 ((m : Int) - 1) := by
  refine rises_of (rangeL_pw _ _) fun x hx => ?_
  obtain ⟨k, rfl, hk, _⟩ := mem_rangeL' hx
  omega
theorem pul_in {n : Net} {t : Tru} {i : Nat} (hi : i < n.ancs.length) : isIn (pulL n t i) i = true := isIn_iff.2 (by
  unfold pulL atL
  rw [mem_rangeL]
  exact ⟨hi, last_sub (by simp [single])⟩)
theorem drags_pul {n : Net} {t : Tru} (hv : valid n = true) (ht : truB n t = true) (i : Nat) : Part (dragsV n t) (pulL n t i) := by
  rw [dragsV_at hv ht]
  refine part_of fun x hx => ?_
  obtain ⟨k, rfl, hk, hd⟩ := mem_rangeL' hx
  unfold pulL atL
  rw [mem_rangeL]
  exact ⟨hk, last_mono (fun _ h => by cases h) hd⟩
/-- If the anchor drags of itself, no more are pulled than drag. -/
theorem pul_drags {n : Net} {t : Tru} (hv : valid n = true) (ht : truB n t = true) {i : Nat} (h : isIn (dragsV n t) i = true) : (pulL n t i).length = (dragsV n t).length := by
  rw [isIn_iff, dragsV_at hv ht] at h
  unfold atL at h
  rw [mem_rangeL] at h
  rw [dragsV_at hv ht]
  have : pulL n t i = atL n t (fun _ => false) := by
    unfold pulL atL
    refine rangeL_congr fun k _ => ?_
    rw [Bool.eq_iff_iff]
    constructor
    · intro hk
      refine lastB_iff.2 fun S hS hd => lastB_iff.1 hk S hS fun j hj => ?_
      have : j = i := by simpa [single] using hj
      subst this
      exact lastB_iff.1 h.2 S hS hd
    · exact last_mono (fun _ h => by cases h)
  rw [this]
theorem key_max (n : Net) (t : Tru) : ∀ k j, j < k → (pulL n t j).length ≤ (pulL n t (keyTo n t k)).length ∧ ((pulL n t j).length = (pulL n t (keyTo n t k)).length → keyTo n t k ≤ j) := by
  intro k
  induction k with
  | zero => intro j hj; omega
  | succ k ih =>
    intro j hj
    have hs : keyTo n t (k + 1) = if (pulL n t (keyTo n t k)).length < (pulL n t k).length then k else keyTo n t k := rfl
    by_cases hc : (pulL n t (keyTo n t k)).length < (pulL n t k).length
    · rw [if_pos hc] at hs
      rw [hs]
      by_cases hjk : j = k
      · subst hjk; exact ⟨Nat.le_refl _, fun _ => Nat.le_refl _⟩
      · have := (ih j (by omega)).1
        exact ⟨by omega, fun h => by omega⟩
    · rw [if_neg hc] at hs
      rw [hs]
      by_cases hjk : j = k
      · subst hjk
        refine ⟨by omega, fun _ => ?_⟩
        rcases Nat.eq_zero_or_pos j with h0 | h0
        · subst h0; exact Nat.le_refl _
        · exact Nat.le_of_lt (keyTo_lt n t (Nat.le_refl j) h0)
      · exact ih j (by omega)
end An

/-! The plain words of layer 2: the law of each anchor. -/
open Go.RowKit
namespace An

theorem firstV_st {n : Net} {t : Tru} (hv : valid n = true) (ht : truB n t = true) : firstV n t = rangeL n.ancs.length (stepB n t fun _ => false) := by
  unfold firstV
  rw [if_pos (by rw [hv, ht]; rfl)]
  have e : (fun i => (stepM n t 0).testBit i) = stepB n t (fun _ => false) := by
    funext i
    rw [stepM_bit]
    congr 1
    exact funext fun i => Nat.zero_testBit i
  show rangeL 6 (fun i => (stepM n t 0).testBit i) = rangeL n.ancs.length (stepB n t fun _ => false)
  rw [e]
  exact range_six (valid_iff.1 hv).2.2.2.1 (stepB_lt (by intro k hk; cases hk))
theorem first_in {n : Net} {t : Tru} (hv : valid n = true) (ht : truB n t = true) {i : Nat} (hi : i < n.ancs.length) : isIn (firstV n t) i = decide (spare n t i (fun _ => false) < 0) := by
  rw [Bool.eq_iff_iff, isIn_iff, firstV_st hv ht, mem_rangeL, decide_eq_true_eq]
  unfold stepB
  simp [hi]
theorem drags_in {n : Net} {t : Tru} (hv : valid n = true) (ht : truB n t = true) {i : Nat} (hi : i < n.ancs.length) : isIn (dragsV n t) i = dragB n t i := by
  rw [Bool.eq_iff_iff, isIn_iff, dragsV_at hv ht]
  unfold atL
  rw [mem_rangeL]
  exact ⟨fun h => h.2, fun h => ⟨hi, h⟩⟩
theorem first_rises {n : Net} {t : Tru} (hv : valid n = true) (ht : truB n t = true) : Rises (firstV n t) 0 ((n.ancs.length : Int) - 1) := by
  rw [firstV_st hv ht]; exact rangeL_rises _ _
theorem first_part {n : Net} {t : Tru} (hv : valid n = true) (ht : truB n t = true) : Part (firstV n t) (dragsV n t) := by
  rw [firstV_st hv ht, dragsV_at hv ht]
  refine part_of fun x hx => ?_
  obtain ⟨k, rfl, hk, hd⟩ := mem_rangeL' hx
  unfold atL
  rw [mem_rangeL]
  exact ⟨hk, lastB_iff.2 fun S hS _ => hS k (stepB_mono (okTru_of hv ht) (fun _ h => by cases h) hd)⟩
theorem first_nil {n : Net} {t : Tru} (hv : valid n = true) (ht : truB n t = true) : 0 < (firstV n t).length ↔ ¬ calmP n t := by
  constructor
  · intro h hc
    have hm := nth_mem _ h
    generalize nth (firstV n t) 0 = x at hm
    rw [firstV_st hv ht] at hm
    obtain ⟨k, _, hk, hd⟩ := mem_rangeL' hm
    unfold stepB at hd
    simp only [Bool.false_or, Bool.and_eq_true, decide_eq_true_eq] at hd
    have := hc k hk
    omega
  · intro hc
    rcases Nat.eq_zero_or_pos (firstV n t).length with h0 | h0
    · refine absurd (fun i hi => ?_) hc
      have : isIn (firstV n t) i = false := by rw [List.length_eq_zero_iff.1 h0]; simp [isIn]
      rw [first_in hv ht hi, decide_eq_false_iff_not] at this
      omega
    · exact h0
def safeX (n : Net) : Int := onOk (valid n) (knownB (decide (stepM n (worstT n) 0 = 0)) (decide (stepM n (bestT n) 0 = 0)))
theorem safe_cases {n : Net} {t : Tru} (hv : valid n = true) (ht : truB n t = true) :
    (Hid (safeX n = 1) ∧ decide (0 < (firstV n t).length) = false) ∨ Hid (safeX n = 3) ∨ (Hid (safeX n = 2) ∧ ((((firstV n t).length : Int) == 0) = false)) := by
  have h1 := harder_worst ht
  have h2 := harder_best ht
  unfold safeX
  rw [hv]
  by_cases ha : stepM n (worstT n) 0 = 0
  · refine .inl ⟨Lib.hid (by simp [onOk, knownB, ha]), decide_eq_false fun h => (first_nil hv ht).1 h (calmP_mono hv h1 (step0_iff.1 ha))⟩
  · by_cases hb : stepM n (bestT n) 0 = 0
    · exact .inr (.inl (Lib.hid (by simp [onOk, knownB, ha, hb])))
    · exact .inr (.inr ⟨Lib.hid (by simp [onOk, knownB, ha, hb]), by have := (first_nil hv ht).2 fun h => hb (step0_iff.2 (calmP_mono hv h2 h)); rw [beq_eq_false_iff_ne]; omega⟩)
theorem drag_cases {n : Net} {t : Tru} (hv : valid n = true) (ht : truB n t = true) {i : Nat} (hi : i < n.ancs.length) :
    (Hid (dragV n i = 1) ∧ Hid (isIn (dragsV n t) i = true)) ∨ (Hid (dragV n i = 3) ∧ Hid (isIn (dragsV n t) i = true)) ∨ (Hid (dragV n i = 3) ∧ Hid (isIn (dragsV n t) i = false)) ∨ (Hid (dragV n i = 2) ∧ Hid (isIn (dragsV n t) i = false)) := by
  have e : dragV n i = knownB (dragB n (bestT n) i) (dragB n (worstT n) i) := by
    unfold dragV
    rw [hv, show inB 0 ((n.ancs.length : Int) - 1) (i : Int) = true by rw [inB_iff]; omega]
    rfl
  rw [drags_in hv ht hi, e]
  have h1 : dragB n (bestT n) i = true → dragB n t i = true := last_harder hv (harder_best ht)
  have h2 : dragB n t i = true → dragB n (worstT n) i = true := last_harder hv (harder_worst ht)
  unfold Hid knownB
  cases ha : dragB n (bestT n) i <;> cases hb : dragB n t i <;> cases hc : dragB n (worstT n) i <;> simp_all
theorem spareV_lo {n : Net} {t : Tru} (hv : valid n = true) (ht : truB n t = true) {i : Nat} (hi : i < n.ancs.length) :
    (spareV n i).lo ≤ spare n t i (fun _ => false) ∧ spare n t i (fun _ => false) ≤ (spareV n i).hi := by
  have e : spareV n i = ⟨spare n (worstT n) i (fun _ => false), spare n (bestT n) i (fun _ => false)⟩ := by
    unfold spareV
    rw [hv, show inB 0 ((n.ancs.length : Int) - 1) (i : Int) = true by rw [inB_iff]; omega]
    rfl
  rw [e]
  exact ⟨spare_harder hv (harder_worst ht) hi, spare_harder hv (harder_best ht) hi⟩
end An
end Go.Proofs.YtgpcaaknpfopgaaDoor
