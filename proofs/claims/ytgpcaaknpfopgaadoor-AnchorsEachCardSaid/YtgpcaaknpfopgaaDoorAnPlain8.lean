/- The plain words of layer 2: laws of what is pulled, and of the key. -/
import Derived.Test.YtgpcaaknpfopgaaDoorAnPlain7
namespace Go.Proofs.YtgpcaaknpfopgaaDoor
namespace An

theorem rangeL_pw (m : Nat) (d : Nat → Bool) : (rangeL m d).Pairwise (· < ·) := by
  unfold rangeL
  rw [List.pairwise_map]
  refine List.Pairwise.filter _ ?_
  exact List.Pairwise.imp (fun h => by omega) List.pairwise_lt_range
theorem mem_rangeL' {m : Nat} {d : Nat → Bool} {x : Int} (h : x ∈ rangeL m d) : ∃ k : Nat, x = k ∧ k < m ∧ d k = true := by
  have h' := h
  unfold rangeL at h
  simp only [List.mem_map] at h
  obtain ⟨k, _, rfl⟩ := h
  exact ⟨k, rfl, mem_rangeL.1 h'⟩
theorem rangeL_rises (m : Nat) (d : Nat → Bool) : Rises (rangeL m d) 0 ((m : Int) - 1) := by
  refine rises_of (rangeL_pw _ _) fun x hx => ?_
  obtain ⟨k, rfl, hk, _⟩ := mem_rangeL' hx
  omega
theorem pul_in {n : Net} {t : Tru} {i : Nat} (hi : i < n.ancs.length) : isIn (pulL n t i) i = true := isIn_iff.2 (by
  unfold pulL atL
  rw [mem_rangeL]
  exact ⟨hi, last_sub (by simp [single])⟩)
theorem drags_pul {n : Net} {t : Tru} (hv : valid n = true) (ht : truB n t = true) (i : Nat) : Part (dragsV n t) (pulL n t i) := by
  rw [dragsV_at hv ht]
  refine part_of fun x hx => ?_
  obtain ⟨k, rfl, hk, hd⟩ := mem_rangeL' hx
  unfold pulL atL
  rw [mem_rangeL]
  exact ⟨hk, last_mono (fun _ h => by cases h) hd⟩
/-- If the anchor drags of itself, no more are pulled than drag. -/
theorem pul_drags {n : Net} {t : Tru} (hv : valid n = true) (ht : truB n t = true) {i : Nat} (h : isIn (dragsV n t) i = true) : (pulL n t i).length = (dragsV n t).length := by
  rw [isIn_iff, dragsV_at hv ht] at h
  unfold atL at h
  rw [mem_rangeL] at h
  rw [dragsV_at hv ht]
  have : pulL n t i = atL n t (fun _ => false) := by
    unfold pulL atL
    refine rangeL_congr fun k _ => ?_
    rw [Bool.eq_iff_iff]
    constructor
    · intro hk
      refine lastB_iff.2 fun S hS hd => lastB_iff.1 hk S hS fun j hj => ?_
      have : j = i := by simpa [single] using hj
      subst this
      exact lastB_iff.1 h.2 S hS hd
    · exact last_mono (fun _ h => by cases h)
  rw [this]
theorem key_max (n : Net) (t : Tru) : ∀ k j, j < k → (pulL n t j).length ≤ (pulL n t (keyTo n t k)).length ∧ ((pulL n t j).length = (pulL n t (keyTo n t k)).length → keyTo n t k ≤ j) := by
  intro k
  induction k with
  | zero => intro j hj; omega
  | succ k ih =>
    intro j hj
    have hs : keyTo n t (k + 1) = if (pulL n t (keyTo n t k)).length < (pulL n t k).length then k else keyTo n t k := rfl
    by_cases hc : (pulL n t (keyTo n t k)).length < (pulL n t k).length
    · rw [if_pos hc] at hs
      rw [hs]
      by_cases hjk : j = k
      · subst hjk; exact ⟨Nat.le_refl _, fun _ => Nat.le_refl _⟩
      · have := (ih j (by omega)).1
        exact ⟨by omega, fun h => by omega⟩
    · rw [if_neg hc] at hs
      rw [hs]
      by_cases hjk : j = k
      · subst hjk
        refine ⟨by omega, fun _ => ?_⟩
        rcases Nat.eq_zero_or_pos j with h0 | h0
        · subst h0; exact Nat.le_refl _
        · exact Nat.le_of_lt (keyTo_lt n t (Nat.le_refl j) h0)
      · exact ih j (by omega)
end An
end Go.Proofs.YtgpcaaknpfopgaaDoor
