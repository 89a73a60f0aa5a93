/- The plain words of layer 2: sets of anchors as ascending lists. -/
import Derived.Test.YtgpcaaknpfopgaaDoorAnPlain2
namespace Go.Proofs.YtgpcaaknpfopgaaDoor
namespace An

/-- All numbers below m of a set, as a list. -/
def rangeL (m : Nat) (d : Nat → Bool) : List Int := ((List.range m).filter d).map fun (i : Nat) => (i : Int)
theorem rangeL_zero (d : Nat → Bool) : rangeL 0 d = [] := rfl
theorem rangeL_succ (m : Nat) (d : Nat → Bool) : rangeL (m + 1) d = rangeL m d ++ (if d m = true then [(m : Int)] else []) := by
  unfold rangeL
  rw [List.range_succ, List.filter_append, List.map_append]
  congr 1
  by_cases h : d m = true <;> simp [h]
theorem mem_rangeL {m : Nat} {d : Nat → Bool} {k : Nat} : (k : Int) ∈ rangeL m d ↔ k < m ∧ d k = true := by
  unfold rangeL
  simp only [List.mem_map, List.mem_filter, List.mem_range]
  constructor
  · rintro ⟨j, h, hj⟩
    have : j = k := by omega
    rwa [← this]
  · intro h; exact ⟨k, h, rfl⟩
theorem rangeL_len (m : Nat) (d : Nat → Bool) : (rangeL m d).length ≤ m := by
  unfold rangeL
  rw [List.length_map]
  have := List.length_filter_le d (List.range m)
  simpa using this
theorem rangeL_congr {m : Nat} {d e : Nat → Bool} (h : ∀ k, k < m → d k = e k) : rangeL m d = rangeL m e := by
  unfold rangeL
  rw [List.filter_congr (fun k hk => h k (by simpa using hk))]
theorem rangeL_mono {m : Nat} {d e : Nat → Bool} (h : ∀ k, k < m → d k = true → e k = true) : (rangeL m d).length ≤ (rangeL m e).length ∧ ((rangeL m d).length = (rangeL m e).length → ∀ k, k < m → d k = e k) := by
  induction m with
  | zero => exact ⟨by simp [rangeL], fun _ k hk => by omega⟩
  | succ m ih =>
    obtain ⟨i1, i2⟩ := ih (fun k hk => h k (by omega))
    rw [rangeL_succ, rangeL_succ, List.length_append, List.length_append]
    have hm := h m (by omega)
    by_cases hd : d m = true
    · rw [if_pos hd, if_pos (hm hd)]
      refine ⟨by simpa using i1, fun he k hk => ?_⟩
      by_cases hkm : k = m
      · subst hkm; rw [hd, hm hd]
      · exact i2 (by simpa using he) k (by omega)
    · rw [if_neg hd]
      by_cases he : e m = true
      · rw [if_pos he]
        refine ⟨by simp; omega, fun hq => ?_⟩
        simp at hq; omega
      · rw [if_neg he]
        refine ⟨by simpa using i1, fun hq k hk => ?_⟩
        by_cases hkm : k = m
        · subst hkm; rw [Bool.not_eq_true] at hd he; rw [hd, he]
        · exact i2 (by simpa using hq) k (by omega)

theorem lastP_step {n : Net} {t : Tru} (ht : okTru n t) (d : Nat → Bool) (i : Nat) : lastP n t (stepB n t d) i ↔ lastP n t d i := by
  constructor
  · intro h S hS hd
    exact h S hS fun k hk => hS k (stepB_mono ht hd hk)
  · intro h S hS hd
    exact h S hS fun k hk => hd k (by unfold stepB; rw [hk]; rfl)
theorem lastP_fix {n : Net} {t : Tru} {d : Nat → Bool} (h : ∀ i, stepB n t d i = d i) (i : Nat) : lastP n t d i ↔ d i = true :=
  ⟨fun hl => hl d (fun k hk => by rw [h] at hk; exact hk) fun _ hk => hk, fun hd _ _ hs => hs i hd⟩

theorem bears_congr {n : Net} {t : Tru} {d e : Nat → Bool} (hw : n.wals.length = n.ancs.length - 1) (h : ∀ k, k < n.ancs.length → d k = e k) {i : Nat} (hi : i < n.ancs.length) : bears n t i d = bears n t i e := by
  unfold bears side
  congr 1
  · by_cases h0 : 0 < i
    · rw [if_pos h0, if_pos h0, h (i - 1) (by omega)]
    · rw [if_neg h0, if_neg h0]
  · by_cases h0 : i < n.wals.length
    · rw [if_pos h0, if_pos h0, h (i + 1) (by omega)]
    · rw [if_neg h0, if_neg h0]
theorem stepB_congr {n : Net} {t : Tru} {d e : Nat → Bool} (hw : n.wals.length = n.ancs.length - 1) (h : ∀ k, k < n.ancs.length → d k = e k) {i : Nat} (hi : i < n.ancs.length) : stepB n t d i = stepB n t e i := by
  unfold stepB spare
  rw [h i hi, bears_congr hw h hi]

end An
end Go.Proofs.YtgpcaaknpfopgaaDoor
