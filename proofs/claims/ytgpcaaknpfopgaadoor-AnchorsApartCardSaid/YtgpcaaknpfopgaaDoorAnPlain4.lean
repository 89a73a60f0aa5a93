/- The plain law of Wind and Storm: what the worst and the best truth say of all truths. -/
import Derived.Test.YtgpcaaknpfopgaaDoorAn18
namespace Go.Proofs.YtgpcaaknpfopgaaDoor
namespace An

def calmP (n : Net) (t : Tru) : Prop := ∀ i, i < n.ancs.length → 0 ≤ spare n t i (fun _ => false)

theorem calm_iff {n : Net} {t : Tru} : calm n t = true ↔ calmP n t := by
  unfold calm moreV calmP
  rw [decide_eq_true_eq, List.length_eq_zero_iff]
  constructor
  · intro h i hi
    by_cases hs : 0 ≤ spare n t i (fun _ => false)
    · exact hs
    · exfalso
      have : (i : Int) ∈ rangeL n.ancs.length (stepB n t (inL [])) := by
        rw [mem_rangeL]
        refine ⟨hi, ?_⟩
        have he : inL [] = fun _ => false := by funext k; simp [inL, isIn]
        rw [he]
        unfold stepB
        simp [hi]; omega
      rw [h] at this
      simp at this
  · intro h
    have he : inL [] = fun _ => false := by funext k; simp [inL, isIn]
    rw [he]
    unfold rangeL
    rw [List.map_eq_nil_iff, List.filter_eq_nil_iff]
    intro i hi hs
    have := h i (by simpa using hi)
    unfold stepB at hs
    simp at hs
    omega
theorem step0_iff {n : Net} {t : Tru} : stepM n t 0 = 0 ↔ calmP n t := by
  unfold calmP
  constructor
  · intro h i hi
    have := stepM_bit n t 0 i
    rw [h] at this
    unfold stepB at this
    simp at this
    exact this hi
  · intro h
    apply Nat.eq_of_testBit_eq
    intro i
    rw [stepM_bit]
    unfold stepB
    simp
    exact h i

/-- A truth t' that is harder than t: more wind and current, less grip. -/
def Harder (n : Net) (t t' : Tru) : Prop := t.wind ≤ t'.wind ∧ t.cur ≤ t'.cur ∧ ∀ b, b < n.grips.length → nth t'.grips b ≤ nth t.grips b
theorem ld_harder {n : Net} {t t' : Tru} (hv : valid n = true) (h : Harder n t t') {k : Nat} (hk : k < n.wals.length) : ld n t k ≤ ld n t' k := by
  have hx := okWal_nth hv hk
  simp only [okWal, decide_eq_true_eq] at hx
  have h1 := Int.mul_le_mul_of_nonneg_left h.1 hx.1
  have h2 := Int.mul_le_mul_of_nonneg_left h.2.1 hx.2.2.1
  unfold ld ldW
  omega
theorem side_harder {n : Net} {t t' : Tru} (hv : valid n = true) (h : Harder n t t') {d : Nat → Bool} {k o : Nat} (hk : k < n.wals.length) : side n t d k o ≤ side n t' d k o := by
  have := ld_harder hv h hk
  unfold side; split <;> omega
theorem bears_harder {n : Net} {t t' : Tru} (hv : valid n = true) (h : Harder n t t') {d : Nat → Bool} {i : Nat} (hi : i < n.ancs.length) : bears n t i d ≤ bears n t' i d := by
  have hw := (valid_iff.1 hv).2.2.2.2.1
  unfold bears
  by_cases h1 : 0 < i
  · have a := side_harder hv h (d := d) (k := i - 1) (o := i - 1) (by omega)
    by_cases h2 : i < n.wals.length
    · have b := side_harder hv h (d := d) (k := i) (o := i + 1) h2
      simp only [h1, h2, if_true]; omega
    · simp only [h1, h2, if_true, if_false]; omega
  · by_cases h2 : i < n.wals.length
    · have b := side_harder hv h (d := d) (k := i) (o := i + 1) h2
      simp only [h1, h2, if_true, if_false]; omega
    · simp only [h1, h2, if_false]; omega
theorem can_harder {n : Net} {t t' : Tru} (hv : valid n = true) (h : Harder n t t') {i : Nat} (hi : i < n.ancs.length) : can n t' i ≤ can n t i := by
  have ha := okAnc_nth hv hi
  simp only [okAnc, decide_eq_true_eq] at ha
  have h1 := h.2.2 (nth n.ancs i).bt.toNat (by omega)
  have h2 := Int.mul_le_mul_of_nonneg_left h1 (show 0 ≤ 2 * (nth n.ancs i).wt by omega)
  unfold can
  exact h2
theorem spare_harder {n : Net} {t t' : Tru} (hv : valid n = true) (h : Harder n t t') {d : Nat → Bool} {i : Nat} (hi : i < n.ancs.length) : spare n t' i d ≤ spare n t i d := by
  have := bears_harder hv h (d := d) hi
  have := can_harder hv h hi
  unfold spare
  omega
theorem calmP_mono {n : Net} {t t' : Tru} (hv : valid n = true) (h : Harder n t t') (hc : calmP n t') : calmP n t :=
  fun i hi => Int.le_trans (hc i hi) (spare_harder hv h hi)

theorem worst_tru {n : Net} (hv : valid n = true) : truB n (worstT n) = true := by
  obtain ⟨h1, h2, _, _, _, h6, _, _⟩ := valid_iff.1 hv
  simp only [okSp, decide_eq_true_eq] at h1 h2
  simp only [truB, Bool.and_eq_true, decide_eq_true_eq, inSp, inB_iff, gripsIn, List.all_eq_true, List.mem_range]
  refine ⟨⟨⟨by simp only [worstT]; omega, by simp only [worstT]; omega⟩, by simp [worstT]⟩, fun i hi => ?_⟩
  have hi' : i < n.grips.length := by simpa [worstT] using hi
  have hg := (List.all_eq_true.1 (by unfold okSps at h6; exact h6)) _ (nth_mem n.grips hi')
  simp only [okSp, decide_eq_true_eq] at hg
  simp only [worstT]
  rw [nth_map _ _ hi']
  omega
theorem best_tru {n : Net} (hv : valid n = true) : truB n (bestT n) = true := by
  obtain ⟨h1, h2, _, _, _, h6, _, _⟩ := valid_iff.1 hv
  simp only [okSp, decide_eq_true_eq] at h1 h2
  simp only [truB, Bool.and_eq_true, decide_eq_true_eq, inSp, inB_iff, gripsIn, List.all_eq_true, List.mem_range]
  refine ⟨⟨⟨by simp only [bestT]; omega, by simp only [bestT]; omega⟩, by simp [bestT]⟩, fun i hi => ?_⟩
  have hi' : i < n.grips.length := by simpa [bestT] using hi
  have hg := (List.all_eq_true.1 (by unfold okSps at h6; exact h6)) _ (nth_mem n.grips hi')
  simp only [okSp, decide_eq_true_eq] at hg
  simp only [bestT]
  rw [nth_map _ _ hi']
  omega
theorem harder_worst {n : Net} {t : Tru} (ht : truB n t = true) : Harder n t (worstT n) := by
  simp only [truB, Bool.and_eq_true, decide_eq_true_eq, inSp, inB_iff] at ht
  refine ⟨by simp only [worstT]; omega, by simp only [worstT]; omega, fun b hb => ?_⟩
  have hg := gripsIn_le ht.2 (k := b) (by omega)
  rw [inSp, inB_iff] at hg
  simp only [worstT]
  rw [nth_map _ _ hb]
  omega
theorem harder_best {n : Net} {t : Tru} (ht : truB n t = true) : Harder n (bestT n) t := by
  simp only [truB, Bool.and_eq_true, decide_eq_true_eq, inSp, inB_iff] at ht
  refine ⟨by simp only [bestT]; omega, by simp only [bestT]; omega, fun b hb => ?_⟩
  have hg := gripsIn_le ht.2 (k := b) (by omega)
  rw [inSp, inB_iff] at hg
  simp only [bestT]
  rw [nth_map _ _ hb]
  omega

/-- All truths are calm just if the worst one is; none is just if the best one is not. -/
theorem quiet_all {n : Net} (hv : valid n = true) : (quietN n < (truthsV n).length) ↔ ¬ stepM n (worstT n) 0 = 0 := by
  rw [step0_iff]
  unfold quietN
  constructor
  · intro h hc
    have : (truthsV n).filter (calm n) = truthsV n := by
      rw [List.filter_eq_self]
      intro t ht
      exact calm_iff.2 (calmP_mono hv (harder_worst (mem_truthsV.1 ht)) hc)
    rw [this] at h
    omega
  · intro hc
    have h1 := List.length_filter_le (calm n) (truthsV n)
    rcases Nat.lt_or_eq_of_le h1 with h | h
    · exact h
    · exfalso
      rw [List.length_filter_eq_length_iff] at h
      exact hc (calm_iff.1 (h _ (mem_truthsV.2 (worst_tru hv))))
theorem quiet_none {n : Net} (hv : valid n = true) : quietN n = 0 ↔ ¬ stepM n (bestT n) 0 = 0 := by
  rw [step0_iff]
  unfold quietN
  rw [List.length_eq_zero_iff, List.filter_eq_nil_iff]
  constructor
  · intro h hc
    exact h _ (mem_truthsV.2 (best_tru hv)) (calm_iff.2 hc)
  · intro hc t ht hq
    exact hc (calmP_mono hv (harder_best (mem_truthsV.1 ht)) (calm_iff.1 hq))
theorem hitWR_eq {n : Net} (hv : valid n = true) {x : Nat} (hx : x ≤ 20) : hitWR n x = hitW n x := by
  unfold hitWR hitW
  rw [decide_eq_decide]
  exact quiet_all (valid_inW hv hx)
theorem hitSR_eq {n : Net} (hv : valid n = true) {x : Nat} (hx : x ≤ 20) : hitSR n x = hitS n x := by
  unfold hitSR hitS
  rw [decide_eq_decide]
  exact quiet_none (valid_inW hv hx)

theorem firstHit_congr {f g : Nat → Bool} : ∀ m k, (∀ j, k ≤ j → j < k + m → f j = g j) → firstHit f m k = firstHit g m k
  | 0, _, _ => rfl
  | m + 1, k, h => by
    unfold firstHit
    rw [h k (Nat.le_refl _) (by omega), firstHit_congr m (k + 1) fun j h1 h2 => h j (by omega) (by omega)]
theorem windR_eq {n : Net} (hv : valid n = true) : firstHit (hitWR n) 21 0 = firstHit (hitW n) 21 0 := firstHit_congr _ _ fun j _ h2 => hitWR_eq hv (by omega)
theorem stormR_eq {n : Net} (hv : valid n = true) : firstHit (hitSR n) 21 0 = firstHit (hitS n) 21 0 := firstHit_congr _ _ fun j _ h2 => hitSR_eq hv (by omega)
/-- What the two sides return is the same. -/
theorem wind_same (n : Net) : windV (valid n) (firstHit (hitWR n) 21 0) = windV (valid n) (firstHit (hitW n) 21 0) ∧ windE (valid n) (firstHit (hitWR n) 21 0) = windE (valid n) (firstHit (hitW n) 21 0) := by
  by_cases hv : valid n = true
  · rw [windR_eq hv]; exact ⟨rfl, rfl⟩
  · rw [Bool.not_eq_true] at hv; rw [hv]; exact ⟨rfl, rfl⟩
theorem storm_same (n : Net) : windV (valid n) (firstHit (hitSR n) 21 0) = windV (valid n) (firstHit (hitS n) 21 0) ∧ windE (valid n) (firstHit (hitSR n) 21 0) = windE (valid n) (firstHit (hitS n) 21 0) := by
  by_cases hv : valid n = true
  · rw [stormR_eq hv]; exact ⟨rfl, rfl⟩
  · rw [Bool.not_eq_true] at hv; rw [hv]; exact ⟨rfl, rfl⟩

end An
end Go.Proofs.YtgpcaaknpfopgaaDoor
