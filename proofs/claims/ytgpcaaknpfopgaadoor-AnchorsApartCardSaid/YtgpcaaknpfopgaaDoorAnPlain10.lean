/- The plain words of layer 2: a net in which an anchor is heavier. -/
import Derived.Test.YtgpcaaknpfopgaaDoorAnPlain7
namespace Go.Proofs.YtgpcaaknpfopgaaDoor
open Go.RowKit
namespace An

/-- The net in which anchor i is heavier by x. -/
def heav (n : Net) (i : Nat) (x : Int) : Net := setA n (n.ancs.set i (heavA (nth n.ancs i) x))
theorem heav_len (n : Net) (i : Nat) (x : Int) : (heav n i x).ancs.length = n.ancs.length := List.length_set
theorem heav_nth (n : Net) (i : Nat) (x : Int) {j : Nat} (hj : j < n.ancs.length) : nth (heav n i x).ancs j = if i = j then heavA (nth n.ancs i) x else nth n.ancs j := nth_set _ _ _ hj
theorem heav_valid {n : Net} (hv : valid n = true) {i : Nat} {x : Int} (hi : i < n.ancs.length) (h0 : 0 ≤ (nth n.ancs i).wt + x) (h1 : (nth n.ancs i).wt + x ≤ 20) : valid (heav n i x) = true := by
  have hv0 := hv
  rw [valid_iff] at hv ⊢
  obtain ⟨a1, a2, a3, a4, a5, a6, a7, a8⟩ := hv
  refine ⟨a1, a2, a3, by rw [heav_len]; exact a4, by rw [heav_len]; exact a5, a6, ?_, a8⟩
  show okAncl n.grips.length (heav n i x).ancs = true
  unfold okAncl
  rw [List.all_eq_true]
  intro y hy
  obtain ⟨j, hj, rfl⟩ := List.getElem_of_mem hy
  have hj' : j < n.ancs.length := by rwa [heav_len] at hj
  rw [← nth_get _ hj, heav_nth _ _ _ hj']
  have ha := okAnc_nth hv0 hj'
  by_cases hij : i = j
  · subst hij
    rw [if_pos rfl]
    simp only [okAnc, decide_eq_true_eq] at ha
    refine decide_eq_true ?_
    show 0 ≤ (nth n.ancs i).wt + x ∧ (nth n.ancs i).wt + x ≤ 20 ∧ 0 ≤ (nth n.ancs i).bt ∧ (nth n.ancs i).bt < (n.grips.length : Int)
    exact ⟨h0, h1, ha.2.2.1, ha.2.2.2⟩
  · rw [if_neg hij]; exact ha
theorem can_heav {n : Net} {t : Tru} (ht : okTru n t) {i : Nat} {x : Int} (hx : 0 ≤ x) {j : Nat} (hj : j < n.ancs.length) : can n t j ≤ can (heav n i x) t j := by
  unfold can
  rw [heav_nth _ _ _ hj]
  by_cases hij : i = j
  · subst hij
    rw [if_pos rfl]
    simp only [heavA]
    have ha := okAnc_nth ht.1 hj
    simp only [okAnc, decide_eq_true_eq] at ha
    have hg := ht.2.2.2.2 _ (nth_mem t.grips (show (nth n.ancs i).bt.toNat < t.grips.length by rw [ht.2.2.2.1]; omega))
    rw [inB_iff] at hg
    exact Int.mul_le_mul_of_nonneg_right (by omega) hg.1
  · rw [if_neg hij]; exact Int.le_refl _
theorem spare_heav {n : Net} {t : Tru} (ht : okTru n t) {i : Nat} {x : Int} (hx : 0 ≤ x) {j : Nat} (hj : j < n.ancs.length) (d : Nat → Bool) : spare n t j d ≤ spare (heav n i x) t j d := by
  have h1 := can_heav (i := i) ht hx hj
  have h2 : bears (heav n i x) t j d = bears n t j d := rfl
  unfold spare
  rw [h2]
  omega
theorem step_heav {n : Net} {t : Tru} (ht : okTru n t) {i : Nat} {x : Int} (hx : 0 ≤ x) {d : Nat → Bool} {j : Nat} (h : stepB (heav n i x) t d j = true) : stepB n t d j = true := by
  unfold stepB at *
  simp only [Bool.or_eq_true, Bool.and_eq_true, decide_eq_true_eq] at h ⊢
  rcases h with h1 | ⟨h1, h2⟩
  · exact .inl h1
  · rw [heav_len] at h1
    exact .inr ⟨h1, Int.lt_of_le_of_lt (spare_heav ht hx h1 d) h2⟩
theorem last_heav {n : Net} {t : Tru} (ht : okTru n t) {i : Nat} {x : Int} (hx : 0 ≤ x) {d : Nat → Bool} {j : Nat} (h : lastB (heav n i x) t d j = true) : lastB n t d j = true :=
  lastB_iff.2 fun S hS hd => lastB_iff.1 h S (fun k hk => hS k (step_heav ht hx hk)) hd
theorem drags_heav {n : Net} {t : Tru} (hv : valid n = true) (ht : truB n t = true) {i : Nat} {x : Int} (hv' : valid (heav n i x) = true) (hx : 0 ≤ x) : Part (dragsV (heav n i x) t) (dragsV n t) := by
  rw [dragsV_eq hv' (show truB (heav n i x) t = true from ht), dragsV_eq hv ht]
  refine part_of fun y hy => ?_
  obtain ⟨j, h1, h2, rfl⟩ := mem_listB.1 hy
  exact mem_listB.2 ⟨j, h1, last_heav (okTru_of hv ht) hx h2, rfl⟩
theorem calm_heav {n : Net} {t : Tru} (ht : okTru n t) {i : Nat} {x : Int} (hx : 0 ≤ x) (h : calmP n t) : calmP (heav n i x) t := by
  intro j hj
  rw [heav_len] at hj
  exact Int.le_trans (h j hj) (spare_heav ht hx hj _)
theorem firstHit_mono {f g : Nat → Bool} (m : Nat) (h : ∀ k, k < m → g k = true → f k = true) : firstHit f m 0 ≤ firstHit g m 0 := by
  obtain ⟨_, b, c, _⟩ := firstHit_spec f m 0
  obtain ⟨_, b', _, d'⟩ := firstHit_spec g m 0
  rcases Nat.lt_or_ge (firstHit g m 0) (firstHit f m 0) with hlt | hge
  · have h1 := h _ (by omega) (d' (by omega))
    rw [c _ (Nat.zero_le _) hlt] at h1
    cases h1
  · exact hge
theorem hitW_heav {n : Net} (hv : valid n = true) {i : Nat} {x : Int} (hx : 0 ≤ x) {k : Nat} (hk : k < 21) (h : hitW (heav n i x) k = true) : hitW n k = true :=
  hitW_iff.2 fun hc => hitW_iff.1 h (show calmP (heav (inW n k) i x) (worstT (inW n k)) from calm_heav (okTru_worst (valid_inW hv (show k ≤ 20 by omega))) hx hc)
theorem hitS_heav {n : Net} (hv : valid n = true) {i : Nat} {x : Int} (hx : 0 ≤ x) {k : Nat} (hk : k < 21) (h : hitS (heav n i x) k = true) : hitS n k = true :=
  hitS_iff.2 fun hc => hitS_iff.1 h (show calmP (heav (inW n k) i x) (bestT (inW n k)) from calm_heav (okTru_best (valid_inW hv (show k ≤ 20 by omega))) hx hc)
theorem wN_heav {n : Net} (hv : valid n = true) {i : Nat} {x : Int} (hx : 0 ≤ x) : wN n ≤ wN (heav n i x) := firstHit_mono 21 fun _ hk h => hitW_heav hv hx hk h
theorem sN_heav {n : Net} (hv : valid n = true) {i : Nat} {x : Int} (hx : 0 ≤ x) : sN n ≤ sN (heav n i x) := firstHit_mono 21 fun _ hk h => hitS_heav hv hx hk h
theorem drag_heav {n : Net} (hv : valid n = true) {i : Nat} {x : Int} (hv' : valid (heav n i x) = true) (hx : 0 ≤ x) {j : Nat} (hj : j < n.ancs.length) :
    (dragV (heav n i x) j = 1 → dragV n j = 1) ∧ (dragV n j = 2 → dragV (heav n i x) j = 2) := by
  have e : ∀ m : Net, valid m = true → m.ancs.length = n.ancs.length → dragV m j = knownB (dragB m (bestT m) j) (dragB m (worstT m) j) := by
    intro m hm hl
    unfold dragV
    rw [hm, show inB 0 ((m.ancs.length : Int) - 1) (j : Int) = true by rw [inB_iff]; omega]
    rfl
  rw [e n hv rfl, e _ hv' (heav_len _ _ _)]
  have h1 : dragB (heav n i x) (bestT n) j = true → dragB n (bestT n) j = true := last_heav (okTru_best hv) hx
  have h2 : dragB (heav n i x) (worstT n) j = true → dragB n (worstT n) j = true := last_heav (okTru_worst hv) hx
  show (knownB (dragB (heav n i x) (bestT n) j) (dragB (heav n i x) (worstT n) j) = 1 → _) ∧ (_ → knownB (dragB (heav n i x) (bestT n) j) (dragB (heav n i x) (worstT n) j) = 2)
  unfold knownB
  cases ha : dragB (heav n i x) (bestT n) j <;> cases hb : dragB n (bestT n) j <;> cases hc : dragB (heav n i x) (worstT n) j <;> cases hd : dragB n (worstT n) j <;> simp_all
end An
end Go.Proofs.YtgpcaaknpfopgaaDoor
