/- The plain words of layer 2: lists of those that drag; calmer and harder truths. -/
import Derived.Test.YtgpcaaknpfopgaaDoorAnPlain4
import Derived.Test.YtgpcaaknpfopgaaDoorAn26
namespace Go.Proofs.YtgpcaaknpfopgaaDoor
namespace An

theorem rises_of {xs : List Int} {lo hi : Int} (hp : xs.Pairwise (· < ·)) (hb : ∀ x ∈ xs, lo ≤ x ∧ x ≤ hi) : Rises xs lo hi := by
  intro k hk
  refine ⟨hb _ (nth_mem _ hk), fun h0 => ?_⟩
  rw [nth_get _ hk, nth_get _ (show k - 1 < xs.length by omega)]
  exact List.pairwise_iff_getElem.1 hp _ _ _ _ (by omega)
theorem listB_pw (d : Nat → Bool) : (listB d).Pairwise (· < ·) := by
  unfold listB
  rw [List.pairwise_map]
  refine List.Pairwise.filter _ ?_
  exact List.Pairwise.imp (fun h => by omega) List.pairwise_lt_range
theorem mem_listB {d : Nat → Bool} {x : Int} : x ∈ listB d ↔ ∃ i : Nat, i < 6 ∧ d i = true ∧ x = i := by
  unfold listB
  simp only [List.mem_map, List.mem_filter, List.mem_range]
  constructor
  · rintro ⟨i, ⟨h1, h2⟩, rfl⟩; exact ⟨i, h1, h2, rfl⟩
  · rintro ⟨i, h1, h2, rfl⟩; exact ⟨i, ⟨h1, h2⟩, rfl⟩
theorem isIn_iff {xs : List Int} {x : Int} : isIn xs x = true ↔ x ∈ xs := by simp [isIn]
theorem part_of {xs ys : List Int} (h : ∀ x ∈ xs, x ∈ ys) : Part xs ys := fun _ hk => isIn_iff.2 (h _ (nth_mem _ hk))

theorem lastB_iff {n : Net} {t : Tru} {d : Nat → Bool} {i : Nat} : lastB n t d i = true ↔ lastP n t d i := by simp [lastB]
theorem last_lt {n : Net} {t : Tru} {d : Nat → Bool} (hd : ∀ k, d k = true → k < n.ancs.length) {i : Nat} (h : lastB n t d i = true) : i < n.ancs.length := by
  have := lastB_iff.1 h (fun k => decide (k < n.ancs.length)) (fun k hk => by
    unfold stepB at hk
    simp only [Bool.or_eq_true, Bool.and_eq_true, decide_eq_true_eq] at hk ⊢
    rcases hk with h1 | h1
    · exact h1
    · exact h1.1) (fun k hk => by simpa using hd k hk)
  simpa using this
theorem last_sub {n : Net} {t : Tru} {d : Nat → Bool} {i : Nat} (h : d i = true) : lastB n t d i = true := lastB_iff.2 fun _ _ hs => hs i h
theorem last_closed {n : Net} {t : Tru} (ht : okTru n t) (d : Nat → Bool) {i : Nat} (h : stepB n t (lastB n t d) i = true) : lastB n t d i = true := by
  refine lastB_iff.2 fun S hS hd => hS i (stepB_mono ht (fun k hk => lastB_iff.1 hk S hS hd) h)
theorem last_mono {n : Net} {t : Tru} {d e : Nat → Bool} (h : ∀ k, d k = true → e k = true) {i : Nat} (hi : lastB n t d i = true) : lastB n t e i = true :=
  lastB_iff.2 fun S hS he => lastB_iff.1 hi S hS fun k hk => he k (h k hk)
theorem step_harder {n : Net} {t t' : Tru} (hv : valid n = true) (h : Harder n t t') {d : Nat → Bool} {i : Nat} (hi : stepB n t d i = true) : stepB n t' d i = true := by
  unfold stepB at *
  simp only [Bool.or_eq_true, Bool.and_eq_true, decide_eq_true_eq] at hi ⊢
  rcases hi with h1 | ⟨h1, h2⟩
  · exact .inl h1
  · exact .inr ⟨h1, Int.lt_of_le_of_lt (spare_harder hv h h1) h2⟩
theorem last_harder {n : Net} {t t' : Tru} (hv : valid n = true) (h : Harder n t t') {d : Nat → Bool} {i : Nat} (hi : lastB n t d i = true) : lastB n t' d i = true :=
  lastB_iff.2 fun S hS hd => lastB_iff.1 hi S (fun k hk => hS k (step_harder hv h hk)) hd

/-- Those that drag at last in a truth. -/
noncomputable def dragB (n : Net) (t : Tru) : Nat → Bool := lastB n t fun _ => false
theorem dragsV_eq {n : Net} {t : Tru} (hv : valid n = true) (ht : truB n t = true) : dragsV n t = listB (dragB n t) := by
  unfold dragsV; rw [if_pos (by rw [hv, ht]; rfl)]; rfl
theorem drag_lt {n : Net} {t : Tru} {i : Nat} (h : dragB n t i = true) : i < n.ancs.length := last_lt (fun _ hk => by cases hk) h
theorem drags_rises {n : Net} {t : Tru} (hv : valid n = true) (ht : truB n t = true) : Rises (dragsV n t) 0 ((n.ancs.length : Int) - 1) := by
  rw [dragsV_eq hv ht]
  refine rises_of (listB_pw _) fun x hx => ?_
  obtain ⟨i, _, h2, rfl⟩ := mem_listB.1 hx
  have := drag_lt h2
  omega
theorem drags_part {n : Net} {t t' : Tru} (hv : valid n = true) (ht : truB n t = true) (ht' : truB n t' = true) (h : Harder n t t') : Part (dragsV n t) (dragsV n t') := by
  rw [dragsV_eq hv ht, dragsV_eq hv ht']
  refine part_of fun x hx => ?_
  obtain ⟨i, h1, h2, rfl⟩ := mem_listB.1 hx
  exact mem_listB.2 ⟨i, h1, last_harder hv h h2, rfl⟩
theorem drag_calm {n : Net} {t : Tru} (h : calmP n t) (i : Nat) : dragB n t i = false := by
  rw [← Bool.not_eq_true]
  intro hd
  have := lastB_iff.1 hd (fun _ => false) (fun k hk => by
    unfold stepB at hk
    simp only [Bool.false_or, Bool.and_eq_true, decide_eq_true_eq] at hk
    have := h k hk.1
    omega) (fun _ hk => by cases hk)
  cases this
theorem drag_first {n : Net} {t : Tru} (ht : okTru n t) {i : Nat} (hi : i < n.ancs.length) (h : spare n t i (fun _ => false) < 0) : dragB n t i = true :=
  last_closed ht _ (stepB_mono ht (d := fun _ => false) (fun k hk => by cases hk) (by unfold stepB; simp [hi, h]))
theorem drags_nil {n : Net} {t : Tru} (hv : valid n = true) (ht : truB n t = true) : dragsV n t = [] ↔ calmP n t := by
  rw [dragsV_eq hv ht]
  constructor
  · intro h i hi
    by_cases hs : 0 ≤ spare n t i (fun _ => false)
    · exact hs
    · exfalso
      have h6 := (valid_iff.1 hv).2.2.2.1
      have : (i : Int) ∈ listB (dragB n t) := mem_listB.2 ⟨i, by omega, drag_first (okTru_of hv ht) hi (by omega), rfl⟩
      rw [h] at this
      simp at this
  · intro h
    apply List.eq_nil_iff_forall_not_mem.2
    intro x hx
    obtain ⟨i, _, h2, _⟩ := mem_listB.1 hx
    rw [drag_calm h] at h2
    cases h2

/-! ### The calmer day -/
/-- A truth in the wind of another net of the same kind. -/
theorem hitW_iff {n : Net} {x : Nat} : hitW n x = true ↔ ¬ calmP (inW n x) (worstT (inW n x)) := by unfold hitW; rw [decide_eq_true_eq, Ne, step0_iff]
theorem hitS_iff {n : Net} {x : Nat} : hitS n x = true ↔ ¬ calmP (inW n x) (bestT (inW n x)) := by unfold hitS; rw [decide_eq_true_eq, Ne, step0_iff]
theorem spare_inW (n : Net) (x : Int) (t : Tru) (i : Nat) (d : Nat → Bool) : spare (inW n x) t i d = spare n t i d := rfl
theorem calm_inW (n : Net) (x : Int) (t : Tru) : calmP (inW n x) t ↔ calmP n t := Iff.rfl
theorem harder_ww {n : Net} (_hv : valid n = true) {x y : Int} (h : x ≤ y) : Harder n (worstT (inW n x)) (worstT (inW n y)) := ⟨h, Int.le_refl _, fun _ _ => Int.le_refl _⟩
theorem harder_bw {n : Net} (hv : valid n = true) (x : Int) : Harder n (bestT (inW n x)) (worstT (inW n x)) := by
  obtain ⟨h1, h2, _, _, _, h6, _, _⟩ := valid_iff.1 hv
  simp only [okSp, decide_eq_true_eq] at h1 h2
  refine ⟨Int.le_refl _, by simp only [bestT, worstT, inW]; omega, fun b hb => ?_⟩
  have hg := (List.all_eq_true.1 (by unfold okSps at h6; exact h6)) _ (nth_mem n.grips hb)
  simp only [okSp, decide_eq_true_eq] at hg
  simp only [bestT, worstT, inW]
  rw [nth_map _ _ hb, nth_map _ _ hb]
  omega
/-- A truth of a net is between the best and the worst one in a wind that is below, or above, its own. -/
theorem harder_to {n : Net} {t : Tru} (ht : truB n t = true) {x : Int} (h : t.wind ≤ x) : Harder n t (worstT (inW n x)) := by
  simp only [truB, Bool.and_eq_true, decide_eq_true_eq, inSp, inB_iff] at ht
  refine ⟨h, by simp only [worstT, inW]; omega, fun b hb => ?_⟩
  have hg := gripsIn_le ht.2 (k := b) (by omega)
  rw [inSp, inB_iff] at hg
  simp only [worstT, inW]
  rw [nth_map _ _ hb]
  omega
theorem harder_from {n : Net} {t : Tru} (ht : truB n t = true) {x : Int} (h : x ≤ t.wind) : Harder n (bestT (inW n x)) t := by
  simp only [truB, Bool.and_eq_true, decide_eq_true_eq, inSp, inB_iff] at ht
  refine ⟨h, by simp only [bestT, inW]; omega, fun b hb => ?_⟩
  have hg := gripsIn_le ht.2 (k := b) (by omega)
  rw [inSp, inB_iff] at hg
  simp only [bestT, inW]
  rw [nth_map _ _ hb]
  omega
theorem hitS_W {n : Net} (hv : valid n = true) {x : Nat} (h : hitS n x = true) : hitW n x = true := by
  rw [hitW_iff]
  rw [hitS_iff] at h
  exact fun hc => h ((calm_inW _ _ _).2 (calmP_mono hv (harder_bw hv x) ((calm_inW _ _ _).1 hc)))
/-- The least wind in which something may drag, and in which something must; 21: there is none. -/
def wN (n : Net) : Nat := firstHit (hitW n) 21 0
def sN (n : Net) : Nat := firstHit (hitS n) 21 0
theorem wN_le (n : Net) : wN n ≤ 21 := firstHit_le _ _
theorem sN_le (n : Net) : sN n ≤ 21 := firstHit_le _ _
theorem wN_sN {n : Net} (hv : valid n = true) : wN n ≤ sN n := by
  obtain ⟨_, b, _, d⟩ := firstHit_spec (hitS n) 21 0
  obtain ⟨_, b', c', _⟩ := firstHit_spec (hitW n) 21 0
  unfold wN sN
  rcases Nat.lt_or_ge (firstHit (hitS n) 21 0) (firstHit (hitW n) 21 0) with h | h
  · have h1 := hitS_W hv (d (by omega))
    rw [c' _ (Nat.zero_le _) h] at h1
    cases h1
  · exact h
/-- In a wind that is less than Wind nothing drags. -/
theorem calm_below {n : Net} (hv : valid n = true) {t : Tru} (ht : truB n t = true) (h : t.wind < wN n) : calmP n t := by
  have ht' := ht
  simp only [truB, Bool.and_eq_true, decide_eq_true_eq, inSp, inB_iff] at ht'
  obtain ⟨h1, _⟩ := valid_iff.1 hv
  simp only [okSp, decide_eq_true_eq] at h1
  obtain ⟨k, hk⟩ := Int.eq_ofNat_of_zero_le (show 0 ≤ t.wind by omega)
  obtain ⟨_, _, c, _⟩ := firstHit_spec (hitW n) 21 0
  have := c k (Nat.zero_le _) (by unfold wN at h; omega)
  rw [← Bool.not_eq_true, hitW_iff] at this
  have hc : calmP (inW n k) (worstT (inW n k)) := Classical.not_not.1 this
  exact calmP_mono hv (harder_to ht (show t.wind ≤ (k : Int) by omega)) hc
/-- In a wind that is at least Storm something does. -/
theorem drag_above {n : Net} (hv : valid n = true) {t : Tru} (ht : truB n t = true) (hs : sN n < 21) (h : (sN n : Int) ≤ t.wind) : ¬ calmP n t := by
  obtain ⟨_, _, _, d⟩ := firstHit_spec (hitS n) 21 0
  have := d (by unfold sN at hs; omega)
  rw [hitS_iff] at this
  intro hc
  exact this ((calm_inW _ _ _).2 (calmP_mono hv (harder_from ht h) hc))
end An
end Go.Proofs.YtgpcaaknpfopgaaDoor
