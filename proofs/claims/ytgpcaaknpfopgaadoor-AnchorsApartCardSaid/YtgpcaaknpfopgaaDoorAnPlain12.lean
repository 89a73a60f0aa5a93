/- The plain words of layer 2: the net backwards. -/
import Derived.Test.YtgpcaaknpfopgaaDoorAnPlain11
namespace Go.Proofs.YtgpcaaknpfopgaaDoor
open Go.RowKit
namespace An

theorem nth_rev {α : Type} [Inhabited α] (xs : List α) {k : Nat} (h : k < xs.length) : nth xs.reverse k = nth xs (xs.length - 1 - k) := by
  rw [nth_get _ (by simpa using h), nth_get _ (by omega), List.getElem_reverse]
/-- The net backwards. -/
def turnN (n : Net) : Net := ⟨n.wind, n.cur, n.grips, n.ancs.reverse, n.wals.reverse⟩
theorem turn_turn (n : Net) : turnN (turnN n) = n := by unfold turnN; simp
theorem turn_len (n : Net) : (turnN n).ancs.length = n.ancs.length := List.length_reverse
theorem turn_wlen (n : Net) : (turnN n).wals.length = n.wals.length := List.length_reverse
theorem turn_valid {n : Net} (hv : valid n = true) : valid (turnN n) = true := by
  rw [valid_iff] at hv ⊢
  obtain ⟨a1, a2, a3, a4, a5, a6, a7, a8⟩ := hv
  refine ⟨a1, a2, a3, by rw [turn_len]; exact a4, by rw [turn_len, turn_wlen]; exact a5, a6, ?_, ?_⟩
  · show okAncl n.grips.length n.ancs.reverse = true
    unfold okAncl at *
    rw [List.all_reverse]; exact a7
  · show okWall n.wals.reverse = true
    unfold okWall at *
    rw [List.all_reverse]; exact a8
def mir (m : Nat) (d : Nat → Bool) (k : Nat) : Bool := decide (k < m) && d (m - 1 - k)
theorem mir_at {m k : Nat} (d : Nat → Bool) (h : k < m) : mir m d k = d (m - 1 - k) := by simp [mir, h]
theorem mir_false (m : Nat) : mir m (fun _ => false) = fun _ => false := by funext k; simp [mir]
theorem wals_len {n : Net} (hv : valid n = true) : n.wals.length = n.ancs.length - 1 := (valid_iff.1 hv).2.2.2.2.1
theorem ld_turn {n : Net} (t : Tru) {k : Nat} (hk : k < n.wals.length) : ld (turnN n) t k = ld n t (n.wals.length - 1 - k) := by
  unfold ld
  rw [show nth (turnN n).wals k = nth n.wals (n.wals.length - 1 - k) from nth_rev _ hk]
theorem bears_turn {n : Net} (hv : valid n = true) (t : Tru) (d : Nat → Bool) {i : Nat} (hi : i < n.ancs.length) : bears (turnN n) t i (mir n.ancs.length d) = bears n t (n.ancs.length - 1 - i) d := by
  have hw := wals_len hv
  unfold bears
  rw [turn_wlen, Int.add_comm]
  congr 1
  · by_cases h : i < n.wals.length
    · rw [if_pos h, if_pos (by omega)]
      unfold side
      rw [ld_turn t h, mir_at d (by omega)]
      rw [show n.wals.length - 1 - i = n.ancs.length - 1 - i - 1 by omega, show n.ancs.length - 1 - (i + 1) = n.ancs.length - 1 - i - 1 by omega]
    · rw [if_neg h, if_neg (by omega)]
  · by_cases h : 0 < i
    · rw [if_pos (by omega), if_pos (by omega)]
      unfold side
      rw [ld_turn t (by omega), mir_at d (by omega)]
      rw [show n.wals.length - 1 - (i - 1) = n.ancs.length - 1 - i by omega, show n.ancs.length - 1 - (i - 1) = n.ancs.length - 1 - i + 1 by omega]
    · rw [if_neg (by omega), if_neg (by omega)]
theorem can_turn {n : Net} (t : Tru) {i : Nat} (hi : i < n.ancs.length) : can (turnN n) t i = can n t (n.ancs.length - 1 - i) := by
  unfold can
  rw [show nth (turnN n).ancs i = nth n.ancs (n.ancs.length - 1 - i) from nth_rev _ hi]
theorem spare_turn {n : Net} (hv : valid n = true) (t : Tru) (d : Nat → Bool) {i : Nat} (hi : i < n.ancs.length) : spare (turnN n) t i (mir n.ancs.length d) = spare n t (n.ancs.length - 1 - i) d := by
  unfold spare
  rw [can_turn t hi, bears_turn hv t d hi]
theorem spare_turn0 {n : Net} (hv : valid n = true) (t : Tru) {i : Nat} (hi : i < n.ancs.length) : spare (turnN n) t i (fun _ => false) = spare n t (n.ancs.length - 1 - i) (fun _ => false) := by
  have := spare_turn hv t (fun _ => false) hi
  rwa [mir_false] at this
theorem closed_turn {n : Net} (hv : valid n = true) {t : Tru} {S : Nat → Bool} (h : Closed n t S) : Closed (turnN n) t (mir n.ancs.length S) := by
  intro i hi
  unfold stepB at hi
  simp only [Bool.or_eq_true, Bool.and_eq_true, decide_eq_true_eq] at hi
  rcases hi with h1 | ⟨h1, h2⟩
  · exact h1
  · rw [turn_len] at h1
    rw [spare_turn hv t S h1] at h2
    rw [mir_at S h1]
    refine h _ ?_
    unfold stepB
    simp only [Bool.or_eq_true, Bool.and_eq_true, decide_eq_true_eq]
    exact .inr ⟨by omega, h2⟩
theorem drag_turn1 {n : Net} (hv : valid n = true) (t : Tru) {i : Nat} (hi : i < n.ancs.length) (h : dragB (turnN n) t i = true) : dragB n t (n.ancs.length - 1 - i) = true :=
  lastB_iff.2 fun S hS _ => by
    have := lastB_iff.1 h _ (closed_turn hv hS) (fun _ hk => by cases hk)
    rwa [mir_at S hi] at this
theorem drag_turn {n : Net} (hv : valid n = true) (t : Tru) {i : Nat} (hi : i < n.ancs.length) : dragB (turnN n) t i = dragB n t (n.ancs.length - 1 - i) := by
  rw [Bool.eq_iff_iff]
  constructor
  · exact drag_turn1 hv t hi
  · intro h
    have := drag_turn1 (n := turnN n) (turn_valid hv) t (i := n.ancs.length - 1 - i) (by rw [turn_len]; omega) (by rw [turn_turn]; exact h)
    rw [turn_len] at this
    rwa [show n.ancs.length - 1 - (n.ancs.length - 1 - i) = i by omega] at this
/-- A list is another one, each number counted from the last of m, from its end. -/
def Mir (m : Nat) (xs ys : List Int) : Prop := xs.length = ys.length ∧ ∀ i, i < xs.length → nth xs i = (m : Int) - 1 - nth ys (ys.length - 1 - i)
theorem rev_range (m : Nat) : (List.range m).reverse = (List.range m).map fun k => m - 1 - k := by
  refine List.ext_getElem (by simp) fun i h1 h2 => ?_
  rw [List.getElem_reverse, List.getElem_map, List.getElem_range, List.getElem_range, List.length_range]
theorem rangeL_mir (m : Nat) (d : Nat → Bool) : rangeL m (mir m d) = ((rangeL m d).map fun x => (m : Int) - 1 - x).reverse := by
  have h1 : (List.range m).filter (mir m d) = (List.range m).filter (d ∘ fun k => m - 1 - k) := List.filter_congr fun k hk => by rw [List.mem_range] at hk; rw [mir_at d hk]; rfl
  have h2 : ((List.range m).filter (d ∘ fun k => m - 1 - k)).map (fun k => m - 1 - k) = ((List.range m).filter d).reverse := by
    rw [← List.filter_map, ← List.filter_reverse, rev_range]
  unfold rangeL
  rw [h1, List.map_map, ← List.map_reverse, ← h2, List.map_map]
  refine List.map_congr_left fun k hk => ?_
  have : k < m := by have := (List.mem_filter.1 hk).1; rwa [List.mem_range] at this
  simp only [Function.comp_apply]
  omega
theorem nth_rmap (m : Nat) (xs : List Int) {i : Nat} (hi : i < xs.length) : nth (xs.map fun x => (m : Int) - 1 - x).reverse i = (m : Int) - 1 - nth xs (xs.length - 1 - i) := by
  rw [nth_rev _ (by simpa using hi), nth_map _ _ (by simp; omega)]
  simp
theorem drags_mir {n : Net} (hv : valid n = true) {t : Tru} (ht : truB n t = true) : Mir n.ancs.length (dragsV n t) (dragsV (turnN n) t) := by
  have e1 : dragsV (turnN n) t = rangeL n.ancs.length (mir n.ancs.length (dragB n t)) := by
    rw [dragsV_at (turn_valid hv) (show truB (turnN n) t = true from ht)]
    unfold atL
    rw [turn_len]
    exact rangeL_congr fun k hk => by rw [mir_at _ hk, ← drag_turn hv t hk]; rfl
  have e2 : dragsV n t = rangeL n.ancs.length (dragB n t) := dragsV_at hv ht
  rw [e1, e2, rangeL_mir]
  refine ⟨by simp, fun i hi => ?_⟩
  rw [List.length_reverse, List.length_map, nth_rmap _ _ (by omega), show (rangeL n.ancs.length (dragB n t)).length - 1 - ((rangeL n.ancs.length (dragB n t)).length - 1 - i) = i by omega]
  omega
theorem calm_turn1 {n : Net} (hv : valid n = true) {t : Tru} (h : calmP n t) : calmP (turnN n) t := by
  intro i hi
  rw [turn_len] at hi
  rw [spare_turn0 hv t hi]
  exact h _ (by omega)
theorem calm_turn {n : Net} (hv : valid n = true) (t : Tru) : calmP (turnN n) t ↔ calmP n t :=
  ⟨fun h => by have := calm_turn1 (turn_valid hv) h; rwa [turn_turn] at this, calm_turn1 hv⟩
theorem firstHit_eq {f g : Nat → Bool} (m : Nat) (h : ∀ k, k < m → f k = g k) : firstHit f m 0 = firstHit g m 0 := firstHit_congr m 0 fun j _ h2 => h j (by omega)
theorem wN_turn {n : Net} (hv : valid n = true) : wN (turnN n) = wN n := firstHit_eq 21 fun k hk => by
  rw [Bool.eq_iff_iff, hitW_iff, hitW_iff]
  exact not_congr (calm_turn (valid_inW hv (show k ≤ 20 by omega)) (worstT (inW n k)))
theorem sN_turn {n : Net} (hv : valid n = true) : sN (turnN n) = sN n := firstHit_eq 21 fun k hk => by
  rw [Bool.eq_iff_iff, hitS_iff, hitS_iff]
  exact not_congr (calm_turn (valid_inW hv (show k ≤ 20 by omega)) (bestT (inW n k)))
theorem dragV_is {n : Net} (hv : valid n = true) {i : Nat} (hi : i < n.ancs.length) : dragV n i = knownB (dragB n (bestT n) i) (dragB n (worstT n) i) := by
  unfold dragV
  rw [hv, show inB 0 ((n.ancs.length : Int) - 1) (i : Int) = true by rw [inB_iff]; omega]
  rfl
theorem dragV_turn {n : Net} (hv : valid n = true) {i j : Nat} (hi : i < n.ancs.length) (hj : j = n.ancs.length - 1 - i) : dragV (turnN n) j = dragV n i := by
  subst hj
  rw [dragV_is hv hi, dragV_is (turn_valid hv) (by rw [turn_len]; omega), drag_turn hv _ (by omega), drag_turn hv _ (by omega), show n.ancs.length - 1 - (n.ancs.length - 1 - i) = i by omega]
  rfl
theorem spareV_is {n : Net} (hv : valid n = true) {i : Nat} (hi : i < n.ancs.length) : spareV n i = ⟨spare n (worstT n) i (fun _ => false), spare n (bestT n) i (fun _ => false)⟩ := by
  unfold spareV
  rw [hv, show inB 0 ((n.ancs.length : Int) - 1) (i : Int) = true by rw [inB_iff]; omega]
  rfl
theorem spareV_turn {n : Net} (hv : valid n = true) {i j : Nat} (hi : i < n.ancs.length) (hj : j = n.ancs.length - 1 - i) : spareV (turnN n) j = spareV n i := by
  subst hj
  rw [spareV_is hv hi, spareV_is (turn_valid hv) (by rw [turn_len]; omega), spare_turn0 hv _ (by omega), spare_turn0 hv _ (by omega), show n.ancs.length - 1 - (n.ancs.length - 1 - i) = i by omega]
  rfl
theorem needN_turn {n : Net} (hv : valid n = true) {i : Nat} (hi : i < n.ancs.length) : needN (turnN n) i = needN n (n.ancs.length - 1 - i) ∧ topK (turnN n) i = topK n (n.ancs.length - 1 - i) := by
  have ea : nth (turnN n).ancs i = nth n.ancs (n.ancs.length - 1 - i) := nth_rev _ hi
  have et : topK (turnN n) i = topK n (n.ancs.length - 1 - i) := by unfold topK; rw [ea]
  refine ⟨?_, et⟩
  unfold needN
  rw [et]
  refine firstHit_eq _ fun k _ => ?_
  have eb := bears_turn hv (worstT n) (fun _ => false) hi
  rw [mir_false] at eb
  unfold spareK
  rw [ea, show worstT (turnN n) = worstT n from rfl, eb]
theorem needOk_turn1 {n : Net} (hv : valid n = true) (h : needOk n = true) : needOk (turnN n) = true := by
  rw [needOk_iff] at *
  intro i hi
  rw [turn_len] at hi
  rw [(needN_turn hv hi).1, (needN_turn hv hi).2]
  exact h _ (by omega)
theorem needOk_turn {n : Net} (hv : valid n = true) : needOk (turnN n) = needOk n := by
  rw [Bool.eq_iff_iff]
  exact ⟨fun h => by have := needOk_turn1 (turn_valid hv) h; rwa [turn_turn] at this, needOk_turn1 hv⟩
theorem needV_is {n : Net} (hv : valid n = true) (hok : needOk n = true) : needV n = (List.range n.ancs.length).map fun i => (needN n i : Int) := by
  unfold needV; rw [hv, hok]; rfl
theorem needV_len {n : Net} (hv : valid n = true) (hok : needOk n = true) : (needV n).length = n.ancs.length := by rw [needV_is hv hok]; simp
theorem needV_nth {n : Net} (hv : valid n = true) (hok : needOk n = true) {i : Nat} (hi : i < n.ancs.length) : nth (needV n) i = needN n i := by
  rw [needV_is hv hok, nth_range_map _ hi]
theorem needV_no {n : Net} (hok : needOk n = false) : needV n = [] := by unfold needV; rw [hok]; simp
theorem needE_ok {n : Net} (hv : valid n = true) (hok : needOk n = true) : needE n = 0 := by unfold needE; rw [hv, hok]; rfl
theorem needE_no {n : Net} (hv : valid n = true) (hok : needOk n = false) : needE n = 3 := by unfold needE; rw [hv, hok]; rfl
end An
end Go.Proofs.YtgpcaaknpfopgaaDoor
