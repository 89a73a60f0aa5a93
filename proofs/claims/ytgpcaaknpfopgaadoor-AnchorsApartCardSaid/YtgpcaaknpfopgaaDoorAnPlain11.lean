/- The plain words of layer 2: what Help chooses; nets with the weights of Need. -/
import Derived.Test.YtgpcaaknpfopgaaDoorAnPlain10
namespace Go.Proofs.YtgpcaaknpfopgaaDoor
open Go.RowKit
namespace An

/-- The anchor that should be heavier, of the first k, and the wind of that net (-1: none yet). -/
def helpTo (n : Net) : Nat → Int × Int
  | 0 => (-1, -1)
  | k + 1 => if (nth n.ancs k).wt = 20 then helpTo n k else if (helpTo n k).2 < (wN (heav n k 1) : Int) then ((k : Int), (wN (heav n k 1) : Int)) else helpTo n k
theorem helpTo_inv (n : Net) (k : Nat) : ((helpTo n k).1 = -1 ∧ (helpTo n k).2 = -1) ∨ (0 ≤ (helpTo n k).1 ∧ (helpTo n k).1 < k ∧ 0 ≤ (helpTo n k).2 ∧ (helpTo n k).2 ≤ 21) := by
  induction k with
  | zero => exact .inl ⟨rfl, rfl⟩
  | succ k ih =>
    have hw := wN_le (heav n k 1)
    unfold helpTo
    split
    · omega
    · split
      · right; simp only; omega
      · omega
theorem helpTo_skip {n : Net} {k : Nat} (h : (nth n.ancs k).wt = 20) : helpTo n (k + 1) = helpTo n k := by conv => lhs; unfold helpTo; rw [if_pos h]
theorem helpTo_take {n : Net} {k : Nat} (h : ¬ (nth n.ancs k).wt = 20) (h2 : (helpTo n k).2 < (wN (heav n k 1) : Int)) : helpTo n (k + 1) = ((k : Int), (wN (heav n k 1) : Int)) := by conv => lhs; unfold helpTo; rw [if_neg h, if_pos h2]
theorem helpTo_keep {n : Net} {k : Nat} (h : ¬ (nth n.ancs k).wt = 20) (h2 : ¬ (helpTo n k).2 < (wN (heav n k 1) : Int)) : helpTo n (k + 1) = helpTo n k := by conv => lhs; unfold helpTo; rw [if_neg h, if_neg h2]
def helpN (n : Net) : Int := (helpTo n n.ancs.length).1
def helpV (n : Net) : Int := if valid n && decide (wN n < 21) then (if helpN n < 0 then 0 else helpN n) else 0
def helpE (n : Net) : Int := if valid n then (if wN n = 21 then 3 else if helpN n < 0 then 2 else 0) else 20

/-- The net with the first j anchors as heavy as Need says. -/
def upN (n : Net) (j : Nat) : Net := setA n (ancsAt n j 0)
theorem upN_zero (n : Net) : upN n 0 = n := by unfold upN; rw [ancsAt_start]; rfl
theorem upN_len (n : Net) (j : Nat) : (upN n j).ancs.length = n.ancs.length := ancsAt_len _ _ _
theorem upN_nth (n : Net) (j : Nat) {i : Nat} (hi : i < n.ancs.length) : nth (upN n j).ancs i = heavA (nth n.ancs i) (amt n j 0 i) := ancsAt_nth _ _ _ hi
theorem heavA_add (a : Anc) (x y : Int) : heavA (heavA a x) y = heavA a (x + y) := by simp [heavA, Int.add_assoc]
theorem heavA_zero (a : Anc) : heavA a 0 = a := by simp [heavA]
theorem upN_succ (n : Net) {j : Nat} (hj : j < n.ancs.length) : heav (upN n j) j (needN n j) = upN n (j + 1) := by
  show setA n ((ancsAt n j 0).set j (heavA (nth (ancsAt n j 0) j) (needN n j))) = setA n (ancsAt n (j + 1) 0)
  congr 1
  refine list_ext_nth (by rw [List.length_set, ancsAt_len, ancsAt_len]) fun k hk => ?_
  rw [List.length_set, ancsAt_len] at hk
  rw [nth_set _ _ _ (by rw [ancsAt_len]; exact hk), ancsAt_nth _ _ _ hk, ancsAt_nth _ _ _ hk, ancsAt_nth _ _ _ hj, amt_next, amt_self]
  by_cases h : j = k
  · subst h
    rw [if_pos rfl, heavA_add, amt_self]
    simp
  · rw [if_neg h]
    congr 1
    unfold amt
    have : k ≠ j := fun e => h e.symm
    simp [this]
theorem topK_pos {n : Net} (hv : valid n = true) {i : Nat} (hi : i < n.ancs.length) : 0 < topK n i := by
  have ha := okAnc_nth hv hi
  simp only [okAnc, decide_eq_true_eq] at ha
  unfold topK
  omega
theorem topK_int {n : Net} (hv : valid n = true) {i : Nat} (hi : i < n.ancs.length) : (topK n i : Int) = 21 - (nth n.ancs i).wt := by
  have ha := okAnc_nth hv hi
  simp only [okAnc, decide_eq_true_eq] at ha
  unfold topK
  omega
theorem needOk_iff {n : Net} : needOk n = true ↔ ∀ i, i < n.ancs.length → needN n i < topK n i := by
  unfold needOk
  rw [List.all_eq_true]
  constructor
  · intro h i hi; simpa using h i (by simpa using hi)
  · intro h i hi; exact decide_eq_true (h i (by simpa using hi))
theorem needN_hit {n : Net} {i : Nat} (h : needN n i < topK n i) : 0 ≤ spareK n i (needN n i) := by
  have := (firstHit_spec (fun k => decide (0 ≤ spareK n i k)) (topK n i) 0).2.2.2 (by unfold needN at h; omega)
  exact of_decide_eq_true this
theorem needN_miss {n : Net} {i k : Nat} (h : k < needN n i) : spareK n i k < 0 := by
  have := (firstHit_spec (fun k => decide (0 ≤ spareK n i k)) (topK n i) 0).2.2.1 k (Nat.zero_le _) h
  exact Int.not_le.1 (of_decide_eq_false this)
theorem needN_le (n : Net) (i : Nat) : needN n i ≤ topK n i := firstHit_le _ _
theorem valid_up {n : Net} (hv : valid n = true) (hok : needOk n = true) {j : Nat} (_hj : j ≤ n.ancs.length) : valid (upN n j) = true := by
  refine valid_at hv ?_ fun i _ hi => needOk_iff.1 hok i hi
  rcases Nat.lt_or_ge j n.ancs.length with h | h
  · exact topK_pos hv h
  · unfold topK nth
    rw [List.getD_eq_getElem?_getD, List.getElem?_eq_none h]
    decide
theorem spareK_zero (n : Net) (i : Nat) : spareK n i 0 = spare n (worstT n) i (fun _ => false) := by
  unfold spareK spare can
  simp
theorem spare_up {n : Net} {i : Nat} (hi : i < n.ancs.length) : spare (upN n n.ancs.length) (worstT (upN n n.ancs.length)) i (fun _ => false) = spareK n i (needN n i) := by
  unfold spare can
  rw [upN_nth _ _ hi]
  simp only [heavA, amt, hi, if_true]
  rfl
theorem safeX_one {n : Net} (hv : valid n = true) : safeX n = 1 ↔ calmP n (worstT n) := by
  unfold safeX
  rw [hv, ← step0_iff]
  unfold onOk knownB
  by_cases h : stepM n (worstT n) 0 = 0
  · simp [h]
  · simp only [h, decide_false, if_true]
    by_cases h2 : stepM n (bestT n) 0 = 0 <;> simp [h2]
theorem safe_up {n : Net} (hv : valid n = true) (hok : needOk n = true) : safeX (upN n n.ancs.length) = 1 := by
  rw [safeX_one (valid_up hv hok (Nat.le_refl _))]
  intro i hi
  rw [upN_len] at hi
  rw [spare_up hi]
  exact needN_hit (needOk_iff.1 hok i hi)
theorem safe_miss {n : Net} (hv : valid n = true) (hok : needOk n = false) : safeX n ≠ 1 := by
  intro h
  rw [safeX_one hv] at h
  have : ¬ ∀ i, i < n.ancs.length → needN n i < topK n i := fun hh => by rw [needOk_iff.2 hh] at hok; cases hok
  apply this
  intro i hi
  have h0 := h i hi
  rw [← spareK_zero] at h0
  have h1 := topK_pos hv hi
  rcases Nat.eq_zero_or_pos (needN n i) with e | e
  · omega
  · have := needN_miss e; omega
def sumN (n : Net) : Nat → Int
  | 0 => 0
  | k + 1 => sumN n k + needN n k
theorem sumN_bd (n : Net) (k : Nat) : 0 ≤ sumN n k := by
  induction k with
  | zero => exact Int.le_refl _
  | succ k ih => unfold sumN; omega
theorem sumN_zero (n : Net) (k : Nat) : sumN n k = 0 ↔ ∀ i, i < k → needN n i = 0 := by
  induction k with
  | zero => exact ⟨fun _ i hi => by omega, fun _ => rfl⟩
  | succ k ih =>
    have hb := sumN_bd n k
    unfold sumN
    constructor
    · intro h i hi
      by_cases e : i = k
      · subst e; omega
      · exact ih.1 (by omega) i (by omega)
    · intro h
      have h1 := ih.2 fun i hi => h i (by omega)
      have h2 := h k (by omega)
      omega
theorem sum_safe {n : Net} (hv : valid n = true) : sumN n n.ancs.length = 0 ↔ safeX n = 1 := by
  rw [sumN_zero, safeX_one hv]
  constructor
  · intro h i hi
    rw [← spareK_zero]
    have h0 := h i hi
    have := needN_hit (n := n) (i := i) (by rw [h0]; exact topK_pos hv hi)
    rwa [h0] at this
  · intro h i hi
    have h0 := h i hi
    rw [← spareK_zero] at h0
    rcases Nat.eq_zero_or_pos (needN n i) with e | e
    · exact e
    · have := needN_miss e; omega
theorem valid_less {n : Net} (hv : valid n = true) (hok : needOk n = true) {i : Nat} (hi : i < n.ancs.length) (h : 0 < needN n i) : valid (heav (upN n n.ancs.length) i (-1)) = true := by
  have ha := okAnc_nth hv hi
  simp only [okAnc, decide_eq_true_eq] at ha
  have hk := needOk_iff.1 hok i hi
  have ht := topK_int hv hi
  have e : (nth (upN n n.ancs.length).ancs i).wt = (nth n.ancs i).wt + needN n i := by rw [upN_nth _ _ hi]; simp [heavA, amt, hi]
  refine heav_valid (valid_up hv hok (Nat.le_refl _)) (by rw [upN_len]; exact hi) (by rw [e]; omega) (by rw [e]; omega)
theorem safe_less {n : Net} (hv : valid n = true) (hok : needOk n = true) {i : Nat} (hi : i < n.ancs.length) (h : 0 < needN n i) : safeX (heav (upN n n.ancs.length) i (-1)) ≠ 1 := by
  rw [Ne, safeX_one (valid_less hv hok hi h)]
  intro hc
  have h0 := hc i (by rw [heav_len, upN_len]; exact hi)
  have h1 := needN_miss (n := n) (i := i) (k := needN n i - 1) (by omega)
  have e : spare (heav (upN n n.ancs.length) i (-1)) (worstT (heav (upN n n.ancs.length) i (-1))) i (fun _ => false) = spareK n i (needN n i - 1) := by
    unfold spare can
    rw [heav_nth _ _ _ (by rw [upN_len]; exact hi), if_pos rfl, upN_nth _ _ hi, heavA_add]
    simp only [heavA, amt, hi, if_true]
    unfold spareK
    rw [show ((needN n i : Nat) : Int) + -1 = ((needN n i - 1 : Nat) : Int) by omega]
    rfl
  rw [e] at h0
  omega
end An
end Go.Proofs.YtgpcaaknpfopgaaDoor
