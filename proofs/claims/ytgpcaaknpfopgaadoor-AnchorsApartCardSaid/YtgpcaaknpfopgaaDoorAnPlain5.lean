/- The plain words of layer 2: heavier anchors, and by how much each must be. -/
import Derived.Test.YtgpcaaknpfopgaaDoorAn9
import Derived.Test.YtgpcaaknpfopgaaDoorBase2
namespace Go.Proofs.YtgpcaaknpfopgaaDoor
namespace An

def heavA (a : Anc) (k : Int) : Anc := ⟨a.wt + k, a.bt⟩
/-- A net with other anchors. -/
def setA (n : Net) (al : List Anc) : Net := ⟨n.wind, n.cur, n.grips, al, n.wals⟩
/-- What anchor i could bear more in the worst truth, if it is heavier by k. -/
def spareK (n : Net) (i k : Nat) : Int := 2 * ((nth n.ancs i).wt + k) * nth (worstT n).grips (nth n.ancs i).bt.toNat - bears n (worstT n) i (fun _ => false)
def topK (n : Net) (i : Nat) : Nat := (21 - (nth n.ancs i).wt).toNat
def needN (n : Net) (i : Nat) : Nat := firstHit (fun k => decide (0 ≤ spareK n i k)) (topK n i) 0
def needOk (n : Net) : Bool := (List.range n.ancs.length).all fun i => decide (needN n i < topK n i)
def needV (n : Net) : List Int := if valid n && needOk n then (List.range n.ancs.length).map fun i => (needN n i : Int) else []
def needE (n : Net) : Int := if valid n then (if needOk n then 0 else 3) else 20
/-- By how much anchor j is heavier, when those below i are as heavy as they must be, and i by k. -/
def amt (n : Net) (i k j : Nat) : Nat := if j < i then needN n j else if j = i then k else 0
def ancsAt (n : Net) (i k : Nat) : List Anc := (List.range n.ancs.length).map fun j => heavA (nth n.ancs j) (amt n i k j)
def outAt (n : Net) (i k : Nat) : List Int := (List.range n.ancs.length).map fun j => (amt n i k j : Int)

theorem ancsAt_len (n : Net) (i k : Nat) : (ancsAt n i k).length = n.ancs.length := by simp [ancsAt]
theorem outAt_len (n : Net) (i k : Nat) : (outAt n i k).length = n.ancs.length := by simp [outAt]
theorem nth_range_map {α : Type} [Inhabited α] (f : Nat → α) {m j : Nat} (h : j < m) : nth ((List.range m).map f) j = f j := by
  rw [nth_get _ (by simpa using h)]; simp
theorem ancsAt_nth (n : Net) (i k : Nat) {j : Nat} (h : j < n.ancs.length) : nth (ancsAt n i k) j = heavA (nth n.ancs j) (amt n i k j) := nth_range_map _ h
theorem outAt_nth (n : Net) (i k : Nat) {j : Nat} (h : j < n.ancs.length) : nth (outAt n i k) j = (amt n i k j : Int) := nth_range_map _ h
theorem list_ext_nth {α : Type} [Inhabited α] {xs ys : List α} (hl : xs.length = ys.length) (h : ∀ j, j < xs.length → nth xs j = nth ys j) : xs = ys := by
  apply List.ext_getElem hl
  intro j h1 h2
  have := h j h1
  rwa [nth_get _ h1, nth_get _ h2] at this
theorem nth_set {α : Type} [Inhabited α] (xs : List α) (i : Nat) (y : α) {j : Nat} (h : j < xs.length) : nth (xs.set i y) j = if i = j then y else nth xs j := by
  rw [nth_get _ (by simpa using h), nth_get _ h, List.getElem_set]
theorem amt_self (n : Net) (i k : Nat) : amt n i k i = k := by simp [amt]
theorem ancsAt_start (n : Net) : ancsAt n 0 0 = n.ancs := by
  refine list_ext_nth (ancsAt_len _ _ _) fun j hj => ?_
  rw [ancsAt_len] at hj
  rw [ancsAt_nth _ _ _ hj]
  have : amt n 0 0 j = 0 := by simp [amt]
  rw [this]; simp [heavA]
theorem outAt_start (n : Net) : outAt n 0 0 = List.replicate n.ancs.length 0 := by
  refine list_ext_nth (by rw [outAt_len]; simp) fun j hj => ?_
  rw [outAt_len] at hj
  rw [outAt_nth _ _ _ hj, nth_get _ (by simpa using hj)]
  simp [amt]
theorem amt_next (n : Net) (i j : Nat) : amt n (i + 1) 0 j = amt n i (needN n i) j := by
  unfold amt
  by_cases h1 : j < i
  · simp [h1, show j < i + 1 by omega]
  · by_cases h2 : j = i
    · subst h2; simp
    · simp [h1, h2, show ¬ j < i + 1 by omega]
theorem ancsAt_next (n : Net) (i : Nat) : ancsAt n (i + 1) 0 = ancsAt n i (needN n i) := by unfold ancsAt; congr 1; funext j; rw [amt_next]
theorem outAt_next (n : Net) (i : Nat) : outAt n (i + 1) 0 = outAt n i (needN n i) := by unfold outAt; congr 1; funext j; rw [amt_next]
theorem ancsAt_set (n : Net) {i : Nat} (k : Nat) (_hi : i < n.ancs.length) : (ancsAt n i k).set i (heavA (nth n.ancs i) ((k + 1 : Nat) : Int)) = ancsAt n i (k + 1) := by
  refine list_ext_nth (by rw [List.length_set, ancsAt_len, ancsAt_len]) fun j hj => ?_
  rw [List.length_set, ancsAt_len] at hj
  rw [nth_set _ _ _ (by rw [ancsAt_len]; exact hj), ancsAt_nth _ _ _ hj, ancsAt_nth _ _ _ hj]
  by_cases h : i = j
  · subst h; rw [if_pos rfl, amt_self]
  · rw [if_neg h]
    have : amt n i k j = amt n i (k + 1) j := by unfold amt; rw [if_neg (show ¬ j = i from fun e => h e.symm), if_neg (show ¬ j = i from fun e => h e.symm)]
    rw [this]
theorem outAt_set (n : Net) {i : Nat} (k : Nat) (_hi : i < n.ancs.length) : (outAt n i k).set i ((k + 1 : Nat) : Int) = outAt n i (k + 1) := by
  refine list_ext_nth (by rw [List.length_set, outAt_len, outAt_len]) fun j hj => ?_
  rw [List.length_set, outAt_len] at hj
  rw [nth_set _ _ _ (by rw [outAt_len]; exact hj), outAt_nth _ _ _ hj, outAt_nth _ _ _ hj]
  by_cases h : i = j
  · subst h; rw [if_pos rfl, amt_self]
  · rw [if_neg h]
    have : amt n i k j = amt n i (k + 1) j := by unfold amt; rw [if_neg (show ¬ j = i from fun e => h e.symm), if_neg (show ¬ j = i from fun e => h e.symm)]
    rw [this]

theorem bears_setA (n : Net) (al : List Anc) (t : Tru) (i : Nat) (d : Nat → Bool) : bears (setA n al) t i d = bears n t i d := rfl
theorem spare_at {n : Net} {i : Nat} (k : Nat) (hi : i < n.ancs.length) : spare (setA n (ancsAt n i k)) (worstT n) i (fun _ => false) = spareK n i k := by
  unfold spare spareK can
  rw [bears_setA]
  show 2 * (nth (ancsAt n i k) i).wt * nth (worstT n).grips (nth (ancsAt n i k) i).bt.toNat - _ = _
  rw [ancsAt_nth _ _ _ hi, amt_self]
  rfl
theorem valid_at {n : Net} (hv : valid n = true) {i k : Nat} (hk : k < topK n i) (h : ∀ j, j < i → j < n.ancs.length → needN n j < topK n j) : valid (setA n (ancsAt n i k)) = true := by
  have h0 := hv
  rw [valid_iff] at hv ⊢
  obtain ⟨h1, h2, h3, h4, h5, h6, h7, h8⟩ := hv
  refine ⟨h1, h2, h3, by show (ancsAt n i k).length ≤ 6; rw [ancsAt_len]; exact h4, by show n.wals.length = (ancsAt n i k).length - 1; rw [ancsAt_len]; exact h5, h6, ?_, h8⟩
  show okAncl n.grips.length (ancsAt n i k) = true
  unfold okAncl
  rw [List.all_eq_true]
  intro x hx
  obtain ⟨j, hj, rfl⟩ := List.getElem_of_mem hx
  have hj' : j < n.ancs.length := by rwa [ancsAt_len] at hj
  rw [← nth_get _ hj, ancsAt_nth _ _ _ hj']
  have ha := okAnc_nth h0 hj'
  simp only [okAnc, decide_eq_true_eq] at ha
  have hlt : amt n i k j < topK n j := by
    unfold amt
    by_cases hji : j < i
    · rw [if_pos hji]; exact h j hji hj'
    · rw [if_neg hji]
      by_cases he : j = i
      · subst he; rw [if_pos rfl]; exact hk
      · rw [if_neg he]; unfold topK; omega
  have hT : (topK n j : Int) = 21 - (nth n.ancs j).wt := by unfold topK; rw [Int.toNat_of_nonneg (by omega)]
  refine decide_eq_true ?_
  simp only [heavA]
  omega
theorem okTru_at {n : Net} (hv : valid n = true) {i k : Nat} (hk : k < topK n i) (h : ∀ j, j < i → j < n.ancs.length → needN n j < topK n j) : okTru (setA n (ancsAt n i k)) (worstT n) := by
  have := okTru_worst hv
  exact ⟨valid_at hv hk h, this.2.1, this.2.2.1, this.2.2.2.1, this.2.2.2.2⟩

end An
end Go.Proofs.YtgpcaaknpfopgaaDoor
