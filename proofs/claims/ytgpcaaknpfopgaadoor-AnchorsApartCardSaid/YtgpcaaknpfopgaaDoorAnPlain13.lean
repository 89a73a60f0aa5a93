/- The plain words of layer 2: what is apart. -/
import Derived.Test.YtgpcaaknpfopgaaDoorAnPlain12
namespace Go.Proofs.YtgpcaaknpfopgaaDoor
open Go.RowKit
namespace An

/-- A wall without load. -/
def nilW (x : Wal) : Wal := ⟨0, 0, x.lean, x.corks, x.stones⟩
/-- The net in which wall k has no load. -/
def zeroN (n : Net) (k : Nat) : Net := ⟨n.wind, n.cur, n.grips, n.ancs, n.wals.set k (nilW (nth n.wals k))⟩
def oneN (n : Net) (k : Nat) : Net := ⟨n.wind, n.cur, n.grips, n.ancs.take (k + 1), n.wals.take k⟩
def otherN (n : Net) (k : Nat) : Net := ⟨n.wind, n.cur, n.grips, n.ancs.drop (k + 1), n.wals.drop (k + 1)⟩
theorem zero_wlen (n : Net) (k : Nat) : (zeroN n k).wals.length = n.wals.length := List.length_set
theorem nth_take {α : Type} [Inhabited α] (xs : List α) {k i : Nat} (h : i < k) (hi : i < xs.length) : nth (xs.take k) i = nth xs i := by
  rw [nth_get _ (by rw [List.length_take]; omega), nth_get _ hi, List.getElem_take]
theorem nth_drop {α : Type} [Inhabited α] (xs : List α) {k i : Nat} (hi : k + i < xs.length) : nth (xs.drop k) i = nth xs (k + i) := by
  rw [nth_get _ (by rw [List.length_drop]; omega), nth_get _ hi, List.getElem_drop]
theorem all_take {α : Type} (p : α → Bool) (xs : List α) (k : Nat) (h : xs.all p = true) : (xs.take k).all p = true := by
  rw [List.all_eq_true] at *
  exact fun x hx => h x (List.mem_of_mem_take hx)
theorem all_drop {α : Type} (p : α → Bool) (xs : List α) (k : Nat) (h : xs.all p = true) : (xs.drop k).all p = true := by
  rw [List.all_eq_true] at *
  exact fun x hx => h x (List.mem_of_mem_drop hx)
theorem zero_valid {n : Net} (hv : valid n = true) {k : Nat} (hk : k < n.wals.length) : valid (zeroN n k) = true := by
  have hw := okWal_nth hv hk
  rw [valid_iff] at hv ⊢
  obtain ⟨a1, a2, a3, a4, a5, a6, a7, a8⟩ := hv
  refine ⟨a1, a2, a3, a4, by rw [zero_wlen]; exact a5, a6, a7, ?_⟩
  show okWall (n.wals.set k (nilW (nth n.wals k))) = true
  unfold okWall at *
  rw [List.all_eq_true] at *
  intro x hx
  rcases List.mem_or_eq_of_mem_set hx with h | h
  · exact a8 x h
  · subst h
    simp only [okWal, decide_eq_true_eq] at hw
    exact decide_eq_true ⟨Int.le_refl 0, (by decide : (0 : Int) ≤ 9), Int.le_refl 0, (by decide : (0 : Int) ≤ 9), hw.2.2.2.2⟩
theorem one_len (n : Net) {k : Nat} (hk : k < n.ancs.length) : (oneN n k).ancs.length = k + 1 := by
  show (n.ancs.take (k + 1)).length = _
  rw [List.length_take]; omega
theorem other_len (n : Net) (k : Nat) : (otherN n k).ancs.length = n.ancs.length - (k + 1) := List.length_drop
theorem one_wlen (n : Net) {k : Nat} (hk : k ≤ n.wals.length) : (oneN n k).wals.length = k := by
  show (n.wals.take k).length = _
  rw [List.length_take]; omega
theorem other_wlen (n : Net) (k : Nat) : (otherN n k).wals.length = n.wals.length - (k + 1) := List.length_drop
theorem one_valid {n : Net} (hv : valid n = true) {k : Nat} (hk : k < n.wals.length) : valid (oneN n k) = true := by
  have hw := wals_len hv
  rw [valid_iff] at hv ⊢
  obtain ⟨a1, a2, a3, a4, a5, a6, a7, a8⟩ := hv
  refine ⟨a1, a2, a3, by rw [one_len _ (by omega)]; omega, by rw [one_len _ (by omega), one_wlen _ (by omega)]; omega, a6, all_take _ _ _ a7, all_take _ _ _ a8⟩
theorem other_valid {n : Net} (hv : valid n = true) {k : Nat} (hk : k < n.wals.length) : valid (otherN n k) = true := by
  have hw := wals_len hv
  rw [valid_iff] at hv ⊢
  obtain ⟨a1, a2, a3, a4, a5, a6, a7, a8⟩ := hv
  refine ⟨a1, a2, a3, by rw [other_len]; omega, by rw [other_len, other_wlen]; omega, a6, all_drop _ _ _ a7, all_drop _ _ _ a8⟩
theorem ld_zero {n : Net} (t : Tru) {k : Nat} (hk : k < n.wals.length) (j : Nat) (hj : j < n.wals.length) : ld (zeroN n k) t j = if j = k then 0 else ld n t j := by
  unfold ld
  rw [show nth (zeroN n k).wals j = nth (n.wals.set k (nilW (nth n.wals k))) j from rfl, nth_set _ _ _ hj]
  by_cases h : k = j
  · subst h; simp [nilW, ldW]
  · rw [if_neg h, if_neg (fun e => h e.symm)]
theorem side_zero {n : Net} (t : Tru) {k : Nat} (hk : k < n.wals.length) (d : Nat → Bool) (o : Nat) : side (zeroN n k) t d k o = 0 := by
  unfold side
  rw [ld_zero t hk k hk, if_pos rfl, Int.zero_mul]
theorem ld_one (n : Net) (t : Tru) {k j : Nat} (h : j < k) (hj : j < n.wals.length) : ld (oneN n k) t j = ld n t j := by
  unfold ld
  rw [show nth (oneN n k).wals j = nth n.wals j from nth_take _ h hj]
theorem ld_other (n : Net) (t : Tru) {k j : Nat} (hj : k + 1 + j < n.wals.length) : ld (otherN n k) t j = ld n t (k + 1 + j) := by
  unfold ld
  rw [show nth (otherN n k).wals j = nth n.wals (k + 1 + j) from nth_drop _ hj]
/-- Two sets of anchors, one for either side. -/
def both (k : Nat) (S S' : Nat → Bool) (i : Nat) : Bool := if i ≤ k then S i else S' (i - (k + 1))
theorem spare_one {n : Net} (hv : valid n = true) (t : Tru) {k : Nat} (hk : k < n.wals.length) (S S' : Nat → Bool) {i : Nat} (hi : i ≤ k) : spare (zeroN n k) t i (both k S S') = spare (oneN (zeroN n k) k) t i S := by
  have hw := wals_len hv
  have hz := zero_wlen n k
  have ec : can (zeroN n k) t i = can (oneN (zeroN n k) k) t i := by
    unfold can
    rw [show nth (oneN (zeroN n k) k).ancs i = nth (zeroN n k).ancs i from nth_take _ (by omega) (show i < n.ancs.length by omega)]
  have eb : bears (zeroN n k) t i (both k S S') = bears (oneN (zeroN n k) k) t i S := by
    unfold bears
    rw [one_wlen _ (by rw [hz]; omega), hz]
    congr 1
    · by_cases h : 0 < i
      · rw [if_pos (by omega), if_pos (by omega)]
        unfold side
        rw [ld_one _ t (by omega) (by rw [hz]; omega)]
        rw [show both k S S' (i - 1) = S (i - 1) by unfold both; rw [if_pos (by omega)]]
      · rw [if_neg (by omega), if_neg (by omega)]
    · by_cases h : i < k
      · rw [if_pos (by omega), if_pos h]
        unfold side
        rw [ld_one _ t h (by rw [hz]; omega)]
        rw [show both k S S' (i + 1) = S (i + 1) by unfold both; rw [if_pos (by omega)]]
      · obtain rfl : i = k := by omega
        rw [if_pos hk, if_neg h, side_zero t hk]
  unfold spare
  rw [ec, eb]
theorem spare_other {n : Net} (hv : valid n = true) (t : Tru) {k : Nat} (hk : k < n.wals.length) (S S' : Nat → Bool) {j : Nat} (hj : k + 1 + j < n.ancs.length) : spare (zeroN n k) t (k + 1 + j) (both k S S') = spare (otherN (zeroN n k) k) t j S' := by
  have hw := wals_len hv
  have hz := zero_wlen n k
  have ec : can (zeroN n k) t (k + 1 + j) = can (otherN (zeroN n k) k) t j := by
    unfold can
    rw [show nth (otherN (zeroN n k) k).ancs j = nth (zeroN n k).ancs (k + 1 + j) from nth_drop _ (show k + 1 + j < n.ancs.length from hj)]
  have eb : bears (zeroN n k) t (k + 1 + j) (both k S S') = bears (otherN (zeroN n k) k) t j S' := by
    unfold bears
    rw [other_wlen, hz]
    congr 1
    · rw [if_pos (by omega)]
      by_cases h : 0 < j
      · rw [if_pos (by omega)]
        unfold side
        rw [ld_other _ t (by rw [hz]; omega), show k + 1 + (j - 1) = k + 1 + j - 1 by omega]
        rw [show both k S S' (k + 1 + j - 1) = S' (j - 1) by unfold both; rw [if_neg (by omega)]; congr 1; omega]
      · obtain rfl : j = 0 := by omega
        rw [if_neg (by omega), show k + 1 + 0 - 1 = k by omega, side_zero t hk]
    · by_cases h : k + 1 + j < n.wals.length
      · rw [if_pos h, if_pos (by omega)]
        unfold side
        rw [ld_other _ t (by rw [hz]; omega)]
        rw [show both k S S' (k + 1 + j + 1) = S' (j + 1) by unfold both; rw [if_neg (by omega)]; congr 1; omega]
      · rw [if_neg h, if_neg (by omega)]
  unfold spare
  rw [ec, eb]
theorem closed_iff {n : Net} {t : Tru} {S : Nat → Bool} : Closed n t S ↔ ∀ i, i < n.ancs.length → spare n t i S < 0 → S i = true := by
  unfold Closed stepB
  constructor
  · intro h i hi hs
    exact h i (by simp [hi, hs])
  · intro h i hi
    simp only [Bool.or_eq_true, Bool.and_eq_true, decide_eq_true_eq] at hi
    rcases hi with h1 | ⟨h1, h2⟩
    · exact h1
    · exact h i h1 h2
theorem closed_both {n : Net} (hv : valid n = true) (t : Tru) {k : Nat} (hk : k < n.wals.length) (S S' : Nat → Bool) :
    Closed (zeroN n k) t (both k S S') ↔ Closed (oneN (zeroN n k) k) t S ∧ Closed (otherN (zeroN n k) k) t S' := by
  have hw := wals_len hv
  have hl1 : (oneN (zeroN n k) k).ancs.length = k + 1 := one_len _ (show k < n.ancs.length by omega)
  have hl2 : (otherN (zeroN n k) k).ancs.length = n.ancs.length - (k + 1) := other_len _ _
  rw [closed_iff, closed_iff, closed_iff]
  constructor
  · intro h
    refine ⟨fun i hi hs => ?_, fun j hj hs => ?_⟩
    · rw [hl1] at hi
      have := h i (show i < n.ancs.length by omega) (by rw [spare_one hv t hk S S' (by omega)]; exact hs)
      unfold both at this
      rwa [if_pos (by omega)] at this
    · rw [hl2] at hj
      have := h (k + 1 + j) (show k + 1 + j < n.ancs.length by omega) (by rw [spare_other hv t hk S S' (by omega)]; exact hs)
      unfold both at this
      rwa [if_neg (by omega), show k + 1 + j - (k + 1) = j by omega] at this
  · rintro ⟨h1, h2⟩ i hi hs
    have hi : i < n.ancs.length := hi
    unfold both
    by_cases h : i ≤ k
    · rw [if_pos h]
      rw [spare_one hv t hk S S' h] at hs
      exact h1 i (by rw [hl1]; omega) hs
    · rw [if_neg h]
      rw [show i = k + 1 + (i - (k + 1)) by omega, spare_other hv t hk S S' (by omega)] at hs
      exact h2 _ (by rw [hl2]; omega) hs
theorem closed_all (n : Net) (t : Tru) : Closed n t fun _ => true := fun _ _ => rfl
theorem both_split (k : Nat) (S : Nat → Bool) : both k S (fun j => S (k + 1 + j)) = S := by
  funext i
  unfold both
  by_cases h : i ≤ k
  · rw [if_pos h]
  · rw [if_neg h]
    show S (k + 1 + (i - (k + 1))) = S i
    rw [show k + 1 + (i - (k + 1)) = i by omega]
theorem drag_one {n : Net} (hv : valid n = true) (t : Tru) {k : Nat} (hk : k < n.wals.length) {i : Nat} (hi : i ≤ k) : dragB (zeroN n k) t i = dragB (oneN (zeroN n k) k) t i := by
  rw [Bool.eq_iff_iff]
  constructor
  · intro h
    refine lastB_iff.2 fun S hS _ => ?_
    have := lastB_iff.1 h (both k S fun _ => true) ((closed_both hv t hk _ _).2 ⟨hS, closed_all _ _⟩) (fun _ hk => by cases hk)
    unfold both at this
    rwa [if_pos hi] at this
  · intro h
    refine lastB_iff.2 fun S hS _ => ?_
    rw [← both_split k S] at hS
    exact lastB_iff.1 h S ((closed_both hv t hk _ _).1 hS).1 (fun _ hk => by cases hk)
theorem drag_other {n : Net} (hv : valid n = true) (t : Tru) {k : Nat} (hk : k < n.wals.length) (j : Nat) : dragB (zeroN n k) t (k + 1 + j) = dragB (otherN (zeroN n k) k) t j := by
  rw [Bool.eq_iff_iff]
  constructor
  · intro h
    refine lastB_iff.2 fun S hS _ => ?_
    have := lastB_iff.1 h (both k (fun _ => true) S) ((closed_both hv t hk _ _).2 ⟨closed_all _ _, hS⟩) (fun _ hk => by cases hk)
    unfold both at this
    rwa [if_neg (by omega), show k + 1 + j - (k + 1) = j by omega] at this
  · intro h
    refine lastB_iff.2 fun S hS _ => ?_
    rw [← both_split k S] at hS
    exact lastB_iff.1 h _ ((closed_both hv t hk _ _).1 hS).2 (fun _ hk => by cases hk)
theorem rangeL_add (a b : Nat) (d : Nat → Bool) : rangeL (a + b) d = rangeL a d ++ (rangeL b fun j => d (a + j)).map fun x => x + (a : Int) := by
  unfold rangeL
  rw [List.range_add, List.filter_append, List.map_append, List.filter_map, List.map_map, List.map_map]
  congr 1
  refine List.map_congr_left fun k _ => ?_
  show ((a + k : Nat) : Int) = (k : Int) + (a : Int)
  rw [Int.natCast_add, Int.add_comm]
theorem drags_apart {n : Net} (hv : valid n = true) {t : Tru} (ht : truB n t = true) {k : Nat} (hk : k < n.wals.length) :
    dragsV (zeroN n k) t = dragsV (oneN (zeroN n k) k) t ++ (dragsV (otherN (zeroN n k) k) t).map fun x => x + ((k + 1 : Nat) : Int) := by
  have hw := wals_len hv
  have hz := zero_valid hv hk
  have hkz : k < (zeroN n k).wals.length := by rw [zero_wlen]; exact hk
  have ht1 : truB (zeroN n k) t = true := ht
  rw [dragsV_at hz ht1, dragsV_at (one_valid hz hkz) ht1, dragsV_at (other_valid hz hkz) ht1]
  unfold atL
  have hl1 : (oneN (zeroN n k) k).ancs.length = k + 1 := one_len _ (show k < n.ancs.length by omega)
  have hl2 : (otherN (zeroN n k) k).ancs.length = n.ancs.length - (k + 1) := other_len _ _
  rw [hl1, hl2, show (zeroN n k).ancs.length = (k + 1) + (n.ancs.length - (k + 1)) by show n.ancs.length = _; omega, rangeL_add]
  congr 1
  · exact rangeL_congr fun i hi => drag_one hv t hk (by omega)
  · congr 1
    exact rangeL_congr fun j _ => drag_other hv t hk j
end An

/-! Layer 2, plain: a row turned round place by place; a list mirrored. -/
open Go.RowKit
namespace An

/-- The row xs with its first k places taken from the end. -/
def revTo {α : Type} [Inhabited α] (xs : List α) (k : Nat) : List α := (List.range xs.length).map fun j => if j < k then nth xs (xs.length - 1 - j) else nth xs j
section
variable {α : Type} [Inhabited α] (xs : List α)
theorem revTo_len (k : Nat) : (revTo xs k).length = xs.length := by simp [revTo]
theorem revTo_nth (k : Nat) {j : Nat} (h : j < xs.length) : nth (revTo xs k) j = if j < k then nth xs (xs.length - 1 - j) else nth xs j := nth_range_map _ h
theorem revTo_zero : revTo xs 0 = xs := list_ext_nth (revTo_len xs 0) fun j hj => by
  rw [revTo_nth _ _ (by rwa [revTo_len] at hj), if_neg (Nat.not_lt_zero _)]
theorem revTo_full : revTo xs xs.length = xs.reverse := list_ext_nth (by rw [revTo_len, List.length_reverse]) fun j hj => by
  rw [revTo_len] at hj
  rw [revTo_nth _ _ hj, if_pos hj, nth_rev _ hj]
theorem revTo_succ {k : Nat} (h : k < xs.length) : (revTo xs k).set k (nth xs (xs.length - 1 - k)) = revTo xs (k + 1) := list_ext_nth (by rw [List.length_set, revTo_len, revTo_len]) fun j hj => by
  rw [List.length_set, revTo_len] at hj
  rw [nth_set _ _ _ (by rw [revTo_len]; exact hj), revTo_nth _ _ hj, revTo_nth _ _ hj]
  by_cases e : k = j
  · subst e; simp
  · rw [if_neg e]
    by_cases l : j < k
    · rw [if_pos l, if_pos (by omega)]
    · rw [if_neg l, if_neg (by omega)]
end
/-- The net n with anchors and walls turned up to i and j. -/
def turnTo (n : Net) (i j : Nat) : Net := ⟨n.wind, n.cur, n.grips, revTo n.ancs i, revTo n.wals j⟩
theorem turnTo_full (n : Net) : turnTo n n.ancs.length n.wals.length = turnN n := by unfold turnTo turnN; rw [revTo_full, revTo_full]
theorem turnTo_zero (n : Net) : turnTo n 0 0 = n := by unfold turnTo; rw [revTo_zero, revTo_zero]

end An
end Go.Proofs.YtgpcaaknpfopgaaDoor
