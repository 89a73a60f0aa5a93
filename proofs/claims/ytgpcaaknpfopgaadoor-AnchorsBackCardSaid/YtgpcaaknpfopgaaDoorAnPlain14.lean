/- Layer 2, plain: a row turned round place by place; a list mirrored. -/
import Derived.Test.YtgpcaaknpfopgaaDoorAnPlain12
namespace Go.Proofs.YtgpcaaknpfopgaaDoor
open Go.RowKit
namespace An

/-- The row xs with its first k places taken from the end. -/
def revTo {α : Type} [Inhabited α] (xs : List α) (k : Nat) : List α := (List.range xs.length).map fun j => if j < k then nth xs (xs.length - 1 - j) else nth xs j
section
variable {α : Type} [Inhabited α] (xs : List α)
theorem revTo_len (k : Nat) : (revTo xs k).length = xs.length := by simp [revTo]
theorem revTo_nth (k : Nat) {j : Nat} (h : j < xs.length) : nth (revTo xs k) j = if j < k then nth xs (xs.length - 1 - j) else nth xs j := nth_range_map _ h
theorem revTo_zero : revTo xs 0 = xs := list_ext_nth (revTo_len xs 0) fun j hj => by
  rw [revTo_nth _ _ (by rwa [revTo_len] at hj), if_neg (Nat.not_lt_zero _)]
theorem revTo_full : revTo xs xs.length = xs.reverse := list_ext_nth (by rw [revTo_len, List.length_reverse]) fun j hj => by
  rw [revTo_len] at hj
  rw [revTo_nth _ _ hj, if_pos hj, nth_rev _ hj]
theorem revTo_succ {k : Nat} (h : k < xs.length) : (revTo xs k).set k (nth xs (xs.length - 1 - k)) = revTo xs (k + 1) := list_ext_nth (by rw [List.length_set, revTo_len, revTo_len]) fun j hj => by
  rw [List.length_set, revTo_len] at hj
  rw [nth_set _ _ _ (by rw [revTo_len]; exact hj), revTo_nth _ _ hj, revTo_nth _ _ hj]
  by_cases e : k = j
  · subst e; simp
  · rw [if_neg e]
    by_cases l : j < k
    · rw [if_pos l, if_pos (by omega)]
    · rw [if_neg l, if_neg (by omega)]
end
/-- The net n with anchors and walls turned up to i and j. -/
def turnTo (n : Net) (i j : Nat) : Net := ⟨n.wind, n.cur, n.grips, revTo n.ancs i, revTo n.wals j⟩
theorem turnTo_full (n : Net) : turnTo n n.ancs.length n.wals.length = turnN n := by unfold turnTo turnN; rw [revTo_full, revTo_full]
theorem turnTo_zero (n : Net) : turnTo n 0 0 = n := by unfold turnTo; rw [revTo_zero, revTo_zero]

end An
end Go.Proofs.YtgpcaaknpfopgaaDoor
