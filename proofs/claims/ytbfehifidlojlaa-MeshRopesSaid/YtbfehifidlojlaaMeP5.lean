/- Plain: all best orders, the first one first. No program in sight. -/
import Derived.Test.YtbfehifidlojlaaMeP1
namespace Go.Proofs.Ytbfehifidlojlaa
namespace Me

theorem bst_eq {α : Type} (f : α → Int) (b : α) (xs : List α) (h : f (bst f b xs) = f b) : bst f b xs = b := by
  induction xs generalizing b with
  | nil => rfl
  | cons x xs ih =>
    unfold bst at h ⊢
    split
    · rename_i hlt
      rw [if_pos hlt] at h
      have := (bst_le f x xs).1
      omega
    · rename_i hlt
      rw [if_neg hlt] at h
      exact ih b h
/-- The elements of which a number is v. -/
def sameAs {α : Type} (f : α → Int) (v : Int) (xs : List α) : List α := xs.filter fun x => decide (f x = v)
theorem bst_head {α : Type} (f : α → Int) (b : α) (xs : List α) : ∃ ys, sameAs f (f (bst f b xs)) (b :: xs) = bst f b xs :: ys := by
  unfold sameAs
  induction xs generalizing b with
  | nil => exact ⟨[], by simp [bst]⟩
  | cons x xs ih =>
    unfold bst
    by_cases hlt : f x < f b
    · rw [if_pos hlt]
      obtain ⟨ys, hys⟩ := ih x
      have := (bst_le f x xs).1
      refine ⟨ys, ?_⟩
      rw [List.filter_cons_of_neg (by simp; omega)]
      exact hys
    · rw [if_neg hlt]
      have h1 := (bst_le f b xs).1
      by_cases he : f (bst f b xs) = f b
      · have hb := bst_eq f b xs he
        rw [hb, List.filter_cons_of_pos (by simp)]
        exact ⟨_, rfl⟩
      · obtain ⟨ys, hys⟩ := ih b
        rw [List.filter_cons_of_neg (by simp; omega)] at hys
        refine ⟨ys, ?_⟩
        rw [List.filter_cons_of_neg (by simp; omega), List.filter_cons_of_neg (by simp; omega)]
        exact hys
def bestL (n : Net) : List (List Int) := sameAs (worst n) (leastN n) (allO n)
theorem best_head {n : Net} (h : hasO n = true) : ∃ ys, bestL n = bestO n :: ys := by
  unfold bestL leastN bestO
  have hne := hasO_ne h
  cases ho : allO n with
  | nil => exact absurd ho hne
  | cons x xs => exact bst_head (worst n) x xs
theorem best_mem {n : Net} {l : List Int} : l ∈ bestL n ↔ isOrd n l = true ∧ worst n l = leastN n := by
  unfold bestL sameAs
  rw [List.mem_filter, allO_mem, decide_eq_true_eq]

end Me
end Go.Proofs.Ytbfehifidlojlaa
