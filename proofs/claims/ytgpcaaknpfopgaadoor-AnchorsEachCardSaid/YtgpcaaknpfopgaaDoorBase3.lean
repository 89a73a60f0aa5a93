/- More tools: a block that is known whole, in whatever world. -/
import Derived.Test.YtgpcaaknpfopgaaDoorBase2
namespace Go.Proofs.YtgpcaaknpfopgaaDoor
open Go.RowKit

/-- Block b is a row of just these cells, none of them frozen. -/
def Box (w : World) (b : Nat) (T : TypeId) (cs : Array Value) : Prop := w.heap[b]? = some (.cells cs T (0, 0))
section
variable {w W : World} {b : Nat} {T : TypeId} {cs : Array Value}
theorem Box.lt_ (h : Box w b T cs) : b < w.heap.size := by
  rcases Nat.lt_or_ge b w.heap.size with hlt | hge
  · exact hlt
  · unfold Box at h; rw [Array.getElem?_eq_none hge] at h; cases h
theorem Box.lt (h : Box w b T cs) : Lt b w := ⟨h.lt_⟩
theorem Box.cell (h : Box w b T cs) {i : Nat} {v : Value} (hv : cs[i]? = some v) : w.cell? ⟨b, i, none⟩ = some v := by
  unfold Box at h; unfold World.cell?; rw [h]; exact hv
theorem Box.free (h : Box w b T cs) (i : Nat) : w.frozen? ⟨b, i, none⟩ = false := by
  unfold Box at h
  simp [World.frozen?, h]
theorem Box.new {o : Array Value} {n : Nat} (hn : n = w.heap.size) : Box (w.alloc (.cells o T)) n T o := by
  subst hn; exact heap_alloc_new w _
theorem Box.drew (h : Box w b T cs) : Box w.drew b T cs := h
theorem Box.lat (h : Box w b T cs) (δ : World) : Box (lat w δ) b T cs := ((lat_below w δ).block b h.lt_).trans h
theorem Box.alloc (h : Box w b T cs) (o : Obj) : Box (w.alloc o) b T cs := (Below.heap_alloc w o b h.lt_).trans h
theorem Box.set (h : Box w b T cs) (i : Nat) (u : Value) : Box (w.setCell ⟨b, i, none⟩ u) b T (cs.setIfInBounds i u) := by
  unfold Box at h ⊢
  simp [World.setCell, Array.getElem?_modify, h]
theorem Box.far (h : Box w b T cs) {p : Addr} (hp : b ≠ p.block) (u : Value) : Box (w.setCell p u) b T cs := (Below.heap_setCell w p u b hp).trans h
theorem Box.latB {B : Nat} (h : Box w b T cs) (hb : b < B) (δ : World) : Box (latB B w δ) b T cs := ((latB_below B w δ).block b hb).trans h
end

/-- The first number below m that hits, or m. -/
def firstHit (hit : Nat → Bool) : Nat → Nat → Nat
  | 0, k => k
  | f + 1, k => if hit k then k else firstHit hit f (k + 1)
theorem firstHit_spec (hit : Nat → Bool) : ∀ f k, k ≤ firstHit hit f k ∧ firstHit hit f k ≤ k + f ∧ (∀ j, k ≤ j → j < firstHit hit f k → hit j = false) ∧ (firstHit hit f k < k + f → hit (firstHit hit f k) = true)
  | 0, k => ⟨Nat.le_refl _, Nat.le_refl _, fun j h1 h2 => absurd h2 (by simp [firstHit]; omega), fun h => absurd h (by simp [firstHit])⟩
  | f + 1, k => by
    unfold firstHit
    by_cases h : hit k = true
    · rw [if_pos h]; exact ⟨Nat.le_refl _, by omega, fun j h1 h2 => by omega, fun _ => h⟩
    · rw [if_neg h]
      obtain ⟨a, b, c, d⟩ := firstHit_spec hit f (k + 1)
      refine ⟨by omega, by omega, fun j h1 h2 => ?_, fun hh => d (by omega)⟩
      by_cases hj : j = k
      · subst hj; simpa using h
      · exact c j (by omega) h2
theorem firstHit_at (hit : Nat → Bool) {m k : Nat} (hk : k < m) (h0 : ∀ j, j < k → hit j = false) (h1 : hit k = true) : firstHit hit m 0 = k := by
  obtain ⟨a, b, c, d⟩ := firstHit_spec hit m 0
  rcases Nat.lt_trichotomy (firstHit hit m 0) k with h | h | h
  · have := d (by omega); rw [h0 _ h] at this; cases this
  · exact h
  · have := c k (by omega) h; rw [h1] at this; cases this
theorem firstHit_none (hit : Nat → Bool) {m : Nat} (h0 : ∀ j, j < m → hit j = false) : firstHit hit m 0 = m := by
  obtain ⟨a, b, c, d⟩ := firstHit_spec hit m 0
  rcases Nat.lt_or_ge (firstHit hit m 0) m with h | h
  · have := d (by omega); rw [h0 _ h] at this; cases this
  · omega

end Go.Proofs.YtgpcaaknpfopgaaDoor
