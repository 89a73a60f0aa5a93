/- Towards the claim of XLawCalmed: More tools: rows of the call's own that are written cell by cell. -/
import Derived.Test.YtnddiloeikaleaaQ2
import Derived.Deep.LoopGhost
import Derived.Laws.MakeOwn
namespace Go.Proofs.Ytnddiloeikaleaa
open Go.RowKit

section
variable {w : World} {base g i n cap size : Nat} {e : TypeId} {v u : Value} {xs : List Value}
/-- A cell of an owned row is written. -/
theorem own_set (h : w.ownsRow base e size (.slice (some ⟨g, 0, none⟩) n cap) n xs) (_hi : i < xs.length) : (w.setCell ⟨g, i, none⟩ u).ownsRow base e size (.slice (some ⟨g, 0, none⟩) n cap) n (xs.set i u) := by
  refine ⟨by rw [List.length_set]; exact h.1, ?_⟩
  rcases h.2 with ⟨hv, _⟩ | ⟨g', cap', cur, hv, h1, h2, h3, h4, h5, h6⟩
  · cases hv
  · injection hv with hA _ hc
    injection hA with hA
    injection hA with hg
    subst hg hc
    refine .inr ⟨g, cap, cur.setIfInBounds i u, rfl, h1, ?_, h3, h4, by simpa using h5, ?_⟩
    · simp [World.setCell, Array.getElem?_modify, h2]
    · have hl := h.1
      rw [Array.toList_setIfInBounds, List.take_set, h6]
/-- Another block is written. -/
theorem own_far (h : w.ownsRow base e size v n xs) {p : Addr} (hp : v.ownBlock ≠ some p.block) : (w.setCell p u).ownsRow base e size v n xs := by
  refine ⟨h.1, ?_⟩
  rcases h.2 with h2 | ⟨g', cap', cur, hv, h1, h2, h3⟩
  · exact .inl h2
  · refine .inr ⟨g', cap', cur, hv, h1, ?_, h3⟩
    rw [← h2]
    refine Below.heap_setCell w p u g' ?_
    rintro rfl
    exact hp (by rw [hv]; rfl)
/-- The cells of an owned row that is not empty. -/
theorem own_at {A : Option Addr} {c : Nat} (h : w.ownsRow base e size (.slice A n c) n xs) (hn : 0 < n) : ∃ g, A = some ⟨g, 0, none⟩ ∧ base ≤ g ∧ Lt g w ∧ (∀ j x, xs[j]? = some x → w.cell? ⟨g, j, none⟩ = some x) ∧ ∀ j, w.frozen? ⟨g, j, none⟩ = false := by
  rcases h.2 with ⟨_, h0⟩ | ⟨g', cap', cur, hv, h1, h2, h3, h4, h5, h6⟩
  · omega
  · injection hv with hA _ hc
    subst hA hc
    refine ⟨g', rfl, h1, ⟨?_⟩, fun j x hj => ?_, fun j => by simp [World.frozen?, h2]⟩
    · rcases Nat.lt_or_ge g' w.heap.size with hlt | hge
      · exact hlt
      · rw [Array.getElem?_eq_none hge] at h2; cases h2
    · have := h.cells (g := g') rfl j x hj
      simpa [Addr.add_lit] using this
theorem own_block {A : Option Addr} {c : Nat} (h : w.ownsRow base e size (.slice A n c) n xs) : ∀ g, (Value.slice A n c).ownBlock = some g → base ≤ g ∧ g < w.heap.size := fun g hg => h.lt g hg
end

theorem flatMap_set {α : Type} [Inhabited α] (enc : α → List Value) (size : Nat) (hs : ∀ x, (enc x).length = size) (xs : List α) (k j : Nat) (u : Value) (y : α) (hk : k < xs.length) (hj : j < size) (hy : enc y = (enc (nth xs k)).set j u) :
    (xs.flatMap enc).set (k * size + j) u = (xs.set k y).flatMap enc := by
  induction xs generalizing k with
  | nil => simp at hk
  | cons x xs ih =>
    cases k with
    | zero =>
      rw [List.set_cons_zero, List.flatMap_cons, List.flatMap_cons, Nat.zero_mul, Nat.zero_add]
      rw [List.set_append_left _ _ (by rw [hs]; exact hj)]
      rw [hy]; rfl
    | succ k =>
      rw [List.set_cons_succ, List.flatMap_cons, List.flatMap_cons, Nat.succ_mul]
      rw [List.set_append_right _ _ (by rw [hs]; omega), hs]
      rw [show k * size + size + j - size = k * size + j by omega]
      rw [ih k (by simpa using hk) (by simpa [nth] using hy)]
theorem flatMap_nth {α : Type} [Inhabited α] (enc : α → List Value) (size : Nat) (hs : ∀ x, (enc x).length = size) (xs : List α) (k j : Nat) (hk : k < xs.length) (hj : j < size) : (xs.flatMap enc)[k * size + j]? = (enc (nth xs k))[j]? := by
  induction xs generalizing k with
  | nil => simp at hk
  | cons x xs ih =>
    cases k with
    | zero =>
      rw [List.flatMap_cons, Nat.zero_mul, Nat.zero_add, List.getElem?_append_left (by rw [hs]; exact hj)]; rfl
    | succ k =>
      rw [List.flatMap_cons, Nat.succ_mul, List.getElem?_append_right (by rw [hs]; omega), hs, show k * size + size + j - size = k * size + j by omega]
      rw [ih k (by simpa using hk)]; rfl

/-- A new row out of 'make'. -/
theorem own_make {w : World} {base g n size : Nat} {e : TypeId} {cs : Array Value} (hb : base ≤ w.heap.size) (hg : g = w.heap.size) (hn : n ≤ 9223372036854775807) (hs : cs.size = n * size) : (w.alloc (.cells cs e)).ownsRow base e size (.slice (some ⟨g, 0, none⟩) n n) n cs.toList := by
  subst hg
  refine ⟨by simpa using hs, .inr ⟨w.heap.size, n, cs, rfl, hb, heap_alloc_new w _, Nat.le_refl _, by unfold maxLen; omega, hs, ?_⟩⟩
  rw [List.take_of_length_le (by simp; omega)]

/-- The cells of a new row out of 'make'. -/
def newCells (z : Value) (size n : Nat) : Array Value := madeCells z.cells (n * size)
theorem newCells_size (z : Value) (size n : Nat) : (newCells z size n).size = n * size := size_madeCells _ _
theorem newCells_int (n : Nat) (_x : Value) : newCells (.int .i64 0) 1 n = Array.replicate n (.int .i64 0) := by
  apply Array.ext
  · rw [newCells_size]; simp
  · intro i h1 h2
    simp [newCells, madeCells, Value.cells, Nat.mod_one]
theorem run_mk {P : Program} {t e : TypeId} {z : Value} {size bytes : Nat} (hT : SlT P t e z size bytes) (n : Nat) (hn : n ≤ 1000000) (hb : bytes ≤ 1000) :
    ∀ W : World, (Instr.makeSlice t (.int .i64 n) (.int .i64 n)).run P W = .ok (.slice (some ⟨W.heap.size, 0, none⟩) n n) (W.alloc (.cells (newCells z size n) e)) := by
  intro W
  obtain ⟨i, ht, hi, hz, hsize, hby, hzs, hsz⟩ := hT
  have h1 : bytes * n ≤ 1000 * 1000000 := Nat.mul_le_mul hb hn
  have h2 : (i.bytes : Int) * (n : Int) ≤ 281474976710656 := by
    have h : ((i.bytes * n : Nat) : Int) ≤ 281474976710656 := by rw [hby]; omega
    rwa [Int.natCast_mul] at h
  have := run_make (P := P) W t e i z ht hi hz .i64 .i64 n n (by omega) (Int.le_refl _) h2 (by omega)
  simp only [Int.toNat_natCast, hsize] at this
  exact this

end Go.Proofs.Ytnddiloeikaleaa
