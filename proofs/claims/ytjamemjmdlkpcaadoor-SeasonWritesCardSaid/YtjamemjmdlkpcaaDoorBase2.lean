/- More tools: worlds that grew from a block on (latB), appends in a loop, a cell that is written round after round. -/
import Derived.Test.YtjamemjmdlkpcaaDoorBase
namespace Go.Proofs.YtjamemjmdlkpcaaDoor
open Go.RowKit

open Classical in
/-- A world that is w below block B, and perhaps another one from B on. -/
noncomputable def latB (B : Nat) (w δ : World) : World := if Below B w δ then δ else w
theorem latB_below (B : Nat) (w δ : World) : Below B w (latB B w δ) := by
  unfold latB; split
  · assumption
  · exact Below.refl _ _
theorem latB_of {B : Nat} {w w' : World} (h : Below B w w') : latB B w w' = w' := by
  unfold latB; rw [if_pos h]
instance {b B : Nat} {w δ : World} [h : Lt b w] : Lt b (latB B w δ) := ⟨Nat.lt_of_lt_of_le h.out (latB_below B w δ).size⟩
instance {B B' : Nat} {w δ : World} [h : Le B w] : Le B (latB B' w δ) := ⟨Nat.le_trans h.out (latB_below B' w δ).size⟩
@[go_sem] theorem cell_latB (W1 w δ : World) (b o : Nat) [h : Lt b W1] : (latB W1.heap.size w δ).cell? ⟨b, o, none⟩ = w.cell? ⟨b, o, none⟩ := (latB_below _ w δ).cell (p := ⟨b, o, none⟩) h.out
@[go_sem] theorem frozen_latB (W1 w δ : World) (b o : Nat) [h : Lt b W1] : (latB W1.heap.size w δ).frozen? ⟨b, o, none⟩ = w.frozen? ⟨b, o, none⟩ := (latB_below _ w δ).frozen (p := ⟨b, o, none⟩) h.out
instance {B B' : Nat} {w W δ : World} [h : Grew B w W] [hb : LeN B B'] : Grew B w (latB B' W δ) := ⟨by
  have hb := (latB_below B' W δ).mono hb.out
  obtain ⟨a, b, c, d⟩ := h.out
  exact ⟨hb.os.trans a, hb.tape.trans b, hb.output.trans c, fun k hk => (hb.block k hk).trans (d k hk)⟩⟩

/-- One cell of w0 is written, and w0 changes from its end on; the cell is written again: it is as if w0 had grown and the cell were written once. -/
theorem set_back {w0 w2 : World} (δ0 : World) {b i : Nat} {v0 : Value} (x y : Value) (h : w0.cell? ⟨b, i, none⟩ = some v0) [hb : Lt b w0] (hg : Below w0.heap.size ((lat w0 δ0).setCell ⟨b, i, none⟩ x) w2) :
    ∃ δ', w2.setCell ⟨b, i, none⟩ y = (lat w0 δ').setCell ⟨b, i, none⟩ y := by
  have hl0 := lat_below w0 δ0
  have hself : (lat w0 δ0).setCell ⟨b, i, none⟩ v0 = lat w0 δ0 := setCell_self (by rw [cell_lat, h])
  have hblk : ∀ k, k < w0.heap.size → (w2.setCell ⟨b, i, none⟩ v0).heap[k]? = w0.heap[k]? := by
    intro k hk
    have e1 := hg.block k hk
    have e2 : (w2.setCell ⟨b, i, none⟩ v0).heap[k]? = (((lat w0 δ0).setCell ⟨b, i, none⟩ x).setCell ⟨b, i, none⟩ v0).heap[k]? := by
      simp only [World.setCell] at e1 ⊢
      simp only [Array.getElem?_modify] at e1 ⊢
      by_cases hk' : b = k
      · simp only [hk', if_true] at e1 ⊢; rw [e1]
      · simp only [hk', if_false] at e1 ⊢; rw [e1]
    rw [e2, setCell_setCell, hself]
    exact hl0.block k hk
  have hB : Below w0.heap.size w0 (w2.setCell ⟨b, i, none⟩ v0) := by
    refine ⟨hg.os.trans hl0.os, hg.tape.trans hl0.tape, hg.output.trans hl0.output, ?_, hblk⟩
    have := hg.size
    have := hl0.size
    simp only [World.setCell, Array.size_modify] at *
    omega
  exact ⟨_, by rw [lat_of hB, setCell_setCell]⟩

class NeN (a b : Nat) : Prop where
  out : a ≠ b
@[go_sem] theorem cell_set_ne (w : World) (b b' i i' : Nat) (u : Value) [h : NeN b b'] : (w.setCell ⟨b', i', none⟩ u).cell? ⟨b, i, none⟩ = w.cell? ⟨b, i, none⟩ :=
  World.cell?_setCell_other _ _ _ _ (by intro e; injection e with e1 _; exact h.out e1.symm)

/-- A slice type: its elements' type, their zero value, cells and bytes. -/
def SlT (P : Program) (t e : TypeId) (z : Value) (size bytes : Nat) : Prop := ∃ i, P.underlying t = some (.slice e) ∧ P.info? e = some i ∧ i.zero = some z ∧ i.size = size ∧ i.bytes = bytes ∧ z.cells.size = size ∧ 0 < size
theorem SlT.mk {P : Program} {t e : TypeId} {z : Value} {size bytes : Nat} (ht : P.underlying t = some (.slice e)) (hi : (P.info? e).map (fun i => (i.zero, i.size, i.bytes)) = some (some z, size, bytes)) (hzs : z.cells.size = size) (hsz : 0 < size) : SlT P t e z size bytes := by
  obtain ⟨i, a, b, c, d⟩ := info_parts hi
  exact ⟨i, ht, a, b, c, d, hzs, hsz⟩

/-- append onto a row of the call's own (made since the world W1). -/
theorem wpList_append_lat {P : Program} (W1 : World) {W : World} {ops : Array Oper} {rest : List Oper} {o : Oper} {a : Act} {Q : Exit → Act → World → Prop} {t e : TypeId} {z : Value} {size bytes : Nat} (hT : SlT P t e z size bytes)
    (s x : Operand) (hgd : o.guard = none) (ho : o.op = .call { callee := .builtin .append, args := #[s, x], argTypes := #[t, t] })
    (v : Value) (n : Nat) (xs : List Value) (hs : a.eval s = v) (hown : W.ownsRow W1.heap.size e size v n xs)
    (ad : Addr) (m c : Nat) (news : List Value) (hx : a.eval x = .slice (some ad) m c) (hl : news.length = m * size) (hnews : ∀ j u, news[j]? = some u → W.cell? (ad.add j) = some u) (h1 : ∀ u ∈ news, u.oneCell' = true)
    (h63 : n + m ≤ 9223372036854775807) (hbytes : (n + m) * bytes ≤ 140737488355328) [hbase : Le W1.heap.size W]
    (h : ∀ A' c' δ, (latB W1.heap.size W δ).ownsRow W1.heap.size e size (.slice A' (n + m) c') (n + m) (xs ++ news) → wpList P ops Q rest (a.put o.dst (.slice A' (n + m) c')) (latB W1.heap.size W δ)) : wpList P ops Q (o :: rest) a W := by
  obtain ⟨i, ht, hi, hz, hsize, hby, hzs, hsz⟩ := hT
  refine wpList_append_own W hgd s x t ho W1.heap.size e i z size bytes ht hi hz hsize hby hzs hsz v n xs hs hown ad m c news hx hl hnews h1 h63 hbytes hbase.out ?_
  intro v' w' hown' hg _
  obtain ⟨A', c', rfl⟩ := own_form hown'
  have hB : Below W1.heap.size W w' := (Below.refl _ _).grown hg hbase.out fun k hk => (hown.lt k hk).1
  have := h A' c' w'
  rw [latB_of hB] at this
  exact this hown'

/-- .. of elements that were written out just before. -/
theorem wpList_append_new {P : Program} (W1 : World) {W : World} {ops : Array Oper} {rest : List Oper} {o : Oper} {a : Act} {Q : Exit → Act → World → Prop} {t e : TypeId} {z : Value} {size bytes : Nat} (hT : SlT P t e z size bytes)
    (s x : Operand) (hgd : o.guard = none) (ho : o.op = .call { callee := .builtin .append, args := #[s, x], argTypes := #[t, t] })
    {v : Value} {n : Nat} {xs : List Value} (hown : W.ownsRow W1.heap.size e size v n xs) (hs : a.eval s = v)
    {g m c : Nat} {arr : Array Value} {T : TypeId} (hx : a.eval x = .slice (some ⟨g, 0, none⟩) m c) (hg : g = W.heap.size) (hl : arr.size = m * size) (h1 : ∀ u ∈ arr.toList, u.oneCell' = true)
    (h63 : n + m ≤ 1000000) (hbytes : bytes ≤ 1000) [hbase : Le W1.heap.size W]
    (h : ∀ A' c' δ, (latB W1.heap.size (W.alloc (.cells arr T)) δ).ownsRow W1.heap.size e size (.slice A' (n + m) c') (n + m) (xs ++ arr.toList) → wpList P ops Q rest (a.put o.dst (.slice A' (n + m) c')) (latB W1.heap.size (W.alloc (.cells arr T)) δ)) :
    wpList P ops Q (o :: rest) a (W.alloc (.cells arr T)) :=
  wpList_append_lat W1 hT s x hgd ho v n xs hs (hown.alloc _) ⟨g, 0, none⟩ m c arr.toList hx (by simpa using hl)
    (fun j u hj => by
      rw [show (⟨g, 0, none⟩ : Addr).add j = ⟨g, j, none⟩ by simp [Addr.add_lit], World.cell?_alloc_at _ _ _ _ hg]
      simpa using hj) h1 (by omega) (by have := Nat.mul_le_mul h63 hbytes; omega) h

theorem below_inst {B : Nat} {w W : World} [h : Grew B w W] [hs : Le w.heap.size W] : Below B w W := h.out.below
theorem flatMap_snoc {α : Type} [Inhabited α] (enc : α → List Value) (xs : List α) {k : Nat} (h : k < xs.length) : (xs.take (k + 1)).flatMap enc = (xs.take k).flatMap enc ++ enc (nth xs k) := by
  rw [take_snoc xs h, List.flatMap_append]; simp
theorem nth_map {α β : Type} [Inhabited α] [Inhabited β] (f : α → β) (xs : List α) {k : Nat} (h : k < xs.length) : nth (xs.map f) k = f (nth xs k) := by
  rw [nth_get _ (by simpa using h), nth_get _ h]; simp

theorem owns_def {w W : World} {b e s n : Nat} {v : Value} {xs : List Value} (h : W.ownsRow b e s v n xs) [Grew w.heap.size w W] [Le w.heap.size W] : (lat w W).ownsRow b e s v n xs := by rwa [← lat_def (w := w) (W := W)]
theorem sl_def {α : Type} {enc : α → List Value} {w W : World} {A : Option Addr} {c : Nat} {xs : List α} (h : Sl enc W.heap.size W A c xs) [Grew w.heap.size w W] [Le w.heap.size W] : Sl enc (lat w W).heap.size (lat w W) A c xs := by rwa [← lat_def (w := w) (W := W)]

/-! More tools: a block that is known whole, in whatever world. -/
open Go.RowKit

/-- Block b is a row of just these cells, none of them frozen. -/
def Box (w : World) (b : Nat) (T : TypeId) (cs : Array Value) : Prop := w.heap[b]? = some (.cells cs T (0, 0))
section
variable {w W : World} {b : Nat} {T : TypeId} {cs : Array Value}
theorem Box.lt_ (h : Box w b T cs) : b < w.heap.size := by
  rcases Nat.lt_or_ge b w.heap.size with hlt | hge
  · exact hlt
  · unfold Box at h; rw [Array.getElem?_eq_none hge] at h; cases h
theorem Box.lt (h : Box w b T cs) : Lt b w := ⟨h.lt_⟩
theorem Box.cell (h : Box w b T cs) {i : Nat} {v : Value} (hv : cs[i]? = some v) : w.cell? ⟨b, i, none⟩ = some v := by
  unfold Box at h; unfold World.cell?; rw [h]; exact hv
theorem Box.free (h : Box w b T cs) (i : Nat) : w.frozen? ⟨b, i, none⟩ = false := by
  unfold Box at h
  simp [World.frozen?, h]
theorem Box.new {o : Array Value} {n : Nat} (hn : n = w.heap.size) : Box (w.alloc (.cells o T)) n T o := by
  subst hn; exact heap_alloc_new w _
theorem Box.drew (h : Box w b T cs) : Box w.drew b T cs := h
theorem Box.lat (h : Box w b T cs) (δ : World) : Box (lat w δ) b T cs := ((lat_below w δ).block b h.lt_).trans h
theorem Box.alloc (h : Box w b T cs) (o : Obj) : Box (w.alloc o) b T cs := (Below.heap_alloc w o b h.lt_).trans h
theorem Box.set (h : Box w b T cs) (i : Nat) (u : Value) : Box (w.setCell ⟨b, i, none⟩ u) b T (cs.setIfInBounds i u) := by
  unfold Box at h ⊢
  simp [World.setCell, Array.getElem?_modify, h]
theorem Box.far (h : Box w b T cs) {p : Addr} (hp : b ≠ p.block) (u : Value) : Box (w.setCell p u) b T cs := (Below.heap_setCell w p u b hp).trans h
theorem Box.latB {B : Nat} (h : Box w b T cs) (hb : b < B) (δ : World) : Box (latB B w δ) b T cs := ((latB_below B w δ).block b hb).trans h
end

/-- The first number below m that hits, or m. -/
def firstHit (hit : Nat → Bool) : Nat → Nat → Nat
  | 0, k => k
  | f + 1, k => if hit k then k else firstHit hit f (k + 1)
theorem firstHit_spec (hit : Nat → Bool) : ∀ f k, k ≤ firstHit hit f k ∧ firstHit hit f k ≤ k + f ∧ (∀ j, k ≤ j → j < firstHit hit f k → hit j = false) ∧ (firstHit hit f k < k + f → hit (firstHit hit f k) = true)
  | 0, k => ⟨Nat.le_refl _, Nat.le_refl _, fun j h1 h2 => absurd h2 (by simp [firstHit]; omega), fun h => absurd h (by simp [firstHit])⟩
  | f + 1, k => by
    unfold firstHit
    by_cases h : hit k = true
    · rw [if_pos h]; exact ⟨Nat.le_refl _, by omega, fun j h1 h2 => by omega, fun _ => h⟩
    · rw [if_neg h]
      obtain ⟨a, b, c, d⟩ := firstHit_spec hit f (k + 1)
      refine ⟨by omega, by omega, fun j h1 h2 => ?_, fun hh => d (by omega)⟩
      by_cases hj : j = k
      · subst hj; simpa using h
      · exact c j (by omega) h2
theorem firstHit_at (hit : Nat → Bool) {m k : Nat} (hk : k < m) (h0 : ∀ j, j < k → hit j = false) (h1 : hit k = true) : firstHit hit m 0 = k := by
  obtain ⟨a, b, c, d⟩ := firstHit_spec hit m 0
  rcases Nat.lt_trichotomy (firstHit hit m 0) k with h | h | h
  · have := d (by omega); rw [h0 _ h] at this; cases this
  · exact h
  · have := c k (by omega) h; rw [h1] at this; cases this
theorem firstHit_none (hit : Nat → Bool) {m : Nat} (h0 : ∀ j, j < m → hit j = false) : firstHit hit m 0 = m := by
  obtain ⟨a, b, c, d⟩ := firstHit_spec hit m 0
  rcases Nat.lt_or_ge (firstHit hit m 0) m with h | h
  · have := d (by omega); rw [h0 _ h] at this; cases this
  · omega

end Go.Proofs.YtjamemjmdlkpcaaDoor
