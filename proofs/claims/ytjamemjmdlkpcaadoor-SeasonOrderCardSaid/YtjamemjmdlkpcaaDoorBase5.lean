/- More tools: slices that lie in rows of a known type, so that an append to a row of another type leaves them alone. -/
import Derived.Test.YtjamemjmdlkpcaaDoorBase4
namespace Go.Proofs.YtjamemjmdlkpcaaDoor
open Go.RowKit

def CellsT (T : TypeId) (w : World) (B : Nat) (A : Option Addr) (cs : List Value) : Prop :=
  cs ≠ [] → ∃ b o cur fr, A = some ⟨b, o, none⟩ ∧ b < B ∧ w.heap[b]? = some (.cells cur T fr) ∧ ∀ j v, cs[j]? = some v → cur[o + j]? = some v
section
variable {T : TypeId} {w w' : World} {B B' : Nat} {A : Option Addr} {cs : List Value}
theorem CellsT.nil : CellsT T w B A [] := fun h => absurd rfl h
theorem CellsT.keep (h : CellsT T w B A cs) (hB : B ≤ B') (hk : ∀ b cur fr, b < B → w.heap[b]? = some (.cells cur T fr) → w'.heap[b]? = w.heap[b]?) : CellsT T w' B' A cs := fun hc => by
  obtain ⟨b, o, cur, fr, hA, hb, hh, hv⟩ := h hc
  exact ⟨b, o, cur, fr, hA, Nat.lt_of_lt_of_le hb hB, (hk b cur fr hb hh).trans hh, hv⟩
theorem CellsT.plain (h : CellsT T w B A cs) : Cells w B A cs := fun hc => by
  obtain ⟨b, o, cur, fr, hA, hb, hh, hv⟩ := h hc
  refine ⟨b, o, hA, hb, fun j v hj => ?_⟩
  simp only [World.cell?, hh]
  exact hv j v hj
end

/-- A slice that reads as a list, in a row of type T. -/
def Slt {α : Type} (T : TypeId) (enc : α → List Value) (B : Nat) (w : World) (A : Option Addr) (c : Nat) (xs : List α) : Prop :=
  xs.length ≤ c ∧ c ≤ 9223372036854775807 ∧ CellsT T w B A (xs.flatMap enc)
section
variable {α : Type} {enc : α → List Value} {T : TypeId} {B B' : Nat} {w w' : World} {A : Option Addr} {c : Nat} {xs : List α}
theorem Slt.plain (h : Slt T enc B w A c xs) : Sl enc B w A c xs := ⟨h.1, h.2.1, h.2.2.plain⟩
theorem Slt.none_ : Slt T enc B w A 0 ([] : List α) := ⟨Nat.le_refl _, by omega, CellsT.nil⟩
theorem Slt.keep (h : Slt T enc B w A c xs) (hB : B ≤ B') (hk : ∀ b cur fr, b < B → w.heap[b]? = some (.cells cur T fr) → w'.heap[b]? = w.heap[b]?) : Slt T enc B' w' A c xs := ⟨h.1, h.2.1, h.2.2.keep hB hk⟩
theorem Slt.up (h : Slt T enc B w A c xs) [hg : Grew B w w'] : Slt T enc B w' A c xs := h.keep (Nat.le_refl _) fun b _ _ hb _ => hg.out.2.2.2 b hb
theorem Slt.wide (h : Slt T enc B w A c xs) [hg : Grew B w w'] [hB : Le B w'] : Slt T enc w'.heap.size w' A c xs := h.keep hB.out fun b _ _ hb _ => hg.out.2.2.2 b hb
/-- An append to a row of another type. -/
theorem Slt.grown (h : Slt T enc w.heap.size w A c xs) {v : Value} {base : Nat} {e : TypeId} {size n : Nat} {ys : List Value} (hown : w.ownsRow base e size v n ys) (hg : w.grownBy w' v.ownBlock) (hne : e ≠ T) : Slt T enc w'.heap.size w' A c xs :=
  h.keep hg.size fun b cur fr hb hh => hg.block b hb (by
    rcases hown.2 with ⟨rfl, _⟩ | ⟨g, cap, cur', rfl, _, hh', _⟩
    · simp [Value.ownBlock]
    · intro he
      have : b = g := by simpa [Value.ownBlock] using he
      subst this
      rw [hh] at hh'
      injection hh' with hh'
      injection hh' with _ ht
      exact hne ht.symm)
theorem Slt.of_own {base : Nat} {size : Nat} {n : Nat} (h : w.ownsRow base T size (.slice A n c) n (xs.flatMap enc)) (hn : xs.length = n) : Slt T enc w.heap.size w A c xs := by
  subst hn
  have hp := Sl.of_own h
  refine ⟨hp.1, hp.2.1, fun hne => ?_⟩
  rcases h.2 with ⟨hv, h0⟩ | ⟨g, cap, cur, hv, _, hh, hnc, _, hcs, ht⟩
  · have := h.1; rw [h0] at this; simp only [Nat.zero_mul] at this; exact absurd (List.eq_nil_of_length_eq_zero this) hne
  · injection hv with hA _ hc
    subst hA
    have hg : g < w.heap.size := by
      rcases Nat.lt_or_ge g w.heap.size with hlt | hge
      · exact hlt
      · rw [Array.getElem?_eq_none hge] at hh; cases hh
    refine ⟨g, 0, cur, (0, 0), rfl, hg, hh, fun j v hj => ?_⟩
    rw [← ht] at hj
    rw [Nat.zero_add, ← Array.getElem?_toList]
    rw [List.getElem?_take] at hj
    split at hj
    · exact hj
    · cases hj
end

/-- Cells that are slices of lists, each in a row of type T. -/
def Subs {α : Type} (T : TypeId) (enc : α → List Value) (w : World) (cs : List Value) (xss : List (List α)) : Prop :=
  cs.length = xss.length ∧ ∀ i (h : i < xss.length), ∃ A' c', cs[i]? = some (.slice A' xss[i].length c') ∧ Slt T enc w.heap.size w A' c' xss[i]
section
variable {α : Type} {enc : α → List Value} {T : TypeId} {w w' : World} {cs ds : List Value} {xss yss : List (List α)}
theorem Subs.nil : Subs T enc w [] ([] : List (List α)) := ⟨rfl, fun i h => absurd h (by simp)⟩
theorem Subs.keep (h : Subs T enc w cs xss) (hB : w.heap.size ≤ w'.heap.size) (hk : ∀ b cur fr, b < w.heap.size → w.heap[b]? = some (.cells cur T fr) → w'.heap[b]? = w.heap[b]?) : Subs T enc w' cs xss :=
  ⟨h.1, fun i hi => by obtain ⟨A', c', e, s⟩ := h.2 i hi; exact ⟨A', c', e, s.keep hB hk⟩⟩
theorem Subs.below (h : Subs T enc w cs xss) (hb : Below w.heap.size w w') : Subs T enc w' cs xss := h.keep hb.size fun b _ _ hb' _ => hb.block b hb'
theorem Subs.grown (h : Subs T enc w cs xss) {v : Value} {base : Nat} {e : TypeId} {size n : Nat} {ys : List Value} (hown : w.ownsRow base e size v n ys) (hg : w.grownBy w' v.ownBlock) (hne : e ≠ T) : Subs T enc w' cs xss :=
  ⟨h.1, fun i hi => by obtain ⟨A', c', e', s⟩ := h.2 i hi; exact ⟨A', c', e', s.grown hown hg hne⟩⟩
theorem Subs.append (h : Subs T enc w cs xss) (h' : Subs T enc w ds yss) : Subs T enc w (cs ++ ds) (xss ++ yss) := by
  refine ⟨by rw [List.length_append, List.length_append, h.1, h'.1], fun i hi => ?_⟩
  rw [List.length_append] at hi
  by_cases hlt : i < xss.length
  · obtain ⟨A', c', e, s⟩ := h.2 i hlt
    refine ⟨A', c', ?_, ?_⟩
    · rw [List.getElem?_append_left (by rw [h.1]; exact hlt), e, List.getElem_append_left hlt]
    · rw [List.getElem_append_left hlt]; exact s
  · obtain ⟨A', c', e, s⟩ := h'.2 (i - xss.length) (by omega)
    refine ⟨A', c', ?_, ?_⟩
    · rw [List.getElem?_append_right (by rw [h.1]; omega), h.1, e, List.getElem_append_right (by omega)]
    · rw [List.getElem_append_right (by omega)]; exact s
theorem Subs.up (h : Subs T enc w cs xss) [hg : Grew w.heap.size w w'] [hs : Le w.heap.size w'] : Subs T enc w' cs xss := h.below hg.out.below
theorem Subs.oneCell (h : Subs T enc w cs xss) : ∀ u ∈ cs, u.oneCell' = true := by
  intro u hu
  obtain ⟨i, hi, rfl⟩ := List.getElem_of_mem hu
  obtain ⟨A', c', e, _⟩ := h.2 i (by rw [← h.1]; exact hi)
  rw [List.getElem?_eq_getElem hi] at e
  injection e with e
  rw [e]; rfl
theorem Subs.one {A : Option Addr} {c : Nat} {xs : List α} (h : Slt T enc w.heap.size w A c xs) : Subs T enc w [.slice A xs.length c] [xs] :=
  ⟨rfl, fun i hi => by
    have : i = 0 := by simpa using hi
    subst this
    exact ⟨A, c, rfl, h⟩⟩
end

/-- A slice of slices that reads as a list of lists. -/
def SlS {α : Type} (T : TypeId) (enc : α → List Value) (w : World) (A : Option Addr) (c : Nat) (xss : List (List α)) : Prop :=
  xss.length ≤ c ∧ c ≤ 9223372036854775807 ∧ ∃ cs : List Value, Cells w w.heap.size A cs ∧ Subs T enc w cs xss
section
variable {α : Type} {enc : α → List Value} {T : TypeId} {w w' : World} {A : Option Addr} {c : Nat} {xss : List (List α)}
theorem SlS.below (h : SlS T enc w A c xss) (hb : Below w.heap.size w w') : SlS T enc w' A c xss := by
  obtain ⟨h1, h2, cs, h3, h4⟩ := h
  exact ⟨h1, h2, cs, h3.keep hb.size fun b o hb' => hb.cell (p := ⟨b, o, none⟩) hb', h4.below hb⟩
theorem SlS.up (h : SlS T enc w A c xss) [hg : Grew w.heap.size w w'] [hs : Le w.heap.size w'] : SlS T enc w' A c xss := h.below hg.out.below
theorem SlS.at_ (h : SlS T enc w A c xss) {k : Nat} (hk : k < xss.length) : ∃ b o A' c', A = some ⟨b, o, none⟩ ∧ b < w.heap.size ∧ w.cell? ⟨b, o + k, none⟩ = some (.slice A' xss[k].length c') ∧ Slt T enc w.heap.size w A' c' xss[k] := by
  obtain ⟨h1, h2, cs, h3, h4, h5⟩ := h
  obtain ⟨A', c', e, s⟩ := h5 k hk
  obtain ⟨b, o, hA, hb, hc⟩ := h3 (by rintro rfl; simp at e)
  exact ⟨b, o, A', c', hA, hb, hc k _ e, s⟩
theorem SlS.of_own {base : Nat} {e : TypeId} {n : Nat} {cs : List Value} (h : w.ownsRow base e 1 (.slice A n c) n cs) (hs : Subs T enc w cs xss) (hn : xss.length = n) : SlS T enc w A c xss := by
  have hl := h.1
  refine ⟨?_, ?_, cs, Cells.of_own h, hs⟩
  · rcases h.2 with ⟨hv, h0⟩ | ⟨g, cap, cur, hv, _, hh, hnc, _⟩
    · omega
    · injection hv with _ _ hc; omega
  · rcases h.2 with ⟨hv, h0⟩ | ⟨g, cap, cur, hv, _, hh, hnc, hm, _⟩
    · injection hv with _ _ hc; omega
    · injection hv with _ _ hc; unfold maxLen at hm; omega
end

end Go.Proofs.YtjamemjmdlkpcaaDoor
