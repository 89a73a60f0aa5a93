/- More tools: rows of the call's own, appended to. No program's function is named here. -/
import Derived.Test.YtjamemjmdlkpcaaDoorBase5
import Derived.Test.YtjamemjmdlkpcaaDoorBase6
namespace Go.Proofs.YtjamemjmdlkpcaaDoor
open Go.RowKit

theorem owns_up {w W : World} {b e s n : Nat} {v : Value} {xs : List Value} (h : w.ownsRow b e s v n xs) [hg : Grew w.heap.size w W] : W.ownsRow b e s v n xs := by
  refine ⟨h.1, ?_⟩
  rcases h.2 with h2 | ⟨g, cap, cur, hv, hb, hh, r⟩
  · exact .inl h2
  · refine .inr ⟨g, cap, cur, hv, hb, ?_, r⟩
    rw [hg.out.2.2.2 g, hh]
    rcases Nat.lt_or_ge g w.heap.size with hlt | hge
    · exact hlt
    · rw [Array.getElem?_eq_none hge] at hh; cases hh
theorem own_lit0 {W : World} {base e size g : Nat} (hb : base ≤ W.heap.size) (hg : g = W.heap.size) : (W.alloc (.cells #[] e)).ownsRow base e size (.slice (some ⟨g, 0, none⟩) 0 0) 0 [] := by
  subst hg
  have := World.ownsRow_lit (base := base) (e := e) (size := size) W #[] 0 hb (by unfold maxLen; omega) (by simp)
  simpa using this
theorem cells_one {W : World} {g B : Nat} {v : Value} (h : W.cell? ⟨g, 0, none⟩ = some v) (hg : g < B) : Cells W B (some ⟨g, 0, none⟩) [v] := fun _ => ⟨g, 0, rfl, hg, fun j u hj => by
  cases j with
  | zero => simp at hj; subst hj; exact h
  | succ j => simp at hj⟩

theorem step_append_lit {P : Program} (W1 : World) {W : World} {ops : Array Oper} {o : Oper} {a : Act} {K : Act → World → Prop} {Q : Exit → Act → World → Prop} {E : Prop} {t e : TypeId} {z : Value} {size bytes : Nat} (hT : SlT P t e z size bytes)
    (s x : Operand) (hgd : o.guard = none) (ho : o.op = .call { callee := .builtin .append, args := #[s, x], argTypes := #[t, t] })
    {v : Value} (hown : W.ownsRow W1.heap.size e size v 0 []) (hs : a.eval s = v)
    {B m c : Nat} {A : Option Addr} {news : List Value} (hx : a.eval x = .slice A m c) (hr : Cells W B A news) (hl : news.length = m * size) (h1 : ∀ u ∈ news, u.oneCell' = true)
    (h63 : m ≤ 1000000) (hbytes : bytes ≤ 1000) [hbase : Le W1.heap.size W]
    (h : ∀ A' c' δ, (latB W1.heap.size W δ).ownsRow W1.heap.size e size (.slice A' m c') m news → W.grownBy (latB W1.heap.size W δ) v.ownBlock → K (a.put o.dst (.slice A' m c')) (latB W1.heap.size W δ)) :
    if Region.wanted o (yielded ops a.tmps) = true then Oper.wp P o a W K Q else E :=
  step_append_cells W1 hT s x hgd ho hown hs hx hr hl h1 (by omega) hbytes fun A' c' δ h2 h3 => by
    rw [Nat.zero_add, List.nil_append] at h2
    rw [Nat.zero_add]
    exact h A' c' δ h2 h3

theorem len_enc {α : Type} (enc : α → List Value) (size : Nat) (h : ∀ x, (enc x).length = size) (xs : List α) : (xs.flatMap enc).length = xs.length * size := by
  induction xs with
  | nil => simp
  | cons x xs ih => rw [List.flatMap_cons, List.length_append, ih, h, List.length_cons, Nat.succ_mul]; omega
theorem one_enc {α : Type} (enc : α → List Value) (h : ∀ x, ∀ u ∈ enc x, u.oneCell' = true) (xs : List α) : ∀ u ∈ xs.flatMap enc, u.oneCell' = true := by
  intro u hu
  rw [List.mem_flatMap] at hu
  obtain ⟨x, _, hx⟩ := hu
  exact h x u hx
theorem wpList_append_lit {P : Program} (W1 : World) {W : World} {ops : Array Oper} {rest : List Oper} {o : Oper} {a : Act} {Q : Exit → Act → World → Prop} {t e : TypeId} {z : Value} {size bytes : Nat} (hT : SlT P t e z size bytes)
    (s x : Operand) (hgd : o.guard = none) (ho : o.op = .call { callee := .builtin .append, args := #[s, x], argTypes := #[t, t] })
    {v : Value} (hown : W.ownsRow W1.heap.size e size v 0 []) (hs : a.eval s = v)
    {B m c : Nat} {A : Option Addr} {news : List Value} (hx : a.eval x = .slice A m c) (hr : Cells W B A news) (hl : news.length = m * size) (h1 : ∀ u ∈ news, u.oneCell' = true)
    (h63 : m ≤ 1000000) (hbytes : bytes ≤ 1000) [hbase : Le W1.heap.size W]
    (h : ∀ A' c' δ, (latB W1.heap.size W δ).ownsRow W1.heap.size e size (.slice A' m c') m news → W.grownBy (latB W1.heap.size W δ) v.ownBlock → wpList P ops Q rest (a.put o.dst (.slice A' m c')) (latB W1.heap.size W δ)) : wpList P ops Q (o :: rest) a W :=
  wpList_append_cells W1 hT s x hgd ho hown hs hx hr hl h1 (by omega) hbytes fun A' c' δ h2 h3 => by
    rw [Nat.zero_add, List.nil_append] at h2
    rw [Nat.zero_add]
    exact h A' c' δ h2 h3

theorem ownsRow_past {W W' : World} {o : Obj} {base : Nat} {e : TypeId} {size n g k c : Nat} {v : Value} {xs : List Value} (h : W.ownsRow base e size v n xs) (hg : g = W.heap.size) (hgr : (W.alloc o).grownBy W' (Value.slice (some ⟨g, 0, none⟩) k c).ownBlock) : W'.ownsRow base e size v n xs :=
  (h.alloc o).kept hgr (.inr fun he => by
    have := (h.lt g (by rw [he]; rfl)).2
    omega)
theorem owns_mono {base base' : Nat} {w : World} {e : TypeId} {size n : Nat} {v : Value} {xs : List Value} (h : w.ownsRow base e size v n xs) (hb : base' ≤ base) : w.ownsRow base' e size v n xs :=
  ⟨h.1, h.2.imp id fun ⟨g, cap, cur, h1, h2, h3⟩ => ⟨g, cap, cur, h1, Nat.le_trans hb h2, h3⟩⟩
theorem ownsRow_set_below {base b i : Nat} {w : World} {e : TypeId} {size n : Nat} {v u : Value} {xs : List Value} (h : w.ownsRow base e size v n xs) (hb : b < base) : (w.setCell ⟨b, i, none⟩ u).ownsRow base e size v n xs := ownsRow_setCell_below h (a := ⟨b, i, none⟩) hb u

end Go.Proofs.YtjamemjmdlkpcaaDoor
