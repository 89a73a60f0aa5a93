/- More tools: append of a slice that reads as a list (nil let in), in plain regions and in regions that draw their order; slices of slices. -/
import Derived.Test.YtjamemjmdlkpcaaDoorBase2
namespace Go.Proofs.YtjamemjmdlkpcaaDoor
open Go.RowKit

theorem run_append_nil {P : Program} (w : World) {base : Nat} {t ty e : TypeId} {z : Value} {size bytes : Nat} (hT : SlT P t e z size bytes) {v : Value} {n : Nat} {xs : List Value} (hown : w.ownsRow base e size v n xs) (c : Nat) :
    (Builtin.append_ #[t, t] ty #[v, .slice none 0 c]).run P w = .ok v w := by
  obtain ⟨i, ht, hi, _⟩ := hT
  rcases hown.2 with ⟨rfl, rfl⟩ | ⟨g, cap, cur, rfl, _, _, hnc, _⟩
  · simp [Builtin.append_, run_underlying ht, sizeOf, typeInfo, hi, Builtin.lenOf, Builtin.firstCells]
  · simp [Builtin.append_, run_underlying ht, sizeOf, typeInfo, hi, Builtin.lenOf, Builtin.firstCells, hnc, storeCells]

theorem run_append_cells {P : Program} (w : World) {base : Nat} {t ty e : TypeId} {z : Value} {size bytes : Nat} (hT : SlT P t e z size bytes) {v : Value} {n : Nat} {xs : List Value} (hown : w.ownsRow base e size v n xs)
    {B m c : Nat} {A : Option Addr} {news : List Value} (hr : Cells w B A news) (hl : news.length = m * size) (h1 : ∀ u ∈ news, u.oneCell' = true)
    (h63 : n + m ≤ 1000000) (hbytes : bytes ≤ 1000) [hbase : Le base w] :
    ∃ v' w', (Builtin.append_ #[t, t] ty #[v, .slice A m c]).run P w = .ok v' w' ∧ w'.ownsRow base e size v' (n + m) (xs ++ news) ∧ w.grownBy w' v.ownBlock := by
  have hT' := hT
  obtain ⟨i, ht, hi, hz, hsize, hby, hzs, hsz⟩ := hT
  cases A with
  | none =>
    have hn : news = [] := by
      rcases news with _ | ⟨u, us⟩
      · rfl
      · obtain ⟨_, _, h, _⟩ := hr (by simp); cases h
    subst hn
    have hm : m = 0 := by
      rcases Nat.eq_zero_or_pos m with h | h
      · exact h
      · have := Nat.mul_pos h hsz; simp at hl; omega
    subst hm
    exact ⟨v, w, run_append_nil w hT' hown c, by simpa using hown, World.grownBy.refl w _⟩
  | some ad =>
    obtain ⟨v', w', h2, h3, h4, _⟩ := run_append_own (P := P) w base t ty e i z size bytes ht hi hz hsize hby hzs hsz v n xs hown ad m c news hl (by
      intro j u hj
      obtain ⟨b, o, hA, _, hc⟩ := hr (by rintro rfl; simp at hj)
      injection hA with hA
      subst hA
      rw [show (⟨b, o, none⟩ : Addr).add j = ⟨b, o + j, none⟩ by simp [Addr.add_lit]]
      exact hc j u hj) h1 (by unfold maxLen; omega) (by have := Nat.mul_le_mul h63 hbytes; omega) hbase.out
    exact ⟨v', w', h2, h3, h4⟩

/-- append of a slice, in the midst of a region. -/
theorem wp_append_cells {P : Program} (W1 : World) {W : World} {o : Oper} {a : Act} {K : Act → World → Prop} {Q : Exit → Act → World → Prop} {t e : TypeId} {z : Value} {size bytes : Nat} (hT : SlT P t e z size bytes)
    (s x : Operand) (ho : o.op = .call { callee := .builtin .append, args := #[s, x], argTypes := #[t, t] })
    {v : Value} {n : Nat} {xs : List Value} (hown : W.ownsRow W1.heap.size e size v n xs) (hs : a.eval s = v)
    {B m c : Nat} {A : Option Addr} {news : List Value} (hx : a.eval x = .slice A m c) (hr : Cells W B A news) (hl : news.length = m * size) (h1 : ∀ u ∈ news, u.oneCell' = true)
    (h63 : n + m ≤ 1000000) (hbytes : bytes ≤ 1000) [hbase : Le W1.heap.size W]
    (h : ∀ A' c' δ, (latB W1.heap.size W δ).ownsRow W1.heap.size e size (.slice A' (n + m) c') (n + m) (xs ++ news) → W.grownBy (latB W1.heap.size W δ) v.ownBlock → K (a.put o.dst (.slice A' (n + m) c')) (latB W1.heap.size W δ)) : o.wp P a W K Q := by
  obtain ⟨v', w', hrun, hown', hg⟩ := run_append_cells (P := P) (ty := o.type) W hT hown hr hl h1 h63 hbytes
  obtain ⟨A', c', rfl⟩ := own_form hown'
  have hB : Below W1.heap.size W w' := (Below.refl _ _).grown hg hbase.out fun k hk => (hown.lt k hk).1
  have := h A' c' w'
  rw [latB_of hB] at this
  have h9 := this hown' hg
  unfold Oper.wp execOp
  simp only [ho, resolve, invoke, builtin, Sem.run_bind, Sem.run_pure, Result.andThen_ok, List.map_toArray, List.map_cons, List.map_nil, hs, hx]
  rw [hrun]
  exact h9

theorem wpList_append_cells {P : Program} (W1 : World) {W : World} {ops : Array Oper} {rest : List Oper} {o : Oper} {a : Act} {Q : Exit → Act → World → Prop} {t e : TypeId} {z : Value} {size bytes : Nat} (hT : SlT P t e z size bytes)
    (s x : Operand) (hgd : o.guard = none) (ho : o.op = .call { callee := .builtin .append, args := #[s, x], argTypes := #[t, t] })
    {v : Value} {n : Nat} {xs : List Value} (hown : W.ownsRow W1.heap.size e size v n xs) (hs : a.eval s = v)
    {B m c : Nat} {A : Option Addr} {news : List Value} (hx : a.eval x = .slice A m c) (hr : Cells W B A news) (hl : news.length = m * size) (h1 : ∀ u ∈ news, u.oneCell' = true)
    (h63 : n + m ≤ 1000000) (hbytes : bytes ≤ 1000) [hbase : Le W1.heap.size W]
    (h : ∀ A' c' δ, (latB W1.heap.size W δ).ownsRow W1.heap.size e size (.slice A' (n + m) c') (n + m) (xs ++ news) → W.grownBy (latB W1.heap.size W δ) v.ownBlock → wpList P ops Q rest (a.put o.dst (.slice A' (n + m) c')) (latB W1.heap.size W δ)) : wpList P ops Q (o :: rest) a W :=
  wpList_plain hgd fun _ hK => wp_append_cells W1 hT s x ho hown hs hx hr hl h1 h63 hbytes fun A' c' δ h2 h3 => hK _ _ (h A' c' δ h2 h3)

theorem step_append_cells {P : Program} (W1 : World) {W : World} {ops : Array Oper} {o : Oper} {a : Act} {K : Act → World → Prop} {Q : Exit → Act → World → Prop} {E : Prop} {t e : TypeId} {z : Value} {size bytes : Nat} (hT : SlT P t e z size bytes)
    (s x : Operand) (hgd : o.guard = none) (ho : o.op = .call { callee := .builtin .append, args := #[s, x], argTypes := #[t, t] })
    {v : Value} {n : Nat} {xs : List Value} (hown : W.ownsRow W1.heap.size e size v n xs) (hs : a.eval s = v)
    {B m c : Nat} {A : Option Addr} {news : List Value} (hx : a.eval x = .slice A m c) (hr : Cells W B A news) (hl : news.length = m * size) (h1 : ∀ u ∈ news, u.oneCell' = true)
    (h63 : n + m ≤ 1000000) (hbytes : bytes ≤ 1000) [hbase : Le W1.heap.size W]
    (h : ∀ A' c' δ, (latB W1.heap.size W δ).ownsRow W1.heap.size e size (.slice A' (n + m) c') (n + m) (xs ++ news) → W.grownBy (latB W1.heap.size W δ) v.ownBlock → K (a.put o.dst (.slice A' (n + m) c')) (latB W1.heap.size W δ)) :
    if Region.wanted o (yielded ops a.tmps) = true then Oper.wp P o a W K Q else E := by
  have hw : Region.wanted o (yielded ops a.tmps) = true := by simp [Region.wanted, hgd]
  rw [if_pos hw]
  exact wp_append_cells W1 hT s x ho hown hs hx hr hl h1 h63 hbytes h

theorem cells_lit {W : World} {arr : Array Value} {T : TypeId} {g : Nat} (hg : g = W.heap.size) : Cells (W.alloc (.cells arr T)) (g + 1) (some ⟨g, 0, none⟩) arr.toList :=
  fun _ => ⟨g, 0, rfl, by omega, fun j v hj => by rw [Nat.zero_add, World.cell?_alloc_at _ _ _ _ hg]; simpa using hj⟩
/-- append of elements that were written out just before: what else there is stays. -/
theorem wpList_append_newg {P : Program} (W1 : World) {W : World} {ops : Array Oper} {rest : List Oper} {o : Oper} {a : Act} {Q : Exit → Act → World → Prop} {t e : TypeId} {z : Value} {size bytes : Nat} (hT : SlT P t e z size bytes)
    (s x : Operand) (hgd : o.guard = none) (ho : o.op = .call { callee := .builtin .append, args := #[s, x], argTypes := #[t, t] })
    {v : Value} {n : Nat} {xs : List Value} (hown : W.ownsRow W1.heap.size e size v n xs) (hs : a.eval s = v)
    {g m c : Nat} {arr : Array Value} {T : TypeId} (hx : a.eval x = .slice (some ⟨g, 0, none⟩) m c) (hg : g = W.heap.size) (hl : arr.size = m * size) (h1 : ∀ u ∈ arr.toList, u.oneCell' = true)
    (h63 : n + m ≤ 1000000) (hbytes : bytes ≤ 1000) [hbase : Le W1.heap.size W]
    (h : ∀ A' c' δ, (latB W1.heap.size (W.alloc (.cells arr T)) δ).ownsRow W1.heap.size e size (.slice A' (n + m) c') (n + m) (xs ++ arr.toList) → (W.alloc (.cells arr T)).grownBy (latB W1.heap.size (W.alloc (.cells arr T)) δ) v.ownBlock → wpList P ops Q rest (a.put o.dst (.slice A' (n + m) c')) (latB W1.heap.size (W.alloc (.cells arr T)) δ)) :
    wpList P ops Q (o :: rest) a (W.alloc (.cells arr T)) :=
  wpList_append_cells W1 hT s x hgd ho (hown.alloc _) hs hx (cells_lit hg) (by simpa using hl) h1 h63 hbytes h

/-! ### Slices of slices of numbers -/
/-- A list of cells that are slices, each of which reads as a list. -/
def SlL {α : Type} (enc : α → List Value) (B : Nat) (w : World) (A : Option Addr) (c : Nat) (xss : List (List α)) : Prop :=
  xss.length ≤ c ∧ c ≤ 9223372036854775807 ∧ ∃ cs : List Value, Cells w B A cs ∧ cs.length = xss.length ∧ ∀ i (h : i < xss.length), ∃ A' c', cs[i]? = some (.slice A' xss[i].length c') ∧ Sl enc B w A' c' xss[i]
section
variable {α : Type} {enc : α → List Value} {B : Nat} {w w' : World} {A : Option Addr} {c : Nat} {xss : List (List α)}
theorem SlL.keep (h : SlL enc B w A c xss) {B' : Nat} (hB : B ≤ B') (hk : ∀ b o, b < B → w'.cell? ⟨b, o, none⟩ = w.cell? ⟨b, o, none⟩) : SlL enc B' w' A c xss := by
  obtain ⟨h1, h2, cs, h3, h4, h5⟩ := h
  exact ⟨h1, h2, cs, h3.keep hB hk, h4, fun i hi => by obtain ⟨A', c', e, s⟩ := h5 i hi; exact ⟨A', c', e, s.keep hB hk⟩⟩
theorem SlL.up (h : SlL enc B w A c xss) [hg : Grew B w w'] : SlL enc B w' A c xss := h.keep (Nat.le_refl _) (cells_same hg.out)
theorem SlL.wide (h : SlL enc B w A c xss) [hg : Grew B w w'] [hB : Le B w'] : SlL enc w'.heap.size w' A c xss := h.keep hB.out (cells_same hg.out)
theorem SlL.at_ (h : SlL enc B w A c xss) {k : Nat} (hk : k < xss.length) : ∃ b o A' c', A = some ⟨b, o, none⟩ ∧ b < B ∧ w.cell? ⟨b, o + k, none⟩ = some (.slice A' xss[k].length c') ∧ Sl enc B w A' c' xss[k] := by
  obtain ⟨h1, h2, cs, h3, h4, h5⟩ := h
  obtain ⟨A', c', e, s⟩ := h5 k hk
  obtain ⟨b, o, hA, hb, hc⟩ := h3 (by rintro rfl; simp at e)
  exact ⟨b, o, A', c', hA, hb, hc k _ e, s⟩
end

end Go.Proofs.YtjamemjmdlkpcaaDoor
