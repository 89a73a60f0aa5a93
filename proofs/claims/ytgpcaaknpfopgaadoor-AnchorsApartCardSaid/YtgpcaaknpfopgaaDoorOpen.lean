/- How arguments that are nets, truths and numbers come in: their cells. (open_slice_fields: by the guide's page extra-structs.) -/
import Derived.Test.YtgpcaaknpfopgaaDoorAn8
import Derived.Test.YtgpcaaknpfopgaaDoorBase6
import Derived.Deep.Slices
import Derived.Deep.Fields
import Derived.ChangeSame
import Derived.ChangeSlices
import Derived.ProofKit
import Derived.OpenShut
namespace Go.Proofs.YtgpcaaknpfopgaaDoor
open Go.RowKit Go.ChangeShapes Go.WideShapes Go.Deep
open An

section
variable {H : Type} {enc : TypeId × Value → H} {P : Program} {w : World} {base : Nat} {spare : Nat → Bool} {held : Bool}
theorem open_slice_fields {t e : TypeId} {fs : Array Field} {fuel : Nat} {cs : List Value} {x : DataW H × List MemPlace} (ht : P.underlying t = some (.slice e)) (he : P.underlying e = some (.struct fs))
    (hone : oneCellFields P fs = true) (hC : P.cellsOf e = fs.size) (h : DataW.trod enc P w base spare held fuel t cs = some x) :
    (cs = [.slice none 0 0] ∧ x = (.nil, [])) ∨
    ∃ (a : Addr) (len cap m : Nat) (D : Nat → DataW H) (Pl : Nat → List MemPlace), cs = [.slice (some a) len cap] ∧ base ≤ a.block ∧ len ≤ cap ∧ cap ≤ maxLen ∧ m = (if spare a.block then cap else len) ∧
      x = (.slice ((List.range len).map D) ((List.range (m - len)).map fun j => D (len + j)), MemPlace.row a (m * fs.size) ++ (List.range m).flatMap Pl) ∧
      ∀ i, i < m → ∃ (ys : List (DataW H × List MemPlace)) (n : Nat), D i = .agg (ys.map (·.1)) ∧ Pl i = ys.flatMap (·.2) ∧ ys.length = fs.size ∧
        ∀ (j : Nat) (f : Field), fs[j]? = some f → ∃ (v : Value) (y : DataW H × List MemPlace), w.cell? (a.add (i * fs.size + j)) = some v ∧ ys[j]? = some y ∧ DataW.trod enc P w base spare held n f.type [v] = some y := by
  rcases open_slice ht h with h0 | ⟨a, len, cap, m, n, D, Pl, hcs, hb, hl, hm, hmm, hx, hi⟩
  · exact .inl h0
  · refine .inr ⟨a, len, cap, m, D, Pl, hcs, hb, hl, hm, hmm, by rw [hC] at hx; exact hx, fun i him => ?_⟩
    obtain ⟨cs', hc, ht'⟩ := hi i him
    rw [hC] at hc
    obtain ⟨ys, n', hn', hy, hlen, hyl, hf⟩ := DataW.trod_struct he ht'
    obtain ⟨_, hcl, hat⟩ := World.cells?_some hc
    simp only [Prod.mk.injEq] at hy
    refine ⟨ys, n', hy.1, hy.2, hyl, fun j f hj => ?_⟩
    obtain ⟨ho, hk⟩ := hone_of hone j f hj
    have hjl : j < fs.size := (Array.getElem?_eq_some_iff.1 hj).1
    have hcell := hat j hjl
    have hv : cs'[j]? = some (cs'[j]'(by omega)) := List.getElem?_eq_getElem (by omega)
    have h1 := hf j f hj
    rw [ho, hk] at h1
    have hone' : (cs'.drop j).take 1 = [cs'[j]'(by omega)] := by
      rw [List.drop_eq_getElem_cons (by omega)]
      rfl
    rw [hone'] at h1
    have hys : ys[j]? = some (ys[j]'(by omega)) := List.getElem?_eq_getElem (by omega)
    refine ⟨_, _, ?_, hys, h1.trans hys⟩
    rw [← Go.Deep.add_add, hcell, hv]
end

theorem len_en {α : Type} (enc : α → List Value) (size : Nat) (h : ∀ x, (enc x).length = size) (xs : List α) : (xs.flatMap enc).length = xs.length * size := by
  induction xs with
  | nil => simp
  | cons x xs ih => rw [List.flatMap_cons, List.length_append, ih, h, List.length_cons, Nat.succ_mul]; omega
theorem nth_range_map0 {α : Type} [Inhabited α] (f : Nat → α) {m j : Nat} (h : j < m) : nth ((List.range m).map f) j = f j := by
  rw [nth_get _ (by simpa using h)]; simp

section
variable {H : Type} {enc : TypeId × Value → H} {P : Program} {w : World} {spare : Nat → Bool} {held : Bool}
open Classical in
/-- A slice of structs of numbers. -/
theorem open_sl {α : Type} [Inhabited α] {en : α → List Value} {t e : TypeId} {fs : Array Field} {fuel : Nat} {v : Value} {x : DataW H × List MemPlace} (ht : P.underlying t = some (.slice e)) (he : P.underlying e = some (.struct fs))
    (hone : oneCellFields P fs = true) (hC : P.cellsOf e = fs.size) (hp : 0 < fs.size) (hint : ∀ (j : Nat) (f : Field), fs[j]? = some f → P.underlying f.type = some (.int .i64)) (mk : (Nat → Int) → α) (hmk : ∀ f, en (mk f) = (List.range fs.size).map fun j => Value.int .i64 (f j)) (hen : ∀ x, (en x).length = fs.size)
    (h : DataW.trod enc P w 0 spare held fuel t [v] = some x) : ∃ (A : Option Addr) (c : Nat) (xs : List α), v = .slice A xs.length c ∧ Sl en w.heap.size w A c xs := by
  rcases open_slice_fields ht he hone hC h with ⟨hcs, _⟩ | ⟨a, len, cap, m, D, Pl, hcs, _, hl, hm, hmm, _, hi⟩
  · simp at hcs
    exact ⟨none, 0, [], hcs, Sl.none_⟩
  · simp at hcs
    have hlm : len ≤ m := by rw [hmm]; split <;> omega
    have hcell : ∀ i, i < len → ∀ j, j < fs.size → ∃ n : Int, w.cell? (a.add (i * fs.size + j)) = some (.int .i64 n) := by
      intro i hil j hj
      obtain ⟨ys, n, _, _, _, hf⟩ := hi i (by omega)
      obtain ⟨v', y, hc, _, htr⟩ := hf j (fs[j]'hj) (Array.getElem?_eq_getElem hj)
      obtain ⟨k, hk, _⟩ := DataW.trod_int (hint j _ (Array.getElem?_eq_getElem hj)) htr
      simp at hk
      exact ⟨k, by rw [hc, hk]⟩
    let F : Nat → Nat → Int := fun i j => if h : ∃ n : Int, w.cell? (a.add (i * fs.size + j)) = some (.int .i64 n) then Classical.choose h else 0
    have hF : ∀ i, i < len → ∀ j, j < fs.size → w.cell? (a.add (i * fs.size + j)) = some (.int .i64 (F i j)) := by
      intro i hil j hj
      have he := hcell i hil j hj
      show _ = some (Value.int .i64 (if h : ∃ n : Int, w.cell? (a.add (i * fs.size + j)) = some (.int .i64 n) then Classical.choose h else 0))
      rw [dif_pos he]
      exact Classical.choose_spec he
    refine ⟨some a, cap, (List.range len).map fun i => mk (F i), by simpa using hcs, ?_⟩
    refine ⟨by simpa using hl, by unfold maxLen at hm; omega, ?_⟩
    intro hne
    have hlen : 0 < len := by
      rcases Nat.eq_zero_or_pos len with h0 | h0
      · subst h0; simp at hne
      · exact h0
    have h0 := hF 0 hlen 0 hp
    obtain ⟨b, o, spot⟩ := a
    have hspot : spot = none := by
      have := h0
      simp only [Nat.zero_mul, Nat.zero_add, Addr.add, if_true] at this
      exact World.cell?_spot this
    subst hspot
    refine ⟨b, o, rfl, ?_, ?_⟩
    · have := World.block_lt_of_cell? w _ h0
      simpa [Addr.add_lit] using this
    · intro j u hj
      have hjl := (List.getElem?_eq_some_iff.1 hj).1
      rw [len_en en fs.size hen, List.length_map, List.length_range] at hjl
      have hdiv : j / fs.size < len := Nat.div_lt_of_lt_mul (by rw [Nat.mul_comm]; exact hjl)
      have hmod : j % fs.size < fs.size := Nat.mod_lt _ hp
      have hjj : j = j / fs.size * fs.size + j % fs.size := by rw [Nat.mul_comm]; exact (Nat.div_add_mod _ _).symm
      rw [hjj] at hj ⊢
      rw [flatMap_nth en fs.size hen _ _ _ (by simpa using hdiv) hmod, nth_range_map0 _ hdiv, hmk, List.getElem?_map, List.getElem?_range hmod] at hj
      have := hF _ hdiv _ hmod
      rw [Addr.add_lit] at this
      rw [this]
      simpa using hj
end

end Go.Proofs.YtgpcaaknpfopgaaDoor
