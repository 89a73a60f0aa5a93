/- Layer 14: how texts, rows and strings come in as arguments; the tables out of the row's condition. -/
import Derived.Test.YtjamemjmdlkpcaaDoorRows
import Derived.Test.YtjamemjmdlkpcaaDoorSe28
import Derived.Deep.Slices
import Derived.Deep.Fields
import Derived.Deep.Strs
import Derived.ChangeSame
import Derived.ChangeSlices
import Derived.ChangeMaps5
import Derived.ProofKit
import Derived.OpenShut
import Derived.Lib.LaidTab
import Derived.LaidMore
import Derived.Lay
import Derived.Stop.LaidErr
import Derived.MakeChecks
namespace Go.Proofs.YtjamemjmdlkpcaaDoor
open Go.RowKit Go.ChangeShapes Go.WideShapes Go.Deep
open Se

theorem len_en {α : Type} (enc : α → List Value) (size : Nat) (h : ∀ x, (enc x).length = size) (xs : List α) : (xs.flatMap enc).length = xs.length * size := by
  induction xs with
  | nil => simp
  | cons x xs ih => rw [List.flatMap_cons, List.length_append, ih, h, List.length_cons, Nat.succ_mul]; omega
theorem nth_range_map0 {α : Type} [Inhabited α] (f : Nat → α) {m j : Nat} (h : j < m) : nth ((List.range m).map f) j = f j := by
  rw [nth_get _ (by simpa using h)]; simp
section
variable {H : Type} {enc : TypeId × Value → H} {P : Program} {w : World} {spare : Nat → Bool} {held : Bool}
open Classical in
/-- A slice whose elements are of one shape. -/
theorem open_slg {α : Type} [Inhabited α] {en : α → List Value} {size : Nat} {t e : TypeId} {fuel : Nat} {v : Value} {x : DataW H × List MemPlace} (ht : P.underlying t = some (.slice e)) (hC : P.cellsOf e = size) (hp : 0 < size) (hen : ∀ x, (en x).length = size)
    (hop : ∀ (fuel : Nat) (cs : List Value) (x : DataW H × List MemPlace), DataW.trod enc P w 0 spare held fuel e cs = some x → ∃ a, cs = en a)
    (h : DataW.trod enc P w 0 spare held fuel t [v] = some x) : ∃ (A : Option Addr) (c : Nat) (xs : List α), v = .slice A xs.length c ∧ Sl en w.heap.size w A c xs := by
  rcases open_slice ht h with ⟨hcs, _⟩ | ⟨a, len, cap, m, n, D, Pl, hcs, _, hl, hm, hmm, _, hi⟩
  · simp at hcs
    exact ⟨none, 0, [], hcs, Sl.none_⟩
  · simp at hcs
    have hlm : len ≤ m := by rw [hmm]; split <;> omega
    have hcell : ∀ i, i < len → ∃ y : α, ∀ j, j < size → w.cell? (a.add (i * size + j)) = (en y)[j]? := by
      intro i hil
      obtain ⟨cs', hc, htr⟩ := hi i (by omega)
      obtain ⟨y, hy⟩ := hop _ _ _ htr
      obtain ⟨_, hcl, hat⟩ := World.cells?_some hc
      rw [hC] at hcl hat
      refine ⟨y, fun j hj => ?_⟩
      have := hat j (by omega)
      rw [← Go.Deep.add_add, ← hy]
      exact this
    let F : Nat → α := fun i => if h : ∃ y : α, ∀ j, j < size → w.cell? (a.add (i * size + j)) = (en y)[j]? then Classical.choose h else default
    have hF : ∀ i, i < len → ∀ j, j < size → w.cell? (a.add (i * size + j)) = (en (F i))[j]? := by
      intro i hil
      have he := hcell i hil
      show ∀ j, j < size → w.cell? (a.add (i * size + j)) = (en (if h : ∃ y : α, ∀ j, j < size → w.cell? (a.add (i * size + j)) = (en y)[j]? then Classical.choose h else default))[j]?
      rw [dif_pos he]
      exact Classical.choose_spec he
    refine ⟨some a, cap, (List.range len).map F, by simpa using hcs, ?_⟩
    refine ⟨by simpa using hl, by unfold maxLen at hm; omega, ?_⟩
    intro hne
    have hlen : 0 < len := by
      rcases Nat.eq_zero_or_pos len with h0 | h0
      · subst h0; simp at hne
      · exact h0
    obtain ⟨v0, hv0⟩ : ∃ v0, (en (F 0))[0]? = some v0 := ⟨_, List.getElem?_eq_getElem (by rw [hen]; exact hp)⟩
    have h0 := hF 0 hlen 0 hp
    rw [hv0] at h0
    obtain ⟨b, o, spot⟩ := a
    have hspot : spot = none := by
      have := h0
      simp only [Nat.zero_mul, Nat.zero_add, Addr.add, if_true] at this
      exact World.cell?_spot this
    subst hspot
    refine ⟨b, o, rfl, ?_, ?_⟩
    · have := World.block_lt_of_cell? w _ h0
      simpa [Addr.add_lit] using this
    · intro j u hj
      have hjl := (List.getElem?_eq_some_iff.1 hj).1
      rw [len_en en size hen, List.length_map, List.length_range] at hjl
      have hdiv : j / size < len := Nat.div_lt_of_lt_mul (by rw [Nat.mul_comm]; exact hjl)
      have hmod : j % size < size := Nat.mod_lt _ hp
      have hjj : j = j / size * size + j % size := by rw [Nat.mul_comm]; exact (Nat.div_add_mod _ _).symm
      rw [hjj] at hj ⊢
      rw [flatMap_nth en size hen _ _ _ (by simpa using hdiv) hmod, nth_range_map0 _ hdiv] at hj
      have := hF _ hdiv _ hmod
      rw [Addr.add_lit] at this
      rw [this]
      exact hj
end

theorem cells_int : Tryd.prog.cellsOf 3 = 1 := by kernel_rfl
theorem cells_string : Tryd.prog.cellsOf 9 = 1 := by kernel_rfl
theorem cells_texts : Tryd.prog.cellsOf 31 = 1 := by kernel_rfl
theorem cells_row : Tryd.prog.cellsOf 23 = 3 := by kernel_rfl
section
variable {H : Type} {enc : TypeId × Value → H} {w : World} {spare : Nat → Bool} {held : Bool}
theorem open_str1 {fuel : Nat} {cs : List Value} {x : DataW H × List MemPlace} (h : DataW.trod enc Tryd.prog w 0 spare held fuel 9 cs = some x) : ∃ t : Txt, cs = strE t := by
  obtain ⟨s, e0, _⟩ := DataW.trod_string Tryd.underlying9 h
  exact ⟨s.data.toList, by rw [e0, str_eq (a := s) rfl]; simp [strE, str]⟩
set_option maxRecDepth 100000 in
theorem open_txts {r : Reach} {b0 : Nat} {v : Value} {d : DataW H} {p : List MemPlace} (hv : Value.okWide Tryd.prog w r b0 31 v) (h : DataW.Trod enc Tryd.prog w 0 (fun _ => true) held 31 v d p) : ∃ (A : Option Addr) (c : Nat) (xs : List Txt), v = .slice A xs.length c ∧ Sl strE w.heap.size w A c xs := by
  obtain ⟨a, len, cap, rfl⟩ := okWide_slice Tryd.underlying31 hv
  obtain ⟨fuel, hf⟩ := h
  exact open_slg (v := .slice a len cap) (fuel := fuel) Tryd.underlying31 cells_string (by omega) strE_len (fun _ _ _ h => open_str1 h) (by simpa [Value.cells] using hf)
set_option maxRecDepth 100000 in
theorem open_text {r : Reach} {b0 : Nat} {v : Value} {d : DataW H} {p : List MemPlace} (hv : Value.okWide Tryd.prog w r b0 9 v) (h : DataW.Trod enc Tryd.prog w 0 (fun _ => true) held 9 v d p) : ∃ t : Txt, v = .string (str t) ∧ d = .lit (.string t) := by
  obtain ⟨s, rfl, rfl, _⟩ := Go.ChangeMaps.open_string Tryd.underlying9 hv h
  exact ⟨s.data.toList, by rw [str_eq (a := s) rfl]; simp [str], rfl⟩
set_option maxRecDepth 100000 in
theorem open_rowA {r : Reach} {b0 : Nat} {v : Value} {d : DataW H} {p : List MemPlace} (hv : Value.okWide Tryd.prog w r b0 23 v) (h : DataW.Trod enc Tryd.prog w 0 (fun _ => true) held 23 v d p) : ∃ x : Row, v = .agg #[.int .i64 x.pre, .int .i64 x.suf, .string (str x.mid)] := by
  obtain ⟨cs, rfl, hsz⟩ := okWide_struct Tryd.underlying23 hv
  rw [cells_row] at hsz
  obtain ⟨l⟩ := cs
  match l, hsz with
  | [c0, c1, c2], _ =>
    obtain ⟨fuel, hf⟩ := h
    obtain ⟨xs, n, _, _, _, hlen, hg⟩ := DataW.trod_struct Tryd.underlying23 hf
    match xs, hlen with
    | [y0, y1, y2], _ =>
      have g0 : DataW.trod enc Tryd.prog w 0 (fun _ => true) held n 3 [c0] = some y0 := by simpa [Value.cells, cells_int] using hg 0 _ rfl
      have g1 : DataW.trod enc Tryd.prog w 0 (fun _ => true) held n 3 [c1] = some y1 := by simpa [Value.cells, cells_int] using hg 1 _ rfl
      have g2 : DataW.trod enc Tryd.prog w 0 (fun _ => true) held n 9 [c2] = some y2 := by simpa [Value.cells, cells_string] using hg 2 _ rfl
      obtain ⟨a, ha, _⟩ := DataW.trod_int Tryd.underlying3 g0
      obtain ⟨b, hb, _⟩ := DataW.trod_int Tryd.underlying3 g1
      obtain ⟨t, ht⟩ := open_str1 g2
      simp [strE] at ha hb ht
      exact ⟨⟨a, b, t⟩, by rw [ha, hb, ht]⟩
set_option maxRecDepth 100000 in
theorem open_blot {r : Reach} {b0 : Nat} {v : Value} {d : DataW H} {p : List MemPlace} (hv : Value.okWide Tryd.prog w r b0 42 v) (h : DataW.Trod enc Tryd.prog w 0 (fun _ => true) held 42 v d p) : ∃ a b : Int, v = .agg #[.int .i64 a, .int .i64 b] := by
  obtain ⟨cs, rfl, hsz⟩ := okWide_struct Tryd.underlying42 hv
  rw [show Tryd.prog.cellsOf 42 = 2 by kernel_rfl] at hsz
  obtain ⟨l⟩ := cs
  match l, hsz with
  | [c0, c1], _ =>
    obtain ⟨fuel, hf⟩ := h
    obtain ⟨xs, n, _, _, _, hlen, hg⟩ := DataW.trod_struct Tryd.underlying42 hf
    match xs, hlen with
    | [y0, y1], _ =>
      have g0 : DataW.trod enc Tryd.prog w 0 (fun _ => true) held n 3 [c0] = some y0 := by simpa [Value.cells, cells_int] using hg 0 _ rfl
      have g1 : DataW.trod enc Tryd.prog w 0 (fun _ => true) held n 3 [c1] = some y1 := by simpa [Value.cells, cells_int] using hg 1 _ rfl
      obtain ⟨a, ha, _⟩ := DataW.trod_int Tryd.underlying3 g0
      obtain ⟨b, hb, _⟩ := DataW.trod_int Tryd.underlying3 g1
      simp at ha hb
      exact ⟨a, b, by rw [ha, hb]⟩
end

def laid5 : List (String × DataW Unit) := [("math/bits.deBruijn32tab", Rows.laid_math_bits_deBruijn32tab), ("math/bits.deBruijn64tab", Rows.laid_math_bits_deBruijn64tab), ("internal/strconv.uint64pow10", Rows.laid_internal_strconv_uint64pow10), ("unicode/utf8.acceptRanges", Rows.laid_unicode_utf8_acceptRanges), ("unicode/utf8.first", Rows.laid_unicode_utf8_first)]
theorem laid_pow : (Rows.laid_internal_strconv_uint64pow10 : DataW Unit) = Lib.tabData .u64 Lib.pow10Tab := by kernel_rfl
set_option maxRecDepth 100000 in
theorem tab_of_laid {W : World} (h : laidMetH Tryd.prog laid5 W) : TabIs W ∧ 6 ≤ W.heap.size := by
  rw [MakeChecks.laidMetH_plain _ _ _ (by kernel_rfl)] at h
  have h1 := laidMet.tail h
  have h2 := laidMet.tail h1
  rw [laid_pow] at h2
  refine ⟨Lib.tabIs_of_head (g := 3) (t := 144) (e := 124) (n := 20) (by kernel_rfl) (by kernel_rfl) Tryd.underlying144 Tryd.underlying124 (by kernel_rfl) (by kernel_rfl) h2, ?_⟩
  obtain ⟨ps, ⟨g, t, cs, fuel, p, q, hg, ht, hv, hd, _, _⟩, _⟩ := h1
  obtain rfl := Option.some.inj ((show Tryd.prog.globalNamed "math/bits.deBruijn64tab" = some 5 by kernel_rfl).symm.trans hg)
  rcases Nat.lt_or_ge 5 W.heap.size with hlt | hge
  · omega
  · unfold World.var? at hv
    rw [hg] at hv
    simp only [Option.bind_some] at hv
    rw [Array.getElem?_eq_none hge] at hv
    cases hv
theorem own : ownKnob Tryd.prog.godebug = none := by kernel_rfl
theorem laidOut : laidOutB Tryd.prog = true := by kernel_rfl
set_option maxRecDepth 100000 in
/-- A world that meets the condition. -/
theorem all_met (os : Os) (args : Array Value) : laidMetH Tryd.prog laid5 ((World.laidAll Tryd.prog os laid5).forCall (fun _ _ => 0) ⟨#[], args, []⟩).memory := by
  rw [MakeChecks.laidMetH_plain _ _ _ (by kernel_rfl)]; exact laidMet_laidAll _ (by kernel_rfl) (by kernel_rfl)
end Go.Proofs.YtjamemjmdlkpcaaDoor
