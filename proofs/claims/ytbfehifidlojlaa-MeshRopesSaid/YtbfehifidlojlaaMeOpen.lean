/- Layer 4: how arguments that are nets, parts and lists come in: their cells. -/
import Derived.Test.YtbfehifidlojlaaMe1
import Derived.Deep.Slices
import Derived.Deep.Fields
import Derived.ChangeSame
import Derived.ChangeSlices
import Derived.ProofKit
import Derived.OpenShut
namespace Go.Proofs.Ytbfehifidlojlaa
open Go.RowKit Go.ChangeShapes Go.WideShapes Go.Deep
open Me

theorem len_en {α : Type} (enc : α → List Value) (size : Nat) (h : ∀ x, (enc x).length = size) (xs : List α) : (xs.flatMap enc).length = xs.length * size := by
  induction xs with
  | nil => simp
  | cons x xs ih => rw [List.flatMap_cons, List.length_append, ih, h, List.length_cons, Nat.succ_mul]; omega
theorem nth_range_map0 {α : Type} [Inhabited α] (f : Nat → α) {m j : Nat} (h : j < m) : nth ((List.range m).map f) j = f j := by
  rw [nth_get _ (by simpa using h)]; simp

section
variable {H : Type} {enc : TypeId × Value → H} {P : Program} {w : World} {spare : Nat → Bool} {held : Bool}
open Classical in
/-- A slice whose elements are of one shape. -/
theorem open_slg {α : Type} [Inhabited α] {en : α → List Value} {size : Nat} {t e : TypeId} {fuel : Nat} {v : Value} {x : DataW H × List MemPlace} (ht : P.underlying t = some (.slice e)) (hC : P.cellsOf e = size) (hp : 0 < size) (hen : ∀ x, (en x).length = size)
    (hop : ∀ (fuel : Nat) (cs : List Value) (x : DataW H × List MemPlace), DataW.trod enc P w 0 spare held fuel e cs = some x → ∃ a, cs = en a)
    (h : DataW.trod enc P w 0 spare held fuel t [v] = some x) : ∃ (A : Option Addr) (c : Nat) (xs : List α), v = .slice A xs.length c ∧ Sl en w.heap.size w A c xs := by
  rcases open_slice ht h with ⟨hcs, _⟩ | ⟨a, len, cap, m, n, D, Pl, hcs, _, hl, hm, hmm, _, hi⟩
  · simp at hcs
    exact ⟨none, 0, [], hcs, Sl.none_⟩
  · simp at hcs
    have hlm : len ≤ m := by rw [hmm]; split <;> omega
    have hcell : ∀ i, i < len → ∃ y : α, ∀ j, j < size → w.cell? (a.add (i * size + j)) = (en y)[j]? := by
      intro i hil
      obtain ⟨cs', hc, htr⟩ := hi i (by omega)
      obtain ⟨y, hy⟩ := hop _ _ _ htr
      obtain ⟨_, hcl, hat⟩ := World.cells?_some hc
      rw [hC] at hcl hat
      refine ⟨y, fun j hj => ?_⟩
      have := hat j (by omega)
      rw [← Go.Deep.add_add, ← hy]
      exact this
    let F : Nat → α := fun i => if h : ∃ y : α, ∀ j, j < size → w.cell? (a.add (i * size + j)) = (en y)[j]? then Classical.choose h else default
    have hF : ∀ i, i < len → ∀ j, j < size → w.cell? (a.add (i * size + j)) = (en (F i))[j]? := by
      intro i hil
      have he := hcell i hil
      show ∀ j, j < size → w.cell? (a.add (i * size + j)) = (en (if h : ∃ y : α, ∀ j, j < size → w.cell? (a.add (i * size + j)) = (en y)[j]? then Classical.choose h else default))[j]?
      rw [dif_pos he]
      exact Classical.choose_spec he
    refine ⟨some a, cap, (List.range len).map F, by simpa using hcs, ?_⟩
    refine ⟨by simpa using hl, by unfold maxLen at hm; omega, ?_⟩
    intro hne
    have hlen : 0 < len := by
      rcases Nat.eq_zero_or_pos len with h0 | h0
      · subst h0; simp at hne
      · exact h0
    obtain ⟨v0, hv0⟩ : ∃ v0, (en (F 0))[0]? = some v0 := ⟨_, List.getElem?_eq_getElem (by rw [hen]; exact hp)⟩
    have h0 := hF 0 hlen 0 hp
    rw [hv0] at h0
    obtain ⟨b, o, spot⟩ := a
    have hspot : spot = none := by
      have := h0
      simp only [Nat.zero_mul, Nat.zero_add, Addr.add, if_true] at this
      exact World.cell?_spot this
    subst hspot
    refine ⟨b, o, rfl, ?_, ?_⟩
    · have := World.block_lt_of_cell? w _ h0
      simpa [Addr.add_lit] using this
    · intro j u hj
      have hjl := (List.getElem?_eq_some_iff.1 hj).1
      rw [len_en en size hen, List.length_map, List.length_range] at hjl
      have hdiv : j / size < len := Nat.div_lt_of_lt_mul (by rw [Nat.mul_comm]; exact hjl)
      have hmod : j % size < size := Nat.mod_lt _ hp
      have hjj : j = j / size * size + j % size := by rw [Nat.mul_comm]; exact (Nat.div_add_mod _ _).symm
      rw [hjj] at hj ⊢
      rw [flatMap_nth en size hen _ _ _ (by simpa using hdiv) hmod, nth_range_map0 _ hdiv] at hj
      have := hF _ hdiv _ hmod
      rw [Addr.add_lit] at this
      rw [this]
      exact hj
end

theorem cells_int : Try.prog.cellsOf 3 = 1 := by kernel_rfl
theorem cells_sp : Try.prog.cellsOf 27 = 2 := by kernel_rfl
theorem cells_hole : Try.prog.cellsOf 33 = 4 := by kernel_rfl
theorem cells_pr : Try.prog.cellsOf 63 = 2 := by kernel_rfl
theorem cells_hs : Try.prog.cellsOf 22 = 1 := by kernel_rfl
theorem cells_ps : Try.prog.cellsOf 23 = 1 := by kernel_rfl
theorem cells_net : Try.prog.cellsOf 25 = 3 := by kernel_rfl
theorem cells_part : Try.prog.cellsOf 29 = 3 := by kernel_rfl

section
variable {H : Type} {enc : TypeId × Value → H} {w : World} {spare : Nat → Bool} {held : Bool}
theorem open_int1 {fuel : Nat} {cs : List Value} {x : DataW H × List MemPlace} (h : DataW.trod enc Try.prog w 0 spare held fuel 3 cs = some x) : ∃ a : Int, cs = encI a := by
  obtain ⟨m, e0, _⟩ := DataW.trod_int Try.underlying3 h
  exact ⟨m, e0⟩
set_option maxRecDepth 100000 in
theorem open_two {t : TypeId} {fs : Array Field} {fuel : Nat} {cs : List Value} {x : DataW H × List MemPlace} (ht : Try.prog.underlying t = some (.struct fs)) (hc : Try.prog.cellsOf t = 2) (hf : fs.size = 2)
    (h0 : ∃ f, fs[0]? = some f ∧ f.offset = 0 ∧ f.type = 3) (h1 : ∃ f, fs[1]? = some f ∧ f.offset = 1 ∧ f.type = 3) (h : DataW.trod enc Try.prog w 0 spare held fuel t cs = some x) : ∃ a b : Int, cs = [.int .i64 a, .int .i64 b] := by
  obtain ⟨xs, n, _, _, hl, hlen, hg⟩ := DataW.trod_struct ht h
  rw [hc] at hl
  rw [hf] at hlen
  obtain ⟨F0, e0, o0, t0⟩ := h0
  obtain ⟨F1, e1, o1, t1⟩ := h1
  match cs, hl, xs, hlen with
  | [c0, c1], _, [y0, y1], _ =>
    have g0 := hg 0 F0 e0
    have g1 := hg 1 F1 e1
    rw [o0, t0, cells_int] at g0
    rw [o1, t1, cells_int] at g1
    obtain ⟨a, ha⟩ := open_int1 g0
    obtain ⟨b, hb⟩ := open_int1 g1
    simp [encI] at ha hb
    exact ⟨a, b, by rw [ha, hb]⟩
theorem open_sp {fuel : Nat} {cs : List Value} {x : DataW H × List MemPlace} (h : DataW.trod enc Try.prog w 0 spare held fuel 27 cs = some x) : ∃ a b : Int, cs = [.int .i64 a, .int .i64 b] :=
  open_two Try.underlying27 cells_sp rfl ⟨_, rfl, rfl, rfl⟩ ⟨_, rfl, rfl, rfl⟩ h
theorem open_pr {fuel : Nat} {cs : List Value} {x : DataW H × List MemPlace} (h : DataW.trod enc Try.prog w 0 spare held fuel 63 cs = some x) : ∃ p : Pr, cs = encPr p := by
  obtain ⟨a, b, hab⟩ := open_two Try.underlying63 cells_pr rfl ⟨_, rfl, rfl, rfl⟩ ⟨_, rfl, rfl, rfl⟩ h
  exact ⟨⟨a, b⟩, hab⟩
set_option maxRecDepth 100000 in
theorem open_hole {fuel : Nat} {cs : List Value} {x : DataW H × List MemPlace} (h : DataW.trod enc Try.prog w 0 spare held fuel 33 cs = some x) : ∃ p : Hole, cs = encHole p := by
  obtain ⟨xs, n, _, _, hl, hlen, hg⟩ := DataW.trod_struct Try.underlying33 h
  rw [cells_hole] at hl
  match cs, hl, xs, hlen with
  | [c0, c1, c2, c3], _, [y0, y1, y2], _ =>
    have g0 : DataW.trod enc Try.prog w 0 spare held n 3 [c0] = some y0 := by simpa [cells_int] using hg 0 _ rfl
    have g1 : DataW.trod enc Try.prog w 0 spare held n 27 [c1, c2] = some y1 := by simpa [cells_sp] using hg 1 _ rfl
    have g2 : DataW.trod enc Try.prog w 0 spare held n 3 [c3] = some y2 := by simpa [cells_int] using hg 2 _ rfl
    obtain ⟨a, ha⟩ := open_int1 g0
    obtain ⟨b, c, hbc⟩ := open_sp g1
    obtain ⟨d, hd⟩ := open_int1 g2
    simp [encI] at ha hbc hd
    exact ⟨⟨a, b, c, d⟩, by rw [ha, hbc.1, hbc.2, hd]; rfl⟩
theorem open_il {fuel : Nat} {v : Value} {x : DataW H × List MemPlace} (h : DataW.trod enc Try.prog w 0 spare held fuel 30 [v] = some x) : ∃ (A : Option Addr) (c : Nat) (xs : List Int), v = .slice A xs.length c ∧ Sl encI w.heap.size w A c xs :=
  open_slg Try.underlying30 cells_int (by omega) (fun _ => rfl) (fun _ _ _ h => open_int1 h) h
theorem open_prs {fuel : Nat} {v : Value} {x : DataW H × List MemPlace} (h : DataW.trod enc Try.prog w 0 spare held fuel 23 [v] = some x) : ∃ (A : Option Addr) (c : Nat) (xs : List Pr), v = .slice A xs.length c ∧ Sl encPr w.heap.size w A c xs :=
  open_slg Try.underlying23 cells_pr (by omega) (fun _ => rfl) (fun _ _ _ h => open_pr h) h
theorem open_holes {fuel : Nat} {v : Value} {x : DataW H × List MemPlace} (h : DataW.trod enc Try.prog w 0 spare held fuel 22 [v] = some x) : ∃ (A : Option Addr) (c : Nat) (xs : List Hole), v = .slice A xs.length c ∧ Sl encHole w.heap.size w A c xs :=
  open_slg Try.underlying22 cells_hole (by omega) (fun _ => rfl) (fun _ _ _ h => open_hole h) h
set_option maxRecDepth 100000 in
theorem open_net {r : Reach} {b0 : Nat} {v : Value} {d : DataW H} {p : List MemPlace} (hv : Value.okWide Try.prog w r b0 25 v) (h : DataW.Trod enc Try.prog w 0 (fun _ => true) held 25 v d p) : ∃ (r : NetR) (n : Net), v = netV r n ∧ NetIs w.heap.size w r n := by
  obtain ⟨cs, rfl, hsz⟩ := okWide_struct Try.underlying25 hv
  rw [cells_net] at hsz
  obtain ⟨l⟩ := cs
  match l, hsz with
  | [c0, c1, c2], _ =>
    obtain ⟨fuel, hf⟩ := h
    obtain ⟨xs, n, _, _, _, hlen, hg⟩ := DataW.trod_struct Try.underlying25 hf
    match xs, hlen with
    | [y0, y1, y2], _ =>
      have g0 : DataW.trod enc Try.prog w 0 (fun _ => true) held n 3 [c0] = some y0 := by simpa [Value.cells, cells_int] using hg 0 _ rfl
      have g1 : DataW.trod enc Try.prog w 0 (fun _ => true) held n 22 [c1] = some y1 := by simpa [Value.cells, cells_hs] using hg 1 _ rfl
      have g2 : DataW.trod enc Try.prog w 0 (fun _ => true) held n 23 [c2] = some y2 := by simpa [Value.cells, cells_ps] using hg 2 _ rfl
      obtain ⟨a, ha⟩ := open_int1 g0
      obtain ⟨hA, hc, hs, hhs, hH⟩ := open_holes (v := c1) g1
      obtain ⟨pA, pc, ps, hps, hP⟩ := open_prs (v := c2) g2
      simp [encI] at ha
      exact ⟨⟨hA, hc, pA, pc⟩, ⟨a, hs, ps⟩, by rw [ha, hhs, hps], hH, hP⟩
set_option maxRecDepth 100000 in
theorem open_part {r : Reach} {b0 : Nat} {v : Value} {d : DataW H} {p : List MemPlace} (hv : Value.okWide Try.prog w r b0 29 v) (h : DataW.Trod enc Try.prog w 0 (fun _ => true) held 29 v d p) : ∃ (a b c : Int), v = .agg #[.int .i64 a, .int .i64 b, .int .i64 c] := by
  obtain ⟨cs, rfl, hsz⟩ := okWide_struct Try.underlying29 hv
  rw [cells_part] at hsz
  obtain ⟨l⟩ := cs
  match l, hsz with
  | [c0, c1, c2], _ =>
    obtain ⟨fuel, hf⟩ := h
    obtain ⟨xs, n, _, _, _, hlen, hg⟩ := DataW.trod_struct Try.underlying29 hf
    match xs, hlen with
    | [y0, y1], _ =>
      have g0 : DataW.trod enc Try.prog w 0 (fun _ => true) held n 3 [c0] = some y0 := by simpa [Value.cells, cells_int] using hg 0 _ rfl
      have g1 : DataW.trod enc Try.prog w 0 (fun _ => true) held n 27 [c1, c2] = some y1 := by simpa [Value.cells, cells_sp] using hg 1 _ rfl
      obtain ⟨a, ha⟩ := open_int1 g0
      obtain ⟨b, c, hbc⟩ := open_sp g1
      simp [encI] at ha hbc
      exact ⟨a, b, c, by rw [ha, hbc.1, hbc.2]⟩
set_option maxRecDepth 100000 in
theorem open_list {r : Reach} {b0 : Nat} {v : Value} {d : DataW H} {p : List MemPlace} (hv : Value.okWide Try.prog w r b0 30 v) (h : DataW.Trod enc Try.prog w 0 (fun _ => true) held 30 v d p) : ∃ (A : Option Addr) (c : Nat) (xs : List Int), v = .slice A xs.length c ∧ Sl encI w.heap.size w A c xs := by
  obtain ⟨a, len, cap, rfl⟩ := okWide_slice Try.underlying30 hv
  obtain ⟨fuel, hf⟩ := h
  exact open_il (fuel := fuel) (v := .slice a len cap) (by simpa [Value.cells] using hf)
end
theorem own : ownKnob Try.prog.godebug = none := by kernel_rfl
theorem laidOut : laidOutB Try.prog = true := by kernel_rfl

end Go.Proofs.Ytbfehifidlojlaa
