/- Layer 2: how nets and truths come in as arguments; the table of math/bits out of the row's condition. -/
import Derived.Test.YtgpcaaknpfopgaaDoorRows
import Derived.Test.YtgpcaaknpfopgaaDoorOpen
import Derived.Test.YtgpcaaknpfopgaaDoorAn4
import Derived.Lib.LaidTab
import Derived.LaidMore
import Derived.Stop.LaidErr
import Derived.MakeChecks
namespace Go.Proofs.YtgpcaaknpfopgaaDoor
open Go.RowKit Go.ChangeShapes Go.WideShapes Go.Deep
open An

section
variable {H : Type} {enc : TypeId × Value → H} {w : World} {spare : Nat → Bool} {held : Bool}
set_option maxRecDepth 100000 in
theorem open_sp {fuel : Nat} {cs : List Value} {x : DataW H × List MemPlace} (h : DataW.trod enc Tryd.prog w 0 spare held fuel 23 cs = some x) : ∃ s : Sp, cs = [.int .i64 s.lo, .int .i64 s.hi] := by
  obtain ⟨y0, y1, n, _, hl, h0, h1⟩ := trod_struct2 Tryd.underlying23 h
  rw [show Tryd.prog.cellsOf 23 = 2 by kernel_rfl] at hl
  match cs, hl with
  | [a, b], _ =>
    obtain ⟨m, e0, _⟩ := DataW.trod_int Tryd.underlying3 h0
    obtain ⟨k, e1, _⟩ := DataW.trod_int Tryd.underlying3 h1
    rw [show Tryd.prog.cellsOf 3 = 1 by kernel_rfl] at e0 e1
    simp at e0 e1
    exact ⟨⟨m, k⟩, by rw [e0, e1]⟩

theorem open_sps {fuel : Nat} {v : Value} {x : DataW H × List MemPlace} (h : DataW.trod enc Tryd.prog w 0 spare held fuel 24 [v] = some x) : ∃ (A : Option Addr) (c : Nat) (xs : List Sp), v = .slice A xs.length c ∧ Sl encSp w.heap.size w A c xs :=
  open_sl Tryd.underlying24 Tryd.underlying23 (by kernel_rfl) (by kernel_rfl) (by decide) (by
    intro j f hj
    match j, hj with
    | 0, hj => cases hj; exact Tryd.underlying3
    | 1, hj => cases hj; exact Tryd.underlying3
    | j + 2, hj => simp at hj) (fun f => ⟨f 0, f 1⟩) (fun f => rfl) (fun _ => rfl) h
theorem open_ancs {fuel : Nat} {v : Value} {x : DataW H × List MemPlace} (h : DataW.trod enc Tryd.prog w 0 spare held fuel 25 [v] = some x) : ∃ (A : Option Addr) (c : Nat) (xs : List Anc), v = .slice A xs.length c ∧ Sl encAnc w.heap.size w A c xs :=
  open_sl Tryd.underlying25 Tryd.underlying52 (by kernel_rfl) (by kernel_rfl) (by decide) (by
    intro j f hj
    match j, hj with
    | 0, hj => cases hj; exact Tryd.underlying3
    | 1, hj => cases hj; exact Tryd.underlying3
    | j + 2, hj => simp at hj) (fun f => ⟨f 0, f 1⟩) (fun f => rfl) (fun _ => rfl) h
theorem open_wals {fuel : Nat} {v : Value} {x : DataW H × List MemPlace} (h : DataW.trod enc Tryd.prog w 0 spare held fuel 26 [v] = some x) : ∃ (A : Option Addr) (c : Nat) (xs : List Wal), v = .slice A xs.length c ∧ Sl encWal w.heap.size w A c xs :=
  open_sl Tryd.underlying26 Tryd.underlying46 (by kernel_rfl) (by kernel_rfl) (by decide) (by
    intro j f hj
    match j, hj with
    | 0, hj => cases hj; exact Tryd.underlying3
    | 1, hj => cases hj; exact Tryd.underlying3
    | 2, hj => cases hj; exact Tryd.underlying3
    | 3, hj => cases hj; exact Tryd.underlying3
    | 4, hj => cases hj; exact Tryd.underlying3
    | j + 5, hj => simp at hj) (fun f => ⟨f 0, f 1, f 2, f 3, f 4⟩) (fun f => rfl) (fun _ => rfl) h
theorem open_il {fuel : Nat} {v : Value} {x : DataW H × List MemPlace} (h : DataW.trod enc Tryd.prog w 0 (fun _ => true) held fuel 36 [v] = some x) : ∃ (A : Option Addr) (c : Nat) (xs : List Int), v = .slice A xs.length c ∧ Sl encI w.heap.size w A c xs := by
  rcases open_ints Tryd.underlying36 Tryd.underlying3 (by kernel_rfl) h with ⟨hcs, _⟩ | ⟨a, len, cap, zs, hcs, _, hl, hm, hz, _, hcell, _⟩
  · simp at hcs
    exact ⟨none, 0, [], hcs, Sl.none_⟩
  · simp at hcs hz
    have ht : (zs.take len).length = len := by simp; omega
    refine ⟨some a, cap, zs.take len, by rw [ht]; exact hcs, by rw [ht]; exact hl, by unfold maxLen at hm; omega, ?_⟩
    intro hne
    have h0 : 0 < len := by
      rcases Nat.eq_zero_or_pos len with h0 | h0
      · subst h0; simp at hne
      · exact h0
    have hc0 := hcell 0 (by omega)
    obtain ⟨b, o, spot⟩ := a
    have hspot : spot = none := by
      have := hc0
      simp only [Addr.add, if_true] at this
      exact World.cell?_spot this
    subst hspot
    refine ⟨b, o, rfl, ?_, ?_⟩
    · have := World.block_lt_of_cell? w _ hc0
      simpa [Addr.add_lit] using this
    · intro j u hj
      have hfl : ∀ l : List Int, l.flatMap encI = l.map (Value.int .i64) := fun l => by
        induction l with
        | nil => rfl
        | cons x l ih => rw [List.flatMap_cons, ih]; rfl
      rw [hfl] at hj
      have hjl : j < len := by have := (List.getElem?_eq_some_iff.1 hj).1; rw [List.length_map, ht] at this; exact this
      have hc := hcell j (by omega)
      rw [Addr.add_lit] at hc
      rw [hc]
      rw [List.getElem?_map, List.getElem?_take_of_lt hjl, List.getElem?_eq_getElem (by omega)] at hj
      rw [List.getD_eq_getElem?_getD, List.getElem?_eq_getElem (by omega)]
      simpa using hj

theorem cells_sp : Tryd.prog.cellsOf 23 = 2 := by kernel_rfl
theorem cells_sps : Tryd.prog.cellsOf 24 = 1 := by kernel_rfl
theorem cells_ancs : Tryd.prog.cellsOf 25 = 1 := by kernel_rfl
theorem cells_wals : Tryd.prog.cellsOf 26 = 1 := by kernel_rfl
theorem cells_il : Tryd.prog.cellsOf 36 = 1 := by kernel_rfl
theorem cells_int : Tryd.prog.cellsOf 3 = 1 := by kernel_rfl
theorem cells_net : Tryd.prog.cellsOf 28 = 7 := by kernel_rfl
theorem cells_tru : Tryd.prog.cellsOf 38 = 3 := by kernel_rfl
set_option maxRecDepth 100000 in
theorem open_net {r : Reach} {b0 : Nat} {v : Value} {d : DataW H} {p : List MemPlace} (hv : Value.okWide Tryd.prog w r b0 28 v) (h : DataW.Trod enc Tryd.prog w 0 (fun _ => true) held 28 v d p) : ∃ (r : NetR) (n : Net), v = netV r n ∧ NetIs w.heap.size w r n := by
  obtain ⟨cs, rfl, hsz⟩ := okWide_struct Tryd.underlying28 hv
  rw [cells_net] at hsz
  obtain ⟨l⟩ := cs
  match l, hsz with
  | [c0, c1, c2, c3, c4, c5, c6], _ =>
    obtain ⟨fuel, hf⟩ := h
    obtain ⟨xs, n, _, _, _, hlen, hg⟩ := DataW.trod_struct Tryd.underlying28 hf
    match xs, hlen with
    | [y0, y1, y2, y3, y4], _ =>
      have g0 : DataW.trod enc Tryd.prog w 0 (fun _ => true) held n 23 [c0, c1] = some y0 := by simpa [Value.cells, cells_sp] using hg 0 _ rfl
      have g1 : DataW.trod enc Tryd.prog w 0 (fun _ => true) held n 23 [c2, c3] = some y1 := by simpa [Value.cells, cells_sp] using hg 1 _ rfl
      have g2 : DataW.trod enc Tryd.prog w 0 (fun _ => true) held n 24 [c4] = some y2 := by simpa [Value.cells, cells_sps] using hg 2 _ rfl
      have g3 : DataW.trod enc Tryd.prog w 0 (fun _ => true) held n 25 [c5] = some y3 := by simpa [Value.cells, cells_ancs] using hg 3 _ rfl
      have g4 : DataW.trod enc Tryd.prog w 0 (fun _ => true) held n 26 [c6] = some y4 := by simpa [Value.cells, cells_wals] using hg 4 _ rfl
      obtain ⟨s, hs⟩ := open_sp g0
      obtain ⟨s', hs'⟩ := open_sp g1
      obtain ⟨gA, gc, gs, hgs, hG⟩ := open_sps (v := c4) g2
      obtain ⟨aA, ac, al, has, hA⟩ := open_ancs (v := c5) g3
      obtain ⟨wA, wc, wl, hws, hW⟩ := open_wals (v := c6) g4
      simp at hs hs'
      refine ⟨⟨gA, gc, aA, ac, wA, wc⟩, ⟨s, s', gs, al, wl⟩, ?_, hG, hA, hW⟩
      rw [hs.1, hs.2, hs'.1, hs'.2, hgs, has, hws]
set_option maxRecDepth 100000 in
theorem open_tru {r : Reach} {b0 : Nat} {v : Value} {d : DataW H} {p : List MemPlace} (hv : Value.okWide Tryd.prog w r b0 38 v) (h : DataW.Trod enc Tryd.prog w 0 (fun _ => true) held 38 v d p) : ∃ (r : TruR) (t : Tru), v = truV r t ∧ TruIs w.heap.size w r t := by
  obtain ⟨cs, rfl, hsz⟩ := okWide_struct Tryd.underlying38 hv
  rw [cells_tru] at hsz
  obtain ⟨l⟩ := cs
  match l, hsz with
  | [c0, c1, c2], _ =>
    obtain ⟨fuel, hf⟩ := h
    obtain ⟨xs, n, _, _, _, hlen, hg⟩ := DataW.trod_struct Tryd.underlying38 hf
    match xs, hlen with
    | [y0, y1, y2], _ =>
      have g0 : DataW.trod enc Tryd.prog w 0 (fun _ => true) held n 3 [c0] = some y0 := by simpa [Value.cells, cells_int] using hg 0 _ rfl
      have g1 : DataW.trod enc Tryd.prog w 0 (fun _ => true) held n 3 [c1] = some y1 := by simpa [Value.cells, cells_int] using hg 1 _ rfl
      have g2 : DataW.trod enc Tryd.prog w 0 (fun _ => true) held n 36 [c2] = some y2 := by simpa [Value.cells, cells_il] using hg 2 _ rfl
      obtain ⟨a, ha, _⟩ := DataW.trod_int Tryd.underlying3 g0
      obtain ⟨b, hb, _⟩ := DataW.trod_int Tryd.underlying3 g1
      obtain ⟨A, c, ls, hls, hL⟩ := open_il (v := c2) g2
      simp at ha hb
      refine ⟨⟨A, c⟩, ⟨a, b, ls⟩, ?_, hL⟩
      rw [ha, hb, hls]
end

/-- The table of math/bits. -/
def tabZ : List Int := [0, 1, 56, 2, 57, 49, 28, 3, 61, 58, 42, 50, 38, 29, 17, 4, 62, 47, 59, 36, 45, 43, 51, 22, 53, 39, 33, 30, 24, 18, 12, 5, 63, 55, 48, 27, 60, 41, 37, 16, 46, 35, 44, 21, 52, 32, 23, 11, 54, 26, 40, 15, 34, 20, 31, 10, 25, 14, 19, 9, 13, 8, 7, 6]
def laid2 : List (String × DataW Unit) := [("math/bits.deBruijn32tab", Rows.laid_math_bits_deBruijn32tab), ("math/bits.deBruijn64tab", Rows.laid_math_bits_deBruijn64tab)]
theorem laid_tab : (Rows.laid_math_bits_deBruijn64tab : DataW Unit) = Lib.tabData .u8 tabZ := rfl
theorem tab_all : ∀ s : Fin 64, 0 < s.val → tabZ.getD (tzOff s.val) 0 = (tzN s.val : Int) ∧ tzOff s.val < 64 := by decide +kernel
set_option maxRecDepth 100000 in
theorem tab_of_laid {W : World} (h : laidMetH Tryd.prog laid2 W) : TabIs W := by
  rw [MakeChecks.laidMetH_plain _ _ _ (by kernel_rfl)] at h
  have h1 := laidMet.tail h
  rw [laid_tab] at h1
  have hT := Lib.tabIs_of_head (g := 1) (t := 123) (e := 5) (n := 64) (by kernel_rfl) (by kernel_rfl) Tryd.underlying123 Tryd.underlying5 (by kernel_rfl) (by kernel_rfl) h1
  intro s h0 hs
  have := tab_all ⟨s, hs⟩ h0
  rw [hT.cell (g := 1) (by kernel_rfl) (tzOff s) (by rw [show tabZ.length = 64 from rfl]; exact this.2), this.1]
theorem TabIs.size2 {W : World} (h : TabIs W) : 2 ≤ W.heap.size := by
  have := World.block_lt_of_cell? W _ (h 1 (by omega) (by omega))
  exact this
/-- The door's own heap meets the condition. -/
theorem door_met (os : Os) (args : Array Value) : laidMetH Tryd.prog laid2 ((World.doorLaid Tryd.prog 19 os).forCall (fun _ _ => 0) ⟨#[], args, []⟩).memory :=
  laidMetH_of_parts3 (fuel := 8) (laidMet_of_run' 8 (by kernel_rfl) (by kernel_rfl)) (by kernel_rfl) (by kernel_rfl)
theorem own : ownKnob Tryd.prog.godebug = none := by kernel_rfl
theorem laidOut : laidOutB Tryd.prog = true := by kernel_rfl

/-! Layer 2: how pairs and triples of numbers come in as arguments. -/
open Go.RowKit Go.ChangeShapes Go.WideShapes Go.Deep
section
variable {H : Type} {enc : TypeId × Value → H} {w : World} {held : Bool}
set_option maxRecDepth 100000 in
theorem open_i2 {r : Reach} {b0 : Nat} {v : Value} {d : DataW H} {p : List MemPlace} (hv : Value.okWide Tryd.prog w r b0 49 v) (h : DataW.Trod enc Tryd.prog w 0 (fun _ => true) held 49 v d p) : ∃ (a b : Int), v = .agg #[.int .i64 a, .int .i64 b] := by
  obtain ⟨cs, rfl, hsz⟩ := okWide_struct Tryd.underlying49 hv
  rw [show Tryd.prog.cellsOf 49 = 2 by kernel_rfl] at hsz
  obtain ⟨l⟩ := cs
  match l, hsz with
  | [c0, c1], _ =>
    obtain ⟨fuel, hf⟩ := h
    obtain ⟨xs, n, _, _, _, hlen, hg⟩ := DataW.trod_struct Tryd.underlying49 hf
    match xs, hlen with
    | [y0, y1], _ =>
      have g0 : DataW.trod enc Tryd.prog w 0 (fun _ => true) held n 3 [c0] = some y0 := by simpa [Value.cells, cells_int] using hg 0 _ rfl
      have g1 : DataW.trod enc Tryd.prog w 0 (fun _ => true) held n 3 [c1] = some y1 := by simpa [Value.cells, cells_int] using hg 1 _ rfl
      obtain ⟨a, ha, _⟩ := DataW.trod_int Tryd.underlying3 g0
      obtain ⟨b, hb, _⟩ := DataW.trod_int Tryd.underlying3 g1
      simp at ha hb
      exact ⟨a, b, by rw [ha, hb]⟩
set_option maxRecDepth 100000 in
theorem open_i3 {r : Reach} {b0 : Nat} {v : Value} {d : DataW H} {p : List MemPlace} (hv : Value.okWide Tryd.prog w r b0 62 v) (h : DataW.Trod enc Tryd.prog w 0 (fun _ => true) held 62 v d p) : ∃ (a b c : Int), v = .agg #[.int .i64 a, .int .i64 b, .int .i64 c] := by
  obtain ⟨cs, rfl, hsz⟩ := okWide_struct Tryd.underlying62 hv
  rw [show Tryd.prog.cellsOf 62 = 3 by kernel_rfl] at hsz
  obtain ⟨l⟩ := cs
  match l, hsz with
  | [c0, c1, c2], _ =>
    obtain ⟨fuel, hf⟩ := h
    obtain ⟨xs, n, _, _, _, hlen, hg⟩ := DataW.trod_struct Tryd.underlying62 hf
    match xs, hlen with
    | [y0, y1, y2], _ =>
      have g0 : DataW.trod enc Tryd.prog w 0 (fun _ => true) held n 3 [c0] = some y0 := by simpa [Value.cells, cells_int] using hg 0 _ rfl
      have g1 : DataW.trod enc Tryd.prog w 0 (fun _ => true) held n 3 [c1] = some y1 := by simpa [Value.cells, cells_int] using hg 1 _ rfl
      have g2 : DataW.trod enc Tryd.prog w 0 (fun _ => true) held n 3 [c2] = some y2 := by simpa [Value.cells, cells_int] using hg 2 _ rfl
      obtain ⟨a, ha, _⟩ := DataW.trod_int Tryd.underlying3 g0
      obtain ⟨b, hb, _⟩ := DataW.trod_int Tryd.underlying3 g1
      obtain ⟨c, hc, _⟩ := DataW.trod_int Tryd.underlying3 g2
      simp at ha hb hc
      exact ⟨a, b, c, by rw [ha, hb, hc]⟩
end
end Go.Proofs.YtgpcaaknpfopgaaDoor
