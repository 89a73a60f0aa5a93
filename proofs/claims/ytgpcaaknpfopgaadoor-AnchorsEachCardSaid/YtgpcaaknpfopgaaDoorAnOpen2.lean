/- Layer 2: how pairs and triples of numbers come in as arguments. -/
import Derived.Test.YtgpcaaknpfopgaaDoorAnOpen
namespace Go.Proofs.YtgpcaaknpfopgaaDoor
open Go.RowKit Go.ChangeShapes Go.WideShapes Go.Deep
section
variable {H : Type} {enc : TypeId × Value → H} {w : World} {held : Bool}
set_option maxRecDepth 100000 in
theorem open_i2 {r : Reach} {b0 : Nat} {v : Value} {d : DataW H} {p : List MemPlace} (hv : Value.okWide Tryd.prog w r b0 49 v) (h : DataW.Trod enc Tryd.prog w 0 (fun _ => true) held 49 v d p) : ∃ (a b : Int), v = .agg #[.int .i64 a, .int .i64 b] := by
  obtain ⟨cs, rfl, hsz⟩ := okWide_struct Tryd.underlying49 hv
  rw [show Tryd.prog.cellsOf 49 = 2 by kernel_rfl] at hsz
  obtain ⟨l⟩ := cs
  match l, hsz with
  | [c0, c1], _ =>
    obtain ⟨fuel, hf⟩ := h
    obtain ⟨xs, n, _, _, _, hlen, hg⟩ := DataW.trod_struct Tryd.underlying49 hf
    match xs, hlen with
    | [y0, y1], _ =>
      have g0 : DataW.trod enc Tryd.prog w 0 (fun _ => true) held n 3 [c0] = some y0 := by simpa [Value.cells, cells_int] using hg 0 _ rfl
      have g1 : DataW.trod enc Tryd.prog w 0 (fun _ => true) held n 3 [c1] = some y1 := by simpa [Value.cells, cells_int] using hg 1 _ rfl
      obtain ⟨a, ha, _⟩ := DataW.trod_int Tryd.underlying3 g0
      obtain ⟨b, hb, _⟩ := DataW.trod_int Tryd.underlying3 g1
      simp at ha hb
      exact ⟨a, b, by rw [ha, hb]⟩
set_option maxRecDepth 100000 in
theorem open_i3 {r : Reach} {b0 : Nat} {v : Value} {d : DataW H} {p : List MemPlace} (hv : Value.okWide Tryd.prog w r b0 62 v) (h : DataW.Trod enc Tryd.prog w 0 (fun _ => true) held 62 v d p) : ∃ (a b c : Int), v = .agg #[.int .i64 a, .int .i64 b, .int .i64 c] := by
  obtain ⟨cs, rfl, hsz⟩ := okWide_struct Tryd.underlying62 hv
  rw [show Tryd.prog.cellsOf 62 = 3 by kernel_rfl] at hsz
  obtain ⟨l⟩ := cs
  match l, hsz with
  | [c0, c1, c2], _ =>
    obtain ⟨fuel, hf⟩ := h
    obtain ⟨xs, n, _, _, _, hlen, hg⟩ := DataW.trod_struct Tryd.underlying62 hf
    match xs, hlen with
    | [y0, y1, y2], _ =>
      have g0 : DataW.trod enc Tryd.prog w 0 (fun _ => true) held n 3 [c0] = some y0 := by simpa [Value.cells, cells_int] using hg 0 _ rfl
      have g1 : DataW.trod enc Tryd.prog w 0 (fun _ => true) held n 3 [c1] = some y1 := by simpa [Value.cells, cells_int] using hg 1 _ rfl
      have g2 : DataW.trod enc Tryd.prog w 0 (fun _ => true) held n 3 [c2] = some y2 := by simpa [Value.cells, cells_int] using hg 2 _ rfl
      obtain ⟨a, ha, _⟩ := DataW.trod_int Tryd.underlying3 g0
      obtain ⟨b, hb, _⟩ := DataW.trod_int Tryd.underlying3 g1
      obtain ⟨c, hc, _⟩ := DataW.trod_int Tryd.underlying3 g2
      simp at ha hb hc
      exact ⟨a, b, c, by rw [ha, hb, hc]⟩
end
end Go.Proofs.YtgpcaaknpfopgaaDoor
