/- Layer 4: how three lists come in as an argument. -/
import Derived.Test.YtbfehifidlojlaaMeOpen
import Derived.Test.YtbfehifidlojlaaMe25
namespace Go.Proofs.Ytbfehifidlojlaa
open Go.RowKit Go.ChangeShapes Go.WideShapes Go.Deep
open Me

theorem cells_il : Try.prog.cellsOf 30 = 1 := by kernel_rfl
theorem cells_tri : Try.prog.cellsOf 49 = 3 := by kernel_rfl
section
variable {H : Type} {enc : TypeId × Value → H} {w : World} {held : Bool}
set_option maxRecDepth 100000 in
theorem open_tri {r : Reach} {b0 : Nat} {v : Value} {d : DataW H} {p : List MemPlace} (hv : Value.okWide Try.prog w r b0 49 v) (h : DataW.Trod enc Try.prog w 0 (fun _ => true) held 49 v d p) : ∃ (q : TriR) (l1 l2 l3 : List Int), v = triV q l1 l2 l3 ∧ TriIs w.heap.size w q l1 l2 l3 := by
  obtain ⟨cs, rfl, hsz⟩ := okWide_struct Try.underlying49 hv
  rw [cells_tri] at hsz
  obtain ⟨l⟩ := cs
  match l, hsz with
  | [c0, c1, c2], _ =>
    obtain ⟨fuel, hf⟩ := h
    obtain ⟨xs, n, _, _, _, hlen, hg⟩ := DataW.trod_struct Try.underlying49 hf
    match xs, hlen with
    | [y0, y1, y2], _ =>
      have g0 : DataW.trod enc Try.prog w 0 (fun _ => true) held n 30 [c0] = some y0 := by simpa [Value.cells, cells_il] using hg 0 _ rfl
      have g1 : DataW.trod enc Try.prog w 0 (fun _ => true) held n 30 [c1] = some y1 := by simpa [Value.cells, cells_il] using hg 1 _ rfl
      have g2 : DataW.trod enc Try.prog w 0 (fun _ => true) held n 30 [c2] = some y2 := by simpa [Value.cells, cells_il] using hg 2 _ rfl
      obtain ⟨a1, k1, l1, e1, s1⟩ := open_il (v := c0) g0
      obtain ⟨a2, k2, l2, e2, s2⟩ := open_il (v := c1) g1
      obtain ⟨a3, k3, l3, e3, s3⟩ := open_il (v := c2) g2
      exact ⟨⟨a1, k1, a2, k2, a3, k3⟩, l1, l2, l3, by rw [e1, e2, e3], s1, s2, s3⟩
end
end Go.Proofs.Ytbfehifidlojlaa
