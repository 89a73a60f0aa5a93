/- Layer 4: how a pair comes in as an argument. -/
import Derived.Test.YtbfehifidlojlaaMeOpen
namespace Go.Proofs.Ytbfehifidlojlaa
open Go.RowKit Go.ChangeShapes Go.WideShapes Go.Deep
open Me

section
variable {H : Type} {enc : TypeId × Value → H} {w : World} {held : Bool}
set_option maxRecDepth 100000 in
theorem open_pair {r : Reach} {b0 : Nat} {v : Value} {d : DataW H} {p : List MemPlace} (hv : Value.okWide Try.prog w r b0 63 v) (h : DataW.Trod enc Try.prog w 0 (fun _ => true) held 63 v d p) : ∃ (a b : Int), v = .agg #[.int .i64 a, .int .i64 b] := by
  obtain ⟨cs, rfl, hsz⟩ := okWide_struct Try.underlying63 hv
  rw [cells_pr] at hsz
  obtain ⟨l⟩ := cs
  match l, hsz with
  | [c0, c1], _ =>
    obtain ⟨fuel, hf⟩ := h
    obtain ⟨xs, n, _, _, _, hlen, hg⟩ := DataW.trod_struct Try.underlying63 hf
    match xs, hlen with
    | [y0, y1], _ =>
      have g0 : DataW.trod enc Try.prog w 0 (fun _ => true) held n 3 [c0] = some y0 := by simpa [Value.cells, cells_int] using hg 0 _ rfl
      have g1 : DataW.trod enc Try.prog w 0 (fun _ => true) held n 3 [c1] = some y1 := by simpa [Value.cells, cells_int] using hg 1 _ rfl
      obtain ⟨a, ha⟩ := open_int1 g0
      obtain ⟨b, hb⟩ := open_int1 g1
      simp [encI] at ha hb
      exact ⟨a, b, by rw [ha, hb]⟩
end

end Go.Proofs.Ytbfehifidlojlaa
