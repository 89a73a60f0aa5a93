/- Layer 2: the walk of the law AnchorsEach. -/
import Derived.Test.YtgpcaaknpfopgaaDoorAnPlain7
import Derived.Test.YtgpcaaknpfopgaaDoorAn27
import Derived.Test.YtgpcaaknpfopgaaDoorAn26
import Derived.Test.YtgpcaaknpfopgaaDoorAn28
namespace Go.Proofs.YtgpcaaknpfopgaaDoor
open Go.RowKit
open An

theorem safe_k (r : NetR) (n : Net) (x : Int) (hx : safeX n = x) (hv : valid n = true) (B : Nat) (w : World) [hB : Le B w] (h : NetIs B w r n) :
    Calls Tryd.prog 36 #[netV r n] w fun e w' => e = .returned (.tuple #[.int .i64 x, .int .i64 0]) ∧ ∃ δ, w' = lat w δ := by
  have := safe_c r n B w h
  rw [show onOk (valid n) (knownB (decide (stepM n (worstT n) 0 = 0)) (decide (stepM n (bestT n) 0 = 0))) = x from hx, show errOf (valid n) 20 = 0 by rw [hv]; rfl] at this
  exact this
theorem drag_k (r : NetR) (n : Net) (i : Nat) (x : Int) (hx : dragV n i = x) (hv : valid n = true) (hi : i < n.ancs.length) (B : Nat) (w : World) [hB : Le B w] (h : NetIs B w r n) :
    Calls Tryd.prog 30 #[netV r n, .int .i64 i] w fun e w' => e = .returned (.tuple #[.int .i64 x, .int .i64 0]) ∧ ∃ δ, w' = lat w δ := by
  have := drag_c r n i B w h
  rw [hx, show askE (valid n) (inB 0 ((n.ancs.length : Int) - 1) (i : Int)) = 0 by rw [hv, show inB 0 ((n.ancs.length : Int) - 1) (i : Int) = true by rw [inB_iff]; omega]; rfl] at this
  exact this
theorem spare_k (r : NetR) (n : Net) (i : Nat) (hv : valid n = true) (hi : i < n.ancs.length) (B : Nat) (w : World) [hB : Le B w] (h : NetIs B w r n) :
    Calls Tryd.prog 33 #[netV r n, .int .i64 i] w fun e w' => e = .returned (.tuple #[.agg #[.int .i64 (spareV n i).lo, .int .i64 (spareV n i).hi], .int .i64 0]) ∧ ∃ δ, w' = lat w δ := by
  have := spareN_c r n i B w h
  rw [show askE (valid n) (inB 0 ((n.ancs.length : Int) - 1) (i : Int)) = 0 by rw [hv, show inB 0 ((n.ancs.length : Int) - 1) (i : Int) = true by rw [inB_iff]; omega]; rfl] at this
  exact this
theorem first_k (r : NetR) (n : Net) (rt : TruR) (t : Tru) (hv : valid n = true) (ht : truB n t = true) (B : Nat) (w : World) [hB : Le B w] [h2 : Le 2 w] (h : NetIs B w r n) (h' : TruIs B w rt t) (hT : TabIs w) :
    Calls Tryd.prog 51 #[netV r n, truV rt t] w fun e w' => ∃ (A : Option Addr) (c : Nat) (δ : World), e = .returned (.tuple #[.slice A (firstV n t).length c, .int .i64 0]) ∧ w' = lat w δ ∧ Sl encI (lat w δ).heap.size (lat w δ) A c (firstV n t) := by
  have := first_c r n rt t B w h h' hT
  rw [show askE (valid n) (truB n t) = 0 by rw [hv, ht]; rfl] at this
  exact this

end Go.Proofs.YtgpcaaknpfopgaaDoor
