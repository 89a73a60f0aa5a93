/- Layer 2: the law AnchorsEach. -/
import Derived.Test.YtgpcaaknpfopgaaDoorAn43
import Derived.Test.YtgpcaaknpfopgaaDoorAn44
import Derived.Test.YtgpcaaknpfopgaaDoorAn45
namespace Go.Proofs.YtgpcaaknpfopgaaDoor
open Go.RowKit
open An

theorem lawEach_c (r : NetR) (n : Net) (rt : TruR) (t : Tru) (B : Nat) (w : World) [hB : Le B w] [h2 : Le 2 w] (h : NetIs B w r n) (h' : TruIs B w rt t) (hT : TabIs w) :
    Calls Tryd.prog 12 #[netV r n, truV rt t] w fun e w' => e = .returned (.bool true) ∧ ∃ δ, w' = lat w δ := by
  by_cases hg : valid n = true ∧ truB n t = true
  · rcases safe_cases hg.1 hg.2 with k | k | k
    · exact lawEach1_c r n rt t B w h h' hT fun _ _ => k
    · exact lawEach3_c r n rt t B w h h' hT fun _ _ => ⟨k, trivial⟩
    · exact lawEach2_c r n rt t B w h h' hT fun _ _ => k
  · exact lawEach3_c r n rt t B w h h' hT fun a b => absurd ⟨a, b⟩ hg

end Go.Proofs.YtgpcaaknpfopgaaDoor
