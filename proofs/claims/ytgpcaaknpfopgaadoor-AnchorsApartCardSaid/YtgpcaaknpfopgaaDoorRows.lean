/-
  NARROWER THAN 'FOR EVERY INPUT', by the rows' own cells (each row's printed sentence says how): AnchorsWind: laid · AnchorsCalmer: laid · AnchorsApart: laid · AnchorsHeavier: laid · AnchorsBack: laid · AnchorsNeed: laid · AnchorsLoad: laid · AnchorsKnown: laid · AnchorsHelp: laid · AnchorsEach: laid · AnchorsPulled: laid · AnchorsDrags: laid.
  DERIVED. THE GIVEN ROWS OF THIS SEAT. 12 by the template 'for every input the law returns true; each argument reads behind the call as it read before'; 0 by the template 'total and deterministic' (their statements: YtgpcaaknpfopgaaDoorTotals.lean).
  GIVEN WITH THE SEED: the statements are not yours to turn. If you find one false, say at which input.
  Laid BY PROGRAM, IN A SANDBOX (cutbox-rows.mjs): the forced cells as the released guide's own fill.sh prints them over the translation 2b5692ae8ce212b1… (all of the seat's roots in one cut). By AI agents, Wed Nov 11 2026. No macro, syntax, notation, axiom, sorry.
-/
import Derived.Test.YtgpcaaknpfopgaaDoorChecked
import GoSem.Claim
import GoSem.ClaimJoined
import GoSem.ClaimMapViews
import Derived.JoinedTies
import Derived.KernelRfl
namespace Go.Proofs.YtgpcaaknpfopgaaDoor
/- THE CELL 'sum', in the pinned program and in every row, IS THE sha256 OF THE DUMP (.gsa) THAT YtgpcaaknpfopgaaDoorProg.lean LOADS. Nothing in Lean hashes anything: it is a label: what it is worth is what the hold of that sum in a sandbox is worth. -/
noncomputable def Tryd.pinned : Pinned := { name := "ytgpcaaknpfopgaadoor", sum := "2b5692ae8ce212b1f0437c737a6e111272936ab12cf24b1e7343b9210b605218", checked := Tryd.checked }
namespace Rows
def none {H : Type} : Left H := { results := [], args := [] }

/- WHAT THE LISTED PACKAGE-LEVEL VARIABLES READ AS WHEN THE CALL BEGINS. Each datum BY PROGRAM (the guide's laid-datum.mjs) off the statement by which the dump's own 'gosem.cut.vars' lays the variable. In a bare row this is a premise. The card (YtgpcaaknpfopgaaDoorCards.lean) ties it to the program's text. -/
def laid_math_bits_deBruijn32tab {H : Type} : DataW H := .agg [.lit (.int .u8 0), .lit (.int .u8 1), .lit (.int .u8 28), .lit (.int .u8 2), .lit (.int .u8 29), .lit (.int .u8 14), .lit (.int .u8 24), .lit (.int .u8 3), .lit (.int .u8 30), .lit (.int .u8 22), .lit (.int .u8 20), .lit (.int .u8 15), .lit (.int .u8 25), .lit (.int .u8 17), .lit (.int .u8 4), .lit (.int .u8 8), .lit (.int .u8 31), .lit (.int .u8 27), .lit (.int .u8 13), .lit (.int .u8 23), .lit (.int .u8 21), .lit (.int .u8 19), .lit (.int .u8 16), .lit (.int .u8 7), .lit (.int .u8 26), .lit (.int .u8 12), .lit (.int .u8 18), .lit (.int .u8 6), .lit (.int .u8 11), .lit (.int .u8 5), .lit (.int .u8 10), .lit (.int .u8 9)]
def laid_math_bits_deBruijn64tab {H : Type} : DataW H := .agg [.lit (.int .u8 0), .lit (.int .u8 1), .lit (.int .u8 56), .lit (.int .u8 2), .lit (.int .u8 57), .lit (.int .u8 49), .lit (.int .u8 28), .lit (.int .u8 3), .lit (.int .u8 61), .lit (.int .u8 58), .lit (.int .u8 42), .lit (.int .u8 50), .lit (.int .u8 38), .lit (.int .u8 29), .lit (.int .u8 17), .lit (.int .u8 4), .lit (.int .u8 62), .lit (.int .u8 47), .lit (.int .u8 59), .lit (.int .u8 36), .lit (.int .u8 45), .lit (.int .u8 43), .lit (.int .u8 51), .lit (.int .u8 22), .lit (.int .u8 53), .lit (.int .u8 39), .lit (.int .u8 33), .lit (.int .u8 30), .lit (.int .u8 24), .lit (.int .u8 18), .lit (.int .u8 12), .lit (.int .u8 5), .lit (.int .u8 63), .lit (.int .u8 55), .lit (.int .u8 48), .lit (.int .u8 27), .lit (.int .u8 60), .lit (.int .u8 41), .lit (.int .u8 37), .lit (.int .u8 16), .lit (.int .u8 46), .lit (.int .u8 35), .lit (.int .u8 44), .lit (.int .u8 21), .lit (.int .u8 52), .lit (.int .u8 32), .lit (.int .u8 23), .lit (.int .u8 11), .lit (.int .u8 54), .lit (.int .u8 26), .lit (.int .u8 40), .lit (.int .u8 15), .lit (.int .u8 34), .lit (.int .u8 20), .lit (.int .u8 31), .lit (.int .u8 10), .lit (.int .u8 25), .lit (.int .u8 14), .lit (.int .u8 19), .lit (.int .u8 9), .lit (.int .u8 13), .lit (.int .u8 8), .lit (.int .u8 7), .lit (.int .u8 6)]

/-- 'almadrabalaw02.AnchorsWind': WHATEVER THE INPUT: true; the input reads as it did. -/
def anchorsWindSpec : ChangeSpec := { name := "anchorsWind", fn := fun _ => fun
  | [d] => { results := [.lit (.bool true)], args := [d] }
  | _ => none }
def anchorsWindRow : OpenClaim := { program := "ytgpcaaknpfopgaadoor", sum := "2b5692ae8ce212b1f0437c737a6e111272936ab12cf24b1e7343b9210b605218", func := "almadraba/almadrabalaw02.AnchorsWind", spec := "anchorsWind", unfollowed := true, recurses := true, named := ["math/bits.deBruijn32tab", "math/bits.deBruijn64tab"], apart := false, laid := [("math/bits.deBruijn32tab", laid_math_bits_deBruijn32tab), ("math/bits.deBruijn64tab", laid_math_bits_deBruijn64tab)] }
def AnchorsWindSaid : Prop := anchorsWindRow.holds Tryd.pinned (OpenSpec.ofChange anchorsWindSpec)

/-- ITS FALSE NEIGHBOUR: 'it returns false'. Refute it at one input. -/
def anchorsWindWrong : ChangeSpec := { name := "anchorsWind", fn := fun _ => fun
  | [d] => { results := [.lit (.bool false)], args := [d] }
  | _ => none }
def AnchorsWindWrongFalsely : Prop := anchorsWindRow.holds Tryd.pinned (OpenSpec.ofChange anchorsWindWrong)

/-- 'almadrabalaw02.AnchorsCalmer': WHATEVER THE INPUT: true; the input reads as it did. -/
def anchorsCalmerSpec : ChangeSpec := { name := "anchorsCalmer", fn := fun _ => fun
  | [d1, d2, d3] => { results := [.lit (.bool true)], args := [d1, d2, d3] }
  | _ => none }
def anchorsCalmerRow : OpenClaim := { program := "ytgpcaaknpfopgaadoor", sum := "2b5692ae8ce212b1f0437c737a6e111272936ab12cf24b1e7343b9210b605218", func := "almadraba/almadrabalaw02.AnchorsCalmer", spec := "anchorsCalmer", unfollowed := true, recurses := true, named := ["math/bits.deBruijn32tab", "math/bits.deBruijn64tab"], apart := false, laid := [("math/bits.deBruijn32tab", laid_math_bits_deBruijn32tab), ("math/bits.deBruijn64tab", laid_math_bits_deBruijn64tab)] }
def AnchorsCalmerSaid : Prop := anchorsCalmerRow.holds Tryd.pinned (OpenSpec.ofChange anchorsCalmerSpec)

/-- ITS FALSE NEIGHBOUR: 'it returns false'. Refute it at one input. -/
def anchorsCalmerWrong : ChangeSpec := { name := "anchorsCalmer", fn := fun _ => fun
  | [d1, d2, d3] => { results := [.lit (.bool false)], args := [d1, d2, d3] }
  | _ => none }
def AnchorsCalmerWrongFalsely : Prop := anchorsCalmerRow.holds Tryd.pinned (OpenSpec.ofChange anchorsCalmerWrong)

/-- 'almadrabalaw02.AnchorsApart': WHATEVER THE INPUT: true; the input reads as it did. -/
def anchorsApartSpec : ChangeSpec := { name := "anchorsApart", fn := fun _ => fun
  | [d1, d2, d3] => { results := [.lit (.bool true)], args := [d1, d2, d3] }
  | _ => none }
def anchorsApartRow : OpenClaim := { program := "ytgpcaaknpfopgaadoor", sum := "2b5692ae8ce212b1f0437c737a6e111272936ab12cf24b1e7343b9210b605218", func := "almadraba/almadrabalaw02.AnchorsApart", spec := "anchorsApart", unfollowed := true, recurses := true, named := ["math/bits.deBruijn32tab", "math/bits.deBruijn64tab"], apart := false, laid := [("math/bits.deBruijn32tab", laid_math_bits_deBruijn32tab), ("math/bits.deBruijn64tab", laid_math_bits_deBruijn64tab)] }
def AnchorsApartSaid : Prop := anchorsApartRow.holds Tryd.pinned (OpenSpec.ofChange anchorsApartSpec)

/-- ITS FALSE NEIGHBOUR: 'it returns false'. Refute it at one input. -/
def anchorsApartWrong : ChangeSpec := { name := "anchorsApart", fn := fun _ => fun
  | [d1, d2, d3] => { results := [.lit (.bool false)], args := [d1, d2, d3] }
  | _ => none }
def AnchorsApartWrongFalsely : Prop := anchorsApartRow.holds Tryd.pinned (OpenSpec.ofChange anchorsApartWrong)

/-- 'almadrabalaw02.AnchorsHeavier': WHATEVER THE INPUT: true; the input reads as it did. -/
def anchorsHeavierSpec : ChangeSpec := { name := "anchorsHeavier", fn := fun _ => fun
  | [d1, d2, d3] => { results := [.lit (.bool true)], args := [d1, d2, d3] }
  | _ => none }
def anchorsHeavierRow : OpenClaim := { program := "ytgpcaaknpfopgaadoor", sum := "2b5692ae8ce212b1f0437c737a6e111272936ab12cf24b1e7343b9210b605218", func := "almadraba/almadrabalaw02.AnchorsHeavier", spec := "anchorsHeavier", unfollowed := true, recurses := true, named := ["math/bits.deBruijn32tab", "math/bits.deBruijn64tab"], apart := false, laid := [("math/bits.deBruijn32tab", laid_math_bits_deBruijn32tab), ("math/bits.deBruijn64tab", laid_math_bits_deBruijn64tab)] }
def AnchorsHeavierSaid : Prop := anchorsHeavierRow.holds Tryd.pinned (OpenSpec.ofChange anchorsHeavierSpec)

/-- ITS FALSE NEIGHBOUR: 'it returns false'. Refute it at one input. -/
def anchorsHeavierWrong : ChangeSpec := { name := "anchorsHeavier", fn := fun _ => fun
  | [d1, d2, d3] => { results := [.lit (.bool false)], args := [d1, d2, d3] }
  | _ => none }
def AnchorsHeavierWrongFalsely : Prop := anchorsHeavierRow.holds Tryd.pinned (OpenSpec.ofChange anchorsHeavierWrong)

/-- 'almadrabalaw02.AnchorsBack': WHATEVER THE INPUT: true; the input reads as it did. -/
def anchorsBackSpec : ChangeSpec := { name := "anchorsBack", fn := fun _ => fun
  | [d1, d2] => { results := [.lit (.bool true)], args := [d1, d2] }
  | _ => none }
def anchorsBackRow : OpenClaim := { program := "ytgpcaaknpfopgaadoor", sum := "2b5692ae8ce212b1f0437c737a6e111272936ab12cf24b1e7343b9210b605218", func := "almadraba/almadrabalaw02.AnchorsBack", spec := "anchorsBack", unfollowed := true, recurses := true, named := ["math/bits.deBruijn32tab", "math/bits.deBruijn64tab"], apart := false, laid := [("math/bits.deBruijn32tab", laid_math_bits_deBruijn32tab), ("math/bits.deBruijn64tab", laid_math_bits_deBruijn64tab)] }
def AnchorsBackSaid : Prop := anchorsBackRow.holds Tryd.pinned (OpenSpec.ofChange anchorsBackSpec)

/-- ITS FALSE NEIGHBOUR: 'it returns false'. Refute it at one input. -/
def anchorsBackWrong : ChangeSpec := { name := "anchorsBack", fn := fun _ => fun
  | [d1, d2] => { results := [.lit (.bool false)], args := [d1, d2] }
  | _ => none }
def AnchorsBackWrongFalsely : Prop := anchorsBackRow.holds Tryd.pinned (OpenSpec.ofChange anchorsBackWrong)

/-- 'almadrabalaw02.AnchorsNeed': WHATEVER THE INPUT: true; the input reads as it did. -/
def anchorsNeedSpec : ChangeSpec := { name := "anchorsNeed", fn := fun _ => fun
  | [d1, d2] => { results := [.lit (.bool true)], args := [d1, d2] }
  | _ => none }
def anchorsNeedRow : OpenClaim := { program := "ytgpcaaknpfopgaadoor", sum := "2b5692ae8ce212b1f0437c737a6e111272936ab12cf24b1e7343b9210b605218", func := "almadraba/almadrabalaw02.AnchorsNeed", spec := "anchorsNeed", unfollowed := true, recurses := true, named := ["math/bits.deBruijn32tab", "math/bits.deBruijn64tab"], apart := false, laid := [("math/bits.deBruijn32tab", laid_math_bits_deBruijn32tab), ("math/bits.deBruijn64tab", laid_math_bits_deBruijn64tab)] }
def AnchorsNeedSaid : Prop := anchorsNeedRow.holds Tryd.pinned (OpenSpec.ofChange anchorsNeedSpec)

/-- ITS FALSE NEIGHBOUR: 'it returns false'. Refute it at one input. -/
def anchorsNeedWrong : ChangeSpec := { name := "anchorsNeed", fn := fun _ => fun
  | [d1, d2] => { results := [.lit (.bool false)], args := [d1, d2] }
  | _ => none }
def AnchorsNeedWrongFalsely : Prop := anchorsNeedRow.holds Tryd.pinned (OpenSpec.ofChange anchorsNeedWrong)

/-- 'almadrabalaw02.AnchorsLoad': WHATEVER THE INPUT: true; the input reads as it did. -/
def anchorsLoadSpec : ChangeSpec := { name := "anchorsLoad", fn := fun _ => fun
  | [d1, d2] => { results := [.lit (.bool true)], args := [d1, d2] }
  | _ => none }
def anchorsLoadRow : OpenClaim := { program := "ytgpcaaknpfopgaadoor", sum := "2b5692ae8ce212b1f0437c737a6e111272936ab12cf24b1e7343b9210b605218", func := "almadraba/almadrabalaw02.AnchorsLoad", spec := "anchorsLoad", unfollowed := true, recurses := true, named := ["math/bits.deBruijn32tab", "math/bits.deBruijn64tab"], apart := false, laid := [("math/bits.deBruijn32tab", laid_math_bits_deBruijn32tab), ("math/bits.deBruijn64tab", laid_math_bits_deBruijn64tab)] }
def AnchorsLoadSaid : Prop := anchorsLoadRow.holds Tryd.pinned (OpenSpec.ofChange anchorsLoadSpec)

/-- ITS FALSE NEIGHBOUR: 'it returns false'. Refute it at one input. -/
def anchorsLoadWrong : ChangeSpec := { name := "anchorsLoad", fn := fun _ => fun
  | [d1, d2] => { results := [.lit (.bool false)], args := [d1, d2] }
  | _ => none }
def AnchorsLoadWrongFalsely : Prop := anchorsLoadRow.holds Tryd.pinned (OpenSpec.ofChange anchorsLoadWrong)

/-- 'almadrabalaw02.AnchorsKnown': WHATEVER THE INPUT: true; the input reads as it did. -/
def anchorsKnownSpec : ChangeSpec := { name := "anchorsKnown", fn := fun _ => fun
  | [d1, d2] => { results := [.lit (.bool true)], args := [d1, d2] }
  | _ => none }
def anchorsKnownRow : OpenClaim := { program := "ytgpcaaknpfopgaadoor", sum := "2b5692ae8ce212b1f0437c737a6e111272936ab12cf24b1e7343b9210b605218", func := "almadraba/almadrabalaw02.AnchorsKnown", spec := "anchorsKnown", unfollowed := true, recurses := true, named := ["math/bits.deBruijn32tab", "math/bits.deBruijn64tab"], apart := false, laid := [("math/bits.deBruijn32tab", laid_math_bits_deBruijn32tab), ("math/bits.deBruijn64tab", laid_math_bits_deBruijn64tab)] }
def AnchorsKnownSaid : Prop := anchorsKnownRow.holds Tryd.pinned (OpenSpec.ofChange anchorsKnownSpec)

/-- ITS FALSE NEIGHBOUR: 'it returns false'. Refute it at one input. -/
def anchorsKnownWrong : ChangeSpec := { name := "anchorsKnown", fn := fun _ => fun
  | [d1, d2] => { results := [.lit (.bool false)], args := [d1, d2] }
  | _ => none }
def AnchorsKnownWrongFalsely : Prop := anchorsKnownRow.holds Tryd.pinned (OpenSpec.ofChange anchorsKnownWrong)

/-- 'almadrabalaw02.AnchorsHelp': WHATEVER THE INPUT: true; the input reads as it did. -/
def anchorsHelpSpec : ChangeSpec := { name := "anchorsHelp", fn := fun _ => fun
  | [d] => { results := [.lit (.bool true)], args := [d] }
  | _ => none }
def anchorsHelpRow : OpenClaim := { program := "ytgpcaaknpfopgaadoor", sum := "2b5692ae8ce212b1f0437c737a6e111272936ab12cf24b1e7343b9210b605218", func := "almadraba/almadrabalaw02.AnchorsHelp", spec := "anchorsHelp", unfollowed := true, recurses := true, named := ["math/bits.deBruijn32tab", "math/bits.deBruijn64tab"], apart := false, laid := [("math/bits.deBruijn32tab", laid_math_bits_deBruijn32tab), ("math/bits.deBruijn64tab", laid_math_bits_deBruijn64tab)] }
def AnchorsHelpSaid : Prop := anchorsHelpRow.holds Tryd.pinned (OpenSpec.ofChange anchorsHelpSpec)

/-- ITS FALSE NEIGHBOUR: 'it returns false'. Refute it at one input. -/
def anchorsHelpWrong : ChangeSpec := { name := "anchorsHelp", fn := fun _ => fun
  | [d] => { results := [.lit (.bool false)], args := [d] }
  | _ => none }
def AnchorsHelpWrongFalsely : Prop := anchorsHelpRow.holds Tryd.pinned (OpenSpec.ofChange anchorsHelpWrong)

/-- 'almadrabalaw02.AnchorsEach': WHATEVER THE INPUT: true; the input reads as it did. -/
def anchorsEachSpec : ChangeSpec := { name := "anchorsEach", fn := fun _ => fun
  | [d1, d2] => { results := [.lit (.bool true)], args := [d1, d2] }
  | _ => none }
def anchorsEachRow : OpenClaim := { program := "ytgpcaaknpfopgaadoor", sum := "2b5692ae8ce212b1f0437c737a6e111272936ab12cf24b1e7343b9210b605218", func := "almadraba/almadrabalaw02.AnchorsEach", spec := "anchorsEach", unfollowed := true, recurses := true, named := ["math/bits.deBruijn32tab", "math/bits.deBruijn64tab"], apart := false, laid := [("math/bits.deBruijn32tab", laid_math_bits_deBruijn32tab), ("math/bits.deBruijn64tab", laid_math_bits_deBruijn64tab)] }
def AnchorsEachSaid : Prop := anchorsEachRow.holds Tryd.pinned (OpenSpec.ofChange anchorsEachSpec)

/-- ITS FALSE NEIGHBOUR: 'it returns false'. Refute it at one input. -/
def anchorsEachWrong : ChangeSpec := { name := "anchorsEach", fn := fun _ => fun
  | [d1, d2] => { results := [.lit (.bool false)], args := [d1, d2] }
  | _ => none }
def AnchorsEachWrongFalsely : Prop := anchorsEachRow.holds Tryd.pinned (OpenSpec.ofChange anchorsEachWrong)

/-- 'almadrabalaw02.AnchorsPulled': WHATEVER THE INPUT: true; the input reads as it did. -/
def anchorsPulledSpec : ChangeSpec := { name := "anchorsPulled", fn := fun _ => fun
  | [d1, d2, d3] => { results := [.lit (.bool true)], args := [d1, d2, d3] }
  | _ => none }
def anchorsPulledRow : OpenClaim := { program := "ytgpcaaknpfopgaadoor", sum := "2b5692ae8ce212b1f0437c737a6e111272936ab12cf24b1e7343b9210b605218", func := "almadraba/almadrabalaw02.AnchorsPulled", spec := "anchorsPulled", unfollowed := true, recurses := true, named := ["math/bits.deBruijn32tab", "math/bits.deBruijn64tab"], apart := false, laid := [("math/bits.deBruijn32tab", laid_math_bits_deBruijn32tab), ("math/bits.deBruijn64tab", laid_math_bits_deBruijn64tab)] }
def AnchorsPulledSaid : Prop := anchorsPulledRow.holds Tryd.pinned (OpenSpec.ofChange anchorsPulledSpec)

/-- ITS FALSE NEIGHBOUR: 'it returns false'. Refute it at one input. -/
def anchorsPulledWrong : ChangeSpec := { name := "anchorsPulled", fn := fun _ => fun
  | [d1, d2, d3] => { results := [.lit (.bool false)], args := [d1, d2, d3] }
  | _ => none }
def AnchorsPulledWrongFalsely : Prop := anchorsPulledRow.holds Tryd.pinned (OpenSpec.ofChange anchorsPulledWrong)

/-- 'almadrabalaw02.AnchorsDrags': WHATEVER THE INPUT: true; the input reads as it did. -/
def anchorsDragsSpec : ChangeSpec := { name := "anchorsDrags", fn := fun _ => fun
  | [d1, d2, d3] => { results := [.lit (.bool true)], args := [d1, d2, d3] }
  | _ => none }
def anchorsDragsRow : OpenClaim := { program := "ytgpcaaknpfopgaadoor", sum := "2b5692ae8ce212b1f0437c737a6e111272936ab12cf24b1e7343b9210b605218", func := "almadraba/almadrabalaw02.AnchorsDrags", spec := "anchorsDrags", unfollowed := true, recurses := true, named := ["math/bits.deBruijn32tab", "math/bits.deBruijn64tab"], apart := false, laid := [("math/bits.deBruijn32tab", laid_math_bits_deBruijn32tab), ("math/bits.deBruijn64tab", laid_math_bits_deBruijn64tab)] }
def AnchorsDragsSaid : Prop := anchorsDragsRow.holds Tryd.pinned (OpenSpec.ofChange anchorsDragsSpec)

/-- ITS FALSE NEIGHBOUR: 'it returns false'. Refute it at one input. -/
def anchorsDragsWrong : ChangeSpec := { name := "anchorsDrags", fn := fun _ => fun
  | [d1, d2, d3] => { results := [.lit (.bool false)], args := [d1, d2, d3] }
  | _ => none }
def AnchorsDragsWrongFalsely : Prop := anchorsDragsRow.holds Tryd.pinned (OpenSpec.ofChange anchorsDragsWrong)

/- THE SECOND FORM. 'bulk': how many values and letters a reading holds, each counted each time it is reached (what is shared counts as often as it is met; a slice's spare places count too). A statement '..UptoSaid' is the law's where the arguments, and the package variables that the reading takes, are together of bulk at most 1048576: NARROWER than '..Said'. Prove '..Said' where nothing that the law and all that it calls make is longer than what came in: it says more and counts as full. Else prove '..UptoSaid'. A law counts once. -/
mutual
def uptoBulk {H : Type} : DataW H → Nat
  | .lit (.string bytes) => bytes.length + 1
  | .lit _ => 1
  | .nil => 1
  | .ptr d => uptoBulk d + 1
  | .slice elems spare => uptoBulkAll elems + uptoBulkAll spare + 1
  | .agg parts => uptoBulkAll parts + 1
  | .iface _ d => uptoBulk d + 1
  | .map entries => uptoBulkEntries entries + 1
  | .held _ => 1
def uptoBulkAll {H : Type} : List (DataW H) → Nat
  | [] => 0
  | d :: r => uptoBulk d + uptoBulkAll r
def uptoBulkEntries {H : Type} : List (Lit × DataW H) → Nat
  | [] => 0
  | x :: r => uptoBulkEntry x + uptoBulkEntries r
def uptoBulkEntry {H : Type} : Lit × DataW H → Nat
  | (.string bytes, d) => bytes.length + uptoBulk d + 1
  | (_, d) => uptoBulk d + 1
 end
def uptoSmall : (H : Type) → List (DataW H) → Bool := fun _ ds => decide (uptoBulkAll ds ≤ 1048576)
def OpenSpec.upto (s : _root_.Go.ChangeSpec) : _root_.Go.OpenSpec := { _root_.Go.OpenSpec.ofChange s with cond := some uptoSmall }

/-- 'almadrabalaw02.AnchorsWind', WHERE WHAT IT READS IS OF BULK AT MOST 1048576: true; the input reads as it did. -/
def anchorsWindUptoRow : OpenClaim := { program := "ytgpcaaknpfopgaadoor", sum := "2b5692ae8ce212b1f0437c737a6e111272936ab12cf24b1e7343b9210b605218", func := "almadraba/almadrabalaw02.AnchorsWind", spec := "anchorsWind", unfollowed := true, recurses := true, named := ["math/bits.deBruijn32tab", "math/bits.deBruijn64tab"], apart := false, laid := [("math/bits.deBruijn32tab", laid_math_bits_deBruijn32tab), ("math/bits.deBruijn64tab", laid_math_bits_deBruijn64tab)], narrowed := true }
def AnchorsWindUptoSaid : Prop := anchorsWindUptoRow.holds Tryd.pinned (OpenSpec.upto anchorsWindSpec)

/-- 'almadrabalaw02.AnchorsCalmer', WHERE WHAT IT READS IS OF BULK AT MOST 1048576: true; the input reads as it did. -/
def anchorsCalmerUptoRow : OpenClaim := { program := "ytgpcaaknpfopgaadoor", sum := "2b5692ae8ce212b1f0437c737a6e111272936ab12cf24b1e7343b9210b605218", func := "almadraba/almadrabalaw02.AnchorsCalmer", spec := "anchorsCalmer", unfollowed := true, recurses := true, named := ["math/bits.deBruijn32tab", "math/bits.deBruijn64tab"], apart := false, laid := [("math/bits.deBruijn32tab", laid_math_bits_deBruijn32tab), ("math/bits.deBruijn64tab", laid_math_bits_deBruijn64tab)], narrowed := true }
def AnchorsCalmerUptoSaid : Prop := anchorsCalmerUptoRow.holds Tryd.pinned (OpenSpec.upto anchorsCalmerSpec)

/-- 'almadrabalaw02.AnchorsApart', WHERE WHAT IT READS IS OF BULK AT MOST 1048576: true; the input reads as it did. -/
def anchorsApartUptoRow : OpenClaim := { program := "ytgpcaaknpfopgaadoor", sum := "2b5692ae8ce212b1f0437c737a6e111272936ab12cf24b1e7343b9210b605218", func := "almadraba/almadrabalaw02.AnchorsApart", spec := "anchorsApart", unfollowed := true, recurses := true, named := ["math/bits.deBruijn32tab", "math/bits.deBruijn64tab"], apart := false, laid := [("math/bits.deBruijn32tab", laid_math_bits_deBruijn32tab), ("math/bits.deBruijn64tab", laid_math_bits_deBruijn64tab)], narrowed := true }
def AnchorsApartUptoSaid : Prop := anchorsApartUptoRow.holds Tryd.pinned (OpenSpec.upto anchorsApartSpec)

/-- 'almadrabalaw02.AnchorsHeavier', WHERE WHAT IT READS IS OF BULK AT MOST 1048576: true; the input reads as it did. -/
def anchorsHeavierUptoRow : OpenClaim := { program := "ytgpcaaknpfopgaadoor", sum := "2b5692ae8ce212b1f0437c737a6e111272936ab12cf24b1e7343b9210b605218", func := "almadraba/almadrabalaw02.AnchorsHeavier", spec := "anchorsHeavier", unfollowed := true, recurses := true, named := ["math/bits.deBruijn32tab", "math/bits.deBruijn64tab"], apart := false, laid := [("math/bits.deBruijn32tab", laid_math_bits_deBruijn32tab), ("math/bits.deBruijn64tab", laid_math_bits_deBruijn64tab)], narrowed := true }
def AnchorsHeavierUptoSaid : Prop := anchorsHeavierUptoRow.holds Tryd.pinned (OpenSpec.upto anchorsHeavierSpec)

/-- 'almadrabalaw02.AnchorsBack', WHERE WHAT IT READS IS OF BULK AT MOST 1048576: true; the input reads as it did. -/
def anchorsBackUptoRow : OpenClaim := { program := "ytgpcaaknpfopgaadoor", sum := "2b5692ae8ce212b1f0437c737a6e111272936ab12cf24b1e7343b9210b605218", func := "almadraba/almadrabalaw02.AnchorsBack", spec := "anchorsBack", unfollowed := true, recurses := true, named := ["math/bits.deBruijn32tab", "math/bits.deBruijn64tab"], apart := false, laid := [("math/bits.deBruijn32tab", laid_math_bits_deBruijn32tab), ("math/bits.deBruijn64tab", laid_math_bits_deBruijn64tab)], narrowed := true }
def AnchorsBackUptoSaid : Prop := anchorsBackUptoRow.holds Tryd.pinned (OpenSpec.upto anchorsBackSpec)

/-- 'almadrabalaw02.AnchorsNeed', WHERE WHAT IT READS IS OF BULK AT MOST 1048576: true; the input reads as it did. -/
def anchorsNeedUptoRow : OpenClaim := { program := "ytgpcaaknpfopgaadoor", sum := "2b5692ae8ce212b1f0437c737a6e111272936ab12cf24b1e7343b9210b605218", func := "almadraba/almadrabalaw02.AnchorsNeed", spec := "anchorsNeed", unfollowed := true, recurses := true, named := ["math/bits.deBruijn32tab", "math/bits.deBruijn64tab"], apart := false, laid := [("math/bits.deBruijn32tab", laid_math_bits_deBruijn32tab), ("math/bits.deBruijn64tab", laid_math_bits_deBruijn64tab)], narrowed := true }
def AnchorsNeedUptoSaid : Prop := anchorsNeedUptoRow.holds Tryd.pinned (OpenSpec.upto anchorsNeedSpec)

/-- 'almadrabalaw02.AnchorsLoad', WHERE WHAT IT READS IS OF BULK AT MOST 1048576: true; the input reads as it did. -/
def anchorsLoadUptoRow : OpenClaim := { program := "ytgpcaaknpfopgaadoor", sum := "2b5692ae8ce212b1f0437c737a6e111272936ab12cf24b1e7343b9210b605218", func := "almadraba/almadrabalaw02.AnchorsLoad", spec := "anchorsLoad", unfollowed := true, recurses := true, named := ["math/bits.deBruijn32tab", "math/bits.deBruijn64tab"], apart := false, laid := [("math/bits.deBruijn32tab", laid_math_bits_deBruijn32tab), ("math/bits.deBruijn64tab", laid_math_bits_deBruijn64tab)], narrowed := true }
def AnchorsLoadUptoSaid : Prop := anchorsLoadUptoRow.holds Tryd.pinned (OpenSpec.upto anchorsLoadSpec)

/-- 'almadrabalaw02.AnchorsKnown', WHERE WHAT IT READS IS OF BULK AT MOST 1048576: true; the input reads as it did. -/
def anchorsKnownUptoRow : OpenClaim := { program := "ytgpcaaknpfopgaadoor", sum := "2b5692ae8ce212b1f0437c737a6e111272936ab12cf24b1e7343b9210b605218", func := "almadraba/almadrabalaw02.AnchorsKnown", spec := "anchorsKnown", unfollowed := true, recurses := true, named := ["math/bits.deBruijn32tab", "math/bits.deBruijn64tab"], apart := false, laid := [("math/bits.deBruijn32tab", laid_math_bits_deBruijn32tab), ("math/bits.deBruijn64tab", laid_math_bits_deBruijn64tab)], narrowed := true }
def AnchorsKnownUptoSaid : Prop := anchorsKnownUptoRow.holds Tryd.pinned (OpenSpec.upto anchorsKnownSpec)

/-- 'almadrabalaw02.AnchorsHelp', WHERE WHAT IT READS IS OF BULK AT MOST 1048576: true; the input reads as it did. -/
def anchorsHelpUptoRow : OpenClaim := { program := "ytgpcaaknpfopgaadoor", sum := "2b5692ae8ce212b1f0437c737a6e111272936ab12cf24b1e7343b9210b605218", func := "almadraba/almadrabalaw02.AnchorsHelp", spec := "anchorsHelp", unfollowed := true, recurses := true, named := ["math/bits.deBruijn32tab", "math/bits.deBruijn64tab"], apart := false, laid := [("math/bits.deBruijn32tab", laid_math_bits_deBruijn32tab), ("math/bits.deBruijn64tab", laid_math_bits_deBruijn64tab)], narrowed := true }
def AnchorsHelpUptoSaid : Prop := anchorsHelpUptoRow.holds Tryd.pinned (OpenSpec.upto anchorsHelpSpec)

/-- 'almadrabalaw02.AnchorsEach', WHERE WHAT IT READS IS OF BULK AT MOST 1048576: true; the input reads as it did. -/
def anchorsEachUptoRow : OpenClaim := { program := "ytgpcaaknpfopgaadoor", sum := "2b5692ae8ce212b1f0437c737a6e111272936ab12cf24b1e7343b9210b605218", func := "almadraba/almadrabalaw02.AnchorsEach", spec := "anchorsEach", unfollowed := true, recurses := true, named := ["math/bits.deBruijn32tab", "math/bits.deBruijn64tab"], apart := false, laid := [("math/bits.deBruijn32tab", laid_math_bits_deBruijn32tab), ("math/bits.deBruijn64tab", laid_math_bits_deBruijn64tab)], narrowed := true }
def AnchorsEachUptoSaid : Prop := anchorsEachUptoRow.holds Tryd.pinned (OpenSpec.upto anchorsEachSpec)

/-- 'almadrabalaw02.AnchorsPulled', WHERE WHAT IT READS IS OF BULK AT MOST 1048576: true; the input reads as it did. -/
def anchorsPulledUptoRow : OpenClaim := { program := "ytgpcaaknpfopgaadoor", sum := "2b5692ae8ce212b1f0437c737a6e111272936ab12cf24b1e7343b9210b605218", func := "almadraba/almadrabalaw02.AnchorsPulled", spec := "anchorsPulled", unfollowed := true, recurses := true, named := ["math/bits.deBruijn32tab", "math/bits.deBruijn64tab"], apart := false, laid := [("math/bits.deBruijn32tab", laid_math_bits_deBruijn32tab), ("math/bits.deBruijn64tab", laid_math_bits_deBruijn64tab)], narrowed := true }
def AnchorsPulledUptoSaid : Prop := anchorsPulledUptoRow.holds Tryd.pinned (OpenSpec.upto anchorsPulledSpec)

/-- 'almadrabalaw02.AnchorsDrags', WHERE WHAT IT READS IS OF BULK AT MOST 1048576: true; the input reads as it did. -/
def anchorsDragsUptoRow : OpenClaim := { program := "ytgpcaaknpfopgaadoor", sum := "2b5692ae8ce212b1f0437c737a6e111272936ab12cf24b1e7343b9210b605218", func := "almadraba/almadrabalaw02.AnchorsDrags", spec := "anchorsDrags", unfollowed := true, recurses := true, named := ["math/bits.deBruijn32tab", "math/bits.deBruijn64tab"], apart := false, laid := [("math/bits.deBruijn32tab", laid_math_bits_deBruijn32tab), ("math/bits.deBruijn64tab", laid_math_bits_deBruijn64tab)], narrowed := true }
def AnchorsDragsUptoSaid : Prop := anchorsDragsUptoRow.holds Tryd.pinned (OpenSpec.upto anchorsDragsSpec)

end Rows
end Go.Proofs.YtgpcaaknpfopgaaDoor
