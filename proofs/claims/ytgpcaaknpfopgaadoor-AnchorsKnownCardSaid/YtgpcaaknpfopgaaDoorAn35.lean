/- Layer 2: the walk of the law AnchorsKnown. -/
import Derived.Test.YtgpcaaknpfopgaaDoorAn34
import Derived.Test.YtgpcaaknpfopgaaDoorAn25
import Derived.Outline
namespace Go.Proofs.YtgpcaaknpfopgaaDoor
open Go.RowKit
open An

theorem safe'_c (r : NetR) (n : Net) (B : Nat) (w : World) [hB : Le B w] (h : NetIs B w r n) :
    Calls Tryd.prog 36 #[netV r n] w fun e w' => e = .returned (.tuple #[.int .i64 (safeV n), .int .i64 (errOf (valid n) 20)]) ∧ ∃ δ, w' = lat w δ := safe_c r n B w h

set_option maxRecDepth 100000 in
set_option maxHeartbeats 4000000 in
theorem lawKnown_c (r : NetR) (n : Net) (i : Int) (B : Nat) (w : World) [hB : Le B w] [h2 : Le 2 w] (h : NetIs B w r n) (hT : TabIs w) :
    Calls Tryd.prog 10 #[netV r n, .int .i64 i] w fun e w' => e = .returned (.bool true) ∧ ∃ δ, w' = lat w δ := by
  have HT := Lib.hid hT
  have H := Lib.hid h
  clear hT h
  go_enter Tryd.func10, Tryd.ntmps10
  go_wp2_with (fail)
  refine (far_c r n B _ H.out.up).mono ?_
  unfold FarPost
  rintro e w1 ⟨b, rfl, hb, δ, rfl⟩
  cases b
  · have HQ := Lib.hid (huge_no (hb rfl))
    clear hb
    go_wp2_with (fail)
    refine (copy_c r n B _ H.out.up HQ.out.1 HQ.out.2.1 HQ.out.2.2.1).mono ?_
    rintro e w1 ⟨r', δ', rfl, rfl, ho⟩
    have HO := Lib.hid ho
    clear ho
    go_wp2_with (fail)
    refine (drag_c r' n i _ _ HO.out.is.wide).mono ?_
    rintro e w1 ⟨rfl, δ1, rfl⟩
    go_wp2_with (fail)
    refine (rDrag_c r n i B _ H.out.up).mono ?_
    rintro e w1 ⟨rfl, δ2, rfl⟩
    go_wp2_with (fail)
    refine (safe'_c r' n _ _ HO.out.is.wide).mono ?_
    rintro e w1 ⟨rfl, δ3, rfl⟩
    go_wp2_with (fail)
    refine (rSafe_c r n B _ H.out.up).mono ?_
    rintro e w1 ⟨rfl, δ4, rfl⟩
    go_wp2_with (fail)
    refine (spareN_c r' n i _ _ HO.out.is.wide).mono ?_
    rintro e w1 ⟨rfl, δ3, rfl⟩
    go_wp2_with (fail)
    refine (rSpare_c r n i B _ H.out.up).mono ?_
    rintro e w1 ⟨rfl, δ4, rfl⟩
    go_wp2_with (fail)
    refine (same_c r' r n _ _ HO.out.is.wide (H.out.wide)).mono ?_
    rintro e w1 ⟨rfl, δ5, rfl⟩
    go_wp2_with (fail)
    refine (works_c _ (HT.out.up Grew.out)).mono ?_
    rintro e w1 ⟨rfl, δ6, rfl⟩
    go_wp2_with (fail)
    go_ret
    exact ⟨rfl, lat_ex⟩
  · go_wp2_with (fail)
    refine (works_c _ (HT.out.up Grew.out)).mono ?_
    rintro e w1 ⟨rfl, δ6, rfl⟩
    go_wp2_with (fail)
    go_ret
    exact ⟨rfl, lat_ex⟩

end Go.Proofs.YtgpcaaknpfopgaaDoor
