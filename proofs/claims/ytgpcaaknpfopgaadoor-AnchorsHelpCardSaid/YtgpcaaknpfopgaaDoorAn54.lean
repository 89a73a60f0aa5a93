/- Layer 2: the walk of the law AnchorsHelp. -/
import Derived.Test.YtgpcaaknpfopgaaDoorAn53
import Derived.Test.YtgpcaaknpfopgaaDoorAn22
import Derived.Test.YtgpcaaknpfopgaaDoorAn25
namespace Go.Proofs.YtgpcaaknpfopgaaDoor
open Go.RowKit
open An

set_option maxRecDepth 100000 in
set_option maxHeartbeats 4000000 in
theorem lawHelp_c (r : NetR) (n : Net) (B : Nat) (w : World) [hB : Le B w] [h2 : Le 2 w] (h : NetIs B w r n) (hT : TabIs w) :
    Calls Tryd.prog 11 #[netV r n] w fun e w' => e = .returned (.bool true) ∧ ∃ δ, w' = lat w δ := by
  have HT := Lib.hid hT
  have H := Lib.hid h
  clear hT h
  go_enter Tryd.func11, Tryd.ntmps11
  go_wp2_with (fail)
  refine (far_c r n B _ H.out.up).mono ?_
  unfold FarPost
  rintro e w1 ⟨b, rfl, hb, δ, rfl⟩
  cases b
  · have HQ := Lib.hid (huge_no (hb rfl))
    clear hb
    go_wp2_with (fail)
    refine (copy_c r n B _ H.out.up HQ.out.1 HQ.out.2.1 HQ.out.2.2.1).mono ?_
    rintro e w1 ⟨r', δ', rfl, rfl, ho⟩
    have HO := Lib.hid ho
    clear ho
    go_wp2_with (fail)
    refine (pHelp_c r' n _ _ HO.out.is.wide).mono ?_
    rintro e w1 ⟨rfl, δ1, rfl⟩
    go_wp2_with (fail)
    refine (rHelp_c r n B _ H.out.up).mono ?_
    rintro e w1 ⟨rfl, δ2, rfl⟩
    go_wp2_with (fail)
    refine (need_c r' n _ _ HO.out.is.wide).mono ?_
    rintro e w1 ⟨A1, c1, δ3, rfl, rfl, hS1⟩
    have HS1 := Lib.hid hS1
    clear hS1
    go_wp2_with (fail)
    refine (rNeed_c r n B _ H.out.up).mono ?_
    rintro e w1 ⟨A2, c2, δ4, rfl, rfl, hS2⟩
    have HS2 := Lib.hid hS2
    clear hS2
    go_wp2_with (fail)
    refine (sameEq_c A1 A2 c1 c2 (needV n) _ rfl _ _ _ HS1.out.wide HS2.out.wide).mono ?_
    rintro e w1 ⟨rfl, δ5, rfl⟩
    go_wp2_with (fail)
    refine (same_c r' r n _ _ HO.out.is.wide (H.out.wide)).mono ?_
    rintro e w1 ⟨rfl, δ6, rfl⟩
    go_wp2_with (fail)
    refine (works_c _ (HT.out.up Grew.out)).mono ?_
    rintro e w1 ⟨rfl, δ7, rfl⟩
    go_wp2_with (fail)
    go_ret
    exact ⟨rfl, lat_ex⟩
  · go_wp2_with (fail)
    refine (works_c _ (HT.out.up Grew.out)).mono ?_
    rintro e w1 ⟨rfl, δ6, rfl⟩
    go_wp2_with (fail)
    go_ret
    exact ⟨rfl, lat_ex⟩

end Go.Proofs.YtgpcaaknpfopgaaDoor
