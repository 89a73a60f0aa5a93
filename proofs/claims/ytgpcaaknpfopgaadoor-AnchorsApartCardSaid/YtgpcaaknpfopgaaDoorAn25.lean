/- Layer 2: the walk of the law AnchorsWind. -/
import Derived.Test.YtgpcaaknpfopgaaDoorAn24
import Derived.Test.YtgpcaaknpfopgaaDoorAn20
namespace Go.Proofs.YtgpcaaknpfopgaaDoor
open Go.RowKit
open An

theorem huge_no {n : Net} {t : Tru} (h : hugeV n t = false) : n.grips.length ≤ 1000 ∧ n.ancs.length ≤ 1000 ∧ n.wals.length ≤ 1000 ∧ t.grips.length ≤ 1000 := by
  simp only [hugeV, Bool.or_eq_false_iff, decide_eq_false_iff_not] at h
  omega

set_option maxRecDepth 100000 in
set_option maxHeartbeats 4000000 in
theorem lawWind_c (r : NetR) (n : Net) (B : Nat) (w : World) [hB : Le B w] [h2 : Le 2 w] (h : NetIs B w r n) (hT : TabIs w) :
    Calls Tryd.prog 3 #[netV r n] w fun e w' => e = .returned (.bool true) ∧ ∃ δ, w' = lat w δ := by
  have HT := Lib.hid hT
  have H := Lib.hid h
  clear hT h
  go_enter Tryd.func3, Tryd.ntmps3
  go_wp2_with (fail)
  refine (far_c r n B _ H.out.up).mono ?_
  unfold FarPost
  rintro e w1 ⟨b, rfl, hb, δ, rfl⟩
  cases b
  · have HQ := Lib.hid (huge_no (hb rfl))
    clear hb
    go_wp2_with (fail)
    refine (copy_c r n B _ H.out.up HQ.out.1 HQ.out.2.1 HQ.out.2.2.1).mono ?_
    rintro e w1 ⟨r', δ', rfl, rfl, ho⟩
    have HO := Lib.hid ho
    clear ho
    go_wp2_with (fail)
    refine (wind_c r' n _ _ HO.out.is.wide).mono ?_
    rintro e w1 ⟨rfl, δ1, rfl⟩
    go_wp2_with (fail)
    refine (rWind_c r n B _ H.out.up).mono ?_
    rw [(wind_same n).1, (wind_same n).2]
    rintro e w1 ⟨rfl, δ2, rfl⟩
    go_wp2_with (fail)
    refine (storm_c r' n _ _ HO.out.is.wide).mono ?_
    rintro e w1 ⟨rfl, δ3, rfl⟩
    go_wp2_with (fail)
    refine (rStorm_c r n B _ H.out.up).mono ?_
    rw [(storm_same n).1, (storm_same n).2]
    rintro e w1 ⟨rfl, δ4, rfl⟩
    go_wp2_with (fail)
    refine (same_c r' r n _ _ HO.out.is.wide (H.out.wide)).mono ?_
    rintro e w1 ⟨rfl, δ5, rfl⟩
    go_wp2_with (fail)
    refine (works_c _ (HT.out.up Grew.out)).mono ?_
    rintro e w1 ⟨rfl, δ6, rfl⟩
    go_wp2_with (fail)
    go_ret
    exact ⟨rfl, lat_ex⟩
  · go_wp2_with (fail)
    refine (works_c _ (HT.out.up Grew.out)).mono ?_
    rintro e w1 ⟨rfl, δ6, rfl⟩
    go_wp2_with (fail)
    go_ret
    exact ⟨rfl, lat_ex⟩

end Go.Proofs.YtgpcaaknpfopgaaDoor
