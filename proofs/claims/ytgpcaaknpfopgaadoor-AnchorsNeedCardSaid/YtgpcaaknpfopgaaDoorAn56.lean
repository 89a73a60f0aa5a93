/- Layer 2: the walk of the law AnchorsNeed. -/
import Derived.Test.YtgpcaaknpfopgaaDoorAn55
namespace Go.Proofs.YtgpcaaknpfopgaaDoor
open Go.RowKit
open An

set_option maxRecDepth 100000 in
set_option maxHeartbeats 4000000 in
theorem lawNeed_c (r : NetR) (n : Net) (i : Int) (B : Nat) (w : World) [hB : Le B w] [h2 : Le 2 w] (h : NetIs B w r n) (hT : TabIs w) :
    Calls Tryd.prog 8 #[netV r n, .int .i64 i] w fun e w' => e = .returned (.bool true) ∧ ∃ δ, w' = lat w δ := by
  by_cases hg : readyV n = true
  all_goals try rw [Bool.not_eq_true] at hg
  case neg =>
    have HT := Lib.hid hT
    have H := Lib.hid h
    have HG := Lib.hid hg
    clear hT h hg
    go_enter Tryd.func8, Tryd.ntmps8
    go_wp2_with (fail)
    refine (readyV_is (r := r) HG.out H.out.up).mono ?_
    rintro e w1 ⟨rfl, δ1, rfl⟩
    go_wp2_with (go_at_call 16; refine (works_c _ (HT.out.up Grew.out)).mono ?_; rintro e w1 ⟨rfl, δ6, rfl⟩)
    go_ret
    exact ⟨rfl, lat_ex⟩
  by_cases hi : inB 0 (n.ancs.length - 1) i = true
  all_goals try rw [Bool.not_eq_true] at hi
  case neg =>
    have HT := Lib.hid hT
    have H := Lib.hid h
    have HG := Lib.hid hg
    have HI := Lib.hid hi
    clear hT h hg hi
    go_enter Tryd.func8, Tryd.ntmps8
    go_wp2_with (fail)
    refine (readyV_is (r := r) HG.out H.out.up).mono ?_
    rintro e w1 ⟨rfl, δ1, rfl⟩
    go_wp2_with (fail)
    refine (rIsAnchor_is (r := r) HI.out H.out.up).mono ?_
    rintro e w1 ⟨rfl, δ2, rfl⟩
    go_wp2_with (go_at_call 16; refine (works_c _ (HT.out.up Grew.out)).mono ?_; rintro e w1 ⟨rfl, δ6, rfl⟩)
    go_ret
    exact ⟨rfl, lat_ex⟩
  have hi' := inB_iff.1 hi
  obtain ⟨k, rfl⟩ := Int.eq_ofNat_of_zero_le hi'.1
  exact lawNeedT_c r n k B w h hT hg hi

end Go.Proofs.YtgpcaaknpfopgaaDoor
