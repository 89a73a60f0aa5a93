/- Layer 2: the walk of the law AnchorsLoad. -/
import Derived.Test.YtgpcaaknpfopgaaDoorAn29
import Derived.Test.YtgpcaaknpfopgaaDoorAn30
import Derived.Test.YtgpcaaknpfopgaaDoorAn25
import Derived.Outline
namespace Go.Proofs.YtgpcaaknpfopgaaDoor
open Go.RowKit
open An

theorem rCheck_is {n : Net} {x : Int} (hx : errOf (valid n) 20 = x) {r : NetR} {B : Nat} {w : World} [hB : Le B w] (h : NetIs B w r n) :
    Calls Tryd.prog 39 #[netV r n] w fun e w' => e = .returned (.int .i64 x) ∧ ∃ δ, w' = lat w δ := by
  subst hx; exact rCheck_c r n B w h
theorem pCheck_is {n : Net} {x : Int} (hx : errOf (valid n) 20 = x) {r : NetR} {B : Nat} {w : World} [hB : Le B w] (h : NetIs B w r n) :
    Calls Tryd.prog 38 #[netV r n] w fun e w' => e = .returned (.int .i64 x) ∧ ∃ δ, w' = lat w δ := by
  subst hx; exact check_c r n B w h

set_option maxRecDepth 100000 in
set_option maxHeartbeats 4000000 in
theorem lawLoad_c (r : NetR) (n : Net) (x y z : Int) (B : Nat) (w : World) [hB : Le B w] [h2 : Le 2 w] (h : NetIs B w r n) (hT : TabIs w) :
    Calls Tryd.prog 9 #[netV r n, .agg #[.int .i64 x, .int .i64 y, .int .i64 z]] w fun e w' => e = .returned (.bool true) ∧ ∃ δ, w' = lat w δ := by
  have HT := Lib.hid hT
  have H := Lib.hid h
  clear hT h
  by_cases hg : hugeV n ⟨0, 0, []⟩ = true
  all_goals try rw [Bool.not_eq_true] at hg
  all_goals
    have HG := Lib.hid hg
    clear hg
  · go_enter Tryd.func9, Tryd.ntmps9
    go_wp2_with (first
      | (go_at_call 37; refine (huge_c r n ⟨none, 0⟩ ⟨0, 0, []⟩ _).mono ?_; rw [HG.out]; rintro e w1 ⟨rfl, δ, rfl⟩)
      | (go_at_call 16; refine (works_c _ (HT.out.up Grew.out)).mono ?_; rintro e w1 ⟨rfl, δ6, rfl⟩))
    go_ret
    exact ⟨rfl, lat_ex⟩
  · have HQ := Lib.hid (huge_no HG.out)
    obtain ⟨ck, hck⟩ : ∃ c, errOf (valid n) 20 = c := ⟨_, rfl⟩
    have HCK := Lib.hid hck
    clear hck
    go_enter Tryd.func9, Tryd.ntmps9
    go_wp2_with (first
      | (go_at_call 37; refine (huge_c r n ⟨none, 0⟩ ⟨0, 0, []⟩ _).mono ?_; rw [HG.out]; rintro e w1 ⟨rfl, δ, rfl⟩)
      | (go_at_call 17; refine (copy_c r n B _ H.out.up HQ.out.1 HQ.out.2.1 HQ.out.2.2.1).mono ?_; rintro e w1 ⟨r', δ', rfl, rfl, ho⟩; have HO := Lib.hid ho; clear ho))
    refine wp_region_lat (by kernel_rfl) (by kernel_rfl) ?_
    repeat (go_big_quiet_step ((first | (go_at_call 38; exact Calls.lat_of (pCheck_is HCK.out HO.out.is.wide)) | (go_at_call 39; exact Calls.lat_of (rCheck_is HCK.out H.out.up)))))
    refine wpQuiet_nil ?_
    rintro _ ⟨δq, rfl⟩
    go_wp2_with (fail)
    refine (pLoad_c r' n x y z _ _ HO.out.is.wide).mono ?_
    rintro e w1 ⟨rfl, δ1, rfl⟩
    go_wp2_with (fail)
    refine (rLoad_c r n x y z B _ H.out.up).mono ?_
    rintro e w1 ⟨rfl, δ2, rfl⟩
    go_wp2_with (fail)
    refine (pUpright_c r' n x _ _ HO.out.is.wide).mono ?_
    rintro e w1 ⟨rfl, δ3, rfl⟩
    go_wp2_with (fail)
    refine (rUpright_c r n x B _ H.out.up).mono ?_
    rintro e w1 ⟨rfl, δ4, rfl⟩
    go_wp2_with (fail)
    refine (same_c r' r n _ _ HO.out.is.wide (H.out.wide)).mono ?_
    rintro e w1 ⟨rfl, δ5, rfl⟩
    go_wp2_with (fail)
    refine (works_c _ (HT.out.up Grew.out)).mono ?_
    rintro e w1 ⟨rfl, δ6, rfl⟩
    go_wp2_with (fail)
    go_ret
    exact ⟨rfl, lat_ex⟩

end Go.Proofs.YtgpcaaknpfopgaaDoor
