/- Layer 4: works of the laws. -/
import Derived.Test.YtbfehifidlojlaaMe15
namespace Go.Proofs.Ytbfehifidlojlaa
open Go.RowKit
open Me

theorem ex_lat {w W : World} (δ : World) (h : ∃ d, W = lat w d) : ∃ d, lat W δ = lat w d := by
  obtain ⟨d, rfl⟩ := h; exact ⟨_, lat_lat _ _ _⟩
theorem ex_alloc {w W : World} (o : Obj) (h : ∃ d, W = lat w d) : ∃ d, W.alloc o = lat w d := by
  obtain ⟨d, rfl⟩ := h; exact ⟨_, (lat_of ((lat_below w d).alloc (lat_size w d) o)).symm⟩
theorem netM {B : Nat} {w : World} {r : NetR} (h : NetIs B w r exN) : NetIs B w r exM := h
set_option maxRecDepth 100000 in
set_option maxHeartbeats 4000000 in
theorem works_c (w : World) :
    Calls Try.prog 16 #[] w fun e w' => e = .returned (.bool true) ∧ ∃ δ, w' = lat w δ := by
  go_enter Try.func16, Try.ntmps16
  go_wp2_with (first
    | (go_at_call 59; refine (example_c _).mono ?_; rintro e w1 ⟨r, δ, rfl, rfl, hN⟩)
    | (go_at_call 36; refine (timesP_yes r exN exN_valid _ _ [1, 0, 2] ex_ord1 _ _ (Sl_box (T := 3) (cs := #[.int .i64 1, .int .i64 0, .int .i64 2]) [1, 0, 2] (Box.new (by go_simp)) (by decide) (by decide) rfl) hN.out.wide).mono ?_; rw [ex_times]; rintro e w1 ⟨A1, c1, δ1, rfl, rfl, hS1⟩)
    | (go_at_call 38; refine (lostP_yes r exN exN_valid _ _ [0, 2, 1] ex_ord2 _ _ (Sl_box (T := 3) (cs := #[.int .i64 0, .int .i64 2, .int .i64 1]) [0, 2, 1] (Box.new (by go_simp)) (by decide) (by decide) rfl) hN.out.wide).mono ?_; rw [ex_lost.1, ex_lost.2]; rintro e w1 ⟨rfl, δ2, rfl⟩)
    | (go_at_call 48; refine (leastP_yes r exM exM_valid _ _ (netM hN.out.wide)).mono ?_; rw [ex_least]; rintro e w1 ⟨rfl, δ3, rfl⟩)
    | (go_at_call 40; refine (ruleP_yes r exN exN_valid _ _ hN.out.wide).mono ?_; rw [ex_rule]; rintro e w1 ⟨A4, c4, δ4, rfl, rfl, hS4⟩)
    | (go_at_call 20; refine (regretP_yes r exN exN_valid _ _ [1, 0, 2] ex_ord1 _ _ (Sl_box (T := 3) (cs := #[.int .i64 1, .int .i64 0, .int .i64 2]) [1, 0, 2] (Box.new (by go_simp)) (by decide) (by decide) rfl) hN.out.wide).mono ?_; rw [ex_regret]; rintro e w1 ⟨rfl, δ5, rfl⟩)
    | (go_at_call 44; refine (doneP_yes r exM exM_valid _ _ (netM hN.out.wide)).mono ?_; rw [ex_done]; rintro e w1 ⟨rfl, δ6, rfl⟩))
  refine (sameInts_c A1 _ c1 _ _ 3 [5, 3, 6] [5, 3, 6] rfl rfl true (by decide) _ _ _ hS1.out.wide (Sl_box (T := 3) (cs := #[.int .i64 5, .int .i64 3, .int .i64 6]) [5, 3, 6] (Box.new (by go_simp)) (by decide) (by decide) rfl)).mono ?_
  rintro e w1 ⟨rfl, δ7, rfl⟩
  go_wp2_with (fail)
  refine (sameInts_c A4 _ c4 _ _ 3 [1, 0, 2] [1, 0, 2] rfl rfl true (by decide) _ _ _ hS4.out.wide (Sl_box (T := 3) (cs := #[.int .i64 1, .int .i64 0, .int .i64 2]) [1, 0, 2] (Box.new (by go_simp)) (by decide) (by decide) rfl)).mono ?_
  rintro e w1 ⟨rfl, δ8, rfl⟩
  go_wp2_with (fail)
  go_ret
  refine ⟨rfl, ?_⟩
  repeat (first | with_reducible exact ⟨_, rfl⟩ | with_reducible refine ex_lat _ ?_ | with_reducible refine ex_alloc _ ?_)

end Go.Proofs.Ytbfehifidlojlaa
