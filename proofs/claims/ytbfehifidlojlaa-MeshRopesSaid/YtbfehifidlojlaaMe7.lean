/- Layer 4: the program's Check. -/
import Derived.Test.YtbfehifidlojlaaMe6
namespace Go.Proofs.Ytbfehifidlojlaa
open Go.RowKit
open Me

/-- The code of an error. -/
def errOf (ok : Bool) (k : Int) : Int := if ok then 0 else k

set_option maxRecDepth 100000 in
set_option maxHeartbeats 2000000 in
theorem check_c (r : NetR) (n : Net) (B : Nat) (w : World) (h : NetIs B w r n) [hB : Le B w] :
    Calls Try.prog 32 #[netV r n] w fun e w' => e = .returned (.int .i64 (errOf (valid n) 40)) ∧ ∃ δ, w' = lat w δ := by
  have l1 := h.1.len
  have l2 := h.2.len
  go_enter Try.func32, Try.ntmps32
  go_wp2_with (first
    | (go_at_call 71; refine (withinM_c _ _ _ _).mono ?_; rintro e w1 ⟨rfl, rfl⟩)
    | (go_at_call 72; go_in)
    | (go_at_call 74; go_in)
    | (go_at_call 95; refine (indexHoles_c r.hA _ r.hc n.hs B _ h.1.up rfl).mono ?_; rintro e w1 ⟨⟨k, rfl, hk⟩, δ, rfl⟩)
    | (go_at_call 96; refine (indexPrs_c r n w.heap.size _ r.pA _ r.pc n.ps B _ h.2.up rfl l1 (by go_simp) (by go_simp)).mono ?_; rintro e w1 ⟨⟨k2, rfl, hk2⟩, δ2, rfl⟩)
    | (go_at_call 76; refine (has_c r n (by omega) B _ h.up).mono ?_; rintro e w1 ⟨rfl, δ3, rfl⟩))
  all_goals
    go_ret
    refine ⟨ret_int ?_, lat_ex⟩
    go_light
    have hv := @valid_iff n
    have hw := @inB_iff 1 3 n.m
    grind [errOf]

end Go.Proofs.Ytbfehifidlojlaa
