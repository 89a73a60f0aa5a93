/- Layer 4: the reference's leastOf, Least, Order. -/
import Derived.Test.YtbfehifidlojlaaMe35
import Derived.Deep.RegionWith
namespace Go.Proofs.Ytbfehifidlojlaa
open Go.RowKit
open Me

theorem best_len {n : Net} (hv : valid n = true) : 0 < (bestL n).length ∧ (bestL n).length ≤ 50000 ∧ nth (bestL n) 0 = bestO n := by
  obtain ⟨ys, h⟩ := best_head (hasO_v hv)
  refine ⟨by rw [h]; simp, Nat.le_trans (List.length_filter_le _ _) (allO_len hv).2, by rw [h]; rfl⟩

set_option maxRecDepth 100000 in
set_option maxHeartbeats 4000000 in
theorem rLeastOf_c (r : NetR) (n : Net) (hv : valid n = true) (B : Nat) (w : World) (hN : NetIs B w r n) [hB : Le B w] :
    Calls Try.prog 83 #[netV r n] w fun e w' => e = .returned (.int .i64 (leastN n)) ∧ ∃ δ, w' = lat w δ := by
  have HN := Lib.hid hN
  have HV := Lib.hid hv
  obtain ⟨l0, l1, l2⟩ := best_len hv
  have HB := Lib.hid (bestO_ord (hasO_v hv))
  have HBL := Lib.hid (ord_len (bestO_ord (hasO_v hv)))
  have HL2 := Lib.hid l2
  have HLN := Lib.hid (show leastN n = worst n (bestO n) from rfl)
  have hl0 : (0 : Int) < ((bestL n).length : Int) := by omega
  clear hN hv l2
  go_enter Try.func83, Try.ntmps83
  go_wp2_with (fail)
  go_region_with
    (first
      | (go_at_call 86; refine (rBest_c r n HV.out B _ HN.out.up).mono ?_; rintro e w1 ⟨A1, c1, δ1, rfl, rfl, hS⟩; obtain ⟨b, o, A0, c0, rfl, hb, hc, hs0⟩ := hS.nth l0 (by rw [HL2.out, HBL.out]); rw [Nat.add_zero] at hc; have ib := Lt.mk hb; rw [HL2.out] at hs0; have H0 := Lib.hid hs0.plain; clear hs0 hb)
      | (go_at_call 30; refine (rWorstOf_c r n A0 c0 _ (bestO n) _ _ H0.out.up HN.out.wide.up HV.out HB.out HBL.out).mono ?_; rintro e w1 ⟨rfl, δ2, rfl⟩))
  all_goals
    go_wp2_with (fail)
    go_ret
    rw [HLN.out]
    exact ⟨rfl, lat_ex⟩

theorem rLeast_no (r : NetR) (n : Net) (hv : valid n = false) (B : Nat) (w : World) (hN : NetIs B w r n) [hB : Le B w] :
    Calls Try.prog 49 #[netV r n] w fun e w' => e = .returned (.tuple #[.int .i64 0, .int .i64 40]) ∧ ∃ δ, w' = lat w δ := by
  have HN := Lib.hid hN
  have HV := Lib.hid hv
  clear hN hv
  go_enter Try.func49, Try.ntmps49
  go_wp2_with (go_at_call 33; refine (rCheck_no r n HV.out B _ HN.out.up).mono ?_; rintro e w1 ⟨rfl, δ, rfl⟩)
  go_ret2
  exact ⟨rfl, lat_ex⟩
theorem rLeast_yes (r : NetR) (n : Net) (hv : valid n = true) (B : Nat) (w : World) (hN : NetIs B w r n) [hB : Le B w] :
    Calls Try.prog 49 #[netV r n] w fun e w' => e = .returned (.tuple #[.int .i64 (leastN n), .int .i64 0]) ∧ ∃ δ, w' = lat w δ := by
  have HN := Lib.hid hN
  have HV := Lib.hid hv
  clear hN hv
  go_enter Try.func49, Try.ntmps49
  go_wp2_with (first
    | (go_at_call 33; refine (rCheck_yes r n HV.out B _ HN.out.up).mono ?_; rintro e w1 ⟨rfl, δ, rfl⟩)
    | (go_at_call 83; refine (rLeastOf_c r n HV.out B _ HN.out.up).mono ?_; rintro e w1 ⟨rfl, δ2, rfl⟩))
  go_ret2
  exact ⟨rfl, lat_ex⟩
theorem rOrder_no (r : NetR) (n : Net) (hv : valid n = false) (B : Nat) (w : World) (hN : NetIs B w r n) [hB : Le B w] :
    Calls Try.prog 50 #[netV r n] w fun e w' => e = .returned (.tuple #[.slice none 0 0, .int .i64 40]) ∧ ∃ δ, w' = lat w δ := by
  have HN := Lib.hid hN
  have HV := Lib.hid hv
  clear hN hv
  go_enter Try.func50, Try.ntmps50
  go_wp2_with (go_at_call 33; refine (rCheck_no r n HV.out B _ HN.out.up).mono ?_; rintro e w1 ⟨rfl, δ, rfl⟩)
  go_ret2
  exact ⟨rfl, lat_ex⟩
theorem rOrder_yes (r : NetR) (n : Net) (hv : valid n = true) (B : Nat) (w : World) (hN : NetIs B w r n) [hB : Le B w] :
    Calls Try.prog 50 #[netV r n] w fun e w' => ∃ (A : Option Addr) (c : Nat) (δ : World), e = .returned (.tuple #[.slice A n.hs.length c, .int .i64 0]) ∧ w' = lat w δ ∧ Hid (Sl encI (lat w δ).heap.size (lat w δ) A c (bestO n)) := by
  have HN := Lib.hid hN
  have HV := Lib.hid hv
  obtain ⟨l0, l1, l2⟩ := best_len hv
  have HBL := Lib.hid (ord_len (bestO_ord (hasO_v hv)))
  have HL2 := Lib.hid l2
  have hl0 : (0 : Int) < ((bestL n).length : Int) := by omega
  clear hN hv l2
  go_enter Try.func50, Try.ntmps50
  go_wp2_with (first
    | (go_at_call 33; refine (rCheck_yes r n HV.out B _ HN.out.up).mono ?_; rintro e w1 ⟨rfl, δ, rfl⟩)
    | (go_at_call 86; refine (rBest_c r n HV.out B _ HN.out.up).mono ?_; rintro e w1 ⟨A1, c1, δ1, rfl, rfl, hS⟩; obtain ⟨b, o, A0, c0, rfl, hb, hc, hs0⟩ := hS.nth l0 (by rw [HL2.out, HBL.out]); rw [Nat.add_zero] at hc; have ib := Lt.mk hb; rw [HL2.out] at hs0; have H0 := Lib.hid hs0.plain; clear hs0 hb))
  go_ret2
  refine ⟨A0, c0, _, rfl, lat_def, ?_⟩
  rw [← lat_def (w := w)]
  exact H0

end Go.Proofs.Ytbfehifidlojlaa
