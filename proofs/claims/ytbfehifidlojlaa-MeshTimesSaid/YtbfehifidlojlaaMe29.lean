/- Layer 4: the reference's Lost. -/
import Derived.Test.YtbfehifidlojlaaMe28
namespace Go.Proofs.Ytbfehifidlojlaa
open Go.RowKit
open Me

set_option maxRecDepth 100000 in
set_option maxHeartbeats 8000000 in
theorem rLost_yes (r : NetR) (n : Net) (hv : valid n = true) (A : Option Addr) (c : Nat) (l : List Int) (hl : isOrd n l = true) (B : Nat) (w : World) (hS : Sl encI B w A c l) (hN : NetIs B w r n) [hB : Le B w] :
    Calls Try.prog 39 #[netV r n, .slice A l.length c] w fun e w' => e = .returned (.tuple #[.agg #[.int .i64 (loss n l (lows n)), .int .i64 (worst n l)], .int .i64 0]) ∧ ∃ δ, w' = lat w δ := by
  have HN := Lib.hid hN
  have HS := Lib.hid hS
  have HV := Lib.hid hv
  have HO := Lib.hid hl
  have h6 := (ok_of hv).2.1
  have HHI := Lib.hid (highs_le (ok_of hv).2.2.2.1)
  clear hN hS hv hl
  go_enter Try.func39, Try.ntmps39
  go_wp2_with (first
    | (go_at_call 63; refine (giv_yes r n HV.out A c l HO.out B _ HS.out.up HN.out.up).mono ?_; rintro e w1 ⟨rfl, δ, rfl⟩))
  go_region_held3 (fun W => W.cell? ⟨w.heap.size, 0, none⟩ = some (.int .i64 n.m) ∧ W.cell? ⟨w.heap.size, 1, none⟩ = some (.slice r.hA n.hs.length r.hc) ∧ W.cell? ⟨w.heap.size, 2, none⟩ = some (.slice r.pA n.ps.length r.pc))
    (refine ⟨?_, ?_, ?_⟩ <;> go_simp)
    (first
      | (go_at_call 69; refine (rHighs_c r n B _ HN.out.up (by omega)).mono ?_; rintro e w1 ⟨AH, cH, δh, rfl, rfl, hH⟩)
      | (go_at_call 80; refine (rLows_c r n B _ HN.out.up (by omega)).mono ?_; rintro e w1 ⟨AL, cL, δl, rfl, rfl, hL⟩)
      | (go_at_call 29; with_reducible refine (rLossOf_c r n A c _ l AH cH _ (highs n) _ _ HS.out.wide hH.out.wide HN.out.wide HV.out HO.out rfl (by simp [highs]) (by simp [highs]) HHI.out.1).mono ?_; rintro e w1 ⟨rfl, δ2, rfl⟩)
      | (go_at_call 29; with_reducible refine (rLossOf_c r n A c _ l AL cL _ (lows n) _ _ HS.out.wide hL.out.wide HN.out.wide HV.out HO.out rfl (by simp [lows]) (by simp [lows]) HHI.out.2).mono ?_; rintro e w1 ⟨rfl, δ3, rfl⟩))
  go_wp2_with (fail)
  refine bodyPost_ret (v := .tuple #[.agg #[.int .i64 (loss n l (lows n)), .int .i64 (worst n l)], .int .i64 0]) ?_ rfl ⟨rfl, lat_ex⟩
  simp only [results, Try.results39]
  go_simp
  rfl
theorem rLost_arg (r : NetR) (n : Net) (hv : valid n = true) (A : Option Addr) (c : Nat) (l : List Int) (hl : isOrd n l = false) (B : Nat) (w : World) (hS : Sl encI B w A c l) (hN : NetIs B w r n) [hB : Le B w] :
    Calls Try.prog 39 #[netV r n, .slice A l.length c] w fun e w' => e = .returned (.tuple #[.agg #[.int .i64 0, .int .i64 0], .int .i64 1]) ∧ ∃ δ, w' = lat w δ := by
  have HN := Lib.hid hN
  have HS := Lib.hid hS
  have HV := Lib.hid hv
  have HO := Lib.hid hl
  clear hN hS hv hl
  go_enter Try.func39, Try.ntmps39
  go_wp2_with (first
    | (go_at_call 63; refine (giv_arg r n HV.out A c l HO.out B _ HS.out.up HN.out.up).mono ?_; rintro e w1 ⟨rfl, δ, rfl⟩))
  refine bodyPost_ret (v := .tuple #[.agg #[.int .i64 0, .int .i64 0], .int .i64 1]) ?_ rfl ⟨rfl, lat_ex⟩
  simp only [results, Try.results39]
  go_simp
theorem rLost_no (r : NetR) (n : Net) (hv : valid n = false) (v : Value) (B : Nat) (w : World) (hN : NetIs B w r n) [hB : Le B w] :
    Calls Try.prog 39 #[netV r n, v] w fun e w' => e = .returned (.tuple #[.agg #[.int .i64 0, .int .i64 0], .int .i64 40]) ∧ ∃ δ, w' = lat w δ := by
  have HN := Lib.hid hN
  have HV := Lib.hid hv
  clear hN hv
  go_enter Try.func39, Try.ntmps39
  go_wp2_with (first
    | (go_at_call 63; refine (giv_no r n HV.out v B _ HN.out.up).mono ?_; rintro e w1 ⟨rfl, δ, rfl⟩))
  refine bodyPost_ret (v := .tuple #[.agg #[.int .i64 0, .int .i64 0], .int .i64 40]) ?_ rfl ⟨rfl, lat_ex⟩
  simp only [results, Try.results39]
  go_simp

end Go.Proofs.Ytbfehifidlojlaa
