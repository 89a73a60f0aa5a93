/- Layer 4: the reference's given, Good, Times, Lost; the law's Same. -/
import Derived.Test.YtbfehifidlojlaaMe24
namespace Go.Proofs.Ytbfehifidlojlaa
open Go.RowKit
open Me

theorem giv_yes (r : NetR) (n : Net) (hv : valid n = true) (A : Option Addr) (c : Nat) (l : List Int) (hl : isOrd n l = true) (B : Nat) (w : World) (hS : Sl encI B w A c l) (hN : NetIs B w r n) [hB : Le B w] :
    Calls Try.prog 63 #[netV r n, .slice A l.length c] w fun e w' => e = .returned (.int .i64 0) ∧ ∃ δ, w' = lat w δ := by
  have HN := Lib.hid hN
  have HS := Lib.hid hS
  have HV := Lib.hid hv
  have HO := Lib.hid hl
  clear hN hS hv hl
  go_enter Try.func63, Try.ntmps63
  go_wp2_with (first
    | (go_at_call 33; refine (rCheck_yes r n HV.out B _ HN.out.up).mono ?_; rintro e w1 ⟨rfl, δ, rfl⟩)
    | (go_at_call 19; refine (rIsOrder_c r n A c l _ HO.out B _ HS.out.up HN.out.up).mono ?_; rintro e w1 ⟨rfl, δ2, rfl⟩))
  go_ret
  exact ⟨rfl, lat_ex⟩
theorem giv_arg (r : NetR) (n : Net) (hv : valid n = true) (A : Option Addr) (c : Nat) (l : List Int) (hl : isOrd n l = false) (B : Nat) (w : World) (hS : Sl encI B w A c l) (hN : NetIs B w r n) [hB : Le B w] :
    Calls Try.prog 63 #[netV r n, .slice A l.length c] w fun e w' => e = .returned (.int .i64 1) ∧ ∃ δ, w' = lat w δ := by
  have HN := Lib.hid hN
  have HS := Lib.hid hS
  have HV := Lib.hid hv
  have HO := Lib.hid hl
  clear hN hS hv hl
  go_enter Try.func63, Try.ntmps63
  go_wp2_with (first
    | (go_at_call 33; refine (rCheck_yes r n HV.out B _ HN.out.up).mono ?_; rintro e w1 ⟨rfl, δ, rfl⟩)
    | (go_at_call 19; refine (rIsOrder_c r n A c l _ HO.out B _ HS.out.up HN.out.up).mono ?_; rintro e w1 ⟨rfl, δ2, rfl⟩))
  go_ret
  exact ⟨rfl, lat_ex⟩
theorem giv_no (r : NetR) (n : Net) (hv : valid n = false) (v : Value) (B : Nat) (w : World) (hN : NetIs B w r n) [hB : Le B w] :
    Calls Try.prog 63 #[netV r n, v] w fun e w' => e = .returned (.int .i64 40) ∧ ∃ δ, w' = lat w δ := by
  have HN := Lib.hid hN
  have HV := Lib.hid hv
  clear hN hv
  go_enter Try.func63, Try.ntmps63
  go_wp2_with (first
    | (go_at_call 33; refine (rCheck_no r n HV.out B _ HN.out.up).mono ?_; rintro e w1 ⟨rfl, δ, rfl⟩))
  go_ret
  exact ⟨rfl, lat_ex⟩

theorem rGood_yes (r : NetR) (n : Net) (hv : valid n = true) (A : Option Addr) (c : Nat) (l : List Int) (b : Bool) (hl : isOrd n l = b) (B : Nat) (w : World) (hS : Sl encI B w A c l) (hN : NetIs B w r n) [hB : Le B w] :
    Calls Try.prog 35 #[netV r n, .slice A l.length c] w fun e w' => e = .returned (.tuple #[.bool b, .int .i64 0]) ∧ ∃ δ, w' = lat w δ := by
  have HN := Lib.hid hN
  have HS := Lib.hid hS
  have HV := Lib.hid hv
  have HO := Lib.hid hl
  clear hN hS hv hl
  go_enter Try.func35, Try.ntmps35
  go_wp2_with (first
    | (go_at_call 33; refine (rCheck_yes r n HV.out B _ HN.out.up).mono ?_; rintro e w1 ⟨rfl, δ, rfl⟩)
    | (go_at_call 19; refine (rIsOrder_c r n A c l _ HO.out B _ HS.out.up HN.out.up).mono ?_; rintro e w1 ⟨rfl, δ2, rfl⟩))
  go_ret2
  exact ⟨rfl, lat_ex⟩
theorem rGood_no (r : NetR) (n : Net) (hv : valid n = false) (v : Value) (B : Nat) (w : World) (hN : NetIs B w r n) [hB : Le B w] :
    Calls Try.prog 35 #[netV r n, v] w fun e w' => e = .returned (.tuple #[.bool false, .int .i64 40]) ∧ ∃ δ, w' = lat w δ := by
  have HN := Lib.hid hN
  have HV := Lib.hid hv
  clear hN hv
  go_enter Try.func35, Try.ntmps35
  go_wp2_with (first
    | (go_at_call 33; refine (rCheck_no r n HV.out B _ HN.out.up).mono ?_; rintro e w1 ⟨rfl, δ, rfl⟩))
  go_ret2
  exact ⟨rfl, lat_ex⟩

theorem rTimes_yes (r : NetR) (n : Net) (hv : valid n = true) (A : Option Addr) (c : Nat) (l : List Int) (hl : isOrd n l = true) (B : Nat) (w : World) (hS : Sl encI B w A c l) (hN : NetIs B w r n) [hB : Le B w] :
    Calls Try.prog 37 #[netV r n, .slice A l.length c] w fun e w' => ∃ (A' : Option Addr) (c' : Nat) (δ : World), e = .returned (.tuple #[.slice A' n.hs.length c', .int .i64 0]) ∧ w' = lat w δ ∧ Hid (Sl encI (lat w δ).heap.size (lat w δ) A' c' (times n l)) := by
  have HN := Lib.hid hN
  have HS := Lib.hid hS
  have HV := Lib.hid hv
  have HO := Lib.hid hl
  clear hN hS hv hl
  go_enter Try.func37, Try.ntmps37
  go_wp2_with (first
    | (go_at_call 63; refine (giv_yes r n HV.out A c l HO.out B _ HS.out.up HN.out.up).mono ?_; rintro e w1 ⟨rfl, δ, rfl⟩)
    | (go_at_call 68; refine (rTimes_v r n A c _ l B _ HS.out.up HN.out.up HV.out HO.out rfl).mono ?_; rintro e w1 ⟨A1, c1, δ2, rfl, rfl, hT⟩))
  go_ret2
  refine ⟨A1, c1, _, rfl, lat_def, ?_⟩
  rw [← lat_def (w := w)]
  exact hT
theorem rTimes_arg (r : NetR) (n : Net) (hv : valid n = true) (A : Option Addr) (c : Nat) (l : List Int) (hl : isOrd n l = false) (B : Nat) (w : World) (hS : Sl encI B w A c l) (hN : NetIs B w r n) [hB : Le B w] :
    Calls Try.prog 37 #[netV r n, .slice A l.length c] w fun e w' => e = .returned (.tuple #[.slice none 0 0, .int .i64 1]) ∧ ∃ δ, w' = lat w δ := by
  have HN := Lib.hid hN
  have HS := Lib.hid hS
  have HV := Lib.hid hv
  have HO := Lib.hid hl
  clear hN hS hv hl
  go_enter Try.func37, Try.ntmps37
  go_wp2_with (first
    | (go_at_call 63; refine (giv_arg r n HV.out A c l HO.out B _ HS.out.up HN.out.up).mono ?_; rintro e w1 ⟨rfl, δ, rfl⟩))
  go_ret2
  exact ⟨rfl, lat_ex⟩
theorem rTimes_no (r : NetR) (n : Net) (hv : valid n = false) (v : Value) (B : Nat) (w : World) (hN : NetIs B w r n) [hB : Le B w] :
    Calls Try.prog 37 #[netV r n, v] w fun e w' => e = .returned (.tuple #[.slice none 0 0, .int .i64 40]) ∧ ∃ δ, w' = lat w δ := by
  have HN := Lib.hid hN
  have HV := Lib.hid hv
  clear hN hv
  go_enter Try.func37, Try.ntmps37
  go_wp2_with (first
    | (go_at_call 63; refine (giv_no r n HV.out v B _ HN.out.up).mono ?_; rintro e w1 ⟨rfl, δ, rfl⟩))
  go_ret2
  exact ⟨rfl, lat_ex⟩

end Go.Proofs.Ytbfehifidlojlaa
