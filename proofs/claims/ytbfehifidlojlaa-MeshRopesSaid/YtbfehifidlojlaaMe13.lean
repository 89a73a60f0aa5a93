/- Layer 4: Good, Times, Lost, Regret of the program. -/
import Derived.Test.YtbfehifidlojlaaMe12
namespace Go.Proofs.Ytbfehifidlojlaa
open Go.RowKit
open Me

theorem check_yes (r : NetR) (n : Net) (hv : valid n = true) (B : Nat) (w : World) (h : NetIs B w r n) [hB : Le B w] :
    Calls Try.prog 32 #[netV r n] w fun e w' => e = .returned (.int .i64 0) ∧ ∃ δ, w' = lat w δ := by
  have := check_c r n B w h; rwa [show errOf (valid n) 40 = 0 by rw [hv]; rfl] at this
theorem check_no (r : NetR) (n : Net) (hv : valid n = false) (B : Nat) (w : World) (h : NetIs B w r n) [hB : Le B w] :
    Calls Try.prog 32 #[netV r n] w fun e w' => e = .returned (.int .i64 40) ∧ ∃ δ, w' = lat w δ := by
  have := check_c r n B w h; rwa [show errOf (valid n) 40 = 40 by rw [hv]; rfl] at this

theorem goodP_yes (r : NetR) (n : Net) (hv : valid n = true) (A : Option Addr) (c : Nat) (l : List Int) (B : Nat) (w : World) (hS : Sl encI B w A c l) (hN : NetIs B w r n) [hB : Le B w] :
    Calls Try.prog 34 #[netV r n, .slice A l.length c] w fun e w' => e = .returned (.tuple #[.bool (isOrd n l), .int .i64 0]) ∧ ∃ δ, w' = lat w δ := by
  have HN := Lib.hid hN
  have HS := Lib.hid hS
  have HV := Lib.hid hv
  clear hN hS hv
  go_enter Try.func34, Try.ntmps34
  go_wp2_with (first
    | (go_at_call 32; refine (check_yes r n HV.out B _ HN.out.up).mono ?_; rintro e w1 ⟨rfl, δ, rfl⟩)
    | (go_at_call 77; refine (good_c r n A c l _ rfl B _ HS.out.up HN.out.up).mono ?_; rintro e w1 ⟨rfl, δ2, rfl⟩))
  go_ret2
  exact ⟨rfl, lat_ex⟩
theorem goodP_no (r : NetR) (n : Net) (hv : valid n = false) (v : Value) (B : Nat) (w : World) (hN : NetIs B w r n) [hB : Le B w] :
    Calls Try.prog 34 #[netV r n, v] w fun e w' => e = .returned (.tuple #[.bool false, .int .i64 40]) ∧ ∃ δ, w' = lat w δ := by
  have HN := Lib.hid hN
  have HV := Lib.hid hv
  clear hN hv
  go_enter Try.func34, Try.ntmps34
  go_wp2_with (go_at_call 32; refine (check_no r n HV.out B _ HN.out.up).mono ?_; rintro e w1 ⟨rfl, δ, rfl⟩)
  go_ret2
  exact ⟨rfl, lat_ex⟩

theorem open_yes (r : NetR) (n : Net) (hv : valid n = true) (A : Option Addr) (c : Nat) (l : List Int) (hl : isOrd n l = true) (B : Nat) (w : World) (hS : Sl encI B w A c l) (hN : NetIs B w r n) [hB : Le B w] :
    Calls Try.prog 61 #[netV r n, .slice A l.length c] w fun e w' => e = .returned (.tuple #[netV r n, .int .i64 0]) ∧ ∃ δ, w' = lat w δ := by
  have HN := Lib.hid hN
  have HS := Lib.hid hS
  have HV := Lib.hid hv
  have HO := Lib.hid hl
  clear hN hS hv hl
  go_enter Try.func61, Try.ntmps61
  go_wp2_with (first
    | (go_at_call 32; refine (check_yes r n HV.out B _ HN.out.up).mono ?_; rintro e w1 ⟨rfl, δ, rfl⟩)
    | (go_at_call 77; refine (good_c r n A c l _ HO.out B _ HS.out.up HN.out.up).mono ?_; rintro e w1 ⟨rfl, δ2, rfl⟩))
  refine bodyPost_ret (v := .tuple #[netV r n, .int .i64 0]) ?_ rfl ⟨rfl, lat_ex⟩
  simp only [results, Try.results61]
  go_simp
abbrev netZ : Value := .agg #[.int .i64 0, .slice none 0 0, .slice none 0 0]
theorem open_arg (r : NetR) (n : Net) (hv : valid n = true) (A : Option Addr) (c : Nat) (l : List Int) (hl : isOrd n l = false) (B : Nat) (w : World) (hS : Sl encI B w A c l) (hN : NetIs B w r n) [hB : Le B w] :
    Calls Try.prog 61 #[netV r n, .slice A l.length c] w fun e w' => e = .returned (.tuple #[netZ, .int .i64 1]) ∧ ∃ δ, w' = lat w δ := by
  have HN := Lib.hid hN
  have HS := Lib.hid hS
  have HV := Lib.hid hv
  have HO := Lib.hid hl
  clear hN hS hv hl
  go_enter Try.func61, Try.ntmps61
  go_wp2_with (first
    | (go_at_call 32; refine (check_yes r n HV.out B _ HN.out.up).mono ?_; rintro e w1 ⟨rfl, δ, rfl⟩)
    | (go_at_call 77; refine (good_c r n A c l _ HO.out B _ HS.out.up HN.out.up).mono ?_; rintro e w1 ⟨rfl, δ2, rfl⟩))
  refine bodyPost_ret (v := .tuple #[netZ, .int .i64 1]) ?_ rfl ⟨rfl, lat_ex⟩
  simp only [results, Try.results61]
  go_simp
theorem open_no (r : NetR) (n : Net) (hv : valid n = false) (v : Value) (B : Nat) (w : World) (hN : NetIs B w r n) [hB : Le B w] :
    Calls Try.prog 61 #[netV r n, v] w fun e w' => e = .returned (.tuple #[netZ, .int .i64 40]) ∧ ∃ δ, w' = lat w δ := by
  have HN := Lib.hid hN
  have HV := Lib.hid hv
  clear hN hv
  go_enter Try.func61, Try.ntmps61
  go_wp2_with (go_at_call 32; refine (check_no r n HV.out B _ HN.out.up).mono ?_; rintro e w1 ⟨rfl, δ, rfl⟩)
  refine bodyPost_ret (v := .tuple #[netZ, .int .i64 40]) ?_ rfl ⟨rfl, lat_ex⟩
  simp only [results, Try.results61]
  go_simp

theorem timesP_yes (r : NetR) (n : Net) (hv : valid n = true) (A : Option Addr) (c : Nat) (l : List Int) (hl : isOrd n l = true) (B : Nat) (w : World) (hS : Sl encI B w A c l) (hN : NetIs B w r n) [hB : Le B w] :
    Calls Try.prog 36 #[netV r n, .slice A l.length c] w fun e w' => ∃ (A' : Option Addr) (c' : Nat) (δ : World), e = .returned (.tuple #[.slice A' n.hs.length c', .int .i64 0]) ∧ w' = lat w δ ∧ Hid (Sl encI (lat w δ).heap.size (lat w δ) A' c' (times n l)) := by
  have HN := Lib.hid hN
  have HS := Lib.hid hS
  have HV := Lib.hid hv
  have HO := Lib.hid hl
  clear hN hS hv hl
  go_enter Try.func36, Try.ntmps36
  go_wp2_with (first
    | (go_at_call 61; refine (open_yes r n HV.out A c l HO.out B _ HS.out.up HN.out.up).mono ?_; rintro e w1 ⟨rfl, δ, rfl⟩)
    | (go_at_call 78; refine (times_v r n A c _ l B _ HS.out.up HN.out.up HV.out HO.out rfl).mono ?_; rintro e w1 ⟨A', c', δ2, rfl, rfl, hT, hT2⟩))
  go_ret2
  exact ⟨A', c', _, rfl, lat_def, sl_def hT.out.wide⟩
theorem timesP_arg (r : NetR) (n : Net) (hv : valid n = true) (A : Option Addr) (c : Nat) (l : List Int) (hl : isOrd n l = false) (B : Nat) (w : World) (hS : Sl encI B w A c l) (hN : NetIs B w r n) [hB : Le B w] :
    Calls Try.prog 36 #[netV r n, .slice A l.length c] w fun e w' => e = .returned (.tuple #[.slice none 0 0, .int .i64 1]) ∧ ∃ δ, w' = lat w δ := by
  have HN := Lib.hid hN
  have HS := Lib.hid hS
  have HV := Lib.hid hv
  have HO := Lib.hid hl
  clear hN hS hv hl
  go_enter Try.func36, Try.ntmps36
  go_wp2_with (go_at_call 61; refine (open_arg r n HV.out A c l HO.out B _ HS.out.up HN.out.up).mono ?_; rintro e w1 ⟨rfl, δ, rfl⟩)
  go_ret2
  exact ⟨rfl, lat_ex⟩
theorem timesP_no (r : NetR) (n : Net) (hv : valid n = false) (v : Value) (B : Nat) (w : World) (hN : NetIs B w r n) [hB : Le B w] :
    Calls Try.prog 36 #[netV r n, v] w fun e w' => e = .returned (.tuple #[.slice none 0 0, .int .i64 40]) ∧ ∃ δ, w' = lat w δ := by
  have HN := Lib.hid hN
  have HV := Lib.hid hv
  clear hN hv
  go_enter Try.func36, Try.ntmps36
  go_wp2_with (go_at_call 61; refine (open_no r n HV.out _ B _ HN.out.up).mono ?_; rintro e w1 ⟨rfl, δ, rfl⟩)
  go_ret2
  exact ⟨rfl, lat_ex⟩

theorem lostP_yes (r : NetR) (n : Net) (hv : valid n = true) (A : Option Addr) (c : Nat) (l : List Int) (hl : isOrd n l = true) (B : Nat) (w : World) (hS : Sl encI B w A c l) (hN : NetIs B w r n) [hB : Le B w] :
    Calls Try.prog 38 #[netV r n, .slice A l.length c] w fun e w' => e = .returned (.tuple #[.agg #[.int .i64 (loss n l (lows n)), .int .i64 (worst n l)], .int .i64 0]) ∧ ∃ δ, w' = lat w δ := by
  have HN := Lib.hid hN
  have HS := Lib.hid hS
  have HV := Lib.hid hv
  have HO := Lib.hid hl
  clear hN hS hv hl
  go_enter Try.func38, Try.ntmps38
  go_wp2_with (first
    | (go_at_call 61; refine (open_yes r n HV.out A c l HO.out B _ HS.out.up HN.out.up).mono ?_; rintro e w1 ⟨rfl, δ, rfl⟩)
    | (go_at_call 79; refine (lost_c r n A c _ l B _ HS.out.up HN.out.up HV.out HO.out rfl).mono ?_; rintro e w1 ⟨rfl, δ2, rfl⟩))
  refine bodyPost_ret (v := .tuple #[.agg #[.int .i64 (loss n l (lows n)), .int .i64 (worst n l)], .int .i64 0]) ?_ rfl ⟨rfl, lat_ex⟩
  simp only [results, Try.results38]
  go_simp
theorem lostP_arg (r : NetR) (n : Net) (hv : valid n = true) (A : Option Addr) (c : Nat) (l : List Int) (hl : isOrd n l = false) (B : Nat) (w : World) (hS : Sl encI B w A c l) (hN : NetIs B w r n) [hB : Le B w] :
    Calls Try.prog 38 #[netV r n, .slice A l.length c] w fun e w' => e = .returned (.tuple #[.agg #[.int .i64 0, .int .i64 0], .int .i64 1]) ∧ ∃ δ, w' = lat w δ := by
  have HN := Lib.hid hN
  have HS := Lib.hid hS
  have HV := Lib.hid hv
  have HO := Lib.hid hl
  clear hN hS hv hl
  go_enter Try.func38, Try.ntmps38
  go_wp2_with (go_at_call 61; refine (open_arg r n HV.out A c l HO.out B _ HS.out.up HN.out.up).mono ?_; rintro e w1 ⟨rfl, δ, rfl⟩)
  refine bodyPost_ret (v := .tuple #[.agg #[.int .i64 0, .int .i64 0], .int .i64 1]) ?_ rfl ⟨rfl, lat_ex⟩
  simp only [results, Try.results38]
  go_simp
theorem lostP_no (r : NetR) (n : Net) (hv : valid n = false) (v : Value) (B : Nat) (w : World) (hN : NetIs B w r n) [hB : Le B w] :
    Calls Try.prog 38 #[netV r n, v] w fun e w' => e = .returned (.tuple #[.agg #[.int .i64 0, .int .i64 0], .int .i64 40]) ∧ ∃ δ, w' = lat w δ := by
  have HN := Lib.hid hN
  have HV := Lib.hid hv
  clear hN hv
  go_enter Try.func38, Try.ntmps38
  go_wp2_with (go_at_call 61; refine (open_no r n HV.out _ B _ HN.out.up).mono ?_; rintro e w1 ⟨rfl, δ, rfl⟩)
  refine bodyPost_ret (v := .tuple #[.agg #[.int .i64 0, .int .i64 0], .int .i64 40]) ?_ rfl ⟨rfl, lat_ex⟩
  simp only [results, Try.results38]
  go_simp

theorem regretP_yes (r : NetR) (n : Net) (hv : valid n = true) (A : Option Addr) (c : Nat) (l : List Int) (hl : isOrd n l = true) (B : Nat) (w : World) (hS : Sl encI B w A c l) (hN : NetIs B w r n) [hB : Le B w] :
    Calls Try.prog 20 #[netV r n, .slice A l.length c] w fun e w' => e = .returned (.tuple #[.int .i64 (regret n l), .int .i64 0]) ∧ ∃ δ, w' = lat w δ := by
  have HN := Lib.hid hN
  have HS := Lib.hid hS
  have HV := Lib.hid hv
  have HO := Lib.hid hl
  clear hN hS hv hl
  go_enter Try.func20, Try.ntmps20
  go_wp2_with (first
    | (go_at_call 61; refine (open_yes r n HV.out A c l HO.out B _ HS.out.up HN.out.up).mono ?_; rintro e w1 ⟨rfl, δ, rfl⟩)
    | (go_at_call 62; refine (regret_c r n A c _ l B _ HS.out.up HN.out.up HV.out HO.out rfl).mono ?_; rintro e w1 ⟨rfl, δ2, rfl⟩))
  go_ret2
  exact ⟨rfl, lat_ex⟩
theorem regretP_arg (r : NetR) (n : Net) (hv : valid n = true) (A : Option Addr) (c : Nat) (l : List Int) (hl : isOrd n l = false) (B : Nat) (w : World) (hS : Sl encI B w A c l) (hN : NetIs B w r n) [hB : Le B w] :
    Calls Try.prog 20 #[netV r n, .slice A l.length c] w fun e w' => e = .returned (.tuple #[.int .i64 0, .int .i64 1]) ∧ ∃ δ, w' = lat w δ := by
  have HN := Lib.hid hN
  have HS := Lib.hid hS
  have HV := Lib.hid hv
  have HO := Lib.hid hl
  clear hN hS hv hl
  go_enter Try.func20, Try.ntmps20
  go_wp2_with (go_at_call 61; refine (open_arg r n HV.out A c l HO.out B _ HS.out.up HN.out.up).mono ?_; rintro e w1 ⟨rfl, δ, rfl⟩)
  go_ret2
  exact ⟨rfl, lat_ex⟩
theorem regretP_no (r : NetR) (n : Net) (hv : valid n = false) (v : Value) (B : Nat) (w : World) (hN : NetIs B w r n) [hB : Le B w] :
    Calls Try.prog 20 #[netV r n, v] w fun e w' => e = .returned (.tuple #[.int .i64 0, .int .i64 40]) ∧ ∃ δ, w' = lat w δ := by
  have HN := Lib.hid hN
  have HV := Lib.hid hv
  clear hN hv
  go_enter Try.func20, Try.ntmps20
  go_wp2_with (go_at_call 61; refine (open_no r n HV.out _ B _ HN.out.up).mono ?_; rintro e w1 ⟨rfl, δ, rfl⟩)
  go_ret2
  exact ⟨rfl, lat_ex⟩

end Go.Proofs.Ytbfehifidlojlaa
