/- Layer 4: More, the program's and the words of it. -/
import Derived.Test.YtbfehifidlojlaaMe20
namespace Go.Proofs.Ytbfehifidlojlaa
open Go.RowKit
open Me

namespace Me
/-- With one more mender. -/
def plusN (n : Net) : Net := ⟨n.m + 1, n.hs, n.ps⟩
def moreN (n : Net) : Int := leastN n - leastN (plusN n)
theorem plus_easier {n : Net} (hm : 1 ≤ n.m) : Easier (plusN n) n := ⟨rfl, by show n.m.toNat ≤ (n.m + 1).toNat; omega, by omega, fun p hp => hp⟩
theorem plus_valid {n : Net} (hv : valid n = true) : valid (plusN n) = decide (n.m ≠ 3) := by
  obtain ⟨h1, h2, h3, h4, h5, h6⟩ := valid_iff.1 hv
  have he := least_easier (plus_easier h1.1) h4 h6
  by_cases h : n.m = 3
  · rw [decide_eq_false (by simpa using h), ← Bool.not_eq_true]
    intro hc
    have := (valid_iff.1 hc).1
    simp only [plusN] at this
    omega
  · rw [decide_eq_true h]
    exact valid_iff.2 ⟨by simp only [plusN]; omega, h2, h3, h4, h5, he.1⟩
theorem plus_le {n : Net} (hv : valid n = true) : leastN (plusN n) ≤ leastN n ∧ doneN (plusN n) ≤ doneN n := by
  obtain ⟨h1, _, _, h4, _, h6⟩ := valid_iff.1 hv
  exact (least_easier (plus_easier h1.1) h4 h6).2
end Me

theorem moreP_no (r : NetR) (n : Net) (hv : valid n = false) (B : Nat) (w : World) (hN : NetIs B w r n) [hB : Le B w] :
    Calls Try.prog 47 #[netV r n] w fun e w' => e = .returned (.tuple #[.int .i64 0, .int .i64 40]) ∧ ∃ δ, w' = lat w δ := by
  have HN := Lib.hid hN
  have HV := Lib.hid hv
  clear hN hv
  go_enter Try.func47, Try.ntmps47
  go_wp2_with (go_at_call 48; refine (leastP_no r n HV.out B _ HN.out.up).mono ?_; rintro e w1 ⟨rfl, δ, rfl⟩)
  go_ret2
  exact ⟨rfl, lat_ex⟩
theorem moreP_many (r : NetR) (n : Net) (hv : valid n = true) (hm : n.m = 3) (B : Nat) (w : World) (hN : NetIs B w r n) [hB : Le B w] :
    Calls Try.prog 47 #[netV r n] w fun e w' => e = .returned (.tuple #[.int .i64 0, .int .i64 2]) ∧ ∃ δ, w' = lat w δ := by
  have HN := Lib.hid hN
  have HV := Lib.hid hv
  have hE : (n.m == 3) = true := by simp [hm]
  clear hN hv hm
  go_enter Try.func47, Try.ntmps47
  go_wp2_with (go_at_call 48; refine (leastP_yes r n HV.out B _ HN.out.up).mono ?_; rintro e w1 ⟨rfl, δ, rfl⟩)
  go_ret2
  exact ⟨rfl, lat_ex⟩
theorem least_plus (r : NetR) (n : Net) (hv : valid (plusN n) = true) (B : Nat) (w : World) (hN : NetIs B w r n) [hB : Le B w] :
    Calls Try.prog 48 #[.agg #[.int .i64 (n.m + 1), .slice r.hA n.hs.length r.hc, .slice r.pA n.ps.length r.pc]] w fun e w' => e = .returned (.tuple #[.int .i64 (leastN (plusN n)), .int .i64 0]) ∧ ∃ δ, w' = lat w δ :=
  leastP_yes r (plusN n) hv B w hN
theorem moreP_yes (r : NetR) (n : Net) (hv : valid n = true) (hm : n.m ≠ 3) (B : Nat) (w : World) (hN : NetIs B w r n) [hB : Le B w] :
    Calls Try.prog 47 #[netV r n] w fun e w' => e = .returned (.tuple #[.int .i64 (moreN n), .int .i64 0]) ∧ ∃ δ, w' = lat w δ := by
  have HN := Lib.hid hN
  have HV := Lib.hid hv
  have hp : valid (plusN n) = true := by rw [plus_valid hv]; simpa using hm
  have HP := Lib.hid hp
  have hE : (n.m == 3) = false := by simpa using hm
  have b1 := (valid_iff.1 hv).1.1
  have b2 := (valid_iff.1 hv).1.2
  obtain ⟨b3, b4⟩ := leastN_nn hv
  obtain ⟨b5, b6⟩ := leastN_nn hp
  have HM := Lib.hid (show moreN n = leastN n - leastN (plusN n) from rfl)
  clear hN hv hp
  go_enter Try.func47, Try.ntmps47
  go_wp2_with (go_at_call 48; (first
    | (with_reducible refine (leastP_yes r n HV.out B _ HN.out.up).mono ?_; rintro e w1 ⟨rfl, δ, rfl⟩)
    | (with_reducible refine (least_plus r n HP.out B _ HN.out.up).mono ?_; rintro e w1 ⟨rfl, δ2, rfl⟩)))
  go_ret2
  rw [HM.out]
  exact ⟨rfl, lat_ex⟩

end Go.Proofs.Ytbfehifidlojlaa
