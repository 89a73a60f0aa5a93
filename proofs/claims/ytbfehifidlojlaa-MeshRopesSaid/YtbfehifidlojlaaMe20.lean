/- Layer 4: ready and both of the laws. -/
import Derived.Test.YtbfehifidlojlaaMe14
import Derived.Test.YtbfehifidlojlaaMe16
import Derived.Test.YtbfehifidlojlaaMe19
namespace Go.Proofs.Ytbfehifidlojlaa
open Go.RowKit
open Me

theorem rCheck_yes (r : NetR) (n : Net) (hv : valid n = true) (B : Nat) (w : World) (h : NetIs B w r n) [hB : Le B w] :
    Calls Try.prog 33 #[netV r n] w fun e w' => e = .returned (.int .i64 0) ∧ ∃ δ, w' = lat w δ := by
  have := rCheck_c r n B w h; rwa [show errOf (valid n) 40 = 0 by rw [hv]; rfl] at this
theorem rCheck_no (r : NetR) (n : Net) (hv : valid n = false) (B : Nat) (w : World) (h : NetIs B w r n) [hB : Le B w] :
    Calls Try.prog 33 #[netV r n] w fun e w' => e = .returned (.int .i64 40) ∧ ∃ δ, w' = lat w δ := by
  have := rCheck_c r n B w h; rwa [show errOf (valid n) 40 = 40 by rw [hv]; rfl] at this

/-- Is a net one that the laws look at? -/
def readyL (n : Net) (most : Nat) : Bool := !farB n most && valid n
theorem readyL_iff {n : Net} {most : Nat} : readyL n most = true ↔ farB n most = false ∧ valid n = true := by simp [readyL]

set_option maxRecDepth 100000 in
theorem lReady_c (r : NetR) (n : Net) (most : Nat) (hm : most ≤ 100) (b : Bool) (hb : readyL n most = b) (B : Nat) (w : World) (hN : NetIs B w r n) [hB : Le B w] :
    Calls Try.prog 14 #[netV r n, .int .i64 most] w fun e w' => e = .returned (.bool b) ∧ ∃ δ, w' = lat w δ := by
  subst hb
  have HN := Lib.hid hN
  clear hN
  cases hf : farB n most with
  | true =>
    have HF := Lib.hid hf
    clear hf
    go_enter Try.func14, Try.ntmps14
    go_wp2_with (go_at_call 22; refine (far_c r n most hm _ HF.out B _ HN.out.up).mono ?_; rintro e w1 ⟨rfl, δ, rfl⟩)
    go_ret
    exact ⟨ret_bool (by simp [readyL, HF.out]), lat_ex⟩
  | false =>
    cases hv : valid n with
    | true =>
      have HF := Lib.hid hf
      have HV := Lib.hid hv
      clear hf hv
      go_enter Try.func14, Try.ntmps14
      go_wp2_with (first
        | (go_at_call 22; refine (far_c r n most hm _ HF.out B _ HN.out.up).mono ?_; rintro e w1 ⟨rfl, δ, rfl⟩)
        | (go_at_call 33; refine (rCheck_yes r n HV.out B _ HN.out.up).mono ?_; rintro e w1 ⟨rfl, δ, rfl⟩))
      go_ret
      exact ⟨ret_bool (by simp [readyL, HF.out, HV.out]), lat_ex⟩
    | false =>
      have HF := Lib.hid hf
      have HV := Lib.hid hv
      clear hf hv
      go_enter Try.func14, Try.ntmps14
      go_wp2_with (first
        | (go_at_call 22; refine (far_c r n most hm _ HF.out B _ HN.out.up).mono ?_; rintro e w1 ⟨rfl, δ, rfl⟩)
        | (go_at_call 33; refine (rCheck_no r n HV.out B _ HN.out.up).mono ?_; rintro e w1 ⟨rfl, δ, rfl⟩))
      go_ret
      exact ⟨ret_bool (by simp [readyL, HF.out, HV.out]), lat_ex⟩

theorem lossK_nn {n : Net} (hv : okHoles n.hs = true) {l : List Int} (hl : isOrd n l = true) (k : Nat) (hk : k ≤ n.hs.length) : 0 ≤ lossK n.hs (times n l) (highs n) k := by
  induction k with
  | zero => exact Int.le_refl _
  | succ k ih =>
    have i1 := ih (by omega)
    have a := times_mended hv hl (j := k) (by omega)
    have b := okHole_iff.1 (okHoles_at hv (k := k) (by omega))
    unfold lossK
    rw [nth_highs (by omega)]
    have := Int.mul_nonneg (a := (nth n.hs k).hi) (b := nth (times n l) k - (nth n.hs k).fr) (by omega) (by omega)
    omega
theorem worst_nn {n : Net} (hv : okHoles n.hs = true) {l : List Int} (hl : isOrd n l = true) : 0 ≤ worst n l := lossK_nn hv hl _ (Nat.le_refl _)
theorem hasO_v {n : Net} (hv : valid n = true) : hasO n = true := (valid_iff.1 hv).2.2.2.2.2
theorem leastN_nn {n : Net} (hv : valid n = true) : 0 ≤ leastN n ∧ leastN n ≤ 10000 :=
  ⟨worst_nn (ok_of hv).2.2.2.1 (bestO_ord (hasO_v hv)), (leastN_bd hv).2⟩
theorem lastOf_bd {n : Net} (hv : valid n = true) {l : List Int} (hl : isOrd n l = true) : 0 ≤ lastOf n l ∧ lastOf n l ≤ 74 :=
  ⟨(maxK_ge _).1, (maxK_le_iff _).2 ⟨by omega, fun j _ => (times_bd hv hl j).2⟩⟩
theorem doneN_nn {n : Net} (hv : valid n = true) : 0 ≤ doneN n ∧ doneN n ≤ 74 :=
  lastOf_bd hv (allO_mem.1 (least_mem _ (hasO_ne (hasO_v hv))))
set_option maxRecDepth 100000 in
theorem both_c (r : NetR) (n : Net) (hv : valid n = true) (B : Nat) (w : World) (hN : NetIs B w r n) [hB : Le B w] :
    Calls Try.prog 18 #[netV r n] w fun e w' => e = .returned (.tuple #[.int .i64 (leastN n), .int .i64 (doneN n), .bool true]) ∧ ∃ δ, w' = lat w δ := by
  have HN := Lib.hid hN
  have HV := Lib.hid hv
  obtain ⟨k1, k2⟩ := leastN_nn hv
  obtain ⟨k3, k4⟩ := doneN_nn hv
  clear hN hv
  have t1 : leastN n ≤ 100000 := by omega
  have t2 : doneN n ≤ 100000 := by omega
  go_enter Try.func18, Try.ntmps18
  go_wp2_with (first
    | (go_at_call 48; refine (leastP_yes r n HV.out B _ HN.out.up).mono ?_; rintro e w1 ⟨rfl, δ, rfl⟩)
    | (go_at_call 44; refine (doneP_yes r n HV.out B _ HN.out.up).mono ?_; rintro e w1 ⟨rfl, δ, rfl⟩))
  refine bodyPost_ret (v := .tuple #[.int .i64 (leastN n), .int .i64 (doneN n), .bool true]) ?_ rfl ?_
  · simp only [results, Try.results18]
    go_simp
  · exact ⟨rfl, lat_ex⟩

end Go.Proofs.Ytbfehifidlojlaa
