/- Layer 4: the reference's Done, Known, First. -/
import Derived.Test.YtbfehifidlojlaaMe36
namespace Go.Proofs.Ytbfehifidlojlaa
open Go.RowKit
open Me

theorem rDone_no (r : NetR) (n : Net) (hv : valid n = false) (B : Nat) (w : World) (hN : NetIs B w r n) [hB : Le B w] :
    Calls Try.prog 53 #[netV r n] w fun e w' => e = .returned (.tuple #[.int .i64 0, .int .i64 40]) ∧ ∃ δ, w' = lat w δ := by
  have HN := Lib.hid hN
  have HV := Lib.hid hv
  clear hN hv
  go_enter Try.func53, Try.ntmps53
  go_wp2_with (go_at_call 33; refine (rCheck_no r n HV.out B _ HN.out.up).mono ?_; rintro e w1 ⟨rfl, δ, rfl⟩)
  go_ret2
  exact ⟨rfl, lat_ex⟩
set_option maxRecDepth 100000 in
set_option maxHeartbeats 8000000 in
theorem rDone_yes (r : NetR) (n : Net) (hv : valid n = true) (B : Nat) (w : World) (hN : NetIs B w r n) [hB : Le B w] :
    Calls Try.prog 53 #[netV r n] w fun e w' => e = .returned (.tuple #[.int .i64 (doneN n), .int .i64 0]) ∧ ∃ δ, w' = lat w δ := by
  have h6 := (ok_of hv).2.1
  obtain ⟨l0, l1⟩ := allO_len hv
  have HN := Lib.hid hN
  have HV := Lib.hid hv
  have H6 := Lib.hid h6
  have HLB := Lib.hid (minK_all (f := lastOf n) (hasO_ne (hasO_v hv)))
  clear hN hv h6
  obtain ⟨L, hL⟩ : ∃ L, allO n = L := ⟨_, rfl⟩
  have HL := Lib.hid hL
  rw [hL] at l0 l1
  clear hL
  go_enter Try.func53, Try.ntmps53
  go_wp2_with (first
    | (go_at_call 33; refine (rCheck_yes r n HV.out B _ HN.out.up).mono ?_; rintro e w1 ⟨rfl, δ, rfl⟩)
    | (go_at_call 67; refine (rOrders_c r n B _ HN.out.up H6.out).mono ?_; rw [HL.out]; rintro e w1 ⟨A, c, δ, rfl, rfl, hS⟩))
  refine wp_name fun W1 hW1 => ?_
  have iw1 : Le B W1 := by rw [hW1.out]; infer_instance
  have iw2 : Grew B w W1 := by rw [hW1.out]; infer_instance
  have iw3 : Le w.heap.size W1 := by rw [hW1.out]; infer_instance
  have iw4 : Grew w.heap.size w W1 := by rw [hW1.out]; infer_instance
  have iw5 : Lt (w.heap.size) W1 := by rw [hW1.out]; infer_instance
  have cw6 : W1.cell? ⟨w.heap.size, 0, none⟩ = some (.int .i64 n.m) := by rw [hW1.out]; go_simp
  have cw7 : W1.cell? ⟨w.heap.size, 1, none⟩ = some (.slice r.hA n.hs.length r.hc) := by rw [hW1.out]; go_simp
  have cw8 : W1.cell? ⟨w.heap.size, 2, none⟩ = some (.slice r.pA n.ps.length r.pc) := by rw [hW1.out]; go_simp
  have S1 : Hid (SlS 3 encI W1 A c L) := by rw [hW1.out]; exact hS
  have N1 := Lib.hid (HN.out.up : NetIs B W1 r n)
  clear hW1 hS
  have HAT : ∀ k, k < L.length → isOrd n (nth L k) = true ∧ (nth L k).length = n.hs.length := by rw [← HL.out]; exact fun k hk => allO_at hk
  have HA := Lib.hid HAT
  clear HAT
  obtain ⟨b, o, A0, c0, rfl, hb, hc, hs0⟩ := S1.out.nth l0 (HA.out 0 l0).2
  rw [Nat.add_zero] at hc
  have ib : Lt b W1 := ⟨hb⟩
  have H0 := Lib.hid hs0.plain
  clear hs0
  have hl0 : (0 : Int) < (L.length : Int) := by omega
  refine wp_region_lat (by kernel_rfl) (by kernel_rfl) ?_
  repeat (go_big_quiet_step ((first | (go_at_call 46; exact Calls.lat_of (rDoneBy_c r n A0 c0 _ (nth L 0) _ _ H0.out.up N1.out.wide.up HV.out (HA.out 0 l0).1 (HA.out 0 l0).2)))))
  refine wpQuiet_nil ?_
  rintro _ ⟨δq, rfl⟩
  obtain ⟨v, hv0⟩ : ∃ v, lastOf n (nth L 0) = v := ⟨_, rfl⟩
  rw [hv0]
  have HLB : Hid (minK (lastOf n) v L L.length = doneN n) := by
    have := HLB.out
    rw [HL.out, hv0] at this
    exact this.trans (by unfold doneN; rw [HL.out])
  clear hv0
  go_wp2_with (fail)
  go_loopg [6, 7] L.length (fun g s4 s5 wr => ∃ (k : Nat) (δ : World), k ≤ L.length ∧ g = L.length - k ∧ s5 = .int .i64 k ∧ s4 = .int .i64 (minK (lastOf n) v L k) ∧ wr = lat W1 δ)
  case atStart => exact ⟨0, _, Nat.zero_le _, rfl, rfl, rfl, rfl⟩
  case round =>
    obtain ⟨k, δ, hk, rfl, rfl, rfl, rfl⟩ := hrel
    by_cases hlt : k < L.length
    · obtain ⟨b', o', Ak, ck, hA', hbk, hck, hsk⟩ := S1.out.nth hlt (HA.out k hlt).2
      obtain ⟨rfl, rfl⟩ : b = b' ∧ o = o' := by simpa using hA'
      have HK := Lib.hid hsk.plain
      have hki : (k : Int) < (L.length : Int) := by omega
      have hk0 : ¬ (k : Int) < 0 := by omega
      have HLT := Lib.hid hlt
      clear hlt hk hsk hbk hc
      by_cases hmn : lastOf n (nth L k) < minK (lastOf n) v L k
      · have HE := Lib.hid (show minK (lastOf n) v L (k + 1) = lastOf n (nth L k) by rw [minK]; omega)
        go_wp2_with (fail)
        refine wp_region_lat (by kernel_rfl) (by kernel_rfl) ?_
        repeat (go_big_quiet_step ((first | (go_at_call 46; exact Calls.lat_of (rDoneBy_c r n Ak ck _ (nth L k) _ _ HK.out.up N1.out.wide.up HV.out (HA.out k HLT.out).1 (HA.out k HLT.out).2)))))
        refine wpQuiet_nil ?_
        rintro _ ⟨δq2, rfl⟩
        go_wp2_with (fail)
        go_roundg (L.length - (k + 1))
        case measure => have := HLT.out; omega
        case rel => exact ⟨k + 1, _, HLT.out, rfl, by go_num, by rw [HE.out], lat_def⟩
      · have HE := Lib.hid (show minK (lastOf n) v L (k + 1) = minK (lastOf n) v L k by rw [minK]; omega)
        go_wp2_with (fail)
        refine wp_region_lat (by kernel_rfl) (by kernel_rfl) ?_
        repeat (go_big_quiet_step ((first | (go_at_call 46; exact Calls.lat_of (rDoneBy_c r n Ak ck _ (nth L k) _ _ HK.out.up N1.out.wide.up HV.out (HA.out k HLT.out).1 (HA.out k HLT.out).2)))))
        refine wpQuiet_nil ?_
        rintro _ ⟨δq2, rfl⟩
        go_wp2_with (fail)
        go_roundg (L.length - (k + 1))
        case measure => have := HLT.out; omega
        case rel => exact ⟨k + 1, _, HLT.out, rfl, by go_num, by rw [HE.out], lat_def⟩
    · obtain rfl : k = L.length := by omega
      rw [HLB.out]
      go_wp2_with (fail)
      go_ret2
      exact ⟨rfl, lat_ex⟩

end Go.Proofs.Ytbfehifidlojlaa
