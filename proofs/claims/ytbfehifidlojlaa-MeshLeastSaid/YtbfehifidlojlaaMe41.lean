/- Layer 4: First, the reference's. -/
import Derived.Test.YtbfehifidlojlaaMe39
import Derived.Test.YtbfehifidlojlaaMe40
namespace Go.Proofs.Ytbfehifidlojlaa
open Go.RowKit
open Me

theorem rFirst_no (r : NetR) (n : Net) (h : Int) (hv : valid n = false) (B : Nat) (w : World) (hN : NetIs B w r n) [hB : Le B w] :
    Calls Try.prog 52 #[netV r n, .int .i64 h] w fun e w' => e = .returned (.tuple #[.int .i64 0, .int .i64 40]) ∧ ∃ δ, w' = lat w δ := by
  have HN := Lib.hid hN
  have HV := Lib.hid hv
  clear hN hv
  go_enter Try.func52, Try.ntmps52
  go_wp2_with (go_at_call 33; refine (rCheck_no r n HV.out B _ HN.out.up).mono ?_; rintro e w1 ⟨rfl, δ, rfl⟩)
  go_ret2
  exact ⟨rfl, lat_ex⟩
theorem rFirst_arg (r : NetR) (n : Net) (h : Int) (hv : valid n = true) (hh : inB 0 ((n.hs.length : Int) - 1) h = false) (B : Nat) (w : World) (hN : NetIs B w r n) [hB : Le B w] :
    Calls Try.prog 52 #[netV r n, .int .i64 h] w fun e w' => e = .returned (.tuple #[.int .i64 0, .int .i64 1]) ∧ ∃ δ, w' = lat w δ := by
  have HN := Lib.hid hN
  have HV := Lib.hid hv
  have HH := Lib.hid hh
  clear hN hv hh
  go_enter Try.func52, Try.ntmps52
  go_wp2_with (first
    | (go_at_call 33; refine (rCheck_yes r n HV.out B _ HN.out.up).mono ?_; rintro e w1 ⟨rfl, δ, rfl⟩)
    | (go_at_call 15; refine (rIsHole_c r n h _ HH.out B _ HN.out.up).mono ?_; rintro e w1 ⟨rfl, δ, rfl⟩))
  go_ret2
  exact ⟨rfl, lat_ex⟩
set_option maxRecDepth 100000 in
set_option maxHeartbeats 8000000 in
theorem rFirst_yes (r : NetR) (n : Net) (h : Int) (hv : valid n = true) (hh : inB 0 ((n.hs.length : Int) - 1) h = true) (B : Nat) (w : World) (hN : NetIs B w r n) [hB : Le B w] :
    Calls Try.prog 52 #[netV r n, .int .i64 h] w fun e w' => e = .returned (.tuple #[.int .i64 (firstN n h), .int .i64 0]) ∧ ∃ δ, w' = lat w δ := by
  have hbw := inB_iff.1 hh
  obtain ⟨l0, l1, _⟩ := best_len hv
  have HN := Lib.hid hN
  have HV := Lib.hid hv
  have HH := Lib.hid hh
  clear hN hv hh
  obtain ⟨L, hL⟩ : ∃ L, bestL n = L := ⟨_, rfl⟩
  have HL := Lib.hid hL
  rw [hL] at l0 l1
  clear hL
  have HAT : ∀ k, k < L.length → (nth L k).length = n.hs.length := by
    rw [← HL.out]
    exact fun k hk => ord_len (best_mem.1 (nth_mem _ hk)).1
  have HA := Lib.hid HAT
  have HF := Lib.hid (show firstN n h = knownI ((L.filter (headB h)).length) L.length by rw [← HL.out]; rfl)
  clear HAT
  have hl0 : (0 : Int) < (n.hs.length : Int) := by omega
  clear hbw
  go_enter Try.func52, Try.ntmps52
  go_wp2_with (first
    | (go_at_call 33; refine (rCheck_yes r n HV.out B _ HN.out.up).mono ?_; rintro e w1 ⟨rfl, δ, rfl⟩)
    | (go_at_call 15; refine (rIsHole_c r n h _ HH.out B _ HN.out.up).mono ?_; rintro e w1 ⟨rfl, δ, rfl⟩)
    | (go_at_call 86; refine (rBest_c r n HV.out B _ HN.out.up).mono ?_; rw [HL.out]; rintro e w1 ⟨A, c, δ, rfl, rfl, hS⟩))
  refine wp_name fun W1 hW1 => ?_
  have iw1 : Le B W1 := by rw [hW1.out]; infer_instance
  have iw2 : Grew B w W1 := by rw [hW1.out]; infer_instance
  have iw3 : Le w.heap.size W1 := by rw [hW1.out]; infer_instance
  have iw4 : Grew w.heap.size w W1 := by rw [hW1.out]; infer_instance
  have iw5 : Lt (w.heap.size) W1 := by rw [hW1.out]; infer_instance
  have S1 : Hid (SlS 3 encI W1 A c L) := by rw [hW1.out]; exact hS
  clear hW1 hS
  go_loopg [8, 9] L.length (fun g s8 s9 wr => ∃ (k : Nat) (δ : World), k ≤ L.length ∧ g = L.length - k ∧ s9 = .int .i64 k ∧ s8 = .int .i64 (((L.take k).filter (headB h)).length : Nat) ∧ wr = lat W1 δ)
  case atStart => exact ⟨0, W1, Nat.zero_le _, rfl, rfl, rfl, (lat_refl W1).symm⟩
  case round =>
    obtain ⟨k, δ, hk, rfl, rfl, rfl, rfl⟩ := hrel
    by_cases hlt : k < L.length
    · obtain ⟨b', o', Ak, ck, rfl, hbk, hck, hsk⟩ := S1.out.nth hlt (HA.out k hlt)
      have ib' : Lt b' W1 := ⟨hbk⟩
      obtain ⟨b2, o2, rfl, hb2, hc2⟩ := hsk.plain.int (k := 0) (by rw [HA.out k hlt]; omega)
      rw [Nat.add_zero] at hc2
      have ib2 : Lt b2 W1 := ⟨hb2⟩
      have hki : (k : Int) < (L.length : Int) := by omega
      have hk0 : ¬ (k : Int) < 0 := by omega
      have hle : ((L.take k).filter (headB h)).length ≤ 50000 := Nat.le_trans (List.length_filter_le _ _) (by rw [List.length_take]; omega)
      have ht := take_snoc L hlt
      obtain ⟨q, hq⟩ : ∃ q, ((L.take k).filter (headB h)).length = q := ⟨_, rfl⟩
      rw [hq] at hle ⊢
      have HLT := Lib.hid hlt
      clear hsk hbk hb2 hlt hk
      by_cases he : nth (nth L k) 0 = h
      · have he' : (nth (nth L k) 0 == h) = true := by simpa using he
        have HE := Lib.hid (show ((L.take (k + 1)).filter (headB h)).length = q + 1 by rw [ht, List.filter_append, List.length_append, hq, List.filter_cons_of_pos (by exact decide_eq_true he)]; rfl)
        clear he ht hq
        go_wp2_with (fail)
        go_roundg (L.length - (k + 1))
        case measure => have := HLT.out; omega
        case rel => exact ⟨k + 1, _, HLT.out, rfl, by go_num, by rw [HE.out]; go_num, rfl⟩
      · have he' : (nth (nth L k) 0 == h) = false := by simpa using he
        have HE := Lib.hid (show ((L.take (k + 1)).filter (headB h)).length = q by rw [ht, List.filter_append, List.length_append, hq, List.filter_cons_of_neg (by simpa [headB] using he)]; rfl)
        clear he ht hq
        go_wp2_with (fail)
        go_roundg (L.length - (k + 1))
        case measure => have := HLT.out; omega
        case rel => exact ⟨k + 1, _, HLT.out, rfl, by go_num, by rw [HE.out], rfl⟩
    · obtain rfl : k = L.length := by omega
      rw [List.take_length]
      go_wp2_with (go_at_call 89; refine (known_c _ _ _).mono ?_; rw [← HF.out]; rintro e w1 ⟨rfl, rfl⟩)
      go_ret2
      exact ⟨rfl, lat_ex⟩

end Go.Proofs.Ytbfehifidlojlaa
