/- Layer 4: the reference's Regret and Calm. -/
import Derived.Test.YtbfehifidlojlaaMe28
import Derived.Test.YtbfehifidlojlaaMe43
import Derived.Test.YtbfehifidlojlaaMe25
namespace Go.Proofs.Ytbfehifidlojlaa
open Go.RowKit
open Me

theorem rRegret_yes (r : NetR) (n : Net) (hv : valid n = true) (A : Option Addr) (c : Nat) (l : List Int) (hl : isOrd n l = true) (B : Nat) (w : World) (hS : Sl encI B w A c l) (hN : NetIs B w r n) [hB : Le B w] :
    Calls Try.prog 23 #[netV r n, .slice A l.length c] w fun e w' => e = .returned (.tuple #[.int .i64 (regret n l), .int .i64 0]) ∧ ∃ δ, w' = lat w δ := by
  have HN := Lib.hid hN
  have HS := Lib.hid hS
  have HV := Lib.hid hv
  have HO := Lib.hid hl
  clear hN hS hv hl
  go_enter Try.func23, Try.ntmps23
  go_wp2_with (first
    | (go_at_call 63; refine (giv_yes r n HV.out A c l HO.out B _ HS.out.up HN.out.up).mono ?_; rintro e w1 ⟨rfl, δ, rfl⟩)
    | (go_at_call 64; refine (rRegretOf_c r n A c _ l B _ HS.out.up HN.out.up HV.out HO.out rfl).mono ?_; rintro e w1 ⟨rfl, δ2, rfl⟩))
  go_ret2
  exact ⟨rfl, lat_ex⟩
theorem rRegret_arg (r : NetR) (n : Net) (hv : valid n = true) (A : Option Addr) (c : Nat) (l : List Int) (hl : isOrd n l = false) (B : Nat) (w : World) (hS : Sl encI B w A c l) (hN : NetIs B w r n) [hB : Le B w] :
    Calls Try.prog 23 #[netV r n, .slice A l.length c] w fun e w' => e = .returned (.tuple #[.int .i64 0, .int .i64 1]) ∧ ∃ δ, w' = lat w δ := by
  have HN := Lib.hid hN
  have HS := Lib.hid hS
  have HV := Lib.hid hv
  have HO := Lib.hid hl
  clear hN hS hv hl
  go_enter Try.func23, Try.ntmps23
  go_wp2_with (go_at_call 63; refine (giv_arg r n HV.out A c l HO.out B _ HS.out.up HN.out.up).mono ?_; rintro e w1 ⟨rfl, δ, rfl⟩)
  go_ret2
  exact ⟨rfl, lat_ex⟩
theorem rRegret_no (r : NetR) (n : Net) (hv : valid n = false) (v : Value) (B : Nat) (w : World) (hN : NetIs B w r n) [hB : Le B w] :
    Calls Try.prog 23 #[netV r n, v] w fun e w' => e = .returned (.tuple #[.int .i64 0, .int .i64 40]) ∧ ∃ δ, w' = lat w δ := by
  have HN := Lib.hid hN
  have HV := Lib.hid hv
  clear hN hv
  go_enter Try.func23, Try.ntmps23
  go_wp2_with (go_at_call 63; refine (giv_no r n HV.out v B _ HN.out.up).mono ?_; rintro e w1 ⟨rfl, δ, rfl⟩)
  go_ret2
  exact ⟨rfl, lat_ex⟩

theorem rCalm_no (r : NetR) (n : Net) (hv : valid n = false) (B : Nat) (w : World) (hN : NetIs B w r n) [hB : Le B w] :
    Calls Try.prog 25 #[netV r n] w fun e w' => e = .returned (.tuple #[.slice none 0 0, .int .i64 40]) ∧ ∃ δ, w' = lat w δ := by
  have HN := Lib.hid hN
  have HV := Lib.hid hv
  clear hN hv
  go_enter Try.func25, Try.ntmps25
  go_wp2_with (go_at_call 33; refine (rCheck_no r n HV.out B _ HN.out.up).mono ?_; rintro e w1 ⟨rfl, δ, rfl⟩)
  go_ret2
  exact ⟨rfl, lat_ex⟩

theorem least_one {α : Type} [Inhabited α] (f : α → Int) {L : List α} (h : 0 < L.length) : least f (L.take 1) = nth L 0 := by
  rw [take_snoc L (k := 0) h]; rfl
theorem least_next {α : Type} [Inhabited α] (f : α → Int) {L : List α} {k : Nat} (h0 : 0 < k) (h : k < L.length) : least f (L.take (k + 1)) = if f (nth L k) < f (least f (L.take k)) then nth L k else least f (L.take k) := by
  rw [take_snoc L h, least_snoc f (by intro e; have := congrArg List.length e; rw [List.length_take, List.length_nil] at this; omega)]

set_option maxRecDepth 100000 in
set_option maxHeartbeats 8000000 in
theorem rCalm_yes (r : NetR) (n : Net) (hv : valid n = true) (B : Nat) (w : World) (hN : NetIs B w r n) [hB : Le B w] :
    Calls Try.prog 25 #[netV r n] w fun e w' => ∃ (A : Option Addr) (c : Nat) (δ : World), e = .returned (.tuple #[.slice A n.hs.length c, .int .i64 0]) ∧ w' = lat w δ ∧ Hid (Sl encI (lat w δ).heap.size (lat w δ) A c (calm n)) := by
  have h6 := (ok_of hv).2.1
  obtain ⟨l0, l1⟩ := allO_len hv
  have HN := Lib.hid hN
  have HV := Lib.hid hv
  have H6 := Lib.hid h6
  clear hN hv h6
  obtain ⟨L, hL⟩ : ∃ L, allO n = L := ⟨_, rfl⟩
  have HL := Lib.hid hL
  rw [hL] at l0 l1
  clear hL
  go_enter Try.func25, Try.ntmps25
  go_wp2_with (first
    | (go_at_call 33; refine (rCheck_yes r n HV.out B _ HN.out.up).mono ?_; rintro e w1 ⟨rfl, δ, rfl⟩)
    | (go_at_call 67; refine (rOrders_c r n B _ HN.out.up H6.out).mono ?_; rw [HL.out]; rintro e w1 ⟨A, c, δ, rfl, rfl, hS⟩))
  refine wp_name fun W1 hW1 => ?_
  have iw1 : Le B W1 := by rw [hW1.out]; infer_instance
  have iw2 : Grew B w W1 := by rw [hW1.out]; infer_instance
  have iw3 : Le w.heap.size W1 := by rw [hW1.out]; infer_instance
  have iw4 : Grew w.heap.size w W1 := by rw [hW1.out]; infer_instance
  have iw5 : Lt (w.heap.size) W1 := by rw [hW1.out]; infer_instance
  have cw6 : W1.cell? ⟨w.heap.size, 0, none⟩ = some (.int .i64 n.m) := by rw [hW1.out]; go_simp
  have cw7 : W1.cell? ⟨w.heap.size, 1, none⟩ = some (.slice r.hA n.hs.length r.hc) := by rw [hW1.out]; go_simp
  have cw8 : W1.cell? ⟨w.heap.size, 2, none⟩ = some (.slice r.pA n.ps.length r.pc) := by rw [hW1.out]; go_simp
  have S1 : Hid (SlS 3 encI W1 A c L) := by rw [hW1.out]; exact hS
  have N1 := Lib.hid (HN.out.up : NetIs B W1 r n)
  clear hW1 hS
  have HAT : ∀ k, k < L.length → isOrd n (nth L k) = true ∧ (nth L k).length = n.hs.length := by rw [← HL.out]; exact fun k hk => allO_at hk
  have HA := Lib.hid HAT
  clear HAT
  obtain ⟨b, o, A0, c0, rfl, hb, hc, hs0⟩ := S1.out.nth l0 (HA.out 0 l0).2
  rw [Nat.add_zero] at hc
  have ib : Lt b W1 := ⟨hb⟩
  have H0 := Lib.hid hs0.plain
  clear hs0
  have hl0 : (0 : Int) < (L.length : Int) := by omega
  refine wp_region_lat (by kernel_rfl) (by kernel_rfl) ?_
  repeat (go_big_quiet_step ((first | (go_at_call 64; exact Calls.lat_of (rRegretOf_c r n A0 c0 _ (nth L 0) _ _ H0.out.up N1.out.wide.up HV.out (HA.out 0 l0).1 (HA.out 0 l0).2)))))
  refine wpQuiet_nil ?_
  rintro _ ⟨δq, rfl⟩
  go_wp2_with (fail)
  go_loopg [6, 7, 8] L.length (fun g s6 s7 s8 wr => ∃ (k a : Nat) (δ : World), k ≤ L.length ∧ g = L.length - k ∧ s8 = .int .i64 k ∧ s6 = .int .i64 a ∧ s7 = .int .i64 (regret n (nth L a)) ∧ a < L.length ∧ Hid (nth L a = least (regret n) (L.take (max k 1))) ∧ wr = lat W1 δ)
  case atStart => exact ⟨0, 0, _, Nat.zero_le _, rfl, rfl, rfl, rfl, l0, (least_one (regret n) l0).symm, rfl⟩
  case round =>
    obtain ⟨k, a, δ, hk, rfl, rfl, rfl, rfl, hal, hat, rfl⟩ := hrel
    by_cases hlt : k < L.length
    · obtain ⟨b', o', Ak, ck, hA', hbk, hck, hsk⟩ := S1.out.nth hlt (HA.out k hlt).2
      obtain ⟨rfl, rfl⟩ : b = b' ∧ o = o' := by simpa using hA'
      have HK := Lib.hid hsk.plain
      have hki : (k : Int) < (L.length : Int) := by omega
      have hk0 : ¬ (k : Int) < 0 := by omega
      have HLT := Lib.hid hlt
      have HAL := Lib.hid hal
      have hmk : k = 0 ∨ 0 < k := by omega
      have HMK := Lib.hid hmk
      clear hlt hk hsk hbk hc hal hmk
      by_cases hmn : regret n (nth L k) < regret n (nth L a)
      · have HE : Hid (nth L k = least (regret n) (L.take (max (k + 1) 1))) := by
          have h1 := hat.out
          rcases HMK.out with rfl | h0
          · rw [show max 0 1 = 1 from rfl, least_one (regret n) l0] at h1
            rw [h1] at hmn; omega
          · rw [show max k 1 = k by omega] at h1
            unfold Hid
            rw [show max (k + 1) 1 = k + 1 by omega, least_next (regret n) h0 HLT.out, ← h1, if_pos hmn]
        have c1 : decide (regret n (nth L k) < regret n (nth L a)) = true := decide_eq_true hmn
        clear hmn
        go_wp2_with (fail)
        refine wp_region_lat (by kernel_rfl) (by kernel_rfl) ?_
        repeat (go_big_quiet_step ((first | (go_at_call 64; exact Calls.lat_of (rRegretOf_c r n Ak ck _ (nth L k) _ _ HK.out.up N1.out.wide.up HV.out (HA.out k HLT.out).1 (HA.out k HLT.out).2)))))
        refine wpQuiet_nil ?_
        rintro _ ⟨δq2, rfl⟩
        go_wp2_with (fail)
        go_roundg (L.length - (k + 1))
        case measure => have := HLT.out; omega
        case rel => exact ⟨k + 1, k, _, HLT.out, rfl, by go_num, rfl, rfl, HLT.out, HE, lat_def⟩
      · have HE : Hid (nth L a = least (regret n) (L.take (max (k + 1) 1))) := by
          have h1 := hat.out
          rcases HMK.out with rfl | h0
          · exact h1
          · rw [show max k 1 = k by omega] at h1
            unfold Hid
            rw [show max (k + 1) 1 = k + 1 by omega, least_next (regret n) h0 HLT.out, ← h1, if_neg hmn]
        have c1 : decide (regret n (nth L k) < regret n (nth L a)) = false := decide_eq_false hmn
        clear hmn
        go_wp2_with (fail)
        refine wp_region_lat (by kernel_rfl) (by kernel_rfl) ?_
        repeat (go_big_quiet_step ((first | (go_at_call 64; exact Calls.lat_of (rRegretOf_c r n Ak ck _ (nth L k) _ _ HK.out.up N1.out.wide.up HV.out (HA.out k HLT.out).1 (HA.out k HLT.out).2)))))
        refine wpQuiet_nil ?_
        rintro _ ⟨δq2, rfl⟩
        go_wp2_with (fail)
        go_roundg (L.length - (k + 1))
        case measure => have := HLT.out; omega
        case rel => exact ⟨k + 1, a, _, HLT.out, rfl, by go_num, rfl, rfl, HAL.out, HE, lat_def⟩
    · obtain rfl : k = L.length := by omega
      obtain ⟨b', o', Ak, ck, hA', hbk, hck, hsk⟩ := S1.out.nth hal (HA.out a hal).2
      obtain ⟨rfl, rfl⟩ : b = b' ∧ o = o' := by simpa using hA'
      have hE : nth L a = calm n := by
        rw [hat.out, show max L.length 1 = L.length by omega, List.take_length, ← HL.out]; rfl
      rw [hE] at hsk
      have HK := Lib.hid hsk.plain
      have hai : (a : Int) < (L.length : Int) := by omega
      have ha0 : ¬ (a : Int) < 0 := by omega
      clear hsk hE
      go_wp2_with (fail)
      go_ret2
      refine ⟨Ak, ck, rfl, _, lat_def, ?_⟩
      rw [← lat_def (w := w)]
      exact HK.out.wide

end Go.Proofs.Ytbfehifidlojlaa
