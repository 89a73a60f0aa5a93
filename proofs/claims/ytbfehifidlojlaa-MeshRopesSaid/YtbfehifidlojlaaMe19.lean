/- Layer 4: the reference's Check. -/
import Derived.Test.YtbfehifidlojlaaMe7
import Derived.Test.YtbfehifidlojlaaMe18
namespace Go.Proofs.Ytbfehifidlojlaa
open Go.RowKit
open Me

theorem within4_is (n low high : Int) (b : Bool) (hb : inB low high n = b) (w : World) :
    Calls Try.prog 58 #[.int .i64 n, .int .i64 low, .int .i64 high] w fun e w' => e = .returned (.bool b) ∧ w = w' := by subst hb; exact within4_c n low high w

set_option maxRecDepth 100000 in
set_option maxHeartbeats 4000000 in
theorem rCheck_c (r : NetR) (n : Net) (B : Nat) (w : World) (h : NetIs B w r n) [hB : Le B w] :
    Calls Try.prog 33 #[netV r n] w fun e w' => e = .returned (.int .i64 (errOf (valid n) 40)) ∧ ∃ δ, w' = lat w δ := by
  have l1 := h.1.len
  have l2 := h.2.len
  by_cases hd : (1 ≤ n.m ∧ n.m ≤ 3) ∧ n.hs.length ≤ 6 ∧ n.ps.length ≤ 8
  · obtain ⟨hm, h6, h8⟩ := hd
    have hi1 : inB 1 3 n.m = true := inB_iff.2 hm
    have HI := Lib.hid hi1
    have H := Lib.hid h
    have HM := Lib.hid hm
    have g6 : ¬ (6 : Int) < (n.hs.length : Int) := by omega
    have g8 : ¬ (8 : Int) < (n.ps.length : Int) := by omega
    clear h hi1 hm
    go_enter Try.func33, Try.ntmps33
    go_wp2_with (go_at_call 58; refine (within4_is _ _ _ _ HI.out _).mono ?_; rintro e w1 ⟨rfl, rfl⟩)
    go_loopw [3] (fun i wr => ∃ (k : Nat) (δ : World), k ≤ n.hs.length ∧ i = .int .i64 k ∧ Hid ((n.hs.take k).all okHole = true) ∧ wr = lat (w.alloc (.cells #[.int .i64 n.m, .slice r.hA n.hs.length r.hc, .slice r.pA n.ps.length r.pc] 25)) δ) (fun i _ => n.hs.length - (intOf i).toNat)
    case atStart => exact ⟨0, _, Nat.zero_le _, rfl, by simp [Hid], (lat_refl _).symm⟩
    case round =>
      obtain ⟨k, δ, hk, rfl, hn, rfl⟩ := hrel
      by_cases hlt : k < n.hs.length
      · obtain ⟨b', o, hA, hb, hc0, hc1, hc2, hc3⟩ := H.out.1.hole hlt
        have hb' : Lt b' w := ⟨Nat.lt_of_lt_of_le hb hB.out⟩
        have hki : (k : Int) < (n.hs.length : Int) := by omega
        have hk0 : ¬ (k : Int) < 0 := by omega
        have hx := Lib.hid (nth_mem n.hs hlt)
        have ht := Lib.hid (take_snoc n.hs hlt)
        rw [hA]
        obtain ⟨x, hxe⟩ : ∃ x, x = nth n.hs k := ⟨_, rfl⟩
        rw [← hxe] at hc0 hc1 hc2 hc3 ht hx
        clear hxe
        obtain ⟨fr, lo, hi, hr⟩ := x
        simp only at hc0 hc1 hc2 hc3
        by_cases he : okHole ⟨fr, lo, hi, hr⟩ = true
        · obtain ⟨e1, e2, e3, e4, e5, e6, e7⟩ := okHole_iff.1 he
          simp only at e1 e2 e3 e4 e5 e6 e7
          have E1 := Lib.hid (show inB 0 20 fr = true from inB_iff.2 ⟨e1, e2⟩)
          have E2 := Lib.hid (show inB 0 20 hi = true from inB_iff.2 ⟨by omega, e5⟩)
          have E3 := Lib.hid (show inB 0 hi lo = true from inB_iff.2 ⟨e3, e4⟩)
          have E4 := Lib.hid (show inB 1 9 hr = true from inB_iff.2 ⟨e6, e7⟩)
          have HE := Lib.hid he
          clear e1 e2 e3 e4 e5 e6 e7 he
          go_wp2_with (go_at_call 58; refine (within4_c _ _ _ _).mono ?_; (first | rw [E1.out] | rw [E2.out] | rw [E3.out] | rw [E4.out]); rintro e w1 ⟨rfl, rfl⟩)
          go_roundw
          case rel =>
            refine ⟨k + 1, _, by omega, by go_num, ?_, lat_def⟩
            unfold Hid
            rw [ht.out, List.all_append, hn.out]
            simp [HE.out]
          case measure => simp [intOf]; omega
        · rw [Bool.not_eq_true] at he
          have hv : valid n = false := by
            have : okHoles n.hs = false := by rw [okHoles, List.all_eq_false]; exact ⟨_, hx.out, by simp [he]⟩
            simp [valid, this]
          have HV := Lib.hid hv
          clear hv
          go_wp2_with (go_at_call 58; refine (within4_c _ _ _ _).mono ?_; rintro e w1 ⟨rfl, rfl⟩)
          all_goals first
            | (go_ret; exact ⟨ret_int (by rw [HV.out]; rfl), lat_ex⟩)
            | (exfalso; simp [inB, okHole] at *; omega)
      · obtain rfl : k = n.hs.length := by omega
        have hok := hn.out
        rw [List.take_length] at hok
        have HO := Lib.hid hok
        clear hok
        go_wp2_with (fail)
        go_loopw [5] (fun i wr => ∃ (j : Nat) (δ : World), j ≤ n.ps.length ∧ i = .int .i64 j ∧ Hid ((n.ps.take j).all (okPr n.hs.length) = true) ∧ wr = lat (w.alloc (.cells #[.int .i64 n.m, .slice r.hA n.hs.length r.hc, .slice r.pA n.ps.length r.pc] 25)) δ) (fun i _ => n.ps.length - (intOf i).toNat)
        case atStart => exact ⟨0, _, Nat.zero_le _, rfl, by simp [Hid], rfl⟩
        case round =>
          clear hn
          obtain ⟨j, δ, hj, rfl, hn, rfl⟩ := hrel
          by_cases hlt : j < n.ps.length
          · obtain ⟨b', o, hA, hb, hc0, hc1⟩ := H.out.2.pr hlt
            obtain ⟨rhA, rhc, rpA, rpc⟩ := r
            simp only at hA
            subst hA
            have hb' : Lt b' w := ⟨Nat.lt_of_lt_of_le hb hB.out⟩
            have hji : (j : Int) < (n.ps.length : Int) := by omega
            have hj0 : ¬ (j : Int) < 0 := by omega
            have hx := Lib.hid (nth_mem n.ps hlt)
            have ht := Lib.hid (take_snoc n.ps hlt)
            obtain ⟨x, hxe⟩ : ∃ x, x = nth n.ps j := ⟨_, rfl⟩
            rw [← hxe] at hc0 hc1 ht hx
            clear hxe
            obtain ⟨a, b⟩ := x
            simp only at hc0 hc1
            by_cases h1 : inB 0 ((n.hs.length : Int) - 1) a = true
            · by_cases h2 : inB 0 ((n.hs.length : Int) - 1) b = true
              · have P1 := Lib.hid h1
                have P2 := Lib.hid h2
                have HE := Lib.hid (show okPr n.hs.length ⟨a, b⟩ = true by rw [inB_iff] at h1 h2; rw [okPr_iff]; simp only; omega)
                clear h1 h2
                go_wp2_with (fail)
                refine wp_region_lat (by kernel_rfl) (by kernel_rfl) ?_
                repeat (go_big_quiet_step ((first | (go_at_call 15; (first | with_reducible exact Calls.lat_of (rIsHole_c ⟨rhA, rhc, some ⟨b', o, none⟩, rpc⟩ n a _ P1.out B _ H.out.up) | with_reducible exact Calls.lat_of (rIsHole_c ⟨rhA, rhc, some ⟨b', o, none⟩, rpc⟩ n b _ P2.out B _ H.out.up))))))
                refine wpQuiet_nil ?_
                rintro _ ⟨δq, rfl⟩
                go_wp2_with (fail)
                go_roundw
                case rel =>
                  refine ⟨j + 1, _, by omega, by go_num, ?_, lat_def⟩
                  unfold Hid
                  rw [ht.out, List.all_append, hn.out]
                  simp [HE.out]
                case measure => simp [intOf]; omega
              · rw [Bool.not_eq_true] at h2
                have P1 := Lib.hid h1
                have P2 := Lib.hid h2
                have HV := Lib.hid (show valid n = false by
                  have : okPrs n.hs.length n.ps = false := by
                    rw [okPrs, List.all_eq_false]
                    refine ⟨_, hx.out, ?_⟩
                    rw [okPr_iff]
                    intro hc
                    rw [← Bool.not_eq_true, inB_iff] at h2
                    simp only at hc
                    omega
                  simp [valid, this])
                clear h1 h2
                go_wp2_with (fail)
                refine wp_region_lat (by kernel_rfl) (by kernel_rfl) ?_
                repeat (go_big_quiet_step ((first | (go_at_call 15; (first | with_reducible exact Calls.lat_of (rIsHole_c ⟨rhA, rhc, some ⟨b', o, none⟩, rpc⟩ n a _ P1.out B _ H.out.up) | with_reducible exact Calls.lat_of (rIsHole_c ⟨rhA, rhc, some ⟨b', o, none⟩, rpc⟩ n b _ P2.out B _ H.out.up))))))
                refine wpQuiet_nil ?_
                rintro _ ⟨δq, rfl⟩
                go_wp2_with (fail)
                go_ret
                exact ⟨ret_int (by rw [HV.out]; rfl), lat_ex⟩
            · rw [Bool.not_eq_true] at h1
              have P1 := Lib.hid h1
              have HV := Lib.hid (show valid n = false by
                have : okPrs n.hs.length n.ps = false := by
                  rw [okPrs, List.all_eq_false]
                  refine ⟨_, hx.out, ?_⟩
                  rw [okPr_iff]
                  intro hc
                  rw [← Bool.not_eq_true, inB_iff] at h1
                  simp only at hc
                  omega
                simp [valid, this])
              clear h1
              go_wp2_with (fail)
              refine wp_region_lat (by kernel_rfl) (by kernel_rfl) ?_
              repeat (go_big_quiet_step ((first | (go_at_call 15; exact Calls.lat_of (rIsHole_c ⟨rhA, rhc, some ⟨b', o, none⟩, rpc⟩ n a _ P1.out B _ H.out.up)))))
              refine wpQuiet_nil ?_
              rintro _ ⟨δq, rfl⟩
              go_wp2_with (fail)
              go_ret
              exact ⟨ret_int (by rw [HV.out]; rfl), lat_ex⟩
          · obtain rfl : j = n.ps.length := by omega
            have hok := hn.out
            rw [List.take_length] at hok
            have HP := Lib.hid hok
            clear hok
            have hvo : valid n = hasO n := by
              have h1 : okHoles n.hs = true := HO.out
              have h2 : okPrs n.hs.length n.ps = true := HP.out
              have := HM.out
              simp [valid, h1, h2, h6, h8, this]
            have HV := Lib.hid hvo
            clear hvo
            by_cases hz : (allO n).length = 0
            · have hz' : (((allO n).length : Int) == 0) = true := by simp [hz]
              have HZ := Lib.hid (show hasO n = false by simp [hasO, List.eq_nil_of_length_eq_zero hz])
              clear hz
              go_wp2_with (go_at_call 67; refine (rOrders_c r n B _ H.out.up h6).mono ?_; rintro e w1 ⟨A1, c1, δ1, rfl, rfl, hs1⟩)
              go_ret
              exact ⟨ret_int (by rw [HV.out, HZ.out]; rfl), lat_ex⟩
            · have hz' : (((allO n).length : Int) == 0) = false := by simpa using hz
              have HZ := Lib.hid (show hasO n = true by simp only [hasO, Bool.not_eq_true', List.isEmpty_eq_false_iff]; intro hc; exact hz (by rw [hc]; rfl))
              clear hz
              go_wp2_with (go_at_call 67; refine (rOrders_c r n B _ H.out.up h6).mono ?_; rintro e w1 ⟨A1, c1, δ1, rfl, rfl, hs1⟩)
              go_ret
              exact ⟨ret_int (by rw [HV.out, HZ.out]; rfl), lat_ex⟩
  · have hv : valid n = false := by
      rw [← Bool.not_eq_true, valid_iff]
      intro hc
      exact hd ⟨hc.1, hc.2.1, hc.2.2.1⟩
    have HV := Lib.hid hv
    have H := Lib.hid h
    clear hv h
    go_enter Try.func33, Try.ntmps33
    go_wp2_with (go_at_call 58; refine (within4_c _ _ _ _).mono ?_; rintro e w1 ⟨rfl, rfl⟩)
    all_goals first
      | (go_ret; exact ⟨ret_int (by rw [HV.out]; rfl), lat_ex⟩)
      | (exfalso; simp [inB] at *; omega)

end Go.Proofs.Ytbfehifidlojlaa
