/- Layer 4: the reference's RegretOf. -/
import Derived.Test.YtbfehifidlojlaaMe35
namespace Go.Proofs.Ytbfehifidlojlaa
open Go.RowKit
open Me

theorem rate_low {h : Hole} {d : Int} (h0 : h.lo ≤ h.hi) (hd : d < 0) : rateD h d = h.lo * d := by
  unfold rateD
  have := Int.mul_le_mul_of_nonpos_right h0 (Int.le_of_lt hd)
  omega
theorem rate_high {h : Hole} {d : Int} (h0 : h.lo ≤ h.hi) (hd : 0 ≤ d) : rateD h d = h.hi * d := by
  unfold rateD
  have := Int.mul_le_mul_of_nonneg_right h0 hd
  omega
theorem maxL_take {α : Type} [Inhabited α] (f : α → Int) {xs : List α} {k : Nat} (hk : k < xs.length) : maxL f (xs.take (k + 1)) = max (maxL f (xs.take k)) (f (nth xs k)) := by rw [take_snoc xs hk, maxL_snoc]

set_option maxRecDepth 100000 in
set_option maxHeartbeats 8000000 in
theorem rRegretOf_c (r : NetR) (n : Net) (A : Option Addr) (c ln : Nat) (l : List Int) (B : Nat) (w : World) [hB : Le B w] (hS : Sl encI B w A c l) (hN : NetIs B w r n) (hv : valid n = true) (hl : isOrd n l = true) (hln : l.length = ln) :
    Calls Try.prog 64 #[netV r n, .slice A ln c] w fun e w' => e = .returned (.int .i64 (regret n l)) ∧ ∃ δ, w' = lat w δ := by
  have h6 := (ok_of hv).2.1
  obtain ⟨l0, l1⟩ := allO_len hv
  have HS := Lib.hid hS
  have HN := Lib.hid hN
  have HV := Lib.hid hv
  have H6 := Lib.hid h6
  have HO := Lib.hid hl
  have HLN := Lib.hid hln
  clear hN hv h6 hS hl hln
  obtain ⟨L, hL⟩ : ∃ L, allO n = L := ⟨_, rfl⟩
  have HL := Lib.hid hL
  rw [hL] at l0 l1
  clear hL
  go_enter Try.func64, Try.ntmps64
  go_wp2_with (first
    | (go_at_call 67; refine (rOrders_c r n B _ HN.out.up H6.out).mono ?_; rw [HL.out]; rintro e w1 ⟨A1, c1, δ, rfl, rfl, hS⟩)
    | (go_at_call 68; refine (rTimes_v r n A c _ l B _ HS.out.up HN.out.up HV.out HO.out HLN.out).mono ?_; rintro e w1 ⟨A2, c2, δ2, rfl, rfl, hT⟩))
  refine wp_name fun W1 hW1 => ?_
  have iw1 : Le B W1 := by rw [hW1.out]; infer_instance
  have iw2 : Grew B w W1 := by rw [hW1.out]; infer_instance
  have iw3 : Le w.heap.size W1 := by rw [hW1.out]; infer_instance
  have iw4 : Grew w.heap.size w W1 := by rw [hW1.out]; infer_instance
  have iw5 : Lt (w.heap.size) W1 := by rw [hW1.out]; infer_instance
  have cw6 : W1.cell? ⟨w.heap.size, 0, none⟩ = some (.int .i64 n.m) := by rw [hW1.out]; go_simp
  have cw7 : W1.cell? ⟨w.heap.size, 1, none⟩ = some (.slice r.hA n.hs.length r.hc) := by rw [hW1.out]; go_simp
  have cw8 : W1.cell? ⟨w.heap.size, 2, none⟩ = some (.slice r.pA n.ps.length r.pc) := by rw [hW1.out]; go_simp
  have S1 : Hid (SlS 3 encI W1 A1 c1 L) := by rw [hW1.out]; exact hS.up
  have T1 : Hid (Sl encI W1.heap.size W1 A2 c2 (times n l)) := by rw [hW1.out]; exact hT.out
  have N1 := Lib.hid (HN.out.up : NetIs B W1 r n)
  clear hW1 hS hT
  have HAT : ∀ k, k < L.length → isOrd n (nth L k) = true ∧ (nth L k).length = n.hs.length := by rw [← HL.out]; exact fun k hk => allO_at hk
  have HA := Lib.hid HAT
  clear HAT
  go_loopg [7, 8] L.length (fun g s7 s8 wr => ∃ (k : Nat) (δ : World), k ≤ L.length ∧ g = L.length - k ∧ s8 = .int .i64 k ∧ s7 = .int .i64 (maxL (reg2 n l) (L.take k)) ∧ wr = lat W1 δ)
  case atStart => exact ⟨0, W1, Nat.zero_le _, rfl, rfl, rfl, (lat_refl W1).symm⟩
  case round =>
    obtain ⟨k, δ, hk, rfl, rfl, rfl, rfl⟩ := hrel
    by_cases hlt : k < L.length
    · obtain ⟨b', o', Ak, ck, rfl, hbk, hck, hsk⟩ := S1.out.nth hlt (HA.out k hlt).2
      have ib' : Lt b' W1 := ⟨hbk⟩
      have HK := Lib.hid hsk.plain
      have hki : (k : Int) < (L.length : Int) := by omega
      have hk0 : ¬ (k : Int) < 0 := by omega
      have HLT := Lib.hid hlt
      have HM := Lib.hid (maxL_take (reg2 n l) hlt)
      obtain ⟨x, hx⟩ : ∃ x, nth L k = x := ⟨_, rfl⟩
      have HX := Lib.hid hx
      have HOX : Hid (isOrd n x = true) := by rw [← hx]; exact (HA.out k hlt).1
      have HXL : Hid (x.length = n.hs.length) := by rw [← hx]; exact (HA.out k hlt).2
      have HK : Hid (Sl encI W1.heap.size W1 Ak ck x) := by rw [← hx]; exact HK.out
      clear hsk hlt hk hbk hx
      go_wp2_with (fail)
      go_region_held3 (fun W => W.cell? ⟨w.heap.size, 0, none⟩ = some (.int .i64 n.m) ∧ W.cell? ⟨w.heap.size, 1, none⟩ = some (.slice r.hA n.hs.length r.hc) ∧ W.cell? ⟨w.heap.size, 2, none⟩ = some (.slice r.pA n.ps.length r.pc) ∧ W.cell? ⟨b', o' + k, none⟩ = some (.slice Ak n.hs.length ck))
        (refine ⟨?_, ?_, ?_, ?_⟩ <;> go_simp)
        (first
          | (go_at_call 68; refine (rTimes_v r n Ak ck _ x _ _ HK.out.up N1.out.wide.up HV.out HOX.out HXL.out).mono ?_; rintro e w1 ⟨A3, c3, δ3, rfl, rfl, hT⟩))
      go_upto_region 8 with fail
      refine wp_name fun W2 hW2 => ?_
      have iw9 : Le B W2 := by rw [hW2.out]; infer_instance
      have iw10 : Grew B W1 W2 := by rw [hW2.out]; infer_instance
      have iw11 : Le W1.heap.size W2 := by rw [hW2.out]; infer_instance
      have iw12 : Grew W1.heap.size W1 W2 := by rw [hW2.out]; infer_instance
      have iw13 : Lt (w.heap.size) W2 := by rw [hW2.out]; infer_instance
      have cw14 : W2.cell? ⟨w.heap.size, 0, none⟩ = some (.int .i64 n.m) := by rw [hW2.out]; go_simp
      have cw15 : W2.cell? ⟨w.heap.size, 1, none⟩ = some (.slice r.hA n.hs.length r.hc) := by rw [hW2.out]; go_simp
      have cw16 : W2.cell? ⟨w.heap.size, 2, none⟩ = some (.slice r.pA n.ps.length r.pc) := by rw [hW2.out]; go_simp
      have T2 : Hid (Sl encI W1.heap.size W2 A2 c2 (times n l)) := by have : Grew W1.heap.size W1 W2 := inferInstance; exact T1.out.up
      have T3 : Hid (Sl encI W2.heap.size W2 A3 c3 (times n x)) := by rw [hW2.out]; exact hT.out
      have N2 := Lib.hid (N1.out.up : NetIs B W2 r n)
      have hs1 : W1.heap.size ≤ W2.heap.size := (inferInstance : Le W1.heap.size W2).out
      have hsB : B ≤ W2.heap.size := (inferInstance : Le B W2).out
      have hg : ∃ δ, W2 = lat W1 δ := by rw [hW2.out]; exact lat_ex
      have HG := Lib.hid hg
      clear hW2 hT hg
      go_wp2_with (fail)
      go_loopg [10, 11, 12] n.hs.length (fun g s10 s11 s12 wr => ∃ (j : Nat) (δ : World), j ≤ n.hs.length ∧ g = n.hs.length - j ∧ s11 = .int .i64 j ∧ s10 = .int .i64 (regK n.hs (times n l) (times n x) j) ∧ wr = lat W2 δ)
      case atStart => exact ⟨0, W2, Nat.zero_le _, rfl, rfl, rfl, (lat_refl W2).symm⟩
      case round =>
        obtain ⟨j, δ2, hj, rfl, rfl, rfl, rfl⟩ := hrel
        have h6 := H6.out
        by_cases hlt : j < n.hs.length
        · obtain ⟨b2, o2, rfl, hb2, t2⟩ := T3.out.int (k := j) (by rw [times_len]; exact hlt)
          obtain ⟨b1, o1, rfl, hb1, t1⟩ := T2.out.int (k := j) (by rw [times_len]; exact hlt)
          obtain ⟨bh, oh, hAh, hbh, d0, d1, d2, d3⟩ := N2.out.1.hole hlt
          have j2 : Lt b2 W2 := ⟨hb2⟩
          have j1 : Lt b1 W2 := ⟨by omega⟩
          have jh : Lt bh W2 := ⟨by omega⟩
          obtain ⟨rhA, rhc, rpA, rpc⟩ := r
          have hAh : rhA = some ⟨bh, oh, none⟩ := hAh
          subst hAh
          have hji : (j : Int) < (n.hs.length : Int) := by omega
          have hj0 : ¬ (j : Int) < 0 := by omega
          have ta := times_bd HV.out HO.out j
          have tb := times_bd HV.out HOX.out j
          have hh := okHole_iff.1 (okHoles_at (ok_of HV.out).2.2.2.1 hlt)
          have hrb := regK_bd HV.out HO.out HOX.out j hj
          obtain ⟨a, ha⟩ : ∃ a, nth (times n l) j = a := ⟨_, rfl⟩
          obtain ⟨b, hb⟩ : ∃ b, nth (times n x) j = b := ⟨_, rfl⟩
          obtain ⟨H, hH⟩ : ∃ H, nth n.hs j = H := ⟨_, rfl⟩
          obtain ⟨rk, hrk⟩ : ∃ b, regK n.hs (times n l) (times n x) j = b := ⟨_, rfl⟩
          have hE : regK n.hs (times n l) (times n x) (j + 1) = rk + rateD H (a - b) := by rw [regK, hrk, ha, hb, hH]
          have HE := Lib.hid hE
          rw [ha] at ta t1
          rw [hb] at tb t2
          rw [hH] at hh d1 d2
          rw [hrk] at hrb ⊢
          obtain ⟨fr, lo, hi, hr⟩ := H
          simp only at hh d1 d2
          obtain ⟨m1, m2⟩ := mulbd (a := lo) (b := a - b) (by omega) (by omega) (by omega) (by omega)
          obtain ⟨m3, m4⟩ := mulbd (a := hi) (b := a - b) (by omega) (by omega) (by omega) (by omega)
          have y2 : -20000 ≤ rk ∧ rk ≤ 20000 := by omega
          have hlh : lo ≤ hi := by omega
          have v1 : IntKind.i64.wrap (a - b) = a - b := IntWalk.i64_in _ (by omega)
          have v2 : IntKind.i64.wrap (lo * (a - b)) = lo * (a - b) := IntWalk.i64_in _ (by omega)
          have v3 : IntKind.i64.wrap (hi * (a - b)) = hi * (a - b) := IntWalk.i64_in _ (by omega)
          have HLT2 := Lib.hid hlt
          clear ha hb hH hrk ta tb hh hrb hlt hj d0 d3 hb1 hb2 hbh hE
          by_cases hmx : a < b
          · have c1 : decide (a < b) = true := decide_eq_true hmx
            have v4 : IntKind.i64.wrap (rk + lo * (a - b)) = rk + lo * (a - b) := IntWalk.i64_in _ (by omega)
            have HM2 := Lib.hid (show rateD ⟨fr, lo, hi, hr⟩ (a - b) = lo * (a - b) from rate_low hlh (by omega))
            clear hmx hlh
            go_wp2_with (fail)
            refine wp_region_lat (by kernel_rfl) (by kernel_rfl) ?_
            repeat (go_big_quiet_step ((first | (fail))))
            refine wpQuiet_nil ?_
            rintro _ ⟨δq, rfl⟩
            go_wp2_with (fail)
            refine wp_region_lat (by kernel_rfl) (by kernel_rfl) ?_
            repeat (go_big_quiet_step ((first | (fail))))
            refine wpQuiet_nil ?_
            rintro _ ⟨δq2, rfl⟩
            go_wp2_with (fail)
            go_roundg (n.hs.length - (j + 1))
            case measure => have := HLT2.out; omega
            case rel => exact ⟨j + 1, _, HLT2.out, rfl, by go_num, int_eq (by rw [HE.out, HM2.out]), lat_def⟩
          · have c1 : decide (a < b) = false := decide_eq_false hmx
            have v4 : IntKind.i64.wrap (rk + hi * (a - b)) = rk + hi * (a - b) := IntWalk.i64_in _ (by omega)
            have HM2 := Lib.hid (show rateD ⟨fr, lo, hi, hr⟩ (a - b) = hi * (a - b) from rate_high hlh (by omega))
            clear hmx hlh
            go_wp2_with (fail)
            refine wp_region_lat (by kernel_rfl) (by kernel_rfl) ?_
            repeat (go_big_quiet_step ((first | (fail))))
            refine wpQuiet_nil ?_
            rintro _ ⟨δq, rfl⟩
            go_wp2_with (fail)
            refine wp_region_lat (by kernel_rfl) (by kernel_rfl) ?_
            repeat (go_big_quiet_step ((first | (fail))))
            refine wpQuiet_nil ?_
            rintro _ ⟨δq2, rfl⟩
            go_wp2_with (fail)
            go_roundg (n.hs.length - (j + 1))
            case measure => have := HLT2.out; omega
            case rel => exact ⟨j + 1, _, HLT2.out, rfl, by go_num, int_eq (by rw [HE.out, HM2.out]), lat_def⟩
        · obtain rfl : j = n.hs.length := by omega
          obtain ⟨δg, rfl⟩ := HG.out
          by_cases hmx : maxL (reg2 n l) (L.take k) < reg2 n l x
          · have HE := Lib.hid (show maxL (reg2 n l) (L.take (k + 1)) = reg2 n l x by rw [HM.out, HX.out]; omega)
            have hmx' : maxL (reg2 n l) (L.take k) < regK n.hs (times n l) (times n x) n.hs.length := hmx
            clear hmx
            go_wp2_with (fail)
            go_roundg (L.length - (k + 1))
            case measure => have := HLT.out; omega
            case rel => exact ⟨k + 1, _, HLT.out, rfl, by go_num, int_eq (by rw [HE.out]; rfl), lat_def⟩
          · have HE := Lib.hid (show maxL (reg2 n l) (L.take (k + 1)) = maxL (reg2 n l) (L.take k) by rw [HM.out, HX.out]; omega)
            have hmx' : ¬ maxL (reg2 n l) (L.take k) < regK n.hs (times n l) (times n x) n.hs.length := hmx
            clear hmx
            go_wp2_with (fail)
            go_roundg (L.length - (k + 1))
            case measure => have := HLT.out; omega
            case rel => exact ⟨k + 1, _, HLT.out, rfl, by go_num, int_eq (by rw [HE.out]), lat_def⟩
    · obtain rfl : k = L.length := by omega
      have HR := Lib.hid (show regret n l = maxL (reg2 n l) L by rw [← HL.out]; rfl)
      rw [List.take_length]
      go_wp2_with (fail)
      go_ret
      rw [HR.out]
      exact ⟨rfl, lat_ex⟩

end Go.Proofs.Ytbfehifidlojlaa
