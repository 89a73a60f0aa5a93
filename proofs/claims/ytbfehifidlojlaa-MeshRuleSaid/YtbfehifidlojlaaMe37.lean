/- Layer 4: the reference's Rule and Over. -/
import Derived.Test.YtbfehifidlojlaaMe36
namespace Go.Proofs.Ytbfehifidlojlaa
open Go.RowKit
open Me

theorem rRule_no (r : NetR) (n : Net) (hv : valid n = false) (B : Nat) (w : World) (hN : NetIs B w r n) [hB : Le B w] :
    Calls Try.prog 41 #[netV r n] w fun e w' => e = .returned (.tuple #[.slice none 0 0, .int .i64 40]) ∧ ∃ δ, w' = lat w δ := by
  have HN := Lib.hid hN
  have HV := Lib.hid hv
  clear hN hv
  go_enter Try.func41, Try.ntmps41
  go_wp2_with (go_at_call 33; refine (rCheck_no r n HV.out B _ HN.out.up).mono ?_; rintro e w1 ⟨rfl, δ, rfl⟩)
  go_ret2
  exact ⟨rfl, lat_ex⟩

set_option maxRecDepth 100000 in
set_option maxHeartbeats 8000000 in
theorem rRule_yes (r : NetR) (n : Net) (hv : valid n = true) (B : Nat) (w : World) (hN : NetIs B w r n) [hB : Le B w] :
    Calls Try.prog 41 #[netV r n] w fun e w' => ∃ (A : Option Addr) (c : Nat) (δ : World), e = .returned (.tuple #[.slice A n.hs.length c, .int .i64 0]) ∧ w' = lat w δ ∧ Hid (Sl encI (lat w δ).heap.size (lat w δ) A c (rule n)) := by
  have HN := Lib.hid hN
  have HV := Lib.hid hv
  have h6 := (ok_of hv).2.1
  clear hN hv
  go_enter Try.func41, Try.ntmps41
  go_upto_region 4 with (go_at_call 33; refine (rCheck_yes r n HV.out B _ HN.out.up).mono ?_; rintro e w1 ⟨rfl, δ, rfl⟩)
  refine wp_name fun W1 hW1 => ?_
  have iw1 : Le B W1 := by rw [hW1.out]; infer_instance
  have iw2 : Grew B w W1 := by rw [hW1.out]; infer_instance
  have iw3 : Le w.heap.size W1 := by rw [hW1.out]; infer_instance
  have iw4 : Grew w.heap.size w W1 := by rw [hW1.out]; infer_instance
  have iw5 : Lt (w.heap.size) W1 := by rw [hW1.out]; infer_instance
  have cw6 : W1.cell? ⟨w.heap.size, 0, none⟩ = some (.int .i64 n.m) := by rw [hW1.out]; go_simp
  have cw7 : W1.cell? ⟨w.heap.size, 1, none⟩ = some (.slice r.hA n.hs.length r.hc) := by rw [hW1.out]; go_simp
  have cw8 : W1.cell? ⟨w.heap.size, 2, none⟩ = some (.slice r.pA n.ps.length r.pc) := by rw [hW1.out]; go_simp
  clear hW1
  go_wp2_with (fail)
  go_loopg [5] n.hs.length (fun g s5 wr => ∃ (k c' : Nat) (A' : Option Addr), k ≤ n.hs.length ∧ g = n.hs.length - k ∧ s5 = .slice A' k c' ∧ wr.ownsRow W1.heap.size 3 1 (.slice A' k c') k ((ruleK n k).flatMap encI) ∧ Grew W1.heap.size W1 wr ∧ Le W1.heap.size wr)
  case atStart => exact ⟨0, 0, none, Nat.zero_le _, rfl, rfl, World.ownsRow_nil _ _ _ _, inferInstance, inferInstance⟩
  case round =>
    obtain ⟨k, c', A', hk, rfl, rfl, hown, g1, g2⟩ := hrel
    have hlr := (ruleK_spec (ok_of HV.out).2.2.2.1 (bestO_ord (valid_iff.1 HV.out).2.2.2.2.2) k hk).1
    have HO := Lib.hid hown
    have HLR := Lib.hid hlr
    have i5 : Grew B w wr := grew_tr (W := W1) inferInstance g1
    have i6 : Le B wr := ⟨Nat.le_trans (inferInstance : Le B W1).out g2.out⟩
    have hlt1 := (inferInstance : Lt w.heap.size W1).out
    have hcs := fun o => cells_same g1.out w.heap.size o hlt1
    have c1 : wr.cell? ⟨w.heap.size, 0, none⟩ = some (.int .i64 n.m) := (hcs 0).trans (by assumption)
    have c2 : wr.cell? ⟨w.heap.size, 1, none⟩ = some (.slice r.hA n.hs.length r.hc) := (hcs 1).trans (by assumption)
    have c3 : wr.cell? ⟨w.heap.size, 2, none⟩ = some (.slice r.pA n.ps.length r.pc) := (hcs 2).trans (by assumption)
    have i7 : Lt w.heap.size wr := ⟨Nat.lt_of_lt_of_le hlt1 g2.out⟩
    clear hown hlr hcs
    by_cases hlt : k < n.hs.length
    · have HSR : Hid (Sl encI wr.heap.size wr A' c' (ruleK n k)) := by
        have e := HLR.out
        have h2 : wr.ownsRow W1.heap.size 3 1 (.slice A' (ruleK n k).length c') (ruleK n k).length ((ruleK n k).flatMap encI) := by rw [e]; exact HO.out
        exact Sl.of_own h2
      have HNW : Hid (NetIs wr.heap.size wr r n) := HN.out.wide
      have HLT := Lib.hid hlt
      have hkl : (k : Int) < (n.hs.length : Int) := by omega
      clear hlt hk
      go_wp2_with (fail)
      go_loopg [6, 7] n.hs.length (fun g s4 i wr' => ∃ (j : Nat) (δ : World), j ≤ n.hs.length ∧ g = n.hs.length - j ∧ i = .int .i64 j ∧ s4 = .int .i64 (nextK n (ruleK n k) j) ∧ wr' = lat wr δ)
      case atStart => exact ⟨0, wr, Nat.zero_le _, rfl, rfl, rfl, (lat_refl wr).symm⟩
      case round =>
        obtain ⟨j, δ, hj, rfl, rfl, rfl, rfl⟩ := hrel
        by_cases hlt : j < n.hs.length
        · obtain ⟨bh, oh, hAh, hbh, d0, d1, d2, d3⟩ := HNW.out.1.hole hlt
          have ibh : Lt bh wr := ⟨hbh⟩
          obtain ⟨rhA, rhc, rpA, rpc⟩ := r
          have hAh : rhA = some ⟨bh, oh, none⟩ := hAh
          subst hAh
          have hji : (j : Int) < (n.hs.length : Int) := by omega
          have hj0 : ¬ (j : Int) < 0 := by omega
          have hsp := nextK_spec (ok_of HV.out).2.2.2.1 (ruleK n k) j hj
          have HSP := Lib.hid hsp
          have HJ := Lib.hid hlt
          clear hsp hlt hj
          by_cases h1 : may n (ruleK n k) (j : Int) = true
          · have HM := Lib.hid h1
            clear h1
            obtain ⟨bb, hbb⟩ : ∃ bb, nextK n (ruleK n k) j = bb := ⟨_, rfl⟩
            rw [hbb]
            rcases HSP.out with ⟨hm1, _⟩ | ⟨hp1, hp2, hp3, _⟩
            · have hm1 : bb = -1 := by rw [← hbb]; exact hm1
              subst hm1
              have HE := Lib.hid (show nextK n (ruleK n k) (j + 1) = j by rw [nextK, if_pos HM.out, hbb, if_pos (.inl (by omega))])
              clear hbb
              go_wp2_with (go_at_call 60; refine (rMay_c ⟨some ⟨bh, oh, none⟩, rhc, rpA, rpc⟩ n _ _ _ _ (ruleK n k) _ HM.out wr.heap.size _ HSR.out.up HNW.out.up HLR.out).mono ?_; rintro e w1 ⟨rfl, δm, rfl⟩)
              refine wp_region_lat (by kernel_rfl) (by kernel_rfl) ?_
              repeat (go_big_quiet_step ((first | (fail))))
              refine wpQuiet_nil ?_
              rintro _ ⟨δq, rfl⟩
              go_wp2_with (fail)
              go_roundg (n.hs.length - (j + 1))
              case measure => have := HJ.out; omega
              case rel => exact ⟨j + 1, _, HJ.out, rfl, by go_num, by rw [HE.out], lat_def⟩
            · rw [hbb] at hp1 hp2 hp3
              obtain ⟨bn, hbn⟩ : ∃ bn : Nat, bb = bn := ⟨bb.toNat, by omega⟩
              subst hbn
              have hbl : bn < n.hs.length := by have := HJ.out; omega
              obtain ⟨b2, o2, hA2, hb2, e0, e1, e2, e3⟩ := HNW.out.1.hole hbl
              obtain ⟨rfl, rfl⟩ : bh = b2 ∧ oh = o2 := by simpa using hA2
              have hh := okHole_iff.1 (okHoles_at (ok_of HV.out).2.2.2.1 HJ.out)
              have hg := okHole_iff.1 (okHoles_at (ok_of HV.out).2.2.2.1 hbl)
              have hE0 : nextK n (ruleK n k) (j + 1) = if (bn : Int) < 0 ∨ (nth n.hs j).hi * (nth n.hs bn).hr > (nth n.hs bn).hi * (nth n.hs j).hr then (j : Int) else (bn : Int) := by
                rw [nextK, if_pos HM.out, hbb]; simp only [Int.toNat_natCast]
              obtain ⟨p, hp⟩ : ∃ p, (nth n.hs j).hi = p := ⟨_, rfl⟩
              obtain ⟨q, hq⟩ : ∃ p, (nth n.hs j).hr = p := ⟨_, rfl⟩
              obtain ⟨u, hu⟩ : ∃ p, (nth n.hs bn).hi = p := ⟨_, rfl⟩
              obtain ⟨v, hv⟩ : ∃ p, (nth n.hs bn).hr = p := ⟨_, rfl⟩
              rw [hp, hq] at hh
              rw [hu, hv] at hg
              rw [hp, hq, hu, hv] at hE0
              rw [hp] at d2
              rw [hq] at d3
              rw [hu] at e2
              rw [hv] at e3
              obtain ⟨m1, m2⟩ := mul180 (a := p) (b := v) (by omega) (by omega) (by omega) (by omega)
              obtain ⟨m3, m4⟩ := mul180 (a := u) (b := q) (by omega) (by omega) (by omega) (by omega)
              have hbi : (bn : Int) < (n.hs.length : Int) := by omega
              have hb0 : ¬ (bn : Int) < 0 := by omega
              have hbd : decide ((bn : Int) < 0) = false := by simp
              have w1 : IntKind.i64.wrap (p * v) = p * v := IntWalk.i64_in _ (by omega)
              have w2 : IntKind.i64.wrap (u * q) = u * q := IntWalk.i64_in _ (by omega)
              by_cases hc : u * q < p * v
              · have HE := Lib.hid (show nextK n (ruleK n k) (j + 1) = j by rw [hE0, if_pos (.inr hc)])
                clear hE0 hh hg hp hq hu hv hbb hp1 hp2 hp3 e0 e1 m1 m2 m3 m4 hb2 hbh hA2
                go_wp2_with (go_at_call 60; refine (rMay_c ⟨some ⟨bh, oh, none⟩, rhc, rpA, rpc⟩ n _ _ _ _ (ruleK n k) _ HM.out wr.heap.size _ HSR.out.up HNW.out.up HLR.out).mono ?_; rintro e w1 ⟨rfl, δm, rfl⟩)
                refine wp_region_lat (by kernel_rfl) (by kernel_rfl) ?_
                repeat (go_big_quiet_step ((first | (fail))))
                refine wpQuiet_nil ?_
                rintro _ ⟨δq, rfl⟩
                go_wp2_with (fail)
                go_roundg (n.hs.length - (j + 1))
                case measure => have := HJ.out; omega
                case rel => exact ⟨j + 1, _, HJ.out, rfl, by go_num, by rw [HE.out], lat_def⟩
              · have HE := Lib.hid (show nextK n (ruleK n k) (j + 1) = bn by rw [hE0, if_neg (by omega)])
                clear hE0 hh hg hp hq hu hv hbb hp1 hp2 hp3 e0 e1 m1 m2 m3 m4 hb2 hbh hA2
                go_wp2_with (go_at_call 60; refine (rMay_c ⟨some ⟨bh, oh, none⟩, rhc, rpA, rpc⟩ n _ _ _ _ (ruleK n k) _ HM.out wr.heap.size _ HSR.out.up HNW.out.up HLR.out).mono ?_; rintro e w1 ⟨rfl, δm, rfl⟩)
                refine wp_region_lat (by kernel_rfl) (by kernel_rfl) ?_
                repeat (go_big_quiet_step ((first | (fail))))
                refine wpQuiet_nil ?_
                rintro _ ⟨δq, rfl⟩
                go_wp2_with (fail)
                go_roundg (n.hs.length - (j + 1))
                case measure => have := HJ.out; omega
                case rel => exact ⟨j + 1, _, HJ.out, rfl, by go_num, by rw [HE.out], lat_def⟩
          · rw [Bool.not_eq_true] at h1
            have HM := Lib.hid h1
            have HE := Lib.hid (show nextK n (ruleK n k) (j + 1) = nextK n (ruleK n k) j by rw [nextK, if_neg (by rw [h1]; simp)])
            clear h1
            go_wp2_with (go_at_call 60; refine (rMay_c ⟨some ⟨bh, oh, none⟩, rhc, rpA, rpc⟩ n _ _ _ _ (ruleK n k) _ HM.out wr.heap.size _ HSR.out.up HNW.out.up HLR.out).mono ?_; rintro e w1 ⟨rfl, δm, rfl⟩)
            go_roundg (n.hs.length - (j + 1))
            case measure => have := HJ.out; omega
            case rel => exact ⟨j + 1, _, HJ.out, rfl, by go_num, by rw [HE.out], lat_def⟩
        · obtain rfl : j = n.hs.length := by omega
          have hk6 : k ≤ 6 := by have := HLT.out; omega
          go_wp2_with (at_builtin; (refine wpList_append_new W1 slI (.tmp 65) (.tmp 67) rfl rfl (owns_lat _ HO.out) rfl rfl (by go_simp) rfl (by simp [Value.oneCell']) (by omega) (by omega) ?_); intro A2 c2 δ2 hown2)
          go_roundg (n.hs.length - (k + 1))
          case measure => have := HLT.out; omega
          case rel =>
            refine ⟨k + 1, c2, A2, HLT.out, rfl, rfl, ?_, inferInstance, inferInstance⟩
            rw [ruleK, List.flatMap_append]
            exact hown2
    · obtain rfl : k = n.hs.length := by omega
      have hS : Sl encI wr.heap.size wr A' c' (rule n) := by
        have := HO.out
        have e := HLR.out
        have h2 : wr.ownsRow W1.heap.size 3 1 (.slice A' (ruleK n n.hs.length).length c') (ruleK n n.hs.length).length ((ruleK n n.hs.length).flatMap encI) := by rw [e]; exact this
        exact Sl.of_own h2
      have HS := Lib.hid hS
      clear hS
      go_wp2_with (fail)
      go_ret2
      have i8 : Grew w.heap.size w wr := grew_tr (W := W1) inferInstance g1
      have i9 : Le w.heap.size wr := ⟨Nat.le_trans (inferInstance : Le w.heap.size W1).out g2.out⟩
      exact ⟨A', c', wr, rfl, lat_def, sl_def HS.out⟩

theorem rOver_no (r : NetR) (n : Net) (hv : valid n = false) (B : Nat) (w : World) (hN : NetIs B w r n) [hB : Le B w] :
    Calls Try.prog 43 #[netV r n] w fun e w' => e = .returned (.tuple #[.int .i64 0, .int .i64 40]) ∧ ∃ δ, w' = lat w δ := by
  have HN := Lib.hid hN
  have HV := Lib.hid hv
  clear hN hv
  go_enter Try.func43, Try.ntmps43
  go_wp2_with (go_at_call 41; refine (rRule_no r n HV.out B _ HN.out.up).mono ?_; rintro e w1 ⟨rfl, δ, rfl⟩)
  go_ret2
  exact ⟨rfl, lat_ex⟩
set_option maxRecDepth 100000 in
theorem rOver_yes (r : NetR) (n : Net) (hv : valid n = true) (B : Nat) (w : World) (hN : NetIs B w r n) [hB : Le B w] :
    Calls Try.prog 43 #[netV r n] w fun e w' => e = .returned (.tuple #[.int .i64 (overN n), .int .i64 0]) ∧ ∃ δ, w' = lat w δ := by
  have HN := Lib.hid hN
  have HV := Lib.hid hv
  obtain ⟨b1, b2⟩ := worst_bd hv (rule_ok hv)
  obtain ⟨b3, b4⟩ := leastN_bd hv
  have hsub : IntKind.i64.wrap (worst n (rule n) - leastN n) = worst n (rule n) - leastN n := IntWalk.i64_in _ (by omega)
  have HL := Lib.hid (ord_len (rule_ok hv))
  have HE := Lib.hid (show overN n = worst n (rule n) - leastN n from rfl)
  clear hN hv
  go_enter Try.func43, Try.ntmps43
  go_wp2_with (go_at_call 41; refine (rRule_yes r n HV.out B _ HN.out.up).mono ?_; rintro e w1 ⟨A1, c1, δ, rfl, rfl, hS⟩)
  refine wp_name fun W1 hW1 => ?_
  have iw1 : Le B W1 := by rw [hW1.out]; infer_instance
  have iw2 : Grew B w W1 := by rw [hW1.out]; infer_instance
  have iw3 : Le w.heap.size W1 := by rw [hW1.out]; infer_instance
  have iw4 : Grew w.heap.size w W1 := by rw [hW1.out]; infer_instance
  have iw5 : Lt (w.heap.size) W1 := by rw [hW1.out]; infer_instance
  have cw6 : W1.cell? ⟨w.heap.size, 0, none⟩ = some (.int .i64 n.m) := by rw [hW1.out]; go_simp
  have cw7 : W1.cell? ⟨w.heap.size, 1, none⟩ = some (.slice r.hA n.hs.length r.hc) := by rw [hW1.out]; go_simp
  have cw8 : W1.cell? ⟨w.heap.size, 2, none⟩ = some (.slice r.pA n.ps.length r.pc) := by rw [hW1.out]; go_simp
  have S1 : Hid (Sl encI W1.heap.size W1 A1 c1 (rule n)) := by rw [hW1.out]; exact hS.out.wide
  have N1 := Lib.hid (HN.out.up : NetIs B W1 r n)
  clear hW1 hS
  refine wp_region_lat (by kernel_rfl) (by kernel_rfl) ?_
  repeat (go_big_quiet_step ((first | (go_at_call 30; exact Calls.lat_of (rWorstOf_c r n A1 c1 _ (rule n) _ _ S1.out.up N1.out.wide.up HV.out (rule_ok HV.out) HL.out)) | (go_at_call 83; exact Calls.lat_of (rLeastOf_c r n HV.out _ _ N1.out.up)))))
  refine wpQuiet_nil ?_
  rintro _ ⟨δq, rfl⟩
  go_wp2_with (fail)
  go_ret2
  rw [HE.out]
  exact ⟨rfl, lat_ex⟩

end Go.Proofs.Ytbfehifidlojlaa
