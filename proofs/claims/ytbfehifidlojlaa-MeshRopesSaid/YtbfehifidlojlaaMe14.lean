/- Layer 4: the order that is made hole by hole, as the program makes it. -/
import Derived.Test.YtbfehifidlojlaaMe13
namespace Go.Proofs.Ytbfehifidlojlaa
open Go.RowKit
open Me

theorem isNaN_c (x : Int) (w : World) : Calls Try.prog 106 #[.int .i64 x] w fun e w' => e = .returned (.bool false) ∧ w = w' := by
  have h : (x != x) = false := by simp
  go_enter Try.func106, Try.ntmps106
  go_wp2_with (fail)
  go_ret
  exact ⟨ret_bool (by simp), rfl⟩
def cmpI (a b : Int) : Int := if a < b then -1 else if b < a then 1 else 0
theorem compare_c (a b v : Int) (hv : cmpI a b = v) (w : World) : Calls Try.prog 99 #[.int .i64 a, .int .i64 b] w fun e w' => e = .returned (.int .i64 v) ∧ w = w' := by
  subst hv
  by_cases h1 : a < b
  · have HV := Lib.hid (show cmpI a b = -1 by unfold cmpI; rw [if_pos h1])
    go_enter Try.func99, Try.ntmps99
    go_wp2_with (go_at_call 106; refine (isNaN_c _ _).mono ?_; rintro e w1 ⟨rfl, rfl⟩)
    go_ret
    exact ⟨ret_int (by rw [HV.out]), rfl⟩
  · by_cases h2 : b < a
    · have HV := Lib.hid (show cmpI a b = 1 by unfold cmpI; rw [if_neg h1, if_pos h2])
      go_enter Try.func99, Try.ntmps99
      go_wp2_with (go_at_call 106; refine (isNaN_c _ _).mono ?_; rintro e w1 ⟨rfl, rfl⟩)
      go_ret
      exact ⟨ret_int (by rw [HV.out]), rfl⟩
    · have HV := Lib.hid (show cmpI a b = 0 by unfold cmpI; rw [if_neg h1, if_neg h2])
      go_enter Try.func99, Try.ntmps99
      go_wp2_with (go_at_call 106; refine (isNaN_c _ _).mono ?_; rintro e w1 ⟨rfl, rfl⟩)
      go_ret
      exact ⟨ret_int (by rw [HV.out]), rfl⟩

theorem grew_tr {B : Nat} {w W wr : World} (h : Grew B w W) (h2 : Grew W.heap.size W wr) [hB : Le B W] : Grew B w wr :=
  ⟨⟨h2.out.1.trans h.out.1, h2.out.2.1.trans h.out.2.1, h2.out.2.2.1.trans h.out.2.2.1, fun b hb => (h2.out.2.2.2 b (Nat.lt_of_lt_of_le hb hB.out)).trans (h.out.2.2.2 b hb)⟩⟩
theorem mul180 {a b : Int} (h0 : 0 ≤ a) (h1 : a ≤ 20) (h2 : 0 ≤ b) (h3 : b ≤ 9) : 0 ≤ a * b ∧ a * b ≤ 180 := by
  have e1 := Int.mul_nonneg h0 h2
  have e2 := Int.mul_le_mul_of_nonneg_left h3 h0
  omega

set_option maxRecDepth 100000 in
set_option maxHeartbeats 8000000 in
theorem rule_c (r : NetR) (n : Net) (hv : valid n = true) (B : Nat) (w : World) (hN : NetIs B w r n) [hB : Le B w] :
    Calls Try.prog 81 #[netV r n] w fun e w' => ∃ (A : Option Addr) (c : Nat) (δ : World), e = .returned (.slice A n.hs.length c) ∧ w' = lat w δ ∧ Hid (Sl encI (lat w δ).heap.size (lat w δ) A c (rule n)) := by
  have HN := Lib.hid hN
  have HV := Lib.hid hv
  have h6 := (ok_of hv).2.1
  clear hN hv
  go_enter Try.func81, Try.ntmps81
  go_upto_region 2 with fail
  refine wp_name fun W1 hW1 => ?_
  have iw1 : Le B W1 := by rw [hW1.out]; infer_instance
  have iw2 : Grew B w W1 := by rw [hW1.out]; infer_instance
  have iw3 : Le w.heap.size W1 := by rw [hW1.out]; infer_instance
  have iw4 : Grew w.heap.size w W1 := by rw [hW1.out]; infer_instance
  have iw5 : Lt (w.heap.size) W1 := by rw [hW1.out]; infer_instance
  have cw6 : W1.cell? ⟨w.heap.size, 0, none⟩ = some (.int .i64 n.m) := by rw [hW1.out]; go_simp
  have cw7 : W1.cell? ⟨w.heap.size, 1, none⟩ = some (.slice r.hA n.hs.length r.hc) := by rw [hW1.out]; go_simp
  have cw8 : W1.cell? ⟨w.heap.size, 2, none⟩ = some (.slice r.pA n.ps.length r.pc) := by rw [hW1.out]; go_simp
  clear hW1
  go_wp2_with (fail)
  go_loopg [3, 11] n.hs.length (fun g s3 i wr => ∃ (k c' : Nat) (A' : Option Addr), k ≤ n.hs.length ∧ g = n.hs.length - k ∧ i = .int .i64 k ∧ s3 = .slice A' k c' ∧ wr.ownsRow W1.heap.size 3 1 (.slice A' k c') k ((ruleK n k).flatMap encI) ∧ Grew W1.heap.size W1 wr ∧ Le W1.heap.size wr)
  case atStart => exact ⟨0, 0, none, Nat.zero_le _, rfl, rfl, rfl, World.ownsRow_nil _ _ _ _, inferInstance, inferInstance⟩
  case round =>
    obtain ⟨k, c', A', hk, rfl, rfl, rfl, hown, g1, g2⟩ := hrel
    have hlr := (ruleK_spec (ok_of HV.out).2.2.2.1 (bestO_ord (valid_iff.1 HV.out).2.2.2.2.2) k hk).1
    have HO := Lib.hid hown
    have HLR := Lib.hid hlr
    clear hown hlr
    by_cases hlt : k < n.hs.length
    · have i5 : Grew B w wr := grew_tr (W := W1) inferInstance g1
      have i6 : Le B wr := ⟨Nat.le_trans (inferInstance : Le B W1).out g2.out⟩
      have hlt1 := (inferInstance : Lt w.heap.size W1).out
      have hcs := fun o => cells_same g1.out w.heap.size o hlt1
      have c1 : wr.cell? ⟨w.heap.size, 0, none⟩ = some (.int .i64 n.m) := (hcs 0).trans (by assumption)
      have c2 : wr.cell? ⟨w.heap.size, 1, none⟩ = some (.slice r.hA n.hs.length r.hc) := (hcs 1).trans (by assumption)
      have c3 : wr.cell? ⟨w.heap.size, 2, none⟩ = some (.slice r.pA n.ps.length r.pc) := (hcs 2).trans (by assumption)
      have i7 : Lt w.heap.size wr := ⟨Nat.lt_of_lt_of_le hlt1 g2.out⟩
      have HSR : Hid (Sl encI wr.heap.size wr A' c' (ruleK n k)) := by
        have e := HLR.out
        have h2 : wr.ownsRow W1.heap.size 3 1 (.slice A' (ruleK n k).length c') (ruleK n k).length ((ruleK n k).flatMap encI) := by rw [e]; exact HO.out
        exact Sl.of_own h2
      have HNW : Hid (NetIs wr.heap.size wr r n) := HN.out.wide
      have HLT := Lib.hid hlt
      have hkl : (k : Int) < (n.hs.length : Int) := by omega
      clear hcs hlt hk
      go_wp2_with (fail)
      go_loopg [4, 17] n.hs.length (fun g s4 i wr' => ∃ (j : Nat) (δ : World), j ≤ n.hs.length ∧ g = n.hs.length - j ∧ i = .int .i64 j ∧ s4 = .int .i64 (nextK n (ruleK n k) j) ∧ wr' = lat wr δ)
      case atStart => exact ⟨0, wr, Nat.zero_le _, rfl, rfl, rfl, (lat_refl wr).symm⟩
      case round =>
        obtain ⟨j, δ, hj, rfl, rfl, rfl, rfl⟩ := hrel
        by_cases hlt : j < n.hs.length
        · obtain ⟨bh, oh, hAh, hbh, d0, d1, d2, d3⟩ := HNW.out.1.hole hlt
          have ibh : Lt bh wr := ⟨hbh⟩
          obtain ⟨rhA, rhc, rpA, rpc⟩ := r
          have hAh : rhA = some ⟨bh, oh, none⟩ := hAh
          subst hAh
          have hji : (j : Int) < (n.hs.length : Int) := by omega
          have hj0 : ¬ (j : Int) < 0 := by omega
          have hsp := nextK_spec (ok_of HV.out).2.2.2.1 (ruleK n k) j hj
          have HSP := Lib.hid hsp
          have HJ := Lib.hid hlt
          clear hsp hlt hj
          by_cases h1 : isIn (ruleK n k) (j : Int) = true
          · have HM := Lib.hid (show nextK n (ruleK n k) (j + 1) = nextK n (ruleK n k) j by rw [nextK, if_neg (by unfold may; rw [h1]; simp)])
            have HI := Lib.hid h1
            clear h1
            go_wp2_with (first | (go_at_call 97; refine (contains_c _ _ _ (ruleK n k) _ _ HI.out wr.heap.size _ HSR.out.up HLR.out).mono ?_; rintro e w1 ⟨rfl, rfl⟩))
            go_roundg (n.hs.length - (j + 1))
            case measure => have := HJ.out; omega
            case rel => exact ⟨j + 1, _, HJ.out, rfl, by go_num, by rw [HM.out], lat_def⟩
          · rw [Bool.not_eq_true] at h1
            have HI := Lib.hid h1
            by_cases h2 : rdy n.ps (ruleK n k) (j : Int) = true
            · have HM := Lib.hid (show may n (ruleK n k) (j : Int) = true by unfold may; rw [h1, h2]; rfl)
              have HR := Lib.hid h2
              clear h1 h2
              obtain ⟨bb, hbb⟩ : ∃ bb, nextK n (ruleK n k) j = bb := ⟨_, rfl⟩
              rw [hbb]
              rcases HSP.out with ⟨hm1, _⟩ | ⟨hp1, hp2, hp3, _⟩
              · have hm1 : bb = -1 := by rw [← hbb]; exact hm1
                subst hm1
                have HE := Lib.hid (show nextK n (ruleK n k) (j + 1) = j by rw [nextK, if_pos HM.out, hbb, if_pos (.inl (by omega))])
                clear hbb
                go_wp2_with (first | (go_at_call 97; refine (contains_c _ _ _ (ruleK n k) _ _ HI.out wr.heap.size _ HSR.out.up HLR.out).mono ?_; rintro e w1 ⟨rfl, rfl⟩) | (go_at_call 98; refine (ready_c ⟨some ⟨bh, oh, none⟩, rhc, rpA, rpc⟩ n _ _ _ _ (ruleK n k) _ HR.out wr.heap.size _ HSR.out.up HNW.out.up HLR.out).mono ?_; rintro e w1 ⟨rfl, δ2, rfl⟩))
                refine wp_region_lat (by kernel_rfl) (by kernel_rfl) ?_
                repeat (go_big_quiet_step ((first | (fail))))
                refine wpQuiet_nil ?_
                rintro _ ⟨δq, rfl⟩
                go_wp2_with (fail)
                go_roundg (n.hs.length - (j + 1))
                case measure => have := HJ.out; omega
                case rel => exact ⟨j + 1, _, HJ.out, rfl, by go_num, by rw [HE.out], lat_def⟩
              · rw [hbb] at hp1 hp2 hp3
                obtain ⟨bn, hbn⟩ : ∃ bn : Nat, bb = bn := ⟨bb.toNat, by omega⟩
                subst hbn
                have hbl : bn < n.hs.length := by have := HJ.out; omega
                obtain ⟨b2, o2, hA2, hb2, e0, e1, e2, e3⟩ := HNW.out.1.hole hbl
                obtain ⟨rfl, rfl⟩ : bh = b2 ∧ oh = o2 := by simpa using hA2
                have hh := okHole_iff.1 (okHoles_at (ok_of HV.out).2.2.2.1 HJ.out)
                have hg := okHole_iff.1 (okHoles_at (ok_of HV.out).2.2.2.1 hbl)
                have hE0 : nextK n (ruleK n k) (j + 1) = if (bn : Int) < 0 ∨ (nth n.hs j).hi * (nth n.hs bn).hr > (nth n.hs bn).hi * (nth n.hs j).hr then (j : Int) else (bn : Int) := by
                  rw [nextK, if_pos HM.out, hbb]; simp only [Int.toNat_natCast]
                obtain ⟨p, hp⟩ : ∃ p, (nth n.hs j).hi = p := ⟨_, rfl⟩
                obtain ⟨q, hq⟩ : ∃ p, (nth n.hs j).hr = p := ⟨_, rfl⟩
                obtain ⟨u, hu⟩ : ∃ p, (nth n.hs bn).hi = p := ⟨_, rfl⟩
                obtain ⟨v, hv⟩ : ∃ p, (nth n.hs bn).hr = p := ⟨_, rfl⟩
                rw [hp, hq] at hh
                rw [hu, hv] at hg
                rw [hp, hq, hu, hv] at hE0
                rw [hp] at d2
                rw [hq] at d3
                rw [hu] at e2
                rw [hv] at e3
                obtain ⟨m1, m2⟩ := mul180 (a := p) (b := v) (by omega) (by omega) (by omega) (by omega)
                obtain ⟨m3, m4⟩ := mul180 (a := u) (b := q) (by omega) (by omega) (by omega) (by omega)
                have hbi : (bn : Int) < (n.hs.length : Int) := by omega
                have hb0 : ¬ (bn : Int) < 0 := by omega
                have hbd : decide ((bn : Int) < 0) = false := by simp
                have w1 : IntKind.i64.wrap (p * v) = p * v := IntWalk.i64_in _ (by omega)
                have w2 : IntKind.i64.wrap (u * q) = u * q := IntWalk.i64_in _ (by omega)
                rcases Int.lt_trichotomy (p * v) (u * q) with hc | hc | hc
                · have HCV := Lib.hid (show cmpI (p * v) (u * q) = -1 by unfold cmpI; rw [if_pos hc])
                  have HE := Lib.hid (show nextK n (ruleK n k) (j + 1) = bn by rw [hE0, if_neg (by omega)])
                  clear hE0 hh hg hp hq hu hv hbb hp1 hp2 hp3 e0 e1 hc m1 m2 m3 m4 hb2 hbh hA2
                  go_wp2_with (first | (go_at_call 97; refine (contains_c _ _ _ (ruleK n k) _ _ HI.out wr.heap.size _ HSR.out.up HLR.out).mono ?_; rintro e w1 ⟨rfl, rfl⟩) | (go_at_call 98; refine (ready_c ⟨some ⟨bh, oh, none⟩, rhc, rpA, rpc⟩ n _ _ _ _ (ruleK n k) _ HR.out wr.heap.size _ HSR.out.up HNW.out.up HLR.out).mono ?_; rintro e w1 ⟨rfl, δ2, rfl⟩))
                  refine wp_region_lat (by kernel_rfl) (by kernel_rfl) ?_
                  repeat (go_big_quiet_step ((first | (go_at_call 99; exact Calls.lat_same (compare_c _ _ _ HCV.out _)))))
                  refine wpQuiet_nil ?_
                  rintro _ ⟨δq, rfl⟩
                  go_wp2_with (fail)
                  go_roundg (n.hs.length - (j + 1))
                  case measure => have := HJ.out; omega
                  case rel => exact ⟨j + 1, _, HJ.out, rfl, by go_num, by rw [HE.out], lat_def⟩
                · have HCV := Lib.hid (show cmpI (p * v) (u * q) = 0 by unfold cmpI; rw [if_neg (by omega), if_neg (by omega)])
                  have HE := Lib.hid (show nextK n (ruleK n k) (j + 1) = bn by rw [hE0, if_neg (by omega)])
                  clear hE0 hh hg hp hq hu hv hbb hp1 hp2 hp3 e0 e1 hc m1 m2 m3 m4 hb2 hbh hA2
                  go_wp2_with (first | (go_at_call 97; refine (contains_c _ _ _ (ruleK n k) _ _ HI.out wr.heap.size _ HSR.out.up HLR.out).mono ?_; rintro e w1 ⟨rfl, rfl⟩) | (go_at_call 98; refine (ready_c ⟨some ⟨bh, oh, none⟩, rhc, rpA, rpc⟩ n _ _ _ _ (ruleK n k) _ HR.out wr.heap.size _ HSR.out.up HNW.out.up HLR.out).mono ?_; rintro e w1 ⟨rfl, δ2, rfl⟩))
                  refine wp_region_lat (by kernel_rfl) (by kernel_rfl) ?_
                  repeat (go_big_quiet_step ((first | (go_at_call 99; exact Calls.lat_same (compare_c _ _ _ HCV.out _)))))
                  refine wpQuiet_nil ?_
                  rintro _ ⟨δq, rfl⟩
                  go_wp2_with (fail)
                  go_roundg (n.hs.length - (j + 1))
                  case measure => have := HJ.out; omega
                  case rel => exact ⟨j + 1, _, HJ.out, rfl, by go_num, by rw [HE.out], lat_def⟩
                · have HCV := Lib.hid (show cmpI (p * v) (u * q) = 1 by unfold cmpI; rw [if_neg (by omega), if_pos hc])
                  have HE := Lib.hid (show nextK n (ruleK n k) (j + 1) = j by rw [hE0, if_pos (.inr hc)])
                  clear hE0 hh hg hp hq hu hv hbb hp1 hp2 hp3 e0 e1 hc m1 m2 m3 m4 hb2 hbh hA2
                  go_wp2_with (first | (go_at_call 97; refine (contains_c _ _ _ (ruleK n k) _ _ HI.out wr.heap.size _ HSR.out.up HLR.out).mono ?_; rintro e w1 ⟨rfl, rfl⟩) | (go_at_call 98; refine (ready_c ⟨some ⟨bh, oh, none⟩, rhc, rpA, rpc⟩ n _ _ _ _ (ruleK n k) _ HR.out wr.heap.size _ HSR.out.up HNW.out.up HLR.out).mono ?_; rintro e w1 ⟨rfl, δ2, rfl⟩))
                  refine wp_region_lat (by kernel_rfl) (by kernel_rfl) ?_
                  repeat (go_big_quiet_step ((first | (go_at_call 99; exact Calls.lat_same (compare_c _ _ _ HCV.out _)))))
                  refine wpQuiet_nil ?_
                  rintro _ ⟨δq, rfl⟩
                  go_wp2_with (fail)
                  go_roundg (n.hs.length - (j + 1))
                  case measure => have := HJ.out; omega
                  case rel => exact ⟨j + 1, _, HJ.out, rfl, by go_num, by rw [HE.out], lat_def⟩
            · rw [Bool.not_eq_true] at h2
              have HM := Lib.hid (show nextK n (ruleK n k) (j + 1) = nextK n (ruleK n k) j by rw [nextK, if_neg (by unfold may; rw [h2]; simp)])
              have HR := Lib.hid h2
              clear h1 h2
              go_wp2_with (first | (go_at_call 97; refine (contains_c _ _ _ (ruleK n k) _ _ HI.out wr.heap.size _ HSR.out.up HLR.out).mono ?_; rintro e w1 ⟨rfl, rfl⟩) | (go_at_call 98; refine (ready_c ⟨some ⟨bh, oh, none⟩, rhc, rpA, rpc⟩ n _ _ _ _ (ruleK n k) _ HR.out wr.heap.size _ HSR.out.up HNW.out.up HLR.out).mono ?_; rintro e w1 ⟨rfl, δ2, rfl⟩))
              go_roundg (n.hs.length - (j + 1))
              case measure => have := HJ.out; omega
              case rel => exact ⟨j + 1, _, HJ.out, rfl, by go_num, by rw [HM.out], lat_def⟩
        · obtain rfl : j = n.hs.length := by omega
          have hk6 : k ≤ 6 := by have := HLT.out; omega
          go_wp2_with (at_builtin; (refine wpList_append_new W1 slI (.tmp 62) (.tmp 64) rfl rfl (owns_lat _ HO.out) rfl rfl (by go_simp) rfl (by simp [Value.oneCell']) (by omega) (by omega) ?_); intro A2 c2 δ2 hown2)
          go_roundg (n.hs.length - (k + 1))
          case measure => have := HLT.out; omega
          case rel =>
            refine ⟨k + 1, c2, A2, HLT.out, rfl, by go_num, rfl, ?_, inferInstance, inferInstance⟩
            rw [ruleK, List.flatMap_append]
            exact hown2
    · obtain rfl : k = n.hs.length := by omega
      have hS : Sl encI wr.heap.size wr A' c' (rule n) := by
        have := HO.out
        have e := HLR.out
        have h2 : wr.ownsRow W1.heap.size 3 1 (.slice A' (ruleK n n.hs.length).length c') (ruleK n n.hs.length).length ((ruleK n n.hs.length).flatMap encI) := by rw [e]; exact this
        exact Sl.of_own h2
      have HS := Lib.hid hS
      clear hS
      go_wp2_with (fail)
      go_ret
      have i8 : Grew w.heap.size w wr := grew_tr (W := W1) inferInstance g1
      have i9 : Le w.heap.size wr := ⟨Nat.le_trans (inferInstance : Le w.heap.size W1).out g2.out⟩
      exact ⟨A', c', wr, rfl, lat_def, sl_def HS.out⟩

theorem ruleP_yes (r : NetR) (n : Net) (hv : valid n = true) (B : Nat) (w : World) (hN : NetIs B w r n) [hB : Le B w] :
    Calls Try.prog 40 #[netV r n] w fun e w' => ∃ (A : Option Addr) (c : Nat) (δ : World), e = .returned (.tuple #[.slice A n.hs.length c, .int .i64 0]) ∧ w' = lat w δ ∧ Hid (Sl encI (lat w δ).heap.size (lat w δ) A c (rule n)) := by
  have HN := Lib.hid hN
  have HV := Lib.hid hv
  clear hN hv
  go_enter Try.func40, Try.ntmps40
  go_wp2_with (first
    | (go_at_call 32; refine (check_yes r n HV.out B _ HN.out.up).mono ?_; rintro e w1 ⟨rfl, δ, rfl⟩)
    | (go_at_call 81; refine (rule_c r n HV.out B _ HN.out.up).mono ?_; rintro e w1 ⟨A, c, δ2, rfl, rfl, hS⟩))
  go_ret2
  exact ⟨A, c, _, rfl, lat_def, sl_def hS.out.wide⟩
theorem ruleP_no (r : NetR) (n : Net) (hv : valid n = false) (B : Nat) (w : World) (hN : NetIs B w r n) [hB : Le B w] :
    Calls Try.prog 40 #[netV r n] w fun e w' => e = .returned (.tuple #[.slice none 0 0, .int .i64 40]) ∧ ∃ δ, w' = lat w δ := by
  have HN := Lib.hid hN
  have HV := Lib.hid hv
  clear hN hv
  go_enter Try.func40, Try.ntmps40
  go_wp2_with (go_at_call 32; refine (check_no r n HV.out B _ HN.out.up).mono ?_; rintro e w1 ⟨rfl, δ, rfl⟩)
  go_ret2
  exact ⟨rfl, lat_ex⟩
theorem worst_bd {n : Net} (hv : valid n = true) {l : List Int} (hl : isOrd n l = true) : -10000 ≤ worst n l ∧ worst n l ≤ 10000 := loss_bd hv hl (highs_le (ok_of hv).2.2.2.1).1 _ (Nat.le_refl _)
theorem leastN_bd {n : Net} (hv : valid n = true) : -10000 ≤ leastN n ∧ leastN n ≤ 10000 := worst_bd hv (bestO_ord (valid_iff.1 hv).2.2.2.2.2)
theorem rule_ok {n : Net} (hv : valid n = true) : isOrd n (rule n) = true := rule_ord (ok_of hv).2.2.2.1 (valid_iff.1 hv).2.2.2.2.2

theorem overP_no (r : NetR) (n : Net) (hv : valid n = false) (B : Nat) (w : World) (hN : NetIs B w r n) [hB : Le B w] :
    Calls Try.prog 42 #[netV r n] w fun e w' => e = .returned (.tuple #[.int .i64 0, .int .i64 40]) ∧ ∃ δ, w' = lat w δ := by
  have HN := Lib.hid hN
  have HV := Lib.hid hv
  clear hN hv
  go_enter Try.func42, Try.ntmps42
  go_wp2_with (go_at_call 48; refine (leastP_no r n HV.out B _ HN.out.up).mono ?_; rintro e w1 ⟨rfl, δ, rfl⟩)
  go_ret2
  exact ⟨rfl, lat_ex⟩
set_option maxRecDepth 100000 in
theorem overP_yes (r : NetR) (n : Net) (hv : valid n = true) (B : Nat) (w : World) (hN : NetIs B w r n) [hB : Le B w] :
    Calls Try.prog 42 #[netV r n] w fun e w' => e = .returned (.tuple #[.int .i64 (overN n), .int .i64 0]) ∧ ∃ δ, w' = lat w δ := by
  have HN := Lib.hid hN
  have HV := Lib.hid hv
  obtain ⟨b1, b2⟩ := worst_bd hv (rule_ok hv)
  obtain ⟨b3, b4⟩ := leastN_bd hv
  have hsub : IntKind.i64.wrap (worst n (rule n) - leastN n) = worst n (rule n) - leastN n := IntWalk.i64_in _ (by omega)
  clear hN hv
  go_enter Try.func42, Try.ntmps42
  go_wp2_with (go_at_call 48; refine (leastP_yes r n HV.out B _ HN.out.up).mono ?_; rintro e w1 ⟨rfl, δ, hw⟩; have bq : Box w1 w.heap.size 25 #[.int .i64 n.m, .slice r.hA n.hs.length r.hc, .slice r.pA n.ps.length r.pc] := (by rw [hw]; exact (Box.new rfl).lat _); have e0 := bq.cell (i := 0) rfl; have e1 := bq.cell (i := 1) rfl; have e2 := bq.cell (i := 2) rfl; have ilt := bq.lt; have g1 : Grew B w w1 := (by rw [hw]; infer_instance); have g2 : Le B w1 := (by rw [hw]; infer_instance); have g3 : Grew w.heap.size w w1 := (by rw [hw]; infer_instance); have g4 : Le w.heap.size w1 := (by rw [hw]; infer_instance); clear hw bq)
  go_region_held3 (fun W => W.cell? ⟨w1.heap.size, 0, none⟩ = some (.int .i64 n.m) ∧ W.cell? ⟨w1.heap.size, 1, none⟩ = some (.slice r.hA n.hs.length r.hc) ∧ W.cell? ⟨w1.heap.size, 2, none⟩ = some (.slice r.pA n.ps.length r.pc))
    (refine ⟨?_, ?_, ?_⟩ <;> go_simp)
    (first
      | (go_at_call 81; refine (rule_c r n HV.out B _ HN.out.up).mono ?_; rintro e w2 ⟨A, c, δ2, rfl, rfl, hS⟩)
      | (go_at_call 82; refine (high_c r n A c _ (rule n) _ _ hS.out.up (HN.out.wide) HV.out (rule_ok HV.out) (ord_len (rule_ok HV.out))).mono ?_; rintro e w3 ⟨rfl, δ3, rfl⟩))
  all_goals
    go_wp2_with (fail)
    go_ret2
    exact ⟨by unfold overN; rfl, lat_ex⟩

end Go.Proofs.Ytbfehifidlojlaa
