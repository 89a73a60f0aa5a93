/- Layer 4: the reference's highs and lows, LossOf, WorstOf, DoneBy. -/
import Derived.Test.YtbfehifidlojlaaMe20
import Derived.Test.YtbfehifidlojlaaMe23
namespace Go.Proofs.Ytbfehifidlojlaa
open Go.RowKit
open Me

set_option maxRecDepth 100000 in
set_option maxHeartbeats 4000000 in
theorem rHighs_c (r : NetR) (n : Net) (B : Nat) (w : World) [hB : Le B w] (hN : NetIs B w r n) (h6 : n.hs.length ≤ 1000) :
    Calls Try.prog 69 #[netV r n] w fun e w' => ∃ (A' : Option Addr) (c' : Nat) (δ : World), e = .returned (.slice A' n.hs.length c') ∧ w' = lat w δ ∧ Hid (Sl encI (lat w δ).heap.size (lat w δ) A' c' (highs n)) := by
  have HN := Lib.hid hN
  clear hN
  go_enter Try.func69, Try.ntmps69
  go_wp2_with (fail)
  refine wp_name fun W1 hW1 => ?_
  have iw1 : Le B W1 := by rw [hW1.out]; infer_instance
  have iw2 : Grew B w W1 := by rw [hW1.out]; infer_instance
  have iw3 : Le w.heap.size W1 := by rw [hW1.out]; infer_instance
  have iw4 : Grew w.heap.size w W1 := by rw [hW1.out]; infer_instance
  have iw5 : Lt (w.heap.size) W1 := by rw [hW1.out]; infer_instance
  have cw6 : W1.cell? ⟨w.heap.size, 0, none⟩ = some (.int .i64 n.m) := by rw [hW1.out]; go_simp
  have cw7 : W1.cell? ⟨w.heap.size, 1, none⟩ = some (.slice r.hA n.hs.length r.hc) := by rw [hW1.out]; go_simp
  have cw8 : W1.cell? ⟨w.heap.size, 2, none⟩ = some (.slice r.pA n.ps.length r.pc) := by rw [hW1.out]; go_simp
  have G1 := Lib.hid (HN.out.up : NetIs B W1 r n)
  clear hW1
  go_loopg [3, 4] n.hs.length (fun g s3 s4 wr => ∃ (k c' : Nat) (A' : Option Addr), k ≤ n.hs.length ∧ g = n.hs.length - k ∧ s4 = .int .i64 k ∧ s3 = .slice A' k c' ∧ wr.ownsRow W1.heap.size 3 1 (.slice A' k c') k (((highs n).take k).flatMap encI) ∧ Grew W1.heap.size W1 wr ∧ Le W1.heap.size wr)
  case atStart => exact ⟨0, 0, none, Nat.zero_le _, rfl, rfl, rfl, by simpa using World.ownsRow_nil _ _ _ _, inferInstance, inferInstance⟩
  case round =>
    obtain ⟨k, c', A', hk, rfl, rfl, rfl, hown, i1, i2⟩ := hrel
    have q1 := (cells_same i1.out w.heap.size 1 iw5.out).trans cw7
    have i3 : Lt w.heap.size wr := ⟨Nat.lt_of_lt_of_le iw5.out i2.out⟩
    have HO := Lib.hid hown
    clear hown
    by_cases hlt : k < n.hs.length
    · obtain ⟨b, o, hA, hb, d0, d1, d2, d3⟩ := G1.out.1.hole hlt
      obtain ⟨rhA, rhc, rpA, rpc⟩ := r
      have hA : rhA = some ⟨b, o, none⟩ := hA
      subst hA
      have hbw : b < W1.heap.size := Nat.lt_of_lt_of_le hb iw1.out
      have e1 := (cells_same i1.out b (o + k * 4 + 1) hbw).trans d1
      have e2 := (cells_same i1.out b (o + k * 4 + 2) hbw).trans d2
      have ib : Lt b wr := ⟨Nat.lt_of_lt_of_le hbw i2.out⟩
      have hki : (k : Int) < (n.hs.length : Int) := by omega
      have hk0 : ¬ (k : Int) < 0 := by omega
      have HT := Lib.hid (show (highs n).take (k + 1) = (highs n).take k ++ [(nth n.hs k).hi] by rw [take_snoc _ (by simp [highs]; exact hlt), nth_highs hlt])
      have HLT := Lib.hid hlt
      clear d0 d1 d2 d3 hlt
      go_wp2_with (at_builtin; (refine wpList_append_new W1 slI (.tmp 12) (.tmp 20) rfl rfl HO.out rfl rfl (by go_simp) rfl (by simp [Value.oneCell']) (by omega) (by omega) ?_); intro A2 c2 δ2 hown2)
      go_roundg (n.hs.length - (k + 1))
      case measure => have := HLT.out; omega
      case rel =>
        refine ⟨k + 1, c2, A2, HLT.out, rfl, by go_num, rfl, ?_, inferInstance, inferInstance⟩
        rw [HT.out, List.flatMap_append]
        simpa [encI] using hown2
    · obtain rfl : k = n.hs.length := by omega
      go_wp2_with (fail)
      go_ret
      have ho := HO.out
      rw [List.take_of_length_le (by simp [highs])] at ho
      have i8 : Grew w.heap.size w wr := grew_tr iw4 i1
      have i9 : Le w.heap.size wr := ⟨Nat.le_trans iw3.out i2.out⟩
      refine ⟨A', c', wr, rfl, lat_def, ?_⟩
      rw [← lat_def (w := w) (W := wr)]
      have hl : (highs n).length = n.hs.length := by simp [highs]
      rw [← hl] at ho
      exact Sl.of_own ho

set_option maxRecDepth 100000 in
set_option maxHeartbeats 4000000 in
theorem rLows_c (r : NetR) (n : Net) (B : Nat) (w : World) [hB : Le B w] (hN : NetIs B w r n) (h6 : n.hs.length ≤ 1000) :
    Calls Try.prog 80 #[netV r n] w fun e w' => ∃ (A' : Option Addr) (c' : Nat) (δ : World), e = .returned (.slice A' n.hs.length c') ∧ w' = lat w δ ∧ Hid (Sl encI (lat w δ).heap.size (lat w δ) A' c' (lows n)) := by
  have HN := Lib.hid hN
  clear hN
  go_enter Try.func80, Try.ntmps80
  go_wp2_with (fail)
  refine wp_name fun W1 hW1 => ?_
  have iw1 : Le B W1 := by rw [hW1.out]; infer_instance
  have iw2 : Grew B w W1 := by rw [hW1.out]; infer_instance
  have iw3 : Le w.heap.size W1 := by rw [hW1.out]; infer_instance
  have iw4 : Grew w.heap.size w W1 := by rw [hW1.out]; infer_instance
  have iw5 : Lt (w.heap.size) W1 := by rw [hW1.out]; infer_instance
  have cw6 : W1.cell? ⟨w.heap.size, 0, none⟩ = some (.int .i64 n.m) := by rw [hW1.out]; go_simp
  have cw7 : W1.cell? ⟨w.heap.size, 1, none⟩ = some (.slice r.hA n.hs.length r.hc) := by rw [hW1.out]; go_simp
  have cw8 : W1.cell? ⟨w.heap.size, 2, none⟩ = some (.slice r.pA n.ps.length r.pc) := by rw [hW1.out]; go_simp
  have G1 := Lib.hid (HN.out.up : NetIs B W1 r n)
  clear hW1
  go_loopg [3, 4] n.hs.length (fun g s3 s4 wr => ∃ (k c' : Nat) (A' : Option Addr), k ≤ n.hs.length ∧ g = n.hs.length - k ∧ s4 = .int .i64 k ∧ s3 = .slice A' k c' ∧ wr.ownsRow W1.heap.size 3 1 (.slice A' k c') k (((lows n).take k).flatMap encI) ∧ Grew W1.heap.size W1 wr ∧ Le W1.heap.size wr)
  case atStart => exact ⟨0, 0, none, Nat.zero_le _, rfl, rfl, rfl, by simpa using World.ownsRow_nil _ _ _ _, inferInstance, inferInstance⟩
  case round =>
    obtain ⟨k, c', A', hk, rfl, rfl, rfl, hown, i1, i2⟩ := hrel
    have q1 := (cells_same i1.out w.heap.size 1 iw5.out).trans cw7
    have i3 : Lt w.heap.size wr := ⟨Nat.lt_of_lt_of_le iw5.out i2.out⟩
    have HO := Lib.hid hown
    clear hown
    by_cases hlt : k < n.hs.length
    · obtain ⟨b, o, hA, hb, d0, d1, d2, d3⟩ := G1.out.1.hole hlt
      obtain ⟨rhA, rhc, rpA, rpc⟩ := r
      have hA : rhA = some ⟨b, o, none⟩ := hA
      subst hA
      have hbw : b < W1.heap.size := Nat.lt_of_lt_of_le hb iw1.out
      have e1 := (cells_same i1.out b (o + k * 4 + 1) hbw).trans d1
      have e2 := (cells_same i1.out b (o + k * 4 + 2) hbw).trans d2
      have ib : Lt b wr := ⟨Nat.lt_of_lt_of_le hbw i2.out⟩
      have hki : (k : Int) < (n.hs.length : Int) := by omega
      have hk0 : ¬ (k : Int) < 0 := by omega
      have HT := Lib.hid (show (lows n).take (k + 1) = (lows n).take k ++ [(nth n.hs k).lo] by rw [take_snoc _ (by simp [lows]; exact hlt), nth_lows hlt])
      have HLT := Lib.hid hlt
      clear d0 d1 d2 d3 hlt
      go_wp2_with (at_builtin; (refine wpList_append_new W1 slI (.tmp 12) (.tmp 20) rfl rfl HO.out rfl rfl (by go_simp) rfl (by simp [Value.oneCell']) (by omega) (by omega) ?_); intro A2 c2 δ2 hown2)
      go_roundg (n.hs.length - (k + 1))
      case measure => have := HLT.out; omega
      case rel =>
        refine ⟨k + 1, c2, A2, HLT.out, rfl, by go_num, rfl, ?_, inferInstance, inferInstance⟩
        rw [HT.out, List.flatMap_append]
        simpa [encI] using hown2
    · obtain rfl : k = n.hs.length := by omega
      go_wp2_with (fail)
      go_ret
      have ho := HO.out
      rw [List.take_of_length_le (by simp [lows])] at ho
      have i8 : Grew w.heap.size w wr := grew_tr iw4 i1
      have i9 : Le w.heap.size wr := ⟨Nat.le_trans iw3.out i2.out⟩
      refine ⟨A', c', wr, rfl, lat_def, ?_⟩
      rw [← lat_def (w := w) (W := wr)]
      have hl : (lows n).length = n.hs.length := by simp [lows]
      rw [← hl] at ho
      exact Sl.of_own ho

theorem rTimes_v (r : NetR) (n : Net) (A : Option Addr) (c ln : Nat) (l : List Int) (B : Nat) (w : World) [hB : Le B w] (hS : Sl encI B w A c l) (hN : NetIs B w r n) (hv : valid n = true) (hl : isOrd n l = true) (hln : l.length = ln) :
    Calls Try.prog 68 #[netV r n, .slice A ln c] w fun e w' => ∃ (A' : Option Addr) (c' : Nat) (δ : World), e = .returned (.slice A' n.hs.length c') ∧ w' = lat w δ ∧ Hid (Sl encI (lat w δ).heap.size (lat w δ) A' c' (times n l)) := by
  subst hln
  obtain ⟨a, b, c', d, e⟩ := ok_of hv
  have := rTimesOf_c r n A c l B w hS hN a b c' d e (ord_holes hl) (by rw [ord_len hl]; exact b)
  rwa [times_len] at this

set_option maxRecDepth 100000 in
set_option maxHeartbeats 4000000 in
theorem rLossOf_c (r : NetR) (n : Net) (A : Option Addr) (c ln : Nat) (l : List Int) (A2 : Option Addr) (c2 ln2 : Nat) (tr : List Int) (B : Nat) (w : World) [hB : Le B w] (hS : Sl encI B w A c l) (hT : Sl encI B w A2 c2 tr) (hN : NetIs B w r n) (hv : valid n = true) (hl : isOrd n l = true) (hln : l.length = ln) (htr : tr.length = n.hs.length) (hln2 : tr.length = ln2) (htb : allLe 20 tr) :
    Calls Try.prog 29 #[netV r n, .slice A ln c, .slice A2 ln2 c2] w fun e w' => e = .returned (.int .i64 (loss n l tr)) ∧ ∃ δ, w' = lat w δ := by
  have HS := Lib.hid hS
  have HT := Lib.hid hT
  have HN := Lib.hid hN
  have HV := Lib.hid hv
  have HO := Lib.hid hl
  have HTB := Lib.hid htb
  have h6 := (ok_of hv).2.1
  have hl2 : ln2 = n.hs.length := by omega
  subst hl2
  have HLN := Lib.hid hln
  have HTR := Lib.hid htr
  clear hS hN hT hv hl htb hln htr hln2
  go_enter Try.func29, Try.ntmps29
  go_wp2_with (go_at_call 68; refine (rTimes_v r n A c _ l B _ HS.out.up HN.out.up HV.out HO.out HLN.out).mono ?_; rintro e w1 ⟨A', c', δ, rfl, rfl, hT⟩)
  refine wp_name fun W1 hW1 => ?_
  have iw1 : Le B W1 := by rw [hW1.out]; infer_instance
  have iw2 : Grew B w W1 := by rw [hW1.out]; infer_instance
  have iw3 : Le w.heap.size W1 := by rw [hW1.out]; infer_instance
  have iw4 : Grew w.heap.size w W1 := by rw [hW1.out]; infer_instance
  have iw5 : Lt (w.heap.size) W1 := by rw [hW1.out]; infer_instance
  have cw6 : W1.cell? ⟨w.heap.size, 0, none⟩ = some (.int .i64 n.m) := by rw [hW1.out]; go_simp
  have cw7 : W1.cell? ⟨w.heap.size, 1, none⟩ = some (.slice r.hA n.hs.length r.hc) := by rw [hW1.out]; go_simp
  have cw8 : W1.cell? ⟨w.heap.size, 2, none⟩ = some (.slice r.pA n.ps.length r.pc) := by rw [hW1.out]; go_simp
  have T1 : Sl encI W1.heap.size W1 A' c' (times n l) := by rw [hW1.out]; exact hT.out
  have T2 : Sl encI B W1 A2 c2 tr := HT.out.up
  have N1 : NetIs B W1 r n := HN.out.up
  have HT1 := Lib.hid T1
  have HT2 := Lib.hid T2
  have HN1 := Lib.hid N1
  clear hW1 hT T1 T2 N1
  go_loopg [8, 9] n.hs.length (fun g s8 s9 wr => ∃ (k : Nat) (δ : World), k ≤ n.hs.length ∧ g = n.hs.length - k ∧ s9 = .int .i64 k ∧ s8 = .int .i64 (lossK n.hs (times n l) tr k) ∧ wr = lat W1 δ)
  case atStart => exact ⟨0, W1, Nat.zero_le _, rfl, rfl, rfl, (lat_refl W1).symm⟩
  case round =>
    obtain ⟨k, δ, hk, rfl, rfl, rfl, rfl⟩ := hrel
    by_cases hlt : k < n.hs.length
    · obtain ⟨b, o, rfl, hb, hc⟩ := HT1.out.int (k := k) (by rw [times_len]; exact hlt)
      have ib : Lt b W1 := ⟨hb⟩
      obtain ⟨b2, o2, rfl, hb2, hc2⟩ := HT2.out.int (k := k) (by rw [HTR.out]; exact hlt)
      have ib2 : Lt b2 W1 := ⟨Nat.lt_of_lt_of_le hb2 iw1.out⟩
      obtain ⟨bh, oh, hAh, hbh, d0, d1, d2, d3⟩ := HN1.out.1.hole hlt
      have ibh : Lt bh W1 := ⟨Nat.lt_of_lt_of_le hbh iw1.out⟩
      obtain ⟨rhA, rhc, rpA, rpc⟩ := r
      have hAh : rhA = some ⟨bh, oh, none⟩ := hAh
      subst hAh
      have hki : (k : Int) < (n.hs.length : Int) := by omega
      have hk0 : ¬ (k : Int) < 0 := by omega
      have ht := times_bd HV.out HO.out k
      have hh := okHole_iff.1 (okHoles_at (ok_of HV.out).2.2.2.1 hlt)
      have htk := HTB.out k
      have q1 : 0 ≤ nth (times n l) k := ht.1
      have q2 : nth (times n l) k ≤ 74 := ht.2
      have q3 : 0 ≤ (nth n.hs k).fr := hh.1
      have q4 : (nth n.hs k).fr ≤ 20 := hh.2.1
      obtain ⟨m1, m2⟩ := mulbd (a := nth tr k) (b := nth (times n l) k - (nth n.hs k).fr) htk.1 htk.2 (by omega) (by omega)
      obtain ⟨b3, b4⟩ := loss_bd HV.out HO.out HTB.out k hk
      have HE := Lib.hid (show lossK n.hs (times n l) tr (k + 1) = lossK n.hs (times n l) tr k + nth tr k * (nth (times n l) k - (nth n.hs k).fr) from rfl)
      have HLT := Lib.hid hlt
      clear hlt hk hb hb2 hbh ht hh htk d1 d2 d3
      go_wp2_with (fail)
      refine wp_region_lat (by kernel_rfl) (by kernel_rfl) ?_
      repeat (go_big_quiet_step ((first | (fail))))
      refine wpQuiet_nil ?_
      rintro _ ⟨δq, rfl⟩
      go_wp2_with (fail)
      go_roundg (n.hs.length - (k + 1))
      case measure => have := HLT.out; omega
      case rel => exact ⟨k + 1, _, HLT.out, rfl, by go_num, by rw [HE.out], lat_def⟩
    · obtain rfl : k = n.hs.length := by omega
      go_wp2_with (fail)
      go_ret
      exact ⟨rfl, lat_ex⟩

set_option maxRecDepth 100000 in
set_option maxHeartbeats 4000000 in
theorem rDoneBy_c (r : NetR) (n : Net) (A : Option Addr) (c ln : Nat) (l : List Int) (B : Nat) (w : World) [hB : Le B w] (hS : Sl encI B w A c l) (hN : NetIs B w r n) (hv : valid n = true) (hl : isOrd n l = true) (hln : l.length = ln) :
    Calls Try.prog 46 #[netV r n, .slice A ln c] w fun e w' => e = .returned (.int .i64 (lastOf n l)) ∧ ∃ δ, w' = lat w δ := by
  have HS := Lib.hid hS
  have HN := Lib.hid hN
  have HV := Lib.hid hv
  have HO := Lib.hid hl
  have h6 := (ok_of hv).2.1
  have HLN := Lib.hid hln
  clear hS hN hv hl hln
  go_enter Try.func46, Try.ntmps46
  go_wp2_with (go_at_call 68; refine (rTimes_v r n A c _ l B _ HS.out.up HN.out.up HV.out HO.out HLN.out).mono ?_; rintro e w1 ⟨A', c', δ, rfl, rfl, hT⟩)
  refine wp_name fun W1 hW1 => ?_
  have iw1 : Le B W1 := by rw [hW1.out]; infer_instance
  have iw2 : Grew B w W1 := by rw [hW1.out]; infer_instance
  have iw3 : Le w.heap.size W1 := by rw [hW1.out]; infer_instance
  have iw4 : Grew w.heap.size w W1 := by rw [hW1.out]; infer_instance
  have iw5 : Lt (w.heap.size) W1 := by rw [hW1.out]; infer_instance
  have T1 : Sl encI W1.heap.size W1 A' c' (times n l) := by rw [hW1.out]; exact hT.out
  have HT1 := Lib.hid T1
  clear hW1 hT T1
  go_loopg [6, 7] n.hs.length (fun g s8 s9 wr => ∃ (k : Nat) (δ : World), k ≤ n.hs.length ∧ g = n.hs.length - k ∧ s9 = .int .i64 k ∧ s8 = .int .i64 (maxK (times n l) k) ∧ wr = lat W1 δ)
  case atStart => exact ⟨0, W1, Nat.zero_le _, rfl, rfl, rfl, (lat_refl W1).symm⟩
  case round =>
    obtain ⟨k, δ, hk, rfl, rfl, rfl, rfl⟩ := hrel
    by_cases hlt : k < n.hs.length
    · obtain ⟨b, o, rfl, hb, hc⟩ := HT1.out.int (k := k) (by rw [times_len]; exact hlt)
      have ib : Lt b W1 := ⟨hb⟩
      have hki : (k : Int) < (n.hs.length : Int) := by omega
      have hk0 : ¬ (k : Int) < 0 := by omega
      have HLT := Lib.hid hlt
      clear hlt
      by_cases hmx : maxK (times n l) k < nth (times n l) k
      · have HE := Lib.hid (show maxK (times n l) (k + 1) = nth (times n l) k by rw [maxK]; omega)
        go_wp2_with (fail)
        go_roundg (n.hs.length - (k + 1))
        case measure => have := HLT.out; omega
        case rel => exact ⟨k + 1, _, HLT.out, rfl, by go_num, by rw [HE.out], lat_def⟩
      · have HE := Lib.hid (show maxK (times n l) (k + 1) = maxK (times n l) k by rw [maxK]; omega)
        go_wp2_with (fail)
        go_roundg (n.hs.length - (k + 1))
        case measure => have := HLT.out; omega
        case rel => exact ⟨k + 1, _, HLT.out, rfl, by go_num, by rw [HE.out], lat_def⟩
    · obtain rfl : k = n.hs.length := by omega
      go_wp2_with (fail)
      go_ret
      exact ⟨rfl, lat_ex⟩

set_option maxRecDepth 100000 in
set_option maxHeartbeats 4000000 in
theorem rWorstOf_c (r : NetR) (n : Net) (A : Option Addr) (c ln : Nat) (l : List Int) (B : Nat) (w : World) [hB : Le B w] (hS : Sl encI B w A c l) (hN : NetIs B w r n) (hv : valid n = true) (hl : isOrd n l = true) (hln : l.length = ln) :
    Calls Try.prog 30 #[netV r n, .slice A ln c] w fun e w' => e = .returned (.int .i64 (worst n l)) ∧ ∃ δ, w' = lat w δ := by
  have HS := Lib.hid hS
  have HN := Lib.hid hN
  have HV := Lib.hid hv
  have HO := Lib.hid hl
  have h6 := (ok_of hv).2.1
  have HLN := Lib.hid hln
  have HHI := Lib.hid (highs_le (ok_of hv).2.2.2.1).1
  clear hS hN hv hl hln
  go_enter Try.func30, Try.ntmps30
  go_wp2_with (fail)
  go_region_held3 (fun W => W.cell? ⟨w.heap.size, 0, none⟩ = some (.int .i64 n.m) ∧ W.cell? ⟨w.heap.size, 1, none⟩ = some (.slice r.hA n.hs.length r.hc) ∧ W.cell? ⟨w.heap.size, 2, none⟩ = some (.slice r.pA n.ps.length r.pc))
    (refine ⟨?_, ?_, ?_⟩ <;> go_simp)
    (first
      | (go_at_call 69; refine (rHighs_c r n B _ HN.out.up (by omega)).mono ?_; rintro e w1 ⟨A1, c1, δ1, rfl, rfl, hH⟩)
      | (go_at_call 29; refine (rLossOf_c r n A c _ l A1 c1 _ (highs n) _ _ HS.out.wide hH.out.wide HN.out.wide HV.out HO.out HLN.out (by simp [highs]) (by simp [highs]) HHI.out).mono ?_; rintro e w1 ⟨rfl, δ2, rfl⟩))
  all_goals
    go_wp2_with (fail)
    go_ret
    exact ⟨rfl, lat_ex⟩

end Go.Proofs.Ytbfehifidlojlaa
