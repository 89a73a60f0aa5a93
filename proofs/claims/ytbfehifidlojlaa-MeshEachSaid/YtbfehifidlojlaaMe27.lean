/- Layer 4: MeshEach. -/
import Derived.Test.YtbfehifidlojlaaMe24
namespace Go.Proofs.Ytbfehifidlojlaa
open Go.RowKit
open Me

theorem lReady5_c (r : NetR) (n : Net) (b : Bool) (hb : readyL n 5 = b) (B : Nat) (w : World) (hN : NetIs B w r n) [hB : Le B w] :
    Calls Try.prog 14 #[netV r n, .int .i64 5] w fun e w' => e = .returned (.bool b) ∧ ∃ δ, w' = lat w δ := lReady_c r n 5 (by omega) b hb B w hN
theorem rIsOrderE_c (r : NetR) (n : Net) (A : Option Addr) (c ln : Nat) (l : List Int) (b : Bool) (hb : isOrd n l = b) (B : Nat) (w : World) (hS : Sl encI B w A c l) (hN : NetIs B w r n) (hln : l.length = ln) [hB : Le B w] :
    Calls Try.prog 19 #[netV r n, .slice A ln c] w fun e w' => e = .returned (.bool b) ∧ ∃ δ, w' = lat w δ := by subst hln; exact rIsOrder_c r n A c l b hb B w hS hN

set_option maxRecDepth 100000 in
set_option maxHeartbeats 4000000 in
theorem eachNo_c (r : NetR) (n : Net) (A : Option Addr) (c : Nat) (l : List Int) (B : Nat) (w : World) [hB : Le B w] (hN : NetIs B w r n) (hS : Sl encI B w A c l) (hg : readyL n 5 = false ∨ (readyL n 5 = true ∧ 40 < l.length) ∨ (readyL n 5 = true ∧ l.length ≤ 40 ∧ isOrd n l = false)) :
    Calls Try.prog 9 #[netV r n, .slice A l.length c] w fun e w' => e = .returned (.bool true) ∧ ∃ δ, w' = lat w δ := by
  have z1 := hS.len
  have HN := Lib.hid hN
  have HS := Lib.hid hS
  clear hN hS
  rcases hg with hr | ⟨hr, h1⟩ | ⟨hr, h1, ho⟩
  · have HR := Lib.hid hr
    clear hr
    go_enter Try.func9, Try.ntmps9
    go_wp2_with (first
      | (go_at_call 14; refine (lReady5_c r n _ HR.out B _ HN.out.up).mono ?_; rintro e w1 ⟨rfl, δ, rfl⟩)
      | (go_at_call 16; refine (works_c _).mono ?_; rintro e w1 ⟨rfl, δ2, rfl⟩))
    go_ret
    exact ⟨rfl, lat_ex⟩
  · have HR := Lib.hid hr
    have d1 : decide ((40 : Int) < (l.length : Int)) = true := by simp; omega
    clear hr
    go_enter Try.func9, Try.ntmps9
    go_wp2_with (first
      | (go_at_call 14; refine (lReady5_c r n _ HR.out B _ HN.out.up).mono ?_; rintro e w1 ⟨rfl, δ, rfl⟩)
      | (go_at_call 16; refine (works_c _).mono ?_; rintro e w1 ⟨rfl, δ2, rfl⟩))
    go_ret
    exact ⟨rfl, lat_ex⟩
  · have HR := Lib.hid hr
    have HO := Lib.hid ho
    have d1 : decide ((40 : Int) < (l.length : Int)) = false := by simp; omega
    clear hr ho
    go_enter Try.func9, Try.ntmps9
    go_wp2_with (first
      | (go_at_call 14; refine (lReady5_c r n _ HR.out B _ HN.out.up).mono ?_; rintro e w1 ⟨rfl, δ, rfl⟩)
      | (go_at_call 19; refine (rIsOrder_c r n A c l _ HO.out B _ HS.out.up HN.out.up).mono ?_; rintro e w1 ⟨rfl, δ, rfl⟩)
      | (go_at_call 16; refine (works_c _).mono ?_; rintro e w1 ⟨rfl, δ2, rfl⟩))
    go_ret
    exact ⟨rfl, lat_ex⟩

set_option maxRecDepth 100000 in
set_option maxHeartbeats 8000000 in
theorem eachYes_c (r : NetR) (n : Net) (A : Option Addr) (c : Nat) (l : List Int) (B : Nat) (w : World) [hB : Le B w] (hN : NetIs B w r n) (hS : Sl encI B w A c l) (hr : readyL n 5 = true) (h1 : l.length ≤ 40) (ho : isOrd n l = true) :
    Calls Try.prog 9 #[netV r n, .slice A l.length c] w fun e w' => e = .returned (.bool true) ∧ ∃ δ, w' = lat w δ := by
  have z1 := hS.len
  have z4 := hN.1.len
  have hv := (readyL_iff.1 hr).2
  have HV := Lib.hid hv
  have HN := Lib.hid hN
  have HS := Lib.hid hS
  have HR := Lib.hid hr
  have HO := Lib.hid ho
  have A6 := Lib.hid (ok_of hv).2.1
  have HB := Lib.hid (bestO_ord (hasO_v hv))
  have HRU := Lib.hid (rule_ok hv)
  have d1 : decide ((40 : Int) < (l.length : Int)) = false := by simp; omega
  clear hN hS hr ho hv
  go_enter Try.func9, Try.ntmps9
  go_wp2_with (first
    | (go_at_call 14; refine (lReady5_c r n _ HR.out B _ HN.out.up).mono ?_; rintro e w1 ⟨rfl, δ, rfl⟩)
    | (go_at_call 19; refine (rIsOrder_c r n A c l _ HO.out B _ HS.out.up HN.out.up).mono ?_; rintro e w1 ⟨rfl, δ, rfl⟩)
    | (go_at_call 18; refine (both_c r n HV.out B _ HN.out.up).mono ?_; rintro e w1 ⟨rfl, δb, rfl⟩)
    | (go_at_call 45; refine (orderP_yes r n HV.out B _ HN.out.up).mono ?_; rintro e w1 ⟨A1, c1, δo, rfl, rfl, hS1⟩)
    | (go_at_call 40; refine (ruleP_yes r n HV.out B _ HN.out.up).mono ?_; rintro e w1 ⟨A2, c2, δr, rfl, rfl, hS2⟩)
    | (go_at_call 42; refine (overP_yes r n HV.out B _ HN.out.up).mono ?_; rintro e w1 ⟨rfl, δv, rfl⟩))
  refine wp_name fun W1 hW1 => ?_
  have iw1 : Le B W1 := by rw [hW1.out]; infer_instance
  have iw2 : Grew B w W1 := by rw [hW1.out]; infer_instance
  have iw3 : Le w.heap.size W1 := by rw [hW1.out]; infer_instance
  have iw4 : Grew w.heap.size w W1 := by rw [hW1.out]; infer_instance
  have iw5 : Lt (w.heap.size) W1 := by rw [hW1.out]; infer_instance
  have cw6 : W1.cell? ⟨w.heap.size, 0, none⟩ = some (.int .i64 n.m) := by rw [hW1.out]; go_simp
  have cw7 : W1.cell? ⟨w.heap.size, 1, none⟩ = some (.slice r.hA n.hs.length r.hc) := by rw [hW1.out]; go_simp
  have cw8 : W1.cell? ⟨w.heap.size, 2, none⟩ = some (.slice r.pA n.ps.length r.pc) := by rw [hW1.out]; go_simp
  have G1 := Lib.hid (HN.out.up : NetIs B W1 r n)
  have Q0 := Lib.hid (HS.out.up : Sl encI B W1 A c l)
  have Q1 : Hid (Sl encI W1.heap.size W1 A1 c1 (bestO n)) := by rw [hW1.out]; exact hS1.out.wide
  have Q2 : Hid (Sl encI W1.heap.size W1 A2 c2 (rule n)) := by rw [hW1.out]; exact hS2.out.wide
  clear hW1 hS1 hS2
  go_region_held3 (fun W => W.cell? ⟨w.heap.size, 0, none⟩ = some (.int .i64 n.m) ∧ W.cell? ⟨w.heap.size, 1, none⟩ = some (.slice r.hA n.hs.length r.hc) ∧ W.cell? ⟨w.heap.size, 2, none⟩ = some (.slice r.pA n.ps.length r.pc))
    (refine ⟨?_, ?_, ?_⟩ <;> go_simp)
    (first
      | (go_at_call 21; refine (copied_c A c _ l rfl (by omega) B _ Q0.out.up).mono ?_; rintro e w1 ⟨Ac, cc, δc, rfl, rfl, hSc⟩)
      | (go_at_call 36; refine (timesP_yes r n HV.out Ac cc l HO.out _ _ hSc.out.wide (G1.out.more iw1.out).wide).mono ?_; rintro e w1 ⟨At, ct, δt, rfl, rfl, hSt⟩))
  go_upto_region 8 with fail
  refine wp_name fun W2 hW2 => ?_
  have iw9 : Le B W2 := by rw [hW2.out]; infer_instance
  have iw10 : Grew B W1 W2 := by rw [hW2.out]; infer_instance
  have iw11 : Le W1.heap.size W2 := by rw [hW2.out]; infer_instance
  have iw12 : Grew W1.heap.size W1 W2 := by rw [hW2.out]; infer_instance
  have iw13 : Lt (w.heap.size) W2 := by rw [hW2.out]; infer_instance
  have cw14 : W2.cell? ⟨w.heap.size, 0, none⟩ = some (.int .i64 n.m) := by rw [hW2.out]; go_simp
  have cw15 : W2.cell? ⟨w.heap.size, 1, none⟩ = some (.slice r.hA n.hs.length r.hc) := by rw [hW2.out]; go_simp
  have cw16 : W2.cell? ⟨w.heap.size, 2, none⟩ = some (.slice r.pA n.ps.length r.pc) := by rw [hW2.out]; go_simp
  have N2 := Lib.hid (G1.out.up : NetIs B W2 r n)
  have N2w := Lib.hid (N2.out.wide : NetIs W2.heap.size W2 r n)
  have R0 := Lib.hid (Q0.out.up : Sl encI B W2 A c l)
  have R1 := Lib.hid (Q1.out.wide : Sl encI W2.heap.size W2 A1 c1 (bestO n))
  have R2 := Lib.hid (Q2.out.wide : Sl encI W2.heap.size W2 A2 c2 (rule n))
  have RT : Hid (Sl encI W2.heap.size W2 At ct (times n l)) := by rw [hW2.out]; exact hSt
  have j1 : Grew w.heap.size w W2 := grew_tr iw4 (inferInstance : Grew W1.heap.size W1 W2)
  have j2 : Le w.heap.size W2 := ⟨Nat.le_trans iw3.out (inferInstance : Le W1.heap.size W2).out⟩
  have HBL := Lib.hid (ord_len HB.out)
  have HRL := Lib.hid (ord_len HRU.out)
  obtain ⟨x0, x1⟩ := leastN_nn HV.out
  obtain ⟨x2, x3⟩ := worst_bd HV.out HRU.out
  have x4 := leastN_le HRU.out
  have x5 := leastN_le HO.out
  have x6 := doneN_le HO.out
  have eo : overN n = worst n (rule n) - leastN n := rfl
  have y1 : 0 ≤ overN n := by omega
  have y2 : overN n ≤ 20000 := by omega
  have c1' : decide (overN n < 0) = false := decide_eq_false (by omega)
  have c2' : decide (100000 < overN n) = false := decide_eq_false (by omega)
  have c3' : (worst n (bestO n) != leastN n) = false := by simp [leastN]
  have c4' : (worst n (rule n) != leastN n + overN n) = false := by rw [bne_eq_false_iff_eq]; omega
  have c5' : decide (worst n l < leastN n) = false := decide_eq_false (by omega)
  have c6' : decide (lastOf n l < doneN n) = false := decide_eq_false (by omega)
  clear hW2 hSt eo x2 x3 x4 x5 x6 Q0 Q1 Q2 G1
  go_wp2_with (fail)
  refine (rIsOrderE_c r n A1 c1 _ (bestO n) _ HB.out _ _ R1.out.up N2w.out.up HBL.out).mono ?_
  rintro e w1 ⟨rfl, δs0, rfl⟩
  go_wp2_with (fail)
  refine (rIsOrderE_c r n A2 c2 _ (rule n) _ HRU.out _ _ R2.out.up N2w.out.up HRL.out).mono ?_
  rintro e w1 ⟨rfl, δs1, rfl⟩
  go_wp2_with (fail)
  refine (rWorstOf_c r n A1 c1 _ (bestO n) _ _ R1.out.up N2w.out.up HV.out HB.out HBL.out).mono ?_
  rintro e w1 ⟨rfl, δs2, rfl⟩
  go_wp2_with (fail)
  refine (rWorstOf_c r n A2 c2 _ (rule n) _ _ R2.out.up N2w.out.up HV.out HRU.out HRL.out).mono ?_
  rintro e w1 ⟨rfl, δs3, rfl⟩
  go_wp2_with (fail)
  refine (rWorstOf_c r n A c _ l _ _ R0.out.up N2.out.up HV.out HO.out rfl).mono ?_
  rintro e w1 ⟨rfl, δs4, rfl⟩
  go_wp2_with (fail)
  refine (rDoneBy_c r n A c _ l _ _ R0.out.up N2.out.up HV.out HO.out rfl).mono ?_
  rintro e w1 ⟨rfl, δs5, rfl⟩
  go_wp2_with (fail)
  refine wp_name fun W3 hW3 => ?_
  have iw17 : Le B W3 := by rw [hW3.out]; infer_instance
  have iw18 : Grew B W2 W3 := by rw [hW3.out]; infer_instance
  have iw19 : Le W2.heap.size W3 := by rw [hW3.out]; infer_instance
  have iw20 : Grew W2.heap.size W2 W3 := by rw [hW3.out]; infer_instance
  have iw21 : Lt (w.heap.size) W3 := by rw [hW3.out]; infer_instance
  have cw22 : W3.cell? ⟨w.heap.size, 0, none⟩ = some (.int .i64 n.m) := by rw [hW3.out]; go_simp
  have cw23 : W3.cell? ⟨w.heap.size, 1, none⟩ = some (.slice r.hA n.hs.length r.hc) := by rw [hW3.out]; go_simp
  have cw24 : W3.cell? ⟨w.heap.size, 2, none⟩ = some (.slice r.pA n.ps.length r.pc) := by rw [hW3.out]; go_simp
  have N3 := Lib.hid (N2.out.up : NetIs B W3 r n)
  have R3 : Hid (Sl encI W2.heap.size W3 At ct (times n l)) := by have : Grew W2.heap.size W2 W3 := inferInstance; exact RT.out.up
  have j3 : Grew w.heap.size w W3 := grew_tr j1 (inferInstance : Grew W2.heap.size W2 W3)
  have j4 : Le w.heap.size W3 := ⟨Nat.le_trans j2.out (inferInstance : Le W2.heap.size W3).out⟩
  have j5 : Le W2.heap.size W3 := inferInstance
  clear hW3 c1' c2' c3' c4' c5' c6' RT R0 R1 R2
  go_loopg [16] n.hs.length (fun g s16 wr => ∃ (k : Nat) (δ : World), k ≤ n.hs.length ∧ g = n.hs.length - k ∧ s16 = .int .i64 k ∧ wr = lat W3 δ)
  case atStart => exact ⟨0, W3, Nat.zero_le _, rfl, rfl, (lat_refl W3).symm⟩
  case round =>
    obtain ⟨k, δ, hk, rfl, rfl, rfl⟩ := hrel
    by_cases hlt : k < n.hs.length
    · obtain ⟨b, o, hA, hb, hc0, hc1, hc2, hc3⟩ := N3.out.1.hole hlt
      obtain ⟨rhA, rhc, rpA, rpc⟩ := r
      have hA : rhA = some ⟨b, o, none⟩ := hA
      subst hA
      have ib : Lt b W3 := ⟨by have := hB.out; have := j4.out; omega⟩
      obtain ⟨b3, o3, rfl, hb3, hd⟩ := R3.out.int (k := k) (by rw [times_len]; exact hlt)
      have ib3 : Lt b3 W3 := ⟨Nat.lt_of_lt_of_le hb3 j5.out⟩
      have hki : (k : Int) < (n.hs.length : Int) := by omega
      have hk0 : ¬ (k : Int) < 0 := by omega
      have ht := times_bd HV.out HO.out k
      have hh := okHole_iff.1 (okHoles_at (ok_of HV.out).2.2.2.1 hlt)
      have hm := times_mended (ok_of HV.out).2.2.2.1 HO.out hlt
      have t1 : 0 ≤ (nth n.hs k).fr := hh.1
      have t2 : (nth n.hs k).fr ≤ 20 := hh.2.1
      have t3 : 1 ≤ (nth n.hs k).hr := by omega
      have t4 : (nth n.hs k).hr ≤ 9 := by omega
      have c1' : decide (100000 < nth (times n l) k) = false := decide_eq_false (by have := ht.2; omega)
      have c2' : decide (nth (times n l) k < (nth n.hs k).fr + (nth n.hs k).hr) = false := decide_eq_false (by omega)
      have HLT := Lib.hid hlt
      clear hlt ht hh hm hb hb3
      go_wp2_with (fail)
      refine wp_region_lat (by kernel_rfl) (by kernel_rfl) ?_
      repeat (go_big_quiet_step ((first | (fail))))
      refine wpQuiet_nil ?_
      rintro _ ⟨δq, rfl⟩
      go_wp2_with (fail)
      go_roundg (n.hs.length - (k + 1))
      case measure => have := HLT.out; omega
      case rel => exact ⟨k + 1, _, HLT.out, rfl, by go_num, lat_def⟩
    · obtain rfl : k = n.hs.length := by omega
      go_wp2_with (go_at_call 16; refine (works_c _).mono ?_; rintro e w1 ⟨rfl, δw, rfl⟩)
      go_ret
      exact ⟨rfl, lat_ex⟩

theorem lawEach_c (r : NetR) (n : Net) (A : Option Addr) (c : Nat) (l : List Int) (B : Nat) (w : World) [hB : Le B w] (hN : NetIs B w r n) (hS : Sl encI B w A c l) :
    Calls Try.prog 9 #[netV r n, .slice A l.length c] w fun e w' => e = .returned (.bool true) ∧ ∃ δ, w' = lat w δ := by
  cases hr : readyL n 5 with
  | false => exact eachNo_c r n A c l B w hN hS (.inl hr)
  | true =>
    by_cases h1 : l.length ≤ 40
    · cases ho : isOrd n l with
      | false => exact eachNo_c r n A c l B w hN hS (.inr (.inr ⟨hr, h1, ho⟩))
      | true => exact eachYes_c r n A c l B w hN hS hr h1 ho
    · exact eachNo_c r n A c l B w hN hS (.inr (.inl ⟨hr, by omega⟩))

end Go.Proofs.Ytbfehifidlojlaa
