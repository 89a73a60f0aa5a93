/- Layer 4: MeshRegret, behind its guards. -/
import Derived.Test.YtbfehifidlojlaaMe25
namespace Go.Proofs.Ytbfehifidlojlaa
open Go.RowKit
open Me

/-- Have the first k holes no fish that can go? -/
def zeroK (n : Net) (k : Nat) : Bool := (n.hs.take k).all fun h => decide (h.hi = 0)
theorem zeroK_succ {n : Net} {k : Nat} (hk : k < n.hs.length) : zeroK n (k + 1) = (zeroK n k && decide ((nth n.hs k).hi = 0)) := by
  unfold zeroK
  rw [take_snoc _ hk, List.all_append]
  simp
theorem zeroK_all {n : Net} (h : zeroK n n.hs.length = true) : ∀ k, k < n.hs.length → (nth n.hs k).hi = 0 := by
  unfold zeroK at h
  rw [List.take_length, List.all_eq_true] at h
  intro k hk
  simpa using h _ (nth_mem _ hk)

theorem rIsOrderL_c (r : NetR) (n : Net) (A : Option Addr) (c ln : Nat) (l : List Int) (b : Bool) (hb : isOrd n l = b) (B : Nat) (w : World) (hS : Sl encI B w A c l) (hN : NetIs B w r n) (hln : l.length = ln) [hB : Le B w] :
    Calls Try.prog 19 #[netV r n, .slice A ln c] w fun e w' => e = .returned (.bool b) ∧ ∃ δ, w' = lat w δ := by subst hln; exact rIsOrder_c r n A c l b hb B w hS hN
theorem regretL_yes (r : NetR) (n : Net) (hv : valid n = true) (A : Option Addr) (c ln : Nat) (l : List Int) (hl : isOrd n l = true) (B : Nat) (w : World) (hS : Sl encI B w A c l) (hN : NetIs B w r n) (hln : l.length = ln) [hB : Le B w] :
    Calls Try.prog 20 #[netV r n, .slice A ln c] w fun e w' => e = .returned (.tuple #[.int .i64 (regret n l), .int .i64 0]) ∧ ∃ δ, w' = lat w δ := by subst hln; exact regretP_yes r n hv A c l hl B w hS hN

set_option maxRecDepth 100000 in
set_option maxHeartbeats 8000000 in
theorem regYes_c (r : NetR) (n : Net) (q : TriR) (l1 l2 l3 : List Int) (B : Nat) (w : World) [hB : Le B w] (hN : NetIs B w r n) (hQ : TriIs B w q l1 l2 l3) (hr : readyL n 4 = true) (h1 : l1.length ≤ 40) (h2 : l2.length ≤ 40)
    (ho : isOrd n l1 = true) (ho2 : isOrd n l2 = true) (h3 : l3.length = n.hs.length) :
    Calls Try.prog 5 #[netV r n, triV q l1 l2 l3] w fun e w' => e = .returned (.bool true) ∧ ∃ δ, w' = lat w δ := by
  have z1 := hQ.1.len
  have z2 := hQ.2.1.len
  have z3 := hQ.2.2.len
  have z4 := hN.1.len
  have hv := (readyL_iff.1 hr).2
  have HV := Lib.hid hv
  have HN := Lib.hid hN
  have HQ := Lib.hid hQ
  have HR := Lib.hid hr
  have HO := Lib.hid ho
  have HO2 := Lib.hid ho2
  have H3 := Lib.hid h3
  have A6 := Lib.hid (ok_of hv).2.1
  have d1 : decide ((40 : Int) < (l1.length : Int)) = false := by simp; omega
  have d2 : decide ((40 : Int) < (l2.length : Int)) = false := by simp; omega
  have h3' : ((l3.length : Int) != (n.hs.length : Int)) = false := by simp; omega
  clear hN hQ hr ho ho2 hv h3
  obtain ⟨q1, k1, q2, k2, q3, k3⟩ := q
  go_enter Try.func5, Try.ntmps5
  go_wp2_with (fail)
  refine wp_region_lat (by kernel_rfl) (by kernel_rfl) ?_
  repeat (go_big_quiet_step ((first | (fail))))
  refine wpQuiet_nil ?_
  rintro _ ⟨δq, rfl⟩
  go_wp2_with (first
    | (go_at_call 14; refine (lReady4r_c r n _ HR.out B _ HN.out.up).mono ?_; rintro e w1 ⟨rfl, δ, rfl⟩))
  refine (rIsOrder_c r n q1 k1 l1 _ HO.out B _ HQ.out.1.up HN.out.up).mono ?_
  rintro e w1 ⟨rfl, δ1, rfl⟩
  go_wp2_with (fail)
  refine (rIsOrder_c r n q2 k2 l2 _ HO2.out B _ HQ.out.2.1.up HN.out.up).mono ?_
  rintro e w1 ⟨rfl, δ2, rfl⟩
  go_wp2_with (fail)
  refine wp_name fun W1 hW1 => ?_
  have iw1 : Le B W1 := by rw [hW1.out]; infer_instance
  have iw2 : Grew B w W1 := by rw [hW1.out]; infer_instance
  have iw3 : Le w.heap.size W1 := by rw [hW1.out]; infer_instance
  have iw4 : Grew w.heap.size w W1 := by rw [hW1.out]; infer_instance
  have iw5 : Lt (w.heap.size) W1 := by rw [hW1.out]; infer_instance
  have cw6 : W1.cell? ⟨w.heap.size, 0, none⟩ = some (.int .i64 n.m) := by rw [hW1.out]; go_simp
  have cw7 : W1.cell? ⟨w.heap.size, 1, none⟩ = some (.slice r.hA n.hs.length r.hc) := by rw [hW1.out]; go_simp
  have cw8 : W1.cell? ⟨w.heap.size, 2, none⟩ = some (.slice r.pA n.ps.length r.pc) := by rw [hW1.out]; go_simp
  have G1 := Lib.hid (HN.out.up : NetIs B W1 r n)
  have Q1 := Lib.hid (HQ.out.1.up : Sl encI B W1 q1 k1 l1)
  have Q2 := Lib.hid (HQ.out.2.1.up : Sl encI B W1 q2 k2 l2)
  have Q3 := Lib.hid (HQ.out.2.2.up : Sl encI B W1 q3 k3 l3)
  clear hW1
  go_loopg [8, 9] l3.length (fun g s8 s9 wr => ∃ (k : Nat) (δ : World), k ≤ l3.length ∧ g = l3.length - k ∧ s9 = .int .i64 k ∧ s8 = .bool (zeroK n k) ∧ Hid (∀ j, j < k → (nth n.hs j).lo ≤ nth l3 j ∧ nth l3 j ≤ (nth n.hs j).hi) ∧ wr = lat W1 δ)
  case atStart => exact ⟨0, W1, Nat.zero_le _, rfl, rfl, rfl, fun j hj => absurd hj (Nat.not_lt_zero _), (lat_refl W1).symm⟩
  case round =>
    obtain ⟨k, δ, hk, rfl, rfl, rfl, hT, rfl⟩ := hrel
    by_cases hlt : k < l3.length
    · have hlt2 : k < n.hs.length := by have := H3.out; omega
      obtain ⟨b, o, hA, hb, hc0, hc1, hc2, hc3⟩ := G1.out.1.hole hlt2
      obtain ⟨rhA, rhc, rpA, rpc⟩ := r
      have hA : rhA = some ⟨b, o, none⟩ := hA
      subst hA
      have ib : Lt b W1 := ⟨Nat.lt_of_lt_of_le hb iw1.out⟩
      obtain ⟨b3, o3, rfl, hb3, hd⟩ := Q3.out.int hlt
      have ib3 : Lt b3 W1 := ⟨Nat.lt_of_lt_of_le hb3 iw1.out⟩
      have hki : (k : Int) < (n.hs.length : Int) := by omega
      have hki3 : (k : Int) < (l3.length : Int) := by omega
      have hk0 : ¬ (k : Int) < 0 := by omega
      have HZ := Lib.hid (zeroK_succ hlt2)
      have HLT := Lib.hid hlt
      by_cases hw : inB (nth n.hs k).lo (nth n.hs k).hi (nth l3 k) = true
      · have HW := Lib.hid hw
        have HT2 : Hid (∀ j, j < k + 1 → (nth n.hs j).lo ≤ nth l3 j ∧ nth l3 j ≤ (nth n.hs j).hi) := fun j hj => by
          rcases Nat.lt_or_ge j k with h | h
          · exact hT.out j h
          · obtain rfl : j = k := by omega
            exact inB_iff.1 hw
        clear hw hlt hlt2 hT
        cases hz : zeroK n k with
        | false =>
          have HE := Lib.hid (show zeroK n (k + 1) = false by rw [HZ.out, hz]; rfl)
          clear hz
          go_wp2_with (fail)
          refine wp_region_lat (by kernel_rfl) (by kernel_rfl) ?_
          repeat (go_big_quiet_step ((first | (go_at_call 28; exact Calls.lat_same (HW.out ▸ within_c _ _ _ _)))))
          refine wpQuiet_nil ?_
          rintro _ ⟨δq2, rfl⟩
          go_wp2_with (fail)
          go_roundg (l3.length - (k + 1))
          case measure => have := HLT.out; omega
          case rel => exact ⟨k + 1, _, HLT.out, rfl, by go_num, by rw [HE.out], HT2, lat_def⟩
        | true =>
          by_cases hi0 : (nth n.hs k).hi = 0
          · have HE := Lib.hid (show zeroK n (k + 1) = true by rw [HZ.out, hz, hi0]; rfl)
            have hi0' : ((nth n.hs k).hi == 0) = true := by simpa using hi0
            clear hz hi0
            go_wp2_with (fail)
            refine wp_region_lat (by kernel_rfl) (by kernel_rfl) ?_
            repeat (go_big_quiet_step ((first | (go_at_call 28; exact Calls.lat_same (HW.out ▸ within_c _ _ _ _)))))
            refine wpQuiet_nil ?_
            rintro _ ⟨δq2, rfl⟩
            go_wp2_with (fail)
            go_roundg (l3.length - (k + 1))
            case measure => have := HLT.out; omega
            case rel => exact ⟨k + 1, _, HLT.out, rfl, by go_num, by rw [HE.out], HT2, lat_def⟩
          · have HE := Lib.hid (show zeroK n (k + 1) = false by rw [HZ.out, hz, decide_eq_false hi0]; rfl)
            have hi0' : ((nth n.hs k).hi == 0) = false := by simpa using hi0
            clear hz hi0
            go_wp2_with (fail)
            refine wp_region_lat (by kernel_rfl) (by kernel_rfl) ?_
            repeat (go_big_quiet_step ((first | (go_at_call 28; exact Calls.lat_same (HW.out ▸ within_c _ _ _ _)))))
            refine wpQuiet_nil ?_
            rintro _ ⟨δq2, rfl⟩
            go_wp2_with (fail)
            go_roundg (l3.length - (k + 1))
            case measure => have := HLT.out; omega
            case rel => exact ⟨k + 1, _, HLT.out, rfl, by go_num, by rw [HE.out], HT2, lat_def⟩
      · rw [Bool.not_eq_true] at hw
        have HW := Lib.hid hw
        clear hw
        go_wp2_with (fail)
        refine wp_region_lat (by kernel_rfl) (by kernel_rfl) ?_
        repeat (go_big_quiet_step ((first | (go_at_call 28; exact Calls.lat_same (HW.out ▸ within_c _ _ _ _)))))
        refine wpQuiet_nil ?_
        rintro _ ⟨δq2, rfl⟩
        go_wp2_with (go_at_call 16; refine (works_c _).mono ?_; rintro e w1 ⟨rfl, δw, rfl⟩)
        go_ret
        exact ⟨rfl, lat_ex⟩
    · obtain rfl : k = l3.length := by omega
      have htb : truthB n l3 := ⟨H3.out, fun j hj => hT.out j (by rw [H3.out]; exact hj)⟩
      have HTB := Lib.hid htb
      clear htb hT
      go_wp2_with (fail)
      go_region_held3 (fun W => W.cell? ⟨w.heap.size, 0, none⟩ = some (.int .i64 n.m) ∧ W.cell? ⟨w.heap.size, 1, none⟩ = some (.slice r.hA n.hs.length r.hc) ∧ W.cell? ⟨w.heap.size, 2, none⟩ = some (.slice r.pA n.ps.length r.pc))
        (refine ⟨?_, ?_, ?_⟩ <;> go_simp)
        (first
          | (go_at_call 21; refine (copied_c q1 k1 _ l1 rfl (by omega) B _ Q1.out.up).mono ?_; rintro e w1 ⟨Ac, cc, δc, rfl, rfl, hSc⟩)
          | (go_at_call 20; refine (regretP_yes r n HV.out Ac cc l1 HO.out _ _ hSc.out.wide G1.out.wide).mono ?_; rintro e w1 ⟨rfl, δg, rfl⟩))
      go_wp2_with (first
        | (go_at_call 18; refine (both_c r n HV.out B _ G1.out.up).mono ?_; rintro e w1 ⟨rfl, δb, rfl⟩)
        | (go_at_call 24; refine (calmP_yes r n HV.out B _ G1.out.up).mono ?_; rintro e w1 ⟨Am, cm, δm, rfl, rfl, hSm⟩))
      refine wp_name fun W2 hW2 => ?_
      have iw9 : Le B W2 := by rw [hW2.out]; infer_instance
      have iw10 : Grew B W1 W2 := by rw [hW2.out]; infer_instance
      have iw11 : Le W1.heap.size W2 := by rw [hW2.out]; infer_instance
      have iw12 : Grew W1.heap.size W1 W2 := by rw [hW2.out]; infer_instance
      have iw13 : Lt (w.heap.size) W2 := by rw [hW2.out]; infer_instance
      have cw14 : W2.cell? ⟨w.heap.size, 0, none⟩ = some (.int .i64 n.m) := by rw [hW2.out]; go_simp
      have cw15 : W2.cell? ⟨w.heap.size, 1, none⟩ = some (.slice r.hA n.hs.length r.hc) := by rw [hW2.out]; go_simp
      have cw16 : W2.cell? ⟨w.heap.size, 2, none⟩ = some (.slice r.pA n.ps.length r.pc) := by rw [hW2.out]; go_simp
      have N2 := Lib.hid (G1.out.up : NetIs B W2 r n)
      have N2w := Lib.hid (N2.out.wide : NetIs W2.heap.size W2 r n)
      have P1 := Lib.hid (Q1.out.up : Sl encI B W2 q1 k1 l1)
      have P2 := Lib.hid (Q2.out.up : Sl encI B W2 q2 k2 l2)
      have P3 := Lib.hid (Q3.out.up : Sl encI B W2 q3 k3 l3)
      have M2 : Hid (Sl encI W2.heap.size W2 Am cm (calm n)) := by rw [hW2.out]; exact hSm
      have HCO := Lib.hid (calm_ord (hasO_v HV.out))
      have HCL := Lib.hid (ord_len HCO.out)
      have HTL := Lib.hid (truth_le HV.out HTB.out)
      obtain ⟨r0, r1⟩ := regret_bd HV.out HO.out
      obtain ⟨r2, r3⟩ := regret_bd HV.out HCO.out
      have r4 := calm_le (n := n) HO.out
      have r5 := loss_regret (l := l1) HTB.out HO2.out
      obtain ⟨b1, b2⟩ := loss_bd HV.out HO.out HTL.out n.hs.length (Nat.le_refl _)
      obtain ⟨b3, b4⟩ := loss_bd HV.out HO2.out HTL.out n.hs.length (Nat.le_refl _)
      have b1 : -10000 ≤ loss n l1 l3 := b1
      have b2 : loss n l1 l3 ≤ 10000 := b2
      have b3 : -10000 ≤ loss n l2 l3 := b3
      have b4 : loss n l2 l3 ≤ 10000 := b4
      have c1 : decide (regret n l1 < 0) = false := decide_eq_false (by omega)
      have c2 : decide (100000 < regret n l1) = false := decide_eq_false (by omega)
      have c3 : decide (regret n l1 < loss n l1 l3 - loss n l2 l3) = false := decide_eq_false (by omega)
      have j1 : Grew w.heap.size w W2 := grew_tr iw4 (inferInstance : Grew W1.heap.size W1 W2)
      have j2 : Le w.heap.size W2 := ⟨Nat.le_trans iw3.out (inferInstance : Le W1.heap.size W2).out⟩
      clear hW2 hSm
      by_cases hk0 : regret n l1 = 0
      · have c4 : (regret n l1 == 0) = true := by simpa using hk0
        have c5 : decide (0 < regret n l1) = false := decide_eq_false (by omega)
        have c6 : (worst n l1 != leastN n) = false := by simp [regret_zero (ok_of HV.out).2.2.2.1 HO.out hk0]
        clear hk0 r5
        cases hz : zeroK n l3.length with
        | true =>
          go_wp2_with (fail)
          refine wp_region_lat (by kernel_rfl) (by kernel_rfl) ?_
          repeat (go_big_quiet_step ((first | (go_at_call 19; exact Calls.lat_of (rIsOrderL_c r n Am cm _ (calm n) _ HCO.out _ _ M2.out.up N2w.out.up HCL.out)) | (go_at_call 29; (first | with_reducible exact Calls.lat_of (rLossOf_c r n q1 k1 _ l1 q3 k3 _ l3 B _ P1.out.up P3.out.up N2.out.up HV.out HO.out rfl H3.out rfl HTL.out) | with_reducible exact Calls.lat_of (rLossOf_c r n q2 k2 _ l2 q3 k3 _ l3 B _ P2.out.up P3.out.up N2.out.up HV.out HO2.out rfl H3.out rfl HTL.out))) | (go_at_call 30; exact Calls.lat_of (rWorstOf_c r n q1 k1 _ l1 B _ P1.out.up N2.out.up HV.out HO.out rfl)))))
          refine wpQuiet_nil ?_
          rintro _ ⟨δq3, rfl⟩
          go_wp2_with (fail)
          go_region_held3 (fun W => W.cell? ⟨w.heap.size, 0, none⟩ = some (.int .i64 n.m) ∧ W.cell? ⟨w.heap.size, 1, none⟩ = some (.slice r.hA n.hs.length r.hc) ∧ W.cell? ⟨w.heap.size, 2, none⟩ = some (.slice r.pA n.ps.length r.pc))
          (refine ⟨?_, ?_, ?_⟩ <;> go_simp)
            (first
              | (go_at_call 21; refine (copied_c Am cm _ (calm n) HCL.out (by have := HCL.out; have := A6.out; omega) _ _ M2.out.up).mono ?_; rintro e w1 ⟨Ac2, cc2, δc2, rfl, rfl, hSc2⟩)
              | (go_at_call 20; refine (regretL_yes r n HV.out Ac2 cc2 _ (calm n) HCO.out _ _ hSc2.out.wide N2.out.wide HCL.out).mono ?_; rintro e w1 ⟨rfl, δg2, rfl⟩))
          go_wp2_with (go_at_call 16; refine (works_c _).mono ?_; rintro e w1 ⟨rfl, δw, rfl⟩)
          go_ret
          exact ⟨rfl, lat_ex⟩
        | false =>
          go_wp2_with (fail)
          refine wp_region_lat (by kernel_rfl) (by kernel_rfl) ?_
          repeat (go_big_quiet_step ((first | (go_at_call 19; exact Calls.lat_of (rIsOrderL_c r n Am cm _ (calm n) _ HCO.out _ _ M2.out.up N2w.out.up HCL.out)) | (go_at_call 29; (first | with_reducible exact Calls.lat_of (rLossOf_c r n q1 k1 _ l1 q3 k3 _ l3 B _ P1.out.up P3.out.up N2.out.up HV.out HO.out rfl H3.out rfl HTL.out) | with_reducible exact Calls.lat_of (rLossOf_c r n q2 k2 _ l2 q3 k3 _ l3 B _ P2.out.up P3.out.up N2.out.up HV.out HO2.out rfl H3.out rfl HTL.out))) | (go_at_call 30; exact Calls.lat_of (rWorstOf_c r n q1 k1 _ l1 B _ P1.out.up N2.out.up HV.out HO.out rfl)))))
          refine wpQuiet_nil ?_
          rintro _ ⟨δq3, rfl⟩
          go_wp2_with (fail)
          go_region_held3 (fun W => W.cell? ⟨w.heap.size, 0, none⟩ = some (.int .i64 n.m) ∧ W.cell? ⟨w.heap.size, 1, none⟩ = some (.slice r.hA n.hs.length r.hc) ∧ W.cell? ⟨w.heap.size, 2, none⟩ = some (.slice r.pA n.ps.length r.pc))
          (refine ⟨?_, ?_, ?_⟩ <;> go_simp)
            (first
              | (go_at_call 21; refine (copied_c Am cm _ (calm n) HCL.out (by have := HCL.out; have := A6.out; omega) _ _ M2.out.up).mono ?_; rintro e w1 ⟨Ac2, cc2, δc2, rfl, rfl, hSc2⟩)
              | (go_at_call 20; refine (regretL_yes r n HV.out Ac2 cc2 _ (calm n) HCO.out _ _ hSc2.out.wide N2.out.wide HCL.out).mono ?_; rintro e w1 ⟨rfl, δg2, rfl⟩))
          go_wp2_with (go_at_call 16; refine (works_c _).mono ?_; rintro e w1 ⟨rfl, δw, rfl⟩)
          go_ret
          exact ⟨rfl, lat_ex⟩
      · have c4 : (regret n l1 == 0) = false := by simpa using hk0
        have hz : zeroK n l3.length = false := by
          rw [← Bool.not_eq_true]
          intro hc
          rw [H3.out] at hc
          exact hk0 (regret_none (ok_of HV.out).2.2.2.1 (zeroK_all hc) l1)
        rw [hz]
        clear hk0 r5
        go_wp2_with (fail)
        refine wp_region_lat (by kernel_rfl) (by kernel_rfl) ?_
        repeat (go_big_quiet_step ((first | (go_at_call 19; exact Calls.lat_of (rIsOrderL_c r n Am cm _ (calm n) _ HCO.out _ _ M2.out.up N2w.out.up HCL.out)) | (go_at_call 29; (first | with_reducible exact Calls.lat_of (rLossOf_c r n q1 k1 _ l1 q3 k3 _ l3 B _ P1.out.up P3.out.up N2.out.up HV.out HO.out rfl H3.out rfl HTL.out) | with_reducible exact Calls.lat_of (rLossOf_c r n q2 k2 _ l2 q3 k3 _ l3 B _ P2.out.up P3.out.up N2.out.up HV.out HO2.out rfl H3.out rfl HTL.out))))))
        refine wpQuiet_nil ?_
        rintro _ ⟨δq3, rfl⟩
        go_wp2_with (fail)
        go_region_held3 (fun W => W.cell? ⟨w.heap.size, 0, none⟩ = some (.int .i64 n.m) ∧ W.cell? ⟨w.heap.size, 1, none⟩ = some (.slice r.hA n.hs.length r.hc) ∧ W.cell? ⟨w.heap.size, 2, none⟩ = some (.slice r.pA n.ps.length r.pc))
        (refine ⟨?_, ?_, ?_⟩ <;> go_simp)
          (first
            | (go_at_call 21; refine (copied_c Am cm _ (calm n) HCL.out (by have := HCL.out; have := A6.out; omega) _ _ M2.out.up).mono ?_; rintro e w1 ⟨Ac2, cc2, δc2, rfl, rfl, hSc2⟩)
            | (go_at_call 20; refine (regretL_yes r n HV.out Ac2 cc2 _ (calm n) HCO.out _ _ hSc2.out.wide N2.out.wide HCL.out).mono ?_; rintro e w1 ⟨rfl, δg2, rfl⟩))
        go_wp2_with (go_at_call 16; refine (works_c _).mono ?_; rintro e w1 ⟨rfl, δw, rfl⟩)
        go_ret
        exact ⟨rfl, lat_ex⟩

theorem lawRegret_c (r : NetR) (n : Net) (q : TriR) (l1 l2 l3 : List Int) (B : Nat) (w : World) [hB : Le B w] (hN : NetIs B w r n) (hQ : TriIs B w q l1 l2 l3) :
    Calls Try.prog 5 #[netV r n, triV q l1 l2 l3] w fun e w' => e = .returned (.bool true) ∧ ∃ δ, w' = lat w δ := by
  cases hr : readyL n 4 with
  | false => exact regNo1_c r n q l1 l2 l3 B w hN hQ (.inl hr)
  | true =>
    by_cases h1 : l1.length ≤ 40
    · by_cases h2 : l2.length ≤ 40
      · cases ho : isOrd n l1 with
        | false => exact regNo2_c r n q l1 l2 l3 B w hN hQ hr h1 h2 (.inl ho)
        | true =>
          cases ho2 : isOrd n l2 with
          | false => exact regNo2_c r n q l1 l2 l3 B w hN hQ hr h1 h2 (.inr (.inl ⟨ho, ho2⟩))
          | true =>
            by_cases h3 : l3.length = n.hs.length
            · exact regYes_c r n q l1 l2 l3 B w hN hQ hr h1 h2 ho ho2 h3
            · exact regNo2_c r n q l1 l2 l3 B w hN hQ hr h1 h2 (.inr (.inr ⟨ho, ho2, h3⟩))
      · exact regNo1_c r n q l1 l2 l3 B w hN hQ (.inr (.inr ⟨hr, h1, by omega⟩))
    · exact regNo1_c r n q l1 l2 l3 B w hN hQ (.inr (.inl ⟨hr, by omega⟩))

end Go.Proofs.Ytbfehifidlojlaa
