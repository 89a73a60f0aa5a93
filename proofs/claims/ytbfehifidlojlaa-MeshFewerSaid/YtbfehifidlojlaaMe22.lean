/- Layer 4: MeshFewer, where its guards let it go. -/
import Derived.Test.YtbfehifidlojlaaMe21
namespace Go.Proofs.Ytbfehifidlojlaa
open Go.RowKit
open Me

theorem hole_set (hs : List Hole) {k : Nat} (hk : k < hs.length) (lo hi : Int) :
    (((((hs.flatMap encHole).set (k * 4) (.int .i64 (nth hs k).fr)).set (k * 4 + 1) (.int .i64 lo)).set (k * 4 + 2) (.int .i64 hi)).set (k * 4 + 3) (.int .i64 (nth hs k).hr)) = (hs.set k (fewH (nth hs k) lo hi)).flatMap encHole := by
  have e0 := flatMap_set encHole 4 (fun _ => rfl) hs k 0 (.int .i64 (nth hs k).fr) (nth hs k) hk (by omega) rfl
  rw [Nat.add_zero] at e0
  have n0 : nth (hs.set k (nth hs k)) k = nth hs k := nth_set_same _ hk _
  have e1 := flatMap_set encHole 4 (fun _ => rfl) (hs.set k (nth hs k)) k 1 (.int .i64 lo) ⟨(nth hs k).fr, lo, (nth hs k).hi, (nth hs k).hr⟩ (by rw [List.length_set]; exact hk) (by omega) (by rw [n0]; rfl)
  rw [List.set_set] at e1
  have n1 : nth (hs.set k (⟨(nth hs k).fr, lo, (nth hs k).hi, (nth hs k).hr⟩ : Hole)) k = _ := nth_set_same _ hk _
  have e2 := flatMap_set encHole 4 (fun _ => rfl) (hs.set k (⟨(nth hs k).fr, lo, (nth hs k).hi, (nth hs k).hr⟩ : Hole)) k 2 (.int .i64 hi) (fewH (nth hs k) lo hi) (by rw [List.length_set]; exact hk) (by omega) (by rw [n1]; rfl)
  rw [List.set_set] at e2
  have n2 : nth (hs.set k (fewH (nth hs k) lo hi)) k = _ := nth_set_same _ hk _
  have e3 := flatMap_set encHole 4 (fun _ => rfl) (hs.set k (fewH (nth hs k) lo hi)) k 3 (.int .i64 (nth hs k).hr) (fewH (nth hs k) lo hi) (by rw [List.length_set]; exact hk) (by omega) (by rw [n2]; rfl)
  rw [List.set_set] at e3
  rw [e0, e1, e2, e3]

set_option maxRecDepth 100000 in
set_option maxHeartbeats 4000000 in
theorem fewYes_c (r : NetR) (n : Net) (k : Nat) (lo hi : Int) (A : Option Addr) (c : Nat) (l : List Int) (B : Nat) (w : World) [hB : Le B w] (hN : NetIs B w r n) (hS : Sl encI B w A c l) (hr : readyL n 4 = true) (hl : l.length ≤ 40) (hk : k < n.hs.length)
    (h0 : lo ≤ hi) (h1 : (nth n.hs k).lo ≤ lo) (h2 : hi ≤ (nth n.hs k).hi) :
    Calls Try.prog 3 #[netV r n, partV k lo hi, .slice A l.length c] w fun e w' => e = .returned (.bool true) ∧ ∃ δ, w' = lat w δ := by
  have hv := (readyL_iff.1 hr).2
  have hv' := few_valid hv hk h0 h1 h2
  have hnr := few_narrow hk h1 h2
  obtain ⟨a1, a2, a3, a4, a5, a6⟩ := valid_iff.1 hv
  have hle := narrow_least hnr a4 a6
  have hh : inB 0 ((n.hs.length : Int) - 1) (k : Int) = true := inB_iff.2 (by omega)
  obtain ⟨b', o, hA, hb', hc0, hc1, hc2, hc3⟩ := hN.1.hole hk
  obtain ⟨rhA, rhc, rpA, rpc⟩ := r
  simp only at hA
  subst hA
  have ib : Lt b' w := ⟨Nat.lt_of_lt_of_le hb' hB.out⟩
  have HN := Lib.hid hN
  have HS := Lib.hid hS
  have HR := Lib.hid hr
  have HH := Lib.hid hh
  have HV := Lib.hid hv
  have HV' := Lib.hid hv'
  have HNR := Lib.hid hnr
  have HLE := Lib.hid hle
  have hg : decide ((40 : Int) < (l.length : Int)) = false := by simp; omega
  have hki : (k : Int) < (n.hs.length : Int) := by omega
  have hk0 : ¬ (k : Int) < 0 := by omega
  have A6 := Lib.hid a2
  have A8 := Lib.hid a3
  have A4 := Lib.hid a4
  clear hN hS hr hh hv hv' hnr hle a1 a2 a3 a4 a5 a6
  have HX := Lib.hid (rfl : nth n.hs k = nth n.hs k)
  have d1 : decide (hi < lo) = false := decide_eq_false (by omega)
  have d2 : decide (lo < (nth n.hs k).lo) = false := decide_eq_false (by omega)
  have d3 : decide ((nth n.hs k).hi < hi) = false := decide_eq_false (by omega)
  go_enter Try.func3, Try.ntmps3
  go_wp2_with (fail)
  refine wp_region_lat (by kernel_rfl) (by kernel_rfl) ?_
  repeat (go_big_quiet_step ((first | (go_at_call 14; exact Calls.lat_of (lReady4_c ⟨some ⟨b', o, none⟩, rhc, rpA, rpc⟩ n _ HR.out B _ HN.out.up)) | (go_at_call 15; exact Calls.lat_of (rIsHole_c ⟨some ⟨b', o, none⟩, rhc, rpA, rpc⟩ n k _ HH.out B _ HN.out.up)))))
  refine wpQuiet_nil ?_
  rintro _ ⟨δq, rfl⟩
  go_upto_region 3 with fail
  refine wp_name fun W1 hW1 => ?_
  have iw1 : Le B W1 := by rw [hW1.out]; infer_instance
  have iw2 : Grew B w W1 := by rw [hW1.out]; infer_instance
  have iw3 : Le w.heap.size W1 := by rw [hW1.out]; infer_instance
  have iw4 : Grew w.heap.size w W1 := by rw [hW1.out]; infer_instance
  have iw5 : Lt (w.heap.size) W1 := by rw [hW1.out]; infer_instance
  have iw6 : Lt (w.heap.size + 1) W1 := by rw [hW1.out]; infer_instance
  have cw7 : W1.cell? ⟨w.heap.size, 0, none⟩ = some (.int .i64 n.m) := by rw [hW1.out]; go_simp
  have cw8 : W1.cell? ⟨w.heap.size, 1, none⟩ = some (.slice (some ⟨b', o, none⟩) n.hs.length rhc) := by rw [hW1.out]; go_simp
  have cw9 : W1.cell? ⟨w.heap.size, 2, none⟩ = some (.slice rpA n.ps.length rpc) := by rw [hW1.out]; go_simp
  have cw10 : W1.cell? ⟨w.heap.size + 1, 0, none⟩ = some (.int .i64 k) := by rw [hW1.out]; go_simp
  have cw11 : W1.cell? ⟨w.heap.size + 1, 1, none⟩ = some (.int .i64 lo) := by rw [hW1.out]; go_simp
  have cw12 : W1.cell? ⟨w.heap.size + 1, 2, none⟩ = some (.int .i64 hi) := by rw [hW1.out]; go_simp
  clear hW1
  go_wp2_with (fail)
  refine (copy_c ⟨some ⟨b', o, none⟩, rhc, rpA, rpc⟩ n B _ HN.out.up (by have := A6.out; omega) (by have := A8.out; omega)).mono ?_
  rintro e w1 ⟨⟨gA, gc, qA, qc⟩, δ, rfl, rfl, ho⟩
  obtain ⟨W2, hW2⟩ : ∃ W2, Hid (W2 = lat W1 δ) := ⟨_, rfl⟩
  rw [← hW2.out] at ho ⊢
  have iw13 : Le B W2 := by rw [hW2.out]; infer_instance
  have iw14 : Grew B w W2 := by rw [hW2.out]; infer_instance
  have iw15 : Le w.heap.size W2 := by rw [hW2.out]; infer_instance
  have iw16 : Grew w.heap.size w W2 := by rw [hW2.out]; infer_instance
  have iw17 : Lt (w.heap.size) W2 := by rw [hW2.out]; infer_instance
  have iw18 : Lt (w.heap.size + 1) W2 := by rw [hW2.out]; infer_instance
  have cw19 : W2.cell? ⟨w.heap.size, 0, none⟩ = some (.int .i64 n.m) := by rw [hW2.out]; go_simp
  have cw20 : W2.cell? ⟨w.heap.size, 1, none⟩ = some (.slice (some ⟨b', o, none⟩) n.hs.length rhc) := by rw [hW2.out]; go_simp
  have cw21 : W2.cell? ⟨w.heap.size, 2, none⟩ = some (.slice rpA n.ps.length rpc) := by rw [hW2.out]; go_simp
  have cw22 : W2.cell? ⟨w.heap.size + 1, 0, none⟩ = some (.int .i64 k) := by rw [hW2.out]; go_simp
  have cw23 : W2.cell? ⟨w.heap.size + 1, 1, none⟩ = some (.int .i64 lo) := by rw [hW2.out]; go_simp
  have cw24 : W2.cell? ⟨w.heap.size + 1, 2, none⟩ = some (.int .i64 hi) := by rw [hW2.out]; go_simp
  clear hW2
  obtain ⟨g, rfl, hb, hl', hc, hf⟩ := own_at ho.1 (by omega)
  rw [show netV ⟨some ⟨g, 0, none⟩, gc, qA, qc⟩ n = Value.agg #[.int .i64 n.m, .slice (some ⟨g, 0, none⟩) n.hs.length gc, .slice qA n.ps.length qc] from rfl]
  have e0 := hc (k * 4) (.int .i64 (nth n.hs k).fr) (by have := flatMap_nth encHole 4 (fun _ => rfl) n.hs k 0 hk (by omega); rw [Nat.add_zero] at this; rw [this]; rfl)
  have e1 := hc (k * 4 + 1) (.int .i64 (nth n.hs k).lo) (by have := flatMap_nth encHole 4 (fun _ => rfl) n.hs k 1 hk (by omega); rw [this]; rfl)
  have e2 := hc (k * 4 + 2) (.int .i64 (nth n.hs k).hi) (by have := flatMap_nth encHole 4 (fun _ => rfl) n.hs k 2 hk (by omega); rw [this]; rfl)
  have e3 := hc (k * 4 + 3) (.int .i64 (nth n.hs k).hr) (by have := flatMap_nth encHole 4 (fun _ => rfl) n.hs k 3 hk (by omega); rw [this]; rfl)
  have f0 := hf (k * 4)
  have f1 := hf (k * 4 + 1)
  have f2 := hf (k * 4 + 2)
  have f3 := hf (k * 4 + 3)
  have HO := Lib.hid ho
  clear ho hc hf
  have hb1 : w.heap.size + 1 < g := Nat.lt_of_lt_of_le iw6.out hb
  have i1 : NeN (w.heap.size + 1) g := ⟨by omega⟩
  have i2 : NeN g (w.heap.size + 1) := ⟨by omega⟩
  have i3 : NeN w.heap.size g := ⟨by omega⟩
  have i4 : NeN g w.heap.size := ⟨by omega⟩
  have i5 : LeN w.heap.size g := ⟨by omega⟩
  have i6 : LeN B g := ⟨by have := hB.out; omega⟩
  have k1 := own_ne HO.out.2 HO.out.1 (by decide)
  have hlen := len_enc encHole 4 (fun _ => rfl) n.hs
  have o0 := own_set (u := .int .i64 (nth n.hs k).fr) (i := k * 4) HO.out.1 (by rw [hlen]; omega)
  have o1 := own_set (u := .int .i64 lo) (i := k * 4 + 1) o0 (by rw [List.length_set, hlen]; omega)
  have o2 := own_set (u := .int .i64 hi) (i := k * 4 + 2) o1 (by rw [List.length_set, List.length_set, hlen]; omega)
  have o3 := own_set (u := .int .i64 (nth n.hs k).hr) (i := k * 4 + 3) o2 (by rw [List.length_set, List.length_set, List.length_set, hlen]; omega)
  rw [hole_set n.hs hk lo hi] at o3
  have p3 := own_far (own_far (own_far (own_far HO.out.2 (p := ⟨g, k * 4, none⟩) k1 (u := .int .i64 (nth n.hs k).fr)) (p := ⟨g, k * 4 + 1, none⟩) k1 (u := .int .i64 lo)) (p := ⟨g, k * 4 + 2, none⟩) k1 (u := .int .i64 hi)) (p := ⟨g, k * 4 + 3, none⟩) k1 (u := .int .i64 (nth n.hs k).hr)
  have HA := Lib.hid (And.intro o3 p3)
  clear o0 o1 o2 o3 p3 k1 hlen hb hb1
  go_upto_region 7 with fail
  refine wp_name fun W3 hW3 => ?_
  have iw25 : Le B W3 := by rw [hW3.out]; infer_instance
  have iw26 : Grew B w W3 := by rw [hW3.out]; infer_instance
  have iw27 : Le w.heap.size W3 := by rw [hW3.out]; infer_instance
  have iw28 : Grew w.heap.size w W3 := by rw [hW3.out]; infer_instance
  have iw29 : Lt (w.heap.size) W3 := by rw [hW3.out]; infer_instance
  have i7 : Lt W2.heap.size W3 := ⟨by rw [hW3.out]; go_simp⟩
  have cw30 : W3.cell? ⟨w.heap.size, 0, none⟩ = some (.int .i64 n.m) := by rw [hW3.out]; go_simp
  have cw31 : W3.cell? ⟨w.heap.size, 1, none⟩ = some (.slice (some ⟨b', o, none⟩) n.hs.length rhc) := by rw [hW3.out]; go_simp
  have cw32 : W3.cell? ⟨w.heap.size, 2, none⟩ = some (.slice rpA n.ps.length rpc) := by rw [hW3.out]; go_simp
  have cw33 : W3.cell? ⟨W2.heap.size, 0, none⟩ = some (.int .i64 n.m) := by rw [hW3.out]; go_simp
  have cw34 : W3.cell? ⟨W2.heap.size, 1, none⟩ = some (.slice (some ⟨g, 0, none⟩) n.hs.length gc) := by rw [hW3.out]; go_simp
  have cw35 : W3.cell? ⟨W2.heap.size, 2, none⟩ = some (.slice qA n.ps.length qc) := by rw [hW3.out]; go_simp
  have hO3 : NetOwn W1.heap.size W3 ⟨some ⟨g, 0, none⟩, gc, qA, qc⟩ (fewN n k lo hi) := by
    rw [hW3.out]
    refine NetOwn.alloc (NetOwn.alloc ?_ _) _
    unfold NetOwn
    rw [fewN_len]
    exact HA.out
  have g1 : NetIs B W3 ⟨some ⟨b', o, none⟩, rhc, rpA, rpc⟩ n := HN.out.up
  have g2 := hO3.is
  have g3 : Sl encI B W3 A c l := HS.out.up
  have G1 := Lib.hid g1
  have G2 := Lib.hid g2
  have G3 := Lib.hid g3
  clear hW3 hO3 g1 g2 g3
  have hv2 : netV ⟨some ⟨g, 0, none⟩, gc, qA, qc⟩ (fewN n k lo hi) = Value.agg #[.int .i64 n.m, .slice (some ⟨g, 0, none⟩) n.hs.length gc, .slice qA n.ps.length qc] := by simp only [netV, fewN_len]; rfl
  have tb := both_c ⟨some ⟨g, 0, none⟩, gc, qA, qc⟩ (fewN n k lo hi) HV'.out W3.heap.size
  rw [hv2] at tb
  have TB := Lib.hid tb
  clear tb
  have rb : ∀ (Ac : Option Addr) (cc B : Nat) (w : World), isOrd (fewN n k lo hi) l = true → Le B w → Sl encI B w Ac cc l → NetIs B w ⟨some ⟨g, 0, none⟩, gc, qA, qc⟩ (fewN n k lo hi) →
      Calls Try.prog 20 #[Value.agg #[.int .i64 n.m, .slice (some ⟨g, 0, none⟩) n.hs.length gc, .slice qA n.ps.length qc], .slice Ac l.length cc] w fun e w' => e = .returned (.tuple #[.int .i64 (regret (fewN n k lo hi) l), .int .i64 0]) ∧ ∃ δ, w' = lat w δ := by
    intro Ac cc B w ho hB hS hN
    rw [← hv2]
    exact regretP_yes _ _ HV'.out Ac cc l ho B w hS hN
  have RB := Lib.hid rb
  clear hv2 rb
  have hle' : decide (leastN n < leastN (fewN n k lo hi)) = false := decide_eq_false (by have := HLE.out; omega)
  go_wp2_with (first
    | (go_at_call 18; (first
        | (with_reducible refine (both_c ⟨some ⟨b', o, none⟩, rhc, rpA, rpc⟩ n HV.out B _ G1.out.up).mono ?_; rintro e w1 ⟨rfl, δb, rfl⟩)
        | (with_reducible refine (TB.out _ G2.out.up).mono ?_; rintro e w1 ⟨rfl, δb2, rfl⟩))))
  cases hio : isOrd n l with
  | false =>
    have HIO := Lib.hid hio
    clear hio
    refine (rIsOrder_c ⟨some ⟨b', o, none⟩, rhc, rpA, rpc⟩ n A c l _ HIO.out B _ G3.out.up G1.out.up).mono ?_
    rintro e w1 ⟨rfl, δi, rfl⟩
    go_wp2_with (go_at_call 16; refine (works_c _).mono ?_; rintro e w1 ⟨rfl, δ, rfl⟩)
    go_ret
    exact ⟨rfl, lat_ex⟩
  | true =>
    have HRN := Lib.hid (regret_nn (fewN n k lo hi) l)
    have HRL := Lib.hid (narrow_regret HNR.out (ok_of HV'.out).2.2.2.1 hio)
    have HIO' := Lib.hid ((narrow_isOrd HNR.out l).trans hio)
    have HIO := Lib.hid hio
    clear hio
    refine (rIsOrder_c ⟨some ⟨b', o, none⟩, rhc, rpA, rpc⟩ n A c l _ HIO.out B _ G3.out.up G1.out.up).mono ?_
    rintro e w1 ⟨rfl, δi, rfl⟩
    go_wp2_with (fail)
    go_region_held3 (fun W => W.cell? ⟨w.heap.size, 0, none⟩ = some (.int .i64 n.m) ∧ W.cell? ⟨w.heap.size, 1, none⟩ = some (.slice (some ⟨b', o, none⟩) n.hs.length rhc) ∧ W.cell? ⟨w.heap.size, 2, none⟩ = some (.slice rpA n.ps.length rpc))
      (refine ⟨?_, ?_, ?_⟩ <;> go_simp)
      (first
        | (go_at_call 21; refine (copied_c A c _ l rfl (by omega) B _ G3.out.up).mono ?_; rintro e w1 ⟨Ac, cc, δc, rfl, rfl, hSc⟩)
        | (go_at_call 20; refine (regretP_yes ⟨some ⟨b', o, none⟩, rhc, rpA, rpc⟩ n HV.out Ac cc l HIO.out _ _ hSc.out.wide G1.out.wide).mono ?_; rintro e w1 ⟨rfl, δg, rfl⟩))
    go_wp2_with (fail)
    go_region_held3 (fun W => W.cell? ⟨W2.heap.size, 0, none⟩ = some (.int .i64 n.m) ∧ W.cell? ⟨W2.heap.size, 1, none⟩ = some (.slice (some ⟨g, 0, none⟩) n.hs.length gc) ∧ W.cell? ⟨W2.heap.size, 2, none⟩ = some (.slice qA n.ps.length qc))
      (refine ⟨?_, ?_, ?_⟩ <;> go_simp)
      (first
        | (go_at_call 21; refine (copied_c A c _ l rfl (by omega) B _ G3.out.up).mono ?_; rintro e w1 ⟨Ad, cd, δd, rfl, rfl, hSd⟩)
        | (go_at_call 20; refine (RB.out Ad cd _ _ HIO'.out inferInstance hSd.out.wide G2.out.wide).mono ?_; rintro e w1 ⟨rfl, δh, rfl⟩))
    have z1 := HRN.out
    have z2 := HRL.out
    go_wp2_with (go_at_call 16; refine (works_c _).mono ?_; rintro e w1 ⟨rfl, δ, rfl⟩)
    go_ret
    exact ⟨rfl, lat_ex⟩

theorem lawFewer_c (r : NetR) (n : Net) (h lo hi : Int) (A : Option Addr) (c : Nat) (l : List Int) (B : Nat) (w : World) [hB : Le B w] (hN : NetIs B w r n) (hS : Sl encI B w A c l) :
    Calls Try.prog 3 #[netV r n, partV h lo hi, .slice A l.length c] w fun e w' => e = .returned (.bool true) ∧ ∃ δ, w' = lat w δ := by
  cases hr : readyL n 4 with
  | false => exact fewNo1_c r n h lo hi A c l B w hN hS hr
  | true =>
    by_cases hl : l.length ≤ 40
    · cases hh : inB 0 ((n.hs.length : Int) - 1) h with
      | false => exact fewNo3_c r n h lo hi A c l B w hN hS hr hl hh
      | true =>
        by_cases hb : hi < lo ∨ (lo ≤ hi ∧ lo < (nth n.hs h.toNat).lo) ∨ (lo ≤ hi ∧ ¬ lo < (nth n.hs h.toNat).lo ∧ (nth n.hs h.toNat).hi < hi)
        · exact fewNo4_c r n h lo hi A c l B w hN hS hr hl hh hb
        · have h' := inB_iff.1 hh
          obtain ⟨k, rfl⟩ : ∃ k : Nat, h = (k : Int) := ⟨h.toNat, by omega⟩
          rw [Int.toNat_natCast] at hb
          exact fewYes_c r n k lo hi A c l B w hN hS hr hl (by omega) (by omega) (by omega) (by omega)
    · exact fewNo2_c r n h lo hi A c l B w hN hS hr (by omega)

end Go.Proofs.Ytbfehifidlojlaa
