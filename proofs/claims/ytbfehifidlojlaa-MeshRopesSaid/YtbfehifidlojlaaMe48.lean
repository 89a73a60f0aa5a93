/- Layer 4: the reference's More and Loose. -/
import Derived.Test.YtbfehifidlojlaaMe36
import Derived.Test.YtbfehifidlojlaaMe47
namespace Go.Proofs.Ytbfehifidlojlaa
open Go.RowKit
open Me

theorem rMore_no (r : NetR) (n : Net) (hv : valid n = false) (B : Nat) (w : World) (hN : NetIs B w r n) [hB : Le B w] :
    Calls Try.prog 56 #[netV r n] w fun e w' => e = .returned (.tuple #[.int .i64 0, .int .i64 40]) ∧ ∃ δ, w' = lat w δ := by
  have HN := Lib.hid hN
  have HV := Lib.hid hv
  clear hN hv
  go_enter Try.func56, Try.ntmps56
  go_wp2_with (go_at_call 33; refine (rCheck_no r n HV.out B _ HN.out.up).mono ?_; rintro e w1 ⟨rfl, δ, rfl⟩)
  go_ret2
  exact ⟨rfl, lat_ex⟩
theorem rMore_many (r : NetR) (n : Net) (hv : valid n = true) (hm : n.m = 3) (B : Nat) (w : World) (hN : NetIs B w r n) [hB : Le B w] :
    Calls Try.prog 56 #[netV r n] w fun e w' => e = .returned (.tuple #[.int .i64 0, .int .i64 2]) ∧ ∃ δ, w' = lat w δ := by
  have HN := Lib.hid hN
  have HV := Lib.hid hv
  have hE : (n.m == 3) = true := by simp [hm]
  clear hN hv hm
  go_enter Try.func56, Try.ntmps56
  go_wp2_with (go_at_call 33; refine (rCheck_yes r n HV.out B _ HN.out.up).mono ?_; rintro e w1 ⟨rfl, δ, rfl⟩)
  go_ret2
  exact ⟨rfl, lat_ex⟩
theorem leastOf_plus (r : NetR) (n : Net) (hv : valid (plusN n) = true) (B : Nat) (w : World) (hN : NetIs B w r n) [hB : Le B w] :
    Calls Try.prog 83 #[.agg #[.int .i64 (n.m + 1), .slice r.hA n.hs.length r.hc, .slice r.pA n.ps.length r.pc]] w fun e w' => e = .returned (.int .i64 (leastN (plusN n))) ∧ ∃ δ, w' = lat w δ :=
  rLeastOf_c r (plusN n) hv B w hN
set_option maxRecDepth 100000 in
set_option maxHeartbeats 4000000 in
theorem rMore_yes (r : NetR) (n : Net) (hv : valid n = true) (hm : n.m ≠ 3) (B : Nat) (w : World) (hN : NetIs B w r n) [hB : Le B w] :
    Calls Try.prog 56 #[netV r n] w fun e w' => e = .returned (.tuple #[.int .i64 (moreN n), .int .i64 0]) ∧ ∃ δ, w' = lat w δ := by
  have HN := Lib.hid hN
  have HV := Lib.hid hv
  have hp : valid (plusN n) = true := by rw [plus_valid hv]; simpa using hm
  have HP := Lib.hid hp
  have hE : (n.m == 3) = false := by simpa using hm
  have b1 := (valid_iff.1 hv).1.1
  have b2 := (valid_iff.1 hv).1.2
  have h6 := (ok_of hv).2.1
  have h8 := (ok_of hv).2.2.1
  obtain ⟨b3, b4⟩ := leastN_nn hv
  obtain ⟨b5, b6⟩ := leastN_nn hp
  have HM := Lib.hid (show moreN n = leastN n - leastN (plusN n) from rfl)
  have hsub : IntKind.i64.wrap (leastN n - leastN (plusN n)) = leastN n - leastN (plusN n) := IntWalk.i64_in _ (by omega)
  clear hN hv hp
  go_enter Try.func56, Try.ntmps56
  go_upto_region 6 with (go_at_call 33; refine (rCheck_yes r n HV.out B _ HN.out.up).mono ?_; rintro e w1 ⟨rfl, δ, rfl⟩)
  refine wp_name fun W1 hW1 => ?_
  have iw1 : Le B W1 := by rw [hW1.out]; infer_instance
  have iw2 : Grew B w W1 := by rw [hW1.out]; infer_instance
  have iw3 : Le w.heap.size W1 := by rw [hW1.out]; infer_instance
  have iw4 : Grew w.heap.size w W1 := by rw [hW1.out]; infer_instance
  have iw5 : Lt (w.heap.size) W1 := by rw [hW1.out]; infer_instance
  have cw6 : W1.cell? ⟨w.heap.size, 0, none⟩ = some (.int .i64 n.m) := by rw [hW1.out]; go_simp
  have cw7 : W1.cell? ⟨w.heap.size, 1, none⟩ = some (.slice r.hA n.hs.length r.hc) := by rw [hW1.out]; go_simp
  have cw8 : W1.cell? ⟨w.heap.size, 2, none⟩ = some (.slice r.pA n.ps.length r.pc) := by rw [hW1.out]; go_simp
  have N1 := Lib.hid (HN.out.up : NetIs B W1 r n)
  clear hW1
  go_wp2_with (fail)
  refine (copy_c r n B _ N1.out.up (by omega) (by omega)).mono ?_
  rintro e w1 ⟨⟨gA, gc, qA, qc⟩, δ1, rfl, rfl, ho⟩
  obtain ⟨W2, hW2⟩ : ∃ W2, Hid (W2 = lat W1 δ1) := ⟨_, rfl⟩
  rw [← hW2.out] at ho ⊢
  have iw9 : Le B W2 := by rw [hW2.out]; infer_instance
  have iw10 : Grew B W1 W2 := by rw [hW2.out]; infer_instance
  have iw11 : Le W1.heap.size W2 := by rw [hW2.out]; infer_instance
  have iw12 : Grew W1.heap.size W1 W2 := by rw [hW2.out]; infer_instance
  have iw13 : Lt (w.heap.size) W2 := by rw [hW2.out]; infer_instance
  have cw14 : W2.cell? ⟨w.heap.size, 0, none⟩ = some (.int .i64 n.m) := by rw [hW2.out]; go_simp
  have cw15 : W2.cell? ⟨w.heap.size, 1, none⟩ = some (.slice r.hA n.hs.length r.hc) := by rw [hW2.out]; go_simp
  have cw16 : W2.cell? ⟨w.heap.size, 2, none⟩ = some (.slice r.pA n.ps.length r.pc) := by rw [hW2.out]; go_simp
  have C2 := Lib.hid ho.is
  have N2 := Lib.hid (N1.out.up : NetIs B W2 r n)
  clear ho hW2 N1
  rw [show netV ⟨gA, gc, qA, qc⟩ n = Value.agg #[.int .i64 n.m, .slice gA n.hs.length gc, .slice qA n.ps.length qc] from rfl]
  go_upto_region 8 with fail
  refine wp_name fun W3 hW3 => ?_
  have iw17 : Le B W3 := by rw [hW3.out]; infer_instance
  have iw18 : Grew B W2 W3 := by rw [hW3.out]; infer_instance
  have iw19 : Le W2.heap.size W3 := by rw [hW3.out]; infer_instance
  have iw20 : Grew W2.heap.size W2 W3 := by rw [hW3.out]; infer_instance
  have iw21 : Lt (w.heap.size) W3 := by rw [hW3.out]; infer_instance
  have i7 : Lt W2.heap.size W3 := ⟨by rw [hW3.out]; go_simp⟩
  have cw22 : W3.cell? ⟨w.heap.size, 0, none⟩ = some (.int .i64 n.m) := by rw [hW3.out]; go_simp
  have cw23 : W3.cell? ⟨w.heap.size, 1, none⟩ = some (.slice r.hA n.hs.length r.hc) := by rw [hW3.out]; go_simp
  have cw24 : W3.cell? ⟨w.heap.size, 2, none⟩ = some (.slice r.pA n.ps.length r.pc) := by rw [hW3.out]; go_simp
  have cw25 : W3.cell? ⟨W2.heap.size, 0, none⟩ = some (.int .i64 (n.m + 1)) := by rw [hW3.out]; go_simp
  have cw26 : W3.cell? ⟨W2.heap.size, 1, none⟩ = some (.slice gA n.hs.length gc) := by rw [hW3.out]; go_simp
  have cw27 : W3.cell? ⟨W2.heap.size, 2, none⟩ = some (.slice qA n.ps.length qc) := by rw [hW3.out]; go_simp
  have C3 := Lib.hid (C2.out.wide : NetIs W3.heap.size W3 ⟨gA, gc, qA, qc⟩ n)
  have N3 := Lib.hid (N2.out.wide : NetIs W3.heap.size W3 r n)
  have j1 : Grew w.heap.size w W2 := grew_tr iw4 (inferInstance : Grew W1.heap.size W1 W2)
  have j2 : Le w.heap.size W2 := ⟨Nat.le_trans iw3.out (inferInstance : Le W1.heap.size W2).out⟩
  have j3 : Grew w.heap.size w W3 := grew_tr j1 (inferInstance : Grew W2.heap.size W2 W3)
  have j4 : Le w.heap.size W3 := ⟨Nat.le_trans j2.out (inferInstance : Le W2.heap.size W3).out⟩
  clear hW3 C2 N2
  refine wp_region_lat (by kernel_rfl) (by kernel_rfl) ?_
  repeat (go_big_quiet_step ((first | (go_at_call 83; (first | with_reducible exact Calls.lat_of (rLeastOf_c r n HV.out _ _ N3.out.up) | with_reducible exact Calls.lat_of (leastOf_plus ⟨gA, gc, qA, qc⟩ n HP.out _ _ C3.out.up))))))
  refine wpQuiet_nil ?_
  rintro _ ⟨δq, rfl⟩
  go_wp2_with (fail)
  go_ret2
  rw [HM.out]
  exact ⟨rfl, lat_ex⟩

set_option maxRecDepth 100000 in
set_option maxHeartbeats 8000000 in
/-- 'Loose': a net without a pair, in memory of the call's own. -/
theorem rLoose_c (r : NetR) (n : Net) (i q : Nat) (hq : n.ps.length = q + 1) (hi : i ≤ q) (h6 : n.hs.length ≤ 6) (h8 : n.ps.length ≤ 8) (B : Nat) (w : World) [hB : Le B w] (hN : NetIs B w r n) :
    Calls Try.prog 55 #[netV r n, .int .i64 i] w fun e w' => ∃ (r' : NetR) (δ : World), e = .returned (.agg #[.int .i64 n.m, .slice r'.hA n.hs.length r'.hc, .slice r'.pA q r'.pc]) ∧ w' = lat w δ ∧ Hid (NetIs (lat w δ).heap.size (lat w δ) r' (looseN n i)) := by
  have HN := Lib.hid hN
  have HQ := Lib.hid hq
  have hlt : i < n.ps.length := by omega
  have HD := Lib.hid hlt
  clear hN hq hlt
  go_enter Try.func55, Try.ntmps55
  go_upto_region 1 with fail
  refine wp_name fun W1 hW1 => ?_
  have iw1 : Le B W1 := by rw [hW1.out]; infer_instance
  have iw2 : Grew B w W1 := by rw [hW1.out]; infer_instance
  have iw3 : Le w.heap.size W1 := by rw [hW1.out]; infer_instance
  have iw4 : Grew w.heap.size w W1 := by rw [hW1.out]; infer_instance
  have iw5 : Lt (w.heap.size) W1 := by rw [hW1.out]; infer_instance
  have iw6 : Lt (w.heap.size + 1) W1 := by rw [hW1.out]; infer_instance
  have cw7 : W1.cell? ⟨w.heap.size, 0, none⟩ = some (.int .i64 n.m) := by rw [hW1.out]; go_simp
  have cw8 : W1.cell? ⟨w.heap.size, 1, none⟩ = some (.slice r.hA n.hs.length r.hc) := by rw [hW1.out]; go_simp
  have cw9 : W1.cell? ⟨w.heap.size, 2, none⟩ = some (.slice r.pA n.ps.length r.pc) := by rw [hW1.out]; go_simp
  have BR1 : Hid (Box W1 (w.heap.size + 1) 25 #[.int .i64 0, .slice none 0 0, .slice none 0 0]) := by rw [hW1.out]; exact Box.new (by simp)
  have N1 := Lib.hid (HN.out.up : NetIs B W1 r n)
  clear hW1
  go_wp2_with (fail)
  refine (copy_c r n B _ N1.out.up (by omega) (by omega)).mono ?_
  rintro e w1 ⟨⟨gA, gc, qA, qc⟩, δ1, rfl, rfl, ho⟩
  obtain ⟨W2, hW2⟩ : ∃ W2, Hid (W2 = lat W1 δ1) := ⟨_, rfl⟩
  rw [← hW2.out] at ho ⊢
  have iw10 : Le B W2 := by rw [hW2.out]; infer_instance
  have iw11 : Grew B W1 W2 := by rw [hW2.out]; infer_instance
  have iw12 : Le W1.heap.size W2 := by rw [hW2.out]; infer_instance
  have iw13 : Grew W1.heap.size W1 W2 := by rw [hW2.out]; infer_instance
  have iw14 : Lt (w.heap.size) W2 := by rw [hW2.out]; infer_instance
  have cw15 : W2.cell? ⟨w.heap.size, 0, none⟩ = some (.int .i64 n.m) := by rw [hW2.out]; go_simp
  have cw16 : W2.cell? ⟨w.heap.size, 1, none⟩ = some (.slice r.hA n.hs.length r.hc) := by rw [hW2.out]; go_simp
  have cw17 : W2.cell? ⟨w.heap.size, 2, none⟩ = some (.slice r.pA n.ps.length r.pc) := by rw [hW2.out]; go_simp
  have BR2 : Hid (Box W2 (w.heap.size + 1) 25 #[.int .i64 0, .slice none 0 0, .slice none 0 0]) := by rw [hW2.out]; exact BR1.out.lat _
  have P2 := Lib.hid ho.1
  have N2 := Lib.hid (N1.out.up : NetIs B W2 r n)
  have j1 : Grew w.heap.size w W2 := grew_tr iw4 (inferInstance : Grew W1.heap.size W1 W2)
  have j2 : Le w.heap.size W2 := ⟨Nat.le_trans iw3.out (inferInstance : Le W1.heap.size W2).out⟩
  clear ho hW2 N1 BR1
  rw [show netV ⟨gA, gc, qA, qc⟩ n = Value.agg #[.int .i64 n.m, .slice gA n.hs.length gc, .slice qA n.ps.length qc] from rfl]
  go_upto_region 2 with fail
  refine wp_name fun W3 hW3 => ?_
  have HB3 : Hid (Box W3 W2.heap.size 25 #[.int .i64 n.m, .slice gA n.hs.length gc, .slice qA n.ps.length qc]) := by rw [hW3.out]; exact Box.new rfl
  have iw18 : Le B W3 := by rw [hW3.out]; infer_instance
  have iw19 : Grew B W2 W3 := by rw [hW3.out]; infer_instance
  have iw20 : Le W2.heap.size W3 := by rw [hW3.out]; infer_instance
  have iw21 : Grew W2.heap.size W2 W3 := by rw [hW3.out]; infer_instance
  have iw22 : Lt (w.heap.size) W3 := by rw [hW3.out]; infer_instance
  have cw23 : W3.cell? ⟨w.heap.size, 0, none⟩ = some (.int .i64 n.m) := by rw [hW3.out]; go_simp
  have cw24 : W3.cell? ⟨w.heap.size, 1, none⟩ = some (.slice r.hA n.hs.length r.hc) := by rw [hW3.out]; go_simp
  have cw25 : W3.cell? ⟨w.heap.size, 2, none⟩ = some (.slice r.pA n.ps.length r.pc) := by rw [hW3.out]; go_simp
  have cw26 : W3.cell? ⟨W2.heap.size, 0, none⟩ = some (.int .i64 n.m) := by rw [hW3.out]; go_simp
  have cw27 : W3.cell? ⟨W2.heap.size, 1, none⟩ = some (.slice gA n.hs.length gc) := by rw [hW3.out]; go_simp
  have cw28 : W3.cell? ⟨W2.heap.size, 2, none⟩ = some (.slice qA n.ps.length qc) := by rw [hW3.out]; go_simp
  have fw29 : W3.frozen? ⟨W2.heap.size, 2, none⟩ = false := by rw [hW3.out]; go_simp
  have i7 : Lt W2.heap.size W3 := ⟨by rw [hW3.out]; go_simp⟩
  have n1 : NeN w.heap.size W2.heap.size := ⟨Nat.ne_of_lt (inferInstance : Lt w.heap.size W2).out⟩
  have n2 : NeN W2.heap.size w.heap.size := ⟨Nat.ne_of_gt (inferInstance : Lt w.heap.size W2).out⟩
  have N3 := Lib.hid (N2.out.up : NetIs B W3 r n)
  clear hW3 N2
  obtain ⟨bh, oh, hAh, hbh, _⟩ := N3.out.2.pr HD.out
  obtain ⟨rhA, rhc, rpA, rpc⟩ := r
  have hAh : rpA = some ⟨bh, oh, none⟩ := hAh
  subst hAh
  have ibh : Lt bh W3 := ⟨Nat.lt_of_lt_of_le hbh (inferInstance : Le B W3).out⟩
  have m0 : n.ps.length ≤ rpc := N3.out.2.1
  have m1 : (i : Int) + 1 ≤ (n.ps.length : Int) := by have := HD.out; omega
  have m2 : (i : Int) ≤ (rpc : Int) := by have := HD.out; omega
  have m3 : (i : Int) ≤ 8 := by have := HD.out; omega
  have m4 : ¬ rpc = 0 := by have := HD.out; omega
  have m5 : (0 : Int) ≤ (i : Int) := by omega
  have m7 : IntKind.i64.wrap ((i : Int) + 1) = (i : Int) + 1 := IntWalk.i64_in _ (by omega)
  have m6 : (0 : Int) ≤ (i : Int) + 1 := by omega
  have L1 : ((n.ps.take i).flatMap encPr).length = i * 2 := by rw [len_enc encPr 2 (fun _ => rfl), List.length_take, Nat.min_eq_left (Nat.le_of_lt HD.out)]
  have S1 := N3.out.2.take i
  have S2 := N3.out.2.drop (size := 2) (fun _ => rfl) (i + 1) HD.out
  have hlen : i + (n.ps.length - (i + 1)) = q := by have := HQ.out; omega
  have hcut : (n.ps.take i).flatMap encPr ++ (n.ps.drop (i + 1)).flatMap encPr = (looseN n i).ps.flatMap encPr := by rw [← List.flatMap_append]; rfl
  have L2 : ((n.ps.drop (i + 1)).flatMap encPr).length = (n.ps.length - (i + 1)) * 2 := by rw [len_enc encPr 2 (fun _ => rfl), List.length_drop]
  have HL := Lib.hid hlen
  have HC := Lib.hid hcut
  clear hlen hcut
  go_cut [] (fun wx => ∃ (A4 : Option Addr) (c4 : Nat), wx.ownsRow W3.heap.size 63 2 (.slice A4 q c4) q ((looseN n i).ps.flatMap encPr) ∧
    Box wx W2.heap.size 25 #[.int .i64 n.m, .slice gA n.hs.length gc, .slice A4 q c4] ∧ Grew W2.heap.size W2 wx ∧ Le W2.heap.size wx)
  case first =>
      have x1 : i ≤ 1000000 := by omega
      have x2 : (16 : Nat) ≤ 1000 := by omega
      have x3 : i + (n.ps.length - (i + 1)) ≤ 1000000 := by omega
      have i8 : LeN W2.heap.size W2.heap.size := ⟨Nat.le_refl _⟩
      clear hi h6 h8
      by_cases hc : rpc = i + 1
      · subst hc
        have S2' : Sl encPr B W3 (some ⟨bh, oh, none⟩) 0 (n.ps.drop (i + 1)) := by simpa using S2
        have m8 : (i : Int) ≤ (i : Int) + 1 := by omega
        clear m0
        have m9 : (i : Int) ≤ ((i + 1 : Nat) : Int) := by omega
        clear S2
        go_region_held3 (fun W => W.cell? ⟨w.heap.size, 0, none⟩ = some (.int .i64 n.m) ∧ W.cell? ⟨w.heap.size, 1, none⟩ = some (.slice rhA n.hs.length rhc) ∧ W.cell? ⟨w.heap.size, 2, none⟩ = some (.slice (some ⟨bh, oh, none⟩) n.ps.length (i + 1)))
          (refine ⟨?_, ?_, ?_⟩ <;> go_simp)
          (first
            | (refine step_append_lit W3 slPr (.tmp 8) (.tmp 12) rfl rfl (v := .slice (some ⟨_, 0, none⟩) 0 0) (own_litd (W := W3) (Nat.le_refl _) rfl) rfl (B := B) (A := some ⟨bh, oh, none⟩) (m := i) (c := (i + 1)) (news := (n.ps.take i).flatMap encPr) rfl (S1.up.2.2) L1 (one_enc encPr one_pr _) x1 x2 ?_; intro A1 c1 δ1 own1 hg1)
            | (refine step_append_cells W3 slPr (.tmp 13) (.tmp 18) rfl rfl (v := .slice A1 i c1) (n := i) (xs := (n.ps.take i).flatMap encPr) own1 rfl (B := B) (A := some ⟨bh, oh, none⟩) (m := n.ps.length - (i + 1)) (c := 0) (news := (n.ps.drop (i + 1)).flatMap encPr) rfl (S2'.up.2.2) L2 (one_enc encPr one_pr _) x3 x2 ?_; intro A2 c2 δ2 own2 hg2))
        go_wp2_with (fail)
        go_meet
        rw [HL.out, HC.out] at own2
        rw [HL.out]
        have hne : (Value.slice A2 q c2).ownBlock ≠ some W2.heap.size := fun e => by have h1 : W3.heap.size ≤ W2.heap.size := (own_block own2 _ e).1; have := i7.out; omega
        exact ⟨A2, c2, own_far own2 (p := ⟨W2.heap.size, 2, none⟩) hne, ((((HB3.out.alloc _).drew).latB i7.out δ1).latB i7.out δ2).set 2 _, inferInstance, inferInstance⟩
      · rw [if_neg hc] at S2
        have S2' : Sl encPr B W3 (some ⟨bh, oh + (i + 1) * 2, none⟩) (rpc - (i + 1)) (n.ps.drop (i + 1)) := by simpa [Addr.add_lit] using S2
        clear S2
        go_region_held3 (fun W => W.cell? ⟨w.heap.size, 0, none⟩ = some (.int .i64 n.m) ∧ W.cell? ⟨w.heap.size, 1, none⟩ = some (.slice rhA n.hs.length rhc) ∧ W.cell? ⟨w.heap.size, 2, none⟩ = some (.slice (some ⟨bh, oh, none⟩) n.ps.length rpc))
          (refine ⟨?_, ?_, ?_⟩ <;> go_simp)
          (first
            | (refine step_append_lit W3 slPr (.tmp 8) (.tmp 12) rfl rfl (v := .slice (some ⟨_, 0, none⟩) 0 0) (own_litd (W := W3) (Nat.le_refl _) rfl) rfl (B := B) (A := some ⟨bh, oh, none⟩) (m := i) (c := rpc) (news := (n.ps.take i).flatMap encPr) rfl (S1.up.2.2) L1 (one_enc encPr one_pr _) x1 x2 ?_; intro A1 c1 δ1 own1 hg1)
            | (refine step_append_cells W3 slPr (.tmp 13) (.tmp 18) rfl rfl (v := .slice A1 i c1) (n := i) (xs := (n.ps.take i).flatMap encPr) own1 rfl (B := B) (A := some ⟨bh, oh + (i + 1) * 2, none⟩) (m := n.ps.length - (i + 1)) (c := rpc - (i + 1)) (news := (n.ps.drop (i + 1)).flatMap encPr) rfl (S2'.up.2.2) L2 (one_enc encPr one_pr _) x3 x2 ?_; intro A2 c2 δ2 own2 hg2))
        go_wp2_with (fail)
        go_meet
        rw [HL.out, HC.out] at own2
        rw [HL.out]
        have hne : (Value.slice A2 q c2).ownBlock ≠ some W2.heap.size := fun e => by have h1 : W3.heap.size ≤ W2.heap.size := (own_block own2 _ e).1; have := i7.out; omega
        exact ⟨A2, c2, own_far own2 (p := ⟨W2.heap.size, 2, none⟩) hne, ((((HB3.out.alloc _).drew).latB i7.out δ1).latB i7.out δ2).set 2 _, inferInstance, inferInstance⟩
  case rest =>
    obtain ⟨A4, c4, hown, hbx, g1, g2⟩ := hcut
    have q0 := hbx.cell (i := 0) rfl
    have q1 := hbx.cell (i := 1) rfl
    have q2 := hbx.cell (i := 2) rfl
    have iq := hbx.lt
    have hw2 : w.heap.size + 1 < W2.heap.size := BR2.out.lt_
    have BR : Hid (Box wc (w.heap.size + 1) 25 #[.int .i64 0, .slice none 0 0, .slice none 0 0]) := (g1.out.2.2.2 _ hw2).trans BR2.out
    have ibr := BR.out.lt
    have s0 := BR.out.cell (i := 0) rfl
    have s1 := BR.out.cell (i := 1) rfl
    have s2 := BR.out.cell (i := 2) rfl
    have t0 := BR.out.free 0
    have t1 := BR.out.free 1
    have t2 := BR.out.free 2
    have HOP := Lib.hid hown
    have HOH := Lib.hid (owns_up P2.out (hg := g1))
    have k1 : Grew w.heap.size w wc := grew_tr j1 g1
    have k2 : Le w.heap.size wc := ⟨Nat.le_trans j2.out g2.out⟩
    have w3 : W2.heap.size < W3.heap.size := i7.out
    have w1 : w.heap.size + 1 < W1.heap.size := iw6.out
    have w4 : W1.heap.size ≤ W2.heap.size := (inferInstance : Le W1.heap.size W2).out
    clear hown hbx P2 N3 HB3 HL HC S1 S2 BR2 m0 m1 m2 m3 m4 m5 m6 m7
    go_wp2_with (fail)
    refine bodyPost_ret (v := .agg #[.int .i64 n.m, .slice gA n.hs.length gc, .slice A4 q c4]) ?_ rfl ?_
    · simp only [results, Try.results55]
      go_simp
    · refine ⟨⟨gA, gc, A4, c4⟩, rfl, _, lat_def, ?_⟩
      rw [← lat_def (w := w)]
      have hll : (looseN n i).ps.length = q := loose_len HQ.out (by have := HD.out; have := HQ.out; omega)
      have ow : ∀ {s m k : Nat} {e : TypeId} {v : Value} {xs : List Value} {W : World} {j : Nat} {u : Value}, (hW : W1.heap.size ≤ s) → W.ownsRow s e m v k xs → (W.setCell ⟨w.heap.size + 1, j, none⟩ u).ownsRow s e m v k xs := fun hW h => ownsRow_set_below h (Nat.lt_of_lt_of_le w1 hW)
      refine ⟨Sl.of_own (base := W1.heap.size) (ow (Nat.le_refl _) (ow (Nat.le_refl _) (ow (Nat.le_refl _) HOH.out))), ?_⟩
      have h1 := HOP.out
      rw [← hll] at h1 ⊢
      exact Sl.of_own (base := W3.heap.size) (ow (by omega) (ow (by omega) (ow (by omega) h1)))

end Go.Proofs.Ytbfehifidlojlaa
