/- Layer 4: MeshCalm. -/
import Derived.Test.YtbfehifidlojlaaMe30
import Derived.Test.YtbfehifidlojlaaMe44
namespace Go.Proofs.Ytbfehifidlojlaa
open Go.RowKit
open Me

theorem sameL_rfl'' (l : List Int) : sameL l l = true := by simp [sameL]
set_option maxRecDepth 100000 in
set_option maxHeartbeats 4000000 in
theorem calmFar_c (r : NetR) (n : Net) (A : Option Addr) (c : Nat) (l : List Int) (B : Nat) (w : World) [hB : Le B w] (hN : NetIs B w r n) (hS : Sl encI B w A c l) (hg : farB n 4 = true) :
    Calls Try.prog 4 #[netV r n, .slice A l.length c] w fun e w' => e = .returned (.bool true) ∧ ∃ δ, w' = lat w δ := by
  have z1 := hS.len
  have HN := Lib.hid hN
  have HG := Lib.hid hg
  clear hg
  clear hN hS
  go_enter Try.func4, Try.ntmps4
  go_wp2_with (first
    | (go_at_call 22; refine (far_c r n 4 (by omega) _ HG.out B _ HN.out.up).mono ?_; rintro e w1 ⟨rfl, δ, rfl⟩)
    | (go_at_call 16; refine (works_c _).mono ?_; rintro e w1 ⟨rfl, δ2, rfl⟩))
  go_ret
  exact ⟨rfl, lat_ex⟩
set_option maxRecDepth 100000 in
set_option maxHeartbeats 4000000 in
theorem calmLong_c (r : NetR) (n : Net) (A : Option Addr) (c : Nat) (l : List Int) (B : Nat) (w : World) [hB : Le B w] (hN : NetIs B w r n) (hS : Sl encI B w A c l) (hg : farB n 4 = false) (hl : 40 < l.length) :
    Calls Try.prog 4 #[netV r n, .slice A l.length c] w fun e w' => e = .returned (.bool true) ∧ ∃ δ, w' = lat w δ := by
  have z1 := hS.len
  have HN := Lib.hid hN
  have HG := Lib.hid hg
  have d1 : decide ((40 : Int) < (l.length : Int)) = true := by simp; omega
  clear hg
  clear hN hS
  go_enter Try.func4, Try.ntmps4
  go_wp2_with (first
    | (go_at_call 22; refine (far_c r n 4 (by omega) _ HG.out B _ HN.out.up).mono ?_; rintro e w1 ⟨rfl, δ, rfl⟩)
    | (go_at_call 16; refine (works_c _).mono ?_; rintro e w1 ⟨rfl, δ2, rfl⟩))
  go_ret
  exact ⟨rfl, lat_ex⟩

set_option maxRecDepth 100000 in
set_option maxHeartbeats 8000000 in
theorem calmYes_c (r : NetR) (n : Net) (A : Option Addr) (c : Nat) (l : List Int) (B : Nat) (w : World) [hB : Le B w] (hN : NetIs B w r n) (hS : Sl encI B w A c l) (hg : farB n 4 = false) (hl : l.length ≤ 40) (hv : valid n = true) (ho : isOrd n l = true) :
    Calls Try.prog 4 #[netV r n, .slice A l.length c] w fun e w' => e = .returned (.bool true) ∧ ∃ δ, w' = lat w δ := by
  have HO := Lib.hid ho
  clear ho
  have z1 := hS.len
  have hh : n.hs.length ≤ 40 ∧ n.ps.length ≤ 40 := by simp [farB, hugeB] at hg; omega
  have d1 : decide ((40 : Int) < (l.length : Int)) = false := by simp; omega
  have HN := Lib.hid hN
  have HS := Lib.hid hS
  have HG := Lib.hid hg
  have HV := Lib.hid hv
  have HH := Lib.hid hh
  clear hN hS hg hv hh
  go_enter Try.func4, Try.ntmps4
  go_upto_region 3 with (go_at_call 22; refine (far_c r n 4 (by omega) _ HG.out B _ HN.out.up).mono ?_; rintro e w1 ⟨rfl, δ, rfl⟩)
  refine wp_name fun W1 hW1 => ?_
  have iw1 : Le B W1 := by rw [hW1.out]; infer_instance
  have iw2 : Grew B w W1 := by rw [hW1.out]; infer_instance
  have iw3 : Le w.heap.size W1 := by rw [hW1.out]; infer_instance
  have iw4 : Grew w.heap.size w W1 := by rw [hW1.out]; infer_instance
  have iw5 : Lt (w.heap.size) W1 := by rw [hW1.out]; infer_instance
  have cw6 : W1.cell? ⟨w.heap.size, 0, none⟩ = some (.int .i64 n.m) := by rw [hW1.out]; go_simp
  have cw7 : W1.cell? ⟨w.heap.size, 1, none⟩ = some (.slice r.hA n.hs.length r.hc) := by rw [hW1.out]; go_simp
  have cw8 : W1.cell? ⟨w.heap.size, 2, none⟩ = some (.slice r.pA n.ps.length r.pc) := by rw [hW1.out]; go_simp
  have N1 := Lib.hid (HN.out.up : NetIs B W1 r n)
  have Q1 := Lib.hid (HS.out.up : Sl encI B W1 A c l)
  clear hW1
  go_wp2_with (fail)
  refine (copy_c r n B _ N1.out.up (by have := HH.out; omega) (by have := HH.out; omega)).mono ?_
  rintro e w1 ⟨r', δ1, rfl, rfl, ho⟩
  have hcp := Lib.hid ho.is
  clear ho
  go_wp2_with (fail)
  refine (copied_c A c _ l rfl (by omega) B _ Q1.out.up).mono ?_
  rintro e w1 ⟨Ac, cc, δ2, rfl, rfl, hSc⟩
  obtain ⟨W2, hW2⟩ : ∃ W2, Hid (W2 = lat (lat W1 δ1) δ2) := ⟨_, rfl⟩
  rw [← hW2.out] at hSc ⊢
  have iw9 : Le B W2 := by rw [hW2.out]; infer_instance
  have iw10 : Grew B W1 W2 := by rw [hW2.out]; infer_instance
  have iw11 : Le W1.heap.size W2 := by rw [hW2.out]; infer_instance
  have iw12 : Grew W1.heap.size W1 W2 := by rw [hW2.out]; infer_instance
  have iw13 : Lt (w.heap.size) W2 := by rw [hW2.out]; infer_instance
  have cw14 : W2.cell? ⟨w.heap.size, 0, none⟩ = some (.int .i64 n.m) := by rw [hW2.out]; go_simp
  have cw15 : W2.cell? ⟨w.heap.size, 1, none⟩ = some (.slice r.hA n.hs.length r.hc) := by rw [hW2.out]; go_simp
  have cw16 : W2.cell? ⟨w.heap.size, 2, none⟩ = some (.slice r.pA n.ps.length r.pc) := by rw [hW2.out]; go_simp
  have M2 : Hid (NetIs W2.heap.size W2 r' n) := by rw [hW2.out]; exact hcp.out.wide
  have N2 := Lib.hid (N1.out.up : NetIs B W2 r n)
  have Q2 := Lib.hid (Q1.out.up : Sl encI B W2 A c l)
  clear hW2 hcp
  go_upto_region 4 with fail
  refine wp_name fun W3 hW3 => ?_
  have iw17 : Le B W3 := by rw [hW3.out]; infer_instance
  have iw18 : Grew B W2 W3 := by rw [hW3.out]; infer_instance
  have iw19 : Le W2.heap.size W3 := by rw [hW3.out]; infer_instance
  have iw20 : Grew W2.heap.size W2 W3 := by rw [hW3.out]; infer_instance
  have iw21 : Lt (w.heap.size) W3 := by rw [hW3.out]; infer_instance
  have i7 : Lt W2.heap.size W3 := ⟨by rw [hW3.out]; go_simp⟩
  have cw22 : W3.cell? ⟨w.heap.size, 0, none⟩ = some (.int .i64 n.m) := by rw [hW3.out]; go_simp
  have cw23 : W3.cell? ⟨w.heap.size, 1, none⟩ = some (.slice r.hA n.hs.length r.hc) := by rw [hW3.out]; go_simp
  have cw24 : W3.cell? ⟨w.heap.size, 2, none⟩ = some (.slice r.pA n.ps.length r.pc) := by rw [hW3.out]; go_simp
  have cw25 : W3.cell? ⟨W2.heap.size, 0, none⟩ = some (.int .i64 n.m) := by rw [hW3.out]; go_simp
  have cw26 : W3.cell? ⟨W2.heap.size, 1, none⟩ = some (.slice r'.hA n.hs.length r'.hc) := by rw [hW3.out]; go_simp
  have cw27 : W3.cell? ⟨W2.heap.size, 2, none⟩ = some (.slice r'.pA n.ps.length r'.pc) := by rw [hW3.out]; go_simp
  have M3 := Lib.hid (M2.out.wide : NetIs W3.heap.size W3 r' n)
  have N3 := Lib.hid (N2.out.wide : NetIs W3.heap.size W3 r n)
  have Q3 := Lib.hid (Q2.out.wide : Sl encI W3.heap.size W3 A c l)
  have X3 := Lib.hid (hSc.out.wide : Sl encI W3.heap.size W3 Ac cc l)
  have j1 : Grew w.heap.size w W2 := grew_tr iw4 (inferInstance : Grew W1.heap.size W1 W2)
  have j2 : Le w.heap.size W2 := ⟨Nat.le_trans iw3.out (inferInstance : Le W1.heap.size W2).out⟩
  have j3 : Grew w.heap.size w W3 := grew_tr j1 (inferInstance : Grew W2.heap.size W2 W3)
  have j4 : Le w.heap.size W3 := ⟨Nat.le_trans j2.out (inferInstance : Le W2.heap.size W3).out⟩
  have n1 : NeN w.heap.size W2.heap.size := ⟨Nat.ne_of_lt (inferInstance : Lt w.heap.size W2).out⟩
  have n2 : NeN W2.heap.size w.heap.size := ⟨Nat.ne_of_gt (inferInstance : Lt w.heap.size W2).out⟩
  clear hW3 M2 N2 Q2 hSc N1 Q1
  go_wp2_with (first
    | (go_at_call 20; refine (regretP_yes r' n HV.out Ac cc l HO.out _ _ X3.out.up M3.out.up).mono ?_; rintro e w1 ⟨rfl, δa, rfl⟩)
    | (go_at_call 23; refine (rRegret_yes r n HV.out A c l HO.out _ _ Q3.out.up N3.out.up).mono ?_; rintro e w1 ⟨rfl, δb, rfl⟩)
    | (go_at_call 24; refine (calmP_yes r' n HV.out _ _ M3.out.up).mono ?_; rintro e w1 ⟨A1, c1, δc, rfl, rfl, hS1⟩)
    | (go_at_call 25; refine (rCalm_yes r n HV.out _ _ N3.out.up).mono ?_; rintro e w1 ⟨A2, c2, δd, rfl, rfl, hS2⟩))
  refine (sameInts_c A1 A2 c1 c2 _ _ (calm n) (calm n) (ord_len (calm_ord (hasO_v HV.out))) (ord_len (calm_ord (hasO_v HV.out))) true (sameL_rfl'' _) _ _ _ hS1.out.wide hS2.out.wide).mono ?_
  rintro e w1 ⟨rfl, δ7, rfl⟩
  clear hS1 hS2
  go_wp2_with (fail)
  refine (same_c r' r n _ _ M3.out.up N3.out.up).mono ?_
  rintro e w1 ⟨rfl, δ8, rfl⟩
  go_wp2_with (fail)
  refine (sameInts_c Ac A cc c _ _ l l rfl rfl true (sameL_rfl'' _) _ _ _ X3.out.up Q3.out.up).mono ?_
  rintro e w1 ⟨rfl, δ9, rfl⟩
  go_wp2_with (go_at_call 16; refine (works_c _).mono ?_; rintro e w1 ⟨rfl, δw, rfl⟩)
  go_ret
  exact ⟨rfl, lat_ex⟩

set_option maxRecDepth 100000 in
set_option maxHeartbeats 8000000 in
theorem calmArg_c (r : NetR) (n : Net) (A : Option Addr) (c : Nat) (l : List Int) (B : Nat) (w : World) [hB : Le B w] (hN : NetIs B w r n) (hS : Sl encI B w A c l) (hg : farB n 4 = false) (hl : l.length ≤ 40) (hv : valid n = true) (ho : isOrd n l = false) :
    Calls Try.prog 4 #[netV r n, .slice A l.length c] w fun e w' => e = .returned (.bool true) ∧ ∃ δ, w' = lat w δ := by
  have HO := Lib.hid ho
  clear ho
  have z1 := hS.len
  have hh : n.hs.length ≤ 40 ∧ n.ps.length ≤ 40 := by simp [farB, hugeB] at hg; omega
  have d1 : decide ((40 : Int) < (l.length : Int)) = false := by simp; omega
  have HN := Lib.hid hN
  have HS := Lib.hid hS
  have HG := Lib.hid hg
  have HV := Lib.hid hv
  have HH := Lib.hid hh
  clear hN hS hg hv hh
  go_enter Try.func4, Try.ntmps4
  go_upto_region 3 with (go_at_call 22; refine (far_c r n 4 (by omega) _ HG.out B _ HN.out.up).mono ?_; rintro e w1 ⟨rfl, δ, rfl⟩)
  refine wp_name fun W1 hW1 => ?_
  have iw1 : Le B W1 := by rw [hW1.out]; infer_instance
  have iw2 : Grew B w W1 := by rw [hW1.out]; infer_instance
  have iw3 : Le w.heap.size W1 := by rw [hW1.out]; infer_instance
  have iw4 : Grew w.heap.size w W1 := by rw [hW1.out]; infer_instance
  have iw5 : Lt (w.heap.size) W1 := by rw [hW1.out]; infer_instance
  have cw6 : W1.cell? ⟨w.heap.size, 0, none⟩ = some (.int .i64 n.m) := by rw [hW1.out]; go_simp
  have cw7 : W1.cell? ⟨w.heap.size, 1, none⟩ = some (.slice r.hA n.hs.length r.hc) := by rw [hW1.out]; go_simp
  have cw8 : W1.cell? ⟨w.heap.size, 2, none⟩ = some (.slice r.pA n.ps.length r.pc) := by rw [hW1.out]; go_simp
  have N1 := Lib.hid (HN.out.up : NetIs B W1 r n)
  have Q1 := Lib.hid (HS.out.up : Sl encI B W1 A c l)
  clear hW1
  go_wp2_with (fail)
  refine (copy_c r n B _ N1.out.up (by have := HH.out; omega) (by have := HH.out; omega)).mono ?_
  rintro e w1 ⟨r', δ1, rfl, rfl, ho⟩
  have hcp := Lib.hid ho.is
  clear ho
  go_wp2_with (fail)
  refine (copied_c A c _ l rfl (by omega) B _ Q1.out.up).mono ?_
  rintro e w1 ⟨Ac, cc, δ2, rfl, rfl, hSc⟩
  obtain ⟨W2, hW2⟩ : ∃ W2, Hid (W2 = lat (lat W1 δ1) δ2) := ⟨_, rfl⟩
  rw [← hW2.out] at hSc ⊢
  have iw9 : Le B W2 := by rw [hW2.out]; infer_instance
  have iw10 : Grew B W1 W2 := by rw [hW2.out]; infer_instance
  have iw11 : Le W1.heap.size W2 := by rw [hW2.out]; infer_instance
  have iw12 : Grew W1.heap.size W1 W2 := by rw [hW2.out]; infer_instance
  have iw13 : Lt (w.heap.size) W2 := by rw [hW2.out]; infer_instance
  have cw14 : W2.cell? ⟨w.heap.size, 0, none⟩ = some (.int .i64 n.m) := by rw [hW2.out]; go_simp
  have cw15 : W2.cell? ⟨w.heap.size, 1, none⟩ = some (.slice r.hA n.hs.length r.hc) := by rw [hW2.out]; go_simp
  have cw16 : W2.cell? ⟨w.heap.size, 2, none⟩ = some (.slice r.pA n.ps.length r.pc) := by rw [hW2.out]; go_simp
  have M2 : Hid (NetIs W2.heap.size W2 r' n) := by rw [hW2.out]; exact hcp.out.wide
  have N2 := Lib.hid (N1.out.up : NetIs B W2 r n)
  have Q2 := Lib.hid (Q1.out.up : Sl encI B W2 A c l)
  clear hW2 hcp
  go_upto_region 4 with fail
  refine wp_name fun W3 hW3 => ?_
  have iw17 : Le B W3 := by rw [hW3.out]; infer_instance
  have iw18 : Grew B W2 W3 := by rw [hW3.out]; infer_instance
  have iw19 : Le W2.heap.size W3 := by rw [hW3.out]; infer_instance
  have iw20 : Grew W2.heap.size W2 W3 := by rw [hW3.out]; infer_instance
  have iw21 : Lt (w.heap.size) W3 := by rw [hW3.out]; infer_instance
  have i7 : Lt W2.heap.size W3 := ⟨by rw [hW3.out]; go_simp⟩
  have cw22 : W3.cell? ⟨w.heap.size, 0, none⟩ = some (.int .i64 n.m) := by rw [hW3.out]; go_simp
  have cw23 : W3.cell? ⟨w.heap.size, 1, none⟩ = some (.slice r.hA n.hs.length r.hc) := by rw [hW3.out]; go_simp
  have cw24 : W3.cell? ⟨w.heap.size, 2, none⟩ = some (.slice r.pA n.ps.length r.pc) := by rw [hW3.out]; go_simp
  have cw25 : W3.cell? ⟨W2.heap.size, 0, none⟩ = some (.int .i64 n.m) := by rw [hW3.out]; go_simp
  have cw26 : W3.cell? ⟨W2.heap.size, 1, none⟩ = some (.slice r'.hA n.hs.length r'.hc) := by rw [hW3.out]; go_simp
  have cw27 : W3.cell? ⟨W2.heap.size, 2, none⟩ = some (.slice r'.pA n.ps.length r'.pc) := by rw [hW3.out]; go_simp
  have M3 := Lib.hid (M2.out.wide : NetIs W3.heap.size W3 r' n)
  have N3 := Lib.hid (N2.out.wide : NetIs W3.heap.size W3 r n)
  have Q3 := Lib.hid (Q2.out.wide : Sl encI W3.heap.size W3 A c l)
  have X3 := Lib.hid (hSc.out.wide : Sl encI W3.heap.size W3 Ac cc l)
  have j1 : Grew w.heap.size w W2 := grew_tr iw4 (inferInstance : Grew W1.heap.size W1 W2)
  have j2 : Le w.heap.size W2 := ⟨Nat.le_trans iw3.out (inferInstance : Le W1.heap.size W2).out⟩
  have j3 : Grew w.heap.size w W3 := grew_tr j1 (inferInstance : Grew W2.heap.size W2 W3)
  have j4 : Le w.heap.size W3 := ⟨Nat.le_trans j2.out (inferInstance : Le W2.heap.size W3).out⟩
  have n1 : NeN w.heap.size W2.heap.size := ⟨Nat.ne_of_lt (inferInstance : Lt w.heap.size W2).out⟩
  have n2 : NeN W2.heap.size w.heap.size := ⟨Nat.ne_of_gt (inferInstance : Lt w.heap.size W2).out⟩
  clear hW3 M2 N2 Q2 hSc N1 Q1
  go_wp2_with (first
    | (go_at_call 20; refine (regretP_arg r' n HV.out Ac cc l HO.out _ _ X3.out.up M3.out.up).mono ?_; rintro e w1 ⟨rfl, δa, rfl⟩)
    | (go_at_call 23; refine (rRegret_arg r n HV.out A c l HO.out _ _ Q3.out.up N3.out.up).mono ?_; rintro e w1 ⟨rfl, δb, rfl⟩)
    | (go_at_call 24; refine (calmP_yes r' n HV.out _ _ M3.out.up).mono ?_; rintro e w1 ⟨A1, c1, δc, rfl, rfl, hS1⟩)
    | (go_at_call 25; refine (rCalm_yes r n HV.out _ _ N3.out.up).mono ?_; rintro e w1 ⟨A2, c2, δd, rfl, rfl, hS2⟩))
  refine (sameInts_c A1 A2 c1 c2 _ _ (calm n) (calm n) (ord_len (calm_ord (hasO_v HV.out))) (ord_len (calm_ord (hasO_v HV.out))) true (sameL_rfl'' _) _ _ _ hS1.out.wide hS2.out.wide).mono ?_
  rintro e w1 ⟨rfl, δ7, rfl⟩
  clear hS1 hS2
  go_wp2_with (fail)
  refine (same_c r' r n _ _ M3.out.up N3.out.up).mono ?_
  rintro e w1 ⟨rfl, δ8, rfl⟩
  go_wp2_with (fail)
  refine (sameInts_c Ac A cc c _ _ l l rfl rfl true (sameL_rfl'' _) _ _ _ X3.out.up Q3.out.up).mono ?_
  rintro e w1 ⟨rfl, δ9, rfl⟩
  go_wp2_with (go_at_call 16; refine (works_c _).mono ?_; rintro e w1 ⟨rfl, δw, rfl⟩)
  go_ret
  exact ⟨rfl, lat_ex⟩

set_option maxRecDepth 100000 in
set_option maxHeartbeats 8000000 in
theorem calmNo_c (r : NetR) (n : Net) (A : Option Addr) (c : Nat) (l : List Int) (B : Nat) (w : World) [hB : Le B w] (hN : NetIs B w r n) (hS : Sl encI B w A c l) (hg : farB n 4 = false) (hl : l.length ≤ 40) (hv : valid n = false) :
    Calls Try.prog 4 #[netV r n, .slice A l.length c] w fun e w' => e = .returned (.bool true) ∧ ∃ δ, w' = lat w δ := by
  have z1 := hS.len
  have hh : n.hs.length ≤ 40 ∧ n.ps.length ≤ 40 := by simp [farB, hugeB] at hg; omega
  have d1 : decide ((40 : Int) < (l.length : Int)) = false := by simp; omega
  have HN := Lib.hid hN
  have HS := Lib.hid hS
  have HG := Lib.hid hg
  have HV := Lib.hid hv
  have HH := Lib.hid hh
  clear hN hS hg hv hh
  go_enter Try.func4, Try.ntmps4
  go_upto_region 3 with (go_at_call 22; refine (far_c r n 4 (by omega) _ HG.out B _ HN.out.up).mono ?_; rintro e w1 ⟨rfl, δ, rfl⟩)
  refine wp_name fun W1 hW1 => ?_
  have iw1 : Le B W1 := by rw [hW1.out]; infer_instance
  have iw2 : Grew B w W1 := by rw [hW1.out]; infer_instance
  have iw3 : Le w.heap.size W1 := by rw [hW1.out]; infer_instance
  have iw4 : Grew w.heap.size w W1 := by rw [hW1.out]; infer_instance
  have iw5 : Lt (w.heap.size) W1 := by rw [hW1.out]; infer_instance
  have cw6 : W1.cell? ⟨w.heap.size, 0, none⟩ = some (.int .i64 n.m) := by rw [hW1.out]; go_simp
  have cw7 : W1.cell? ⟨w.heap.size, 1, none⟩ = some (.slice r.hA n.hs.length r.hc) := by rw [hW1.out]; go_simp
  have cw8 : W1.cell? ⟨w.heap.size, 2, none⟩ = some (.slice r.pA n.ps.length r.pc) := by rw [hW1.out]; go_simp
  have N1 := Lib.hid (HN.out.up : NetIs B W1 r n)
  have Q1 := Lib.hid (HS.out.up : Sl encI B W1 A c l)
  clear hW1
  go_wp2_with (fail)
  refine (copy_c r n B _ N1.out.up (by have := HH.out; omega) (by have := HH.out; omega)).mono ?_
  rintro e w1 ⟨r', δ1, rfl, rfl, ho⟩
  have hcp := Lib.hid ho.is
  clear ho
  go_wp2_with (fail)
  refine (copied_c A c _ l rfl (by omega) B _ Q1.out.up).mono ?_
  rintro e w1 ⟨Ac, cc, δ2, rfl, rfl, hSc⟩
  obtain ⟨W2, hW2⟩ : ∃ W2, Hid (W2 = lat (lat W1 δ1) δ2) := ⟨_, rfl⟩
  rw [← hW2.out] at hSc ⊢
  have iw9 : Le B W2 := by rw [hW2.out]; infer_instance
  have iw10 : Grew B W1 W2 := by rw [hW2.out]; infer_instance
  have iw11 : Le W1.heap.size W2 := by rw [hW2.out]; infer_instance
  have iw12 : Grew W1.heap.size W1 W2 := by rw [hW2.out]; infer_instance
  have iw13 : Lt (w.heap.size) W2 := by rw [hW2.out]; infer_instance
  have cw14 : W2.cell? ⟨w.heap.size, 0, none⟩ = some (.int .i64 n.m) := by rw [hW2.out]; go_simp
  have cw15 : W2.cell? ⟨w.heap.size, 1, none⟩ = some (.slice r.hA n.hs.length r.hc) := by rw [hW2.out]; go_simp
  have cw16 : W2.cell? ⟨w.heap.size, 2, none⟩ = some (.slice r.pA n.ps.length r.pc) := by rw [hW2.out]; go_simp
  have M2 : Hid (NetIs W2.heap.size W2 r' n) := by rw [hW2.out]; exact hcp.out.wide
  have N2 := Lib.hid (N1.out.up : NetIs B W2 r n)
  have Q2 := Lib.hid (Q1.out.up : Sl encI B W2 A c l)
  clear hW2 hcp
  go_upto_region 4 with fail
  refine wp_name fun W3 hW3 => ?_
  have iw17 : Le B W3 := by rw [hW3.out]; infer_instance
  have iw18 : Grew B W2 W3 := by rw [hW3.out]; infer_instance
  have iw19 : Le W2.heap.size W3 := by rw [hW3.out]; infer_instance
  have iw20 : Grew W2.heap.size W2 W3 := by rw [hW3.out]; infer_instance
  have iw21 : Lt (w.heap.size) W3 := by rw [hW3.out]; infer_instance
  have i7 : Lt W2.heap.size W3 := ⟨by rw [hW3.out]; go_simp⟩
  have cw22 : W3.cell? ⟨w.heap.size, 0, none⟩ = some (.int .i64 n.m) := by rw [hW3.out]; go_simp
  have cw23 : W3.cell? ⟨w.heap.size, 1, none⟩ = some (.slice r.hA n.hs.length r.hc) := by rw [hW3.out]; go_simp
  have cw24 : W3.cell? ⟨w.heap.size, 2, none⟩ = some (.slice r.pA n.ps.length r.pc) := by rw [hW3.out]; go_simp
  have cw25 : W3.cell? ⟨W2.heap.size, 0, none⟩ = some (.int .i64 n.m) := by rw [hW3.out]; go_simp
  have cw26 : W3.cell? ⟨W2.heap.size, 1, none⟩ = some (.slice r'.hA n.hs.length r'.hc) := by rw [hW3.out]; go_simp
  have cw27 : W3.cell? ⟨W2.heap.size, 2, none⟩ = some (.slice r'.pA n.ps.length r'.pc) := by rw [hW3.out]; go_simp
  have M3 := Lib.hid (M2.out.wide : NetIs W3.heap.size W3 r' n)
  have N3 := Lib.hid (N2.out.wide : NetIs W3.heap.size W3 r n)
  have Q3 := Lib.hid (Q2.out.wide : Sl encI W3.heap.size W3 A c l)
  have X3 := Lib.hid (hSc.out.wide : Sl encI W3.heap.size W3 Ac cc l)
  have j1 : Grew w.heap.size w W2 := grew_tr iw4 (inferInstance : Grew W1.heap.size W1 W2)
  have j2 : Le w.heap.size W2 := ⟨Nat.le_trans iw3.out (inferInstance : Le W1.heap.size W2).out⟩
  have j3 : Grew w.heap.size w W3 := grew_tr j1 (inferInstance : Grew W2.heap.size W2 W3)
  have j4 : Le w.heap.size W3 := ⟨Nat.le_trans j2.out (inferInstance : Le W2.heap.size W3).out⟩
  have n1 : NeN w.heap.size W2.heap.size := ⟨Nat.ne_of_lt (inferInstance : Lt w.heap.size W2).out⟩
  have n2 : NeN W2.heap.size w.heap.size := ⟨Nat.ne_of_gt (inferInstance : Lt w.heap.size W2).out⟩
  clear hW3 M2 N2 Q2 hSc N1 Q1
  go_wp2_with (first
    | (go_at_call 20; refine (regretP_no r' n HV.out _ _ _ M3.out.up).mono ?_; rintro e w1 ⟨rfl, δa, rfl⟩)
    | (go_at_call 23; refine (rRegret_no r n HV.out _ _ _ N3.out.up).mono ?_; rintro e w1 ⟨rfl, δb, rfl⟩)
    | (go_at_call 24; refine (calmP_no r' n HV.out _ _ M3.out.up).mono ?_; rintro e w1 ⟨rfl, δc, rfl⟩)
    | (go_at_call 25; refine (rCalm_no r n HV.out _ _ N3.out.up).mono ?_; rintro e w1 ⟨rfl, δd, rfl⟩))
  refine (sameInts_c none none 0 0 _ _ [] [] rfl rfl true (sameL_rfl'' _) W3.heap.size W3.heap.size _ Sl.none_ Sl.none_).mono ?_
  rintro e w1 ⟨rfl, δ7, rfl⟩
  go_wp2_with (fail)
  refine (same_c r' r n _ _ M3.out.up N3.out.up).mono ?_
  rintro e w1 ⟨rfl, δ8, rfl⟩
  go_wp2_with (fail)
  refine (sameInts_c Ac A cc c _ _ l l rfl rfl true (sameL_rfl'' _) _ _ _ X3.out.up Q3.out.up).mono ?_
  rintro e w1 ⟨rfl, δ9, rfl⟩
  go_wp2_with (go_at_call 16; refine (works_c _).mono ?_; rintro e w1 ⟨rfl, δw, rfl⟩)
  go_ret
  exact ⟨rfl, lat_ex⟩

theorem lawCalm_c (r : NetR) (n : Net) (A : Option Addr) (c : Nat) (l : List Int) (B : Nat) (w : World) [hB : Le B w] (hN : NetIs B w r n) (hS : Sl encI B w A c l) :
    Calls Try.prog 4 #[netV r n, .slice A l.length c] w fun e w' => e = .returned (.bool true) ∧ ∃ δ, w' = lat w δ := by
  cases hg : farB n 4 with
  | true => exact calmFar_c r n A c l B w hN hS hg
  | false =>
    by_cases hl : l.length ≤ 40
    · cases hv : valid n with
      | false => exact calmNo_c r n A c l B w hN hS hg hl hv
      | true =>
        cases ho : isOrd n l with
        | true => exact calmYes_c r n A c l B w hN hS hg hl hv ho
        | false => exact calmArg_c r n A c l B w hN hS hg hl hv ho
    · exact calmLong_c r n A c l B w hN hS hg (by omega)

end Go.Proofs.Ytbfehifidlojlaa
