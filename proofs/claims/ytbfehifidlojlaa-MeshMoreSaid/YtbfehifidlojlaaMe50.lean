/- Layer 4: MeshMore. -/
import Derived.Test.YtbfehifidlojlaaMe30
import Derived.Test.YtbfehifidlojlaaMe49
namespace Go.Proofs.Ytbfehifidlojlaa
open Go.RowKit
open Me

set_option maxRecDepth 100000 in
set_option maxHeartbeats 4000000 in
theorem moreFar_c (r : NetR) (n : Net) (B : Nat) (w : World) [hB : Le B w] (hN : NetIs B w r n) (hg : farB n 5 = true) :
    Calls Try.prog 13 #[netV r n] w fun e w' => e = .returned (.bool true) ∧ ∃ δ, w' = lat w δ := by
  have HN := Lib.hid hN
  have HG := Lib.hid hg
  clear hN hg
  go_enter Try.func13, Try.ntmps13
  go_wp2_with (first
    | (go_at_call 22; refine (far_c r n 5 (by omega) _ HG.out B _ HN.out.up).mono ?_; rintro e w1 ⟨rfl, δ, rfl⟩)
    | (go_at_call 16; refine (works_c _).mono ?_; rintro e w1 ⟨rfl, δ2, rfl⟩))
  go_ret
  exact ⟨rfl, lat_ex⟩

theorem more_both (n : Net) : ∃ k e : Int, (∀ r B w, NetIs B w r n → Le B w → Calls Try.prog 47 #[netV r n] w fun e' w' => e' = .returned (.tuple #[.int .i64 k, .int .i64 e]) ∧ ∃ δ, w' = lat w δ) ∧
    (∀ r B w, NetIs B w r n → Le B w → Calls Try.prog 56 #[netV r n] w fun e' w' => e' = .returned (.tuple #[.int .i64 k, .int .i64 e]) ∧ ∃ δ, w' = lat w δ) := by
  cases hv : valid n with
  | false => exact ⟨0, 40, fun r B w hN hB => moreP_no r n hv B w hN, fun r B w hN hB => rMore_no r n hv B w hN⟩
  | true =>
    by_cases hm : n.m = 3
    · exact ⟨0, 2, fun r B w hN hB => moreP_many r n hv hm B w hN, fun r B w hN hB => rMore_many r n hv hm B w hN⟩
    · exact ⟨moreN n, 0, fun r B w hN hB => moreP_yes r n hv hm B w hN, fun r B w hN hB => rMore_yes r n hv hm B w hN⟩
theorem rope_both (n : Net) : ∃ k e : Int, (∀ r B w, NetIs B w r n → Le B w → Calls Try.prog 54 #[netV r n] w fun e' w' => e' = .returned (.tuple #[.int .i64 k, .int .i64 e]) ∧ ∃ δ, w' = lat w δ) ∧
    (∀ r B w, NetIs B w r n → Le B w → Calls Try.prog 57 #[netV r n] w fun e' w' => e' = .returned (.tuple #[.int .i64 k, .int .i64 e]) ∧ ∃ δ, w' = lat w δ) := by
  cases hv : valid n with
  | false => exact ⟨0, 40, fun r B w hN hB => ropeP_no r n hv B w hN, fun r B w hN hB => rRope_no r n hv B w hN⟩
  | true =>
    rcases Nat.eq_zero_or_pos n.ps.length with h0 | h0
    · exact ⟨0, 3, fun r B w hN hB => ropeP_none r n hv h0 B w hN, fun r B w hN hB => rRope_none r n hv h0 B w hN⟩
    · exact ⟨(ropeN n : Nat), 0, fun r B w hN hB => ropeP_yes r n hv h0 B w hN, fun r B w hN hB => rRope_yes r n hv h0 B w hN⟩

set_option maxRecDepth 100000 in
set_option maxHeartbeats 8000000 in
theorem moreGo_c (r : NetR) (n : Net) (B : Nat) (w : World) [hB : Le B w] (hN : NetIs B w r n) (hg : farB n 5 = false) :
    Calls Try.prog 13 #[netV r n] w fun e w' => e = .returned (.bool true) ∧ ∃ δ, w' = lat w δ := by
  obtain ⟨k1, e1, hm1, hm2⟩ := more_both n
  obtain ⟨k2, e2, hr1, hr2⟩ := rope_both n
  have HM1 := Lib.hid hm1
  have HM2 := Lib.hid hm2
  have HR1 := Lib.hid hr1
  have HR2 := Lib.hid hr2
  have hv := rfl (a := valid n)
  clear hm1 hm2 hr1 hr2
  have hh : n.hs.length ≤ 40 ∧ n.ps.length ≤ 40 := by simp [farB, hugeB] at hg; omega
  have HN := Lib.hid hN
  have HG := Lib.hid hg
  have HV := Lib.hid hv
  have HH := Lib.hid hh
  clear hN hg hv hh
  go_enter Try.func13, Try.ntmps13
  go_upto_region 3 with (go_at_call 22; refine (far_c r n 5 (by omega) _ HG.out B _ HN.out.up).mono ?_; rintro e w1 ⟨rfl, δ, rfl⟩)
  refine wp_name fun W1 hW1 => ?_
  have iw1 : Le B W1 := by rw [hW1.out]; infer_instance
  have iw2 : Grew B w W1 := by rw [hW1.out]; infer_instance
  have iw3 : Le w.heap.size W1 := by rw [hW1.out]; infer_instance
  have iw4 : Grew w.heap.size w W1 := by rw [hW1.out]; infer_instance
  have iw5 : Lt (w.heap.size) W1 := by rw [hW1.out]; infer_instance
  have cw6 : W1.cell? ⟨w.heap.size, 0, none⟩ = some (.int .i64 n.m) := by rw [hW1.out]; go_simp
  have cw7 : W1.cell? ⟨w.heap.size, 1, none⟩ = some (.slice r.hA n.hs.length r.hc) := by rw [hW1.out]; go_simp
  have cw8 : W1.cell? ⟨w.heap.size, 2, none⟩ = some (.slice r.pA n.ps.length r.pc) := by rw [hW1.out]; go_simp
  have N1 := Lib.hid (HN.out.up : NetIs B W1 r n)
  clear hW1
  go_wp2_with (fail)
  refine (copy_c r n B _ N1.out.up (by have := HH.out; omega) (by have := HH.out; omega)).mono ?_
  rintro e w1 ⟨r', δ1, rfl, rfl, ho⟩
  obtain ⟨W2, hW2⟩ : ∃ W2, Hid (W2 = lat W1 δ1) := ⟨_, rfl⟩
  rw [← hW2.out] at ho ⊢
  have M2 := Lib.hid ho.is
  have iw9 : Le B W2 := by rw [hW2.out]; infer_instance
  have iw10 : Grew B W1 W2 := by rw [hW2.out]; infer_instance
  have iw11 : Le W1.heap.size W2 := by rw [hW2.out]; infer_instance
  have iw12 : Grew W1.heap.size W1 W2 := by rw [hW2.out]; infer_instance
  have iw13 : Lt (w.heap.size) W2 := by rw [hW2.out]; infer_instance
  have cw14 : W2.cell? ⟨w.heap.size, 0, none⟩ = some (.int .i64 n.m) := by rw [hW2.out]; go_simp
  have cw15 : W2.cell? ⟨w.heap.size, 1, none⟩ = some (.slice r.hA n.hs.length r.hc) := by rw [hW2.out]; go_simp
  have cw16 : W2.cell? ⟨w.heap.size, 2, none⟩ = some (.slice r.pA n.ps.length r.pc) := by rw [hW2.out]; go_simp
  have N2 := Lib.hid (N1.out.up : NetIs B W2 r n)
  clear hW2 ho
  go_upto_region 4 with fail
  refine wp_name fun W3 hW3 => ?_
  have iw17 : Le B W3 := by rw [hW3.out]; infer_instance
  have iw18 : Grew B W2 W3 := by rw [hW3.out]; infer_instance
  have iw19 : Le W2.heap.size W3 := by rw [hW3.out]; infer_instance
  have iw20 : Grew W2.heap.size W2 W3 := by rw [hW3.out]; infer_instance
  have iw21 : Lt (w.heap.size) W3 := by rw [hW3.out]; infer_instance
  have i7 : Lt W2.heap.size W3 := ⟨by rw [hW3.out]; go_simp⟩
  have cw22 : W3.cell? ⟨w.heap.size, 0, none⟩ = some (.int .i64 n.m) := by rw [hW3.out]; go_simp
  have cw23 : W3.cell? ⟨w.heap.size, 1, none⟩ = some (.slice r.hA n.hs.length r.hc) := by rw [hW3.out]; go_simp
  have cw24 : W3.cell? ⟨w.heap.size, 2, none⟩ = some (.slice r.pA n.ps.length r.pc) := by rw [hW3.out]; go_simp
  have cw25 : W3.cell? ⟨W2.heap.size, 0, none⟩ = some (.int .i64 n.m) := by rw [hW3.out]; go_simp
  have cw26 : W3.cell? ⟨W2.heap.size, 1, none⟩ = some (.slice r'.hA n.hs.length r'.hc) := by rw [hW3.out]; go_simp
  have cw27 : W3.cell? ⟨W2.heap.size, 2, none⟩ = some (.slice r'.pA n.ps.length r'.pc) := by rw [hW3.out]; go_simp
  have M3 := Lib.hid (M2.out.wide : NetIs W3.heap.size W3 r' n)
  have N3 := Lib.hid (N2.out.wide : NetIs W3.heap.size W3 r n)
  have j1 : Grew w.heap.size w W2 := grew_tr iw4 (inferInstance : Grew W1.heap.size W1 W2)
  have j2 : Le w.heap.size W2 := ⟨Nat.le_trans iw3.out (inferInstance : Le W1.heap.size W2).out⟩
  have j3 : Grew w.heap.size w W3 := grew_tr j1 (inferInstance : Grew W2.heap.size W2 W3)
  have j4 : Le w.heap.size W3 := ⟨Nat.le_trans j2.out (inferInstance : Le W2.heap.size W3).out⟩
  have n1 : NeN w.heap.size W2.heap.size := ⟨Nat.ne_of_lt (inferInstance : Lt w.heap.size W2).out⟩
  have n2 : NeN W2.heap.size w.heap.size := ⟨Nat.ne_of_gt (inferInstance : Lt w.heap.size W2).out⟩
  clear hW3 M2 N2 N1
  go_wp2_with (first
    | (go_at_call 47; refine (HM1.out r' _ _ M3.out.up inferInstance).mono ?_; rintro e w1 ⟨rfl, δa, rfl⟩)
    | (go_at_call 56; refine (HM2.out r _ _ N3.out.up inferInstance).mono ?_; rintro e w1 ⟨rfl, δb, rfl⟩)
    | (go_at_call 54; refine (HR1.out r' _ _ M3.out.up inferInstance).mono ?_; rintro e w1 ⟨rfl, δc, rfl⟩)
    | (go_at_call 57; refine (HR2.out r _ _ N3.out.up inferInstance).mono ?_; rintro e w1 ⟨rfl, δd, rfl⟩))
  refine (same_c r' r n _ _ M3.out.up N3.out.up).mono ?_
  rintro e w1 ⟨rfl, δ8, rfl⟩
  go_wp2_with (go_at_call 16; refine (works_c _).mono ?_; rintro e w1 ⟨rfl, δw, rfl⟩)
  go_ret
  exact ⟨rfl, lat_ex⟩

theorem lawMore_c (r : NetR) (n : Net) (B : Nat) (w : World) [hB : Le B w] (hN : NetIs B w r n) :
    Calls Try.prog 13 #[netV r n] w fun e w' => e = .returned (.bool true) ∧ ∃ δ, w' = lat w δ := by
  cases hg : farB n 5 with
  | true => exact moreFar_c r n B w hN hg
  | false => exact moreGo_c r n B w hN hg

end Go.Proofs.Ytbfehifidlojlaa
