/- Layer 4: slices.Clone of pairs; what the program finds of a choice of numbers; Rope, the program's. -/
import Derived.Test.YtbfehifidlojlaaMe46
namespace Go.Proofs.Ytbfehifidlojlaa
open Go.RowKit
open Me

set_option maxHeartbeats 1000000 in
theorem cloneP_c (A : Option Addr) (c : Nat) (xs : List Pr) (ln : Nat) (hn : xs.length = ln) (B : Nat) (w : World) [hB : Le B w] (h : Sl encPr B w A c xs) (q : ln ≤ 1000) :
    Calls Try.prog 91 #[.slice A ln c] w fun e w' => ∃ (A' : Option Addr) (c' : Nat) (δ : World), e = .returned (.slice A' ln c') ∧ w' = lat w δ ∧ (lat w δ).ownsRow w.heap.size 63 2 (.slice A' ln c') ln (xs.flatMap encPr) := by
  subst hn
  have H := Lib.hid h
  clear h
  have q22 : ∀ (w : World) (a : Option Addr) (n c n' c' : Nat), (binOp .eql 23 (.slice a n c) (.slice none n' c')).run Try.prog w = .ok (.bool a.isNone) w := fun w a n c n' c' => Lib.run_eql_slice_nil w _ _ a n c n' c' Try.underlying23
  cases A with
  | none =>
    have hx : xs = [] := by
      have h2 := H.out.2.2
      by_cases hx : xs = []
      · exact hx
      · obtain ⟨_, _, he, _⟩ := h2 (by
          obtain ⟨y, ys, rfl⟩ := List.exists_cons_of_ne_nil hx
          simp [encPr])
        cases he
    subst hx
    go_enter Try.func91, Try.ntmps91
    go_wp2_with (fail)
    go_ret
    exact ⟨none, 0, _, rfl, lat_def, World.ownsRow_nil _ _ _ _⟩
  | some ad =>
    go_enter Try.func91, Try.ntmps91
    go_wp2_with (at_builtin; (refine wpList_append_lit w slPr (.tmp 5) (.tmp 6) rfl rfl (v := .slice (some ⟨_, 0, none⟩) 0 0) (own_lit0 (by go_simp) (by go_simp)) rfl (B := B) (A := some ad) (m := xs.length) (c := c) (news := xs.flatMap encPr) rfl (H.out.up.2.2) (len_enc encPr 2 (fun _ => rfl) _) (one_enc encPr one_pr _) (by omega) (by omega) ?_); intro A1 c1 δ1 own1 hg1)
    go_ret
    refine ⟨A1, c1, _, rfl, lat_def, ?_⟩
    rw [← lat_def (w := w)]
    exact own1

theorem lookI_c (c : Nat) (T : TypeId) (b : Bool) (x0 x k0 k : Int) (w : World) (hx : Box w c T #[.int .i64 x0, .int .i64 k0, .bool b]) :
    Calls Try.prog 92 #[.pointer (some ⟨c, 0, none⟩), .int .i64 x, .int .i64 k] w fun e w' => (∃ v, e = .returned v) ∧ Box w' c T (lookV b (.int .i64 x0) (.int .i64 x) k0 k) ∧ Kep (fun x => x = c) w w' := by
  have c0' := hx.cell (i := 0) rfl
  have c1' := hx.cell (i := 1) rfl
  have c2' := hx.cell (i := 2) rfl
  have f0 := hx.free 0
  have f1 := hx.free 1
  have f2 := hx.free 2
  have hlt := hx.lt
  have HX := Lib.hid hx
  clear hx
  cases b with
  | false =>
    go_enter Try.func92, Try.ntmps92
    go_wp2
    go_end0
    exact ⟨⟨_, rfl⟩, ((HX.out.set 0 _).set 1 _).set 2 _, (((Kep.refl _ _).set (S := fun x => x = c) rfl _ _).set rfl _ _).set rfl _ _⟩
  | true =>
    by_cases hk : k < k0
    · have e : lookV true (.int .i64 x0) (.int .i64 x) k0 k = #[.int .i64 x, .int .i64 k, .bool true] := by unfold lookV; rw [if_pos (.inr hk)]
      rw [e]
      go_enter Try.func92, Try.ntmps92
      go_wp2
      go_end0
      exact ⟨⟨_, rfl⟩, ((HX.out.set 0 _).set 1 _).set 2 _, (((Kep.refl _ _).set (S := fun x => x = c) rfl _ _).set rfl _ _).set rfl _ _⟩
    · have e : lookV true (.int .i64 x0) (.int .i64 x) k0 k = #[.int .i64 x0, .int .i64 k0, .bool true] := by unfold lookV; rw [if_neg (by simp; omega)]
      rw [e]
      go_enter Try.func92, Try.ntmps92
      go_wp2
      go_end0
      exact ⟨⟨_, rfl⟩, HX.out, Kep.refl _ _⟩


theorem deletePm_c (W1 : World) (m g c i k : Nat) (ps : List Pr) (w : World) [hW : Le W1.heap.size w] (hm : m = k + 1) (h : w.ownsRow W1.heap.size 63 2 (.slice (some ⟨g, 0, none⟩) m c) m (ps.flatMap encPr)) (hl : ps.length = m) (hi : i ≤ k) (hk : k ≤ 100) :
    Calls Try.prog 90 #[.slice (some ⟨g, 0, none⟩) m c, .int .i64 i, .int .i64 ((i : Int) + 1)] w fun e w' => e = .returned (.slice (some ⟨g, 0, none⟩) k c) ∧ ∃ δ, w' = latB W1.heap.size w δ ∧
      w'.ownsRow W1.heap.size 63 2 (.slice (some ⟨g, 0, none⟩) k c) k ((ps.take i ++ ps.drop (i + 1)).flatMap encPr) := by subst hm; exact deleteP_c W1 g c i k ps w h hl hi hk

namespace Me
/-- Without a pair. -/
def looseN (n : Net) (i : Nat) : Net := ⟨n.m, n.hs, n.ps.take i ++ n.ps.drop (i + 1)⟩
theorem loose_easier {n : Net} (hm : 1 ≤ n.m) (i : Nat) : Easier (looseN n i) n := ⟨rfl, Nat.le_refl _, by omega, fun p hp => by
  rcases List.mem_append.1 hp with h | h
  · exact List.mem_of_mem_take h
  · exact List.mem_of_mem_drop h⟩
theorem loose_valid {n : Net} (hv : valid n = true) (i : Nat) : valid (looseN n i) = true ∧ leastN (looseN n i) ≤ leastN n := by
  obtain ⟨h1, h2, h3, h4, h5, h6⟩ := valid_iff.1 hv
  have he := least_easier (loose_easier h1.1 i) h4 h6
  refine ⟨valid_iff.2 ⟨h1, h2, ?_, h4, ?_, he.1⟩, he.2.1⟩
  · simp only [looseN, List.length_append, List.length_take, List.length_drop]; omega
  · unfold okPrs at h5 ⊢
    rw [List.all_eq_true] at h5 ⊢
    exact fun p hp => h5 p ((loose_easier h1.1 i).ps p hp)
theorem loose_len {n : Net} {i k : Nat} (hl : n.ps.length = k + 1) (hi : i ≤ k) : (looseN n i).ps.length = k := by
  simp only [looseN, List.length_append, List.length_take, List.length_drop]; omega
/-- The first of the first k pairs without which the least is lost. -/
def ropeK (n : Net) : Nat → Nat
  | 0 => 0
  | k + 1 => if leastN (looseN n k) < leastN (looseN n (ropeK n k)) then k else ropeK n k
def ropeN (n : Net) : Nat := ropeK n n.ps.length
theorem ropeK_spec (n : Net) (k : Nat) : ropeK n k ≤ k - 1 ∧ (∀ j, j < k → leastN (looseN n (ropeK n k)) ≤ leastN (looseN n j)) ∧ (∀ j, j < k → leastN (looseN n j) ≤ leastN (looseN n (ropeK n k)) → ropeK n k ≤ j) := by
  induction k with
  | zero => exact ⟨Nat.le_refl _, fun j hj => absurd hj (Nat.not_lt_zero _), fun j hj => absurd hj (Nat.not_lt_zero _)⟩
  | succ k ih =>
    obtain ⟨i1, i2, i3⟩ := ih
    by_cases h : leastN (looseN n k) < leastN (looseN n (ropeK n k))
    · have e : ropeK n (k + 1) = k := if_pos h
      rw [e]
      refine ⟨by omega, fun j hj => ?_, fun j hj hle => ?_⟩
      · rcases Nat.lt_or_ge j k with hk | hk
        · have := i2 j hk; omega
        · obtain rfl : j = k := by omega
          exact Int.le_refl _
      · rcases Nat.lt_or_ge j k with hk | hk
        · have := i2 j hk; omega
        · exact hk
    · have e : ropeK n (k + 1) = ropeK n k := if_neg h
      rw [e]
      refine ⟨by omega, fun j hj => ?_, fun j hj hle => ?_⟩
      · rcases Nat.lt_or_ge j k with hk | hk
        · exact i2 j hk
        · obtain rfl : j = k := by omega
          omega
      · rcases Nat.lt_or_ge j k with hk | hk
        · exact i3 j hk hle
        · omega
theorem ropeK_lt {n : Net} {k : Nat} (h : 0 < k) : ropeK n k < k := by have := (ropeK_spec n k).1; omega
end Me

theorem ropeP_no (r : NetR) (n : Net) (hv : valid n = false) (B : Nat) (w : World) (hN : NetIs B w r n) [hB : Le B w] :
    Calls Try.prog 54 #[netV r n] w fun e w' => e = .returned (.tuple #[.int .i64 0, .int .i64 40]) ∧ ∃ δ, w' = lat w δ := by
  have HN := Lib.hid hN
  have HV := Lib.hid hv
  clear hN hv
  go_enter Try.func54, Try.ntmps54
  go_wp2_with (go_at_call 32; refine (check_no r n HV.out B _ HN.out.up).mono ?_; rintro e w1 ⟨rfl, δ, rfl⟩)
  go_ret2
  exact ⟨rfl, lat_ex⟩
theorem ropeP_none (r : NetR) (n : Net) (hv : valid n = true) (h0 : n.ps.length = 0) (B : Nat) (w : World) (hN : NetIs B w r n) [hB : Le B w] :
    Calls Try.prog 54 #[netV r n] w fun e w' => e = .returned (.tuple #[.int .i64 0, .int .i64 3]) ∧ ∃ δ, w' = lat w δ := by
  have HN := Lib.hid hN
  have HV := Lib.hid hv
  have hE : ((n.ps.length : Int) == 0) = true := by simp [h0]
  clear hN hv h0
  go_enter Try.func54, Try.ntmps54
  go_wp2_with (go_at_call 32; refine (check_yes r n HV.out B _ HN.out.up).mono ?_; rintro e w1 ⟨rfl, δ, rfl⟩)
  go_ret2
  exact ⟨rfl, lat_ex⟩

set_option maxRecDepth 100000 in
set_option maxHeartbeats 8000000 in
theorem ropeP_yes (r : NetR) (n : Net) (hv : valid n = true) (h0 : 0 < n.ps.length) (B : Nat) (w : World) (hN : NetIs B w r n) [hB : Le B w] :
    Calls Try.prog 54 #[netV r n] w fun e w' => e = .returned (.tuple #[.int .i64 (ropeN n : Nat), .int .i64 0]) ∧ ∃ δ, w' = lat w δ := by
  have HN := Lib.hid hN
  have HV := Lib.hid hv
  have hE : ((n.ps.length : Int) == 0) = false := by simp; intro e; rw [e] at h0; simp at h0
  have h8 := (ok_of hv).2.2.1
  clear hN hv
  go_enter Try.func54, Try.ntmps54
  go_upto_region 6 with (go_at_call 32; refine (check_yes r n HV.out B _ HN.out.up).mono ?_; rintro e w1 ⟨rfl, δ, rfl⟩)
  refine wp_name fun W1 hW1 => ?_
  have iw1 : Le B W1 := by rw [hW1.out]; infer_instance
  have iw2 : Grew B w W1 := by rw [hW1.out]; infer_instance
  have iw3 : Le w.heap.size W1 := by rw [hW1.out]; infer_instance
  have iw4 : Grew w.heap.size w W1 := by rw [hW1.out]; infer_instance
  have iw5 : Lt (w.heap.size) W1 := by rw [hW1.out]; infer_instance
  have cw6 : W1.cell? ⟨w.heap.size, 0, none⟩ = some (.int .i64 n.m) := by rw [hW1.out]; go_simp
  have cw7 : W1.cell? ⟨w.heap.size, 1, none⟩ = some (.slice r.hA n.hs.length r.hc) := by rw [hW1.out]; go_simp
  have cw8 : W1.cell? ⟨w.heap.size, 2, none⟩ = some (.slice r.pA n.ps.length r.pc) := by rw [hW1.out]; go_simp
  have N1 := Lib.hid (HN.out.up : NetIs B W1 r n)
  clear hW1
  go_upto_region 8 with fail
  refine wp_name fun W2 hW2 => ?_
  have HB2 : Hid (Box W2 W1.heap.size 99 #[.int .i64 0, .int .i64 0, .bool false]) := by rw [hW2.out]; exact Box.new rfl
  have g1 : Grew W1.heap.size W1 W2 := by rw [hW2.out]; infer_instance
  have g2 : Le W1.heap.size W2 := by rw [hW2.out]; infer_instance
  clear hW2
  obtain ⟨q, hq⟩ : ∃ q, n.ps.length = q + 1 := ⟨n.ps.length - 1, by omega⟩
  have HQ := Lib.hid hq
  have HR := Lib.hid (show ropeN n = ropeK n n.ps.length from rfl)
  clear hq
  go_loopg [22] n.ps.length (fun g s22 wr => ∃ (k : Nat) (x v : Int) (b : Bool), k ≤ n.ps.length ∧ g = n.ps.length - k ∧ s22 = .int .i64 k ∧ Box wr W1.heap.size 99 #[.int .i64 x, .int .i64 v, .bool b] ∧
    Hid ((k = 0 ∧ b = false) ∨ (0 < k ∧ b = true ∧ x = (ropeK n k : Nat) ∧ v = leastN (looseN n (ropeK n k)))) ∧ Grew W1.heap.size W1 wr ∧ Le W1.heap.size wr)
  case atStart => exact ⟨0, 0, 0, false, Nat.zero_le _, rfl, rfl, HB2.out, .inl ⟨rfl, rfl⟩, g1, g2⟩
  case round =>
    obtain ⟨k, x, v, b, hk, rfl, rfl, hbx, hst, i1, i2⟩ := hrel
    have hwl : w.heap.size < W1.heap.size := (inferInstance : Lt w.heap.size W1).out
    have iw : Lt w.heap.size wr := ⟨Nat.lt_of_lt_of_le hwl i2.out⟩
    have r0 : wr.cell? ⟨w.heap.size, 0, none⟩ = some (.int .i64 n.m) := (cells_same i1.out w.heap.size 0 hwl).trans (by assumption)
    have r1 : wr.cell? ⟨w.heap.size, 1, none⟩ = some (.slice r.hA n.hs.length r.hc) := (cells_same i1.out w.heap.size 1 hwl).trans (by assumption)
    have r2 : wr.cell? ⟨w.heap.size, 2, none⟩ = some (.slice r.pA n.ps.length r.pc) := (cells_same i1.out w.heap.size 2 hwl).trans (by assumption)
    have HBX := Lib.hid hbx
    have ibx := hbx.lt
    by_cases hlt : k < n.ps.length
    · have hki : (k : Int) < (n.ps.length : Int) := by omega
      have hk0 : ¬ (k : Int) < 0 := by omega
      have HLT := Lib.hid hlt
      have i5 : Grew B w wr := grew_tr (W := W1) inferInstance i1
      have i6 : Le B wr := ⟨Nat.le_trans (inferInstance : Le B W1).out i2.out⟩
      have HNW : Hid (NetIs wr.heap.size wr r n) := HN.out.wide
      clear hlt hk hbx
      go_upto_region 11 with fail
      refine wp_name fun V1 hV1 => ?_
      have HP1 : Hid (Box V1 wr.heap.size 25 #[.int .i64 n.m, .slice r.hA n.hs.length r.hc, .slice r.pA n.ps.length r.pc]) := by rw [hV1.out]; exact Box.new rfl
      have HC1 : Hid (Box V1 W1.heap.size 99 #[.int .i64 x, .int .i64 v, .bool b]) := by rw [hV1.out]; exact HBX.out.alloc _
      have iw9 : Le B V1 := by rw [hV1.out]; infer_instance
      have iw10 : Grew B wr V1 := by rw [hV1.out]; infer_instance
      have iw11 : Le wr.heap.size V1 := by rw [hV1.out]; infer_instance
      have iw12 : Grew wr.heap.size wr V1 := by rw [hV1.out]; infer_instance
      have iw13 : Lt (w.heap.size) V1 := by rw [hV1.out]; infer_instance
      have iw14 : Lt (W1.heap.size) V1 := by rw [hV1.out]; infer_instance
      have iw15 : Lt (wr.heap.size) V1 := by rw [hV1.out]; infer_instance
      have cw16 : V1.cell? ⟨w.heap.size, 0, none⟩ = some (.int .i64 n.m) := by rw [hV1.out]; go_simp
      have cw17 : V1.cell? ⟨w.heap.size, 1, none⟩ = some (.slice r.hA n.hs.length r.hc) := by rw [hV1.out]; go_simp
      have cw18 : V1.cell? ⟨w.heap.size, 2, none⟩ = some (.slice r.pA n.ps.length r.pc) := by rw [hV1.out]; go_simp
      have cw19 : V1.cell? ⟨wr.heap.size, 0, none⟩ = some (.int .i64 n.m) := by rw [hV1.out]; go_simp
      have cw20 : V1.cell? ⟨wr.heap.size, 1, none⟩ = some (.slice r.hA n.hs.length r.hc) := by rw [hV1.out]; go_simp
      have cw21 : V1.cell? ⟨wr.heap.size, 2, none⟩ = some (.slice r.pA n.ps.length r.pc) := by rw [hV1.out]; go_simp
      have fw22 : V1.frozen? ⟨wr.heap.size, 2, none⟩ = false := by rw [hV1.out]; go_simp
      have NV := Lib.hid (HNW.out.up : NetIs wr.heap.size V1 r n)
      have gV : Grew W1.heap.size wr V1 := by rw [hV1.out]; infer_instance
      have lV : Le W1.heap.size V1 := by rw [hV1.out]; infer_instance
      have n1 : NeN w.heap.size wr.heap.size := ⟨Nat.ne_of_lt iw.out⟩
      have n2 : NeN wr.heap.size w.heap.size := ⟨Nat.ne_of_gt iw.out⟩
      clear hV1
      go_upto_region 12 with (first
        | (go_at_call 91; refine (cloneP_c r.pA r.pc n.ps _ rfl wr.heap.size _ NV.out.2.up (by omega)).mono ?_; rintro e w1 ⟨A1, c1, δ1, rfl, rfl, own1⟩; obtain ⟨g, rfl, _⟩ := own_at own1 h0)
        | (go_at_call 90; refine (deletePm_c V1 _ g c1 k q n.ps _ HQ.out own1 rfl (by have := HQ.out; have := HLT.out; omega) (by have := HQ.out; omega)).mono ?_; rintro e w1 ⟨rfl, δ3, rfl, own2⟩))
      have lV1 : wr.heap.size < V1.heap.size := (inferInstance : Lt wr.heap.size V1).out
      have own3 := own_far own2 (p := ⟨wr.heap.size, 2, none⟩) (u := .slice (some ⟨g, 0, none⟩) q c1) (fun e => by have h1 : V1.heap.size ≤ wr.heap.size := (own_block own2 _ e).1; omega)
      refine wp_name fun V2 hV2 => ?_
      have i8 : LeN wr.heap.size wr.heap.size := ⟨Nat.le_refl _⟩
      have HC2 : Hid (Box V2 W1.heap.size 99 #[.int .i64 x, .int .i64 v, .bool b]) := by
        rw [hV2.out]
        exact ((HC1.out.lat _).latB HC1.out.lt_ _).far (by show W1.heap.size ≠ wr.heap.size; exact Nat.ne_of_lt ibx.out) _
      have HP2 : Hid (Box V2 wr.heap.size 25 #[.int .i64 n.m, .slice r.hA n.hs.length r.hc, .slice (some ⟨g, 0, none⟩) q c1]) := by
        rw [hV2.out]
        exact ((HP1.out.lat _).latB HP1.out.lt_ _).set 2 _
      have HO2 : Hid (V2.ownsRow V1.heap.size 63 2 (.slice (some ⟨g, 0, none⟩) q c1) q ((n.ps.take k ++ n.ps.drop (k + 1)).flatMap encPr)) := by rw [hV2.out]; exact own3
      have gV2 : Grew wr.heap.size V1 V2 := by
        rw [hV2.out]
        have : LeN wr.heap.size V1.heap.size := ⟨Nat.le_of_lt lV1⟩
        infer_instance
      have lV2 : Le wr.heap.size V2 := ⟨by have := HP2.out.lt_; omega⟩
      have gV3 : Grew W1.heap.size wr V2 := ⟨⟨gV2.out.1.trans gV.out.1, gV2.out.2.1.trans gV.out.2.1, gV2.out.2.2.1.trans gV.out.2.2.1, fun b hb => (gV2.out.2.2.2 b (Nat.lt_of_lt_of_le hb i2.out)).trans (gV.out.2.2.2 b hb)⟩⟩
      have gV4 : Grew W1.heap.size W1 V2 := ⟨⟨gV3.out.1.trans i1.out.1, gV3.out.2.1.trans i1.out.2.1, gV3.out.2.2.1.trans i1.out.2.2.1, fun b hb => (gV3.out.2.2.2 b hb).trans (i1.out.2.2.2 b hb)⟩⟩
      have hll : (looseN n k).ps.length = q := loose_len HQ.out (by have := HQ.out; have := HLT.out; omega)
      have HNL : Hid (NetIs V2.heap.size V2 ⟨r.hA, r.hc, some ⟨g, 0, none⟩, c1⟩ (looseN n k)) := by
        refine ⟨((NV.out.1.up (hg := gV2)).more lV2.out : Sl encHole V2.heap.size V2 r.hA r.hc n.hs), ?_⟩
        have h1 := HO2.out
        rw [← hll] at h1
        exact Sl.of_own h1
      have tl := fun B w hN hB => leastP_yes ⟨r.hA, r.hc, some ⟨g, 0, none⟩, c1⟩ (looseN n k) (loose_valid HV.out k).1 B w hN (hB := hB)
      rw [show netV ⟨r.hA, r.hc, some ⟨g, 0, none⟩, c1⟩ (looseN n k) = Value.agg #[.int .i64 n.m, .slice r.hA n.hs.length r.hc, .slice (some ⟨g, 0, none⟩) q c1] by simp only [netV, hll]; rfl] at tl
      have TL := Lib.hid tl
      obtain ⟨f, hf⟩ : ∃ f, leastN (looseN n k) = f := ⟨_, rfl⟩
      rw [hf] at tl
      have TL := Lib.hid tl
      have HF := Lib.hid hf
      have d0 := HP2.out.cell (i := 0) rfl
      have d1 := HP2.out.cell (i := 1) rfl
      have d2 := HP2.out.cell (i := 2) rfl
      have ilp := HP2.out.lt
      have hls : W1.heap.size ≤ V2.heap.size := Nat.le_trans i2.out lV2.out
      clear hV2 own1 own2 own3 HP1 HC1 NV hll tl hf lV1 gV gV2 gV3
      go_wp2_with (go_at_call 48; refine (TL.out _ _ HNL.out inferInstance).mono ?_; rintro e w1 ⟨rfl, δ4, rfl⟩)
      refine (lookI_c W1.heap.size _ b x k v f _ (HC2.out.lat _)).mono ?_
      rintro e w2 ⟨⟨v', rfl⟩, hb2, hk2⟩
      have hbl : Below W1.heap.size (lat V2 δ4) w2 := hk2.below (Nat.le_trans hls (lat_below V2 δ4).size) (fun b hb => Nat.le_of_eq hb.symm)
      have gW : Grew W1.heap.size V2 (lat V2 δ4) := by have : Le W1.heap.size V2 := ⟨hls⟩; infer_instance
      have gf : Grew W1.heap.size W1 w2 := ⟨⟨hbl.os.trans (gW.out.1.trans gV4.out.1), hbl.tape.trans (gW.out.2.1.trans gV4.out.2.1), hbl.output.trans (gW.out.2.2.1.trans gV4.out.2.2.1), fun b hb => (hbl.block b hb).trans ((gW.out.2.2.2 b hb).trans (gV4.out.2.2.2 b hb))⟩⟩
      have lf : Le W1.heap.size w2 := ⟨Nat.le_trans (Nat.le_trans hls (lat_below V2 δ4).size) hbl.size⟩
      have hki : k < 1000 := by have := HLT.out; omega
      go_wp2_with (fail)
      go_roundg (n.ps.length - (k + 1))
      case measure => have := HLT.out; omega
      case rel =>
        have hrk : ropeK n (k + 1) = if leastN (looseN n k) < leastN (looseN n (ropeK n k)) then k else ropeK n k := rfl
        rcases hst.out with ⟨rfl, rfl⟩ | ⟨hk0, rfl, rfl, rfl⟩
        · unfold lookV at hb2
          rw [if_pos (.inl rfl)] at hb2
          have e : ropeK n 1 = 0 := by rw [hrk]; exact if_neg (Int.lt_irrefl _)
          exact ⟨1, _, _, _, HLT.out, rfl, rfl, hb2, .inr ⟨by omega, rfl, by rw [e], by rw [e]; exact HF.out.symm⟩, gf, lf⟩
        · by_cases hlt : f < leastN (looseN n (ropeK n k))
          · unfold lookV at hb2
            rw [if_pos (.inr hlt)] at hb2
            rw [HF.out, if_pos hlt] at hrk
            exact ⟨k + 1, _, _, _, HLT.out, rfl, by go_num, hb2, .inr ⟨by omega, rfl, by rw [hrk], by rw [hrk]; exact HF.out.symm⟩, gf, lf⟩
          · unfold lookV at hb2
            rw [if_neg (by simp; omega)] at hb2
            rw [HF.out, if_neg hlt] at hrk
            exact ⟨k + 1, _, _, _, HLT.out, rfl, by go_num, hb2, .inr ⟨by omega, rfl, by rw [hrk], by rw [hrk]⟩, gf, lf⟩
    · obtain rfl : k = n.ps.length := by omega
      obtain ⟨h1, _⟩ | ⟨_, rfl, rfl, rfl⟩ := hst.out
      · omega
      · have d0 := hbx.cell (i := 0) rfl
        clear hbx
        go_wp2_with (fail)
        go_ret2
        rw [HR.out]
        have i8 : Grew w.heap.size w wr := grew_tr iw4 i1
        have i9 : Le w.heap.size wr := ⟨Nat.le_trans iw3.out i2.out⟩
        exact ⟨rfl, lat_ex⟩

end Go.Proofs.Ytbfehifidlojlaa
