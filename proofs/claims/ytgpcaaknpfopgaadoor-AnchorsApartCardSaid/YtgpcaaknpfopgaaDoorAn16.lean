/- Layer 2: which truths there are; the walk of quiet of the reference. -/
import Derived.Test.YtgpcaaknpfopgaaDoorAn15
namespace Go.Proofs.YtgpcaaknpfopgaaDoor
open Go.RowKit
open An

theorem mem_upto {lo x : Int} {k : Nat} : x ∈ upto lo k ↔ lo ≤ x ∧ x < lo + k := by
  unfold upto
  simp only [List.mem_map, List.mem_range]
  constructor
  · rintro ⟨j, hj, rfl⟩; omega
  · intro h; exact ⟨(x - lo).toNat, by omega, by omega⟩
theorem mem_spanL {s : Sp} {x : Int} : x ∈ spanL s ↔ inSp s x = true := by
  unfold spanL inSp
  rw [mem_upto, inB_iff]; omega
theorem mem_gripsF {gs : List Sp} : ∀ (m : Nat) (f l : List Int), f.length + m = gs.length → (l ∈ gripsF m gs f ↔ l.length = gs.length ∧ l.take f.length = f ∧ ∀ i, f.length ≤ i → i < gs.length → inSp (nth gs i) (nth l i) = true) := by
  intro m
  induction m with
  | zero =>
    intro f l hf
    unfold gripsF
    rw [List.mem_singleton]
    constructor
    · rintro rfl; exact ⟨by omega, List.take_length, fun i h1 h2 => by omega⟩
    · rintro ⟨h1, h2, _⟩
      rw [List.take_of_length_le (by omega)] at h2
      exact h2
  | succ m ih =>
    intro f l hf
    unfold gripsF
    rw [List.mem_flatMap]
    constructor
    · rintro ⟨g, hg, hl⟩
      rw [ih _ _ (by simp; omega)] at hl
      obtain ⟨h1, h2, h3⟩ := hl
      rw [mem_upto] at hg
      have hlen : f.length < l.length := by omega
      rw [List.length_append, List.length_singleton] at h2 h3
      rw [take_snoc l hlen] at h2
      have h4 := List.append_inj h2 (by rw [List.length_take]; omega)
      refine ⟨h1, h4.1, fun i hi1 hi2 => ?_⟩
      by_cases hif : i = f.length
      · subst hif
        have h5 := h4.2
        simp only [List.cons.injEq, and_true] at h5
        rw [h5, inSp, inB_iff]; omega
      · exact h3 i (by omega) hi2
    · rintro ⟨h1, h2, h3⟩
      have hlen : f.length < l.length := by omega
      refine ⟨nth l f.length, ?_, ?_⟩
      · have := h3 f.length (Nat.le_refl _) (by omega)
        rw [inSp, inB_iff] at this
        rw [mem_upto]; omega
      · rw [ih _ _ (by simp; omega)]
        refine ⟨h1, ?_, fun i hi1 hi2 => h3 i (by simp at hi1; omega) hi2⟩
        rw [List.length_append, List.length_singleton, take_snoc l hlen, h2]
theorem mem_truthsV {n : Net} {t : Tru} : t ∈ truthsV n ↔ truB n t = true := by
  unfold truthsV truW truC truI
  simp only [List.mem_flatMap, List.mem_map, mem_spanL]
  have hgr : ∀ l, l ∈ gripsV n ↔ l.length = n.grips.length ∧ gripsIn n.grips l l.length = true := by
    intro l
    unfold gripsV
    rw [mem_gripsF _ _ _ (by simp)]
    simp only [List.length_nil, List.take_zero, true_and, Nat.zero_le, forall_const]
    constructor
    · rintro ⟨h1, h2⟩
      refine ⟨h1, ?_⟩
      unfold gripsIn
      rw [List.all_eq_true]
      intro i hi
      exact h2 i (by rw [← h1]; simpa using hi)
    · rintro ⟨h1, h2⟩
      exact ⟨h1, fun i hi => gripsIn_le h2 (by omega)⟩
  constructor
  · rintro ⟨w, hw, c, hc, l, hl, rfl⟩
    rw [hgr] at hl
    simp only [truB, hw, hc, hl.1, decide_true, Bool.and_self]
    rw [← hl.1, hl.2]; rfl
  · intro h
    simp only [truB, Bool.and_eq_true, decide_eq_true_eq] at h
    exact ⟨t.wind, h.1.1.1, t.cur, h.1.1.2, t.grips, (hgr _).2 ⟨h.1.2, h.2⟩, rfl⟩

/-- Nothing drags in a truth. -/
def calm (n : Net) (t : Tru) : Bool := decide ((moreV n t [] n.ancs.length).length = 0)
def quietTo (n : Net) (k : Nat) : Nat := (((truthsV n).take k).filter (calm n)).length
def quietN (n : Net) : Nat := ((truthsV n).filter (calm n)).length

theorem truthsV_len {n : Net} (hv : valid n = true) : (truthsV n).length ≤ 441000 := by
  have v1 := (valid_iff.1 hv).1
  have v2 := (valid_iff.1 hv).2.1
  have v3 := (valid_iff.1 hv).2.2.1
  have v6 := (valid_iff.1 hv).2.2.2.2.2.1
  have hgl := (gripsF_len v6 n.grips.length [] (by simp)).1
  have hpw : 10 ^ n.grips.length ≤ 10 ^ 3 := Nat.pow_le_pow_right (by omega) v3
  simp only [okSp, decide_eq_true_eq] at v1 v2
  unfold truthsV spanL
  rw [truW_len]
  have h1 : (gripsV n).length ≤ 1000 := by unfold gripsV; omega
  have q1 := Nat.mul_le_mul (show (n.cur.hi + 1 - n.cur.lo).toNat ≤ 21 by omega) h1
  have q2 := Nat.mul_le_mul (show (n.wind.hi + 1 - n.wind.lo).toNat ≤ 21 by omega) q1
  omega

set_option maxRecDepth 100000 in
set_option maxHeartbeats 4000000 in
theorem quiet_c (r : NetR) (n : Net) (B : Nat) (w : World) [hB : Le B w] (h : NetIs B w r n) (hv : valid n = true) :
    Calls Tryd.prog 69 #[netV r n] w fun e w' => e = .returned (.tuple #[.int .i64 (quietN n), .int .i64 (truthsV n).length]) ∧ ∃ δ, w' = lat w δ := by
  have hlen := truthsV_len hv
  have HV := Lib.hid hv
  clear hv
  go_enter Tryd.func69, Tryd.ntmps69
  go_wp2_with (go_at_call 97; refine (truths_c r n B _ h.up HV.out).mono ?_; rintro e w1 ⟨Al, cl, δ, rfl, rfl, hSl⟩)
  refine wp_name fun W1 hW1 => ?_
  have iw1 : Le B W1 := by rw [hW1.out]; infer_instance
  have iw2 : Grew B w W1 := by rw [hW1.out]; infer_instance
  have iw3 : Le w.heap.size W1 := by rw [hW1.out]; infer_instance
  have iw4 : Grew w.heap.size w W1 := by rw [hW1.out]; infer_instance
  have iw5 : Lt (w.heap.size) W1 := by rw [hW1.out]; infer_instance
  have cw6 : W1.cell? ⟨w.heap.size, 0, none⟩ = some (.int .i64 n.wind.lo) := by rw [hW1.out]; go_simp
  have cw7 : W1.cell? ⟨w.heap.size, 1, none⟩ = some (.int .i64 n.wind.hi) := by rw [hW1.out]; go_simp
  have cw8 : W1.cell? ⟨w.heap.size, 2, none⟩ = some (.int .i64 n.cur.lo) := by rw [hW1.out]; go_simp
  have cw9 : W1.cell? ⟨w.heap.size, 3, none⟩ = some (.int .i64 n.cur.hi) := by rw [hW1.out]; go_simp
  have cw10 : W1.cell? ⟨w.heap.size, 4, none⟩ = some (.slice r.gA n.grips.length r.gc) := by rw [hW1.out]; go_simp
  have cw11 : W1.cell? ⟨w.heap.size, 5, none⟩ = some (.slice r.aA n.ancs.length r.ac) := by rw [hW1.out]; go_simp
  have cw12 : W1.cell? ⟨w.heap.size, 6, none⟩ = some (.slice r.wA n.wals.length r.wc) := by rw [hW1.out]; go_simp
  have hS1 : SlTru W1 Al cl (truthsV n) := by rw [hW1.out]; exact hSl
  have HS := Lib.hid hS1
  have g1 : NetIs B W1 r n := h.up
  clear hS1 hSl
  go_loopw [2, 5] (fun s i wr => ∃ (k : Nat) (δ : World), k ≤ (truthsV n).length ∧ i = .int .i64 k ∧ s = .int .i64 (quietTo n k) ∧ wr = lat W1 δ) (fun _ i _ => (truthsV n).length - (intOf i).toNat)
  case atStart => exact ⟨0, W1, Nat.zero_le _, rfl, rfl, (lat_refl W1).symm⟩
  case round =>
    obtain ⟨k, δ, hk, rfl, rfl, rfl⟩ := hrel
    by_cases hlt : k < (truthsV n).length
    · obtain ⟨b, o, A', c', hA, hb, d0, d1, d2, hgs⟩ := HS.out.at_ hlt
      have ib : Lt b W1 := ⟨hb⟩
      rw [hA]
      clear hA
      have htm : truB n (nth (truthsV n) k) = true := mem_truthsV.1 (nth_mem _ hlt)
      have hok := okTru_of HV.out htm
      have hq : quietTo n k ≤ k := by
        unfold quietTo
        have := List.length_filter_le (calm n) ((truthsV n).take k)
        rw [List.length_take] at this; omega
      have hki : (k : Int) < ((truthsV n).length : Int) := by omega
      have hk0 : ¬ (k : Int) < 0 := by omega
      have HS2 : Hid (quietTo n (k + 1) = quietTo n k + if calm n (nth (truthsV n) k) = true then 1 else 0) := by
        unfold Hid quietTo
        rw [take_snoc _ hlt, List.filter_append, List.length_append]
        congr 1
        by_cases hc : calm n (nth (truthsV n) k) = true <;> simp [hc]
      by_cases hc : (moreV n (nth (truthsV n) k) [] n.ancs.length).length = 0
      all_goals
        have hc' := hc
      · have HN := Lib.hid (show quietTo n (k + 1) = quietTo n k + 1 by rw [HS2.out, if_pos (by simp [calm, hc])])
        have HZ := Lib.hid hc
        have hz : (((moreV n (nth (truthsV n) k) [] n.ancs.length).length : Int) == 0) = true := by rw [beq0, decide_eq_true_eq]; exact hc
        clear hc hc' htm
        go_wp2_with (fail)
        go_region_held3 (fun W => W.cell? ⟨w.heap.size, 0, none⟩ = some (.int .i64 n.wind.lo) ∧ W.cell? ⟨w.heap.size, 1, none⟩ = some (.int .i64 n.wind.hi) ∧ W.cell? ⟨w.heap.size, 2, none⟩ = some (.int .i64 n.cur.lo) ∧ W.cell? ⟨w.heap.size, 3, none⟩ = some (.int .i64 n.cur.hi) ∧
            W.cell? ⟨w.heap.size, 4, none⟩ = some (.slice r.gA n.grips.length r.gc) ∧ W.cell? ⟨w.heap.size, 5, none⟩ = some (.slice r.aA n.ancs.length r.ac) ∧ W.cell? ⟨w.heap.size, 6, none⟩ = some (.slice r.wA n.wals.length r.wc) ∧
            W.cell? ⟨b, o + k * 3, none⟩ = some (.int .i64 (nth (truthsV n) k).wind) ∧ W.cell? ⟨b, o + k * 3 + 1, none⟩ = some (.int .i64 (nth (truthsV n) k).cur) ∧ W.cell? ⟨b, o + k * 3 + 2, none⟩ = some (.slice A' (nth (truthsV n) k).grips.length c'))
          (refine ⟨?_, ?_, ?_, ?_, ?_, ?_, ?_, ?_, ?_, ?_⟩ <;> go_simp)
          (first
            | (go_at_call 108; refine (more_c r n ⟨A', c'⟩ (nth (truthsV n) k) none 0 [] _ _ g1.wide hgs.wide Sl.none_ hok).mono ?_; rintro e w1 ⟨A2, c2, δ2, rfl, rfl, _⟩))
        go_wp2_with (fail)
        go_roundw
        case rel => exact ⟨k + 1, _, by omega, by go_num, by rw [HN.out]; go_num, lat_def⟩
        case measure => simp [intOf]; omega
      · have HN := Lib.hid (show quietTo n (k + 1) = quietTo n k by rw [HS2.out, if_neg (by simp [calm, hc]), Nat.add_zero])
        have hz : (((moreV n (nth (truthsV n) k) [] n.ancs.length).length : Int) == 0) = false := by rw [beq0, decide_eq_false_iff_not]; exact hc
        clear hc hc' htm
        go_wp2_with (fail)
        go_region_held3 (fun W => W.cell? ⟨w.heap.size, 0, none⟩ = some (.int .i64 n.wind.lo) ∧ W.cell? ⟨w.heap.size, 1, none⟩ = some (.int .i64 n.wind.hi) ∧ W.cell? ⟨w.heap.size, 2, none⟩ = some (.int .i64 n.cur.lo) ∧ W.cell? ⟨w.heap.size, 3, none⟩ = some (.int .i64 n.cur.hi) ∧
            W.cell? ⟨w.heap.size, 4, none⟩ = some (.slice r.gA n.grips.length r.gc) ∧ W.cell? ⟨w.heap.size, 5, none⟩ = some (.slice r.aA n.ancs.length r.ac) ∧ W.cell? ⟨w.heap.size, 6, none⟩ = some (.slice r.wA n.wals.length r.wc) ∧
            W.cell? ⟨b, o + k * 3, none⟩ = some (.int .i64 (nth (truthsV n) k).wind) ∧ W.cell? ⟨b, o + k * 3 + 1, none⟩ = some (.int .i64 (nth (truthsV n) k).cur) ∧ W.cell? ⟨b, o + k * 3 + 2, none⟩ = some (.slice A' (nth (truthsV n) k).grips.length c'))
          (refine ⟨?_, ?_, ?_, ?_, ?_, ?_, ?_, ?_, ?_, ?_⟩ <;> go_simp)
          (first
            | (go_at_call 108; refine (more_c r n ⟨A', c'⟩ (nth (truthsV n) k) none 0 [] _ _ g1.wide hgs.wide Sl.none_ hok).mono ?_; rintro e w1 ⟨A2, c2, δ2, rfl, rfl, _⟩))
        go_wp2_with (fail)
        go_roundw
        case rel => exact ⟨k + 1, _, by omega, by go_num, by rw [HN.out], lat_def⟩
        case measure => simp [intOf]; omega
    · obtain rfl : k = (truthsV n).length := by omega
      have HQ := Lib.hid (show quietTo n (truthsV n).length = quietN n by unfold quietTo quietN; rw [List.take_length])
      go_wp2_with (fail)
      go_ret2
      exact ⟨ret2 (int_eq (by rw [HQ.out])) rfl, lat_ex⟩

end Go.Proofs.YtgpcaaknpfopgaaDoor
