/- Layer 2: walks of what the laws ask: Rising, isPart, CopyTruth, IsTruth, ready, given, drags. -/
import Derived.Test.YtgpcaaknpfopgaaDoorAn24
import Derived.Outline
namespace Go.Proofs.YtgpcaaknpfopgaaDoor
open Go.RowKit
open An

/-- Numbers strictly ascending, each from low to high. -/
def Rises (xs : List Int) (lo hi : Int) : Prop := ∀ k, k < xs.length → (lo ≤ nth xs k ∧ nth xs k ≤ hi) ∧ (0 < k → nth xs (k - 1) < nth xs k)

theorem within_is {n low high : Int} {b : Bool} (hb : inB low high n = b) (w : World) :
    Calls Tryd.prog 28 #[.int .i64 n, .int .i64 low, .int .i64 high] w fun e w' => e = .returned (.bool b) ∧ w = w' := by
  subst hb; exact within_c n low high w

theorem within2_is {n low high : Int} {b : Bool} (hb : inB low high n = b) (w : World) :
    Calls Tryd.prog 72 #[.int .i64 n, .int .i64 low, .int .i64 high] w fun e w' => e = .returned (.bool b) ∧ w = w' := by
  subst hb; exact within2_c n low high w

set_option maxRecDepth 100000 in
set_option maxHeartbeats 4000000 in
theorem rising_c (A : Option Addr) (c : Nat) (xs : List Int) (lo hi : Int) (B : Nat) (w : World) [hB : Le B w] (h : Sl encI B w A c xs) (hr : Rises xs lo hi) (ln : Nat) (hn : xs.length = ln) :
    Calls Tryd.prog 53 #[.slice A ln c, .int .i64 lo, .int .i64 hi] w fun e w' => e = .returned (.bool true) ∧ ∃ δ, w' = lat w δ := by
  subst hn
  have hl := h.len
  have HR := Lib.hid hr
  clear hr
  go_enter Tryd.func53, Tryd.ntmps53
  go_wp2_with (fail)
  go_loopg [7] xs.length (fun g i wr => ∃ (k : Nat) (δ : World), k ≤ xs.length ∧ g = xs.length - k ∧ i = .int .i64 k ∧ wr = lat w δ)
  case atStart => exact ⟨0, w, Nat.zero_le _, rfl, rfl, (lat_refl w).symm⟩
  case round =>
    obtain ⟨k, δ, hk, rfl, rfl, rfl⟩ := hrel
    by_cases hlt : k < xs.length
    · obtain ⟨b, o, rfl, hb, d0⟩ := h.int hlt
      have ib : Lt b w := ⟨Nat.lt_of_lt_of_le hb hB.out⟩
      have hq := HR.out k hlt
      have HW := Lib.hid (show inB lo hi (nth xs k) = true from inB_iff.2 hq.1)
      have HL := Lib.hid hq.2
      clear hq
      have hki : (k : Int) < (xs.length : Int) := by omega
      have hk0 : ¬ (k : Int) < 0 := by omega
      rcases Nat.eq_zero_or_pos k with h0 | h0
      · subst h0
        rw [Nat.add_zero] at d0
        go_wp2_with (fail)
        refine wp_region_lat (by kernel_rfl) (by kernel_rfl) ?_
        repeat (go_big_quiet_step ((first | (go_at_call 28; exact Calls.lat_same (within_is HW.out _)))))
        refine wpQuiet_nil ?_
        rintro _ ⟨δq, rfl⟩
        go_wp2_with (fail)
        go_roundg (xs.length - 1)
        case measure => omega
        case rel => exact ⟨1, _, by omega, rfl, by go_num, lat_def⟩
      · obtain ⟨j, rfl⟩ : ∃ j, k = j + 1 := ⟨k - 1, by omega⟩
        obtain ⟨b', o', hA', hb', d1⟩ := h.int (show j < xs.length by omega)
        injection hA' with hA'
        injection hA' with hA1 hA2
        subst hA1 hA2
        have hlt2 : ¬ nth xs (j + 1) ≤ nth xs j := by have := HL.out (by omega); rw [Nat.add_sub_cancel] at this; omega
        have hdn : decide (nth xs (j + 1) ≤ nth xs j) = false := by simpa using hlt2
        have hj0 : ¬ ((j : Int) < 0) := by omega
        have hj1 : (j : Int) < (xs.length : Int) := by omega
        go_wp2_with (fail)
        refine wp_region_lat (by kernel_rfl) (by kernel_rfl) ?_
        repeat (go_big_quiet_step ((first | (go_at_call 28; exact Calls.lat_same (within_is HW.out _)))))
        refine wpQuiet_nil ?_
        rintro _ ⟨δq, rfl⟩
        go_wp2_with (fail)
        go_roundg (xs.length - (j + 1 + 1))
        case measure => omega
        case rel => exact ⟨j + 1 + 1, _, by omega, rfl, by go_num, lat_def⟩
    · obtain rfl : k = xs.length := by omega
      go_wp2_with (fail)
      go_ret
      exact ⟨rfl, lat_ex⟩

/-- All numbers of a list are in another one. -/
def Part (xs ys : List Int) : Prop := ∀ k, k < xs.length → isIn ys (nth xs k) = true

set_option maxRecDepth 100000 in
set_option maxHeartbeats 4000000 in
theorem isPart_c (A A' : Option Addr) (c c' : Nat) (xs ys : List Int) (B : Nat) (w : World) [hB : Le B w] (h : Sl encI B w A c xs) (h' : Sl encI B w A' c' ys) (hp : Part xs ys) :
    Calls Tryd.prog 25 #[.slice A xs.length c, .slice A' ys.length c'] w fun e w' => e = .returned (.bool true) ∧ ∃ δ, w' = lat w δ := by
  have hl := h.len
  have HP := Lib.hid hp
  clear hp
  go_enter Tryd.func25, Tryd.ntmps25
  go_wp2_with (fail)
  go_loopg [5] xs.length (fun g i wr => ∃ (k : Nat) (δ : World), k ≤ xs.length ∧ g = xs.length - k ∧ i = .int .i64 k ∧ wr = lat w δ)
  case atStart => exact ⟨0, w, Nat.zero_le _, rfl, rfl, (lat_refl w).symm⟩
  case round =>
    obtain ⟨k, δ, hk, rfl, rfl, rfl⟩ := hrel
    by_cases hlt : k < xs.length
    · obtain ⟨b, o, rfl, hb, d0⟩ := h.int hlt
      have ib : Lt b w := ⟨Nat.lt_of_lt_of_le hb hB.out⟩
      have HI := Lib.hid (HP.out k hlt)
      go_wp2_with (go_at_call 55; refine (in_is HI.out h'.up).mono ?_; rintro e w1 ⟨rfl, rfl⟩)
      go_roundg (xs.length - (k + 1))
      case measure => omega
      case rel => exact ⟨k + 1, _, by omega, rfl, by go_num, lat_def⟩
    · obtain rfl : k = xs.length := by omega
      go_wp2_with (fail)
      go_ret
      exact ⟨rfl, lat_ex⟩

set_option maxRecDepth 100000 in
set_option maxHeartbeats 4000000 in
theorem copyTruth_c (rt : TruR) (t : Tru) (B : Nat) (w : World) [hB : Le B w] (h : TruIs B w rt t) (q : t.grips.length ≤ 1000) :
    Calls Tryd.prog 52 #[truV rt t] w fun e w' => ∃ (rt' : TruR) (δ : World), e = .returned (truV rt' t) ∧ w' = lat w δ ∧ TruIs (lat w δ).heap.size (lat w δ) rt' t := by
  have H := Lib.hid h
  clear h
  go_enter Tryd.func52, Tryd.ntmps52
  go_wp2_with (fail)
  refine wp_name fun W1 hW1 => ?_
  have iw1 : Le B W1 := by rw [hW1.out]; infer_instance
  have iw2 : Grew B w W1 := by rw [hW1.out]; infer_instance
  have iw3 : Le w.heap.size W1 := by rw [hW1.out]; infer_instance
  have iw4 : Grew w.heap.size w W1 := by rw [hW1.out]; infer_instance
  have iw5 : Lt (w.heap.size) W1 := by rw [hW1.out]; infer_instance
  have iw6 : Lt (w.heap.size + 1) W1 := by rw [hW1.out]; infer_instance
  have cw7 : W1.cell? ⟨w.heap.size, 0, none⟩ = some (.int .i64 t.wind) := by rw [hW1.out]; go_simp
  have cw8 : W1.cell? ⟨w.heap.size, 1, none⟩ = some (.int .i64 t.cur) := by rw [hW1.out]; go_simp
  have cw9 : W1.cell? ⟨w.heap.size, 2, none⟩ = some (.slice rt.tA t.grips.length rt.tc) := by rw [hW1.out]; go_simp
  have cw10 : W1.cell? ⟨w.heap.size + 1, 0, none⟩ = some (.int .i64 0) := by rw [hW1.out]; go_simp
  have cw11 : W1.cell? ⟨w.heap.size + 1, 1, none⟩ = some (.int .i64 0) := by rw [hW1.out]; go_simp
  have cw12 : W1.cell? ⟨w.heap.size + 1, 2, none⟩ = some (.slice none 0 0) := by rw [hW1.out]; go_simp
  have fw13 : W1.frozen? ⟨w.heap.size + 1, 0, none⟩ = false := by rw [hW1.out]; go_simp
  have fw14 : W1.frozen? ⟨w.heap.size + 1, 1, none⟩ = false := by rw [hW1.out]; go_simp
  have fw15 : W1.frozen? ⟨w.heap.size + 1, 2, none⟩ = false := by rw [hW1.out]; go_simp
  go_region_held3 (fun W => W.cell? ⟨w.heap.size, 0, none⟩ = some (.int .i64 t.wind) ∧ W.cell? ⟨w.heap.size, 1, none⟩ = some (.int .i64 t.cur) ∧ W.cell? ⟨w.heap.size, 2, none⟩ = some (.slice rt.tA t.grips.length rt.tc))
    (refine ⟨?_, ?_, ?_⟩ <;> go_simp)
    ((refine step_append_lit W1 slI (.tmp 7) (.tmp 9) rfl rfl (v := .slice (some ⟨_, 0, none⟩) 0 0) (by first | exact own_lit0 (by go_simp) (by go_simp) | exact (own_lit0 (by go_simp) (by go_simp)).alloc _) rfl (B := B) (A := rt.tA) (m := t.grips.length) (c := rt.tc) (news := t.grips.flatMap encI) rfl (H.out.up.2.2) (len_encI t.grips) (one_encI t.grips) (by omega) (by omega) ?_; intro A1 c1 δ1 own1 hg1))
  go_wp2_with (fail)
  refine bodyPost_ret (v := truV ⟨A1, c1⟩ t) ?_ rfl ?_
  · simp only [results, Tryd.results52]
    go_simp
  · refine ⟨⟨A1, c1⟩, _, rfl, lat_def, ?_⟩
    rw [← lat_def (w := w)]
    refine Sl.of_own (base := W1.heap.size) (e := 3) (size := 1) ?_
    iterate 3 (refine ownsRow_setCell_below (a := ⟨_, _, _⟩) ?_ iw6.out _)
    exact own1

set_option maxRecDepth 100000 in
set_option maxHeartbeats 4000000 in
theorem rIsTruth_c (r : NetR) (n : Net) (rt : TruR) (t : Tru) (B : Nat) (w : World) [hB : Le B w] (h : NetIs B w r n) (h' : TruIs B w rt t) :
    Calls Tryd.prog 71 #[netV r n, truV rt t] w fun e w' => e = .returned (.bool (truB n t)) ∧ ∃ δ, w' = lat w δ := by
  have l1 := h.1.len
  have l2 := h'.len
  by_cases hl : t.grips.length = n.grips.length
  case neg =>
    have hne : ((t.grips.length : Int) != (n.grips.length : Int)) = true := by simp; omega
    have HT := Lib.hid (show truB n t = false by simp [truB, hl])
    clear hl
    go_enter Tryd.func71, Tryd.ntmps71
    go_wp2_with (go_at_call 72; refine (within2_c _ _ _ _).mono ?_; rintro e w1 ⟨rfl, rfl⟩)
    all_goals
      go_ret
      exact ⟨ret_bool HT.out.symm, lat_ex⟩
  case pos =>
    have hne : ((t.grips.length : Int) != (n.grips.length : Int)) = false := by simp; omega
    have HL := Lib.hid hl
    clear hl
    go_enter Tryd.func71, Tryd.ntmps71
    go_wp2_with (go_at_call 72; refine (within2_c _ _ _ _).mono ?_; rintro e w1 ⟨rfl, rfl⟩)
    all_goals first
      | (go_ret
         refine ⟨ret_bool ?_, lat_ex⟩
         go_light
         grind [truB, inSp])
      | skip
    refine wp_name fun W1 hW1 => ?_
    have iw1 : Le B W1 := by rw [hW1.out]; infer_instance
    have iw2 : Grew B w W1 := by rw [hW1.out]; infer_instance
    have iw3 : Le w.heap.size W1 := by rw [hW1.out]; infer_instance
    have iw4 : Grew w.heap.size w W1 := by rw [hW1.out]; infer_instance
    have iw5 : Lt (w.heap.size) W1 := by rw [hW1.out]; infer_instance
    have iw6 : Lt (w.heap.size + 1) W1 := by rw [hW1.out]; infer_instance
    have cw7 : W1.cell? ⟨w.heap.size, 4, none⟩ = some (.slice r.gA n.grips.length r.gc) := by rw [hW1.out]; go_simp
    have cw8 : W1.cell? ⟨w.heap.size + 1, 2, none⟩ = some (.slice rt.tA t.grips.length rt.tc) := by rw [hW1.out]; go_simp
    have s1 : Sl encSp B W1 r.gA r.gc n.grips := h.1.up
    have s2 : Sl encI B W1 rt.tA rt.tc t.grips := h'.up
    have F := Lib.hid (show inSp n.wind t.wind = true ∧ inSp n.cur t.cur = true by refine ⟨by assumption, by assumption⟩)
    go_loopg [5] t.grips.length (fun g i wr => ∃ (k : Nat) (δ : World), k ≤ t.grips.length ∧ g = t.grips.length - k ∧ i = .int .i64 k ∧ Hid (gripsIn n.grips t.grips k = true) ∧ wr = lat W1 δ)
    case atStart => exact ⟨0, W1, Nat.zero_le _, rfl, rfl, by simp [Hid, gripsIn], (lat_refl W1).symm⟩
    case round =>
      obtain ⟨k, δ, hk, rfl, rfl, hn, rfl⟩ := hrel
      by_cases hlt : k < t.grips.length
      · obtain ⟨b, o, hA, hb, d0⟩ := s2.int hlt
        have hlt' : k < n.grips.length := by have := HL.out; omega
        obtain ⟨b', o', hA', hb', d1, d2⟩ := s1.sp hlt'
        have ib : Lt b W1 := ⟨Nat.lt_of_lt_of_le hb iw1.out⟩
        have ib' : Lt b' W1 := ⟨Nat.lt_of_lt_of_le hb' iw1.out⟩
        have HS := Lib.hid (gripsIn_succ n.grips t.grips k)
        have hki : (k : Int) < (n.grips.length : Int) := by omega
        have hki2 : (k : Int) < (t.grips.length : Int) := by omega
        have hk0 : ¬ (k : Int) < 0 := by omega
        rw [hA'] at cw7
        rw [hA] at cw8
        clear hA hA'
        by_cases hq : inSp (nth n.grips k) (nth t.grips k) = true
        all_goals try rw [Bool.not_eq_true] at hq
        all_goals
          have HQ := Lib.hid (show inB (nth n.grips k).lo (nth n.grips k).hi (nth t.grips k) = _ from hq)
          go_wp2_with (fail)
          refine wp_region_lat (by kernel_rfl) (by kernel_rfl) ?_
          repeat (go_big_quiet_step ((first | (go_at_call 72; exact Calls.lat_same (within2_is HQ.out _)))))
          refine wpQuiet_nil ?_
          rintro _ ⟨δq, rfl⟩
          go_wp2_with (fail)
        · go_roundg (t.grips.length - (k + 1))
          case measure => omega
          case rel => exact ⟨k + 1, _, by omega, rfl, by go_num, by unfold Hid; rw [HS.out, hn.out, hq]; rfl, lat_def⟩
        · go_ret
          refine ⟨ret_bool ?_, lat_ex⟩
          rw [eq_comm, ← Bool.not_eq_true]
          intro hT
          simp only [truB, Bool.and_eq_true] at hT
          have := gripsIn_le hT.2 hlt
          rw [hq] at this; cases this
      · obtain rfl : k = t.grips.length := by omega
        have HT := Lib.hid (show truB n t = true from by unfold truB; rw [F.out.1, F.out.2, hn.out, decide_eq_true HL.out]; rfl)
        clear hn hlt hk
        go_wp2_with (fail)
        go_ret
        exact ⟨ret_bool HT.out.symm, lat_ex⟩

def ReadyPost (n : Net) (w : World) (e : Ending) (w' : World) : Prop := ∃ b, e = .returned (.bool b) ∧ (b = true → valid n = true ∧ hugeV n ⟨0, 0, []⟩ = false) ∧ ∃ δ, w' = lat w δ

set_option maxRecDepth 100000 in
set_option maxHeartbeats 4000000 in
theorem ready_c (r : NetR) (n : Net) (B : Nat) (w : World) [hB : Le B w] (h : NetIs B w r n) :
    Calls Tryd.prog 35 #[netV r n] w fun e w' => ReadyPost n w e w' := by
  go_enter Tryd.func35, Tryd.ntmps35
  go_wp2_with (fail)
  refine (far_c r n B _ h.up).mono ?_
  unfold FarPost
  rintro e w1 ⟨b, rfl, hb, δ, rfl⟩
  cases b
  · have HQ := Lib.hid (hb rfl)
    clear hb
    by_cases hv : valid n = true
    all_goals try rw [Bool.not_eq_true] at hv
    all_goals
      have HV := Lib.hid hv
      clear hv
      go_wp2_with (go_at_call 39; refine (rCheck_c r n B _ h.up).mono ?_; rw [HV.out]; rintro e w1 ⟨rfl, δ, rfl⟩)
      go_ret
      unfold ReadyPost
    · exact ⟨true, rfl, fun _ => ⟨HV.out, HQ.out⟩, lat_ex⟩
    · exact ⟨false, rfl, fun hf => absurd hf (by simp), lat_ex⟩
  · go_wp2_with (fail)
    go_ret
    unfold ReadyPost
    exact ⟨false, rfl, fun hf => absurd hf (by simp), lat_ex⟩

def GivenPost (n : Net) (t : Tru) (w : World) (e : Ending) (w' : World) : Prop := ∃ b, e = .returned (.bool b) ∧ (b = true → valid n = true ∧ hugeV n ⟨0, 0, []⟩ = false ∧ truB n t = true) ∧ ∃ δ, w' = lat w δ

set_option maxRecDepth 100000 in
set_option maxHeartbeats 4000000 in
theorem given_c (r : NetR) (n : Net) (rt : TruR) (t : Tru) (B : Nat) (w : World) [hB : Le B w] (h : NetIs B w r n) (h' : TruIs B w rt t) :
    Calls Tryd.prog 23 #[netV r n, truV rt t] w fun e w' => GivenPost n t w e w' := by
  go_enter Tryd.func23, Tryd.ntmps23
  go_wp2_with (fail)
  refine (ready_c r n B _ h.up).mono ?_
  unfold ReadyPost
  rintro e w1 ⟨b, rfl, hb, δ, rfl⟩
  cases b
  · go_wp2_with (fail)
    go_ret
    unfold GivenPost
    exact ⟨false, rfl, fun hf => absurd hf (by simp), lat_ex⟩
  · have HQ := Lib.hid (hb rfl)
    clear hb
    by_cases h40 : t.grips.length ≤ 40
    · have h40' : decide ((t.grips.length : Int) ≤ 40) = true := by simp; omega
      go_wp2_with (go_at_call 71; refine (rIsTruth_c r n rt t B _ h.up h'.up).mono ?_; rintro e w1 ⟨rfl, δ, rfl⟩)
      go_ret
      unfold GivenPost
      exact ⟨truB n t, rfl, fun hf => ⟨HQ.out.1, HQ.out.2, hf⟩, lat_ex⟩
    · have h40' : decide ((t.grips.length : Int) ≤ 40) = false := by simp; omega
      go_wp2_with (fail)
      go_ret
      unfold GivenPost
      exact ⟨false, rfl, fun hf => absurd hf (by simp), lat_ex⟩

end Go.Proofs.YtgpcaaknpfopgaaDoor
