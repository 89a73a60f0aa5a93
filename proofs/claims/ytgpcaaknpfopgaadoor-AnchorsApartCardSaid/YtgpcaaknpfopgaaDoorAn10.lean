/- Layer 2: the walks of Spare, isTruth, First and Drags of the program. -/
import Derived.Test.YtgpcaaknpfopgaaDoorAn9
namespace Go.Proofs.YtgpcaaknpfopgaaDoor
open Go.RowKit
open An

/-- Spare's answer. -/
def spareV (n : Net) (i : Int) : Sp := if valid n && inB 0 (n.ancs.length - 1) i then ⟨spare n (worstT n) i.toNat (fun _ => false), spare n (bestT n) i.toNat (fun _ => false)⟩ else ⟨0, 0⟩
theorem spare0_c (r : NetR) (n : Net) (rt : TruR) (t : Tru) (i : Nat) (B : Nat) (w : World) [hB : Le B w] (h : NetIs B w r n) (h' : TruIs B w rt t) (ht : okTru n t) (hi : i < n.ancs.length) :
    Calls Tryd.prog 78 #[rowV r n rt t, .int .i64 i, .int .u64 0] w fun e w' => e = .returned (.int .i64 (spare n t i (fun _ => false))) ∧ ∃ δ, w' = lat w δ :=
  (spare_c r n rt t i 0 B w h h' ht hi (by omega)).mono fun e w' ⟨he, hδ⟩ => ⟨by
    have e : (fun k => Nat.testBit 0 k) = fun _ => false := funext fun i => Nat.zero_testBit i
    rw [e] at he; exact he, hδ⟩

set_option maxHeartbeats 2000000 in
theorem spareN_c (r : NetR) (n : Net) (i : Int) (B : Nat) (w : World) [hB : Le B w] (h : NetIs B w r n) :
    Calls Tryd.prog 33 #[netV r n, .int .i64 i] w fun e w' => e = .returned (.tuple #[.agg #[.int .i64 (spareV n i).lo, .int .i64 (spareV n i).hi], .int .i64 (askE (valid n) (inB 0 (n.ancs.length - 1) i))]) ∧ ∃ δ, w' = lat w δ := by
  by_cases hv : valid n = true ∧ inB 0 (n.ancs.length - 1) i = true
  · obtain ⟨hv, hi⟩ := hv
    have HD := Lib.hid (show spareV n i = ⟨spare n (worstT n) i.toNat (fun _ => false), spare n (bestT n) i.toNat (fun _ => false)⟩ by simp only [spareV, hv, hi]; rfl)
    have h3 := (valid_iff.1 hv).2.2.1
    have h6 := (valid_iff.1 hv).2.2.2.1
    have hw := okTru_worst hv
    have hb := okTru_best hv
    have HV := Lib.hid hv
    have HI := Lib.hid hi
    have hi' := inB_iff.1 hi
    obtain ⟨k, rfl⟩ := Int.eq_ofNat_of_zero_le hi'.1
    have hk : k < n.ancs.length := by omega
    rw [hv, hi]
    clear hv hi hi'
    go_enter Tryd.func33, Tryd.ntmps33
    go_wp2_with (fail)
    refine wp_region_lat (by kernel_rfl) (by kernel_rfl) ?_
    repeat (go_big_quiet_step ((first | (go_at_call 74; exact Calls.lat_of (isAnchor_c r n _ B _ h.up)) | (go_at_call 73; exact Calls.lat_of (open_pass r n _ B _ h.up HV.out HI.out)))))
    refine wpQuiet_nil ?_
    rintro _ ⟨δ0, rfl⟩
    go_wp2_with (fail)
    go_region_held3 (fun W => W.cell? ⟨w.heap.size, 0, none⟩ = some (.int .i64 n.wind.lo) ∧ W.cell? ⟨w.heap.size, 1, none⟩ = some (.int .i64 n.wind.hi) ∧ W.cell? ⟨w.heap.size, 2, none⟩ = some (.int .i64 n.cur.lo) ∧ W.cell? ⟨w.heap.size, 3, none⟩ = some (.int .i64 n.cur.hi) ∧
        W.cell? ⟨w.heap.size, 4, none⟩ = some (.slice r.gA n.grips.length r.gc) ∧ W.cell? ⟨w.heap.size, 5, none⟩ = some (.slice r.aA n.ancs.length r.ac) ∧ W.cell? ⟨w.heap.size, 6, none⟩ = some (.slice r.wA n.wals.length r.wc))
      (refine ⟨?_, ?_, ?_, ?_, ?_, ?_, ?_⟩ <;> go_simp)
      (first
        | (go_at_call 66; refine (worst_c r n B _ h.up h3).mono ?_; rintro e w1 ⟨rt, δ, rfl, rfl, ht⟩)
        | (go_at_call 68; refine (best_c r n B _ h.up h3).mono ?_; rintro e w1 ⟨rt, δ, rfl, rfl, ht⟩)
        | (go_at_call 78; refine (spare0_c r n _ _ k _ _ h.wide ht.wide (by assumption) hk).mono ?_; rintro e w1 ⟨rfl, δ, rfl⟩))
    go_wp2_with (fail)
    refine bodyPost_ret (v := .tuple #[.agg #[.int .i64 (spare n (worstT n) k (fun _ => false)), .int .i64 (spare n (bestT n) k (fun _ => false))], .int .i64 0]) ?_ rfl ?_
    · simp only [results, Tryd.results33]
      go_simp
    · exact ⟨ret2 (by rw [HD.out]; rfl) rfl, lat_ex⟩
  · have HD := Lib.hid (show spareV n i = ⟨0, 0⟩ by unfold spareV; rw [if_neg]; simpa using hv)
    have hne : ((askE (valid n) (inB 0 (n.ancs.length - 1) i)) != 0) = true := by
      unfold askE
      by_cases h1 : valid n = true
      · have : inB 0 (n.ancs.length - 1) i = false := by rw [← Bool.not_eq_true]; exact fun h2 => hv ⟨h1, h2⟩
        rw [h1, this]; rfl
      · rw [Bool.not_eq_true] at h1; rw [h1]; rfl
    clear hv
    go_enter Tryd.func33, Tryd.ntmps33
    go_wp2_with (fail)
    refine wp_region_lat (by kernel_rfl) (by kernel_rfl) ?_
    repeat (go_big_quiet_step ((first | (go_at_call 74; exact Calls.lat_of (isAnchor_c r n _ B _ h.up)) | (go_at_call 73; exact Calls.lat_of (open_c r n _ B _ h.up)))))
    refine wpQuiet_nil ?_
    rintro _ ⟨δ0, rfl⟩
    go_wp2_with (fail)
    refine bodyPost_ret (v := .tuple #[.agg #[.int .i64 0, .int .i64 0], .int .i64 (askE (valid n) (inB 0 (n.ancs.length - 1) i))]) ?_ rfl ?_
    · simp only [results, Tryd.results33]
      go_simp
    · exact ⟨ret2 (by rw [HD.out]) rfl, lat_ex⟩

/-- Is a truth one of a net? -/
def inSp (s : Sp) (k : Int) : Bool := inB s.lo s.hi k
def gripsIn (gs : List Sp) (ts : List Int) (k : Nat) : Bool := (List.range k).all fun i => inSp (nth gs i) (nth ts i)
def truB (n : Net) (t : Tru) : Bool := inSp n.wind t.wind && inSp n.cur t.cur && decide (t.grips.length = n.grips.length) && gripsIn n.grips t.grips t.grips.length
theorem gripsIn_succ (gs : List Sp) (ts : List Int) (k : Nat) : gripsIn gs ts (k + 1) = (gripsIn gs ts k && inSp (nth gs k) (nth ts k)) := by simp [gripsIn, List.range_succ]
theorem gripsIn_le {gs : List Sp} {ts : List Int} {k m : Nat} (h : gripsIn gs ts m = true) (hk : k < m) : inSp (nth gs k) (nth ts k) = true := by
  unfold gripsIn at h
  exact (List.all_eq_true.1 h) k (by simpa using hk)

theorem isTruth1_c (s : Sp) (k : Int) (w : World) :
    Calls Tryd.prog 113 #[.agg #[.int .i64 s.lo, .int .i64 s.hi], .int .i64 k] w fun e w' => e = .returned (.bool (inSp s k)) ∧ ∃ δ, w' = lat w δ := by
  go_enter Tryd.func113, Tryd.ntmps113
  by_cases h1 : s.lo ≤ k
  · go_wp2
    go_ret
    exact ⟨ret_bool (by grind [inSp, inB]), lat_ex⟩
  · go_wp2
    go_ret
    exact ⟨ret_bool (by grind [inSp, inB]), lat_ex⟩

set_option maxHeartbeats 2000000 in
theorem isTruth_c (r : NetR) (n : Net) (rt : TruR) (t : Tru) (B : Nat) (w : World) [hB : Le B w] (h : NetIs B w r n) (h' : TruIs B w rt t) :
    Calls Tryd.prog 101 #[netV r n, truV rt t] w fun e w' => e = .returned (.bool (truB n t)) ∧ ∃ δ, w' = lat w δ := by
  have l1 := h.1.len
  have l2 := h'.len
  by_cases hl : t.grips.length = n.grips.length
  case neg =>
    have hne : ((t.grips.length : Int) != (n.grips.length : Int)) = true := by simp; omega
    have HT := Lib.hid (show truB n t = false by simp [truB, hl])
    clear hl
    go_enter Tryd.func101, Tryd.ntmps101
    go_wp2_with (go_at_call 113; refine (isTruth1_c _ _ _).mono ?_; rintro e w1 ⟨rfl, δ, rfl⟩)
    all_goals
      go_ret
      exact ⟨ret_bool HT.out.symm, lat_ex⟩
  case pos =>
    have hne : ((t.grips.length : Int) != (n.grips.length : Int)) = false := by simp; omega
    have HL := Lib.hid hl
    clear hl
    go_enter Tryd.func101, Tryd.ntmps101
    go_wp2_with (go_at_call 113; refine (isTruth1_c _ _ _).mono ?_; rintro e w1 ⟨rfl, δ, rfl⟩)
    all_goals first
      | (go_ret
         refine ⟨ret_bool ?_, lat_ex⟩
         go_light
         grind [truB])
      | skip
    refine wp_name fun W1 hW1 => ?_
    have iw1 : Le B W1 := by rw [hW1.out]; infer_instance
    have iw2 : Grew B w W1 := by rw [hW1.out]; infer_instance
    have iw3 : Le w.heap.size W1 := by rw [hW1.out]; infer_instance
    have iw4 : Grew w.heap.size w W1 := by rw [hW1.out]; infer_instance
    have iw5 : Lt (w.heap.size) W1 := by rw [hW1.out]; infer_instance
    have iw6 : Lt (w.heap.size + 1) W1 := by rw [hW1.out]; infer_instance
    have cw7 : W1.cell? ⟨w.heap.size, 4, none⟩ = some (.slice r.gA n.grips.length r.gc) := by rw [hW1.out]; go_simp
    have s1 : Sl encSp B W1 r.gA r.gc n.grips := h.1.up
    have s2 : Sl encI B W1 rt.tA rt.tc t.grips := h'.up
    have F := Lib.hid (show inSp n.wind t.wind = true ∧ inSp n.cur t.cur = true by refine ⟨by assumption, by assumption⟩)
    go_loopw [36] (fun i wr => ∃ (k : Nat) (δ : World), k ≤ t.grips.length ∧ i = .int .i64 k ∧ Hid (gripsIn n.grips t.grips k = true) ∧ wr = lat W1 δ) (fun i _ => t.grips.length - (intOf i).toNat)
    case atStart => exact ⟨0, W1, Nat.zero_le _, rfl, by simp [Hid, gripsIn], (lat_refl W1).symm⟩
    case round =>
      obtain ⟨k, δ, hk, rfl, hn, rfl⟩ := hrel
      by_cases hlt : k < t.grips.length
      · obtain ⟨b, o, hA, hb, d0⟩ := s2.int hlt
        have hlt' : k < n.grips.length := by have := HL.out; omega
        obtain ⟨b', o', hA', hb', d1, d2⟩ := s1.sp hlt'
        have ib : Lt b W1 := ⟨Nat.lt_of_lt_of_le hb iw1.out⟩
        have ib' : Lt b' W1 := ⟨Nat.lt_of_lt_of_le hb' iw1.out⟩
        have HS := Lib.hid (gripsIn_succ n.grips t.grips k)
        have hki : (k : Int) < (n.grips.length : Int) := by omega
        have hk0 : ¬ (k : Int) < 0 := by omega
        rw [hA'] at cw7
        rw [hA]
        clear hA hA'
        by_cases hq : inSp (nth n.grips k) (nth t.grips k) = true
        all_goals try rw [Bool.not_eq_true] at hq
        all_goals
          go_wp2_with (go_at_call 113; refine (isTruth1_c (nth n.grips k) (nth t.grips k) _).mono ?_; rintro e w1 ⟨rfl, δ1, rfl⟩)
        · go_roundw
          case rel => exact ⟨k + 1, _, by omega, by go_num, by unfold Hid; rw [HS.out, hn.out, hq]; rfl, lat_def⟩
          case measure => simp [intOf]; omega
        · go_ret
          refine ⟨ret_bool ?_, lat_ex⟩
          rw [eq_comm, ← Bool.not_eq_true]
          intro hT
          simp only [truB, Bool.and_eq_true] at hT
          have := gripsIn_le hT.2 hlt
          rw [hq] at this; cases this
      · obtain rfl : k = t.grips.length := by omega
        have HT := Lib.hid (show truB n t = true from by unfold truB; rw [F.out.1, F.out.2, hn.out, decide_eq_true HL.out]; rfl)
        clear hn hlt hk
        go_wp2_with (fail)
        go_ret
        exact ⟨ret_bool HT.out.symm, lat_ex⟩

theorem okTru_of {n : Net} {t : Tru} (hv : valid n = true) (ht : truB n t = true) : okTru n t := by
  obtain ⟨h1, h2, _, _, _, h6, _, _⟩ := valid_iff.1 hv
  simp only [truB, Bool.and_eq_true, decide_eq_true_eq] at ht
  obtain ⟨⟨⟨a, b⟩, c⟩, d⟩ := ht
  simp only [okSp, decide_eq_true_eq] at h1 h2
  simp only [inSp, inB_iff] at a b
  refine ⟨hv, inB_iff.2 (by omega), inB_iff.2 (by omega), c, ?_⟩
  intro g hg
  obtain ⟨i, hi, rfl⟩ := List.getElem_of_mem hg
  have e := gripsIn_le d hi
  rw [nth_get _ hi] at e
  have hi' : i < n.grips.length := by omega
  have := (List.all_eq_true.1 h6) _ (nth_mem _ hi')
  simp only [okSp, decide_eq_true_eq] at this
  simp only [inSp, inB_iff] at e
  exact inB_iff.2 (by omega)

def listB (d : Nat → Bool) : List Int := ((List.range 6).filter d).map fun (i : Nat) => (i : Int)
def firstV (n : Net) (t : Tru) : List Int := if valid n && truB n t then listM (stepM n t 0) else []
noncomputable def dragsV (n : Net) (t : Tru) : List Int := if valid n && truB n t then listB (lastB n t fun _ => false) else []

set_option maxHeartbeats 2000000 in
theorem first_c (r : NetR) (n : Net) (rt : TruR) (t : Tru) (B : Nat) (w : World) [hB : Le B w] [h2 : Le 2 w] (h : NetIs B w r n) (h' : TruIs B w rt t) (hT : TabIs w) :
    Calls Tryd.prog 51 #[netV r n, truV rt t] w fun e w' => ∃ (A : Option Addr) (c : Nat) (δ : World), e = .returned (.tuple #[.slice A (firstV n t).length c, .int .i64 (askE (valid n) (truB n t))]) ∧ w' = lat w δ ∧ Sl encI (lat w δ).heap.size (lat w δ) A c (firstV n t) := by
  by_cases hv : valid n = true
  all_goals try rw [Bool.not_eq_true] at hv
  case neg =>
    have HF := Lib.hid (show firstV n t = [] by simp [firstV, hv])
    have HV := Lib.hid hv
    rw [hv]
    clear hv hT
    go_enter Tryd.func51, Tryd.ntmps51
    go_wp2_with (go_at_call 38; refine (check_no r n B _ h.up HV.out).mono ?_; rintro e w1 ⟨rfl, δ, rfl⟩)
    go_ret2
    rw [HF.out]
    exact ⟨none, 0, _, rfl, lat_def, Sl.none_⟩
  case pos =>
    have HV := Lib.hid hv
    by_cases ht : truB n t = true
    all_goals try rw [Bool.not_eq_true] at ht
    case neg =>
      have HF := Lib.hid (show firstV n t = [] by simp [firstV, ht])
      have HT := Lib.hid ht
      rw [hv]
      clear hv hT
      go_enter Tryd.func51, Tryd.ntmps51
      go_wp2_with (first
        | (go_at_call 38; refine (check_ok r n B _ h.up HV.out).mono ?_; rintro e w1 ⟨rfl, δ, rfl⟩)
        | (go_at_call 101; refine (isTruth_c r n rt t B _ h.up h'.up).mono ?_; rintro e w1 ⟨rfl, δ, rfl⟩))
      go_ret2
      rw [HF.out]
      exact ⟨none, 0, _, by rw [HT.out]; rfl, lat_def, Sl.none_⟩
    case pos =>
      have hk := okTru_of hv ht
      have HF := Lib.hid (show firstV n t = listM (stepM n t 0) by simp [firstV, ht, hv])
      have hlt := Lib.hid (stepTo_lt n t 0 n.ancs.length (by omega) (valid_iff.1 hv).2.2.2.1)
      have HTab := Lib.hid hT
      have HT := Lib.hid ht
      rw [hv]
      clear hv hT
      go_enter Tryd.func51, Tryd.ntmps51
      go_wp2_with (first
        | (go_at_call 38; refine (check_ok r n B _ h.up HV.out).mono ?_; rintro e w1 ⟨rfl, δ, rfl⟩)
        | (go_at_call 101; refine (isTruth_c r n rt t B _ h.up h'.up).mono ?_; rintro e w1 ⟨rfl, δ, rfl⟩)
        | (go_at_call 80; refine (step_c r n rt t 0 B _ h.up h'.up hk (by omega)).mono ?_; rintro e w1 ⟨rfl, δ, rfl⟩)
        | (go_at_call 102; refine (list_c (stepM n t 0) _ hlt.out (HTab.out.up Grew.out)).mono ?_; rintro e w1 ⟨A, c, δ, rfl, rfl, hS⟩))
      go_ret2
      rw [HF.out]
      exact ⟨A, c, _, by rw [HT.out]; rfl, lat_def, sl_def hS⟩

set_option maxHeartbeats 2000000 in
theorem drags_c (r : NetR) (n : Net) (rt : TruR) (t : Tru) (B : Nat) (w : World) [hB : Le B w] [h2 : Le 2 w] (h : NetIs B w r n) (h' : TruIs B w rt t) (hT : TabIs w) :
    Calls Tryd.prog 59 #[netV r n, truV rt t] w fun e w' => ∃ (A : Option Addr) (c : Nat) (δ : World), e = .returned (.tuple #[.slice A (dragsV n t).length c, .int .i64 (askE (valid n) (truB n t))]) ∧ w' = lat w δ ∧ Sl encI (lat w δ).heap.size (lat w δ) A c (dragsV n t) := by
  by_cases hv : valid n = true
  all_goals try rw [Bool.not_eq_true] at hv
  case neg =>
    have HF := Lib.hid (show dragsV n t = [] by simp [dragsV, hv])
    have HV := Lib.hid hv
    rw [hv]
    clear hv hT
    go_enter Tryd.func59, Tryd.ntmps59
    go_wp2_with (go_at_call 38; refine (check_no r n B _ h.up HV.out).mono ?_; rintro e w1 ⟨rfl, δ, rfl⟩)
    go_ret2
    rw [HF.out]
    exact ⟨none, 0, _, rfl, lat_def, Sl.none_⟩
  case pos =>
    have HV := Lib.hid hv
    by_cases ht : truB n t = true
    all_goals try rw [Bool.not_eq_true] at ht
    case neg =>
      have HF := Lib.hid (show dragsV n t = [] by simp [dragsV, ht])
      have HT := Lib.hid ht
      rw [hv]
      clear hv hT
      go_enter Tryd.func59, Tryd.ntmps59
      go_wp2_with (first
        | (go_at_call 38; refine (check_ok r n B _ h.up HV.out).mono ?_; rintro e w1 ⟨rfl, δ, rfl⟩)
        | (go_at_call 101; refine (isTruth_c r n rt t B _ h.up h'.up).mono ?_; rintro e w1 ⟨rfl, δ, rfl⟩))
      go_ret2
      rw [HF.out]
      exact ⟨none, 0, _, by rw [HT.out]; rfl, lat_def, Sl.none_⟩
    case pos =>
      have hk := okTru_of hv ht
      have HF := Lib.hid (show dragsV n t = listB (lastB n t fun _ => false) by simp [dragsV, ht, hv])
      have HTab := Lib.hid hT
      have HT := Lib.hid ht
      rw [hv]
      clear hv hT
      go_enter Tryd.func59, Tryd.ntmps59
      go_wp2_with (first
        | (go_at_call 38; refine (check_ok r n B _ h.up HV.out).mono ?_; rintro e w1 ⟨rfl, δ, rfl⟩)
        | (go_at_call 101; refine (isTruth_c r n rt t B _ h.up h'.up).mono ?_; rintro e w1 ⟨rfl, δ, rfl⟩)
        | (go_at_call 76; refine (last0_c r n rt t B _ h.up h'.up hk).mono ?_; rintro e w1 ⟨m, rfl, hm, hl, δ, rfl⟩; have HL := Lib.hid hl; clear hl)
        | (go_at_call 102; refine (list_c m _ hm (HTab.out.up Grew.out)).mono ?_; rintro e w1 ⟨A, c, δ, rfl, rfl, hS⟩))
      go_ret2
      have e : listM m = listB (lastB n t fun _ => false) := by unfold listM listB; rw [show (fun i => m.testBit i) = lastB n t fun _ => false from funext HL.out]
      rw [e] at hS
      rw [HF.out]
      exact ⟨A, c, _, by rw [HT.out, ← e]; rfl, lat_def, sl_def hS⟩

end Go.Proofs.YtgpcaaknpfopgaaDoor
