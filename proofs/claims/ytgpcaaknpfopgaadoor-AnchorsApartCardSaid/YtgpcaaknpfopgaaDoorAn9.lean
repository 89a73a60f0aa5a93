/- Layer 2: the walks of the program's questions about a net. -/
import Derived.Test.YtgpcaaknpfopgaaDoorAn8
import Derived.Deep.RegionHeld3
namespace Go.Proofs.YtgpcaaknpfopgaaDoor
open Go.RowKit
open An

theorem beq0 (a : Nat) : ((a : Int) == 0) = decide (a = 0) := by rw [Bool.eq_iff_iff]; simp
theorem NetIs.wide {B : Nat} {w W : World} {r : NetR} {n : Net} (h : NetIs B w r n) [Grew B w W] [hB : Le B W] : NetIs W.heap.size W r n := h.up.more hB.out
theorem Sl.wide {α : Type} {enc : α → List Value} {B : Nat} {w W : World} {A : Option Addr} {c : Nat} {xs : List α} (h : Sl enc B w A c xs) [Grew B w W] [hB : Le B W] : Sl enc W.heap.size W A c xs := h.up.more hB.out

theorem okTru_worst {n : Net} (hv : valid n = true) : okTru n (worstT n) := by
  obtain ⟨h1, h2, _, _, _, h6, _, _⟩ := valid_iff.1 hv
  simp only [okSp, decide_eq_true_eq] at h1 h2
  refine ⟨hv, inB_iff.2 (show 0 ≤ n.wind.hi ∧ n.wind.hi ≤ 20 by omega), inB_iff.2 (show 0 ≤ n.cur.hi ∧ n.cur.hi ≤ 20 by omega), by simp [worstT], ?_⟩
  intro g hg
  simp only [worstT, List.mem_map] at hg
  obtain ⟨s, hs, rfl⟩ := hg
  have := (List.all_eq_true.1 h6) s hs
  simp only [okSp, decide_eq_true_eq] at this
  exact inB_iff.2 (by omega)
theorem okTru_best {n : Net} (hv : valid n = true) : okTru n (bestT n) := by
  obtain ⟨h1, h2, _, _, _, h6, _, _⟩ := valid_iff.1 hv
  simp only [okSp, decide_eq_true_eq] at h1 h2
  refine ⟨hv, inB_iff.2 (show 0 ≤ n.wind.lo ∧ n.wind.lo ≤ 20 by omega), inB_iff.2 (show 0 ≤ n.cur.lo ∧ n.cur.lo ≤ 20 by omega), by simp [bestT], ?_⟩
  intro g hg
  simp only [bestT, List.mem_map] at hg
  obtain ⟨s, hs, rfl⟩ := hg
  have := (List.all_eq_true.1 h6) s hs
  simp only [okSp, decide_eq_true_eq] at this
  exact inB_iff.2 (by omega)

def knownB (a b : Bool) : Int := if a then 1 else if b then 3 else 2
theorem knownB_c (a b : Bool) (w : World) :
    Calls Tryd.prog 75 #[.bool a, .bool b] w fun e w' => e = .returned (.int .i64 (knownB a b)) ∧ w = w' := by
  cases a <;> cases b
  all_goals
    go_enter Tryd.func75, Tryd.ntmps75
    go_wp2
    go_ret
    exact ⟨rfl, rfl⟩

theorem check_ok (r : NetR) (n : Net) (B : Nat) (w : World) (h : NetIs B w r n) [hB : Le B w] (hv : valid n = true) :
    Calls Tryd.prog 38 #[netV r n] w fun e w' => e = .returned (.int .i64 0) ∧ ∃ δ, w' = lat w δ :=
  (check_c r n B w h).mono fun e w' hh => by rw [hv] at hh; exact hh
theorem check_no (r : NetR) (n : Net) (B : Nat) (w : World) (h : NetIs B w r n) [hB : Le B w] (hv : valid n = false) :
    Calls Tryd.prog 38 #[netV r n] w fun e w' => e = .returned (.int .i64 20) ∧ ∃ δ, w' = lat w δ :=
  (check_c r n B w h).mono fun e w' hh => by rw [hv] at hh; exact hh

/-- A known value, 0 with an error. -/
def onOk (ok : Bool) (x : Int) : Int := if ok then x else 0

set_option maxHeartbeats 2000000 in
theorem safe_c (r : NetR) (n : Net) (B : Nat) (w : World) [hB : Le B w] (h : NetIs B w r n) :
    Calls Tryd.prog 36 #[netV r n] w fun e w' => e = .returned (.tuple #[.int .i64 (onOk (valid n) (knownB (decide (stepM n (worstT n) 0 = 0)) (decide (stepM n (bestT n) 0 = 0)))), .int .i64 (errOf (valid n) 20)]) ∧ ∃ δ, w' = lat w δ := by
  by_cases hv : valid n = true
  · have h3 := (valid_iff.1 hv).2.2.1
    have hw := okTru_worst hv
    have hb := okTru_best hv
    have HV := Lib.hid hv
    rw [hv]
    clear hv
    go_enter Tryd.func36, Tryd.ntmps36
    go_wp2_with (go_at_call 38; refine (check_ok r n B _ h.up HV.out).mono ?_; rintro e w1 ⟨rfl, δ, rfl⟩)
    go_region_held3 (fun W => W.cell? ⟨w.heap.size, 0, none⟩ = some (.int .i64 n.wind.lo) ∧ W.cell? ⟨w.heap.size, 1, none⟩ = some (.int .i64 n.wind.hi) ∧ W.cell? ⟨w.heap.size, 2, none⟩ = some (.int .i64 n.cur.lo) ∧ W.cell? ⟨w.heap.size, 3, none⟩ = some (.int .i64 n.cur.hi) ∧
        W.cell? ⟨w.heap.size, 4, none⟩ = some (.slice r.gA n.grips.length r.gc) ∧ W.cell? ⟨w.heap.size, 5, none⟩ = some (.slice r.aA n.ancs.length r.ac) ∧ W.cell? ⟨w.heap.size, 6, none⟩ = some (.slice r.wA n.wals.length r.wc))
      (refine ⟨?_, ?_, ?_, ?_, ?_, ?_, ?_⟩ <;> go_simp)
      (first
        | (go_at_call 66; refine (worst_c r n B _ h.up h3).mono ?_; rintro e w1 ⟨rt, δ, rfl, rfl, ht⟩)
        | (go_at_call 68; refine (best_c r n B _ h.up h3).mono ?_; rintro e w1 ⟨rt, δ, rfl, rfl, ht⟩)
        | (go_at_call 75; refine (knownB_c _ _ _).mono ?_; rintro e w1 ⟨rfl, rfl⟩)
        | (go_at_call 80; refine (step_c r n _ _ 0 _ _ h.wide ht.wide (by assumption) (by omega)).mono ?_; rintro e w1 ⟨rfl, δ, rfl⟩))
    go_wp2_with (fail)
    go_ret2
    exact ⟨by simp only [onOk, errOf, beq0, if_true]; rfl, lat_ex⟩
  · rw [Bool.not_eq_true] at hv
    rw [hv]
    have HV := Lib.hid hv
    clear hv
    go_enter Tryd.func36, Tryd.ntmps36
    go_wp2_with (go_at_call 38; refine (check_no r n B _ h.up HV.out).mono ?_; rintro e w1 ⟨rfl, δ, rfl⟩)
    go_ret2
    exact ⟨rfl, lat_ex⟩

/-- The error of a net that is asked for something. -/
def askE (v b : Bool) : Int := if v then (if b then 0 else 1) else 20
theorem isAnchor_c (r : NetR) (n : Net) (i : Int) (B : Nat) (w : World) [_hB : Le B w] (h : NetIs B w r n) :
    Calls Tryd.prog 74 #[netV r n, .int .i64 i] w fun e w' => e = .returned (.bool (inB 0 (n.ancs.length - 1) i)) ∧ ∃ δ, w' = lat w δ := by
  have hl := h.2.1.len
  go_enter Tryd.func74, Tryd.ntmps74
  go_wp2_with (go_at_call 86; refine (insideL_c _ _ _ _ _ _ (by go_simp) (by rfl) (by omega) (by rfl)).mono ?_; rintro e w1 ⟨rfl, δ, rfl⟩)
  go_ret
  exact ⟨ret_bool (by simp [allB, intOf]), lat_ex⟩
theorem isWall_c (r : NetR) (n : Net) (i : Int) (B : Nat) (w : World) [_hB : Le B w] (h : NetIs B w r n) :
    Calls Tryd.prog 90 #[netV r n, .int .i64 i] w fun e w' => e = .returned (.bool (inB 0 (n.wals.length - 1) i)) ∧ ∃ δ, w' = lat w δ := by
  have hl := h.2.2.len
  go_enter Tryd.func90, Tryd.ntmps90
  go_wp2_with (go_at_call 86; refine (insideL_c _ _ _ _ _ _ (by go_simp) (by rfl) (by omega) (by rfl)).mono ?_; rintro e w1 ⟨rfl, δ, rfl⟩)
  go_ret
  exact ⟨ret_bool (by simp [allB, intOf]), lat_ex⟩

theorem open_c (r : NetR) (n : Net) (b : Bool) (B : Nat) (w : World) [hB : Le B w] (h : NetIs B w r n) :
    Calls Tryd.prog 73 #[netV r n, .bool b] w fun e w' => e = .returned (.int .i64 (askE (valid n) b)) ∧ ∃ δ, w' = lat w δ := by
  by_cases hv : valid n = true
  all_goals try rw [Bool.not_eq_true] at hv
  all_goals
    have HV := Lib.hid hv
    rw [hv]
    clear hv
    cases b
  all_goals
    go_enter Tryd.func73, Tryd.ntmps73
    go_wp2_with (first
      | (go_at_call 38; refine (check_ok r n B _ h.up HV.out).mono ?_; rintro e w1 ⟨rfl, δ, rfl⟩)
      | (go_at_call 38; refine (check_no r n B _ h.up HV.out).mono ?_; rintro e w1 ⟨rfl, δ, rfl⟩))
    go_ret
    exact ⟨rfl, lat_ex⟩

theorem open_pass (r : NetR) (n : Net) (b : Bool) (B : Nat) (w : World) [hB : Le B w] (h : NetIs B w r n) (hv : valid n = true) (hb : b = true) :
    Calls Tryd.prog 73 #[netV r n, .bool b] w fun e w' => e = .returned (.int .i64 0) ∧ ∃ δ, w' = lat w δ :=
  (open_c r n b B w h).mono fun e w' hh => by rw [hv, hb] at hh; exact hh

open Classical in
noncomputable def lastB (n : Net) (t : Tru) (d : Nat → Bool) (i : Nat) : Bool := decide (lastP n t d i)
theorem bit_last {n : Net} {t : Tru} {d : Nat → Bool} {m i : Nat} (h : m.testBit i = true ↔ lastP n t d i) : m.testBit i = lastB n t d i := by
  rw [Bool.eq_iff_iff, h]; simp [lastB]
theorem last0_c (r : NetR) (n : Net) (rt : TruR) (t : Tru) (B : Nat) (w : World) [hB : Le B w] (h : NetIs B w r n) (h' : TruIs B w rt t) (ht : okTru n t) :
    Calls Tryd.prog 76 #[rowV r n rt t, .int .u64 0] w fun e w' => ∃ m : Nat, e = .returned (.int .u64 m) ∧ m < 64 ∧ (∀ i, m.testBit i = lastB n t (fun _ => false) i) ∧ ∃ δ, w' = lat w δ :=
  (last_c r n rt t 0 B w h h' ht (by omega)).mono fun e w' ⟨m, he, hm, hl, hδ⟩ => ⟨m, he, hm, fun i => by
    have := bit_last (hl i)
    rw [this]
    have e : (fun i => Nat.testBit 0 i) = fun _ => false := funext fun i => Nat.zero_testBit i
    rw [e], hδ⟩
theorem ret2 {a b a' b' : Value} (h1 : a = a') (h2 : b = b') : Ending.returned (.tuple #[a, b]) = Ending.returned (.tuple #[a', b']) := by rw [h1, h2]
noncomputable def dragV (n : Net) (i : Int) : Int := onOk (valid n && inB 0 (n.ancs.length - 1) i) (knownB (lastB n (bestT n) (fun _ => false) i.toNat) (lastB n (worstT n) (fun _ => false) i.toNat))

set_option maxHeartbeats 2000000 in
theorem drag_c (r : NetR) (n : Net) (i : Int) (B : Nat) (w : World) [hB : Le B w] (h : NetIs B w r n) :
    Calls Tryd.prog 30 #[netV r n, .int .i64 i] w fun e w' => e = .returned (.tuple #[.int .i64 (dragV n i), .int .i64 (askE (valid n) (inB 0 (n.ancs.length - 1) i))]) ∧ ∃ δ, w' = lat w δ := by
  by_cases hv : valid n = true ∧ inB 0 (n.ancs.length - 1) i = true
  · obtain ⟨hv, hi⟩ := hv
    have HD := Lib.hid (show dragV n i = knownB (lastB n (bestT n) (fun _ => false) i.toNat) (lastB n (worstT n) (fun _ => false) i.toNat) by simp only [dragV, hv, hi]; rfl)
    have h3 := (valid_iff.1 hv).2.2.1
    have h6 := (valid_iff.1 hv).2.2.2.1
    have hw := okTru_worst hv
    have hb := okTru_best hv
    have HV := Lib.hid hv
    have HI := Lib.hid hi
    have hi' := inB_iff.1 hi
    obtain ⟨k, rfl⟩ := Int.eq_ofNat_of_zero_le hi'.1
    have hk : k < 6 := by omega
    rw [hv, hi]
    clear hv hi hi'
    go_enter Tryd.func30, Tryd.ntmps30
    go_wp2_with (fail)
    refine wp_region_lat (by kernel_rfl) (by kernel_rfl) ?_
    repeat (go_big_quiet_step ((first | (go_at_call 74; exact Calls.lat_of (isAnchor_c r n _ B _ h.up)) | (go_at_call 73; exact Calls.lat_of (open_pass r n _ B _ h.up HV.out HI.out)))))
    refine wpQuiet_nil ?_
    rintro _ ⟨δ0, rfl⟩
    go_wp2_with (fail)
    go_region_held3 (fun W => W.cell? ⟨w.heap.size, 0, none⟩ = some (.int .i64 n.wind.lo) ∧ W.cell? ⟨w.heap.size, 1, none⟩ = some (.int .i64 n.wind.hi) ∧ W.cell? ⟨w.heap.size, 2, none⟩ = some (.int .i64 n.cur.lo) ∧ W.cell? ⟨w.heap.size, 3, none⟩ = some (.int .i64 n.cur.hi) ∧
        W.cell? ⟨w.heap.size, 4, none⟩ = some (.slice r.gA n.grips.length r.gc) ∧ W.cell? ⟨w.heap.size, 5, none⟩ = some (.slice r.aA n.ancs.length r.ac) ∧ W.cell? ⟨w.heap.size, 6, none⟩ = some (.slice r.wA n.wals.length r.wc))
      (refine ⟨?_, ?_, ?_, ?_, ?_, ?_, ?_⟩ <;> go_simp)
      (first
        | (go_at_call 66; refine (worst_c r n B _ h.up h3).mono ?_; rintro e w1 ⟨rt, δ, rfl, rfl, ht⟩)
        | (go_at_call 68; refine (best_c r n B _ h.up h3).mono ?_; rintro e w1 ⟨rt, δ, rfl, rfl, ht⟩)
        | (go_at_call 75; refine (knownB_c _ _ _).mono ?_; rintro e w1 ⟨rfl, rfl⟩)
        | (go_at_call 77; refine (has_c _ _ _ (by omega) (by omega)).mono ?_; rintro e w1 ⟨rfl, rfl⟩)
        | (go_at_call 76; refine (last0_c r n _ _ _ _ h.wide ht.wide (by assumption)).mono ?_; rintro e w1 ⟨m, rfl, hm, hl, δ, rfl⟩))
    go_wp2_with (fail)
    go_ret2
    exact ⟨ret2 (int_eq HD.out.symm) rfl, lat_ex⟩
  · have HD := Lib.hid (show dragV n i = 0 by unfold dragV onOk; rw [if_neg]; simpa using hv)
    have hne : ((askE (valid n) (inB 0 (n.ancs.length - 1) i)) != 0) = true := by
      unfold askE
      by_cases h1 : valid n = true
      · have : inB 0 (n.ancs.length - 1) i = false := by rw [← Bool.not_eq_true]; exact fun h2 => hv ⟨h1, h2⟩
        rw [h1, this]; rfl
      · rw [Bool.not_eq_true] at h1; rw [h1]; rfl
    clear hv
    go_enter Tryd.func30, Tryd.ntmps30
    go_wp2_with (fail)
    refine wp_region_lat (by kernel_rfl) (by kernel_rfl) ?_
    repeat (go_big_quiet_step ((first | (go_at_call 74; exact Calls.lat_of (isAnchor_c r n _ B _ h.up)) | (go_at_call 73; exact Calls.lat_of (open_c r n _ B _ h.up)))))
    refine wpQuiet_nil ?_
    rintro _ ⟨δ0, rfl⟩
    go_wp2_with (fail)
    go_ret2
    exact ⟨ret2 (int_eq HD.out.symm) rfl, lat_ex⟩

end Go.Proofs.YtgpcaaknpfopgaaDoor
