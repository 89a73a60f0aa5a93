/- Layer 2: the walks of the reference's anchors in a truth. -/
import Derived.Test.YtgpcaaknpfopgaaDoorAn11
namespace Go.Proofs.YtgpcaaknpfopgaaDoor
open Go.RowKit
open An

theorem rLoadOf_c (x : Wal) (wi cu : Int) (w : World) (hx : okWal x = true) (hw : inB 0 20 wi = true) (hc : inB 0 20 cu = true) :
    Calls Tryd.prog 94 #[.agg #[.int .i64 x.sail, .int .i64 x.drag, .int .i64 x.lean, .int .i64 x.corks, .int .i64 x.stones], .int .i64 wi, .int .i64 cu] w fun e w' => e = .returned (.int .i64 (ldW x wi cu)) ∧ ∃ δ, w' = lat w δ := by
  have hb := Lib.hid (ldW_bd hx hw hc)
  clear hx hw hc
  go_enter Tryd.func94, Tryd.ntmps94
  go_wp2
  go_ret
  refine ⟨ret_int ?_, lat_ex⟩
  have hb := hb.out
  rw [w64 (x := x.sail * wi) (by omega), w64 (x := x.drag * cu) (by omega), w64 (by omega)]
  rfl

/-- A list of anchors as a set. -/
def inL (L : List Int) (k : Nat) : Bool := isIn L (k : Int)

theorem Sl.wals {B : Nat} {w : World} {A : Option Addr} {c : Nat} {xs : List Wal} (h : Sl encWal B w A c xs) (h0 : 0 < xs.length) : ∃ b o, A = some ⟨b, o, none⟩ ∧ b < B ∧ ∀ k, k < xs.length → w.cell? ⟨b, o + k * 5, none⟩ = some (.int .i64 (nth xs k).sail) ∧ w.cell? ⟨b, o + k * 5 + 1, none⟩ = some (.int .i64 (nth xs k).drag) ∧
    w.cell? ⟨b, o + k * 5 + 2, none⟩ = some (.int .i64 (nth xs k).lean) ∧ w.cell? ⟨b, o + k * 5 + 3, none⟩ = some (.int .i64 (nth xs k).corks) ∧ w.cell? ⟨b, o + k * 5 + 4, none⟩ = some (.int .i64 (nth xs k).stones) := by
  obtain ⟨b, o, hA, hb, _⟩ := h.wal h0
  refine ⟨b, o, hA, hb, fun k hk => ?_⟩
  obtain ⟨b', o', hA', _, r⟩ := h.wal hk
  rw [hA] at hA'
  injection hA' with e
  injection e with e1 e2
  subst e1 e2
  exact r

/-- What the sum on one side is, in the order in which the reference adds. -/
theorem two_of (x : Int) (b : Bool) : x * (if b = true then 2 else 1) = if b = true then x + x else x := by cases b <;> simp <;> omega

set_option maxHeartbeats 4000000 in
theorem rBears0_c (r : NetR) (n : Net) (rt : TruR) (t : Tru) (A : Option Addr) (c : Nat) (L : List Int) (B : Nat) (w : World) [hB : Le B w] (h : NetIs B w r n) (hL : Sl encI B w A c L) (ht : okTru n t) (hi : 0 < n.ancs.length) :
    Calls Tryd.prog 104 #[netV r n, truV rt t, .int .i64 0, .slice A L.length c] w fun e w' => e = .returned (.int .i64 (bears n t 0 (inL L))) ∧ ∃ δ, w' = lat w δ := by
  have hv := valid_iff.1 ht.1
  have hw := hv.2.2.2.2.1
  have h6 := hv.2.2.2.1
  have hc1 := ht.2.1
  have hc2 := ht.2.2.1
  have HW := Lib.hid hw
  have l2 := h.2.2.len
  clear hv hw
  by_cases h1 : 1 < n.ancs.length
  case neg =>
    have HE := Lib.hid (show bears n t 0 (inL L) = 0 by have := HW.out; unfold bears; rw [if_neg (by omega), if_neg (by omega)]; rfl)
    clear h6
    go_enter Tryd.func104, Tryd.ntmps104
    go_wp2_with (fail)
    go_ret
    exact ⟨ret_int HE.out.symm, lat_ex⟩
  case pos =>
    have hwl : 0 < n.wals.length := by have := HW.out; omega
    have hx := okWal_nth ht.1 hwl
    have hbd := ld_bd ht hwl
    have hb1 : 0 ≤ ldW (nth n.wals 0) t.wind t.cur := hbd.1
    have hb2 : ldW (nth n.wals 0) t.wind t.cur ≤ 360 := hbd.2
    obtain ⟨b, o, hA, hb, k0, k1, k2, k3, k4⟩ := h.2.2.wal hwl
    have ib : Lt b w := ⟨Nat.lt_of_lt_of_le hb hB.out⟩
    simp only [Nat.zero_mul, Nat.add_zero] at k0 k1 k2 k3 k4
    have hwi : (0 : Int) < (n.wals.length : Int) := by omega
    have hE : bears n t 0 (inL L) = if isIn L 1 = true then ldW (nth n.wals 0) t.wind t.cur + ldW (nth n.wals 0) t.wind t.cur else ldW (nth n.wals 0) t.wind t.cur := by
      unfold bears side ld inL; rw [if_neg (by omega), if_pos (by omega), Int.zero_add, two_of]; rfl
    clear hbd
    by_cases hin : isIn L 1 = true
    all_goals try rw [Bool.not_eq_true] at hin
    all_goals
      rw [hin] at hE
      have HE := Lib.hid hE
      clear hE
      rw [show netV r n = Value.agg #[.int .i64 n.wind.lo, .int .i64 n.wind.hi, .int .i64 n.cur.lo, .int .i64 n.cur.hi, .slice r.gA n.grips.length r.gc, .slice r.aA n.ancs.length r.ac, .slice r.wA n.wals.length r.wc] from rfl, hA]
      clear hA
      go_enter Tryd.func104, Tryd.ntmps104
      go_wp2_with (fail)
      refine wp_region_lat (by kernel_rfl) (by kernel_rfl) ?_
      repeat (go_big_quiet_step ((first | (go_at_call 94; exact Calls.lat_of (rLoadOf_c _ _ _ _ (by assumption) (by assumption) (by assumption))))))
      refine wpQuiet_nil ?_
      rintro _ ⟨δq, rfl⟩
      go_wp2_with (go_at_call 55; refine (in_c A c L 1 B _ hL.up).mono ?_; rintro e w1 ⟨rfl, rfl⟩)
    ·
      refine wp_region_lat (by kernel_rfl) (by kernel_rfl) ?_
      repeat (go_big_quiet_step ((first | (go_at_call 94; exact Calls.lat_of (rLoadOf_c _ _ _ _ (by assumption) (by assumption) (by assumption))))))
      refine wpQuiet_nil ?_
      rintro _ ⟨δr, rfl⟩
      go_wp2_with (fail)
      go_ret
      refine ⟨ret_int ?_, lat_ex⟩
      rw [HE.out]; simp
    · go_ret
      refine ⟨ret_int ?_, lat_ex⟩
      rw [HE.out]; simp

set_option maxHeartbeats 8000000 in
theorem rBears1_c (r : NetR) (n : Net) (rt : TruR) (t : Tru) (j : Nat) (A : Option Addr) (c : Nat) (L : List Int) (B : Nat) (w : World) [hB : Le B w] (h : NetIs B w r n) (hL : Sl encI B w A c L) (ht : okTru n t) (hi : j + 1 < n.ancs.length) :
    Calls Tryd.prog 104 #[netV r n, truV rt t, .int .i64 (j + 1), .slice A L.length c] w fun e w' => e = .returned (.int .i64 (bears n t (j + 1) (inL L))) ∧ ∃ δ, w' = lat w δ := by
  have hv := valid_iff.1 ht.1
  have hw := hv.2.2.2.2.1
  have h6 := hv.2.2.2.1
  have hc1 := ht.2.1
  have hc2 := ht.2.2.1
  have l2 := h.2.2.len
  have hwj : j < n.wals.length := by omega
  have hx := okWal_nth ht.1 hwj
  have hbd := ld_bd ht hwj
  have hb1 : 0 ≤ ldW (nth n.wals j) t.wind t.cur := hbd.1
  have hb2 : ldW (nth n.wals j) t.wind t.cur ≤ 360 := hbd.2
  obtain ⟨b, o, hA, hb, kk⟩ := h.2.2.wals (by omega)
  obtain ⟨k0, k1, k2, k3, k4⟩ := kk j hwj
  have ib : Lt b w := ⟨Nat.lt_of_lt_of_le hb hB.out⟩
  have hwi : (j : Int) < (n.wals.length : Int) := by omega
  have hE : bears n t (j + 1) (inL L) = (if isIn L j = true then ldW (nth n.wals j) t.wind t.cur + ldW (nth n.wals j) t.wind t.cur else ldW (nth n.wals j) t.wind t.cur) + (if j + 1 < n.wals.length then (if isIn L ((j : Int) + 1 + 1) = true then ldW (nth n.wals (j + 1)) t.wind t.cur + ldW (nth n.wals (j + 1)) t.wind t.cur else ldW (nth n.wals (j + 1)) t.wind t.cur) else 0) := by
    unfold bears side ld
    rw [if_pos (by omega), two_of, two_of]
    rfl
  clear hbd hv
  by_cases h1 : j + 1 < n.wals.length
  case neg =>
    have hlast : ¬ ((j : Int) + 1 < (n.ancs.length : Int) - 1) := by omega
    rw [if_neg h1, Int.add_zero] at hE
    have HW := Lib.hid hw
    clear hw h1
    by_cases hin : isIn L j = true
    all_goals try rw [Bool.not_eq_true] at hin
    all_goals
      rw [hin] at hE
      have HE := Lib.hid hE
      clear hE kk
      rw [show netV r n = Value.agg #[.int .i64 n.wind.lo, .int .i64 n.wind.hi, .int .i64 n.cur.lo, .int .i64 n.cur.hi, .slice r.gA n.grips.length r.gc, .slice r.aA n.ancs.length r.ac, .slice r.wA n.wals.length r.wc] from rfl, hA]
      clear hA
      go_enter Tryd.func104, Tryd.ntmps104
      go_wp2_with (fail)
      refine wp_region_lat (by kernel_rfl) (by kernel_rfl) ?_
      repeat (go_big_quiet_step ((first | (go_at_call 94; exact Calls.lat_of (rLoadOf_c _ _ _ _ (by assumption) (by assumption) (by assumption))))))
      refine wpQuiet_nil ?_
      rintro _ ⟨δq, rfl⟩
      go_wp2_with (go_at_call 55; refine (in_c A c L j B _ hL.up).mono ?_; rintro e w1 ⟨rfl, rfl⟩)
    ·
      refine wp_region_lat (by kernel_rfl) (by kernel_rfl) ?_
      repeat (go_big_quiet_step ((first | (go_at_call 94; exact Calls.lat_of (rLoadOf_c _ _ _ _ (by assumption) (by assumption) (by assumption))))))
      refine wpQuiet_nil ?_
      rintro _ ⟨δr, rfl⟩
      go_wp2_with (fail)
      go_ret
      refine ⟨ret_int ?_, lat_ex⟩
      rw [HE.out]; simp
    · go_ret
      refine ⟨ret_int ?_, lat_ex⟩
      rw [HE.out]; simp
  case pos =>
    have hlast : (j : Int) + 1 < (n.ancs.length : Int) - 1 := by omega
    have hy := okWal_nth ht.1 h1
    have hbd := ld_bd ht h1
    have hb3 : 0 ≤ ldW (nth n.wals (j + 1)) t.wind t.cur := hbd.1
    have hb4 : ldW (nth n.wals (j + 1)) t.wind t.cur ≤ 360 := hbd.2
    obtain ⟨m0, m1, m2, m3, m4⟩ := kk (j + 1) h1
    have hwj1 : (j : Int) + 1 < (n.wals.length : Int) := by omega
    rw [if_pos h1] at hE
    have HW := Lib.hid hw
    clear hw h1 hbd kk
    by_cases hin : isIn L j = true <;> by_cases hin2 : isIn L ((j : Int) + 1 + 1) = true
    all_goals try rw [Bool.not_eq_true] at hin
    all_goals try rw [Bool.not_eq_true] at hin2
    all_goals
      rw [hin, hin2] at hE
      have HE := Lib.hid hE
      clear hE
      rw [show netV r n = Value.agg #[.int .i64 n.wind.lo, .int .i64 n.wind.hi, .int .i64 n.cur.lo, .int .i64 n.cur.hi, .slice r.gA n.grips.length r.gc, .slice r.aA n.ancs.length r.ac, .slice r.wA n.wals.length r.wc] from rfl, hA]
      clear hA
      go_enter Tryd.func104, Tryd.ntmps104
      go_wp2_with (fail)
      refine wp_region_lat (by kernel_rfl) (by kernel_rfl) ?_
      repeat (go_big_quiet_step ((first | (go_at_call 94; exact Calls.lat_of (rLoadOf_c _ _ _ _ (by assumption) (by assumption) (by assumption))))))
      refine wpQuiet_nil ?_
      rintro _ ⟨δq, rfl⟩
      go_wp2_with (go_at_call 55; refine (in_c A c L _ B _ hL.up).mono ?_; rintro e w1 ⟨rfl, rfl⟩)
      refine wp_region_lat (by kernel_rfl) (by kernel_rfl) ?_
      repeat (go_big_quiet_step ((first | (go_at_call 94; exact Calls.lat_of (rLoadOf_c _ _ _ _ (by assumption) (by assumption) (by assumption))))))
      refine wpQuiet_nil ?_
      rintro _ ⟨δr, rfl⟩
      go_wp2_with (go_at_call 55; refine (in_c A c L _ B _ hL.up).mono ?_; rintro e w1 ⟨rfl, rfl⟩)
    ·
      refine wp_region_lat (by kernel_rfl) (by kernel_rfl) ?_
      repeat (go_big_quiet_step ((first | (go_at_call 94; exact Calls.lat_of (rLoadOf_c _ _ _ _ (by assumption) (by assumption) (by assumption))))))
      refine wpQuiet_nil ?_
      rintro _ ⟨δr, rfl⟩
      go_wp2_with (go_at_call 55; refine (in_c A c L _ B _ hL.up).mono ?_; rintro e w1 ⟨rfl, rfl⟩)
      refine wp_region_lat (by kernel_rfl) (by kernel_rfl) ?_
      repeat (go_big_quiet_step ((first | (go_at_call 94; exact Calls.lat_of (rLoadOf_c _ _ _ _ (by assumption) (by assumption) (by assumption))))))
      refine wpQuiet_nil ?_
      rintro _ ⟨δr, rfl⟩
      go_wp2_with (go_at_call 55; refine (in_c A c L _ B _ hL.up).mono ?_; rintro e w1 ⟨rfl, rfl⟩)
      go_ret
      refine ⟨ret_int ?_, lat_ex⟩
      rw [HE.out]; simp <;> omega
    ·
      refine wp_region_lat (by kernel_rfl) (by kernel_rfl) ?_
      repeat (go_big_quiet_step ((first | (go_at_call 94; exact Calls.lat_of (rLoadOf_c _ _ _ _ (by assumption) (by assumption) (by assumption))))))
      refine wpQuiet_nil ?_
      rintro _ ⟨δr, rfl⟩
      go_wp2_with (go_at_call 55; refine (in_c A c L _ B _ hL.up).mono ?_; rintro e w1 ⟨rfl, rfl⟩)
      go_ret
      refine ⟨ret_int ?_, lat_ex⟩
      rw [HE.out]; simp <;> omega
    ·
      refine wp_region_lat (by kernel_rfl) (by kernel_rfl) ?_
      repeat (go_big_quiet_step ((first | (go_at_call 94; exact Calls.lat_of (rLoadOf_c _ _ _ _ (by assumption) (by assumption) (by assumption))))))
      refine wpQuiet_nil ?_
      rintro _ ⟨δr, rfl⟩
      go_wp2_with (go_at_call 55; refine (in_c A c L _ B _ hL.up).mono ?_; rintro e w1 ⟨rfl, rfl⟩)
      go_ret
      refine ⟨ret_int ?_, lat_ex⟩
      rw [HE.out]; simp <;> omega
    ·
      go_ret
      refine ⟨ret_int ?_, lat_ex⟩
      rw [HE.out]; simp <;> omega

theorem rBears_c (r : NetR) (n : Net) (rt : TruR) (t : Tru) (i : Nat) (A : Option Addr) (c : Nat) (L : List Int) (B : Nat) (w : World) [hB : Le B w] (h : NetIs B w r n) (hL : Sl encI B w A c L) (ht : okTru n t) (hi : i < n.ancs.length) :
    Calls Tryd.prog 104 #[netV r n, truV rt t, .int .i64 i, .slice A L.length c] w fun e w' => e = .returned (.int .i64 (bears n t i (inL L))) ∧ ∃ δ, w' = lat w δ := by
  cases i with
  | zero => exact rBears0_c r n rt t A c L B w h hL ht hi
  | succ j => exact rBears1_c r n rt t j A c L B w h hL ht hi

theorem rCan_c (r : NetR) (n : Net) (rt : TruR) (t : Tru) (i : Nat) (B : Nat) (w : World) [hB : Le B w] (h : NetIs B w r n) (h' : TruIs B w rt t) (ht : okTru n t) (hi : i < n.ancs.length) :
    Calls Tryd.prog 103 #[netV r n, truV rt t, .int .i64 i] w fun e w' => e = .returned (.int .i64 (can n t i)) ∧ ∃ δ, w' = lat w δ := by
  have hcd := can_bd ht hi
  obtain ⟨b, o, hA, hb, k0, k1⟩ := h.2.1.anc hi
  have ib : Lt b w := ⟨Nat.lt_of_lt_of_le hb hB.out⟩
  obtain ⟨b', o', hA', hb', k2⟩ := h'.int hcd.2.2.2.1
  have ib' : Lt b' w := ⟨Nat.lt_of_lt_of_le hb' hB.out⟩
  have hii : (i : Int) < (n.ancs.length : Int) := by omega
  have hi0 : ¬ (i : Int) < 0 := by omega
  have hj0 : (nth n.ancs i).bt < (t.grips.length : Int) := by omega
  have hj1 : ¬ (nth n.ancs i).bt < 0 := by omega
  have HC := Lib.hid hcd
  rw [show netV r n = Value.agg #[.int .i64 n.wind.lo, .int .i64 n.wind.hi, .int .i64 n.cur.lo, .int .i64 n.cur.hi, .slice r.gA n.grips.length r.gc, .slice r.aA n.ancs.length r.ac, .slice r.wA n.wals.length r.wc] from rfl, hA, show truV rt t = Value.agg #[.int .i64 t.wind, .int .i64 t.cur, .slice rt.tA t.grips.length rt.tc] from rfl, hA']
  clear hcd hA hA'
  go_enter Tryd.func103, Tryd.ntmps103
  go_wp2_with (fail)
  refine wp_region_lat (by kernel_rfl) (by kernel_rfl) ?_
  repeat (go_big_quiet_step ((first | (fail))))
  refine wpQuiet_nil ?_
  rintro _ ⟨δ, rfl⟩
  go_wp2_with (fail)
  go_ret
  refine ⟨ret_int ?_, lat_ex⟩
  have HC := HC.out
  have e : 2 * (nth n.ancs i).wt * nth t.grips (nth n.ancs i).bt.toNat = can n t i := rfl
  rw [w64 (x := 2 * (nth n.ancs i).wt) (by omega), e, w64 (x := can n t i) (by omega)]

end Go.Proofs.YtgpcaaknpfopgaaDoor
