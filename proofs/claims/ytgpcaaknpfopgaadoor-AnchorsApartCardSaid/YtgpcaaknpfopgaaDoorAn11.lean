/- Layer 2: the walks of the program's Wind and Storm. -/
import Derived.Test.YtgpcaaknpfopgaaDoorAn10
import Derived.Test.YtgpcaaknpfopgaaDoorBase2
namespace Go.Proofs.YtgpcaaknpfopgaaDoor
open Go.RowKit
open An

/-- A net in another wind. -/
def inW (n : Net) (x : Int) : Net := { n with wind := ⟨x, x⟩ }
def hitW (n : Net) (x : Nat) : Bool := decide (stepM (inW n x) (worstT (inW n x)) 0 ≠ 0)
def hitS (n : Net) (x : Nat) : Bool := decide (stepM (inW n x) (bestT (inW n x)) 0 ≠ 0)
theorem valid_inW {n : Net} (hv : valid n = true) {x : Nat} (hx : x ≤ 20) : valid (inW n x) = true := by
  rw [valid_iff] at *
  refine ⟨?_, hv.2⟩
  show okSp 20 ⟨x, x⟩ = true
  simp only [okSp, decide_eq_true_eq]; omega
theorem bne0 (a : Nat) : ((a : Int) != 0) = decide (a ≠ 0) := by rw [Bool.eq_iff_iff]; simp

set_option maxHeartbeats 2000000 in
theorem leastW_c (r : NetR) (n : Net) (B : Nat) (w : World) [hB : Le B w] (h : NetIs B w r n) (hv : valid n = true) :
    Calls Tryd.prog 99 #[netV r n, .func (.func 66) #[] #[]] w fun e w' => e = .returned (.int .i64 (firstHit (hitW n) 21 0)) ∧ ∃ δ, w' = lat w δ := by
  have HV := Lib.hid hv
  clear hv
  go_enter Tryd.func99, Tryd.ntmps99
  go_wp2_with (fail)
  go_loopw [6] (fun i wr => ∃ (k : Nat) (lo hi : Int), k ≤ 21 ∧ i = .int .i64 k ∧ Hid (∀ j, j < k → hitW n j = false) ∧ Box wr w.heap.size 28 #[.int .i64 lo, .int .i64 hi, .int .i64 n.cur.lo, .int .i64 n.cur.hi, .slice r.gA n.grips.length r.gc, .slice r.aA n.ancs.length r.ac, .slice r.wA n.wals.length r.wc] ∧ Grew w.heap.size w wr ∧ Grew B w wr ∧ Le w.heap.size wr ∧ Le B wr) (fun i _ => 21 - (intOf i).toNat)
  case atStart => exact ⟨0, n.wind.lo, n.wind.hi, by omega, rfl, fun j hj => by omega, Box.new rfl, inferInstance, inferInstance, inferInstance, inferInstance⟩
  case round =>
    obtain ⟨k, lo, hi, hk, rfl, hn, hbox, i1, i2, i3, i4⟩ := hrel
    have i5 := hbox.lt
    have c0 := hbox.cell (i := 0) rfl
    have c1 := hbox.cell (i := 1) rfl
    have c2 := hbox.cell (i := 2) rfl
    have c3 := hbox.cell (i := 3) rfl
    have c4 := hbox.cell (i := 4) rfl
    have c5 := hbox.cell (i := 5) rfl
    have c6 := hbox.cell (i := 6) rfl
    have f0 := hbox.free 0
    have f1 := hbox.free 1
    have HB := Lib.hid hbox
    clear hbox
    by_cases hlt : k < 21
    · have hvk := valid_inW HV.out (x := k) (by omega)
      have h3 : (inW n k).grips.length ≤ 3 := (valid_iff.1 hvk).2.2.1
      have hw := okTru_worst hvk
      have hin : NetIs B w r (inW n k) := h
      by_cases hh : stepM (inW n k) (worstT (inW n k)) 0 = 0
      all_goals
        have hh' := hh
      · have HH := Lib.hid hh
        have he : (stepM (inW n k) (worstT (inW n k)) 0 : Int) = 0 := by omega
        clear hh hh' hvk
        go_wp2_with (first
          | (go_at_call 66; refine (worst_c r (inW n k) B _ hin.up h3).mono ?_; rintro e w1 ⟨rt, δ, rfl, rfl, ht⟩)
          | (go_at_call 80; refine (step_c r (inW n k) _ _ 0 _ _ hin.wide ht.wide hw (by omega)).mono ?_; rintro e w1 ⟨rfl, δ, rfl⟩))
        go_roundw
        case rel =>
          refine ⟨k + 1, k, k, by omega, by go_num, ?_, ((((HB.out.set 0 _).set 1 _).lat _).lat _), inferInstance, inferInstance, inferInstance, inferInstance⟩
          intro j hj
          by_cases hjk : j = k
          · subst hjk; simp [hitW, HH.out]
          · exact hn.out j (by omega)
        case measure => simp [intOf]; omega
      · have hne : ((stepM (inW n k) (worstT (inW n k)) 0 : Int) != 0) = true := by simp; omega
        have HF := Lib.hid (firstHit_at (hitW n) hlt hn.out (by simp [hitW, hh]))
        clear hh hh' hvk
        go_wp2_with (first
          | (go_at_call 66; refine (worst_c r (inW n k) B _ hin.up h3).mono ?_; rintro e w1 ⟨rt, δ, rfl, rfl, ht⟩)
          | (go_at_call 80; refine (step_c r (inW n k) _ _ 0 _ _ hin.wide ht.wide hw (by omega)).mono ?_; rintro e w1 ⟨rfl, δ, rfl⟩))
        go_ret
        exact ⟨ret_int (by rw [HF.out]), lat_ex⟩
    · obtain rfl : k = 21 := by omega
      have HF := Lib.hid (firstHit_none (hitW n) hn.out)
      go_wp2_with (fail)
      go_ret
      exact ⟨ret_int (by rw [HF.out]; rfl), lat_ex⟩

set_option maxHeartbeats 2000000 in
theorem leastS_c (r : NetR) (n : Net) (B : Nat) (w : World) [hB : Le B w] (h : NetIs B w r n) (hv : valid n = true) :
    Calls Tryd.prog 99 #[netV r n, .func (.func 68) #[] #[]] w fun e w' => e = .returned (.int .i64 (firstHit (hitS n) 21 0)) ∧ ∃ δ, w' = lat w δ := by
  have HV := Lib.hid hv
  clear hv
  go_enter Tryd.func99, Tryd.ntmps99
  go_wp2_with (fail)
  go_loopw [6] (fun i wr => ∃ (k : Nat) (lo hi : Int), k ≤ 21 ∧ i = .int .i64 k ∧ Hid (∀ j, j < k → hitS n j = false) ∧ Box wr w.heap.size 28 #[.int .i64 lo, .int .i64 hi, .int .i64 n.cur.lo, .int .i64 n.cur.hi, .slice r.gA n.grips.length r.gc, .slice r.aA n.ancs.length r.ac, .slice r.wA n.wals.length r.wc] ∧ Grew w.heap.size w wr ∧ Grew B w wr ∧ Le w.heap.size wr ∧ Le B wr) (fun i _ => 21 - (intOf i).toNat)
  case atStart => exact ⟨0, n.wind.lo, n.wind.hi, by omega, rfl, fun j hj => by omega, Box.new rfl, inferInstance, inferInstance, inferInstance, inferInstance⟩
  case round =>
    obtain ⟨k, lo, hi, hk, rfl, hn, hbox, i1, i2, i3, i4⟩ := hrel
    have i5 := hbox.lt
    have c0 := hbox.cell (i := 0) rfl
    have c1 := hbox.cell (i := 1) rfl
    have c2 := hbox.cell (i := 2) rfl
    have c3 := hbox.cell (i := 3) rfl
    have c4 := hbox.cell (i := 4) rfl
    have c5 := hbox.cell (i := 5) rfl
    have c6 := hbox.cell (i := 6) rfl
    have f0 := hbox.free 0
    have f1 := hbox.free 1
    have HB := Lib.hid hbox
    clear hbox
    by_cases hlt : k < 21
    · have hvk := valid_inW HV.out (x := k) (by omega)
      have h3 : (inW n k).grips.length ≤ 3 := (valid_iff.1 hvk).2.2.1
      have hw := okTru_best hvk
      have hin : NetIs B w r (inW n k) := h
      by_cases hh : stepM (inW n k) (bestT (inW n k)) 0 = 0
      all_goals
        have hh' := hh
      · have HH := Lib.hid hh
        have he : (stepM (inW n k) (bestT (inW n k)) 0 : Int) = 0 := by omega
        clear hh hh' hvk
        go_wp2_with (first
          | (go_at_call 68; refine (best_c r (inW n k) B _ hin.up h3).mono ?_; rintro e w1 ⟨rt, δ, rfl, rfl, ht⟩)
          | (go_at_call 80; refine (step_c r (inW n k) _ _ 0 _ _ hin.wide ht.wide hw (by omega)).mono ?_; rintro e w1 ⟨rfl, δ, rfl⟩))
        go_roundw
        case rel =>
          refine ⟨k + 1, k, k, by omega, by go_num, ?_, ((((HB.out.set 0 _).set 1 _).lat _).lat _), inferInstance, inferInstance, inferInstance, inferInstance⟩
          intro j hj
          by_cases hjk : j = k
          · subst hjk; simp [hitS, HH.out]
          · exact hn.out j (by omega)
        case measure => simp [intOf]; omega
      · have hne : ((stepM (inW n k) (bestT (inW n k)) 0 : Int) != 0) = true := by simp; omega
        have HF := Lib.hid (firstHit_at (hitS n) hlt hn.out (by simp [hitS, hh]))
        clear hh hh' hvk
        go_wp2_with (first
          | (go_at_call 68; refine (best_c r (inW n k) B _ hin.up h3).mono ?_; rintro e w1 ⟨rt, δ, rfl, rfl, ht⟩)
          | (go_at_call 80; refine (step_c r (inW n k) _ _ 0 _ _ hin.wide ht.wide hw (by omega)).mono ?_; rintro e w1 ⟨rfl, δ, rfl⟩))
        go_ret
        exact ⟨ret_int (by rw [HF.out]), lat_ex⟩
    · obtain rfl : k = 21 := by omega
      have HF := Lib.hid (firstHit_none (hitS n) hn.out)
      go_wp2_with (fail)
      go_ret
      exact ⟨ret_int (by rw [HF.out]; rfl), lat_ex⟩

/-- What Wind and Storm return: the wind, or that there is none. -/
def windV (v : Bool) (k : Nat) : Int := if v then (if k = 21 then 0 else k) else 0
def windE (v : Bool) (k : Nat) : Int := if v then (if k = 21 then 3 else 0) else 20

theorem windW_c (r : NetR) (n : Net) (B : Nat) (w : World) [hB : Le B w] (h : NetIs B w r n) :
    Calls Tryd.prog 65 #[netV r n, .func (.func 66) #[] #[]] w fun e w' => e = .returned (.tuple #[.int .i64 (windV (valid n) (firstHit (hitW n) 21 0)), .int .i64 (windE (valid n) (firstHit (hitW n) 21 0))]) ∧ ∃ δ, w' = lat w δ := by
  by_cases hv : valid n = true
  all_goals try rw [Bool.not_eq_true] at hv
  all_goals
    have HV := Lib.hid hv
    rw [hv]
    clear hv
  · have hX : ∃ X, X = firstHit (hitW n) 21 0 := ⟨_, rfl⟩
    obtain ⟨X, hX⟩ := hX
    rw [← hX]
    have HX := Lib.hid hX
    clear hX
    by_cases hx : X = 21
    · subst hx
      go_enter Tryd.func65, Tryd.ntmps65
      go_wp2_with (first
        | (go_at_call 38; refine (check_ok r n B _ h.up HV.out).mono ?_; rintro e w1 ⟨rfl, δ, rfl⟩)
        | (go_at_call 99; refine (leastW_c r n B _ h.up HV.out).mono ?_; rw [← HX.out]; rintro e w1 ⟨rfl, δ, rfl⟩))
      go_ret2
      exact ⟨rfl, lat_ex⟩
    · have hne : ((X : Int) == 21) = false := by simp; omega
      have HN := Lib.hid hx
      clear hx
      go_enter Tryd.func65, Tryd.ntmps65
      go_wp2_with (first
        | (go_at_call 38; refine (check_ok r n B _ h.up HV.out).mono ?_; rintro e w1 ⟨rfl, δ, rfl⟩)
        | (go_at_call 99; refine (leastW_c r n B _ h.up HV.out).mono ?_; rw [← HX.out]; rintro e w1 ⟨rfl, δ, rfl⟩))
      go_ret2
      exact ⟨ret2 (int_eq (by simp [windV, HN.out])) (int_eq (by simp [windE, HN.out])), lat_ex⟩
  · go_enter Tryd.func65, Tryd.ntmps65
    go_wp2_with (go_at_call 38; refine (check_no r n B _ h.up HV.out).mono ?_; rintro e w1 ⟨rfl, δ, rfl⟩)
    go_ret2
    exact ⟨rfl, lat_ex⟩

theorem windS_c (r : NetR) (n : Net) (B : Nat) (w : World) [hB : Le B w] (h : NetIs B w r n) :
    Calls Tryd.prog 65 #[netV r n, .func (.func 68) #[] #[]] w fun e w' => e = .returned (.tuple #[.int .i64 (windV (valid n) (firstHit (hitS n) 21 0)), .int .i64 (windE (valid n) (firstHit (hitS n) 21 0))]) ∧ ∃ δ, w' = lat w δ := by
  by_cases hv : valid n = true
  all_goals try rw [Bool.not_eq_true] at hv
  all_goals
    have HV := Lib.hid hv
    rw [hv]
    clear hv
  · have hX : ∃ X, X = firstHit (hitS n) 21 0 := ⟨_, rfl⟩
    obtain ⟨X, hX⟩ := hX
    rw [← hX]
    have HX := Lib.hid hX
    clear hX
    by_cases hx : X = 21
    · subst hx
      go_enter Tryd.func65, Tryd.ntmps65
      go_wp2_with (first
        | (go_at_call 38; refine (check_ok r n B _ h.up HV.out).mono ?_; rintro e w1 ⟨rfl, δ, rfl⟩)
        | (go_at_call 99; refine (leastS_c r n B _ h.up HV.out).mono ?_; rw [← HX.out]; rintro e w1 ⟨rfl, δ, rfl⟩))
      go_ret2
      exact ⟨rfl, lat_ex⟩
    · have hne : ((X : Int) == 21) = false := by simp; omega
      have HN := Lib.hid hx
      clear hx
      go_enter Tryd.func65, Tryd.ntmps65
      go_wp2_with (first
        | (go_at_call 38; refine (check_ok r n B _ h.up HV.out).mono ?_; rintro e w1 ⟨rfl, δ, rfl⟩)
        | (go_at_call 99; refine (leastS_c r n B _ h.up HV.out).mono ?_; rw [← HX.out]; rintro e w1 ⟨rfl, δ, rfl⟩))
      go_ret2
      exact ⟨ret2 (int_eq (by simp [windV, HN.out])) (int_eq (by simp [windE, HN.out])), lat_ex⟩
  · go_enter Tryd.func65, Tryd.ntmps65
    go_wp2_with (go_at_call 38; refine (check_no r n B _ h.up HV.out).mono ?_; rintro e w1 ⟨rfl, δ, rfl⟩)
    go_ret2
    exact ⟨rfl, lat_ex⟩

theorem wind_c (r : NetR) (n : Net) (B : Nat) (w : World) [hB : Le B w] (h : NetIs B w r n) :
    Calls Tryd.prog 18 #[netV r n] w fun e w' => e = .returned (.tuple #[.int .i64 (windV (valid n) (firstHit (hitW n) 21 0)), .int .i64 (windE (valid n) (firstHit (hitW n) 21 0))]) ∧ ∃ δ, w' = lat w δ := by
  go_enter Tryd.func18, Tryd.ntmps18
  go_wp2_with (go_at_call 65; refine (windW_c r n B _ h.up).mono ?_; rintro e w1 ⟨rfl, δ, rfl⟩)
  go_ret2
  exact ⟨rfl, lat_ex⟩
theorem storm_c (r : NetR) (n : Net) (B : Nat) (w : World) [hB : Le B w] (h : NetIs B w r n) :
    Calls Tryd.prog 20 #[netV r n] w fun e w' => e = .returned (.tuple #[.int .i64 (windV (valid n) (firstHit (hitS n) 21 0)), .int .i64 (windE (valid n) (firstHit (hitS n) 21 0))]) ∧ ∃ δ, w' = lat w δ := by
  go_enter Tryd.func20, Tryd.ntmps20
  go_wp2_with (go_at_call 65; refine (windS_c r n B _ h.up).mono ?_; rintro e w1 ⟨rfl, δ, rfl⟩)
  go_ret2
  exact ⟨rfl, lat_ex⟩

end Go.Proofs.YtgpcaaknpfopgaaDoor
