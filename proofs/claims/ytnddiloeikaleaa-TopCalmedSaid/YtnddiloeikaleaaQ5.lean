/- Towards the claim of XLawCalmed: Layer 2: the walks of the program's questions about a net. Layer 2: the walks of Spare, isTruth, First and Drags of the program. Layer 2: the walks of the program's Wind and Storm. Layer 2: the walks of the reference's anchors in a truth. Layer 2: the walks of more and AtLast of the reference. Layer 2: the walks of the reference's lists of truths. Layer 2: the walk of Truths of the reference. Layer 2: which truths there are; the walk of quiet of the reference. Layer 2: the walks of Copy and InWind of the reference. Layer 2: the walks of windOf, Wind and Storm of the reference. The plain law of -/
import Derived.Test.YtnddiloeikaleaaQ3
import Derived.Deep.RegionHeld3
import Derived.Test.YtnddiloeikaleaaQ2
namespace Go.Proofs.Ytnddiloeikaleaa
open Go.RowKit
open An

theorem beq0 (a : Nat) : ((a : Int) == 0) = decide (a = 0) := by rw [Bool.eq_iff_iff]; simp
theorem NetIs.wide {B : Nat} {w W : World} {r : NetR} {n : Net} (h : NetIs B w r n) [Grew B w W] [hB : Le B W] : NetIs W.heap.size W r n := h.up.more hB.out
theorem Sl.wide {α : Type} {enc : α → List Value} {B : Nat} {w W : World} {A : Option Addr} {c : Nat} {xs : List α} (h : Sl enc B w A c xs) [Grew B w W] [hB : Le B W] : Sl enc W.heap.size W A c xs := h.up.more hB.out

theorem okTru_worst {n : Net} (hv : valid n = true) : okTru n (worstT n) := by
  obtain ⟨h1, h2, _, _, _, h6, _, _⟩ := valid_iff.1 hv
  simp only [okSp, decide_eq_true_eq] at h1 h2
  refine ⟨hv, inB_iff.2 (show 0 ≤ n.wind.hi ∧ n.wind.hi ≤ 20 by omega), inB_iff.2 (show 0 ≤ n.cur.hi ∧ n.cur.hi ≤ 20 by omega), by simp [worstT], ?_⟩
  intro g hg
  simp only [worstT, List.mem_map] at hg
  obtain ⟨s, hs, rfl⟩ := hg
  have := (List.all_eq_true.1 h6) s hs
  simp only [okSp, decide_eq_true_eq] at this
  exact inB_iff.2 (by omega)
theorem okTru_best {n : Net} (hv : valid n = true) : okTru n (bestT n) := by
  obtain ⟨h1, h2, _, _, _, h6, _, _⟩ := valid_iff.1 hv
  simp only [okSp, decide_eq_true_eq] at h1 h2
  refine ⟨hv, inB_iff.2 (show 0 ≤ n.wind.lo ∧ n.wind.lo ≤ 20 by omega), inB_iff.2 (show 0 ≤ n.cur.lo ∧ n.cur.lo ≤ 20 by omega), by simp [bestT], ?_⟩
  intro g hg
  simp only [bestT, List.mem_map] at hg
  obtain ⟨s, hs, rfl⟩ := hg
  have := (List.all_eq_true.1 h6) s hs
  simp only [okSp, decide_eq_true_eq] at this
  exact inB_iff.2 (by omega)

def knownB (a b : Bool) : Int := if a then 1 else if b then 3 else 2
theorem knownB_c (a b : Bool) (w : World) :
    Calls Try.prog 65 #[.bool a, .bool b] w fun e w' => e = .returned (.int .i64 (knownB a b)) ∧ w = w' := by
  cases a <;> cases b
  all_goals
    go_enter Try.func65, Try.ntmps65
    go_wp2
    go_ret
    exact ⟨rfl, rfl⟩

theorem check_ok (r : NetR) (n : Net) (B : Nat) (w : World) (h : NetIs B w r n) [hB : Le B w] (hv : valid n = true) :
    Calls Try.prog 31 #[netV r n] w fun e w' => e = .returned (.int .i64 0) ∧ ∃ δ, w' = lat w δ :=
  (check_c r n B w h).mono fun e w' hh => by rw [hv] at hh; exact hh
theorem check_no (r : NetR) (n : Net) (B : Nat) (w : World) (h : NetIs B w r n) [hB : Le B w] (hv : valid n = false) :
    Calls Try.prog 31 #[netV r n] w fun e w' => e = .returned (.int .i64 20) ∧ ∃ δ, w' = lat w δ :=
  (check_c r n B w h).mono fun e w' hh => by rw [hv] at hh; exact hh

/-- A known value, 0 with an error. -/
def onOk (ok : Bool) (x : Int) : Int := if ok then x else 0

set_option maxHeartbeats 2000000 in
theorem safe_c (r : NetR) (n : Net) (B : Nat) (w : World) [hB : Le B w] (h : NetIs B w r n) :
    Calls Try.prog 47 #[netV r n] w fun e w' => e = .returned (.tuple #[.int .i64 (onOk (valid n) (knownB (decide (stepM n (worstT n) 0 = 0)) (decide (stepM n (bestT n) 0 = 0)))), .int .i64 (errOf (valid n) 20)]) ∧ ∃ δ, w' = lat w δ := by
  by_cases hv : valid n = true
  · have h3 := (valid_iff.1 hv).2.2.1
    have hw := okTru_worst hv
    have hb := okTru_best hv
    have HV := Lib.hid hv
    rw [hv]
    clear hv
    go_enter Try.func47, Try.ntmps47
    go_wp2_with (go_at_call 31; refine (check_ok r n B _ h.up HV.out).mono ?_; rintro e w1 ⟨rfl, δ, rfl⟩)
    go_region_held3 (fun W => W.cell? ⟨w.heap.size, 0, none⟩ = some (.int .i64 n.wind.lo) ∧ W.cell? ⟨w.heap.size, 1, none⟩ = some (.int .i64 n.wind.hi) ∧ W.cell? ⟨w.heap.size, 2, none⟩ = some (.int .i64 n.cur.lo) ∧ W.cell? ⟨w.heap.size, 3, none⟩ = some (.int .i64 n.cur.hi) ∧
        W.cell? ⟨w.heap.size, 4, none⟩ = some (.slice r.gA n.grips.length r.gc) ∧ W.cell? ⟨w.heap.size, 5, none⟩ = some (.slice r.aA n.ancs.length r.ac) ∧ W.cell? ⟨w.heap.size, 6, none⟩ = some (.slice r.wA n.wals.length r.wc))
      (refine ⟨?_, ?_, ?_, ?_, ?_, ?_, ?_⟩ <;> go_simp)
      (first
        | (go_at_call 29; refine (worst_c r n B _ h.up h3).mono ?_; rintro e w1 ⟨rt, δ, rfl, rfl, ht⟩)
        | (go_at_call 30; refine (best_c r n B _ h.up h3).mono ?_; rintro e w1 ⟨rt, δ, rfl, rfl, ht⟩)
        | (go_at_call 65; refine (knownB_c _ _ _).mono ?_; rintro e w1 ⟨rfl, rfl⟩)
        | (go_at_call 66; refine (step_c r n _ _ 0 _ _ h.wide ht.wide (by assumption) (by omega)).mono ?_; rintro e w1 ⟨rfl, δ, rfl⟩))
    go_wp2_with (fail)
    go_ret2
    exact ⟨by simp only [onOk, errOf, beq0, if_true]; rfl, lat_ex⟩
  · rw [Bool.not_eq_true] at hv
    rw [hv]
    have HV := Lib.hid hv
    clear hv
    go_enter Try.func47, Try.ntmps47
    go_wp2_with (go_at_call 31; refine (check_no r n B _ h.up HV.out).mono ?_; rintro e w1 ⟨rfl, δ, rfl⟩)
    go_ret2
    exact ⟨rfl, lat_ex⟩

/-- The error of a net that is asked for something. -/
def askE (v b : Bool) : Int := if v then (if b then 0 else 1) else 20
open Classical in
noncomputable def lastB (n : Net) (t : Tru) (d : Nat → Bool) (i : Nat) : Bool := decide (lastP n t d i)
theorem bit_last {n : Net} {t : Tru} {d : Nat → Bool} {m i : Nat} (h : m.testBit i = true ↔ lastP n t d i) : m.testBit i = lastB n t d i := by
  rw [Bool.eq_iff_iff, h]; simp [lastB]
theorem ret2 {a b a' b' : Value} (h1 : a = a') (h2 : b = b') : Ending.returned (.tuple #[a, b]) = Ending.returned (.tuple #[a', b']) := by rw [h1, h2]
noncomputable def dragV (n : Net) (i : Int) : Int := onOk (valid n && inB 0 (n.ancs.length - 1) i) (knownB (lastB n (bestT n) (fun _ => false) i.toNat) (lastB n (worstT n) (fun _ => false) i.toNat))

end Go.Proofs.Ytnddiloeikaleaa
namespace Go.Proofs.Ytnddiloeikaleaa
open Go.RowKit
open An

/-- Spare's answer. -/
def spareV (n : Net) (i : Int) : Sp := if valid n && inB 0 (n.ancs.length - 1) i then ⟨spare n (worstT n) i.toNat (fun _ => false), spare n (bestT n) i.toNat (fun _ => false)⟩ else ⟨0, 0⟩
theorem spare0_c (r : NetR) (n : Net) (rt : TruR) (t : Tru) (i : Nat) (B : Nat) (w : World) [hB : Le B w] (h : NetIs B w r n) (h' : TruIs B w rt t) (ht : okTru n t) (hi : i < n.ancs.length) :
    Calls Try.prog 33 #[rowV r n rt t, .int .i64 i, .int .u64 0] w fun e w' => e = .returned (.int .i64 (spare n t i (fun _ => false))) ∧ ∃ δ, w' = lat w δ :=
  (spare_c r n rt t i 0 B w h h' ht hi (by omega)).mono fun e w' ⟨he, hδ⟩ => ⟨by
    have e : (fun k => Nat.testBit 0 k) = fun _ => false := funext fun i => Nat.zero_testBit i
    rw [e] at he; exact he, hδ⟩

/-- Is a truth one of a net? -/
def inSp (s : Sp) (k : Int) : Bool := inB s.lo s.hi k
def gripsIn (gs : List Sp) (ts : List Int) (k : Nat) : Bool := (List.range k).all fun i => inSp (nth gs i) (nth ts i)
def truB (n : Net) (t : Tru) : Bool := inSp n.wind t.wind && inSp n.cur t.cur && decide (t.grips.length = n.grips.length) && gripsIn n.grips t.grips t.grips.length
theorem gripsIn_succ (gs : List Sp) (ts : List Int) (k : Nat) : gripsIn gs ts (k + 1) = (gripsIn gs ts k && inSp (nth gs k) (nth ts k)) := by simp [gripsIn, List.range_succ]
theorem gripsIn_le {gs : List Sp} {ts : List Int} {k m : Nat} (h : gripsIn gs ts m = true) (hk : k < m) : inSp (nth gs k) (nth ts k) = true := by
  unfold gripsIn at h
  exact (List.all_eq_true.1 h) k (by simpa using hk)

theorem okTru_of {n : Net} {t : Tru} (hv : valid n = true) (ht : truB n t = true) : okTru n t := by
  obtain ⟨h1, h2, _, _, _, h6, _, _⟩ := valid_iff.1 hv
  simp only [truB, Bool.and_eq_true, decide_eq_true_eq] at ht
  obtain ⟨⟨⟨a, b⟩, c⟩, d⟩ := ht
  simp only [okSp, decide_eq_true_eq] at h1 h2
  simp only [inSp, inB_iff] at a b
  refine ⟨hv, inB_iff.2 (by omega), inB_iff.2 (by omega), c, ?_⟩
  intro g hg
  obtain ⟨i, hi, rfl⟩ := List.getElem_of_mem hg
  have e := gripsIn_le d hi
  rw [nth_get _ hi] at e
  have hi' : i < n.grips.length := by omega
  have := (List.all_eq_true.1 h6) _ (nth_mem _ hi')
  simp only [okSp, decide_eq_true_eq] at this
  simp only [inSp, inB_iff] at e
  exact inB_iff.2 (by omega)

def listB (d : Nat → Bool) : List Int := ((List.range 6).filter d).map fun (i : Nat) => (i : Int)
def firstV (n : Net) (t : Tru) : List Int := if valid n && truB n t then listM (stepM n t 0) else []
noncomputable def dragsV (n : Net) (t : Tru) : List Int := if valid n && truB n t then listB (lastB n t fun _ => false) else []

end Go.Proofs.Ytnddiloeikaleaa
namespace Go.Proofs.Ytnddiloeikaleaa
open Go.RowKit
open An

/-- A net in another wind. -/
def inW (n : Net) (x : Int) : Net := { n with wind := ⟨x, x⟩ }
def hitW (n : Net) (x : Nat) : Bool := decide (stepM (inW n x) (worstT (inW n x)) 0 ≠ 0)
def hitS (n : Net) (x : Nat) : Bool := decide (stepM (inW n x) (bestT (inW n x)) 0 ≠ 0)
theorem valid_inW {n : Net} (hv : valid n = true) {x : Nat} (hx : x ≤ 20) : valid (inW n x) = true := by
  rw [valid_iff] at *
  refine ⟨?_, hv.2⟩
  show okSp 20 ⟨x, x⟩ = true
  simp only [okSp, decide_eq_true_eq]; omega
theorem bne0 (a : Nat) : ((a : Int) != 0) = decide (a ≠ 0) := by rw [Bool.eq_iff_iff]; simp

set_option maxHeartbeats 2000000 in
theorem leastW_c (r : NetR) (n : Net) (B : Nat) (w : World) [hB : Le B w] (h : NetIs B w r n) (hv : valid n = true) :
    Calls Try.prog 50 #[netV r n, .func (.func 29) #[] #[]] w fun e w' => e = .returned (.int .i64 (firstHit (hitW n) 21 0)) ∧ ∃ δ, w' = lat w δ := by
  have HV := Lib.hid hv
  clear hv
  go_enter Try.func50, Try.ntmps50
  go_wp2_with (fail)
  go_loopw [6] (fun i wr => ∃ (k : Nat) (lo hi : Int), k ≤ 21 ∧ i = .int .i64 k ∧ Hid (∀ j, j < k → hitW n j = false) ∧ Box wr w.heap.size 28 #[.int .i64 lo, .int .i64 hi, .int .i64 n.cur.lo, .int .i64 n.cur.hi, .slice r.gA n.grips.length r.gc, .slice r.aA n.ancs.length r.ac, .slice r.wA n.wals.length r.wc] ∧ Grew w.heap.size w wr ∧ Grew B w wr ∧ Le w.heap.size wr ∧ Le B wr) (fun i _ => 21 - (intOf i).toNat)
  case atStart => exact ⟨0, n.wind.lo, n.wind.hi, by omega, rfl, fun j hj => by omega, Box.new rfl, inferInstance, inferInstance, inferInstance, inferInstance⟩
  case round =>
    obtain ⟨k, lo, hi, hk, rfl, hn, hbox, i1, i2, i3, i4⟩ := hrel
    have i5 := hbox.lt
    have c0 := hbox.cell (i := 0) rfl
    have c1 := hbox.cell (i := 1) rfl
    have c2 := hbox.cell (i := 2) rfl
    have c3 := hbox.cell (i := 3) rfl
    have c4 := hbox.cell (i := 4) rfl
    have c5 := hbox.cell (i := 5) rfl
    have c6 := hbox.cell (i := 6) rfl
    have f0 := hbox.free 0
    have f1 := hbox.free 1
    have HB := Lib.hid hbox
    clear hbox
    by_cases hlt : k < 21
    · have hvk := valid_inW HV.out (x := k) (by omega)
      have h3 : (inW n k).grips.length ≤ 3 := (valid_iff.1 hvk).2.2.1
      have hw := okTru_worst hvk
      have hin : NetIs B w r (inW n k) := h
      by_cases hh : stepM (inW n k) (worstT (inW n k)) 0 = 0
      all_goals
        have hh' := hh
      · have HH := Lib.hid hh
        have he : (stepM (inW n k) (worstT (inW n k)) 0 : Int) = 0 := by omega
        clear hh hh' hvk
        go_wp2_with (first
          | (go_at_call 29; refine (worst_c r (inW n k) B _ hin.up h3).mono ?_; rintro e w1 ⟨rt, δ, rfl, rfl, ht⟩)
          | (go_at_call 66; refine (step_c r (inW n k) _ _ 0 _ _ hin.wide ht.wide hw (by omega)).mono ?_; rintro e w1 ⟨rfl, δ, rfl⟩))
        go_roundw
        case rel =>
          refine ⟨k + 1, k, k, by omega, by go_num, ?_, ((((HB.out.set 0 _).set 1 _).lat _).lat _), inferInstance, inferInstance, inferInstance, inferInstance⟩
          intro j hj
          by_cases hjk : j = k
          · subst hjk; simp [hitW, HH.out]
          · exact hn.out j (by omega)
        case measure => simp [intOf]; omega
      · have hne : ((stepM (inW n k) (worstT (inW n k)) 0 : Int) != 0) = true := by simp; omega
        have HF := Lib.hid (firstHit_at (hitW n) hlt hn.out (by simp [hitW, hh]))
        clear hh hh' hvk
        go_wp2_with (first
          | (go_at_call 29; refine (worst_c r (inW n k) B _ hin.up h3).mono ?_; rintro e w1 ⟨rt, δ, rfl, rfl, ht⟩)
          | (go_at_call 66; refine (step_c r (inW n k) _ _ 0 _ _ hin.wide ht.wide hw (by omega)).mono ?_; rintro e w1 ⟨rfl, δ, rfl⟩))
        go_ret
        exact ⟨ret_int (by rw [HF.out]), lat_ex⟩
    · obtain rfl : k = 21 := by omega
      have HF := Lib.hid (firstHit_none (hitW n) hn.out)
      go_wp2_with (fail)
      go_ret
      exact ⟨ret_int (by rw [HF.out]; rfl), lat_ex⟩

set_option maxHeartbeats 2000000 in
theorem leastS_c (r : NetR) (n : Net) (B : Nat) (w : World) [hB : Le B w] (h : NetIs B w r n) (hv : valid n = true) :
    Calls Try.prog 50 #[netV r n, .func (.func 30) #[] #[]] w fun e w' => e = .returned (.int .i64 (firstHit (hitS n) 21 0)) ∧ ∃ δ, w' = lat w δ := by
  have HV := Lib.hid hv
  clear hv
  go_enter Try.func50, Try.ntmps50
  go_wp2_with (fail)
  go_loopw [6] (fun i wr => ∃ (k : Nat) (lo hi : Int), k ≤ 21 ∧ i = .int .i64 k ∧ Hid (∀ j, j < k → hitS n j = false) ∧ Box wr w.heap.size 28 #[.int .i64 lo, .int .i64 hi, .int .i64 n.cur.lo, .int .i64 n.cur.hi, .slice r.gA n.grips.length r.gc, .slice r.aA n.ancs.length r.ac, .slice r.wA n.wals.length r.wc] ∧ Grew w.heap.size w wr ∧ Grew B w wr ∧ Le w.heap.size wr ∧ Le B wr) (fun i _ => 21 - (intOf i).toNat)
  case atStart => exact ⟨0, n.wind.lo, n.wind.hi, by omega, rfl, fun j hj => by omega, Box.new rfl, inferInstance, inferInstance, inferInstance, inferInstance⟩
  case round =>
    obtain ⟨k, lo, hi, hk, rfl, hn, hbox, i1, i2, i3, i4⟩ := hrel
    have i5 := hbox.lt
    have c0 := hbox.cell (i := 0) rfl
    have c1 := hbox.cell (i := 1) rfl
    have c2 := hbox.cell (i := 2) rfl
    have c3 := hbox.cell (i := 3) rfl
    have c4 := hbox.cell (i := 4) rfl
    have c5 := hbox.cell (i := 5) rfl
    have c6 := hbox.cell (i := 6) rfl
    have f0 := hbox.free 0
    have f1 := hbox.free 1
    have HB := Lib.hid hbox
    clear hbox
    by_cases hlt : k < 21
    · have hvk := valid_inW HV.out (x := k) (by omega)
      have h3 : (inW n k).grips.length ≤ 3 := (valid_iff.1 hvk).2.2.1
      have hw := okTru_best hvk
      have hin : NetIs B w r (inW n k) := h
      by_cases hh : stepM (inW n k) (bestT (inW n k)) 0 = 0
      all_goals
        have hh' := hh
      · have HH := Lib.hid hh
        have he : (stepM (inW n k) (bestT (inW n k)) 0 : Int) = 0 := by omega
        clear hh hh' hvk
        go_wp2_with (first
          | (go_at_call 30; refine (best_c r (inW n k) B _ hin.up h3).mono ?_; rintro e w1 ⟨rt, δ, rfl, rfl, ht⟩)
          | (go_at_call 66; refine (step_c r (inW n k) _ _ 0 _ _ hin.wide ht.wide hw (by omega)).mono ?_; rintro e w1 ⟨rfl, δ, rfl⟩))
        go_roundw
        case rel =>
          refine ⟨k + 1, k, k, by omega, by go_num, ?_, ((((HB.out.set 0 _).set 1 _).lat _).lat _), inferInstance, inferInstance, inferInstance, inferInstance⟩
          intro j hj
          by_cases hjk : j = k
          · subst hjk; simp [hitS, HH.out]
          · exact hn.out j (by omega)
        case measure => simp [intOf]; omega
      · have hne : ((stepM (inW n k) (bestT (inW n k)) 0 : Int) != 0) = true := by simp; omega
        have HF := Lib.hid (firstHit_at (hitS n) hlt hn.out (by simp [hitS, hh]))
        clear hh hh' hvk
        go_wp2_with (first
          | (go_at_call 30; refine (best_c r (inW n k) B _ hin.up h3).mono ?_; rintro e w1 ⟨rt, δ, rfl, rfl, ht⟩)
          | (go_at_call 66; refine (step_c r (inW n k) _ _ 0 _ _ hin.wide ht.wide hw (by omega)).mono ?_; rintro e w1 ⟨rfl, δ, rfl⟩))
        go_ret
        exact ⟨ret_int (by rw [HF.out]), lat_ex⟩
    · obtain rfl : k = 21 := by omega
      have HF := Lib.hid (firstHit_none (hitS n) hn.out)
      go_wp2_with (fail)
      go_ret
      exact ⟨ret_int (by rw [HF.out]; rfl), lat_ex⟩

/-- What Wind and Storm return: the wind, or that there is none. -/
def windV (v : Bool) (k : Nat) : Int := if v then (if k = 21 then 0 else k) else 0
def windE (v : Bool) (k : Nat) : Int := if v then (if k = 21 then 3 else 0) else 20

theorem windW_c (r : NetR) (n : Net) (B : Nat) (w : World) [hB : Le B w] (h : NetIs B w r n) :
    Calls Try.prog 28 #[netV r n, .func (.func 29) #[] #[]] w fun e w' => e = .returned (.tuple #[.int .i64 (windV (valid n) (firstHit (hitW n) 21 0)), .int .i64 (windE (valid n) (firstHit (hitW n) 21 0))]) ∧ ∃ δ, w' = lat w δ := by
  by_cases hv : valid n = true
  all_goals try rw [Bool.not_eq_true] at hv
  all_goals
    have HV := Lib.hid hv
    rw [hv]
    clear hv
  · have hX : ∃ X, X = firstHit (hitW n) 21 0 := ⟨_, rfl⟩
    obtain ⟨X, hX⟩ := hX
    rw [← hX]
    have HX := Lib.hid hX
    clear hX
    by_cases hx : X = 21
    · subst hx
      go_enter Try.func28, Try.ntmps28
      go_wp2_with (first
        | (go_at_call 31; refine (check_ok r n B _ h.up HV.out).mono ?_; rintro e w1 ⟨rfl, δ, rfl⟩)
        | (go_at_call 50; refine (leastW_c r n B _ h.up HV.out).mono ?_; rw [← HX.out]; rintro e w1 ⟨rfl, δ, rfl⟩))
      go_ret2
      exact ⟨rfl, lat_ex⟩
    · have hne : ((X : Int) == 21) = false := by simp; omega
      have HN := Lib.hid hx
      clear hx
      go_enter Try.func28, Try.ntmps28
      go_wp2_with (first
        | (go_at_call 31; refine (check_ok r n B _ h.up HV.out).mono ?_; rintro e w1 ⟨rfl, δ, rfl⟩)
        | (go_at_call 50; refine (leastW_c r n B _ h.up HV.out).mono ?_; rw [← HX.out]; rintro e w1 ⟨rfl, δ, rfl⟩))
      go_ret2
      exact ⟨ret2 (int_eq (by simp [windV, HN.out])) (int_eq (by simp [windE, HN.out])), lat_ex⟩
  · go_enter Try.func28, Try.ntmps28
    go_wp2_with (go_at_call 31; refine (check_no r n B _ h.up HV.out).mono ?_; rintro e w1 ⟨rfl, δ, rfl⟩)
    go_ret2
    exact ⟨rfl, lat_ex⟩

theorem windS_c (r : NetR) (n : Net) (B : Nat) (w : World) [hB : Le B w] (h : NetIs B w r n) :
    Calls Try.prog 28 #[netV r n, .func (.func 30) #[] #[]] w fun e w' => e = .returned (.tuple #[.int .i64 (windV (valid n) (firstHit (hitS n) 21 0)), .int .i64 (windE (valid n) (firstHit (hitS n) 21 0))]) ∧ ∃ δ, w' = lat w δ := by
  by_cases hv : valid n = true
  all_goals try rw [Bool.not_eq_true] at hv
  all_goals
    have HV := Lib.hid hv
    rw [hv]
    clear hv
  · have hX : ∃ X, X = firstHit (hitS n) 21 0 := ⟨_, rfl⟩
    obtain ⟨X, hX⟩ := hX
    rw [← hX]
    have HX := Lib.hid hX
    clear hX
    by_cases hx : X = 21
    · subst hx
      go_enter Try.func28, Try.ntmps28
      go_wp2_with (first
        | (go_at_call 31; refine (check_ok r n B _ h.up HV.out).mono ?_; rintro e w1 ⟨rfl, δ, rfl⟩)
        | (go_at_call 50; refine (leastS_c r n B _ h.up HV.out).mono ?_; rw [← HX.out]; rintro e w1 ⟨rfl, δ, rfl⟩))
      go_ret2
      exact ⟨rfl, lat_ex⟩
    · have hne : ((X : Int) == 21) = false := by simp; omega
      have HN := Lib.hid hx
      clear hx
      go_enter Try.func28, Try.ntmps28
      go_wp2_with (first
        | (go_at_call 31; refine (check_ok r n B _ h.up HV.out).mono ?_; rintro e w1 ⟨rfl, δ, rfl⟩)
        | (go_at_call 50; refine (leastS_c r n B _ h.up HV.out).mono ?_; rw [← HX.out]; rintro e w1 ⟨rfl, δ, rfl⟩))
      go_ret2
      exact ⟨ret2 (int_eq (by simp [windV, HN.out])) (int_eq (by simp [windE, HN.out])), lat_ex⟩
  · go_enter Try.func28, Try.ntmps28
    go_wp2_with (go_at_call 31; refine (check_no r n B _ h.up HV.out).mono ?_; rintro e w1 ⟨rfl, δ, rfl⟩)
    go_ret2
    exact ⟨rfl, lat_ex⟩

theorem wind_c (r : NetR) (n : Net) (B : Nat) (w : World) [hB : Le B w] (h : NetIs B w r n) :
    Calls Try.prog 10 #[netV r n] w fun e w' => e = .returned (.tuple #[.int .i64 (windV (valid n) (firstHit (hitW n) 21 0)), .int .i64 (windE (valid n) (firstHit (hitW n) 21 0))]) ∧ ∃ δ, w' = lat w δ := by
  go_enter Try.func10, Try.ntmps10
  go_wp2_with (go_at_call 28; refine (windW_c r n B _ h.up).mono ?_; rintro e w1 ⟨rfl, δ, rfl⟩)
  go_ret2
  exact ⟨rfl, lat_ex⟩
theorem storm_c (r : NetR) (n : Net) (B : Nat) (w : World) [hB : Le B w] (h : NetIs B w r n) :
    Calls Try.prog 11 #[netV r n] w fun e w' => e = .returned (.tuple #[.int .i64 (windV (valid n) (firstHit (hitS n) 21 0)), .int .i64 (windE (valid n) (firstHit (hitS n) 21 0))]) ∧ ∃ δ, w' = lat w δ := by
  go_enter Try.func11, Try.ntmps11
  go_wp2_with (go_at_call 28; refine (windS_c r n B _ h.up).mono ?_; rintro e w1 ⟨rfl, δ, rfl⟩)
  go_ret2
  exact ⟨rfl, lat_ex⟩

end Go.Proofs.Ytnddiloeikaleaa
namespace Go.Proofs.Ytnddiloeikaleaa
open Go.RowKit
open An

/-- A list of anchors as a set. -/
def inL (L : List Int) (k : Nat) : Bool := isIn L (k : Int)

theorem Sl.wals {B : Nat} {w : World} {A : Option Addr} {c : Nat} {xs : List Wal} (h : Sl encWal B w A c xs) (h0 : 0 < xs.length) : ∃ b o, A = some ⟨b, o, none⟩ ∧ b < B ∧ ∀ k, k < xs.length → w.cell? ⟨b, o + k * 5, none⟩ = some (.int .i64 (nth xs k).sail) ∧ w.cell? ⟨b, o + k * 5 + 1, none⟩ = some (.int .i64 (nth xs k).drag) ∧
    w.cell? ⟨b, o + k * 5 + 2, none⟩ = some (.int .i64 (nth xs k).lean) ∧ w.cell? ⟨b, o + k * 5 + 3, none⟩ = some (.int .i64 (nth xs k).corks) ∧ w.cell? ⟨b, o + k * 5 + 4, none⟩ = some (.int .i64 (nth xs k).stones) := by
  obtain ⟨b, o, hA, hb, _⟩ := h.wal h0
  refine ⟨b, o, hA, hb, fun k hk => ?_⟩
  obtain ⟨b', o', hA', _, r⟩ := h.wal hk
  rw [hA] at hA'
  injection hA' with e
  injection e with e1 e2
  subst e1 e2
  exact r

/-- What the sum on one side is, in the order in which the reference adds. -/
theorem two_of (x : Int) (b : Bool) : x * (if b = true then 2 else 1) = if b = true then x + x else x := by cases b <;> simp <;> omega

end Go.Proofs.Ytnddiloeikaleaa
namespace Go.Proofs.Ytnddiloeikaleaa
open Go.RowKit
open An

/-- The list that 'more' returns, up to anchor k. -/
def moreV (n : Net) (t : Tru) (L : List Int) (k : Nat) : List Int := rangeL k (stepB n t (inL L))
theorem stepB_in {n : Net} {t : Tru} {d : Nat → Bool} {i : Nat} (h : d i = true) : stepB n t d i = true := by unfold stepB; rw [h]; rfl

end Go.Proofs.Ytnddiloeikaleaa
namespace Go.Proofs.Ytnddiloeikaleaa
open Go.RowKit
open An

theorem slLL : SlT Try.prog 33 34 (.slice none 0 0) 1 24 := SlT.mk Try.underlying33 (by kernel_rfl) rfl (by omega)

theorem owns_up {w W : World} {b e s n : Nat} {v : Value} {xs : List Value} (h : w.ownsRow b e s v n xs) [hg : Grew w.heap.size w W] : W.ownsRow b e s v n xs := by
  refine ⟨h.1, ?_⟩
  rcases h.2 with h2 | ⟨g, cap, cur, hv, hb, hh, r⟩
  · exact .inl h2
  · refine .inr ⟨g, cap, cur, hv, hb, ?_, r⟩
    rw [hg.out.2.2.2 g, hh]
    rcases Nat.lt_or_ge g w.heap.size with hlt | hge
    · exact hlt
    · rw [Array.getElem?_eq_none hge] at hh; cases hh
theorem own_lit0 {W : World} {base e size g : Nat} (hb : base ≤ W.heap.size) (hg : g = W.heap.size) : (W.alloc (.cells #[] e)).ownsRow base e size (.slice (some ⟨g, 0, none⟩) 0 0) 0 [] := by
  subst hg
  have := World.ownsRow_lit (base := base) (e := e) (size := size) W #[] 0 hb (by unfold maxLen; omega) (by simp)
  simpa using this
theorem len_encI (f : List Int) : (f.flatMap encI).length = f.length * 1 := by induction f with
  | nil => rfl
  | cons x f ih => simp only [List.flatMap_cons, List.length_append, ih, encI, List.length_cons, List.length_nil]; omega
theorem one_encI (f : List Int) : ∀ u ∈ f.flatMap encI, u.oneCell' = true := by
  intro u hu
  simp [encI] at hu
  obtain ⟨x, _, rfl⟩ := hu
  rfl
theorem cells_one {W : World} {g B : Nat} {v : Value} (h : W.cell? ⟨g, 0, none⟩ = some v) (hg : g < B) : Cells W B (some ⟨g, 0, none⟩) [v] := fun _ => ⟨g, 0, rfl, hg, fun j u hj => by
  cases j with
  | zero => simp at hj; subst hj; exact h
  | succ j => simp at hj⟩

theorem step_append_lit {P : Program} (W1 : World) {W : World} {ops : Array Oper} {o : Oper} {a : Act} {K : Act → World → Prop} {Q : Exit → Act → World → Prop} {E : Prop} {t e : TypeId} {z : Value} {size bytes : Nat} (hT : SlT P t e z size bytes)
    (s x : Operand) (hgd : o.guard = none) (ho : o.op = .call { callee := .builtin .append, args := #[s, x], argTypes := #[t, t] })
    {v : Value} (hown : W.ownsRow W1.heap.size e size v 0 []) (hs : a.eval s = v)
    {B m c : Nat} {A : Option Addr} {news : List Value} (hx : a.eval x = .slice A m c) (hr : Cells W B A news) (hl : news.length = m * size) (h1 : ∀ u ∈ news, u.oneCell' = true)
    (h63 : m ≤ 1000000) (hbytes : bytes ≤ 1000) [hbase : Le W1.heap.size W]
    (h : ∀ A' c' δ, (latB W1.heap.size W δ).ownsRow W1.heap.size e size (.slice A' m c') m news → W.grownBy (latB W1.heap.size W δ) v.ownBlock → K (a.put o.dst (.slice A' m c')) (latB W1.heap.size W δ)) :
    if Region.wanted o (yielded ops a.tmps) = true then Oper.wp P o a W K Q else E :=
  step_append_cells W1 hT s x hgd ho hown hs hx hr hl h1 (by omega) hbytes fun A' c' δ h2 h3 => by
    rw [Nat.zero_add, List.nil_append] at h2
    rw [Nat.zero_add]
    exact h A' c' δ h2 h3

/-- k numbers from lo on. -/
def upto (lo : Int) (k : Nat) : List Int := (List.range k).map fun (j : Nat) => lo + j
theorem upto_succ (lo : Int) (k : Nat) : upto lo (k + 1) = upto lo k ++ [lo + k] := by simp [upto, List.range_succ]
/-- All lists of grips that begin with f, m more to come. -/
def gripsF : Nat → List Sp → List Int → List (List Int)
  | 0, _, f => [f]
  | m + 1, gs, f => (upto (nth gs f.length).lo ((nth gs f.length).hi + 1 - (nth gs f.length).lo).toNat).flatMap fun g => gripsF m gs (f ++ [g])
theorem gripsF_len {gs : List Sp} (h : okSps gs = true) : ∀ (m : Nat) (f : List Int), f.length + m = gs.length → (gripsF m gs f).length ≤ 10 ^ m ∧ 0 < (gripsF m gs f).length := by
  intro m
  induction m with
  | zero => intro f _; simp [gripsF]
  | succ m ih =>
    intro f hf
    have hs := (List.all_eq_true.1 h) _ (nth_mem gs (k := f.length) (by omega))
    simp only [okSp, decide_eq_true_eq] at hs
    have key : ∀ k : Nat, (((upto (nth gs f.length).lo k).flatMap fun g => gripsF m gs (f ++ [g])).length ≤ k * 10 ^ m) ∧ (0 < k → 0 < ((upto (nth gs f.length).lo k).flatMap fun g => gripsF m gs (f ++ [g])).length) := by
      intro k
      induction k with
      | zero => simp [upto]
      | succ k ihk =>
        rw [upto_succ, List.flatMap_append, List.length_append]
        have := ih (f ++ [(nth gs f.length).lo + k]) (by simp; omega)
        simp only [List.flatMap_cons, List.flatMap_nil, List.append_nil]
        rw [Nat.succ_mul]
        omega
    unfold gripsF
    have h1 := key ((nth gs f.length).hi + 1 - (nth gs f.length).lo).toNat
    refine ⟨Nat.le_trans h1.1 ?_, h1.2 (by omega)⟩
    rw [Nat.pow_succ, Nat.mul_comm]
    exact Nat.mul_le_mul_left _ (by omega)

/-- What 'grips' returns. -/
def GripsPost (w : World) (L : List (List Int)) (e : Ending) (w' : World) : Prop := ∃ (A : Option Addr) (c : Nat) (δ : World), e = .returned (.slice A L.length c) ∧ w' = lat w δ ∧ SlS 3 encI (lat w δ) A c L

end Go.Proofs.Ytnddiloeikaleaa
namespace Go.Proofs.Ytnddiloeikaleaa
open Go.RowKit
open An

instance : Inhabited Tru := ⟨⟨0, 0, []⟩⟩
/-- Cells that are truths. -/
def TSubs (w : World) (cs : List Value) (L : List Tru) : Prop :=
  cs.length = L.length * 3 ∧ ∀ i, i < L.length → cs[i * 3]? = some (.int .i64 (nth L i).wind) ∧ cs[i * 3 + 1]? = some (.int .i64 (nth L i).cur) ∧ ∃ A' c', cs[i * 3 + 2]? = some (.slice A' (nth L i).grips.length c') ∧ Slt 3 encI w.heap.size w A' c' (nth L i).grips
section
variable {w w' : World} {cs : List Value} {L : List Tru}
theorem TSubs.nil : TSubs w [] [] := ⟨rfl, fun i h => absurd h (by simp)⟩
theorem TSubs.up (h : TSubs w cs L) [hg : Grew w.heap.size w w'] [hs : Le w.heap.size w'] : TSubs w' cs L :=
  ⟨h.1, fun i hi => by obtain ⟨a, b, A', c', e, s⟩ := h.2 i hi; exact ⟨a, b, A', c', e, s.wide⟩⟩
theorem TSubs.grown (h : TSubs w cs L) {v : Value} {base : Nat} {e : TypeId} {size n : Nat} {ys : List Value} (hown : w.ownsRow base e size v n ys) (hg : w.grownBy w' v.ownBlock) (hne : e ≠ 3) : TSubs w' cs L :=
  ⟨h.1, fun i hi => by obtain ⟨a, b, A', c', e', s⟩ := h.2 i hi; exact ⟨a, b, A', c', e', s.grown hown hg hne⟩⟩
theorem nth_append_left {α : Type} [Inhabited α] (xs ys : List α) {k : Nat} (h : k < xs.length) : nth (xs ++ ys) k = nth xs k := by
  rw [nth_get _ (by simp; omega), nth_get _ h, List.getElem_append_left h]
theorem nth_append_last {α : Type} [Inhabited α] (xs : List α) (x : α) : nth (xs ++ [x]) xs.length = x := by
  rw [nth_get _ (by simp), List.getElem_append_right (by omega)]; simp
theorem TSubs.snoc (h : TSubs w cs L) {t : Tru} {A' : Option Addr} {c' : Nat} (hs : Slt 3 encI w.heap.size w A' c' t.grips) : TSubs w (cs ++ [.int .i64 t.wind, .int .i64 t.cur, .slice A' t.grips.length c']) (L ++ [t]) := by
  refine ⟨by simp [h.1]; omega, fun i hi => ?_⟩
  rw [List.length_append, List.length_singleton] at hi
  by_cases hlt : i < L.length
  · obtain ⟨a, b, A'', c'', e, s⟩ := h.2 i hlt
    rw [nth_append_left _ _ hlt]
    refine ⟨?_, ?_, A'', c'', ?_, s⟩
    · rw [List.getElem?_append_left (by rw [h.1]; omega)]; exact a
    · rw [List.getElem?_append_left (by rw [h.1]; omega)]; exact b
    · rw [List.getElem?_append_left (by rw [h.1]; omega)]; exact e
  · obtain rfl : i = L.length := by omega
    rw [nth_append_last]
    refine ⟨?_, ?_, A', c', ?_, hs⟩
    · rw [List.getElem?_append_right (by rw [h.1]; omega), h.1, show L.length * 3 - L.length * 3 = 0 by omega]; rfl
    · rw [List.getElem?_append_right (by rw [h.1]; omega), h.1, show L.length * 3 + 1 - L.length * 3 = 1 by omega]; rfl
    · rw [List.getElem?_append_right (by rw [h.1]; omega), h.1, show L.length * 3 + 2 - L.length * 3 = 2 by omega]; rfl
end
/-- A slice of truths. -/
def SlTru (w : World) (A : Option Addr) (c : Nat) (L : List Tru) : Prop := L.length ≤ c ∧ c ≤ 9223372036854775807 ∧ ∃ cs, Cells w w.heap.size A cs ∧ TSubs w cs L
section
variable {w w' : World} {A : Option Addr} {c : Nat} {L : List Tru}
theorem SlTru.up (h : SlTru w A c L) [hg : Grew w.heap.size w w'] [hs : Le w.heap.size w'] : SlTru w' A c L := by
  obtain ⟨h1, h2, cs, h3, h4⟩ := h
  exact ⟨h1, h2, cs, h3.keep hs.out (cells_same hg.out), h4.up⟩
theorem SlTru.at_ (h : SlTru w A c L) {k : Nat} (hk : k < L.length) : ∃ b o A' c', A = some ⟨b, o, none⟩ ∧ b < w.heap.size ∧ w.cell? ⟨b, o + k * 3, none⟩ = some (.int .i64 (nth L k).wind) ∧ w.cell? ⟨b, o + k * 3 + 1, none⟩ = some (.int .i64 (nth L k).cur) ∧
    w.cell? ⟨b, o + k * 3 + 2, none⟩ = some (.slice A' (nth L k).grips.length c') ∧ Sl encI w.heap.size w A' c' (nth L k).grips := by
  obtain ⟨h1, h2, cs, h3, h4, h5⟩ := h
  obtain ⟨a, b', A', c', e, s⟩ := h5 k hk
  obtain ⟨b, o, hA, hb, hc⟩ := h3 (by rintro rfl; simp at e)
  exact ⟨b, o, A', c', hA, hb, hc _ _ a, by have := hc _ _ b'; rwa [← Nat.add_assoc] at this, by have := hc _ _ e; rwa [← Nat.add_assoc] at this, s.plain⟩
theorem SlTru.of_own {base : Nat} {e : TypeId} {n : Nat} {cs : List Value} (h : w.ownsRow base e 3 (.slice A n c) n cs) (hs : TSubs w cs L) (hn : L.length = n) : SlTru w A c L := by
  refine ⟨?_, ?_, cs, Cells.of_own h, hs⟩
  · rcases h.2 with ⟨hv, h0⟩ | ⟨g, cap, cur, hv, _, hh, hnc, _⟩
    · omega
    · injection hv with _ _ hc; omega
  · rcases h.2 with ⟨hv, h0⟩ | ⟨g, cap, cur, hv, _, hh, hnc, hm, _⟩
    · injection hv with _ _ hc; omega
    · injection hv with _ _ hc; unfold maxLen at hm; omega
end

/-- All truths of a net. -/
def gripsV (n : Net) : List (List Int) := gripsF n.grips.length n.grips []
def truI (w c : Int) (ls : List (List Int)) : List Tru := ls.map fun l => ⟨w, c, l⟩
def truC (w : Int) (cs : List Int) (ls : List (List Int)) : List Tru := cs.flatMap fun c => truI w c ls
def truW (ws cs : List Int) (ls : List (List Int)) : List Tru := ws.flatMap fun w => truC w cs ls
def spanL (s : Sp) : List Int := upto s.lo (s.hi + 1 - s.lo).toNat
def truthsV (n : Net) : List Tru := truW (spanL n.wind) (spanL n.cur) (gripsV n)

theorem SlS.all_ {α : Type} [Inhabited α] {enc : α → List Value} {T : TypeId} {w : World} {A : Option Addr} {c : Nat} {xss : List (List α)} (h : SlS T enc w A c xss) (h0 : 0 < xss.length) : ∃ b o, A = some ⟨b, o, none⟩ ∧ b < w.heap.size ∧ ∀ k, k < xss.length → ∃ A' c', w.cell? ⟨b, o + k, none⟩ = some (.slice A' (nth xss k).length c') ∧ Slt T enc w.heap.size w A' c' (nth xss k) := by
  obtain ⟨b, o, _, _, hA, hb, _⟩ := h.at_ h0
  refine ⟨b, o, hA, hb, fun k hk => ?_⟩
  obtain ⟨b', o', A', c', hA', _, e, s⟩ := h.at_ hk
  rw [hA] at hA'
  injection hA' with q
  injection q with q1 q2
  subst q1 q2
  rw [nth_get _ hk]
  exact ⟨A', c', e, s⟩
theorem truI_len (w c : Int) (ls : List (List Int)) : (truI w c ls).length = ls.length := by simp [truI]
theorem truI_snoc (w c : Int) (ls : List (List Int)) {k : Nat} (h : k < ls.length) : truI w c (ls.take (k + 1)) = truI w c (ls.take k) ++ [⟨w, c, nth ls k⟩] := by
  rw [take_snoc ls h]; simp [truI]
theorem truC_snoc (w lo : Int) (k : Nat) (ls : List (List Int)) : truC w (upto lo (k + 1)) ls = truC w (upto lo k) ls ++ truI w (lo + k) ls := by
  rw [upto_succ]; simp [truC]
theorem truC_len (w lo : Int) (k : Nat) (ls : List (List Int)) : (truC w (upto lo k) ls).length = k * ls.length := by
  induction k with
  | zero => simp [truC, upto]
  | succ k ih => rw [truC_snoc, List.length_append, ih, truI_len, Nat.succ_mul]
theorem truW_snoc (lo clo : Int) (k ck : Nat) (ls : List (List Int)) : truW (upto lo (k + 1)) (upto clo ck) ls = truW (upto lo k) (upto clo ck) ls ++ truC (lo + k) (upto clo ck) ls := by
  rw [upto_succ lo k]; simp [truW]
theorem truW_len (lo clo : Int) (k ck : Nat) (ls : List (List Int)) : (truW (upto lo k) (upto clo ck) ls).length = k * (ck * ls.length) := by
  induction k with
  | zero => simp [truW, upto]
  | succ k ih => rw [truW_snoc, List.length_append, ih, truC_len, Nat.succ_mul]

/-- What 'Truths' returns. -/
def TruthsPost (w : World) (n : Net) (e : Ending) (w' : World) : Prop := ∃ (A : Option Addr) (c : Nat) (δ : World), e = .returned (.slice A (truthsV n).length c) ∧ w' = lat w δ ∧ SlTru (lat w δ) A c (truthsV n)

end Go.Proofs.Ytnddiloeikaleaa
namespace Go.Proofs.Ytnddiloeikaleaa
open Go.RowKit
open An

theorem mem_upto {lo x : Int} {k : Nat} : x ∈ upto lo k ↔ lo ≤ x ∧ x < lo + k := by
  unfold upto
  simp only [List.mem_map, List.mem_range]
  constructor
  · rintro ⟨j, hj, rfl⟩; omega
  · intro h; exact ⟨(x - lo).toNat, by omega, by omega⟩
theorem mem_spanL {s : Sp} {x : Int} : x ∈ spanL s ↔ inSp s x = true := by
  unfold spanL inSp
  rw [mem_upto, inB_iff]; omega
theorem mem_gripsF {gs : List Sp} : ∀ (m : Nat) (f l : List Int), f.length + m = gs.length → (l ∈ gripsF m gs f ↔ l.length = gs.length ∧ l.take f.length = f ∧ ∀ i, f.length ≤ i → i < gs.length → inSp (nth gs i) (nth l i) = true) := by
  intro m
  induction m with
  | zero =>
    intro f l hf
    unfold gripsF
    rw [List.mem_singleton]
    constructor
    · rintro rfl; exact ⟨by omega, List.take_length, fun i h1 h2 => by omega⟩
    · rintro ⟨h1, h2, _⟩
      rw [List.take_of_length_le (by omega)] at h2
      exact h2
  | succ m ih =>
    intro f l hf
    unfold gripsF
    rw [List.mem_flatMap]
    constructor
    · rintro ⟨g, hg, hl⟩
      rw [ih _ _ (by simp; omega)] at hl
      obtain ⟨h1, h2, h3⟩ := hl
      rw [mem_upto] at hg
      have hlen : f.length < l.length := by omega
      rw [List.length_append, List.length_singleton] at h2 h3
      rw [take_snoc l hlen] at h2
      have h4 := List.append_inj h2 (by rw [List.length_take]; omega)
      refine ⟨h1, h4.1, fun i hi1 hi2 => ?_⟩
      by_cases hif : i = f.length
      · subst hif
        have h5 := h4.2
        simp only [List.cons.injEq, and_true] at h5
        rw [h5, inSp, inB_iff]; omega
      · exact h3 i (by omega) hi2
    · rintro ⟨h1, h2, h3⟩
      have hlen : f.length < l.length := by omega
      refine ⟨nth l f.length, ?_, ?_⟩
      · have := h3 f.length (Nat.le_refl _) (by omega)
        rw [inSp, inB_iff] at this
        rw [mem_upto]; omega
      · rw [ih _ _ (by simp; omega)]
        refine ⟨h1, ?_, fun i hi1 hi2 => h3 i (by simp at hi1; omega) hi2⟩
        rw [List.length_append, List.length_singleton, take_snoc l hlen, h2]
theorem mem_truthsV {n : Net} {t : Tru} : t ∈ truthsV n ↔ truB n t = true := by
  unfold truthsV truW truC truI
  simp only [List.mem_flatMap, List.mem_map, mem_spanL]
  have hgr : ∀ l, l ∈ gripsV n ↔ l.length = n.grips.length ∧ gripsIn n.grips l l.length = true := by
    intro l
    unfold gripsV
    rw [mem_gripsF _ _ _ (by simp)]
    simp only [List.length_nil, List.take_zero, true_and, Nat.zero_le, forall_const]
    constructor
    · rintro ⟨h1, h2⟩
      refine ⟨h1, ?_⟩
      unfold gripsIn
      rw [List.all_eq_true]
      intro i hi
      exact h2 i (by rw [← h1]; simpa using hi)
    · rintro ⟨h1, h2⟩
      exact ⟨h1, fun i hi => gripsIn_le h2 (by omega)⟩
  constructor
  · rintro ⟨w, hw, c, hc, l, hl, rfl⟩
    rw [hgr] at hl
    simp only [truB, hw, hc, hl.1, decide_true, Bool.and_self]
    rw [← hl.1, hl.2]; rfl
  · intro h
    simp only [truB, Bool.and_eq_true, decide_eq_true_eq] at h
    exact ⟨t.wind, h.1.1.1, t.cur, h.1.1.2, t.grips, (hgr _).2 ⟨h.1.2, h.2⟩, rfl⟩

/-- Nothing drags in a truth. -/
def calm (n : Net) (t : Tru) : Bool := decide ((moreV n t [] n.ancs.length).length = 0)
def quietTo (n : Net) (k : Nat) : Nat := (((truthsV n).take k).filter (calm n)).length
def quietN (n : Net) : Nat := ((truthsV n).filter (calm n)).length

theorem truthsV_len {n : Net} (hv : valid n = true) : (truthsV n).length ≤ 441000 := by
  have v1 := (valid_iff.1 hv).1
  have v2 := (valid_iff.1 hv).2.1
  have v3 := (valid_iff.1 hv).2.2.1
  have v6 := (valid_iff.1 hv).2.2.2.2.2.1
  have hgl := (gripsF_len v6 n.grips.length [] (by simp)).1
  have hpw : 10 ^ n.grips.length ≤ 10 ^ 3 := Nat.pow_le_pow_right (by omega) v3
  simp only [okSp, decide_eq_true_eq] at v1 v2
  unfold truthsV spanL
  rw [truW_len]
  have h1 : (gripsV n).length ≤ 1000 := by unfold gripsV; omega
  have q1 := Nat.mul_le_mul (show (n.cur.hi + 1 - n.cur.lo).toNat ≤ 21 by omega) h1
  have q2 := Nat.mul_le_mul (show (n.wind.hi + 1 - n.wind.lo).toNat ≤ 21 by omega) q1
  omega

end Go.Proofs.Ytnddiloeikaleaa
namespace Go.Proofs.Ytnddiloeikaleaa
open Go.RowKit
open An

theorem slSp : SlT Try.prog 24 23 (.agg #[.int .i64 0, .int .i64 0]) 2 16 := SlT.mk Try.underlying24 (by kernel_rfl) rfl (by omega)
theorem slAn : SlT Try.prog 25 51 (.agg #[.int .i64 0, .int .i64 0]) 2 16 := SlT.mk Try.underlying25 (by kernel_rfl) rfl (by omega)
theorem slWa : SlT Try.prog 26 86 (.agg #[.int .i64 0, .int .i64 0, .int .i64 0, .int .i64 0, .int .i64 0]) 5 40 := SlT.mk Try.underlying26 (by kernel_rfl) rfl (by omega)

theorem len_enc {α : Type} (enc : α → List Value) (size : Nat) (h : ∀ x, (enc x).length = size) (xs : List α) : (xs.flatMap enc).length = xs.length * size := by
  induction xs with
  | nil => simp
  | cons x xs ih => rw [List.flatMap_cons, List.length_append, ih, h, List.length_cons, Nat.succ_mul]; omega
theorem one_enc {α : Type} (enc : α → List Value) (h : ∀ x, ∀ u ∈ enc x, u.oneCell' = true) (xs : List α) : ∀ u ∈ xs.flatMap enc, u.oneCell' = true := by
  intro u hu
  rw [List.mem_flatMap] at hu
  obtain ⟨x, _, hx⟩ := hu
  exact h x u hx
theorem one_sp : ∀ x, ∀ u ∈ encSp x, u.oneCell' = true := by intro x u hu; simp [encSp] at hu; rcases hu with rfl | rfl <;> rfl
theorem one_anc : ∀ x, ∀ u ∈ encAnc x, u.oneCell' = true := by intro x u hu; simp [encAnc] at hu; rcases hu with rfl | rfl <;> rfl
theorem one_wal : ∀ x, ∀ u ∈ encWal x, u.oneCell' = true := by intro x u hu; simp [encWal] at hu; rcases hu with rfl | rfl | rfl | rfl | rfl <;> rfl

theorem wpList_append_lit {P : Program} (W1 : World) {W : World} {ops : Array Oper} {rest : List Oper} {o : Oper} {a : Act} {Q : Exit → Act → World → Prop} {t e : TypeId} {z : Value} {size bytes : Nat} (hT : SlT P t e z size bytes)
    (s x : Operand) (hgd : o.guard = none) (ho : o.op = .call { callee := .builtin .append, args := #[s, x], argTypes := #[t, t] })
    {v : Value} (hown : W.ownsRow W1.heap.size e size v 0 []) (hs : a.eval s = v)
    {B m c : Nat} {A : Option Addr} {news : List Value} (hx : a.eval x = .slice A m c) (hr : Cells W B A news) (hl : news.length = m * size) (h1 : ∀ u ∈ news, u.oneCell' = true)
    (h63 : m ≤ 1000000) (hbytes : bytes ≤ 1000) [hbase : Le W1.heap.size W]
    (h : ∀ A' c' δ, (latB W1.heap.size W δ).ownsRow W1.heap.size e size (.slice A' m c') m news → W.grownBy (latB W1.heap.size W δ) v.ownBlock → wpList P ops Q rest (a.put o.dst (.slice A' m c')) (latB W1.heap.size W δ)) : wpList P ops Q (o :: rest) a W :=
  wpList_append_cells W1 hT s x hgd ho hown hs hx hr hl h1 (by omega) hbytes fun A' c' δ h2 h3 => by
    rw [Nat.zero_add, List.nil_append] at h2
    rw [Nat.zero_add]
    exact h A' c' δ h2 h3

theorem ownsRow_past {W W' : World} {o : Obj} {base : Nat} {e : TypeId} {size n g k c : Nat} {v : Value} {xs : List Value} (h : W.ownsRow base e size v n xs) (hg : g = W.heap.size) (hgr : (W.alloc o).grownBy W' (Value.slice (some ⟨g, 0, none⟩) k c).ownBlock) : W'.ownsRow base e size v n xs :=
  (h.alloc o).kept hgr (.inr fun he => by
    have := (h.lt g (by rw [he]; rfl)).2
    omega)
theorem wpList_name_alloc {P : Program} {ops : Array Oper} {Q : Exit → Act → World → Prop} {rest : List Oper} {a : Act} {W0 : World} {o : Obj} (h : ∀ W, Hid (W = W0) → wpList P ops Q rest a (W.alloc o)) : wpList P ops Q rest a (W0.alloc o) := h W0 rfl

/-- A net whose rows are the caller's own: each lies whole in a block from base on. -/
def NetOwn (base : Nat) (w : World) (r : NetR) (n : Net) : Prop :=
  w.ownsRow base 23 2 (.slice r.gA n.grips.length r.gc) n.grips.length (n.grips.flatMap encSp) ∧
  w.ownsRow base 51 2 (.slice r.aA n.ancs.length r.ac) n.ancs.length (n.ancs.flatMap encAnc) ∧
  w.ownsRow base 86 5 (.slice r.wA n.wals.length r.wc) n.wals.length (n.wals.flatMap encWal)
section
variable {base : Nat} {w : World} {r : NetR} {n : Net}
theorem NetOwn.is (h : NetOwn base w r n) : NetIs w.heap.size w r n := ⟨Sl.of_own h.1, Sl.of_own h.2.1, Sl.of_own h.2.2⟩
theorem owns_mono {base base' : Nat} {w : World} {e : TypeId} {size n : Nat} {v : Value} {xs : List Value} (h : w.ownsRow base e size v n xs) (hb : base' ≤ base) : w.ownsRow base' e size v n xs :=
  ⟨h.1, h.2.imp id fun ⟨g, cap, cur, h1, h2, h3⟩ => ⟨g, cap, cur, h1, Nat.le_trans hb h2, h3⟩⟩
theorem NetOwn.mono (h : NetOwn base w r n) {base' : Nat} (hb : base' ≤ base) : NetOwn base' w r n := ⟨owns_mono h.1 hb, owns_mono h.2.1 hb, owns_mono h.2.2 hb⟩
theorem NetOwn.set (h : NetOwn base w r n) {b i : Nat} (hb : b < base) (u : Value) : NetOwn base (w.setCell ⟨b, i, none⟩ u) r n :=
  ⟨ownsRow_setCell_below h.1 (a := ⟨b, i, none⟩) hb u, ownsRow_setCell_below h.2.1 (a := ⟨b, i, none⟩) hb u, ownsRow_setCell_below h.2.2 (a := ⟨b, i, none⟩) hb u⟩
theorem ret_own {W : World} [Grew w.heap.size w W] [Le w.heap.size W] (h : NetOwn base W r n) : ∃ (r' : NetR) (δ : World), Ending.returned (netV r n) = .returned (netV r' n) ∧ W = lat w δ ∧ NetOwn base (lat w δ) r' n := ⟨r, W, rfl, lat_def, by rw [← lat_def (w := w) (W := W)]; exact h⟩
theorem NetOwn.alloc (h : NetOwn base w r n) (o : Obj) : NetOwn base (w.alloc o) r n := ⟨h.1.alloc o, h.2.1.alloc o, h.2.2.alloc o⟩
theorem NetOwn.up (h : NetOwn base w r n) {W : World} [hg : Grew w.heap.size w W] : NetOwn base W r n := ⟨owns_up h.1, owns_up h.2.1, owns_up h.2.2⟩
end

set_option maxRecDepth 100000 in
set_option maxHeartbeats 4000000 in
theorem copy_c (r : NetR) (n : Net) (B : Nat) (w : World) [hB : Le B w] (h : NetIs B w r n) (q1 : n.grips.length ≤ 1000) (q2 : n.ancs.length ≤ 1000) (q3 : n.wals.length ≤ 1000) :
    Calls Try.prog 25 #[netV r n] w fun e w' => ∃ (r' : NetR) (δ : World), e = .returned (netV r' n) ∧ w' = lat w δ ∧ NetOwn w.heap.size (lat w δ) r' n := by
  go_enter Try.func25, Try.ntmps25
  have H := Lib.hid h
  clear h
  go_upto_region 2 with fail
  refine wp_name fun W1 hW1 => ?_
  have iw1 : Le B W1 := by rw [hW1.out]; infer_instance
  have iw2 : Grew B w W1 := by rw [hW1.out]; infer_instance
  have iw3 : Le w.heap.size W1 := by rw [hW1.out]; infer_instance
  have iw4 : Grew w.heap.size w W1 := by rw [hW1.out]; infer_instance
  have iw5 : Lt (w.heap.size) W1 := by rw [hW1.out]; infer_instance
  have iw6 : Lt (w.heap.size + 1) W1 := by rw [hW1.out]; infer_instance
  have iw7 : Lt (w.heap.size + 1 + 1) W1 := by rw [hW1.out]; infer_instance
  have cw8 : W1.cell? ⟨w.heap.size, 0, none⟩ = some (.int .i64 n.wind.lo) := by rw [hW1.out]; go_simp
  have cw9 : W1.cell? ⟨w.heap.size, 1, none⟩ = some (.int .i64 n.wind.hi) := by rw [hW1.out]; go_simp
  have cw10 : W1.cell? ⟨w.heap.size, 2, none⟩ = some (.int .i64 n.cur.lo) := by rw [hW1.out]; go_simp
  have cw11 : W1.cell? ⟨w.heap.size, 3, none⟩ = some (.int .i64 n.cur.hi) := by rw [hW1.out]; go_simp
  have cw12 : W1.cell? ⟨w.heap.size, 4, none⟩ = some (.slice r.gA n.grips.length r.gc) := by rw [hW1.out]; go_simp
  have cw13 : W1.cell? ⟨w.heap.size, 5, none⟩ = some (.slice r.aA n.ancs.length r.ac) := by rw [hW1.out]; go_simp
  have cw14 : W1.cell? ⟨w.heap.size, 6, none⟩ = some (.slice r.wA n.wals.length r.wc) := by rw [hW1.out]; go_simp
  have cw15 : W1.cell? ⟨w.heap.size + 1, 0, none⟩ = some (.int .i64 0) := by rw [hW1.out]; go_simp
  have cw16 : W1.cell? ⟨w.heap.size + 1, 1, none⟩ = some (.int .i64 0) := by rw [hW1.out]; go_simp
  have cw17 : W1.cell? ⟨w.heap.size + 1, 2, none⟩ = some (.int .i64 0) := by rw [hW1.out]; go_simp
  have cw18 : W1.cell? ⟨w.heap.size + 1, 3, none⟩ = some (.int .i64 0) := by rw [hW1.out]; go_simp
  have cw19 : W1.cell? ⟨w.heap.size + 1, 4, none⟩ = some (.slice none 0 0) := by rw [hW1.out]; go_simp
  have cw20 : W1.cell? ⟨w.heap.size + 1, 5, none⟩ = some (.slice none 0 0) := by rw [hW1.out]; go_simp
  have cw21 : W1.cell? ⟨w.heap.size + 1, 6, none⟩ = some (.slice none 0 0) := by rw [hW1.out]; go_simp
  have fw22 : W1.frozen? ⟨w.heap.size + 1, 0, none⟩ = false := by rw [hW1.out]; go_simp
  have fw23 : W1.frozen? ⟨w.heap.size + 1, 1, none⟩ = false := by rw [hW1.out]; go_simp
  have fw24 : W1.frozen? ⟨w.heap.size + 1, 2, none⟩ = false := by rw [hW1.out]; go_simp
  have fw25 : W1.frozen? ⟨w.heap.size + 1, 3, none⟩ = false := by rw [hW1.out]; go_simp
  have fw26 : W1.frozen? ⟨w.heap.size + 1, 4, none⟩ = false := by rw [hW1.out]; go_simp
  have fw27 : W1.frozen? ⟨w.heap.size + 1, 5, none⟩ = false := by rw [hW1.out]; go_simp
  have fw28 : W1.frozen? ⟨w.heap.size + 1, 6, none⟩ = false := by rw [hW1.out]; go_simp
  have cw29 : W1.cell? ⟨w.heap.size + 1 + 1, 0, none⟩ = some (.int .i64 n.wind.lo) := by rw [hW1.out]; go_simp
  have cw30 : W1.cell? ⟨w.heap.size + 1 + 1, 1, none⟩ = some (.int .i64 n.wind.hi) := by rw [hW1.out]; go_simp
  have cw31 : W1.cell? ⟨w.heap.size + 1 + 1, 2, none⟩ = some (.int .i64 n.cur.lo) := by rw [hW1.out]; go_simp
  have cw32 : W1.cell? ⟨w.heap.size + 1 + 1, 3, none⟩ = some (.int .i64 n.cur.hi) := by rw [hW1.out]; go_simp
  have cw33 : W1.cell? ⟨w.heap.size + 1 + 1, 4, none⟩ = some (.slice r.gA n.grips.length r.gc) := by rw [hW1.out]; go_simp
  have cw34 : W1.cell? ⟨w.heap.size + 1 + 1, 5, none⟩ = some (.slice r.aA n.ancs.length r.ac) := by rw [hW1.out]; go_simp
  have cw35 : W1.cell? ⟨w.heap.size + 1 + 1, 6, none⟩ = some (.slice r.wA n.wals.length r.wc) := by rw [hW1.out]; go_simp
  have fw36 : W1.frozen? ⟨w.heap.size + 1 + 1, 0, none⟩ = false := by rw [hW1.out]; go_simp
  have fw37 : W1.frozen? ⟨w.heap.size + 1 + 1, 1, none⟩ = false := by rw [hW1.out]; go_simp
  have fw38 : W1.frozen? ⟨w.heap.size + 1 + 1, 2, none⟩ = false := by rw [hW1.out]; go_simp
  have fw39 : W1.frozen? ⟨w.heap.size + 1 + 1, 3, none⟩ = false := by rw [hW1.out]; go_simp
  have fw40 : W1.frozen? ⟨w.heap.size + 1 + 1, 4, none⟩ = false := by rw [hW1.out]; go_simp
  have fw41 : W1.frozen? ⟨w.heap.size + 1 + 1, 5, none⟩ = false := by rw [hW1.out]; go_simp
  have fw42 : W1.frozen? ⟨w.heap.size + 1 + 1, 6, none⟩ = false := by rw [hW1.out]; go_simp
  go_wp2_with (first
    | (at_builtin; (refine wpList_append_lit W1 slSp (.tmp 5) (.tmp 7) rfl rfl (v := .slice (some ⟨_, 0, none⟩) 0 0) (own_lit0 (by go_simp) (by go_simp)) rfl (B := B) (A := r.gA) (m := n.grips.length) (c := r.gc) (news := n.grips.flatMap encSp) rfl (H.out.up.1.2.2) (len_enc encSp 2 (fun _ => rfl) _) (one_enc encSp one_sp _) (by omega) (by omega) ?_); intro A1 c1 δ1 own1 hg1)
    | (at_builtin; (refine wpList_append_lit W1 slAn (.tmp 10) (.tmp 12) rfl rfl (v := .slice (some ⟨_, 0, none⟩) 0 0) (own_lit0 (by go_simp) (by go_simp)) rfl (B := B) (A := r.aA) (m := n.ancs.length) (c := r.ac) (news := n.ancs.flatMap encAnc) rfl (H.out.up.2.1.2.2) (len_enc encAnc 2 (fun _ => rfl) _) (one_enc encAnc one_anc _) (by omega) (by omega) ?_); intro A2 c2 δ2 own2 hg2; have p1 := ownsRow_past (ownsRow_setCell_below own1 (a := ⟨_, _, _⟩) iw7.out _) (by go_simp) hg2)
    | (at_builtin; (refine wpList_append_lit W1 slWa (.tmp 15) (.tmp 17) rfl rfl (v := .slice (some ⟨_, 0, none⟩) 0 0) (own_lit0 (by go_simp) (by go_simp)) rfl (B := B) (A := r.wA) (m := n.wals.length) (c := r.wc) (news := n.wals.flatMap encWal) rfl (H.out.up.2.2.2.2) (len_enc encWal 5 (fun _ => rfl) _) (one_enc encWal one_wal _) (by omega) (by omega) ?_); intro A3 c3 δ3 own3 hg3; have p2 := ownsRow_past (ownsRow_setCell_below own2 (a := ⟨_, _, _⟩) iw7.out _) (by go_simp) hg3; have p1' := ownsRow_past (ownsRow_setCell_below p1 (a := ⟨_, _, _⟩) iw7.out _) (by go_simp) hg3))
  refine bodyPost_ret (v := netV ⟨A1, c1, A2, c2, A3, c3⟩ n) ?_ rfl ?_
  · simp only [results, Try.results25]
    go_simp
  · refine ⟨⟨A1, c1, A2, c2, A3, c3⟩, _, rfl, lat_def, ?_⟩
    rw [← lat_def (w := w)]
    refine NetOwn.mono (base := W1.heap.size) ?_ iw3.out
    iterate 7 (refine NetOwn.set ?_ iw6.out _)
    refine NetOwn.set ?_ iw7.out _
    exact ⟨p1', p2, own3⟩

end Go.Proofs.Ytnddiloeikaleaa
namespace Go.Proofs.Ytnddiloeikaleaa
open Go.RowKit
open An

/-- Some truth of the net in this wind is not calm; no truth is. -/
def hitWR (n : Net) (x : Nat) : Bool := decide (quietN (inW n x) < (truthsV (inW n x)).length)
def hitSR (n : Net) (x : Nat) : Bool := decide (quietN (inW n x) = 0)

theorem firstHit_le (f : Nat → Bool) (m : Nat) : firstHit f m 0 ≤ m := by
  have := (firstHit_spec f m 0).2.1; omega

end Go.Proofs.Ytnddiloeikaleaa
namespace Go.Proofs.Ytnddiloeikaleaa
namespace An

def calmP (n : Net) (t : Tru) : Prop := ∀ i, i < n.ancs.length → 0 ≤ spare n t i (fun _ => false)

theorem calm_iff {n : Net} {t : Tru} : calm n t = true ↔ calmP n t := by
  unfold calm moreV calmP
  rw [decide_eq_true_eq, List.length_eq_zero_iff]
  constructor
  · intro h i hi
    by_cases hs : 0 ≤ spare n t i (fun _ => false)
    · exact hs
    · exfalso
      have : (i : Int) ∈ rangeL n.ancs.length (stepB n t (inL [])) := by
        rw [mem_rangeL]
        refine ⟨hi, ?_⟩
        have he : inL [] = fun _ => false := by funext k; simp [inL, isIn]
        rw [he]
        unfold stepB
        simp [hi]; omega
      rw [h] at this
      simp at this
  · intro h
    have he : inL [] = fun _ => false := by funext k; simp [inL, isIn]
    rw [he]
    unfold rangeL
    rw [List.map_eq_nil_iff, List.filter_eq_nil_iff]
    intro i hi hs
    have := h i (by simpa using hi)
    unfold stepB at hs
    simp at hs
    omega
theorem step0_iff {n : Net} {t : Tru} : stepM n t 0 = 0 ↔ calmP n t := by
  unfold calmP
  constructor
  · intro h i hi
    have := stepM_bit n t 0 i
    rw [h] at this
    unfold stepB at this
    simp at this
    exact this hi
  · intro h
    apply Nat.eq_of_testBit_eq
    intro i
    rw [stepM_bit]
    unfold stepB
    simp
    exact h i

/-- A truth t' that is harder than t: more wind and current, less grip. -/
def Harder (n : Net) (t t' : Tru) : Prop := t.wind ≤ t'.wind ∧ t.cur ≤ t'.cur ∧ ∀ b, b < n.grips.length → nth t'.grips b ≤ nth t.grips b
theorem ld_harder {n : Net} {t t' : Tru} (hv : valid n = true) (h : Harder n t t') {k : Nat} (hk : k < n.wals.length) : ld n t k ≤ ld n t' k := by
  have hx := okWal_nth hv hk
  simp only [okWal, decide_eq_true_eq] at hx
  have h1 := Int.mul_le_mul_of_nonneg_left h.1 hx.1
  have h2 := Int.mul_le_mul_of_nonneg_left h.2.1 hx.2.2.1
  unfold ld ldW
  omega
theorem side_harder {n : Net} {t t' : Tru} (hv : valid n = true) (h : Harder n t t') {d : Nat → Bool} {k o : Nat} (hk : k < n.wals.length) : side n t d k o ≤ side n t' d k o := by
  have := ld_harder hv h hk
  unfold side; split <;> omega
theorem bears_harder {n : Net} {t t' : Tru} (hv : valid n = true) (h : Harder n t t') {d : Nat → Bool} {i : Nat} (hi : i < n.ancs.length) : bears n t i d ≤ bears n t' i d := by
  have hw := (valid_iff.1 hv).2.2.2.2.1
  unfold bears
  by_cases h1 : 0 < i
  · have a := side_harder hv h (d := d) (k := i - 1) (o := i - 1) (by omega)
    by_cases h2 : i < n.wals.length
    · have b := side_harder hv h (d := d) (k := i) (o := i + 1) h2
      simp only [h1, h2, if_true]; omega
    · simp only [h1, h2, if_true, if_false]; omega
  · by_cases h2 : i < n.wals.length
    · have b := side_harder hv h (d := d) (k := i) (o := i + 1) h2
      simp only [h1, h2, if_true, if_false]; omega
    · simp only [h1, h2, if_false]; omega
theorem can_harder {n : Net} {t t' : Tru} (hv : valid n = true) (h : Harder n t t') {i : Nat} (hi : i < n.ancs.length) : can n t' i ≤ can n t i := by
  have ha := okAnc_nth hv hi
  simp only [okAnc, decide_eq_true_eq] at ha
  have h1 := h.2.2 (nth n.ancs i).bt.toNat (by omega)
  have h2 := Int.mul_le_mul_of_nonneg_left h1 (show 0 ≤ 2 * (nth n.ancs i).wt by omega)
  unfold can
  exact h2
theorem spare_harder {n : Net} {t t' : Tru} (hv : valid n = true) (h : Harder n t t') {d : Nat → Bool} {i : Nat} (hi : i < n.ancs.length) : spare n t' i d ≤ spare n t i d := by
  have := bears_harder hv h (d := d) hi
  have := can_harder hv h hi
  unfold spare
  omega
theorem calmP_mono {n : Net} {t t' : Tru} (hv : valid n = true) (h : Harder n t t') (hc : calmP n t') : calmP n t :=
  fun i hi => Int.le_trans (hc i hi) (spare_harder hv h hi)

theorem worst_tru {n : Net} (hv : valid n = true) : truB n (worstT n) = true := by
  obtain ⟨h1, h2, _, _, _, h6, _, _⟩ := valid_iff.1 hv
  simp only [okSp, decide_eq_true_eq] at h1 h2
  simp only [truB, Bool.and_eq_true, decide_eq_true_eq, inSp, inB_iff, gripsIn, List.all_eq_true, List.mem_range]
  refine ⟨⟨⟨by simp only [worstT]; omega, by simp only [worstT]; omega⟩, by simp [worstT]⟩, fun i hi => ?_⟩
  have hi' : i < n.grips.length := by simpa [worstT] using hi
  have hg := (List.all_eq_true.1 (by unfold okSps at h6; exact h6)) _ (nth_mem n.grips hi')
  simp only [okSp, decide_eq_true_eq] at hg
  simp only [worstT]
  rw [nth_map _ _ hi']
  omega
theorem best_tru {n : Net} (hv : valid n = true) : truB n (bestT n) = true := by
  obtain ⟨h1, h2, _, _, _, h6, _, _⟩ := valid_iff.1 hv
  simp only [okSp, decide_eq_true_eq] at h1 h2
  simp only [truB, Bool.and_eq_true, decide_eq_true_eq, inSp, inB_iff, gripsIn, List.all_eq_true, List.mem_range]
  refine ⟨⟨⟨by simp only [bestT]; omega, by simp only [bestT]; omega⟩, by simp [bestT]⟩, fun i hi => ?_⟩
  have hi' : i < n.grips.length := by simpa [bestT] using hi
  have hg := (List.all_eq_true.1 (by unfold okSps at h6; exact h6)) _ (nth_mem n.grips hi')
  simp only [okSp, decide_eq_true_eq] at hg
  simp only [bestT]
  rw [nth_map _ _ hi']
  omega
theorem harder_worst {n : Net} {t : Tru} (ht : truB n t = true) : Harder n t (worstT n) := by
  simp only [truB, Bool.and_eq_true, decide_eq_true_eq, inSp, inB_iff] at ht
  refine ⟨by simp only [worstT]; omega, by simp only [worstT]; omega, fun b hb => ?_⟩
  have hg := gripsIn_le ht.2 (k := b) (by omega)
  rw [inSp, inB_iff] at hg
  simp only [worstT]
  rw [nth_map _ _ hb]
  omega
theorem harder_best {n : Net} {t : Tru} (ht : truB n t = true) : Harder n (bestT n) t := by
  simp only [truB, Bool.and_eq_true, decide_eq_true_eq, inSp, inB_iff] at ht
  refine ⟨by simp only [bestT]; omega, by simp only [bestT]; omega, fun b hb => ?_⟩
  have hg := gripsIn_le ht.2 (k := b) (by omega)
  rw [inSp, inB_iff] at hg
  simp only [bestT]
  rw [nth_map _ _ hb]
  omega

/-- All truths are calm just if the worst one is; none is just if the best one is not. -/
theorem quiet_all {n : Net} (hv : valid n = true) : (quietN n < (truthsV n).length) ↔ ¬ stepM n (worstT n) 0 = 0 := by
  rw [step0_iff]
  unfold quietN
  constructor
  · intro h hc
    have : (truthsV n).filter (calm n) = truthsV n := by
      rw [List.filter_eq_self]
      intro t ht
      exact calm_iff.2 (calmP_mono hv (harder_worst (mem_truthsV.1 ht)) hc)
    rw [this] at h
    omega
  · intro hc
    have h1 := List.length_filter_le (calm n) (truthsV n)
    rcases Nat.lt_or_eq_of_le h1 with h | h
    · exact h
    · exfalso
      rw [List.length_filter_eq_length_iff] at h
      exact hc (calm_iff.1 (h _ (mem_truthsV.2 (worst_tru hv))))
theorem quiet_none {n : Net} (hv : valid n = true) : quietN n = 0 ↔ ¬ stepM n (bestT n) 0 = 0 := by
  rw [step0_iff]
  unfold quietN
  rw [List.length_eq_zero_iff, List.filter_eq_nil_iff]
  constructor
  · intro h hc
    exact h _ (mem_truthsV.2 (best_tru hv)) (calm_iff.2 hc)
  · intro hc t ht hq
    exact hc (calmP_mono hv (harder_best (mem_truthsV.1 ht)) (calm_iff.1 hq))
theorem hitWR_eq {n : Net} (hv : valid n = true) {x : Nat} (hx : x ≤ 20) : hitWR n x = hitW n x := by
  unfold hitWR hitW
  rw [decide_eq_decide]
  exact quiet_all (valid_inW hv hx)
theorem hitSR_eq {n : Net} (hv : valid n = true) {x : Nat} (hx : x ≤ 20) : hitSR n x = hitS n x := by
  unfold hitSR hitS
  rw [decide_eq_decide]
  exact quiet_none (valid_inW hv hx)

theorem firstHit_congr {f g : Nat → Bool} : ∀ m k, (∀ j, k ≤ j → j < k + m → f j = g j) → firstHit f m k = firstHit g m k
  | 0, _, _ => rfl
  | m + 1, k, h => by
    unfold firstHit
    rw [h k (Nat.le_refl _) (by omega), firstHit_congr m (k + 1) fun j h1 h2 => h j (by omega) (by omega)]
theorem windR_eq {n : Net} (hv : valid n = true) : firstHit (hitWR n) 21 0 = firstHit (hitW n) 21 0 := firstHit_congr _ _ fun j _ h2 => hitWR_eq hv (by omega)
theorem stormR_eq {n : Net} (hv : valid n = true) : firstHit (hitSR n) 21 0 = firstHit (hitS n) 21 0 := firstHit_congr _ _ fun j _ h2 => hitSR_eq hv (by omega)
/-- What the two sides return is the same. -/
theorem wind_same (n : Net) : windV (valid n) (firstHit (hitWR n) 21 0) = windV (valid n) (firstHit (hitW n) 21 0) ∧ windE (valid n) (firstHit (hitWR n) 21 0) = windE (valid n) (firstHit (hitW n) 21 0) := by
  by_cases hv : valid n = true
  · rw [windR_eq hv]; exact ⟨rfl, rfl⟩
  · rw [Bool.not_eq_true] at hv; rw [hv]; exact ⟨rfl, rfl⟩
theorem storm_same (n : Net) : windV (valid n) (firstHit (hitSR n) 21 0) = windV (valid n) (firstHit (hitS n) 21 0) ∧ windE (valid n) (firstHit (hitSR n) 21 0) = windE (valid n) (firstHit (hitS n) 21 0) := by
  by_cases hv : valid n = true
  · rw [stormR_eq hv]; exact ⟨rfl, rfl⟩
  · rw [Bool.not_eq_true] at hv; rw [hv]; exact ⟨rfl, rfl⟩

end An
end Go.Proofs.Ytnddiloeikaleaa
namespace Go.Proofs.Ytnddiloeikaleaa
open Go.RowKit
open An

set_option maxHeartbeats 1000000 in
theorem worstO_c (r : NetR) (n : Net) (B : Nat) (w : World) [hB : Le B w] (h : NetIs B w r n) (h3 : n.grips.length ≤ 3) :
    Calls Try.prog 29 #[netV r n] w fun e w' => ∃ (rt : TruR) (δ : World), e = .returned (rowV r n rt (worstT n)) ∧ w' = lat w δ ∧ (lat w δ).ownsRow w.heap.size 3 1 (.slice rt.tA (worstT n).grips.length rt.tc) (worstT n).grips.length ((worstT n).grips.flatMap encI) := by
  go_enter Try.func29, Try.ntmps29
  go_wp2_with (fail)
  refine wp_name fun W1 hW1 => ?_
  have iw1 : Le B W1 := by rw [hW1.out]; infer_instance
  have iw2 : Grew B w W1 := by rw [hW1.out]; infer_instance
  have iw3 : Le w.heap.size W1 := by rw [hW1.out]; infer_instance
  have iw4 : Grew w.heap.size w W1 := by rw [hW1.out]; infer_instance
  have iw5 : Lt (w.heap.size) W1 := by rw [hW1.out]; infer_instance
  have iw6 : Lt (w.heap.size + 1) W1 := by rw [hW1.out]; infer_instance
  have iw7 : Lt (w.heap.size + 1 + 1) W1 := by rw [hW1.out]; infer_instance
  have cw8 : W1.cell? ⟨w.heap.size, 0, none⟩ = some (.int .i64 n.wind.lo) := by rw [hW1.out]; go_simp
  have cw9 : W1.cell? ⟨w.heap.size, 1, none⟩ = some (.int .i64 n.wind.hi) := by rw [hW1.out]; go_simp
  have cw10 : W1.cell? ⟨w.heap.size, 2, none⟩ = some (.int .i64 n.cur.lo) := by rw [hW1.out]; go_simp
  have cw11 : W1.cell? ⟨w.heap.size, 3, none⟩ = some (.int .i64 n.cur.hi) := by rw [hW1.out]; go_simp
  have cw12 : W1.cell? ⟨w.heap.size, 4, none⟩ = some (.slice r.gA n.grips.length r.gc) := by rw [hW1.out]; go_simp
  have cw13 : W1.cell? ⟨w.heap.size, 5, none⟩ = some (.slice r.aA n.ancs.length r.ac) := by rw [hW1.out]; go_simp
  have cw14 : W1.cell? ⟨w.heap.size, 6, none⟩ = some (.slice r.wA n.wals.length r.wc) := by rw [hW1.out]; go_simp
  have cw15 : W1.cell? ⟨w.heap.size + 1, 0, none⟩ = some (.int .i64 0) := by rw [hW1.out]; go_simp
  have cw16 : W1.cell? ⟨w.heap.size + 1, 1, none⟩ = some (.int .i64 0) := by rw [hW1.out]; go_simp
  have cw17 : W1.cell? ⟨w.heap.size + 1, 2, none⟩ = some (.int .i64 0) := by rw [hW1.out]; go_simp
  have cw18 : W1.cell? ⟨w.heap.size + 1, 3, none⟩ = some (.int .i64 0) := by rw [hW1.out]; go_simp
  have cw19 : W1.cell? ⟨w.heap.size + 1, 4, none⟩ = some (.slice none 0 0) := by rw [hW1.out]; go_simp
  have cw20 : W1.cell? ⟨w.heap.size + 1, 5, none⟩ = some (.slice none 0 0) := by rw [hW1.out]; go_simp
  have cw21 : W1.cell? ⟨w.heap.size + 1, 6, none⟩ = some (.slice none 0 0) := by rw [hW1.out]; go_simp
  have cw22 : W1.cell? ⟨w.heap.size + 1, 7, none⟩ = some (.int .i64 0) := by rw [hW1.out]; go_simp
  have cw23 : W1.cell? ⟨w.heap.size + 1, 8, none⟩ = some (.int .i64 0) := by rw [hW1.out]; go_simp
  have cw24 : W1.cell? ⟨w.heap.size + 1, 9, none⟩ = some (.slice none 0 0) := by rw [hW1.out]; go_simp
  have fw25 : W1.frozen? ⟨w.heap.size + 1, 0, none⟩ = false := by rw [hW1.out]; go_simp
  have fw26 : W1.frozen? ⟨w.heap.size + 1, 1, none⟩ = false := by rw [hW1.out]; go_simp
  have fw27 : W1.frozen? ⟨w.heap.size + 1, 2, none⟩ = false := by rw [hW1.out]; go_simp
  have fw28 : W1.frozen? ⟨w.heap.size + 1, 3, none⟩ = false := by rw [hW1.out]; go_simp
  have fw29 : W1.frozen? ⟨w.heap.size + 1, 4, none⟩ = false := by rw [hW1.out]; go_simp
  have fw30 : W1.frozen? ⟨w.heap.size + 1, 5, none⟩ = false := by rw [hW1.out]; go_simp
  have fw31 : W1.frozen? ⟨w.heap.size + 1, 6, none⟩ = false := by rw [hW1.out]; go_simp
  have fw32 : W1.frozen? ⟨w.heap.size + 1, 7, none⟩ = false := by rw [hW1.out]; go_simp
  have fw33 : W1.frozen? ⟨w.heap.size + 1, 8, none⟩ = false := by rw [hW1.out]; go_simp
  have fw34 : W1.frozen? ⟨w.heap.size + 1, 9, none⟩ = false := by rw [hW1.out]; go_simp
  have cw35 : W1.cell? ⟨w.heap.size + 1 + 1, 0, none⟩ = some (.int .i64 n.wind.hi) := by rw [hW1.out]; go_simp
  have cw36 : W1.cell? ⟨w.heap.size + 1 + 1, 1, none⟩ = some (.int .i64 n.cur.hi) := by rw [hW1.out]; go_simp
  have cw37 : W1.cell? ⟨w.heap.size + 1 + 1, 2, none⟩ = some (.slice none 0 0) := by rw [hW1.out]; go_simp
  have fw38 : W1.frozen? ⟨w.heap.size + 1 + 1, 2, none⟩ = false := by rw [hW1.out]; go_simp
  have s1 : Sl encSp B W1 r.gA r.gc n.grips := h.1.up
  have hlen := s1.len
  go_loopw [16] (fun i wr => ∃ (k : Nat) (A : Option Addr) (c : Nat), k ≤ n.grips.length ∧ i = .int .i64 k ∧ wr.ownsRow W1.heap.size 3 1 (.slice A k c) k (((n.grips.map (·.lo)).take k).flatMap encI) ∧ ∃ δ, wr = (lat W1 δ).setCell ⟨w.heap.size + 1 + 1, 2, none⟩ (.slice A k c)) (fun i _ => n.grips.length - (intOf i).toNat)
  case atStart =>
    refine ⟨0, none, 0, Nat.zero_le _, rfl, by simpa using World.ownsRow_nil _ _ _ _, W1, ?_⟩
    rw [lat_refl, setCell_self (by assumption)]
  case round =>
    obtain ⟨k, A, c, hk, rfl, hown, δ, rfl⟩ := hrel
    by_cases hlt : k < n.grips.length
    · obtain ⟨b, o, hA, hb, d0, d1⟩ := s1.sp hlt
      have ib : Lt b W1 := ⟨Nat.lt_of_lt_of_le hb iw1.out⟩
      have in1 : NeN b (w.heap.size + 1 + 1) := ⟨by have := hB.out; omega⟩
      have HA := Lib.hid hA
      have HO := Lib.hid hown
      clear hA hown
      rw [HA.out]
      go_wp2_with (at_builtin; (refine wpList_append_new W1 slI (.tmp 21) (.tmp 24) rfl rfl (HO.out.alloc _) rfl rfl (by go_simp) rfl (by simp [Value.oneCell']) (by omega) (by omega) ?_); intro A' c' δ' hown')
      go_roundw
      case rel =>
        refine ⟨k + 1, A', c', by omega, by go_num, ?_, set_back (w0 := W1) δ (.slice A k c) (.slice A' (k + 1) c') (by assumption) below_inst⟩
        have := ownsRow_setCell_below hown' (a := ⟨w.heap.size + 1 + 1, 2, none⟩) iw7.out (.slice A' (k + 1) c')
        rw [flatMap_snoc encI (n.grips.map (·.lo)) (by simpa using hlt), nth_map _ _ hlt]
        exact this
      case measure => simp [intOf]; omega
    · obtain rfl : k = n.grips.length := by omega
      have HO := Lib.hid hown
      clear hown
      have in2 : NeN (w.heap.size + 1) (w.heap.size + 1 + 1) := ⟨by omega⟩
      go_wp2_with (fail)
      refine bodyPost_ret (v := rowV r n ⟨A, c⟩ (worstT n)) ?_ rfl ?_
      · simp only [results, Try.results29]
        go_simp
        simp [worstT]
      · refine ⟨⟨A, c⟩, _, rfl, lat_def, ?_⟩
        rw [← lat_def (w := w)]
        have H1 := HO.out
        rw [List.take_of_length_le (by simp)] at H1
        refine owns_mono (base := W1.heap.size) ?_ iw3.out
        rw [show (worstT n).grips.length = n.grips.length by simp [worstT]]
        show (_ : World).ownsRow W1.heap.size 3 1 _ _ ((n.grips.map (·.lo)).flatMap encI)
        iterate 10 (refine ownsRow_setCell_below (a := ⟨_, _, _⟩) ?_ iw6.out _)
        exact H1

set_option maxRecDepth 100000 in
set_option maxHeartbeats 1000000 in
theorem cloneA_c (A : Option Addr) (c : Nat) (xs : List Anc) (ln : Nat) (hn : xs.length = ln) (B : Nat) (w : World) [hB : Le B w] (h : Sl encAnc B w A c xs) (q : ln ≤ 1000) :
    Calls Try.prog 32 #[.slice A ln c] w fun e w' => ∃ (A' : Option Addr) (c' : Nat) (δ : World), e = .returned (.slice A' ln c') ∧ w' = lat w δ ∧ (lat w δ).ownsRow w.heap.size 51 2 (.slice A' ln c') ln (xs.flatMap encAnc) := by
  subst hn
  have H := Lib.hid h
  clear h
  have q22 : ∀ (w : World) (a : Option Addr) (n c n' c' : Nat), (binOp .eql 25 (.slice a n c) (.slice none n' c')).run Try.prog w = .ok (.bool a.isNone) w := fun w a n c n' c' => Lib.run_eql_slice_nil w _ _ a n c n' c' Try.underlying25
  cases A with
  | none =>
    have hx : xs = [] := by
      have h2 := H.out.2.2
      by_cases hx : xs = []
      · exact hx
      · obtain ⟨_, _, he, _⟩ := h2 (by
          obtain ⟨y, ys, rfl⟩ := List.exists_cons_of_ne_nil hx
          simp [encAnc])
        cases he
    subst hx
    go_enter Try.func32, Try.ntmps32
    go_wp2_with (fail)
    go_ret
    exact ⟨none, 0, _, rfl, lat_def, World.ownsRow_nil _ _ _ _⟩
  | some ad =>
    go_enter Try.func32, Try.ntmps32
    go_wp2_with (at_builtin; (refine wpList_append_lit w slAn (.tmp 5) (.tmp 6) rfl rfl (v := .slice (some ⟨_, 0, none⟩) 0 0) (own_lit0 (by go_simp) (by go_simp)) rfl (B := B) (A := some ad) (m := xs.length) (c := c) (news := xs.flatMap encAnc) rfl (H.out.up.2.2) (len_enc encAnc 2 (fun _ => rfl) _) (one_enc encAnc one_anc _) (by omega) (by omega) ?_); intro A1 c1 δ1 own1 hg1)
    go_ret
    refine ⟨A1, c1, _, rfl, lat_def, ?_⟩
    rw [← lat_def (w := w)]
    exact own1

end Go.Proofs.Ytnddiloeikaleaa
namespace Go.Proofs.Ytnddiloeikaleaa
namespace An

def heavA (a : Anc) (k : Int) : Anc := ⟨a.wt + k, a.bt⟩
/-- A net with other anchors. -/
def setA (n : Net) (al : List Anc) : Net := ⟨n.wind, n.cur, n.grips, al, n.wals⟩
/-- What anchor i could bear more in the worst truth, if it is heavier by k. -/
def spareK (n : Net) (i k : Nat) : Int := 2 * ((nth n.ancs i).wt + k) * nth (worstT n).grips (nth n.ancs i).bt.toNat - bears n (worstT n) i (fun _ => false)
def topK (n : Net) (i : Nat) : Nat := (21 - (nth n.ancs i).wt).toNat
def needN (n : Net) (i : Nat) : Nat := firstHit (fun k => decide (0 ≤ spareK n i k)) (topK n i) 0
def needOk (n : Net) : Bool := (List.range n.ancs.length).all fun i => decide (needN n i < topK n i)
def needV (n : Net) : List Int := if valid n && needOk n then (List.range n.ancs.length).map fun i => (needN n i : Int) else []
def needE (n : Net) : Int := if valid n then (if needOk n then 0 else 3) else 20
/-- By how much anchor j is heavier, when those below i are as heavy as they must be, and i by k. -/
def amt (n : Net) (i k j : Nat) : Nat := if j < i then needN n j else if j = i then k else 0
def ancsAt (n : Net) (i k : Nat) : List Anc := (List.range n.ancs.length).map fun j => heavA (nth n.ancs j) (amt n i k j)
def outAt (n : Net) (i k : Nat) : List Int := (List.range n.ancs.length).map fun j => (amt n i k j : Int)

theorem ancsAt_len (n : Net) (i k : Nat) : (ancsAt n i k).length = n.ancs.length := by simp [ancsAt]
theorem outAt_len (n : Net) (i k : Nat) : (outAt n i k).length = n.ancs.length := by simp [outAt]
theorem nth_range_map {α : Type} [Inhabited α] (f : Nat → α) {m j : Nat} (h : j < m) : nth ((List.range m).map f) j = f j := by
  rw [nth_get _ (by simpa using h)]; simp
theorem ancsAt_nth (n : Net) (i k : Nat) {j : Nat} (h : j < n.ancs.length) : nth (ancsAt n i k) j = heavA (nth n.ancs j) (amt n i k j) := nth_range_map _ h
theorem outAt_nth (n : Net) (i k : Nat) {j : Nat} (h : j < n.ancs.length) : nth (outAt n i k) j = (amt n i k j : Int) := nth_range_map _ h
theorem list_ext_nth {α : Type} [Inhabited α] {xs ys : List α} (hl : xs.length = ys.length) (h : ∀ j, j < xs.length → nth xs j = nth ys j) : xs = ys := by
  apply List.ext_getElem hl
  intro j h1 h2
  have := h j h1
  rwa [nth_get _ h1, nth_get _ h2] at this
theorem nth_set {α : Type} [Inhabited α] (xs : List α) (i : Nat) (y : α) {j : Nat} (h : j < xs.length) : nth (xs.set i y) j = if i = j then y else nth xs j := by
  rw [nth_get _ (by simpa using h), nth_get _ h, List.getElem_set]
theorem amt_self (n : Net) (i k : Nat) : amt n i k i = k := by simp [amt]
theorem ancsAt_start (n : Net) : ancsAt n 0 0 = n.ancs := by
  refine list_ext_nth (ancsAt_len _ _ _) fun j hj => ?_
  rw [ancsAt_len] at hj
  rw [ancsAt_nth _ _ _ hj]
  have : amt n 0 0 j = 0 := by simp [amt]
  rw [this]; simp [heavA]
theorem outAt_start (n : Net) : outAt n 0 0 = List.replicate n.ancs.length 0 := by
  refine list_ext_nth (by rw [outAt_len]; simp) fun j hj => ?_
  rw [outAt_len] at hj
  rw [outAt_nth _ _ _ hj, nth_get _ (by simpa using hj)]
  simp [amt]
theorem amt_next (n : Net) (i j : Nat) : amt n (i + 1) 0 j = amt n i (needN n i) j := by
  unfold amt
  by_cases h1 : j < i
  · simp [h1, show j < i + 1 by omega]
  · by_cases h2 : j = i
    · subst h2; simp
    · simp [h1, h2, show ¬ j < i + 1 by omega]
theorem ancsAt_next (n : Net) (i : Nat) : ancsAt n (i + 1) 0 = ancsAt n i (needN n i) := by unfold ancsAt; congr 1; funext j; rw [amt_next]
theorem outAt_next (n : Net) (i : Nat) : outAt n (i + 1) 0 = outAt n i (needN n i) := by unfold outAt; congr 1; funext j; rw [amt_next]
theorem ancsAt_set (n : Net) {i : Nat} (k : Nat) (_hi : i < n.ancs.length) : (ancsAt n i k).set i (heavA (nth n.ancs i) ((k + 1 : Nat) : Int)) = ancsAt n i (k + 1) := by
  refine list_ext_nth (by rw [List.length_set, ancsAt_len, ancsAt_len]) fun j hj => ?_
  rw [List.length_set, ancsAt_len] at hj
  rw [nth_set _ _ _ (by rw [ancsAt_len]; exact hj), ancsAt_nth _ _ _ hj, ancsAt_nth _ _ _ hj]
  by_cases h : i = j
  · subst h; rw [if_pos rfl, amt_self]
  · rw [if_neg h]
    have : amt n i k j = amt n i (k + 1) j := by unfold amt; rw [if_neg (show ¬ j = i from fun e => h e.symm), if_neg (show ¬ j = i from fun e => h e.symm)]
    rw [this]
theorem outAt_set (n : Net) {i : Nat} (k : Nat) (_hi : i < n.ancs.length) : (outAt n i k).set i ((k + 1 : Nat) : Int) = outAt n i (k + 1) := by
  refine list_ext_nth (by rw [List.length_set, outAt_len, outAt_len]) fun j hj => ?_
  rw [List.length_set, outAt_len] at hj
  rw [nth_set _ _ _ (by rw [outAt_len]; exact hj), outAt_nth _ _ _ hj, outAt_nth _ _ _ hj]
  by_cases h : i = j
  · subst h; rw [if_pos rfl, amt_self]
  · rw [if_neg h]
    have : amt n i k j = amt n i (k + 1) j := by unfold amt; rw [if_neg (show ¬ j = i from fun e => h e.symm), if_neg (show ¬ j = i from fun e => h e.symm)]
    rw [this]

theorem bears_setA (n : Net) (al : List Anc) (t : Tru) (i : Nat) (d : Nat → Bool) : bears (setA n al) t i d = bears n t i d := rfl
theorem spare_at {n : Net} {i : Nat} (k : Nat) (hi : i < n.ancs.length) : spare (setA n (ancsAt n i k)) (worstT n) i (fun _ => false) = spareK n i k := by
  unfold spare spareK can
  rw [bears_setA]
  show 2 * (nth (ancsAt n i k) i).wt * nth (worstT n).grips (nth (ancsAt n i k) i).bt.toNat - _ = _
  rw [ancsAt_nth _ _ _ hi, amt_self]
  rfl
theorem valid_at {n : Net} (hv : valid n = true) {i k : Nat} (hk : k < topK n i) (h : ∀ j, j < i → j < n.ancs.length → needN n j < topK n j) : valid (setA n (ancsAt n i k)) = true := by
  have h0 := hv
  rw [valid_iff] at hv ⊢
  obtain ⟨h1, h2, h3, h4, h5, h6, h7, h8⟩ := hv
  refine ⟨h1, h2, h3, by show (ancsAt n i k).length ≤ 6; rw [ancsAt_len]; exact h4, by show n.wals.length = (ancsAt n i k).length - 1; rw [ancsAt_len]; exact h5, h6, ?_, h8⟩
  show okAncl n.grips.length (ancsAt n i k) = true
  unfold okAncl
  rw [List.all_eq_true]
  intro x hx
  obtain ⟨j, hj, rfl⟩ := List.getElem_of_mem hx
  have hj' : j < n.ancs.length := by rwa [ancsAt_len] at hj
  rw [← nth_get _ hj, ancsAt_nth _ _ _ hj']
  have ha := okAnc_nth h0 hj'
  simp only [okAnc, decide_eq_true_eq] at ha
  have hlt : amt n i k j < topK n j := by
    unfold amt
    by_cases hji : j < i
    · rw [if_pos hji]; exact h j hji hj'
    · rw [if_neg hji]
      by_cases he : j = i
      · subst he; rw [if_pos rfl]; exact hk
      · rw [if_neg he]; unfold topK; omega
  have hT : (topK n j : Int) = 21 - (nth n.ancs j).wt := by unfold topK; rw [Int.toNat_of_nonneg (by omega)]
  refine decide_eq_true ?_
  simp only [heavA]
  omega
theorem okTru_at {n : Net} (hv : valid n = true) {i k : Nat} (hk : k < topK n i) (h : ∀ j, j < i → j < n.ancs.length → needN n j < topK n j) : okTru (setA n (ancsAt n i k)) (worstT n) := by
  have := okTru_worst hv
  exact ⟨valid_at hv hk h, this.2.1, this.2.2.1, this.2.2.2.1, this.2.2.2.2⟩

end An
end Go.Proofs.Ytnddiloeikaleaa
namespace Go.Proofs.Ytnddiloeikaleaa
open Go.RowKit
open An

def exN : Net := ⟨⟨2, 4⟩, ⟨1, 3⟩, [⟨2, 3⟩, ⟨1, 4⟩], [⟨6, 0⟩, ⟨5, 1⟩, ⟨4, 0⟩], [⟨2, 1, 3, 8, 9⟩, ⟨1, 2, 2, 6, 6⟩]⟩
def exA : Tru := ⟨4, 3, [2, 1]⟩
def exB : Tru := ⟨2, 1, [3, 4]⟩

theorem Sl_box {α : Type} {enc : α → List Value} {W : World} (xs : List α) {T : TypeId} {b c : Nat} {cs : Array Value} (h : Box W b T cs) (hn : xs.length ≤ c) (hc : c ≤ 9223372036854775807) (hcs : cs.toList = xs.flatMap enc) : Sl enc W.heap.size W (some ⟨b, 0, none⟩) c xs := by
  refine ⟨hn, hc, fun _ => ⟨_, _, rfl, h.lt_, fun j v hj => ?_⟩⟩
  rw [Nat.zero_add]
  refine h.cell ?_
  rw [← Array.getElem?_toList, hcs]
  exact hj

set_option maxRecDepth 100000 in
set_option maxHeartbeats 4000000 in
theorem example_c (w : World) :
    Calls Try.prog 23 #[] w fun e w' => ∃ (r : NetR) (ra rb : TruR) (δ : World), e = .returned (.tuple #[netV r exN, truV ra exA, truV rb exB]) ∧ w' = lat w δ ∧ NetIs (lat w δ).heap.size (lat w δ) r exN ∧ TruIs (lat w δ).heap.size (lat w δ) ra exA ∧ TruIs (lat w δ).heap.size (lat w δ) rb exB := by
  go_enter Try.func23, Try.ntmps23
  go_wp2_with (fail)
  refine bodyPost_ret (v := .tuple #[netV ⟨some ⟨w.heap.size + 1 + 1 + 1, 0, none⟩, 2, some ⟨w.heap.size + 1 + 1 + 1 + 1, 0, none⟩, 3, some ⟨w.heap.size + 1 + 1 + 1 + 1 + 1, 0, none⟩, 2⟩ exN, truV ⟨some ⟨w.heap.size + 1 + 1 + 1 + 1 + 1 + 1, 0, none⟩, 2⟩ exA, truV ⟨some ⟨w.heap.size + 1 + 1 + 1 + 1 + 1 + 1 + 1, 0, none⟩, 2⟩ exB]) ?_ rfl ?_
  · simp only [results, Try.results23]
    go_simp
    simp [exN, exA, exB]
  · refine ⟨⟨some ⟨w.heap.size + 1 + 1 + 1, 0, none⟩, 2, some ⟨w.heap.size + 1 + 1 + 1 + 1, 0, none⟩, 3, some ⟨w.heap.size + 1 + 1 + 1 + 1 + 1, 0, none⟩, 2⟩, ⟨some ⟨w.heap.size + 1 + 1 + 1 + 1 + 1 + 1, 0, none⟩, 2⟩, ⟨some ⟨w.heap.size + 1 + 1 + 1 + 1 + 1 + 1 + 1, 0, none⟩, 2⟩, _, rfl, lat_def, ?_⟩
    rw [← lat_def (w := w)]
    refine ⟨⟨Sl_box exN.grips (T := 23) (cs := #[.int .i64 2, .int .i64 3, .int .i64 1, .int .i64 4]) ?_ (Nat.le_of_ble_eq_true rfl) (Nat.le_of_ble_eq_true rfl) rfl, Sl_box exN.ancs (T := 51) (cs := #[.int .i64 6, .int .i64 0, .int .i64 5, .int .i64 1, .int .i64 4, .int .i64 0]) ?_ (Nat.le_of_ble_eq_true rfl) (Nat.le_of_ble_eq_true rfl) rfl, Sl_box exN.wals (T := 86) (cs := #[.int .i64 2, .int .i64 1, .int .i64 3, .int .i64 8, .int .i64 9, .int .i64 1, .int .i64 2, .int .i64 2, .int .i64 6, .int .i64 6]) ?_ (Nat.le_of_ble_eq_true rfl) (Nat.le_of_ble_eq_true rfl) rfl⟩, Sl_box exA.grips (T := 3) (cs := #[.int .i64 2, .int .i64 1]) ?_ (Nat.le_of_ble_eq_true rfl) (Nat.le_of_ble_eq_true rfl) rfl, Sl_box exB.grips (T := 3) (cs := #[.int .i64 3, .int .i64 4]) ?_ (Nat.le_of_ble_eq_true rfl) (Nat.le_of_ble_eq_true rfl) rfl⟩
    all_goals repeat (first | exact Box.new (by go_simp) | refine Box.alloc ?_ _)

end Go.Proofs.Ytnddiloeikaleaa
namespace Go.Proofs.Ytnddiloeikaleaa
open Go.RowKit
open An

def hugeV (n : Net) (t : Tru) : Bool := decide (40 < n.grips.length) || decide (40 < n.ancs.length) || decide (40 < n.wals.length) || decide (40 < t.grips.length)

set_option maxHeartbeats 1000000 in
theorem huge_c (r : NetR) (n : Net) (rt : TruR) (t : Tru) (w : World) :
    Calls Try.prog 37 #[netV r n, truV rt t] w fun e w' => e = .returned (.bool (hugeV n t)) ∧ ∃ δ, w' = lat w δ := by
  go_enter Try.func37, Try.ntmps37
  go_wp2_with (fail)
  all_goals
    go_ret
    refine ⟨ret_bool ?_, lat_ex⟩
    go_light
    grind [hugeV]

def FarPost (n : Net) (w : World) (e : Ending) (w' : World) : Prop := ∃ b, e = .returned (.bool b) ∧ (b = false → hugeV n ⟨0, 0, []⟩ = false) ∧ ∃ δ, w' = lat w δ

set_option maxRecDepth 100000 in
set_option maxHeartbeats 4000000 in
theorem far_c (r : NetR) (n : Net) (B : Nat) (w : World) [hB : Le B w] (h : NetIs B w r n) :
    Calls Try.prog 17 #[netV r n] w fun e w' => FarPost n w e w' := by
  by_cases hg : hugeV n ⟨0, 0, []⟩ = true
  · go_enter Try.func17, Try.ntmps17
    go_wp2_with (go_at_call 37; refine (huge_c r n ⟨none, 0⟩ ⟨0, 0, []⟩ _).mono ?_; rw [hg]; rintro e w1 ⟨rfl, δ, rfl⟩)
    go_ret
    unfold FarPost
    exact ⟨true, rfl, fun hf => absurd hf (by simp), lat_ex⟩
  · rw [Bool.not_eq_true] at hg
    have HG := Lib.hid hg
    clear hg
    by_cases hv : valid n = true
    all_goals try rw [Bool.not_eq_true] at hv
    all_goals
      have HV := Lib.hid hv
      clear hv
    · have hg3 : n.grips.length ≤ 3 := (valid_iff.1 HV.out).2.2.1
      have hc : 0 ≤ n.cur.lo ∧ n.cur.lo ≤ n.cur.hi ∧ n.cur.hi ≤ 20 := by have := (valid_iff.1 HV.out).2.1; simp only [okSp, decide_eq_true_eq] at this; omega
      have hw : 0 ≤ n.wind.lo ∧ n.wind.lo ≤ n.wind.hi ∧ n.wind.hi ≤ 20 := by have := (valid_iff.1 HV.out).1; simp only [okSp, decide_eq_true_eq] at this; omega
      go_enter Try.func17, Try.ntmps17
      go_upto_region 6 with (first
        | (go_at_call 37; refine (huge_c r n ⟨none, 0⟩ ⟨0, 0, []⟩ _).mono ?_; rw [HG.out]; rintro e w1 ⟨rfl, δ, rfl⟩)
        | (go_at_call 18; refine (rCheck_c r n B _ h.up).mono ?_; rw [HV.out]; rintro e w1 ⟨rfl, δ', rfl⟩))
      refine wp_name fun W1 hW1 => ?_
      have iw1 : Le B W1 := by rw [hW1.out]; infer_instance
      have iw2 : Grew B w W1 := by rw [hW1.out]; infer_instance
      have iw3 : Le w.heap.size W1 := by rw [hW1.out]; infer_instance
      have iw4 : Grew w.heap.size w W1 := by rw [hW1.out]; infer_instance
      have iw5 : Lt (w.heap.size) W1 := by rw [hW1.out]; infer_instance
      have cw6 : W1.cell? ⟨w.heap.size, 0, none⟩ = some (.int .i64 n.wind.lo) := by rw [hW1.out]; go_simp
      have cw7 : W1.cell? ⟨w.heap.size, 1, none⟩ = some (.int .i64 n.wind.hi) := by rw [hW1.out]; go_simp
      have cw8 : W1.cell? ⟨w.heap.size, 2, none⟩ = some (.int .i64 n.cur.lo) := by rw [hW1.out]; go_simp
      have cw9 : W1.cell? ⟨w.heap.size, 3, none⟩ = some (.int .i64 n.cur.hi) := by rw [hW1.out]; go_simp
      have cw10 : W1.cell? ⟨w.heap.size, 4, none⟩ = some (.slice r.gA n.grips.length r.gc) := by rw [hW1.out]; go_simp
      have cw11 : W1.cell? ⟨w.heap.size, 5, none⟩ = some (.slice r.aA n.ancs.length r.ac) := by rw [hW1.out]; go_simp
      have cw12 : W1.cell? ⟨w.heap.size, 6, none⟩ = some (.slice r.wA n.wals.length r.wc) := by rw [hW1.out]; go_simp
      have s1 : Sl encSp B W1 r.gA r.gc n.grips := h.1.up
      have hlen := s1.len
      go_wp2_with (fail)
      go_loopw [3, 4] (fun v i wr => ∃ (k : Nat) (m : Int) (δ : World), k ≤ n.grips.length ∧ v = .int .i64 m ∧ i = .int .i64 k ∧ Hid (0 ≤ m ∧ m ≤ 21 * (10 : Int) ^ k) ∧ wr = lat W1 δ) (fun _ i _ => n.grips.length - (intOf i).toNat)
      case atStart => exact ⟨0, _, W1, Nat.zero_le _, rfl, rfl, by unfold Hid; omega, (lat_refl W1).symm⟩
      case round =>
        obtain ⟨k, m, δ, hk, rfl, rfl, hm, rfl⟩ := hrel
        by_cases hlt : k < n.grips.length
        · obtain ⟨b, o, hA, hb, d0, d1⟩ := s1.sp hlt
          have ib : Lt b W1 := ⟨Nat.lt_of_lt_of_le hb iw1.out⟩
          have hgk : 0 ≤ (nth n.grips k).lo ∧ (nth n.grips k).lo ≤ (nth n.grips k).hi ∧ (nth n.grips k).hi ≤ 9 := by
            have := (List.all_eq_true.1 (by have := (valid_iff.1 HV.out).2.2.2.2.2.1; unfold okSps at this; exact this)) _ (nth_mem n.grips hlt)
            simp only [okSp, decide_eq_true_eq] at this; omega
          have hm1 : 0 ≤ m ∧ m ≤ 2100 := by
            have h1 := hm.out
            have : (10 : Int) ^ k ≤ 10 ^ 2 := by
              rcases (show k = 0 ∨ k = 1 ∨ k = 2 by omega) with h | h | h <;> rw [h] <;> decide
            omega
          have hmd := mul_bd (a := m) (A := 2100) (b := (nth n.grips k).hi - (nth n.grips k).lo + 1) (B := 10) hm1.1 hm1.2 (by omega) (by omega)
          have HM := Lib.hid (show 0 ≤ m * ((nth n.grips k).hi - (nth n.grips k).lo + 1) ∧ m * ((nth n.grips k).hi - (nth n.grips k).lo + 1) ≤ 21 * (10 : Int) ^ (k + 1) by
            have h1 := hm.out
            have h2 := mul_bd (a := m) (A := 21 * (10 : Int) ^ k) (b := (nth n.grips k).hi - (nth n.grips k).lo + 1) (B := 10) hm1.1 h1.2 (by omega) (by omega)
            refine ⟨h2.1, ?_⟩
            rw [Int.pow_succ, ← Int.mul_assoc]
            exact h2.2)
          have hki : (k : Int) < (n.grips.length : Int) := by omega
          have hk0 : ¬ (k : Int) < 0 := by omega
          rw [hA] at cw10
          clear hA
          go_wp2_with (fail)
          refine wp_region_lat (by kernel_rfl) (by kernel_rfl) ?_
          repeat (go_big_quiet_step ((first | (fail))))
          refine wpQuiet_nil ?_
          rintro _ ⟨δq, rfl⟩
          go_wp2_with (fail)
          go_roundw
          case rel =>
            (repeat apply Exists.intro)
            refine ⟨?_, rfl⟩
            exact ⟨k + 1, _, _, by omega, rfl, by go_num, HM.out, lat_def⟩
          case measure => simp [intOf]; omega
        · obtain rfl : k = n.grips.length := by omega
          have hm1 : 0 ≤ m ∧ m ≤ 21000 := by
            have h1 := hm.out
            have : (10 : Int) ^ n.grips.length ≤ 10 ^ 3 := by
              rcases (show n.grips.length = 0 ∨ n.grips.length = 1 ∨ n.grips.length = 2 ∨ n.grips.length = 3 by omega) with h | h | h | h <;> rw [h] <;> decide
            omega
          have hmd := mul_bd (a := m) (A := 21000) (b := n.wind.hi - n.wind.lo + 1) (B := 21) hm1.1 hm1.2 (by omega) (by omega)
          go_wp2_with (fail)
          all_goals
            go_ret
            unfold FarPost
            exact ⟨_, rfl, fun _ => HG.out, lat_ex⟩
    · go_enter Try.func17, Try.ntmps17
      go_wp2_with (first
        | (go_at_call 37; refine (huge_c r n ⟨none, 0⟩ ⟨0, 0, []⟩ _).mono ?_; rw [HG.out]; rintro e w1 ⟨rfl, δ, rfl⟩)
        | (go_at_call 18; refine (rCheck_c r n B _ h.up).mono ?_; rw [HV.out]; rintro e w1 ⟨rfl, δ, rfl⟩))
      go_ret
      unfold FarPost
      exact ⟨false, rfl, fun _ => HG.out, lat_ex⟩

end Go.Proofs.Ytnddiloeikaleaa
