/- Layer 2: the walks of the program's anchors in a truth: what an anchor bears and could bear more, who drags, and who at last. -/
import Derived.Test.YtgpcaaknpfopgaaDoorAn3
namespace Go.Proofs.YtgpcaaknpfopgaaDoor
open Go.RowKit
open An

/-- Where a truth's slice lies. -/
structure TruR where
  tA : Option Addr
  tc : Nat
abbrev truV (rt : TruR) (t : Tru) : Value := .agg #[.int .i64 t.wind, .int .i64 t.cur, .slice rt.tA t.grips.length rt.tc]
abbrev TruIs (B : Nat) (w : World) (rt : TruR) (t : Tru) : Prop := Sl encI B w rt.tA rt.tc t.grips
abbrev rowV (r : NetR) (n : Net) (rt : TruR) (t : Tru) : Value := .agg #[.int .i64 n.wind.lo, .int .i64 n.wind.hi, .int .i64 n.cur.lo, .int .i64 n.cur.hi, .slice r.gA n.grips.length r.gc, .slice r.aA n.ancs.length r.ac, .slice r.wA n.wals.length r.wc, .int .i64 t.wind, .int .i64 t.cur, .slice rt.tA t.grips.length rt.tc]

theorem bit_form (s i : Nat) (hs : s < 18446744073709551616) : (bits BinOp.and IntKind.u64 ((s : Int) / 2 ^ i) 1 == 1) = s.testBit i := by
  have h1 : ((s : Int) / 2 ^ i) = ((s / 2 ^ i : Nat) : Int) := by push_cast; rfl
  have h2 : s / 2 ^ i < 18446744073709551616 := Nat.lt_of_le_of_lt (Nat.div_le_self _ _) hs
  rw [h1, show (1 : Int) = ((1 : Nat) : Int) from rfl, u64_and_nat _ _ h2 (by omega), Nat.and_one_is_mod, Nat.testBit_eq_decide_div_mod_eq]
  rw [Bool.eq_iff_iff]
  simp only [beq_iff_eq, decide_eq_true_eq]
  omega

theorem has_c (s i : Nat) (w : World) (hs : s < 18446744073709551616) (hi : i < 64) :
    Calls Tryd.prog 77 #[.int .u64 s, .int .i64 i] w fun e w' => e = .returned (.bool (s.testBit i)) ∧ w = w' := by
  have hf := Lib.hid (bit_form s i hs)
  go_enter Tryd.func77, Tryd.ntmps77
  go_wp2
  go_ret
  exact ⟨ret_bool hf.out, rfl⟩

theorem load_c (x : Wal) (wi cu : Int) (w : World) (hx : okWal x = true) (hw : inB 0 20 wi = true) (hc : inB 0 20 cu = true) :
    Calls Tryd.prog 91 #[.agg #[.int .i64 x.sail, .int .i64 x.drag, .int .i64 x.lean, .int .i64 x.corks, .int .i64 x.stones], .int .i64 wi, .int .i64 cu] w fun e w' => e = .returned (.int .i64 (ldW x wi cu)) ∧ ∃ δ, w' = lat w δ := by
  have hb := Lib.hid (ldW_bd hx hw hc)
  clear hx hw hc
  go_enter Tryd.func91, Tryd.ntmps91
  go_wp2
  go_ret
  refine ⟨ret_int ?_, lat_ex⟩
  have hb := hb.out
  rw [w64 (x := x.sail * wi) (by omega), w64 (x := x.drag * cu) (by omega), w64 (by omega)]
  rfl

/-- One side of what an anchor bears: the closure that adds it up. -/
theorem side_c (n : Net) (t : Tru) (wl ot : Int) (br bd bn : Nat) (wA : Option Addr) (wc : Nat) (dr : Nat) (n0 : Int) (B : Nat) (w : World) [hB : Le B w] [hr : Lt br w] [hd : Lt bd w] [hn : Lt bn w]
    (ht : okTru n t) (h : Sl encWal B w wA wc n.wals)
    (h0 : w.cell? ⟨br, 6, none⟩ = some (.slice wA n.wals.length wc)) (h1 : w.cell? ⟨br, 7, none⟩ = some (.int .i64 t.wind)) (h2 : w.cell? ⟨br, 8, none⟩ = some (.int .i64 t.cur))
    (h3 : w.cell? ⟨bd, 0, none⟩ = some (.int .u64 dr)) (h4 : w.cell? ⟨bn, 0, none⟩ = some (.int .i64 n0)) (h5 : w.frozen? ⟨bn, 0, none⟩ = false)
    (hs : dr < 18446744073709551616) (hi : 0 ≤ wl → wl < n.wals.length → 0 ≤ ot ∧ ot < 64) (hn0 : 0 ≤ n0 ∧ n0 ≤ 1000) :
    Calls Tryd.prog 116 #[.int .i64 wl, .int .i64 ot, .pointer (some ⟨br, 0, none⟩), .pointer (some ⟨bd, 0, none⟩), .pointer (some ⟨bn, 0, none⟩)] w fun e w' => e = .returned (.tuple #[]) ∧
      ∃ δ, w' = (lat w δ).setCell ⟨bn, 0, none⟩ (.int .i64 (n0 + if 0 ≤ wl ∧ wl < n.wals.length then side n t (fun i => dr.testBit i) wl.toNat ot.toNat else 0)) := by
  have hl := h.len
  by_cases hc : 0 ≤ wl ∧ wl < n.wals.length
  · rw [if_pos hc]
    obtain ⟨wn, rfl⟩ := Int.eq_ofNat_of_zero_le hc.1
    obtain ⟨on, rfl⟩ := Int.eq_ofNat_of_zero_le (hi hc.1 hc.2).1
    have hon := (hi hc.1 hc.2).2
    have hwn : wn < n.wals.length := by omega
    have hx := okWal_nth ht.1 hwn
    have hbd := Lib.hid (ld_bd ht hwn)
    have hsd := Lib.hid (side_bd ht (d := fun i => dr.testBit i) (o := on) hwn)
    obtain ⟨b, o, rfl, hb, k0, k1, k2, k3, k4⟩ := h.wal hwn
    have ib : Lt b w := ⟨Nat.lt_of_lt_of_le hb hB.out⟩
    have hlt : (wn : Int) < (n.wals.length : Int) := by omega
    have hnn : ¬ (wn : Int) < 0 := by omega
    have hc1 := ht.2.1
    have hc2 := ht.2.2.1
    have HE : Hid (ldW (nth n.wals wn) t.wind t.cur = ld n t wn) := Lib.hid rfl
    clear hi hc ht h
    by_cases hbit : dr.testBit on = true
    all_goals try rw [Bool.not_eq_true] at hbit
    all_goals
      go_enter Tryd.func116, Tryd.ntmps116
      go_wp2_with (fail)
      refine wp_region_lat (by kernel_rfl) (by kernel_rfl) ?_
      repeat (go_big_quiet_step ((go_at_call 91; exact Calls.lat_of (load_c _ _ _ _ (by assumption) (by assumption) (by assumption)))))
      refine wpQuiet_nil ?_
      rintro _ ⟨δ, rfl⟩
      go_wp2_with (go_at_call 77; refine (has_c _ _ _ (by omega) (by omega)).mono ?_; rintro e w1 ⟨rfl, rfl⟩)
      go_end0
      refine ⟨rfl, δ, ?_⟩
      have hbd := hbd.out
      have hsd := hsd.out
      congr 2
      simp only [Int.toNat_natCast, side, hbit, HE.out, if_true] at *
      first
        | (rw [w64 (x := ld n t wn * 2) (by omega), w64 (by omega)]; done)
        | (simp only [Bool.false_eq_true, if_false, Int.mul_one] at *; rw [w64 (by omega)])
  · rw [if_neg hc, Int.add_zero]
    have hse : w.setCell ⟨bn, 0, none⟩ (.int .i64 n0) = w := setCell_self h4
    have HS := Lib.hid hse
    have hc' : wl < 0 ∨ ¬ wl < 0 ∧ (n.wals.length : Int) ≤ wl := by omega
    clear hse hc hi
    rcases hc' with h' | ⟨h'', h'⟩
    all_goals
      go_enter Tryd.func116, Tryd.ntmps116
      go_wp2
      refine bodyPost_ret (results_none rfl _ _ _) rfl ?_
      exact ⟨rfl, w, by rw [lat_refl, HS.out]⟩

end Go.Proofs.YtgpcaaknpfopgaaDoor
