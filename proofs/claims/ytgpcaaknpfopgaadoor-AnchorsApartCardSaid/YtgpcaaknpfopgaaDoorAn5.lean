/- Layer 2: the walks of bears, spare, step and last of the program. -/
import Derived.Test.YtgpcaaknpfopgaaDoorAn4
namespace Go.Proofs.YtgpcaaknpfopgaaDoor
open Go.RowKit
open An

theorem bears_eq (n : Net) (t : Tru) (i : Nat) (d : Nat → Bool) :
    (if (0 : Int) ≤ (i : Int) - 1 ∧ (i : Int) - 1 < n.wals.length then side n t d ((i : Int) - 1).toNat ((i : Int) - 1).toNat else 0) + (if (0 : Int) ≤ (i : Int) ∧ (i : Int) < n.wals.length then side n t d (i : Int).toNat ((i : Int) + 1).toNat else 0) = (if 0 < i ∧ i - 1 < n.wals.length then side n t d (i - 1) (i - 1) else 0) + (if i < n.wals.length then side n t d i (i + 1) else 0) := by
  have e1 : ((i : Int) - 1).toNat = i - 1 := by omega
  have e2 : ((i : Int) + 1).toNat = i + 1 := by omega
  rw [e1, e2, Int.toNat_natCast]
  congr 1
  · by_cases h : 0 < i ∧ i - 1 < n.wals.length
    · rw [if_pos h, if_pos (by omega)]
    · rw [if_neg h, if_neg (by omega)]
  · by_cases h : i < n.wals.length
    · rw [if_pos h, if_pos (by omega)]
    · rw [if_neg h, if_neg (by omega)]

/-- .. in a world that w0 grew into, but for the sum. -/
theorem side_c' (n : Net) (t : Tru) (wl ot : Int) (br bd bn : Nat) (wA : Option Addr) (wc : Nat) (dr : Nat) (n0 : Int) (v0 : Value) (B : Nat) (w0 δ0 : World) [hB : Le B w0] [hr : Lt br w0] [hd : Lt bd w0] [hn : Lt bn w0] [hb : LeN B bn]
    (ht : okTru n t) (h : Sl encWal B w0 wA wc n.wals) (hne : br ≠ bn) (hne' : bd ≠ bn)
    (h0 : w0.cell? ⟨br, 6, none⟩ = some (.slice wA n.wals.length wc)) (h1 : w0.cell? ⟨br, 7, none⟩ = some (.int .i64 t.wind)) (h2 : w0.cell? ⟨br, 8, none⟩ = some (.int .i64 t.cur))
    (h3 : w0.cell? ⟨bd, 0, none⟩ = some (.int .u64 dr)) (h4 : w0.cell? ⟨bn, 0, none⟩ = some v0) (h5 : w0.frozen? ⟨bn, 0, none⟩ = false)
    (hs : dr < 18446744073709551616) (hi : 0 ≤ wl → wl < n.wals.length → 0 ≤ ot ∧ ot < 64) (hn0 : 0 ≤ n0 ∧ n0 ≤ 1000) :
    Calls Tryd.prog 116 #[.int .i64 wl, .int .i64 ot, .pointer (some ⟨br, 0, none⟩), .pointer (some ⟨bd, 0, none⟩), .pointer (some ⟨bn, 0, none⟩)] ((lat w0 δ0).setCell ⟨bn, 0, none⟩ (.int .i64 n0)) fun e w' => e = .returned (.tuple #[]) ∧
      ∃ δ, w' = (lat w0 δ).setCell ⟨bn, 0, none⟩ (.int .i64 (n0 + if 0 ≤ wl ∧ wl < n.wals.length then side n t (fun i => dr.testBit i) wl.toNat ot.toNat else 0)) := by
  have e0 : ∀ b o, Lt b w0 → b ≠ bn → ((lat w0 δ0).setCell ⟨bn, 0, none⟩ (.int .i64 n0)).cell? ⟨b, o, none⟩ = w0.cell? ⟨b, o, none⟩ := fun b o _ hne => by
    rw [World.cell?_setCell_other _ _ _ _ (by simp), cell_lat]
  refine (side_c n t wl ot br bd bn wA wc dr n0 B _ ht h.up (by rw [e0 _ _ hr hne]; exact h0) (by rw [e0 _ _ hr hne]; exact h1) (by rw [e0 _ _ hr hne]; exact h2) (by rw [e0 _ _ hd hne']; exact h3)
    (World.cell?_setCell_same _ _ _ (u := v0) (by rw [cell_lat]; exact h4)) (by go_simp) hs hi hn0).mono ?_
  rintro e w' ⟨rfl, δ, rfl⟩
  obtain ⟨δ', hδ⟩ := lat_set_lat (w0 := w0) δ0 δ (.int .i64 n0) (.int .i64 (n0 + if 0 ≤ wl ∧ wl < n.wals.length then side n t (fun i => dr.testBit i) wl.toNat ot.toNat else 0)) h4
  exact ⟨rfl, δ', hδ⟩

theorem bears_c (r : NetR) (n : Net) (rt : TruR) (t : Tru) (i : Nat) (dr : Nat) (B : Nat) (w : World) [hB : Le B w] (h : NetIs B w r n) (ht : okTru n t) (hi : i < n.ancs.length) (hs : dr < 18446744073709551616) :
    Calls Tryd.prog 109 #[rowV r n rt t, .int .i64 i, .int .u64 dr] w fun e w' => e = .returned (.int .i64 (bears n t i (fun k => dr.testBit k))) ∧ ∃ δ, w' = lat w δ := by
  have hv := valid_iff.1 ht.1
  have hw := hv.2.2.2.2.1
  have h6 := hv.2.2.2.1
  have hbd := bears_bd ht (d := fun k => dr.testBit k) hi
  have s1 : ∀ k o, k < n.wals.length → 0 ≤ side n t (fun k => dr.testBit k) k o ∧ side n t (fun k => dr.testBit k) k o ≤ 720 := fun k o hk => side_bd ht hk
  have hX : ∃ X : Int, X = (if (0 : Int) ≤ (i : Int) - 1 ∧ (i : Int) - 1 < n.wals.length then side n t (fun k => dr.testBit k) ((i : Int) - 1).toNat ((i : Int) - 1).toNat else 0) ∧ 0 ≤ X ∧ X ≤ 720 := by
    refine ⟨_, rfl, ?_⟩
    split
    · exact s1 _ _ (by omega)
    · omega
  obtain ⟨X, hX, x0, x1⟩ := hX
  have hE : bears n t i (fun k => dr.testBit k) = X + (if (0 : Int) ≤ (i : Int) ∧ (i : Int) < n.wals.length then side n t (fun k => dr.testBit k) (i : Int).toNat ((i : Int) + 1).toNat else 0) := by
    rw [hX, bears_eq]
    unfold bears
    congr 1
    by_cases h0 : 0 < i
    · rw [if_pos h0, if_pos ⟨h0, by omega⟩]
    · rw [if_neg h0, if_neg (fun h => h0 h.1)]
  have HX := Lib.hid hX
  have HE := Lib.hid hE
  have HW := Lib.hid hw
  clear hX hE s1 hv hw
  go_enter Tryd.func109, Tryd.ntmps109
  go_wp2_with (fail)
  refine wp_set (b := w.heap.size + 1 + 1) (i := 0) (v := .int .i64 0) (by go_simp) ?_
  refine (side_c' n t _ _ w.heap.size _ _ r.wA r.wc dr 0 (.int .i64 0) B _ _ ht h.2.2.up (by omega) (by omega) (by go_simp) (by go_simp) (by go_simp) (by go_simp) (by go_simp) (by go_simp) hs (by have := HW.out; omega) (by omega)).mono ?_
  rintro e w1 ⟨rfl, δ, rfl⟩
  rw [← HX.out, Int.zero_add]
  go_wp2_with (fail)
  refine (side_c' n t _ _ w.heap.size _ _ r.wA r.wc dr X (.int .i64 0) B _ _ ht h.2.2.up (by omega) (by omega) (by go_simp) (by go_simp) (by go_simp) (by go_simp) (by go_simp) (by go_simp) hs (by have := HW.out; omega) (by omega)).mono ?_
  rintro e w1 ⟨rfl, δ1, rfl⟩
  rw [← HE.out]
  go_wp2_with (fail)
  go_ret
  exact ⟨rfl, lat_ex⟩

theorem spare_c (r : NetR) (n : Net) (rt : TruR) (t : Tru) (i : Nat) (dr : Nat) (B : Nat) (w : World) [hB : Le B w] (h : NetIs B w r n) (h' : TruIs B w rt t) (ht : okTru n t) (hi : i < n.ancs.length) (hs : dr < 18446744073709551616) :
    Calls Tryd.prog 78 #[rowV r n rt t, .int .i64 i, .int .u64 dr] w fun e w' => e = .returned (.int .i64 (spare n t i (fun k => dr.testBit k))) ∧ ∃ δ, w' = lat w δ := by
  have hbd := Lib.hid (bears_bd ht (d := fun k => dr.testBit k) hi)
  have hcd := can_bd ht hi
  have l1 := h'.len
  obtain ⟨b, o, hA, hb, k0, k1⟩ := h.2.1.anc hi
  have ib : Lt b w := ⟨Nat.lt_of_lt_of_le hb hB.out⟩
  obtain ⟨b', o', hA', hb', k2⟩ := h'.int hcd.2.2.2.1
  have ib' : Lt b' w := ⟨Nat.lt_of_lt_of_le hb' hB.out⟩
  have hii : (i : Int) < (n.ancs.length : Int) := by omega
  have hi0 : ¬ (i : Int) < 0 := by omega
  have hj0 : (nth n.ancs i).bt < (t.grips.length : Int) := by omega
  have hj1 : ¬ (nth n.ancs i).bt < 0 := by omega
  have HC := Lib.hid hcd
  have HA := Lib.hid hA
  have HA' := Lib.hid hA'
  have H := Lib.hid h
  clear hcd hA hA'
  go_enter Tryd.func78, Tryd.ntmps78
  rw [show rowV r n rt t = Value.agg #[.int .i64 n.wind.lo, .int .i64 n.wind.hi, .int .i64 n.cur.lo, .int .i64 n.cur.hi, .slice r.gA n.grips.length r.gc, .slice r.aA n.ancs.length r.ac, .slice r.wA n.wals.length r.wc, .int .i64 t.wind, .int .i64 t.cur, .slice rt.tA t.grips.length rt.tc] from rfl]
  rw [HA.out, HA'.out]
  go_wp2_with (fail)
  refine wp_region_lat (by kernel_rfl) (by kernel_rfl) ?_
  repeat (go_big_quiet_step ((rw [← HA.out, ← HA'.out]; go_at_call 109; exact Calls.lat_of (bears_c r n rt t i dr B _ H.out.up ht hi hs))))
  refine wpQuiet_nil ?_
  rintro _ ⟨δ, rfl⟩
  go_wp2_with (fail)
  go_ret
  refine ⟨ret_int ?_, lat_ex⟩
  have HC := HC.out
  have hbd := hbd.out
  have e : 2 * (nth n.ancs i).wt * nth t.grips (nth n.ancs i).bt.toNat = can n t i := rfl
  rw [w64 (x := 2 * (nth n.ancs i).wt) (by omega), e, w64 (x := can n t i) (by omega), w64 (by omega)]
  rfl

end Go.Proofs.YtgpcaaknpfopgaaDoor
