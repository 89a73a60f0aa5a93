/- Layer 2: the walks of Load of the reference, of Upright. -/
import Derived.Test.YtgpcaaknpfopgaaDoorAn28
import Derived.Outline
namespace Go.Proofs.YtgpcaaknpfopgaaDoor
open Go.RowKit
open An

set_option maxRecDepth 100000 in
set_option maxHeartbeats 4000000 in
theorem rLoad_c (r : NetR) (n : Net) (wall wi cu : Int) (B : Nat) (w : World) [hB : Le B w] (h : NetIs B w r n) :
    Calls Tryd.prog 41 #[netV r n, .int .i64 wall, .int .i64 wi, .int .i64 cu] w fun e w' => e = .returned (.tuple #[.int .i64 (loadV n wall wi cu), .int .i64 (askE (valid n) (inB 0 (n.wals.length - 1) wall && (inB 0 20 wi && inB 0 20 cu)))]) ∧ ∃ δ, w' = lat w δ := by
  have H := Lib.hid h
  clear h
  by_cases hv : valid n = true
  all_goals try rw [Bool.not_eq_true] at hv
  all_goals
    by_cases h1 : inB 0 (n.wals.length - 1) wall = true
    all_goals try rw [Bool.not_eq_true] at h1
  all_goals
    by_cases h2 : inB 0 20 wi = true
    all_goals try rw [Bool.not_eq_true] at h2
  all_goals
    by_cases h3 : inB 0 20 cu = true
    all_goals try rw [Bool.not_eq_true] at h3
  all_goals
    have HV := Lib.hid hv
    have H1 := Lib.hid h1
    have H2 := Lib.hid h2
    have H3 := Lib.hid h3
    have HF := Lib.hid (show loadV n wall wi cu = if valid n && (inB 0 (n.wals.length - 1) wall && (inB 0 20 wi && inB 0 20 cu)) then ldW (nth n.wals wall.toNat) wi cu else 0 by unfold loadV; rw [Bool.and_assoc (inB 0 (n.wals.length - 1) wall)])
    rw [hv, h1, h2, h3] at HF ⊢
    clear hv h1 h2 h3
  · have h1' := inB_iff.1 H1.out
    obtain ⟨k, rfl⟩ := Int.eq_ofNat_of_zero_le h1'.1
    have hk : k < n.wals.length := by omega
    have HX := Lib.hid (okWal_nth HV.out hk)
    obtain ⟨gA, gc, aA, ac, wA, wc⟩ := r
    obtain ⟨b, o, hA, hb, d0, d1, d2, d3, d4⟩ := H.out.2.2.wal hk
    have hA' : wA = some ⟨b, o, none⟩ := hA
    subst hA'
    clear hA
    rw [show netV ⟨gA, gc, aA, ac, some ⟨b, o, none⟩, wc⟩ n = Value.agg #[.int .i64 n.wind.lo, .int .i64 n.wind.hi, .int .i64 n.cur.lo, .int .i64 n.cur.hi, .slice gA n.grips.length gc, .slice aA n.ancs.length ac, .slice (some ⟨b, o, none⟩) n.wals.length wc] from rfl]
    have ib : Lt b w := ⟨Nat.lt_of_lt_of_le hb hB.out⟩
    have hk0 : ¬ (k : Int) < 0 := by omega
    have hki : (k : Int) < (n.wals.length : Int) := by omega
    go_enter Tryd.func41, Tryd.ntmps41
    go_wp2_with (fail)
    refine wp_region_lat (by kernel_rfl) (by kernel_rfl) ?_
    repeat (go_big_quiet_step ((first | (go_at_call 26; exact Calls.lat_of (rIsWall_is (r := ⟨gA, gc, aA, ac, some ⟨b, o, none⟩, wc⟩) H1.out H.out.up)) | (go_at_call 93; with_reducible exact Calls.lat_of (rIsForce_is H2.out)) | (go_at_call 93; with_reducible exact Calls.lat_of (rIsForce_is H3.out)) | (go_at_call 92; exact Calls.lat_of (rAsk_is (r := ⟨gA, gc, aA, ac, some ⟨b, o, none⟩, wc⟩) (by rw [HV.out]) H.out.up)))))
    refine wpQuiet_nil ?_
    rintro _ ⟨δq, rfl⟩
    go_wp2_with (go_at_call 94; refine (rLoadOf_c (nth n.wals k) wi cu _ HX.out H2.out H3.out).mono ?_; rintro e w1 ⟨rfl, δ3, rfl⟩)
    go_ret2
    exact ⟨ret2 (int_eq (by rw [HF.out]; rfl)) rfl, lat_ex⟩
  all_goals
    go_enter Tryd.func41, Tryd.ntmps41
    go_wp2_with (fail)
    refine wp_region_lat (by kernel_rfl) (by kernel_rfl) ?_
    repeat (go_big_quiet_step ((first | (go_at_call 26; exact Calls.lat_of (rIsWall_is H1.out H.out.up)) | (go_at_call 93; with_reducible exact Calls.lat_of (rIsForce_is H2.out)) | (go_at_call 93; with_reducible exact Calls.lat_of (rIsForce_is H3.out)) | (go_at_call 92; exact Calls.lat_of (rAsk_is (by rw [HV.out]) H.out.up)))))
    refine wpQuiet_nil ?_
    rintro _ ⟨δq, rfl⟩
    go_wp2_with (fail)
    go_ret2
    exact ⟨ret2 (int_eq (by rw [HF.out]; rfl)) rfl, lat_ex⟩

end Go.Proofs.YtgpcaaknpfopgaaDoor
