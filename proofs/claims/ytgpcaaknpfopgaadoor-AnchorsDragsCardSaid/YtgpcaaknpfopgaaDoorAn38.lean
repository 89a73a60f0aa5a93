/- Layer 2: the walks of First, Drags, Pulled and Key of the reference. -/
import Derived.Test.YtgpcaaknpfopgaaDoorAnPlain7
import Derived.Test.YtgpcaaknpfopgaaDoorAn33
import Derived.Outline
namespace Go.Proofs.YtgpcaaknpfopgaaDoor
open Go.RowKit
open An

theorem rIsTruth_is {n : Net} {t : Tru} {b : Bool} (hb : truB n t = b) {r : NetR} {rt : TruR} {B : Nat} {w : World} [hB : Le B w] (h : NetIs B w r n) (h' : TruIs B w rt t) :
    Calls Tryd.prog 71 #[netV r n, truV rt t] w fun e w' => e = .returned (.bool b) ∧ ∃ δ, w' = lat w δ := by
  subst hb; exact rIsTruth_c r n rt t B w h h'

set_option maxRecDepth 100000 in
set_option maxHeartbeats 4000000 in
theorem rGiven_c (r : NetR) (n : Net) (rt : TruR) (t : Tru) (B : Nat) (w : World) [hB : Le B w] (h : NetIs B w r n) (h' : TruIs B w rt t) :
    Calls Tryd.prog 107 #[netV r n, truV rt t] w fun e w' => e = .returned (.int .i64 (askE (valid n) (truB n t))) ∧ ∃ δ, w' = lat w δ := by
  have H := Lib.hid h
  have H' := Lib.hid h'
  clear h h'
  by_cases hv : valid n = true
  all_goals try rw [Bool.not_eq_true] at hv
  all_goals
    by_cases ht : truB n t = true
    all_goals try rw [Bool.not_eq_true] at ht
  all_goals
    have HV := Lib.hid hv
    have HT := Lib.hid ht
    rw [hv, ht]
    clear hv ht
    go_enter Tryd.func107, Tryd.ntmps107
    go_wp2_with (go_at_call 39; refine (rCheck_c r n B _ H.out.up).mono ?_; rw [HV.out]; rintro e w1 ⟨rfl, δ, rfl⟩)
  · have hv1 := HV
    refine wp_region_lat (by kernel_rfl) (by kernel_rfl) ?_
    repeat (go_big_quiet_step ((first | (go_at_call 71; exact Calls.lat_of (rIsTruth_is HT.out H.out.up H'.out.up)) | (go_at_call 92; exact Calls.lat_of (rAsk_is (by rw [HV.out]) H.out.up)))))
    refine wpQuiet_nil ?_
    rintro _ ⟨δq, rfl⟩
    go_wp2_with (fail)
    go_ret
    exact ⟨rfl, lat_ex⟩
  · have hv1 := HV
    refine wp_region_lat (by kernel_rfl) (by kernel_rfl) ?_
    repeat (go_big_quiet_step ((first | (go_at_call 71; exact Calls.lat_of (rIsTruth_is HT.out H.out.up H'.out.up)) | (go_at_call 92; exact Calls.lat_of (rAsk_is (by rw [HV.out]) H.out.up)))))
    refine wpQuiet_nil ?_
    rintro _ ⟨δq, rfl⟩
    go_wp2_with (fail)
    go_ret
    exact ⟨rfl, lat_ex⟩
  all_goals
    go_ret
    exact ⟨rfl, lat_ex⟩

def ListPost (L : List Int) (x : Int) (w : World) (e : Ending) (w' : World) : Prop := ∃ (A : Option Addr) (c : Nat) (δ : World), e = .returned (.tuple #[.slice A L.length c, .int .i64 x]) ∧ w' = lat w δ ∧ Sl encI (lat w δ).heap.size (lat w δ) A c L

set_option maxRecDepth 100000 in
set_option maxHeartbeats 4000000 in
theorem rFirst_c (r : NetR) (n : Net) (rt : TruR) (t : Tru) (B : Nat) (w : World) [hB : Le B w] (h : NetIs B w r n) (h' : TruIs B w rt t) :
    Calls Tryd.prog 58 #[netV r n, truV rt t] w (ListPost (firstV n t) (askE (valid n) (truB n t)) w) := by
  have H := Lib.hid h
  have H' := Lib.hid h'
  clear h h'
  by_cases hv : valid n = true
  all_goals try rw [Bool.not_eq_true] at hv
  all_goals
    by_cases ht : truB n t = true
    all_goals try rw [Bool.not_eq_true] at ht
  all_goals
    have HV := Lib.hid hv
    have HT := Lib.hid ht
    have HF := Lib.hid (show firstV n t = if valid n && truB n t then listM (stepM n t 0) else [] from rfl)
    rw [hv, ht] at HF ⊢
  · have HF2 := Lib.hid (firstV_eq hv ht)
    have HK := Lib.hid (okTru_of hv ht)
    clear hv ht
    go_enter Tryd.func58, Tryd.ntmps58
    go_wp2_with (first
      | (go_at_call 107; refine (rGiven_c r n rt t B _ H.out.up H'.out.up).mono ?_; rw [HV.out, HT.out]; rintro e w1 ⟨rfl, δ, rfl⟩)
      | (go_at_call 108; refine (more_c r n rt t none 0 [] B _ H.out.up H'.out.up Sl.none_ HK.out).mono ?_; rw [← HF2.out]; rintro e w1 ⟨A, c, δ1, rfl, rfl, hS⟩))
    go_ret2
    unfold ListPost
    exact ⟨A, c, _, rfl, lat_def, sl_def hS⟩
  all_goals
    clear hv ht
    go_enter Tryd.func58, Tryd.ntmps58
    go_wp2_with (go_at_call 107; refine (rGiven_c r n rt t B _ H.out.up H'.out.up).mono ?_; rw [HV.out, HT.out]; rintro e w1 ⟨rfl, δ, rfl⟩)
    go_ret2
    unfold ListPost
    rw [HF.out]
    exact ⟨none, 0, _, rfl, lat_def, Sl.none_⟩

set_option maxRecDepth 100000 in
set_option maxHeartbeats 4000000 in
theorem rDrags_c (r : NetR) (n : Net) (rt : TruR) (t : Tru) (B : Nat) (w : World) [hB : Le B w] (h : NetIs B w r n) (h' : TruIs B w rt t) :
    Calls Tryd.prog 60 #[netV r n, truV rt t] w (ListPost (dragsV n t) (askE (valid n) (truB n t)) w) := by
  have H := Lib.hid h
  have H' := Lib.hid h'
  clear h h'
  by_cases hv : valid n = true
  all_goals try rw [Bool.not_eq_true] at hv
  all_goals
    by_cases ht : truB n t = true
    all_goals try rw [Bool.not_eq_true] at ht
  all_goals
    have HV := Lib.hid hv
    have HT := Lib.hid ht
    have HF := Lib.hid (show dragsV n t = if valid n && truB n t then listB (lastB n t fun _ => false) else [] from rfl)
    rw [hv, ht] at HF ⊢
  · have HF2 := Lib.hid (dragsV_at hv ht)
    have HK := Lib.hid (okTru_of hv ht)
    clear hv ht
    go_enter Tryd.func60, Tryd.ntmps60
    go_wp2_with (first
      | (go_at_call 107; refine (rGiven_c r n rt t B _ H.out.up H'.out.up).mono ?_; rw [HV.out, HT.out]; rintro e w1 ⟨rfl, δ, rfl⟩)
      | (go_at_call 98; refine (atLast0_c r n rt t B _ H.out.up H'.out.up HK.out).mono ?_; unfold AtLastPost; rw [← HF2.out]; rintro e w1 ⟨A, c, δ1, rfl, rfl, hS⟩))
    go_ret2
    unfold ListPost
    exact ⟨A, c, _, rfl, lat_def, sl_def hS⟩
  all_goals
    clear hv ht
    go_enter Tryd.func60, Tryd.ntmps60
    go_wp2_with (go_at_call 107; refine (rGiven_c r n rt t B _ H.out.up H'.out.up).mono ?_; rw [HV.out, HT.out]; rintro e w1 ⟨rfl, δ, rfl⟩)
    go_ret2
    unfold ListPost
    rw [HF.out]
    exact ⟨none, 0, _, rfl, lat_def, Sl.none_⟩

/-- AtLast when one has dragged before all others; its list was written out somewhere. -/
theorem atLast1_c (r : NetR) (n : Net) (rt : TruR) (t : Tru) (i : Nat) (g : Nat) (B : Nat) (w : World) [hB : Le B w] [hg : Lt g w] (h : NetIs B w r n) (h' : TruIs B w rt t) (ht : okTru n t) (hi : i < n.ancs.length) (hc : w.cell? ⟨g, 0, none⟩ = some (.int .i64 i)) :
    Calls Tryd.prog 98 #[netV r n, truV rt t, .slice (some ⟨g, 0, none⟩) 1 1] w (AtLastPost n t (single i) w) := by
  have e := single_range hi
  refine atLast_all n t ht n.ancs.length r rt (single i) (some ⟨g, 0, none⟩) 1 w.heap.size w ⟨Nat.le_refl _⟩ (h.more hB.out) (h'.more hB.out) ?_ (single_lt hi) (by omega) 1 (by rw [e]; rfl)
  rw [e]
  refine ⟨Nat.le_refl _, by omega, fun _ => ⟨g, 0, rfl, hg.out, fun j v hj => ?_⟩⟩
  cases j with
  | zero => simp [encI] at hj; subst hj; exact hc
  | succ j => simp [encI] at hj

set_option maxRecDepth 100000 in
set_option maxHeartbeats 4000000 in
theorem rPulled_c (r : NetR) (n : Net) (rt : TruR) (t : Tru) (i : Int) (B : Nat) (w : World) [hB : Le B w] (h : NetIs B w r n) (h' : TruIs B w rt t) :
    Calls Tryd.prog 61 #[netV r n, truV rt t, .int .i64 i] w (ListPost (pulledV n t i) (askE (valid n) (truB n t && inB 0 ((n.ancs.length : Int) - 1) i)) w) := by
  have H := Lib.hid h
  have H' := Lib.hid h'
  clear h h'
  by_cases hv : valid n = true
  all_goals try rw [Bool.not_eq_true] at hv
  all_goals
    by_cases ht : truB n t = true
    all_goals try rw [Bool.not_eq_true] at ht
  all_goals
    by_cases h1 : inB 0 ((n.ancs.length : Int) - 1) i = true
    all_goals try rw [Bool.not_eq_true] at h1
  all_goals
    have HV := Lib.hid hv
    have HT := Lib.hid ht
    have H1 := Lib.hid h1
    have HF := Lib.hid (show pulledV n t i = if valid n && (truB n t && inB 0 ((n.ancs.length : Int) - 1) i) then pulL n t i.toNat else [] from rfl)
    rw [hv, ht, h1] at HF ⊢
    clear hv ht h1
  · have h1' := inB_iff.1 H1.out
    obtain ⟨k, rfl⟩ := Int.eq_ofNat_of_zero_le h1'.1
    have hk : k < n.ancs.length := by omega
    have HK := Lib.hid (okTru_of HV.out HT.out)
    clear h1'
    go_enter Tryd.func61, Tryd.ntmps61
    go_wp2_with (first
      | (go_at_call 107; refine (rGiven_c r n rt t B _ H.out.up H'.out.up).mono ?_; rw [HV.out, HT.out]; rintro e w1 ⟨rfl, δ, rfl⟩)
      | (go_at_call 27; refine (rIsAnchor_is H1.out H.out.up).mono ?_; rintro e w1 ⟨rfl, δ1, rfl⟩)
      | (go_at_call 98; refine (atLast1_c r n rt t k _ B _ H.out.up H'.out.up HK.out hk (by go_simp)).mono ?_; unfold AtLastPost; rintro e w1 ⟨A, c, δ2, rfl, rfl, hS⟩))
    go_ret2
    unfold ListPost
    rw [HF.out]
    exact ⟨A, c, _, rfl, lat_def, sl_def hS⟩
  all_goals
    go_enter Tryd.func61, Tryd.ntmps61
    go_wp2_with (first
      | (go_at_call 107; refine (rGiven_c r n rt t B _ H.out.up H'.out.up).mono ?_; rw [HV.out, HT.out]; rintro e w1 ⟨rfl, δ, rfl⟩)
      | (go_at_call 27; refine (rIsAnchor_is H1.out H.out.up).mono ?_; rintro e w1 ⟨rfl, δ1, rfl⟩))
    go_ret2
    unfold ListPost
    rw [HF.out]
    exact ⟨none, 0, _, rfl, lat_def, Sl.none_⟩

end Go.Proofs.YtgpcaaknpfopgaaDoor
