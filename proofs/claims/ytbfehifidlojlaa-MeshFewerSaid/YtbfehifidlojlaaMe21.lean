/- Layer 4: MeshFewer. -/
import Derived.Test.YtbfehifidlojlaaMe20
namespace Go.Proofs.Ytbfehifidlojlaa
open Go.RowKit
open Me

/-- A hole's rate narrowed. -/
def fewH (h : Hole) (lo hi : Int) : Hole := ⟨h.fr, lo, hi, h.hr⟩
def fewN (n : Net) (k : Nat) (lo hi : Int) : Net := ⟨n.m, n.hs.set k (fewH (nth n.hs k) lo hi), n.ps⟩
theorem fewN_len (n : Net) (k : Nat) (lo hi : Int) : (fewN n k lo hi).hs.length = n.hs.length := by simp [fewN]
theorem few_narrow {n : Net} {k : Nat} {lo hi : Int} (hk : k < n.hs.length) (h1 : (nth n.hs k).lo ≤ lo) (h2 : hi ≤ (nth n.hs k).hi) : Narrower (fewN n k lo hi) n := by
  refine ⟨rfl, rfl, fewN_len _ _ _ _, fun j hj => ?_⟩
  by_cases hjk : k = j
  · subst hjk
    have : nth (fewN n k lo hi).hs k = fewH (nth n.hs k) lo hi := nth_set_same _ hk _
    rw [this]
    exact ⟨rfl, rfl, h1, h2⟩
  · have : nth (fewN n k lo hi).hs j = nth n.hs j := nth_set_ne _ hjk _
    rw [this]
    exact ⟨rfl, rfl, Int.le_refl _, Int.le_refl _⟩
theorem few_valid {n : Net} {k : Nat} {lo hi : Int} (hv : valid n = true) (hk : k < n.hs.length) (h0 : lo ≤ hi) (h1 : (nth n.hs k).lo ≤ lo) (h2 : hi ≤ (nth n.hs k).hi) : valid (fewN n k lo hi) = true := by
  obtain ⟨a1, a2, a3, a4, a5, a6⟩ := valid_iff.1 hv
  have hn := few_narrow hk h1 h2
  refine valid_iff.2 ⟨a1, by rw [fewN_len]; exact a2, a3, ?_, by rw [fewN_len]; exact a5, ?_⟩
  · refine List.all_eq_true.2 fun x hx => ?_
    rcases List.mem_or_eq_of_mem_set hx with hx | rfl
    · exact List.all_eq_true.1 a4 x hx
    · have b := okHole_iff.1 (okHoles_at a4 hk)
      refine okHole_iff.2 ?_
      unfold fewH
      simp only
      omega
  · unfold hasO at a6 ⊢
    rw [narrow_allO hn]
    exact a6

theorem lReady4_c (r : NetR) (n : Net) (b : Bool) (hb : readyL n 4 = b) (B : Nat) (w : World) (hN : NetIs B w r n) [hB : Le B w] :
    Calls Try.prog 14 #[netV r n, .int .i64 4] w fun e w' => e = .returned (.bool b) ∧ ∃ δ, w' = lat w δ := lReady_c r n 4 (by omega) b hb B w hN

/-- The law where its guards let it go. -/
structure FewOk (n : Net) (h lo hi : Int) (l : List Int) (k : Nat) : Prop where
  rd : readyL n 4 = true
  ll : l.length ≤ 40
  hk : k < n.hs.length
  hh : h = (k : Int)
  h0 : lo ≤ hi
  h1 : (nth n.hs k).lo ≤ lo
  h2 : hi ≤ (nth n.hs k).hi

/-! ### Where a guard keeps the law from going -/
abbrev partV (h lo hi : Int) : Value := .agg #[.int .i64 h, .int .i64 lo, .int .i64 hi]
set_option maxRecDepth 100000 in
set_option maxHeartbeats 4000000 in
theorem fewNo1_c (r : NetR) (n : Net) (h lo hi : Int) (A : Option Addr) (c : Nat) (l : List Int) (B : Nat) (w : World) [hB : Le B w] (hN : NetIs B w r n) (hS : Sl encI B w A c l) (hr : readyL n 4 = false) :
    Calls Try.prog 3 #[netV r n, partV h lo hi, .slice A l.length c] w fun e w' => e = .returned (.bool true) ∧ ∃ δ, w' = lat w δ := by
  have HN := Lib.hid hN
  have HR := Lib.hid hr
  clear hN hr
  go_enter Try.func3, Try.ntmps3
  go_wp2_with (fail)
  refine wp_region_lat (by kernel_rfl) (by kernel_rfl) ?_
  repeat (go_big_quiet_step ((first | (go_at_call 14; exact Calls.lat_of (lReady4_c r n _ HR.out B _ HN.out.up)))))
  refine wpQuiet_nil ?_
  rintro _ ⟨δq, rfl⟩
  go_wp2_with (go_at_call 16; refine (works_c _).mono ?_; rintro e w1 ⟨rfl, δ, rfl⟩)
  go_ret
  exact ⟨rfl, lat_ex⟩

set_option maxRecDepth 100000 in
set_option maxHeartbeats 4000000 in
theorem fewNo2_c (r : NetR) (n : Net) (h lo hi : Int) (A : Option Addr) (c : Nat) (l : List Int) (B : Nat) (w : World) [hB : Le B w] (hN : NetIs B w r n) (hS : Sl encI B w A c l) (hr : readyL n 4 = true) (hl : 40 < l.length) :
    Calls Try.prog 3 #[netV r n, partV h lo hi, .slice A l.length c] w fun e w' => e = .returned (.bool true) ∧ ∃ δ, w' = lat w δ := by
  have l1 := hS.len
  have HN := Lib.hid hN
  have HR := Lib.hid hr
  have hg : (40 : Int) < (l.length : Int) := by omega
  clear hN hr
  go_enter Try.func3, Try.ntmps3
  go_wp2_with (fail)
  refine wp_region_lat (by kernel_rfl) (by kernel_rfl) ?_
  repeat (go_big_quiet_step ((first | (go_at_call 14; exact Calls.lat_of (lReady4_c r n _ HR.out B _ HN.out.up)))))
  refine wpQuiet_nil ?_
  rintro _ ⟨δq, rfl⟩
  go_wp2_with (go_at_call 16; refine (works_c _).mono ?_; rintro e w1 ⟨rfl, δ, rfl⟩)
  go_ret
  exact ⟨rfl, lat_ex⟩

set_option maxRecDepth 100000 in
set_option maxHeartbeats 4000000 in
theorem fewNo3_c (r : NetR) (n : Net) (h lo hi : Int) (A : Option Addr) (c : Nat) (l : List Int) (B : Nat) (w : World) [hB : Le B w] (hN : NetIs B w r n) (hS : Sl encI B w A c l) (hr : readyL n 4 = true) (hl : l.length ≤ 40) (hh : inB 0 ((n.hs.length : Int) - 1) h = false) :
    Calls Try.prog 3 #[netV r n, partV h lo hi, .slice A l.length c] w fun e w' => e = .returned (.bool true) ∧ ∃ δ, w' = lat w δ := by
  have HN := Lib.hid hN
  have HR := Lib.hid hr
  have HH := Lib.hid hh
  have hg : decide ((40 : Int) < (l.length : Int)) = false := by simp; omega
  clear hN hr hh
  go_enter Try.func3, Try.ntmps3
  go_wp2_with (fail)
  refine wp_region_lat (by kernel_rfl) (by kernel_rfl) ?_
  repeat (go_big_quiet_step ((first | (go_at_call 14; exact Calls.lat_of (lReady4_c r n _ HR.out B _ HN.out.up)) | (go_at_call 15; exact Calls.lat_of (rIsHole_c r n h _ HH.out B _ HN.out.up)))))
  refine wpQuiet_nil ?_
  rintro _ ⟨δq, rfl⟩
  go_wp2_with (go_at_call 16; refine (works_c _).mono ?_; rintro e w1 ⟨rfl, δ, rfl⟩)
  go_ret
  exact ⟨rfl, lat_ex⟩

set_option maxRecDepth 100000 in
set_option maxHeartbeats 4000000 in
theorem fewNo4_c (r : NetR) (n : Net) (h lo hi : Int) (A : Option Addr) (c : Nat) (l : List Int) (B : Nat) (w : World) [hB : Le B w] (hN : NetIs B w r n) (hS : Sl encI B w A c l) (hr : readyL n 4 = true) (hl : l.length ≤ 40) (hh : inB 0 ((n.hs.length : Int) - 1) h = true)
    (hb : hi < lo ∨ (lo ≤ hi ∧ lo < (nth n.hs h.toNat).lo) ∨ (lo ≤ hi ∧ ¬ lo < (nth n.hs h.toNat).lo ∧ (nth n.hs h.toNat).hi < hi)) :
    Calls Try.prog 3 #[netV r n, partV h lo hi, .slice A l.length c] w fun e w' => e = .returned (.bool true) ∧ ∃ δ, w' = lat w δ := by
  have h' := inB_iff.1 hh
  obtain ⟨k, rfl⟩ : ∃ k : Nat, h = (k : Int) := ⟨h.toNat, by omega⟩
  rw [Int.toNat_natCast] at hb
  obtain ⟨b', o, hA, hb', hc0, hc1, hc2, hc3⟩ := hN.1.hole (k := k) (by omega)
  obtain ⟨rhA, rhc, rpA, rpc⟩ := r
  simp only at hA
  subst hA
  have ib : Lt b' w := ⟨Nat.lt_of_lt_of_le hb' hB.out⟩
  have HN := Lib.hid hN
  have HR := Lib.hid hr
  have HH := Lib.hid hh
  have hg : decide ((40 : Int) < (l.length : Int)) = false := by simp; omega
  have hki : (k : Int) < (n.hs.length : Int) := by omega
  have hk0 : ¬ (k : Int) < 0 := by omega
  clear hN hr hh h'
  obtain ⟨x, hxe⟩ : ∃ x, x = nth n.hs k := ⟨_, rfl⟩
  rw [← hxe] at hc0 hc1 hc2 hc3 hb
  clear hxe
  obtain ⟨fr, lo', hi', hr⟩ := x
  simp only at hc0 hc1 hc2 hc3 hb
  rcases hb with hb | ⟨hb0, hb⟩ | ⟨hb0, hb1, hb⟩
  · have d1 : decide (hi < lo) = true := decide_eq_true hb
    go_enter Try.func3, Try.ntmps3
    go_wp2_with (fail)
    refine wp_region_lat (by kernel_rfl) (by kernel_rfl) ?_
    repeat (go_big_quiet_step ((first | (go_at_call 14; exact Calls.lat_of (lReady4_c ⟨some ⟨b', o, none⟩, rhc, rpA, rpc⟩ n _ HR.out B _ HN.out.up)) | (go_at_call 15; exact Calls.lat_of (rIsHole_c ⟨some ⟨b', o, none⟩, rhc, rpA, rpc⟩ n k _ HH.out B _ HN.out.up)))))
    refine wpQuiet_nil ?_
    rintro _ ⟨δq, rfl⟩
    go_wp2_with (go_at_call 16; refine (works_c _).mono ?_; rintro e w1 ⟨rfl, δ, rfl⟩)
    go_ret
    exact ⟨rfl, lat_ex⟩
  · have d1 : decide (hi < lo) = false := decide_eq_false (by omega)
    have d2 : decide (lo < lo') = true := decide_eq_true hb
    go_enter Try.func3, Try.ntmps3
    go_wp2_with (fail)
    refine wp_region_lat (by kernel_rfl) (by kernel_rfl) ?_
    repeat (go_big_quiet_step ((first | (go_at_call 14; exact Calls.lat_of (lReady4_c ⟨some ⟨b', o, none⟩, rhc, rpA, rpc⟩ n _ HR.out B _ HN.out.up)) | (go_at_call 15; exact Calls.lat_of (rIsHole_c ⟨some ⟨b', o, none⟩, rhc, rpA, rpc⟩ n k _ HH.out B _ HN.out.up)))))
    refine wpQuiet_nil ?_
    rintro _ ⟨δq, rfl⟩
    go_wp2_with (go_at_call 16; refine (works_c _).mono ?_; rintro e w1 ⟨rfl, δ, rfl⟩)
    go_ret
    exact ⟨rfl, lat_ex⟩
  · have d1 : decide (hi < lo) = false := decide_eq_false (by omega)
    have d2 : decide (lo < lo') = false := decide_eq_false hb1
    have d3 : decide (hi' < hi) = true := decide_eq_true hb
    go_enter Try.func3, Try.ntmps3
    go_wp2_with (fail)
    refine wp_region_lat (by kernel_rfl) (by kernel_rfl) ?_
    repeat (go_big_quiet_step ((first | (go_at_call 14; exact Calls.lat_of (lReady4_c ⟨some ⟨b', o, none⟩, rhc, rpA, rpc⟩ n _ HR.out B _ HN.out.up)) | (go_at_call 15; exact Calls.lat_of (rIsHole_c ⟨some ⟨b', o, none⟩, rhc, rpA, rpc⟩ n k _ HH.out B _ HN.out.up)))))
    refine wpQuiet_nil ?_
    rintro _ ⟨δq, rfl⟩
    go_wp2_with (go_at_call 16; refine (works_c _).mono ?_; rintro e w1 ⟨rfl, δ, rfl⟩)
    go_ret
    exact ⟨rfl, lat_ex⟩

end Go.Proofs.Ytbfehifidlojlaa
