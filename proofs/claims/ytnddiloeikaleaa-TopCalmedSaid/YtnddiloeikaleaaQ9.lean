/- Towards the claim of XLawCalmed: Layer 13, for the calm sky: how seasons lie in memory; Rising with both answers; the reference's within, isSpan, areSkies, IsSky. Layer 13, for the calm sky: the reference's areSkies, IsSky, Check. -/
import Derived.Test.YtnddiloeikaleaaQ6
import Derived.Test.YtnddiloeikaleaaQ8
import Derived.Test.YtnddiloeikaleaaQ2
namespace Go.Proofs.Ytnddiloeikaleaa
open Go.RowKit
open An
open Tc

def encSky (x : Sky) : List Value := [.int .i64 x.wind.lo, .int .i64 x.wind.hi, .int .i64 x.cur.lo, .int .i64 x.cur.hi]
structure SeasonR where
  net : NetR
  sea : SeaR
  kA : Option Addr
  kc : Nat
  fA : Option Addr
  fc : Nat
  iA : Option Addr
  ic : Nat
  dA : Option Addr
  dc : Nat
abbrev seasonV (r : SeasonR) (s : Season) : Value := .agg #[.int .i64 s.net.wind.lo, .int .i64 s.net.wind.hi, .int .i64 s.net.cur.lo, .int .i64 s.net.cur.hi, .slice r.net.gA s.net.grips.length r.net.gc, .slice r.net.aA s.net.ancs.length r.net.ac, .slice r.net.wA s.net.wals.length r.net.wc,
  .int .i64 s.sea.wt.lo, .int .i64 s.sea.wt.hi, .slice r.sea.pA s.sea.places.length r.sea.pc, .slice r.sea.bA s.sea.boats.length r.sea.bc, .slice r.kA s.skies.length r.kc, .slice r.fA s.follows.length r.fc, .slice r.iA s.first.length r.ic, .slice r.dA s.days.length r.dc]
structure SeasonIs (B : Nat) (w : World) (r : SeasonR) (s : Season) : Prop where
  net : NetIs B w r.net s.net
  sea : SeaIs B w r.sea s.sea
  skies : Sl encSky B w r.kA r.kc s.skies
  follows : SlL encI B w r.fA r.fc s.follows
  first : Sl encI B w r.iA r.ic s.first
  days : Sl encSp B w r.dA r.dc s.days
theorem SeasonIs.up {B : Nat} {w w' : World} {r : SeasonR} {s : Season} (h : SeasonIs B w r s) [hg : Grew B w w'] : SeasonIs B w' r s := ⟨h.net.up, h.sea.up, h.skies.up, h.follows.up, h.first.up, h.days.up⟩
theorem Sl.sky {B : Nat} {w : World} {A : Option Addr} {c : Nat} {xs : List Sky} (h : Sl encSky B w A c xs) {k : Nat} (hk : k < xs.length) : ∃ b o, A = some ⟨b, o, none⟩ ∧ b < B ∧ w.cell? ⟨b, o + k * 4, none⟩ = some (.int .i64 (nth xs k).wind.lo) ∧ w.cell? ⟨b, o + k * 4 + 1, none⟩ = some (.int .i64 (nth xs k).wind.hi) ∧ w.cell? ⟨b, o + k * 4 + 2, none⟩ = some (.int .i64 (nth xs k).cur.lo) ∧ w.cell? ⟨b, o + k * 4 + 3, none⟩ = some (.int .i64 (nth xs k).cur.hi) := by
  obtain ⟨b, o, hA, hb, hc⟩ := h.at_ (size := 4) (fun _ => rfl) hk (by omega)
  rw [nth_get _ hk]
  exact ⟨b, o, hA, hb, hc 0 _ rfl, hc 1 _ rfl, hc 2 _ rfl, hc 3 _ rfl⟩

set_option maxRecDepth 100000 in
set_option maxHeartbeats 4000000 in
theorem risingB_c (A : Option Addr) (c : Nat) (xs : List Int) (lo hi : Int) (B : Nat) (w : World) [hB : Le B w] (h : Sl encI B w A c xs) (ln : Nat) (hn : xs.length = ln) :
    Calls Try.prog 43 #[.slice A ln c, .int .i64 lo, .int .i64 hi] w fun e w' => e = .returned (.bool (risesB xs lo hi)) ∧ ∃ δ, w' = lat w δ := by
  subst hn
  have hl := h.len
  obtain ⟨v, hv⟩ : ∃ v, risesB xs lo hi = v := ⟨_, rfl⟩
  have HV := Lib.hid hv
  rw [hv]
  clear hv
  go_enter Try.func43, Try.ntmps43
  go_wp2_with (fail)
  go_loopg [7] xs.length (fun g i wr => ∃ (k : Nat) (δ : World), k ≤ xs.length ∧ g = xs.length - k ∧ i = .int .i64 k ∧ wr = lat w δ ∧ Hid (risesTo xs lo hi k = true))
  case atStart => exact ⟨0, w, Nat.zero_le _, rfl, rfl, (lat_refl w).symm, rfl⟩
  case round =>
    obtain ⟨k, δ, hk, rfl, rfl, rfl, HR⟩ := hrel
    by_cases hlt : k < xs.length
    · obtain ⟨b, o, rfl, hb, d0⟩ := h.int hlt
      have ib : Lt b w := ⟨Nat.lt_of_lt_of_le hb hB.out⟩
      have hki : (k : Int) < (xs.length : Int) := by omega
      have hk0 : ¬ (k : Int) < 0 := by omega
      rcases hw : inB lo hi (nth xs k) with _ | _
      · have HW := Lib.hid hw
        have HN := Lib.hid (risesB_no (lo := lo) (hi := hi) hlt (by rw [hw]; rfl))
        clear hw
        go_wp2_with (fail)
        refine wp_region_lat (by kernel_rfl) (by kernel_rfl) ?_
        repeat (go_big_quiet_step ((first | (go_at_call 14; exact Calls.lat_same (within_is HW.out _)))))
        refine wpQuiet_nil ?_
        rintro _ ⟨δq, rfl⟩
        go_wp2_with (fail)
        go_ret
        exact ⟨ret_bool (by rw [← HV.out, HN.out]), lat_ex⟩
      · have HW := Lib.hid hw
        rcases Nat.eq_zero_or_pos k with h0 | h0
        · subst h0
          have HS : Hid (risesTo xs lo hi 1 = true) := Lib.hid (by rw [risesTo_succ, HR.out, hw]; rfl)
          clear hw HR
          rw [Nat.add_zero] at d0
          go_wp2_with (fail)
          refine wp_region_lat (by kernel_rfl) (by kernel_rfl) ?_
          repeat (go_big_quiet_step ((first | (go_at_call 14; exact Calls.lat_same (within_is HW.out _)))))
          refine wpQuiet_nil ?_
          rintro _ ⟨δq, rfl⟩
          go_wp2_with (fail)
          go_roundg (xs.length - 1)
          case measure => omega
          case rel => exact ⟨1, _, by omega, rfl, by go_num, lat_def, HS⟩
        · obtain ⟨j, rfl⟩ : ∃ j, k = j + 1 := ⟨k - 1, by omega⟩
          obtain ⟨b', o', hA', hb', d1⟩ := h.int (show j < xs.length by omega)
          injection hA' with hA'
          injection hA' with hA1 hA2
          subst hA1 hA2
          have hj0 : ¬ ((j : Int) < 0) := by omega
          have hj1 : (j : Int) < (xs.length : Int) := by omega
          by_cases hle : nth xs (j + 1) ≤ nth xs j
          · have HN := Lib.hid (risesB_no (lo := lo) (hi := hi) hlt (by rw [hw]; simp; exact hle))
            clear hw HR
            have hdn : decide (nth xs (j + 1) ≤ nth xs j) = true := by simpa using hle
            go_wp2_with (fail)
            refine wp_region_lat (by kernel_rfl) (by kernel_rfl) ?_
            repeat (go_big_quiet_step ((first | (go_at_call 14; exact Calls.lat_same (within_is HW.out _)))))
            refine wpQuiet_nil ?_
            rintro _ ⟨δq, rfl⟩
            go_wp2_with (fail)
            go_ret
            exact ⟨ret_bool (by rw [← HV.out, HN.out]), lat_ex⟩
          · have HS : Hid (risesTo xs lo hi (j + 1 + 1) = true) := Lib.hid (by rw [risesTo_succ, HR.out, hw]; simp; omega)
            clear hw HR
            have hdn : decide (nth xs (j + 1) ≤ nth xs j) = false := by simpa using hle
            go_wp2_with (fail)
            refine wp_region_lat (by kernel_rfl) (by kernel_rfl) ?_
            repeat (go_big_quiet_step ((first | (go_at_call 14; exact Calls.lat_same (within_is HW.out _)))))
            refine wpQuiet_nil ?_
            rintro _ ⟨δq, rfl⟩
            go_wp2_with (fail)
            go_roundg (xs.length - (j + 1 + 1))
            case measure => omega
            case rel => exact ⟨j + 1 + 1, _, by omega, rfl, by go_num, lat_def, HS⟩
    · obtain rfl : k = xs.length := by omega
      go_wp2_with (fail)
      go_ret
      exact ⟨ret_bool (by rw [← HV.out]; exact HR.out.symm), lat_ex⟩
theorem within13_c (n low high : Int) (w : World) :
    Calls Try.prog 20 #[.int .i64 n, .int .i64 low, .int .i64 high] w fun e w' => e = .returned (.bool (inB low high n)) ∧ w = w' := by
  go_enter Try.func20, Try.ntmps20
  go_wp2_with (go_at_call 14; refine (within_c _ _ _ _).mono ?_; rintro e w1 ⟨rfl, rfl⟩)
  go_ret
  exact ⟨rfl, rfl⟩
theorem isSpan13_c (s : Sp) (m : Int) (w : World) :
    Calls Try.prog 22 #[.agg #[.int .i64 s.lo, .int .i64 s.hi], .int .i64 m] w fun e w' => e = .returned (.bool (okSp m s)) ∧ ∃ δ, w' = lat w δ := by
  go_enter Try.func22, Try.ntmps22
  go_wp2_with (go_at_call 20; refine (within13_c _ _ _ _).mono ?_; rintro e w1 ⟨rfl, rfl⟩)
  all_goals
    go_ret
    exact ⟨ret_bool (by grind [inB, okSp]), lat_ex⟩
end Go.Proofs.Ytnddiloeikaleaa
namespace Go.Proofs.Ytnddiloeikaleaa
open Go.RowKit
open An
open Tc

set_option maxRecDepth 100000 in
set_option maxHeartbeats 4000000 in
theorem areSkies_c (r : SeasonR) (s : Season) (A : Option Addr) (c : Nat) (l : List Int) (B : Nat) (w : World) [hB : Le B w] (h : Sl encI B w A c l) (hk : s.skies.length ≤ 40) :
    Calls Try.prog 21 #[seasonV r s, .slice A l.length c] w fun e w' => e = .returned (.bool (areSk s.skies.length l)) ∧ ∃ δ, w' = lat w δ := by
  have H := Lib.hid h
  have hl := h.len
  clear h
  have hw : IntKind.i64.wrap ((s.skies.length : Int) - 1) = (s.skies.length : Int) - 1 := IntWalk.i64_in _ (by omega)
  by_cases h0 : 0 < l.length
  · have HV : Hid (areSk s.skies.length l = risesB l 0 ((s.skies.length : Int) - 1)) := by unfold Hid areSk; simp [h0]
    have h0i : (0 : Int) < (l.length : Int) := by omega
    have h0d : decide ((0 : Int) < (l.length : Int)) = true := decide_eq_true h0i
    go_enter Try.func21, Try.ntmps21
    go_wp2_with (go_at_call 43; refine (risingB_c A c l 0 ((s.skies.length : Int) - 1) B _ H.out.up _ rfl).mono ?_; rintro e w1 ⟨rfl, δ, rfl⟩)
    go_ret
    exact ⟨ret_bool HV.out.symm, lat_ex⟩
  · have HV : Hid (areSk s.skies.length l = false) := by unfold Hid areSk; simp [h0]
    have h0i : ¬ (0 : Int) < (l.length : Int) := by omega
    have h0d : decide ((0 : Int) < (l.length : Int)) = false := decide_eq_false h0i
    have h0n : decide (0 < l.length) = false := decide_eq_false h0
    clear h0
    go_enter Try.func21, Try.ntmps21
    go_wp2_with (fail)
    go_ret
    exact ⟨ret_bool HV.out.symm, lat_ex⟩
theorem isSky_c (r : SeasonR) (s : Season) (k : Int) (b : Bool) (hb : inB 0 ((s.skies.length : Int) - 1) k = b) (w : World) (hk : s.skies.length ≤ 40) :
    Calls Try.prog 6 #[seasonV r s, .int .i64 k] w fun e w' => e = .returned (.bool b) ∧ ∃ δ, w' = lat w δ := by
  subst hb
  have hw : IntKind.i64.wrap ((s.skies.length : Int) - 1) = (s.skies.length : Int) - 1 := IntWalk.i64_in _ (by omega)
  go_enter Try.func6, Try.ntmps6
  go_wp2_with (go_at_call 20; refine (within13_c _ _ _ _).mono ?_; rintro e w1 ⟨rfl, rfl⟩)
  go_ret
  exact ⟨rfl, lat_ex⟩
end Go.Proofs.Ytnddiloeikaleaa
