/- Towards the claim of XLawCalmed: Layer 5, for the calm sky: how seas lie in memory; the program's Check and open of a valid sea. Layer 5, for the calm sky: the reference's within, isSpan, Check. Layer 5, for the calm sky: open, need and holds of a valid sea. Layer 5, for the calm sky: need and holds of a sea at work. -/
import Derived.Test.YtnddiloeikaleaaQ3
import Derived.Test.YtnddiloeikaleaaQ4
import Derived.Test.YtnddiloeikaleaaQ2
import Derived.BigRegion
import Derived.BigQuiet
namespace Go.Proofs.Ytnddiloeikaleaa
open Go.RowKit
open An
open Tc

def encBoat (x : Boat) : List Value := [.int .i64 x.carry, .int .i64 x.pence]
theorem Sl.boat {B : Nat} {w : World} {A : Option Addr} {c : Nat} {xs : List Boat} (h : Sl encBoat B w A c xs) {k : Nat} (hk : k < xs.length) : ∃ b o, A = some ⟨b, o, none⟩ ∧ b < B ∧ w.cell? ⟨b, o + k * 2, none⟩ = some (.int .i64 (nth xs k).carry) ∧ w.cell? ⟨b, o + k * 2 + 1, none⟩ = some (.int .i64 (nth xs k).pence) := by
  obtain ⟨b, o, hA, hb, hc⟩ := h.at_ (size := 2) (fun _ => rfl) hk (by omega)
  rw [nth_get _ hk]
  exact ⟨b, o, hA, hb, hc 0 _ rfl, hc 1 _ rfl⟩
structure SeaR where
  pA : Option Addr
  pc : Nat
  bA : Option Addr
  bc : Nat
abbrev seaV (r : SeaR) (s : Sea) : Value := .agg #[.int .i64 s.wt.lo, .int .i64 s.wt.hi, .slice r.pA s.places.length r.pc, .slice r.bA s.boats.length r.bc]
def SeaIs (B : Nat) (w : World) (r : SeaR) (s : Sea) : Prop := Sl encSp B w r.pA r.pc s.places ∧ Sl encBoat B w r.bA r.bc s.boats
theorem SeaIs.up {B : Nat} {w w' : World} {r : SeaR} {s : Sea} (h : SeaIs B w r s) [hg : Grew B w w'] : SeaIs B w' r s := ⟨h.1.up, h.2.up⟩
theorem SeaIs.more {B B' : Nat} {w : World} {r : SeaR} {s : Sea} (h : SeaIs B w r s) (hB : B ≤ B') : SeaIs B' w r s := ⟨h.1.more hB, h.2.more hB⟩

theorem withinL_c (n low high : Int) (b : Bool) (hb : inB low high n = b) (w : World) :
    Calls Try.prog 74 #[.int .i64 n, .int .i64 low, .int .i64 high] w fun e w' => e = .returned (.bool b) ∧ w = w' := by
  subst hb
  go_enter Try.func74, Try.ntmps74
  by_cases h1 : low ≤ n
  · go_wp2
    go_ret
    exact ⟨ret_bool (by simp [inB, h1]), rfl⟩
  · go_wp2
    go_ret
    exact ⟨ret_bool (by simp [inB]; omega), rfl⟩
set_option maxRecDepth 100000 in
set_option maxHeartbeats 4000000 in
theorem lCheck_c (r : SeaR) (s : Sea) (hv : seaOk s = true) (B : Nat) (w : World) [hB : Le B w] (h : SeaIs B w r s) :
    Calls Try.prog 63 #[seaV r s] w fun e w' => e = .returned (.int .i64 0) ∧ ∃ δ, w' = lat w δ := by
  obtain ⟨v1, v2, v3, v4, v5, v6, v7⟩ := seaOk_iff.1 hv
  obtain ⟨u1, u2, u3⟩ := okSp_iff.1 v1
  obtain ⟨pA, pc, bA, bc⟩ := r
  have l1 := h.1.len
  have l2 := h.2.len
  have HP := Lib.hid v4
  have HBt := Lib.hid v7
  have H := Lib.hid h
  have F0 : Hid (inB 0 s.wt.hi s.wt.lo = true) := Lib.hid (inB_iff.2 ⟨u1, u2⟩)
  have F1 : Hid (inB (sumLo s.places) (sumHi s.places) 12 = true) := Lib.hid (inB_iff.2 ⟨v5, v6⟩)
  have g1 : ¬ (2000 : Int) < s.wt.hi := by omega
  have g2 : ¬ (4 : Int) < (s.places.length : Int) := by omega
  have g3 : ¬ (6 : Int) < (s.boats.length : Int) := by omega
  clear v1 v4 v7 hv h
  go_enter Try.func63, Try.ntmps63
  go_wp2_with (go_at_call 74; (with_reducible refine Calls.mono (withinL_c _ _ _ true F0.out _) ?_); rintro e w1 ⟨rfl, rfl⟩)
  refine wp_name fun W1 hW1 => ?_
  have iw1 : Le B W1 := by rw [hW1.out]; infer_instance
  have iw2 : Grew B w W1 := by rw [hW1.out]; infer_instance
  have iw3 : Le w.heap.size W1 := by rw [hW1.out]; infer_instance
  have iw4 : Grew w.heap.size w W1 := by rw [hW1.out]; infer_instance
  have iw5 : Lt (w.heap.size) W1 := by rw [hW1.out]; infer_instance
  have cw6 : W1.cell? ⟨w.heap.size, 0, none⟩ = some (.int .i64 s.wt.lo) := by rw [hW1.out]; go_simp
  have cw7 : W1.cell? ⟨w.heap.size, 1, none⟩ = some (.int .i64 s.wt.hi) := by rw [hW1.out]; go_simp
  have cw8 : W1.cell? ⟨w.heap.size, 2, none⟩ = some (.slice pA s.places.length pc) := by rw [hW1.out]; go_simp
  have cw9 : W1.cell? ⟨w.heap.size, 3, none⟩ = some (.slice bA s.boats.length bc) := by rw [hW1.out]; go_simp
  have s1 : Hid (Sl encSp B W1 pA pc s.places) := Lib.hid H.out.1.up
  have s2 : Hid (Sl encBoat B W1 bA bc s.boats) := Lib.hid H.out.2.up
  go_loopg [3, 4, 6, 38] s.places.length (fun g lo hi z i wr => ∃ (k : Nat) (δ : World), k ≤ s.places.length ∧ g = s.places.length - k ∧ lo = .int .i64 (sumLo (s.places.take k)) ∧ hi = .int .i64 (sumHi (s.places.take k)) ∧ i = .int .i64 k ∧ wr = lat W1 δ)
  case atStart => exact ⟨0, W1, Nat.zero_le _, rfl, rfl, rfl, rfl, (lat_refl W1).symm⟩
  case round =>
    obtain ⟨k, δ, hk, rfl, rfl, rfl, rfl, rfl⟩ := hrel
    by_cases hlt : k < s.places.length
    · obtain ⟨b, o, rfl, hb, d0, d1⟩ := s1.out.sp hlt
      have ib : Lt b W1 := ⟨Nat.lt_of_lt_of_le hb iw1.out⟩
      obtain ⟨p1, p2, p3⟩ := okSp_iff.1 (okPls_nth HP.out hlt)
      obtain ⟨q1, q2, q3⟩ := sums_bd HP.out k hk
      have HL := Lib.hid (sumLo_snoc hlt)
      have HH := Lib.hid (sumHi_snoc hlt)
      have hki : (k : Int) < (s.places.length : Int) := by omega
      have hk0 : ¬ (k : Int) < 0 := by omega
      obtain ⟨p, hp⟩ : ∃ p, nth s.places k = p := ⟨_, rfl⟩
      rw [hp] at HL HH d0 d1 p1 p2 p3
      have F2 : Hid (inB 0 p.hi p.lo = true) := Lib.hid (inB_iff.2 ⟨p1, p2⟩)
      have g4 : ¬ (12 : Int) < p.hi := by omega
      obtain ⟨a, ha⟩ : ∃ a, sumLo (s.places.take k) = a := ⟨_, rfl⟩
      obtain ⟨c, hc⟩ : ∃ a, sumHi (s.places.take k) = a := ⟨_, rfl⟩
      rw [ha] at q1 q2 HL
      rw [hc] at q2 q3 HH
      rw [ha, hc]
      clear ha hc hp
      go_wp2_with (go_at_call 74; (with_reducible refine Calls.mono (withinL_c _ _ _ true F2.out _) ?_); rintro e w1 ⟨rfl, rfl⟩)
      refine wp_region_lat (by kernel_rfl) (by kernel_rfl) ?_
      repeat (go_big_quiet_step ((first | (fail))))
      refine wpQuiet_nil ?_
      rintro _ ⟨δq, rfl⟩
      go_wp2
      go_roundg (s.places.length - (k + 1))
      case measure => omega
      case rel => exact ⟨k + 1, _, hlt, rfl, by rw [HL.out], by rw [HH.out], by go_num, lat_def⟩
    · obtain rfl : k = s.places.length := by omega
      rw [List.take_length]
      go_wp2_with (go_at_call 74; (with_reducible refine Calls.mono (withinL_c _ _ _ true F1.out _) ?_); rintro e w1 ⟨rfl, rfl⟩)
      go_loopg [8, 69] s.boats.length (fun g z i wr => ∃ (k : Nat) (δ : World), k ≤ s.boats.length ∧ g = s.boats.length - k ∧ i = .int .i64 k ∧ wr = lat W1 δ)
      case atStart => exact ⟨0, δ, Nat.zero_le _, rfl, rfl, rfl⟩
      case round =>
        obtain ⟨k, δ, hk, rfl, rfl, rfl⟩ := hrel
        by_cases hlt : k < s.boats.length
        · obtain ⟨b, o, rfl, hb, d0, d1⟩ := s2.out.boat hlt
          have ib : Lt b W1 := ⟨Nat.lt_of_lt_of_le hb iw1.out⟩
          obtain ⟨p1, p2, p3, p4⟩ := okBoat_iff.1 (okBoats_nth HBt.out hlt)
          obtain ⟨q, hq⟩ : ∃ q, nth s.boats k = q := ⟨_, rfl⟩
          rw [hq] at p1 p2 p3 p4 d0 d1
          clear hq
          obtain ⟨x, y⟩ := q
          simp only at p1 p2 p3 p4 d0 d1
          have F2 : Hid (inB 0 999 x = true) := Lib.hid (inB_iff.2 ⟨p1, p2⟩)
          have F3 : Hid (inB 0 99 y = true) := Lib.hid (inB_iff.2 ⟨p3, p4⟩)
          have hki : (k : Int) < (s.boats.length : Int) := by omega
          have hk0 : ¬ (k : Int) < 0 := by omega
          go_wp2_with (first
            | (go_at_call 74; (with_reducible refine Calls.mono (withinL_c _ _ _ true F2.out _) ?_); rintro e w1 ⟨rfl, rfl⟩)
            | (go_at_call 74; (with_reducible refine Calls.mono (withinL_c _ _ _ true F3.out _) ?_); rintro e w1 ⟨rfl, rfl⟩))
          go_roundg (s.boats.length - (k + 1))
          case measure => omega
          case rel => exact ⟨k + 1, _, hlt, rfl, by go_num, lat_def⟩
        · obtain rfl : k = s.boats.length := by omega
          go_wp2_with (fail)
          go_ret
          exact ⟨rfl, lat_ex⟩
end Go.Proofs.Ytnddiloeikaleaa
namespace Go.Proofs.Ytnddiloeikaleaa
open Go.RowKit
open An
open Tc

theorem within5_c (n low high : Int) (w : World) :
    Calls Try.prog 42 #[.int .i64 n, .int .i64 low, .int .i64 high] w fun e w' => e = .returned (.bool (inB low high n)) ∧ w = w' := by
  go_enter Try.func42, Try.ntmps42
  go_wp2_with (go_at_call 14; refine (within_c _ _ _ _).mono ?_; rintro e w1 ⟨rfl, rfl⟩)
  go_ret
  exact ⟨rfl, rfl⟩
theorem within5_is {n low high : Int} {b : Bool} (hb : inB low high n = b) (w : World) :
    Calls Try.prog 42 #[.int .i64 n, .int .i64 low, .int .i64 high] w fun e w' => e = .returned (.bool b) ∧ w = w' := by
  subst hb; exact within5_c n low high w
theorem isSpan5_c (s : Sp) (m : Int) (w : World) :
    Calls Try.prog 41 #[.agg #[.int .i64 s.lo, .int .i64 s.hi], .int .i64 m] w fun e w' => e = .returned (.bool (okSp m s)) ∧ ∃ δ, w' = lat w δ := by
  go_enter Try.func41, Try.ntmps41
  go_wp2_with (go_at_call 42; refine (within5_c _ _ _ _).mono ?_; rintro e w1 ⟨rfl, rfl⟩)
  all_goals
    go_ret
    exact ⟨ret_bool (by grind [inB, okSp]), lat_ex⟩

theorem sums_bd' {xs : List Sp} (h : okPls xs = true) : 0 ≤ sumLo xs ∧ sumLo xs ≤ sumHi xs ∧ sumHi xs ≤ 12 * xs.length := by
  have := sums_bd h xs.length (Nat.le_refl _)
  rwa [List.take_length] at this
set_option maxRecDepth 100000 in
set_option maxHeartbeats 2000000 in
theorem rSea_c (r : SeaR) (s : Sea) (B : Nat) (w : World) (h : SeaIs B w r s) [hB : Le B w] (h40 : s.places.length ≤ 40) :
    Calls Try.prog 19 #[seaV r s] w fun e w' => e = .returned (.int .i64 (errOf (seaOk s) 50)) ∧ ∃ δ, w' = lat w δ := by
  have l1 := h.1.len
  have l2 := h.2.len
  go_enter Try.func19, Try.ntmps19
  go_wp2_with (go_at_call 41; refine (isSpan5_c _ _ _).mono ?_; rintro e w1 ⟨rfl, δ, rfl⟩)
  all_goals first
    | (go_ret
       refine ⟨ret_int ?_, lat_ex⟩
       go_light
       have hv := @seaOk_iff s
       grind [errOf])
    | skip
  refine wp_name fun W1 hW1 => ?_
  have iw1 : Le B W1 := by rw [hW1.out]; infer_instance
  have iw2 : Grew B w W1 := by rw [hW1.out]; infer_instance
  have iw3 : Le w.heap.size W1 := by rw [hW1.out]; infer_instance
  have iw4 : Grew w.heap.size w W1 := by rw [hW1.out]; infer_instance
  have iw5 : Lt (w.heap.size) W1 := by rw [hW1.out]; infer_instance
  have cw6 : W1.cell? ⟨w.heap.size, 0, none⟩ = some (.int .i64 s.wt.lo) := by rw [hW1.out]; go_simp
  have cw7 : W1.cell? ⟨w.heap.size, 1, none⟩ = some (.int .i64 s.wt.hi) := by rw [hW1.out]; go_simp
  have cw8 : W1.cell? ⟨w.heap.size, 2, none⟩ = some (.slice r.pA s.places.length r.pc) := by rw [hW1.out]; go_simp
  have cw9 : W1.cell? ⟨w.heap.size, 3, none⟩ = some (.slice r.bA s.boats.length r.bc) := by rw [hW1.out]; go_simp
  have s1 : Hid (Sl encSp B W1 r.pA r.pc s.places) := Lib.hid h.1.up
  have s2 : Hid (Sl encBoat B W1 r.bA r.bc s.boats) := Lib.hid h.2.up
  have F := Lib.hid (show okSp 2000 s.wt = true ∧ s.places.length ≤ 4 ∧ s.boats.length ≤ 6 by refine ⟨by assumption, by omega, by omega⟩)
  obtain ⟨pA, pc, bA, bc⟩ := r
  clear hW1
  go_wp2_with (fail)
  go_loopg [3, 4, 5] s.places.length (fun g lo hi i wr => ∃ (k : Nat) (δ : World), k ≤ s.places.length ∧ g = s.places.length - k ∧ lo = .int .i64 (sumLo (s.places.take k)) ∧ hi = .int .i64 (sumHi (s.places.take k)) ∧ i = .int .i64 k ∧ Hid (okPls (s.places.take k) = true) ∧ wr = lat W1 δ)
  case atStart => exact ⟨0, W1, Nat.zero_le _, rfl, rfl, rfl, rfl, by simp [Hid, okPls], (lat_refl W1).symm⟩
  case round =>
    obtain ⟨k, δ, hk, rfl, rfl, rfl, rfl, HT, rfl⟩ := hrel
    have hbd := sums_bd' HT.out
    have hlen : (s.places.take k).length ≤ 40 := by rw [List.length_take]; omega
    by_cases hlt : k < s.places.length
    · obtain ⟨b, o, rfl, hb, d0, d1⟩ := s1.out.sp hlt
      have ib : Lt b W1 := ⟨Nat.lt_of_lt_of_le hb iw1.out⟩
      have hki : (k : Int) < (s.places.length : Int) := by omega
      have hk0 : ¬ (k : Int) < 0 := by omega
      have HL := Lib.hid (sumLo_snoc hlt)
      have HH := Lib.hid (sumHi_snoc hlt)
      have HTS : Hid (okPls (s.places.take (k + 1)) = (okPls (s.places.take k) && okSp 12 (nth s.places k))) := Lib.hid (by unfold okPls; rw [take_snoc _ hlt, List.all_append]; simp)
      have HNO : Hid (okSp 12 (nth s.places k) = false → seaOk s = false) := Lib.hid fun h => by
        rw [← Bool.not_eq_true]; intro hv; rw [okPls_nth (seaOk_iff.1 hv).2.2.2.1 hlt] at h; cases h
      obtain ⟨p, hp⟩ : ∃ p, nth s.places k = p := ⟨_, rfl⟩
      rw [hp] at HL HH d0 d1 HTS HNO
      obtain ⟨a, ha⟩ : ∃ a, sumLo (s.places.take k) = a := ⟨_, rfl⟩
      obtain ⟨c, hc⟩ : ∃ a, sumHi (s.places.take k) = a := ⟨_, rfl⟩
      rw [ha, hc] at hbd ⊢
      rw [ha] at HL
      rw [hc] at HH
      clear ha hc hp
      rcases hok : okSp 12 p with _ | _
      · have HN := Lib.hid (HNO.out hok)
        have HO := Lib.hid hok
        clear hok
        go_wp2_with (go_at_call 41; refine (isSpan5_c p 12 _).mono ?_; rw [HO.out]; rintro e w1 ⟨rfl, δ1, rfl⟩)
        go_ret
        exact ⟨ret_int (by rw [HN.out]; rfl), lat_ex⟩
      · have HO := Lib.hid hok
        have hok2 := okSp_iff.1 hok
        clear hok
        have wr1 : IntKind.i64.wrap (a + p.lo) = a + p.lo := IntWalk.i64_in _ (by omega)
        have wr2 : IntKind.i64.wrap (c + p.hi) = c + p.hi := IntWalk.i64_in _ (by omega)
        clear hbd hok2
        go_wp2_with (go_at_call 41; refine (isSpan5_c p 12 _).mono ?_; rw [HO.out]; rintro e w1 ⟨rfl, δ1, rfl⟩)
        refine wp_region_lat (by kernel_rfl) (by kernel_rfl) ?_
        repeat (go_big_quiet_step ((first | (fail))))
        refine wpQuiet_nil ?_
        rintro _ ⟨δq, rfl⟩
        go_wp2
        go_roundg (s.places.length - (k + 1))
        case measure => omega
        case rel => exact ⟨k + 1, _, hlt, rfl, by rw [HL.out], by rw [HH.out], by go_num, by rw [Hid, HTS.out, HT.out, HO.out]; rfl, lat_def⟩
    · obtain rfl : k = s.places.length := by omega
      rw [List.take_length] at hbd hlen HT ⊢
      obtain ⟨a, ha⟩ : ∃ a, sumLo s.places = a := ⟨_, rfl⟩
      obtain ⟨c, hc⟩ : ∃ a, sumHi s.places = a := ⟨_, rfl⟩
      have HA := Lib.hid ha
      have HC := Lib.hid hc
      rw [ha, hc] at hbd ⊢
      clear ha hc hbd
      go_wp2_with (fail)
      go_loopg [6, 7] s.boats.length (fun g i z wr => ∃ (k : Nat) (δ : World), k ≤ s.boats.length ∧ g = s.boats.length - k ∧ i = .int .i64 k ∧ Hid (okBoats (s.boats.take k) = true) ∧ wr = lat W1 δ)
      case atStart => exact ⟨0, δ, Nat.zero_le _, rfl, rfl, by simp [Hid, okBoats], rfl⟩
      case round =>
        obtain ⟨k, δ2, hk2, rfl, rfl, HU, rfl⟩ := hrel
        by_cases hlt2 : k < s.boats.length
        · obtain ⟨b, o, rfl, hb, d0, d1⟩ := s2.out.boat hlt2
          have ib : Lt b W1 := ⟨Nat.lt_of_lt_of_le hb iw1.out⟩
          have hki : (k : Int) < (s.boats.length : Int) := by omega
          have hk0 : ¬ (k : Int) < 0 := by omega
          have HUS : Hid (okBoats (s.boats.take (k + 1)) = (okBoats (s.boats.take k) && okBoat (nth s.boats k))) := Lib.hid (by unfold okBoats; rw [take_snoc _ hlt2, List.all_append]; simp)
          have HNO : Hid (okBoat (nth s.boats k) = false → seaOk s = false) := Lib.hid fun h => by
            rw [← Bool.not_eq_true]; intro hv; rw [okBoats_nth (seaOk_iff.1 hv).2.2.2.2.2.2 hlt2] at h; cases h
          obtain ⟨p, hp⟩ : ∃ p, nth s.boats k = p := ⟨_, rfl⟩
          rw [hp] at d0 d1 HUS HNO
          clear hp
          rcases h1 : inB 0 999 p.carry with _ | _
          · have F1 := Lib.hid h1
            have HN := Lib.hid (HNO.out (by unfold okBoat; rw [decide_eq_false_iff_not]; rintro ⟨x1, x2, _⟩; rw [inB_iff.2 ⟨x1, x2⟩] at h1; cases h1))
            clear h1
            go_wp2_with (go_at_call 42; (with_reducible refine Calls.mono (within5_is F1.out _) ?_); rintro e w1 ⟨rfl, rfl⟩)
            go_ret
            exact ⟨ret_int (by rw [HN.out]; rfl), lat_ex⟩
          · rcases h2 : inB 0 99 p.pence with _ | _
            · have F1 := Lib.hid h1
              have F2 := Lib.hid h2
              have HN := Lib.hid (HNO.out (by unfold okBoat; rw [decide_eq_false_iff_not]; rintro ⟨_, _, x1, x2⟩; rw [inB_iff.2 ⟨x1, x2⟩] at h2; cases h2))
              clear h1 h2
              go_wp2_with (go_at_call 42; (first | (with_reducible refine Calls.mono (within5_is F1.out _) ?_) | (with_reducible refine Calls.mono (within5_is F2.out _) ?_)); rintro e w1 ⟨rfl, rfl⟩)
              go_ret
              exact ⟨ret_int (by rw [HN.out]; rfl), lat_ex⟩
            · have F1 := Lib.hid h1
              have F2 := Lib.hid h2
              have HO : Hid (okBoat p = true) := Lib.hid (by have := inB_iff.1 h1; have := inB_iff.1 h2; exact okBoat_iff.2 (by omega))
              clear h1 h2
              go_wp2_with (go_at_call 42; (first | (with_reducible refine Calls.mono (within5_is F1.out _) ?_) | (with_reducible refine Calls.mono (within5_is F2.out _) ?_)); rintro e w1 ⟨rfl, rfl⟩)
              go_roundg (s.boats.length - (k + 1))
              case measure => omega
              case rel => exact ⟨k + 1, _, hlt2, rfl, by go_num, by rw [Hid, HUS.out, HU.out, HO.out]; rfl, lat_def⟩
        · obtain rfl : k = s.boats.length := by omega
          rw [List.take_length] at HU
          by_cases hx : 12 < a
          · have HN : Hid (seaOk s = false) := Lib.hid (by rw [← Bool.not_eq_true]; intro hv; have := (seaOk_iff.1 hv).2.2.2.2.1; have := HA.out; omega)
            go_wp2_with (fail)
            go_ret
            exact ⟨ret_int (by rw [HN.out]; rfl), lat_ex⟩
          · by_cases hy : c < 12
            · have HN : Hid (seaOk s = false) := Lib.hid (by rw [← Bool.not_eq_true]; intro hv; have := (seaOk_iff.1 hv).2.2.2.2.2.1; have := HC.out; omega)
              go_wp2_with (fail)
              go_ret
              exact ⟨ret_int (by rw [HN.out]; rfl), lat_ex⟩
            · have HN : Hid (seaOk s = true) := Lib.hid (seaOk_iff.2 ⟨F.out.1, F.out.2.1, F.out.2.2, HT.out, by have := HA.out; omega, by have := HC.out; omega, HU.out⟩)
              go_wp2_with (fail)
              go_ret
              exact ⟨ret_int (by rw [HN.out]; rfl), lat_ex⟩
end Go.Proofs.Ytnddiloeikaleaa
namespace Go.Proofs.Ytnddiloeikaleaa
open Go.RowKit
open An
open Tc

/-- The parts of a sea at work, as far as k places have come. -/
def partsC (s : Sea) (k : Nat) : List Value := (List.range 4).flatMap fun i => if i < k then [.int .i64 (partLo s i), .int .i64 (partHi s i)] else [.int .i64 0, .int .i64 0]
def seaC (r : SeaR) (s : Sea) (k : Nat) : Array Value := (.int .i64 s.wt.lo :: .int .i64 s.wt.hi :: .slice r.pA s.places.length r.pc :: .slice r.bA s.boats.length r.bc :: partsC s k : List Value).toArray
theorem seaC_set (r : SeaR) (s : Sea) {k : Nat} (hk : k < 4) : ((seaC r s k).setIfInBounds (4 + 2 * k) (.int .i64 (partLo s k))).setIfInBounds (4 + 2 * k + 1) (.int .i64 (partHi s k)) = seaC r s (k + 1) := by
  obtain rfl | rfl | rfl | rfl : k = 0 ∨ k = 1 ∨ k = 2 ∨ k = 3 := by omega
  all_goals simp [seaC, partsC, List.range_succ]
theorem seaC_hi (r : SeaR) (s : Sea) {m i : Nat} (h : i < m) (hm : m ≤ 4) : (seaC r s m)[5 + 2 * i]? = some (.int .i64 (partHi s i)) := by
  obtain rfl | rfl | rfl | rfl : i = 0 ∨ i = 1 ∨ i = 2 ∨ i = 3 := by omega
  all_goals
    obtain rfl | rfl | rfl | rfl : m = 1 ∨ m = 2 ∨ m = 3 ∨ m = 4 := by omega
  all_goals first
    | omega
    | simp [seaC, partsC, List.range_succ]
theorem seaC_z (r : SeaR) (s : Sea) {k : Nat} (hk : k < 4) : (seaC r s k)[4 + k * 2]? = some (.int .i64 0) ∧ (seaC r s k)[4 + k * 2 + 1]? = some (.int .i64 0) := by
  obtain rfl | rfl | rfl | rfl : k = 0 ∨ k = 1 ∨ k = 2 ∨ k = 3 := by omega
  all_goals simp [seaC, partsC, List.range_succ]
theorem seaC_set' (r : SeaR) (s : Sea) {k : Nat} (hk : k < 4) : ((seaC r s k).setIfInBounds (4 + k * 2) (.int .i64 (partLo s k))).setIfInBounds (4 + k * 2 + 1) (.int .i64 (partHi s k)) = seaC r s (k + 1) := by
  rw [Nat.mul_comm]; exact seaC_set r s hk
/-- A sea at work lies at a block. -/
def AtSea (B g : Nat) (r : SeaR) (s : Sea) (w : World) : Prop := Box w g 119 (seaC r s s.places.length) ∧ SeaIs B w r s ∧ B ≤ g
set_option maxRecDepth 100000 in
set_option maxHeartbeats 4000000 in
theorem lOpen_c (r : SeaR) (s : Sea) (hv : seaOk s = true) (B : Nat) (w : World) [hB : Le B w] (h : SeaIs B w r s) :
    Calls Try.prog 67 #[seaV r s, .bool true] w fun e w' => ∃ g δ, e = .returned (.tuple #[.pointer (some ⟨g, 0, none⟩), .int .i64 0]) ∧ w' = lat w δ ∧ w.heap.size ≤ g ∧ Hid (AtSea B g r s w') := by
  obtain ⟨v1, v2, v3, v4, v5, v6, v7⟩ := seaOk_iff.1 hv
  obtain ⟨pA, pc, bA, bc⟩ := r
  have l1 := h.1.len
  have l2 := h.2.len
  have HV := Lib.hid hv
  have HP := Lib.hid v4
  have H := Lib.hid h
  clear v1 v4 v7 hv h
  go_enter Try.func67, Try.ntmps67
  go_wp2_with (go_at_call 63; refine (lCheck_c ⟨pA, pc, bA, bc⟩ s HV.out B _ H.out.up).mono ?_; rintro e w1 ⟨rfl, δ1, rfl⟩)
  obtain ⟨V, hV⟩ : ∃ V, lat (w.alloc (.cells #[.int .i64 s.wt.lo, .int .i64 s.wt.hi, .slice pA s.places.length pc, .slice bA s.boats.length bc] 31)) δ1 = V := ⟨_, rfl⟩
  rw [hV]
  have v1' : Le B V := by rw [← hV]; infer_instance
  have v2' : Grew B w V := by rw [← hV]; infer_instance
  have v3' : Grew w.heap.size w V := by rw [← hV]; infer_instance
  have v4' : Le w.heap.size V := by rw [← hV]; infer_instance
  have v5' : Lt w.heap.size V := by rw [← hV]; infer_instance
  have c2 : V.cell? ⟨w.heap.size, 2, none⟩ = some (.slice pA s.places.length pc) := by rw [← hV, cell_lat, World.cell?_alloc_at _ _ _ _ rfl]; rfl
  have HLT : Hid (w.heap.size < V.heap.size) := Lib.hid v5'.out
  clear hV
  refine wp_name fun W1 hW1 => ?_
  have hBx : Hid (Box W1 V.heap.size 119 (seaC ⟨pA, pc, bA, bc⟩ s 0)) := by rw [hW1.out]; exact Box.new rfl
  have x1 : Le B W1 := by rw [hW1.out]; infer_instance
  have x2 : Grew B w W1 := by rw [hW1.out]; infer_instance
  have x3 : Grew w.heap.size w W1 := by rw [hW1.out]; infer_instance
  have x4 : Le w.heap.size W1 := by rw [hW1.out]; infer_instance
  have x5 : Lt w.heap.size W1 := by rw [hW1.out]; infer_instance
  have x6 : Lt V.heap.size W1 := by rw [hW1.out]; infer_instance
  have x7 : Le V.heap.size W1 := by rw [hW1.out]; infer_instance
  have d2 : W1.cell? ⟨w.heap.size, 2, none⟩ = some (.slice pA s.places.length pc) := by rw [hW1.out]; go_simp
  have HG : Hid (V.heap.size < W1.heap.size ∧ w.heap.size < V.heap.size) := Lib.hid ⟨x6.out, HLT.out⟩
  obtain ⟨g, hg⟩ : ∃ g, V.heap.size = g := ⟨_, rfl⟩
  rw [hg] at hBx x6 x7 HG
  rw [hg]
  clear hW1 HLT hg c2 v1' v2' v3' v4' v5'
  have s1 : Hid (Sl encSp B W1 pA pc s.places) := Lib.hid H.out.1.up
  go_loopg [8, 9, 11, 27] s.places.length (fun gg lo hi z i wr => ∃ (k : Nat) (δ : World), k ≤ s.places.length ∧ gg = s.places.length - k ∧ lo = .int .i64 (sumLo (s.places.take k)) ∧ hi = .int .i64 (sumHi (s.places.take k)) ∧ i = .int .i64 k ∧ wr = lat W1 δ)
  case atStart => exact ⟨0, W1, Nat.zero_le _, rfl, rfl, rfl, rfl, (lat_refl W1).symm⟩
  case round =>
    obtain ⟨k, δ, hk, rfl, rfl, rfl, rfl, rfl⟩ := hrel
    by_cases hlt : k < s.places.length
    · obtain ⟨b, o, rfl, hb, d0, d1⟩ := s1.out.sp hlt
      have ib : Lt b W1 := ⟨Nat.lt_of_lt_of_le hb x1.out⟩
      obtain ⟨p1, p2, p3⟩ := okSp_iff.1 (okPls_nth HP.out hlt)
      obtain ⟨q1, q2, q3⟩ := sums_bd HP.out k hk
      have HL := Lib.hid (sumLo_snoc hlt)
      have HH := Lib.hid (sumHi_snoc hlt)
      have hki : (k : Int) < (s.places.length : Int) := by omega
      have hk0 : ¬ (k : Int) < 0 := by omega
      obtain ⟨p, hp⟩ : ∃ p, nth s.places k = p := ⟨_, rfl⟩
      rw [hp] at HL HH d0 d1 p1 p2 p3
      obtain ⟨a, ha⟩ : ∃ a, sumLo (s.places.take k) = a := ⟨_, rfl⟩
      obtain ⟨c, hc⟩ : ∃ a, sumHi (s.places.take k) = a := ⟨_, rfl⟩
      rw [ha] at q1 q2 HL
      rw [hc] at q2 q3 HH
      rw [ha, hc]
      clear ha hc hp
      go_wp2_with (fail)
      refine wp_region_lat (by kernel_rfl) (by kernel_rfl) ?_
      repeat (go_big_quiet_step ((first | (fail))))
      refine wpQuiet_nil ?_
      rintro _ ⟨δq, rfl⟩
      go_wp2
      go_roundg (s.places.length - (k + 1))
      case measure => omega
      case rel => exact ⟨k + 1, _, hlt, rfl, by rw [HL.out], by rw [HH.out], by go_num, lat_def⟩
    · obtain rfl : k = s.places.length := by omega
      rw [List.take_length]
      obtain ⟨q1, q2, q3⟩ := sums_bd HP.out s.places.length (Nat.le_refl _)
      rw [List.take_length] at q1 q2 q3
      have HB1 : Hid (Box (lat W1 δ) g 119 (seaC ⟨pA, pc, bA, bc⟩ s 0)) := Lib.hid (hBx.out.lat δ)
      have y1 : Grew g W1 (lat W1 δ) := ⟨Same.of ((lat_below W1 δ).mono (Nat.le_of_lt x6.out))⟩
      have y2 : Le W1.heap.size (lat W1 δ) := inferInstance
      go_wp2_with (fail)
      go_loopg [12, 13, 43] s.places.length (fun gg z z2 i wr => ∃ (k : Nat), k ≤ s.places.length ∧ gg = s.places.length - k ∧ i = .int .i64 k ∧ Hid (Box wr g 119 (seaC ⟨pA, pc, bA, bc⟩ s k)) ∧ Grew g W1 wr ∧ Le W1.heap.size wr)
      case atStart => exact ⟨0, Nat.zero_le _, rfl, rfl, HB1, y1, y2⟩
      case round =>
        obtain ⟨k, hk, rfl, rfl, hBk, i1, i2⟩ := hrel
        have hcell : Hid (∀ b o, b < g → wr.cell? ⟨b, o, none⟩ = W1.cell? ⟨b, o, none⟩) := Lib.hid (cells_same i1.out)
        by_cases hlt : k < s.places.length
        · obtain ⟨b, o, rfl, hb, d0, d1⟩ := s1.out.sp hlt
          have hbg : b < g := by have := HG.out; have := hB.out; omega
          have hwg : w.heap.size < g := HG.out.2
          rw [← hcell.out b _ hbg] at d0 d1
          rw [← hcell.out _ _ hwg] at d2
          have ib : Lt b wr := ⟨by have := HG.out; have := i2.out; omega⟩
          have ig : Lt g wr := hBk.out.lt
          have iw : Lt w.heap.size wr := ⟨by have := HG.out; have := i2.out; omega⟩
          have e1 := hBk.out.cell (seaC_z ⟨some ⟨b, o, none⟩, pc, bA, bc⟩ s (show k < 4 by omega)).1
          have e2 := hBk.out.cell (seaC_z ⟨some ⟨b, o, none⟩, pc, bA, bc⟩ s (show k < 4 by omega)).2
          have f1 := hBk.out.free (4 + k * 2)
          have f2 := hBk.out.free (4 + k * 2 + 1)
          obtain ⟨p1, p2, p3⟩ := okSp_iff.1 (okPls_nth HP.out hlt)
          have hki : (k : Int) < (s.places.length : Int) := by omega
          have hk0 : ¬ (k : Int) < 0 := by omega
          have hk4 : (k : Int) < 4 := by omega
          have HPL : Hid (partLo s k = (if (nth s.places k).lo < 12 - (sumHi s.places - (nth s.places k).hi) then 12 - (sumHi s.places - (nth s.places k).hi) else (nth s.places k).lo) ∧ partHi s k = (if 12 - (sumLo s.places - (nth s.places k).lo) < (nth s.places k).hi then 12 - (sumLo s.places - (nth s.places k).lo) else (nth s.places k).hi)) := Lib.hid ⟨by show max _ _ = _; rw [Int.max_def]; split <;> split <;> omega, by show min _ _ = _; rw [Int.min_def]; split <;> split <;> omega⟩
          obtain ⟨p, hp⟩ : ∃ p, nth s.places k = p := ⟨_, rfl⟩
          rw [hp] at HPL d0 d1 p1 p2 p3
          obtain ⟨x, hx⟩ : ∃ x, partLo s k = x := ⟨_, rfl⟩
          obtain ⟨y, hy⟩ : ∃ y, partHi s k = y := ⟨_, rfl⟩
          have m1 : (if p.lo < 12 - (sumHi s.places - p.hi) then 12 - (sumHi s.places - p.hi) else p.lo) = x := by rw [← hx, HPL.out.1]
          have m2 : (if 12 - (sumLo s.places - p.lo) < p.hi then 12 - (sumLo s.places - p.lo) else p.hi) = y := by rw [← hy, HPL.out.2]
          have HXY := Lib.hid (And.intro hx hy)
          clear hp hx hy
          have fa : (wr.alloc (.cells #[.int .i64 p.lo, .int .i64 p.hi] 23)).frozen? ⟨g, 4 + k * 2, none⟩ = false := ((hBk.out).alloc _).free _
          have fb : (wr.alloc (.cells #[.int .i64 p.lo, .int .i64 p.hi] 23)).frozen? ⟨g, 4 + k * 2 + 1, none⟩ = false := ((hBk.out).alloc _).free _
          go_wp2_with (fail)
          go_region
          go_wp2_with (fail)
          have ln : LeN g g := ⟨Nat.le_refl _⟩
          have lg : Le g wr := ⟨by have := HG.out; have := i2.out; omega⟩
          go_roundg (s.places.length - (k + 1))
          case measure => omega
          case rel =>
            refine ⟨k + 1, hlt, rfl, by go_num, ?_, inferInstance, inferInstance⟩
            unfold Hid
            rw [← seaC_set' _ s (show k < 4 by omega), HXY.out.1, HXY.out.2]
            exact (((hBk.out.set _ _).set _ _).alloc _).drew
        · obtain rfl : k = s.places.length := by omega
          go_wp2_with (fail)
          go_ret2
          have hwg : w.heap.size < g := HG.out.2
          have z1 : Grew w.heap.size w wr := ⟨⟨i1.out.1.trans x3.out.1, i1.out.2.1.trans x3.out.2.1, i1.out.2.2.1.trans x3.out.2.2.1, fun b hb => (i1.out.2.2.2 b (Nat.lt_trans hb hwg)).trans (x3.out.2.2.2 b hb)⟩⟩
          have z2 : Le w.heap.size wr := ⟨Nat.le_trans x4.out i2.out⟩
          have z3 : Grew B w wr := ⟨⟨z1.out.1, z1.out.2.1, z1.out.2.2.1, fun b hb => z1.out.2.2.2 b (Nat.lt_of_lt_of_le hb hB.out)⟩⟩
          exact ⟨g, wr, rfl, lat_def, Nat.le_of_lt hwg, hBk.out, H.out.up, by have := hB.out; omega⟩
end Go.Proofs.Ytnddiloeikaleaa
namespace Go.Proofs.Ytnddiloeikaleaa
open Go.RowKit
open An
open Tc

theorem sumLo_ge {xs : List Sp} (h : okPls xs = true) {k : Nat} (hk : k < xs.length) : (nth xs k).lo ≤ sumLo xs := by
  have key : ∀ m, k < m → m ≤ xs.length → (nth xs k).lo ≤ sumLo (xs.take m) := by
    intro m
    induction m with
    | zero => intro h; omega
    | succ m ih =>
      intro h1 h2
      rw [sumLo_snoc (by omega)]
      have a := (okSp_iff.1 (okPls_nth h (show m < xs.length by omega))).1
      obtain ⟨b, _, _⟩ := sums_bd h m (by omega)
      by_cases e : k = m
      · subst e; omega
      · have := ih (by omega) (by omega); omega
  have := key xs.length hk (Nat.le_refl _)
  rwa [List.take_length] at this
theorem partHi_bd {s : Sea} (hv : seaOk s = true) {k : Nat} (hk : k < s.places.length) : 0 ≤ partHi s k ∧ partHi s k ≤ 12 := by
  obtain ⟨v1, v2, v3, v4, v5, v6, v7⟩ := seaOk_iff.1 hv
  obtain ⟨p1, p2, p3⟩ := okSp_iff.1 (okPls_nth v4 hk)
  unfold partHi
  omega
theorem seaC_lo (r : SeaR) (s : Sea) (m : Nat) : (seaC r s m)[0]? = some (.int .i64 s.wt.lo) ∧ (seaC r s m)[1]? = some (.int .i64 s.wt.hi) ∧ (seaC r s m)[2]? = some (.slice r.pA s.places.length r.pc) ∧ (seaC r s m)[3]? = some (.slice r.bA s.boats.length r.bc) := ⟨rfl, rfl, rfl, rfl⟩
set_option maxRecDepth 100000 in
theorem seaNeed_c (r : SeaR) (s : Sea) (hv : seaOk s = true) (k : Nat) (hk : k < s.places.length) (v : Int) (hn : needB s k = v) (B g : Nat) (w : World) (h : AtSea B g r s w) :
    Calls Try.prog 81 #[.pointer (some ⟨g, 0, none⟩), .int .i64 k] w fun e w' => e = .returned (.int .i64 v) ∧ ∃ δ, w' = lat w δ := by
  obtain ⟨v1, v2, v3, v4, v5, v6, v7⟩ := seaOk_iff.1 hv
  obtain ⟨u1, u2, u3⟩ := okSp_iff.1 v1
  obtain ⟨q1, q2⟩ := partHi_bd hv hk
  have c1 := h.1.cell (seaC_lo r s s.places.length).2.1
  have c2 := h.1.cell (seaC_hi r s hk v2)
  rw [show 5 + 2 * k = 4 + k * 2 + 1 by omega] at c2
  have ig : Lt g w := h.1.lt
  have hk4 : (k : Int) < 4 := by omega
  have hk0 : ¬ (k : Int) < 0 := by omega
  have hb := An.mul_bd (show 0 ≤ s.wt.hi by omega) u3 q1 q2
  have hq : ((s.wt.hi * partHi s k + 12 - 1).tdiv 12) = v := hn
  obtain ⟨m, hm⟩ : ∃ m, s.wt.hi * partHi s k = m := ⟨_, rfl⟩
  rw [hm] at hb hq
  have hvb : 0 ≤ v ∧ v ≤ 2001 := by
    rw [Int.tdiv_eq_ediv_of_nonneg (by omega)] at hq
    omega
  obtain ⟨hv0, hv2⟩ := hvb
  clear hn hv v1 v4 v7 h q1 q2
  go_enter Try.func81, Try.ntmps81
  go_wp2_with (fail)
  refine wp_region_lat (by kernel_rfl) (by kernel_rfl) ?_
  repeat (go_big_quiet_step ((first | (fail))))
  refine wpQuiet_nil ?_
  rintro _ ⟨δq, rfl⟩
  go_wp2
  go_ret
  exact ⟨rfl, lat_ex⟩
theorem holdsTo_succ (s : Sea) (l : List Int) (k : Nat) : holdsTo s l (k + 1) = (holdsTo s l k && decide (needB s k ≤ (nth s.boats (nth l k).toNat).carry)) := by
  unfold holdsTo; rw [List.range_succ, List.all_append]; simp
theorem holdsTo_no {s : Sea} {l : List Int} {k : Nat} (hk : k < l.length) (h : decide (needB s k ≤ (nth s.boats (nth l k).toNat).carry) = false) : holdsL s l = false := by
  unfold holdsL holdsTo
  rw [List.all_eq_false]
  exact ⟨k, List.mem_range.2 hk, by rw [h]; decide⟩
theorem AtSea.lat {B g : Nat} {r : SeaR} {s : Sea} {w : World} (h : AtSea B g r s w) (δ : World) : AtSea B g r s (lat w δ) := ⟨h.1.lat δ, h.2.1.up (hg := ⟨Same.of ((lat_below w δ).mono (by have := h.2.2; have := h.1.lt_; omega))⟩), h.2.2⟩
set_option maxRecDepth 100000 in
set_option maxHeartbeats 4000000 in
theorem holds_c (r : SeaR) (s : Sea) (hv : seaOk s = true) (l : List Int) (hl : l.length = s.places.length) (hlb : ∀ x ∈ l, 0 ≤ x ∧ x < s.boats.length) (A : Option Addr) (c : Nat) (B g : Nat) (w : World) (h : AtSea B g r s w) (hS : Sl encI w.heap.size w A c l) :
    Calls Try.prog 77 #[.pointer (some ⟨g, 0, none⟩), .slice A l.length c] w fun e w' => e = .returned (.bool (holdsL s l)) ∧ ∃ δ, w' = lat w δ := by
  have c3 := h.1.cell (seaC_lo r s s.places.length).2.2.2
  have ig : Lt g w := h.1.lt
  have v2 := (seaOk_iff.1 hv).2.1
  have l1 := hS.len
  have l2 := h.2.1.2.len
  have HV := Lib.hid hv
  have HL := Lib.hid hl
  have HLB := Lib.hid hlb
  have H := Lib.hid h
  have HS := Lib.hid hS
  have hl4 : l.length ≤ 4 := by omega
  clear hv hl hlb h hS
  go_enter Try.func77, Try.ntmps77
  go_wp2_with (fail)
  go_loopg [5, 6, 9] l.length (fun gg z z2 i wr => ∃ (k : Nat) (δ : World), k ≤ l.length ∧ gg = l.length - k ∧ i = .int .i64 k ∧ Hid (holdsTo s l k = true) ∧ wr = lat w δ)
  case atStart => exact ⟨0, w, Nat.zero_le _, rfl, rfl, rfl, (lat_refl w).symm⟩
  case round =>
    obtain ⟨k, δ, hk, rfl, rfl, HT, rfl⟩ := hrel
    by_cases hlt : k < l.length
    · obtain ⟨b, o, rfl, hb, d0⟩ := HS.out.int hlt
      have ib : Lt b w := ⟨hb⟩
      obtain ⟨x1, x2⟩ := HLB.out _ (nth_mem l hlt)
      obtain ⟨j, hj⟩ : ∃ j : Nat, nth l k = j := ⟨(nth l k).toNat, by omega⟩
      have hjl : j < s.boats.length := by omega
      obtain ⟨b2, o2, hbA, hb2, e0, e1⟩ := H.out.2.1.2.boat hjl
      have hB : B ≤ w.heap.size := by have := H.out.2.2; have := ig.out; omega
      have ib2 : Lt b2 w := ⟨by omega⟩
      rw [hbA] at c3
      rw [hj] at d0
      have hki : (k : Int) < (l.length : Int) := by omega
      have hk0 : ¬ (k : Int) < 0 := by omega
      have hji : (j : Int) < (s.boats.length : Int) := by omega
      have hj0 : ¬ (j : Int) < 0 := by omega
      have HSU := Lib.hid (holdsTo_succ s l k)
      have HNO := Lib.hid (fun h => holdsTo_no (s := s) hlt h)
      have HK : Hid (k < s.places.length) := Lib.hid (by rw [← HL.out]; exact hlt)
      rw [hj, Int.toNat_natCast] at HSU HNO
      obtain ⟨q, hq⟩ : ∃ q, (nth s.boats j).carry = q := ⟨_, rfl⟩
      obtain ⟨n, hn⟩ : ∃ n, needB s k = n := ⟨_, rfl⟩
      have HN := Lib.hid hn
      rw [hq] at e0 HSU HNO
      rw [hn] at HSU HNO
      have HND : Hid (∀ m, Calls Try.prog 81 #[.pointer (some ⟨g, 0, none⟩), .int .i64 k] (lat (lat w δ) m) fun e w' => e = .returned (.int .i64 n) ∧ ∃ δ', w' = lat (lat (lat w δ) m) δ') := Lib.hid (fun m => seaNeed_c r s HV.out k HK.out n HN.out B g _ ((H.out.lat δ).lat m))
      clear hj hq hn
      go_wp2_with (fail)
      refine wp_region_lat (by kernel_rfl) (by kernel_rfl) ?_
      repeat (go_big_quiet_step ((first | (go_at_call 81; exact Calls.lat_of (HND.out _)))))
      refine wpQuiet_nil ?_
      rintro _ ⟨δq, rfl⟩
      by_cases hc : q < n
      · have hd : decide (n ≤ q) = false := decide_eq_false (by omega)
        go_wp2
        go_ret
        exact ⟨ret_bool (by rw [HNO.out hd]), lat_ex⟩
      · have hd : decide (n ≤ q) = true := decide_eq_true (by omega)
        have HD := Lib.hid hd
        clear hd
        go_wp2
        go_roundg (l.length - (k + 1))
        case measure => omega
        case rel => exact ⟨k + 1, _, hlt, rfl, by go_num, by rw [Hid, HSU.out, HT.out, HD.out]; rfl, lat_def⟩
    · obtain rfl : k = l.length := by omega
      go_wp2_with (fail)
      go_ret
      exact ⟨ret_bool (by unfold holdsL; rw [HT.out]), lat_ex⟩
end Go.Proofs.Ytnddiloeikaleaa
