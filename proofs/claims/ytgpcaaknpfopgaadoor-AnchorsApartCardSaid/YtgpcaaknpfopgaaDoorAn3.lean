/- Layer 2: the walks of the reference's Check, and of what it calls. -/
import Derived.Test.YtgpcaaknpfopgaaDoorAn2
namespace Go.Proofs.YtgpcaaknpfopgaaDoor
open Go.RowKit
open An

theorem rIsSpan_c (s : Sp) (m : Int) (w : World) :
    Calls Tryd.prog 89 #[.agg #[.int .i64 s.lo, .int .i64 s.hi], .int .i64 m] w fun e w' => e = .returned (.bool (okSp m s)) ∧ ∃ δ, w' = lat w δ := by
  go_enter Tryd.func89, Tryd.ntmps89
  go_wp2_with (go_at_call 72; refine (within2_c _ _ _ _).mono ?_; rintro e w1 ⟨rfl, rfl⟩)
  all_goals
    go_ret
    exact ⟨ret_bool (by grind [inB, okSp]), lat_ex⟩

set_option maxRecDepth 100000 in
set_option maxHeartbeats 2000000 in
theorem rCheck_c (r : NetR) (n : Net) (B : Nat) (w : World) (h : NetIs B w r n) [hB : Le B w] :
    Calls Tryd.prog 39 #[netV r n] w fun e w' => e = .returned (.int .i64 (errOf (valid n) 20)) ∧ ∃ δ, w' = lat w δ := by
  have l1 := h.1.len
  have l2 := h.2.1.len
  have l3 := h.2.2.len
  by_cases hw : n.wals.length = n.ancs.length - 1
  case neg =>
    obtain ⟨m, hm⟩ : ∃ m : Nat, m = n.ancs.length - 1 := ⟨_, rfl⟩
    have hmx : (if 1 < (n.ancs.length : Int) then (n.ancs.length : Int) - 1 else 0) = (m : Int) := by split <;> omega
    have hne : ((n.wals.length : Int) != (m : Int)) = true := by simp; omega
    have hv : valid n = false := by rw [← Bool.not_eq_true]; intro hv; exact hw (valid_iff.1 hv).2.2.2.2.1
    have HV := Lib.hid hv
    clear hm hv hw
    go_enter Tryd.func39, Tryd.ntmps39
    go_wp2_with (go_at_call 89; refine (rIsSpan_c _ _ _).mono ?_; rintro e w1 ⟨rfl, δ, rfl⟩)
    all_goals
      go_ret
      exact ⟨ret_int (by rw [HV.out]; rfl), lat_ex⟩
  case pos =>
    have hmx : (if 1 < (n.ancs.length : Int) then (n.ancs.length : Int) - 1 else 0) = (n.wals.length : Int) := by split <;> omega
    have HW := Lib.hid hw
    clear hw
    go_enter Tryd.func39, Tryd.ntmps39
    go_wp2_with (go_at_call 89; refine (rIsSpan_c _ _ _).mono ?_; rintro e w1 ⟨rfl, δ, rfl⟩)
    all_goals first
      | (go_ret
         refine ⟨ret_int ?_, lat_ex⟩
         go_light
         have hv := @valid_iff n
         grind [errOf])
      | skip
    refine wp_name fun W1 hW1 => ?_
    have c4 : W1.cell? ⟨w.heap.size, 4, none⟩ = some (.slice r.gA n.grips.length r.gc) := by rw [hW1.out]; go_simp
    have c5 : W1.cell? ⟨w.heap.size, 5, none⟩ = some (.slice r.aA n.ancs.length r.ac) := by rw [hW1.out]; go_simp
    have c6 : W1.cell? ⟨w.heap.size, 6, none⟩ = some (.slice r.wA n.wals.length r.wc) := by rw [hW1.out]; go_simp
    have i1 : Lt w.heap.size W1 := by rw [hW1.out]; infer_instance
    have i2 : Le B W1 := by rw [hW1.out]; infer_instance
    have i3 : Grew B w W1 := by rw [hW1.out]; infer_instance
    have i4 : Grew w.heap.size w W1 := by rw [hW1.out]; infer_instance
    have i5 : Le w.heap.size W1 := by rw [hW1.out]; infer_instance
    have s1 : Sl encSp B W1 r.gA r.gc n.grips := h.1.up
    have s2 : Sl encAnc B W1 r.aA r.ac n.ancs := h.2.1.up
    have s3 : Sl encWal B W1 r.wA r.wc n.wals := h.2.2.up
    have F := Lib.hid (show okSp 20 n.wind = true ∧ okSp 20 n.cur = true ∧ n.grips.length ≤ 3 ∧ n.ancs.length ≤ 6 by refine ⟨by assumption, by assumption, by omega, by omega⟩)
    clear hmx
    go_loopw [3] (fun i wr => ∃ (k : Nat) (δ : World), k ≤ n.grips.length ∧ i = .int .i64 k ∧ Hid (okSps (n.grips.take k) = true) ∧ wr = lat W1 δ) (fun i _ => n.grips.length - (intOf i).toNat)
    case atStart => exact ⟨0, W1, Nat.zero_le _, rfl, by simp [Hid, okSps], (lat_refl W1).symm⟩
    case round =>
      obtain ⟨k, δ, hk, rfl, hn, rfl⟩ := hrel
      by_cases hlt : k < n.grips.length
      · obtain ⟨b, o, hA, hb, d0, d1⟩ := s1.sp hlt
        have ib : Lt b W1 := ⟨Nat.lt_of_lt_of_le hb i2.out⟩
        rw [hA] at c4
        have hm := Lib.hid (nth_mem n.grips hlt)
        have ht := Lib.hid (take_snoc n.grips hlt)
        clear hA
        go_wp2_with (go_at_call 89; refine (rIsSpan_c (nth n.grips k) 9 _).mono ?_; rintro e w1 ⟨rfl, δ1, rfl⟩)
        · go_ret
          refine ⟨ret_int ?_, lat_ex⟩
          go_light
          have hv := (@valid_iff n).1
          have hm := hm.out
          grind [errOf, okSps]
        · go_roundw
          case rel =>
            refine ⟨k + 1, _, by omega, by go_num, ?_, lat_def⟩
            unfold Hid
            have hn := hn.out
            rw [ht.out]
            go_light
            grind [okSps]
          case measure => simp [intOf]; omega
      · obtain rfl : k = n.grips.length := by omega
        have G1 := Lib.hid (show okSps n.grips = true by have := hn.out; rwa [List.take_length] at this)
        clear hlt hn hk
        go_wp2
        go_loopw [4] (fun i wr => ∃ (k : Nat) (δ : World), k ≤ n.ancs.length ∧ i = .int .i64 k ∧ Hid (okAncl n.grips.length (n.ancs.take k) = true) ∧ wr = lat W1 δ) (fun i _ => n.ancs.length - (intOf i).toNat)
        case atStart => exact ⟨0, δ, Nat.zero_le _, rfl, by simp [Hid, okAncl], rfl⟩
        case round =>
          obtain ⟨k, δ, hk, rfl, hn, rfl⟩ := hrel
          by_cases hlt : k < n.ancs.length
          · obtain ⟨b, o, hA, hb, d0, d1⟩ := s2.anc hlt
            have ib : Lt b W1 := ⟨Nat.lt_of_lt_of_le hb i2.out⟩
            rw [hA] at c5
            have hm := Lib.hid (nth_mem n.ancs hlt)
            have ht := Lib.hid (take_snoc n.ancs hlt)
            have hki : (k : Int) < (n.ancs.length : Int) := by omega
            have hk0 : ¬ (k : Int) < 0 := by omega
            clear hA
            by_cases g1 : inB 0 20 (nth n.ancs k).wt = true
            all_goals try rw [Bool.not_eq_true] at g1
            all_goals
              go_wp2_with (fail)
              refine wp_region_lat (by kernel_rfl) (by kernel_rfl) ?_
              repeat (go_big_quiet_step ((go_at_call 72; exact Calls.lat_same (within2_c _ _ _ _))))
              refine wpQuiet_nil ?_
              rintro _ ⟨δ1, rfl⟩
              go_wp2
            all_goals try rw [Bool.not_eq_true] at g1
            all_goals first
              | (go_ret
                 refine ⟨ret_int ?_, lat_ex⟩
                 go_light
                 have hv := (@valid_iff n).1
                 have hm := hm.out
                 grind [errOf, okAncl, okAnc, inB])
              | (go_roundw
                 case rel =>
                   refine ⟨k + 1, _, by omega, by go_num, ?_, lat_def⟩
                   unfold Hid
                   have hn := hn.out
                   rw [ht.out]
                   go_light
                   grind [okAncl, okAnc, inB]
                 case measure => simp [intOf]; omega)
          · obtain rfl : k = n.ancs.length := by omega
            have G2 := Lib.hid (show okAncl n.grips.length n.ancs = true by have := hn.out; rwa [List.take_length] at this)
            clear hlt hn hk
            go_wp2
            go_loopw [5] (fun i wr => ∃ (k : Nat) (δ : World), k ≤ n.wals.length ∧ i = .int .i64 k ∧ Hid (okWall (n.wals.take k) = true) ∧ wr = lat W1 δ) (fun i _ => n.wals.length - (intOf i).toNat)
            case atStart => exact ⟨0, δ, Nat.zero_le _, rfl, by simp [Hid, okWall], rfl⟩
            case round =>
              obtain ⟨k, δ, hk, rfl, hn, rfl⟩ := hrel
              by_cases hlt : k < n.wals.length
              · obtain ⟨b, o, hA, hb, d0, d1, d2, d3, d4⟩ := s3.wal hlt
                have ib : Lt b W1 := ⟨Nat.lt_of_lt_of_le hb i2.out⟩
                rw [hA] at c6
                have hm := Lib.hid (nth_mem n.wals hlt)
                have ht := Lib.hid (take_snoc n.wals hlt)
                have hki : (k : Int) < (n.wals.length : Int) := by omega
                have hk0 : ¬ (k : Int) < 0 := by omega
                clear hA
                go_wp2_with (go_at_call 72; refine (within2_c _ _ _ _).mono ?_; rintro e w1 ⟨rfl, rfl⟩)
                all_goals first
                  | (go_ret
                     refine ⟨ret_int ?_, lat_ex⟩
                     go_light
                     have hv := (@valid_iff n).1
                     have hm := hm.out
                     grind [errOf, okWall, okWal, inB])
                  | (go_roundw
                     case rel =>
                       refine ⟨k + 1, _, by omega, by go_num, ?_, lat_def⟩
                       unfold Hid
                       have hn := hn.out
                       rw [ht.out]
                       go_light
                       grind [okWall, okWal, inB]
                     case measure => simp [intOf]; omega)
              · obtain rfl : k = n.wals.length := by omega
                have G3 : okWall n.wals = true := by have := hn.out; rwa [List.take_length] at this
                have HV := Lib.hid (show valid n = true from valid_iff.2 ⟨F.out.1, F.out.2.1, F.out.2.2.1, F.out.2.2.2, HW.out, G1.out, G2.out, G3⟩)
                clear hlt hn hk G3
                go_wp2
                go_ret
                exact ⟨ret_int (by rw [HV.out]; rfl), lat_ex⟩

end Go.Proofs.YtgpcaaknpfopgaaDoor
