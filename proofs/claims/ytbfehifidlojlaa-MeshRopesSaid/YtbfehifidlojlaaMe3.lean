/- Layer 4: the walks of the program's good, and of the parts of both Checks. -/
import Derived.Test.YtbfehifidlojlaaMe2
namespace Go.Proofs.Ytbfehifidlojlaa
open Go.RowKit
open Me

theorem good_c (r : NetR) (n : Net) (A : Option Addr) (c : Nat) (l : List Int) (b : Bool) (hb : isOrd n l = b) (B : Nat) (w : World) (hS : Sl encI B w A c l) (hN : NetIs B w r n) [hB : Le B w] :
    Calls Try.prog 77 #[netV r n, .slice A l.length c] w fun e w' => e = .returned (.bool b) ∧ ∃ δ, w' = lat w δ := by
  subst hb
  have hl := hS.len
  have hl2 := hN.1.len
  by_cases h0 : l.length = n.hs.length
  · have h0' : ((l.length : Int) != (n.hs.length : Int)) = false := by simp [h0]
    have H0 := Lib.hid h0
    clear h0
    go_enter Try.func77, Try.ntmps77
    go_wp2_with (fail)
    go_loopw [16] (fun i wr => ∃ (k : Nat) (δ : World), k ≤ l.length ∧ i = .int .i64 k ∧ Hid (goes n [] (l.take k) = true) ∧ wr = lat (w.alloc (.cells #[.int .i64 n.m, .slice r.hA n.hs.length r.hc, .slice r.pA n.ps.length r.pc] 71)) δ) (fun i _ => l.length - (intOf i).toNat)
    case atStart => exact ⟨0, _, Nat.zero_le _, rfl, by simp [Hid, goes], (lat_refl _).symm⟩
    case round =>
      obtain ⟨k, δ, hk, rfl, hn, rfl⟩ := hrel
      by_cases hlt : k < l.length
      · obtain ⟨b', o, rfl, hb, hc0⟩ := hS.int hlt
        have hb' : Lt b' w := ⟨Nat.lt_of_lt_of_le hb hB.out⟩
        have hg := Lib.hid (goes_take (n := n) hlt)
        have hki : (k : Int) < (l.length : Int) := by omega
        have hk0 : ¬ (k : Int) < 0 := by omega
        have hT := Lib.hid (hS.take k)
        have hkc : (k : Int) ≤ (c : Int) := by have := hS.1; omega
        have hk00 : (0 : Int) ≤ (k : Int) := by omega
        have HL := Lib.hid (show (l.take k).length = k by rw [List.length_take]; omega)
        by_cases h1 : inB 0 ((n.hs.length : Int) - 1) (nth l k) = true
        · have HI := Lib.hid h1
          clear h1
          by_cases h2 : isIn (l.take k) (nth l k) = true
          · have HM := Lib.hid h2
            clear h2
            go_wp2_with (fail)
            refine wp_region_lat (by kernel_rfl) (by kernel_rfl) ?_
            repeat (go_big_quiet_step ((first | (go_at_call 71; exact Calls.lat_same ((HI.out ▸ withinM_c _ _ _ _))) | (go_at_call 97; exact Calls.lat_same (contains_c _ _ _ (l.take k) _ _ HM.out B _ hT.out.up HL.out)))))
            refine wpQuiet_nil ?_
            rintro _ ⟨δq, rfl⟩
            go_wp2_with (fail)
            go_ret
            refine ⟨ret_bool ?_, lat_ex⟩
            have : goes n [] (l.take (k + 1)) = false := by rw [hg.out]; unfold may; rw [HM.out]; simp
            simp [isOrd, goes_more this]
          · rw [Bool.not_eq_true] at h2
            have HM := Lib.hid h2
            clear h2
            by_cases h3 : rdy n.ps (l.take k) (nth l k) = true
            · have HR := Lib.hid h3
              clear h3
              go_wp2_with (fail)
              refine wp_region_lat (by kernel_rfl) (by kernel_rfl) ?_
              repeat (go_big_quiet_step ((first | (go_at_call 71; exact Calls.lat_same ((HI.out ▸ withinM_c _ _ _ _))) | (go_at_call 97; exact Calls.lat_same (contains_c _ _ _ (l.take k) _ _ HM.out B _ hT.out.up HL.out)) | (go_at_call 98; exact Calls.lat_of (ready_c r n _ _ _ _ (l.take k) _ HR.out B _ hT.out.up hN.up HL.out)))))
              refine wpQuiet_nil ?_
              rintro _ ⟨δq, rfl⟩
              go_wp2_with (fail)
              go_roundw
              case rel =>
                refine ⟨k + 1, _, by omega, by go_num, ?_, lat_def⟩
                unfold Hid
                rw [hg.out, hn.out, HI.out]; unfold may; rw [HM.out, HR.out]; rfl
              case measure => simp [intOf]; omega
            · rw [Bool.not_eq_true] at h3
              have HR := Lib.hid h3
              clear h3
              go_wp2_with (fail)
              refine wp_region_lat (by kernel_rfl) (by kernel_rfl) ?_
              repeat (go_big_quiet_step ((first | (go_at_call 71; exact Calls.lat_same ((HI.out ▸ withinM_c _ _ _ _))) | (go_at_call 97; exact Calls.lat_same (contains_c _ _ _ (l.take k) _ _ HM.out B _ hT.out.up HL.out)) | (go_at_call 98; exact Calls.lat_of (ready_c r n _ _ _ _ (l.take k) _ HR.out B _ hT.out.up hN.up HL.out)))))
              refine wpQuiet_nil ?_
              rintro _ ⟨δq, rfl⟩
              go_wp2_with (fail)
              go_ret
              refine ⟨ret_bool ?_, lat_ex⟩
              have : goes n [] (l.take (k + 1)) = false := by rw [hg.out]; unfold may; rw [HR.out]; simp
              simp [isOrd, goes_more this]
        · rw [Bool.not_eq_true] at h1
          have HI := Lib.hid h1
          clear h1
          go_wp2_with (fail)
          refine wp_region_lat (by kernel_rfl) (by kernel_rfl) ?_
          repeat (go_big_quiet_step ((first | (go_at_call 71; exact Calls.lat_same ((HI.out ▸ withinM_c _ _ _ _))))))
          refine wpQuiet_nil ?_
          rintro _ ⟨δq, rfl⟩
          go_wp2_with (fail)
          go_ret
          refine ⟨ret_bool ?_, lat_ex⟩
          have : goes n [] (l.take (k + 1)) = false := by rw [hg.out, HI.out]; simp
          simp [isOrd, goes_more this]
      · obtain rfl : k = l.length := by omega
        go_wp2
        go_ret
        refine ⟨ret_bool ?_, lat_ex⟩
        have := hn.out
        rw [List.take_length] at this
        simp [isOrd, this, H0.out]
  · have h0' : ((l.length : Int) != (n.hs.length : Int)) = true := by simp; omega
    have H0 := Lib.hid h0
    clear h0
    go_enter Try.func77, Try.ntmps77
    go_wp2_with (fail)
    go_ret
    refine ⟨ret_bool ?_, lat_ex⟩
    simp [isOrd, H0.out]

/-! ### The program's Check: its parts -/
theorem check1_c (r : NetR) (n : Net) (x : Int) (bx : Nat) (w : World) [i1 : Lt bx w] (hl : n.hs.length ≤ 9223372036854775807) (hc : w.cell? ⟨bx, 1, none⟩ = some (.slice r.hA n.hs.length r.hc)) :
    Calls Try.prog 70 #[.int .i64 x, .pointer (some ⟨bx, 0, none⟩)] w fun e w' => e = .returned (.bool (inB 0 ((n.hs.length : Int) - 1) x)) ∧ w = w' := by
  go_enter Try.func70, Try.ntmps70
  go_wp2_with (go_at_call 71; refine (withinM_c _ _ _ _).mono ?_; rintro e w1 ⟨rfl, rfl⟩)
  go_ret
  exact ⟨rfl, rfl⟩
theorem check2_c (x : Hole) (w : World) :
    Calls Try.prog 73 #[.agg #[.int .i64 x.fr, .int .i64 x.lo, .int .i64 x.hi, .int .i64 x.hr]] w fun e w' => e = .returned (.bool (!okHole x)) ∧ ∃ δ, w' = lat w δ := by
  go_enter Try.func73, Try.ntmps73
  go_wp2_with (go_at_call 71; refine (withinM_c _ _ _ _).mono ?_; rintro e w1 ⟨rfl, rfl⟩)
  all_goals
    go_ret
    exact ⟨ret_bool (by rw [Bool.eq_iff_iff]; simp [inB, okHole] at *; omega), lat_ex⟩
theorem check3_c (r : NetR) (n : Net) (p : Pr) (bx bf : Nat) (w : World) [i1 : Lt bx w] [i2 : Lt bf w] (hl : n.hs.length ≤ 9223372036854775807) (hc : w.cell? ⟨bx, 1, none⟩ = some (.slice r.hA n.hs.length r.hc))
    (hf : w.cell? ⟨bf, 0, none⟩ = some (.func (.func 70) #[] #[.pointer (some ⟨bx, 0, none⟩)])) :
    Calls Try.prog 75 #[.agg #[.int .i64 p.a, .int .i64 p.b], .pointer (some ⟨bf, 0, none⟩)] w fun e w' => e = .returned (.bool (!okPr n.hs.length p)) ∧ ∃ δ, w' = lat w δ := by
  go_enter Try.func75, Try.ntmps75
  go_wp2_with (go_at_call 70; refine (check1_c r n _ bx _ hl (by go_simp)).mono ?_; rintro e w1 ⟨rfl, rfl⟩)
  all_goals
    go_ret
    exact ⟨ret_bool (by rw [Bool.eq_iff_iff]; simp [inB, okPr] at *; omega), lat_ex⟩

theorem indexHoles_c (A : Option Addr) (ln c : Nat) (xs : List Hole) (B : Nat) (w : World) (h : Sl encHole B w A c xs) (hn : xs.length = ln) [hB : Le B w] :
    Calls Try.prog 95 #[.slice A ln c, .func (.func 73) #[] #[]] w fun e w' => (∃ n : Int, e = .returned (.int .i64 n) ∧ decide (0 ≤ n) = !okHoles xs) ∧ ∃ δ, w' = lat w δ := by
  subst hn
  have hl := h.len
  go_enter Try.func95, Try.ntmps95
  go_wp2
  go_loopw [8] (fun i wr => ∃ (k : Nat) (δ : World), k ≤ xs.length ∧ i = .int .i64 k ∧ Hid ((xs.take k).all okHole = true) ∧ wr = lat w δ) (fun i _ => xs.length - (intOf i).toNat)
  case atStart => exact ⟨0, w, Nat.zero_le _, rfl, by simp [Hid], (lat_refl w).symm⟩
  case round =>
    obtain ⟨k, δ, hk, rfl, hn, rfl⟩ := hrel
    by_cases hlt : k < xs.length
    · obtain ⟨b', o, rfl, hb, hc0, hc1, hc2, hc3⟩ := h.hole hlt
      have hb' : Lt b' w := ⟨Nat.lt_of_lt_of_le hb hB.out⟩
      have hm := Lib.hid (nth_mem xs hlt)
      have ht := Lib.hid (take_snoc xs hlt)
      by_cases he : okHole (nth xs k) = true
      · go_wp2_with (go_at_call 73; refine (check2_c (nth xs k) _).mono ?_; rintro e w1 ⟨rfl, δ1, rfl⟩)
        go_roundw
        case rel =>
          refine ⟨k + 1, _, by omega, by go_num, ?_, lat_def⟩
          unfold Hid
          rw [ht.out, List.all_append, hn.out]
          simp [he]
        case measure => simp [intOf]; omega
      · rw [Bool.not_eq_true] at he
        go_wp2_with (go_at_call 73; refine (check2_c (nth xs k) _).mono ?_; rintro e w1 ⟨rfl, δ1, rfl⟩)
        go_ret
        refine ⟨⟨k, rfl, ?_⟩, lat_ex⟩
        have : okHoles xs = false := by
          rw [okHoles, List.all_eq_false]
          exact ⟨_, hm.out, by simp [he]⟩
        rw [this]; simp
    · obtain rfl : k = xs.length := by omega
      go_wp2
      go_ret
      refine ⟨⟨-1, rfl, ?_⟩, lat_ex⟩
      have := hn.out
      rw [List.take_length] at this
      rw [okHoles, this]; rfl
theorem indexPrs_c (r : NetR) (n : Net) (bx bf : Nat) (A : Option Addr) (ln c : Nat) (xs : List Pr) (B : Nat) (w : World) (h : Sl encPr B w A c xs) (hn : xs.length = ln) [hB : Le B w] [i1 : Lt bx w] [i2 : Lt bf w] (hl' : n.hs.length ≤ 9223372036854775807) (hc : w.cell? ⟨bx, 1, none⟩ = some (.slice r.hA n.hs.length r.hc))
    (hf : w.cell? ⟨bf, 0, none⟩ = some (.func (.func 70) #[] #[.pointer (some ⟨bx, 0, none⟩)])) :
    Calls Try.prog 96 #[.slice A ln c, .func (.func 75) #[] #[.pointer (some ⟨bf, 0, none⟩)]] w fun e w' => (∃ k : Int, e = .returned (.int .i64 k) ∧ decide (0 ≤ k) = !okPrs n.hs.length xs) ∧ ∃ δ, w' = lat w δ := by
  subst hn
  have hl := h.len
  go_enter Try.func96, Try.ntmps96
  go_wp2
  go_loopw [8] (fun i wr => ∃ (k : Nat) (δ : World), k ≤ xs.length ∧ i = .int .i64 k ∧ Hid ((xs.take k).all (okPr n.hs.length) = true) ∧ wr = lat w δ) (fun i _ => xs.length - (intOf i).toNat)
  case atStart => exact ⟨0, w, Nat.zero_le _, rfl, by simp [Hid], (lat_refl w).symm⟩
  case round =>
    obtain ⟨k, δ, hk, rfl, hn, rfl⟩ := hrel
    by_cases hlt : k < xs.length
    · obtain ⟨b', o, rfl, hb, hc0, hc1⟩ := h.pr hlt
      have hb' : Lt b' w := ⟨Nat.lt_of_lt_of_le hb hB.out⟩
      have hm := Lib.hid (nth_mem xs hlt)
      have ht := Lib.hid (take_snoc xs hlt)
      by_cases he : okPr n.hs.length (nth xs k) = true
      · go_wp2_with (go_at_call 75; refine (check3_c r n (nth xs k) bx bf _ hl' (by go_simp) (by go_simp)).mono ?_; rintro e w1 ⟨rfl, δ1, rfl⟩)
        go_roundw
        case rel =>
          refine ⟨k + 1, _, by omega, by go_num, ?_, lat_def⟩
          unfold Hid
          rw [ht.out, List.all_append, hn.out]
          simp [he]
        case measure => simp [intOf]; omega
      · rw [Bool.not_eq_true] at he
        go_wp2_with (go_at_call 75; refine (check3_c r n (nth xs k) bx bf _ hl' (by go_simp) (by go_simp)).mono ?_; rintro e w1 ⟨rfl, δ1, rfl⟩)
        go_ret
        refine ⟨⟨k, rfl, ?_⟩, lat_ex⟩
        have : okPrs n.hs.length xs = false := by
          rw [okPrs, List.all_eq_false]
          exact ⟨_, hm.out, by simp [he]⟩
        rw [this]; simp
    · obtain rfl : k = xs.length := by omega
      go_wp2
      go_ret
      refine ⟨⟨-1, rfl, ?_⟩, lat_ex⟩
      have := hn.out
      rw [List.take_length] at this
      rw [okPrs, this]; rfl

end Go.Proofs.Ytbfehifidlojlaa
