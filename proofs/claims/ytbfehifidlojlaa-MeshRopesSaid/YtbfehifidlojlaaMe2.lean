/- Layer 4: the walks of what may come next, the program's (ready) and the reference's (May); of good, IsOrder; of Check's parts. -/
import Derived.Test.YtbfehifidlojlaaMe1
namespace Go.Proofs.Ytbfehifidlojlaa
open Go.RowKit
open Me

/-! ### The program's ready -/
theorem ready1_c (p : Pr) (h : Int) (bh bl : Nat) (A : Option Addr) (c : Nat) (l : List Int) (B : Nat) (w : World) (hS : Sl encI B w A c l) [hB : Le B w] [i1 : Lt bh w] [i2 : Lt bl w]
    (c1 : w.cell? ⟨bh, 0, none⟩ = some (.int .i64 h)) (c2 : w.cell? ⟨bl, 0, none⟩ = some (.slice A l.length c)) (b : Bool) (hb : prOk l h p = b) :
    Calls Try.prog 105 #[.agg #[.int .i64 p.a, .int .i64 p.b], .pointer (some ⟨bh, 0, none⟩), .pointer (some ⟨bl, 0, none⟩)] w fun e w' => e = .returned (.bool (!b)) ∧ ∃ δ, w' = lat w δ := by
  subst hb
  by_cases h1 : p.b = h
  · have h1' : (p.b == h) = true := by simpa using h1
    have HE := Lib.hid h1
    clear h1
    go_enter Try.func105, Try.ntmps105
    go_wp2_with (go_at_call 97; refine (contains_c _ _ _ l _ _ rfl B _ hS.up rfl).mono ?_; rintro e w1 ⟨rfl, rfl⟩)
    go_ret
    exact ⟨ret_bool (by simp [prOk, HE.out]), lat_ex⟩
  · have h1' : (p.b == h) = false := by simpa using h1
    have HE := Lib.hid h1
    clear h1
    go_enter Try.func105, Try.ntmps105
    go_wp2_with (fail)
    go_ret
    exact ⟨ret_bool (by simp [prOk, HE.out]), lat_ex⟩
theorem readyAll_c (h : Int) (bh bl : Nat) (A : Option Addr) (c : Nat) (l : List Int) (pA : Option Addr) (pc ln : Nat) (ps : List Pr) (B : Nat) (w : World) (hS : Sl encI B w A c l) (hP : Sl encPr B w pA pc ps) (hln : ps.length = ln) [hB : Le B w] [i1 : Lt bh w] [i2 : Lt bl w]
    (c1 : w.cell? ⟨bh, 0, none⟩ = some (.int .i64 h)) (c2 : w.cell? ⟨bl, 0, none⟩ = some (.slice A l.length c)) :
    Calls Try.prog 96 #[.slice pA ln pc, .func (.func 105) #[] #[.pointer (some ⟨bh, 0, none⟩), .pointer (some ⟨bl, 0, none⟩)]] w fun e w' => (∃ n : Int, e = .returned (.int .i64 n) ∧ decide (0 ≤ n) = !rdy ps l h) ∧ ∃ δ, w' = lat w δ := by
  subst hln
  have hl := hP.len
  go_enter Try.func96, Try.ntmps96
  go_wp2
  go_loopw [8] (fun i wr => ∃ (k : Nat) (δ : World), k ≤ ps.length ∧ i = .int .i64 k ∧ Hid ((ps.take k).all (prOk l h) = true) ∧ wr = lat w δ) (fun i _ => ps.length - (intOf i).toNat)
  case atStart => exact ⟨0, w, Nat.zero_le _, rfl, by simp [Hid], (lat_refl w).symm⟩
  case round =>
    obtain ⟨k, δ, hk, rfl, hn, rfl⟩ := hrel
    by_cases hlt : k < ps.length
    · obtain ⟨b', o, rfl, hb, hc0, hc1⟩ := hP.pr hlt
      have hb' : Lt b' w := ⟨Nat.lt_of_lt_of_le hb hB.out⟩
      have hm := Lib.hid (nth_mem ps hlt)
      have ht := Lib.hid (take_snoc ps hlt)
      by_cases he : prOk l h (nth ps k) = true
      · have HE := Lib.hid he
        clear he
        go_wp2_with (go_at_call 105; refine (ready1_c (nth ps k) h bh bl A c l B _ hS.up (by go_simp) (by go_simp) _ HE.out).mono ?_; rintro e w1 ⟨rfl, δ1, rfl⟩)
        go_roundw
        case rel =>
          refine ⟨k + 1, _, by omega, by go_num, ?_, lat_def⟩
          unfold Hid
          rw [ht.out, List.all_append, hn.out]
          simp [HE.out]
        case measure => simp [intOf]; omega
      · rw [Bool.not_eq_true] at he
        have HE := Lib.hid he
        clear he
        go_wp2_with (go_at_call 105; refine (ready1_c (nth ps k) h bh bl A c l B _ hS.up (by go_simp) (by go_simp) _ HE.out).mono ?_; rintro e w1 ⟨rfl, δ1, rfl⟩)
        go_ret
        refine ⟨⟨k, rfl, ?_⟩, lat_ex⟩
        have : rdy ps l h = false := by
          rw [rdy, List.all_eq_false]
          exact ⟨_, hm.out, by simp [HE.out]⟩
        rw [this]
        simp
    · obtain rfl : k = ps.length := by omega
      go_wp2
      go_ret
      refine ⟨⟨-1, rfl, ?_⟩, lat_ex⟩
      have := hn.out
      rw [List.take_length] at this
      rw [rdy, this]
      rfl
theorem ready_c (r : NetR) (n : Net) (h : Int) (A : Option Addr) (c ln : Nat) (l : List Int) (b : Bool) (hb : rdy n.ps l h = b) (B : Nat) (w : World) (hS : Sl encI B w A c l) (hN : NetIs B w r n) (hln : l.length = ln) [hB : Le B w] :
    Calls Try.prog 98 #[netV r n, .int .i64 h, .slice A ln c] w fun e w' => e = .returned (.bool b) ∧ ∃ δ, w' = lat w δ := by
  subst hln hb
  go_enter Try.func98, Try.ntmps98
  go_wp2_with (first | (go_at_call 74; go_in) | (go_at_call 96; refine (readyAll_c h _ _ A c l r.pA r.pc _ n.ps B _ hS.up hN.2.up rfl (by go_simp) (by go_simp)).mono ?_; rintro e w1 ⟨⟨k, rfl, hk⟩, δ, rfl⟩))
  go_ret
  exact ⟨ret_bool (by simp), lat_ex⟩

/-! ### The reference's May -/
theorem rMay_c (r : NetR) (n : Net) (h : Int) (A : Option Addr) (c ln : Nat) (l : List Int) (b : Bool) (hb : may n l h = b) (B : Nat) (w : World) (hS : Sl encI B w A c l) (hN : NetIs B w r n) (hln : l.length = ln) [hB : Le B w] :
    Calls Try.prog 60 #[netV r n, .slice A ln c, .int .i64 h] w fun e w' => e = .returned (.bool b) ∧ ∃ δ, w' = lat w δ := by
  subst hln hb
  have hl := hN.2.len
  by_cases hi : isIn l h = true
  · go_enter Try.func60, Try.ntmps60
    go_wp2_with (go_at_call 94; refine (in_c _ _ _ l _ B _ hS.up rfl).mono ?_; rintro e w1 ⟨rfl, rfl⟩)
    go_ret
    exact ⟨ret_bool (by simp [may, hi]), lat_ex⟩
  · rw [Bool.not_eq_true] at hi
    go_enter Try.func60, Try.ntmps60
    go_wp2_with (go_at_call 94; refine (in_c _ _ _ l _ B _ hS.up rfl).mono ?_; rintro e w1 ⟨rfl, rfl⟩)
    go_loop [7] (fun i => ∃ k : Nat, k ≤ n.ps.length ∧ i = .int .i64 k ∧ Hid ((n.ps.take k).all (prOk l h) = true)) (fun i => n.ps.length - (intOf i).toNat)
    case atStart => exact ⟨0, Nat.zero_le _, rfl, by simp [Hid]⟩
    case round =>
      obtain ⟨k, hk, rfl, hn⟩ := hrel
      by_cases hlt : k < n.ps.length
      · obtain ⟨b', o, hA, hb, hc0, hc1⟩ := hN.2.pr hlt
        have hb' : Lt b' w := ⟨Nat.lt_of_lt_of_le hb hB.out⟩
        have hm := Lib.hid (nth_mem n.ps hlt)
        have ht := Lib.hid (take_snoc n.ps hlt)
        have HA := Lib.hid hA
        have hki : (k : Int) < (n.ps.length : Int) := by omega
        have hk0 : ¬ (k : Int) < 0 := by omega
        obtain ⟨rA, rc, pA, pc⟩ := r
        have hA : pA = some ⟨b', o, none⟩ := HA.out
        subst hA
        by_cases h1 : (nth n.ps k).b = h
        · have h1' : ((nth n.ps k).b == h) = true := by simpa using h1
          by_cases h2 : isIn l (nth n.ps k).a = true
          · have HP := Lib.hid (show prOk l h (nth n.ps k) = true by simp [prOk, h2])
            clear h1
            go_wp2_with (go_at_call 94; refine (in_c _ _ _ l _ B _ hS.up rfl).mono ?_; rintro e w1 ⟨rfl, rfl⟩)
            go_round
            case rel =>
              refine ⟨k + 1, by omega, by go_num, ?_⟩
              unfold Hid
              rw [ht.out, List.all_append, hn.out]
              simp [HP.out]
            case measure => simp [intOf]; omega
          · rw [Bool.not_eq_true] at h2
            have HP := Lib.hid (show prOk l h (nth n.ps k) = false by simp [prOk, h2, h1])
            clear h1
            go_wp2_with (go_at_call 94; refine (in_c _ _ _ l _ B _ hS.up rfl).mono ?_; rintro e w1 ⟨rfl, rfl⟩)
            go_ret
            refine ⟨ret_bool ?_, lat_ex⟩
            have : rdy n.ps l h = false := by
              rw [rdy, List.all_eq_false]
              exact ⟨_, hm.out, by simp [HP.out]⟩
            simp [may, this]
        · have h1' : ((nth n.ps k).b == h) = false := by simpa using h1
          have HP := Lib.hid (show prOk l h (nth n.ps k) = true by simp [prOk, h1])
          clear h1
          go_wp2_with (fail)
          go_round
          case rel =>
            refine ⟨k + 1, by omega, by go_num, ?_⟩
            unfold Hid
            rw [ht.out, List.all_append, hn.out]
            simp [HP.out]
          case measure => simp [intOf]; omega
      · obtain rfl : k = n.ps.length := by omega
        go_wp2
        go_ret
        refine ⟨ret_bool ?_, lat_ex⟩
        have := hn.out
        rw [List.take_length] at this
        simp [may, rdy, this, hi]

theorem rIsHole_c (r : NetR) (n : Net) (x : Int) (b : Bool) (hb : inB 0 ((n.hs.length : Int) - 1) x = b) (B : Nat) (w : World) (hN : NetIs B w r n) [hB : Le B w] :
    Calls Try.prog 15 #[netV r n, .int .i64 x] w fun e w' => e = .returned (.bool b) ∧ ∃ δ, w' = lat w δ := by
  subst hb
  have hl := hN.1.len
  go_enter Try.func15, Try.ntmps15
  go_wp2_with (go_at_call 58; refine (within4_c _ _ _ _).mono ?_; rintro e w1 ⟨rfl, rfl⟩)
  go_ret
  exact ⟨rfl, lat_ex⟩

/-! ### Orders -/
theorem goes_take {n : Net} {l : List Int} {k : Nat} (hk : k < l.length) : goes n [] (l.take (k + 1)) = (goes n [] (l.take k) && (inB 0 ((n.hs.length : Int) - 1) (nth l k) && may n (l.take k) (nth l k))) := by
  rw [take_snoc l hk]
  have key : ∀ (a pre : List Int) (x : Int), goes n pre (a ++ [x]) = (goes n pre a && (inB 0 ((n.hs.length : Int) - 1) x && may n (pre ++ a) x)) := by
    intro a
    induction a with
    | nil => intro pre x; simp [goes]
    | cons y a ih =>
      intro pre x
      rw [List.cons_append, goes, ih, goes, Bool.and_assoc, Bool.and_assoc, List.append_assoc, List.singleton_append, Bool.and_assoc]
  rw [key, List.nil_append]
theorem goes_more {n : Net} {l : List Int} {k : Nat} (h : goes n [] (l.take k) = false) : goes n [] l = false := by
  have key : ∀ (a b pre : List Int), goes n pre a = false → goes n pre (a ++ b) = false := by
    intro a
    induction a with
    | nil => intro b pre h; simp [goes] at h
    | cons y a ih =>
      intro b pre h
      rw [List.cons_append, goes]
      rw [goes] at h
      cases h1 : (inB 0 ((n.hs.length : Int) - 1) y && may n pre y) with
      | false => rfl
      | true => rw [h1, Bool.true_and] at h; rw [Bool.true_and]; exact ih b _ h
  have := key (l.take k) (l.drop k) [] h
  rwa [List.take_append_drop] at this

theorem rIsOrder_c (r : NetR) (n : Net) (A : Option Addr) (c : Nat) (l : List Int) (b : Bool) (hb : isOrd n l = b) (B : Nat) (w : World) (hS : Sl encI B w A c l) (hN : NetIs B w r n) [hB : Le B w] :
    Calls Try.prog 19 #[netV r n, .slice A l.length c] w fun e w' => e = .returned (.bool b) ∧ ∃ δ, w' = lat w δ := by
  subst hb
  have hl := hS.len
  have hl2 := hN.1.len
  by_cases h0 : l.length = n.hs.length
  · have h0' : ((l.length : Int) != (n.hs.length : Int)) = false := by simp [h0]
    have H0 := Lib.hid h0
    clear h0
    go_enter Try.func19, Try.ntmps19
    go_wp2_with (fail)
    go_loopw [5] (fun i wr => ∃ (k : Nat) (δ : World), k ≤ l.length ∧ i = .int .i64 k ∧ Hid (goes n [] (l.take k) = true) ∧ wr = lat (w.alloc (.cells #[.int .i64 n.m, .slice r.hA n.hs.length r.hc, .slice r.pA n.ps.length r.pc] 25)) δ) (fun i _ => l.length - (intOf i).toNat)
    case atStart => exact ⟨0, _, Nat.zero_le _, rfl, by simp [Hid, goes], (lat_refl _).symm⟩
    case round =>
      obtain ⟨k, δ, hk, rfl, hn, rfl⟩ := hrel
      by_cases hlt : k < l.length
      · obtain ⟨b', o, rfl, hb, hc0⟩ := hS.int hlt
        have hb' : Lt b' w := ⟨Nat.lt_of_lt_of_le hb hB.out⟩
        have hg := Lib.hid (goes_take (n := n) hlt)
        have hki : (k : Int) < (l.length : Int) := by omega
        have hk0 : ¬ (k : Int) < 0 := by omega
        have hT := Lib.hid (hS.take k)
        have hkc : (k : Int) ≤ (c : Int) := by have := hS.1; omega
        have hk00 : (0 : Int) ≤ (k : Int) := by omega
        have HL := Lib.hid (show (l.take k).length = k by rw [List.length_take]; omega)
        by_cases h1 : inB 0 ((n.hs.length : Int) - 1) (nth l k) = true
        · by_cases h2 : may n (l.take k) (nth l k) = true
          · have HI := Lib.hid h1
            have HM := Lib.hid h2
            clear h1 h2
            go_wp2_with (fail)
            refine wp_region_lat (by kernel_rfl) (by kernel_rfl) ?_
            repeat (go_big_quiet_step ((first | (go_at_call 15; exact Calls.lat_of (rIsHole_c r n _ _ HI.out B _ hN.up)) | (go_at_call 60; exact Calls.lat_of (rMay_c r n _ _ _ _ (l.take k) _ HM.out B _ hT.out.up hN.up HL.out)))))
            refine wpQuiet_nil ?_
            rintro _ ⟨δq, rfl⟩
            go_wp2_with (fail)
            go_roundw
            case rel =>
              refine ⟨k + 1, _, by omega, by go_num, ?_, lat_def⟩
              unfold Hid
              rw [hg.out, hn.out, HI.out, HM.out]; rfl
            case measure => simp [intOf]; omega
          · rw [Bool.not_eq_true] at h2
            have HI := Lib.hid h1
            have HM := Lib.hid h2
            clear h1 h2
            go_wp2_with (fail)
            refine wp_region_lat (by kernel_rfl) (by kernel_rfl) ?_
            repeat (go_big_quiet_step ((first | (go_at_call 15; exact Calls.lat_of (rIsHole_c r n _ _ HI.out B _ hN.up)) | (go_at_call 60; exact Calls.lat_of (rMay_c r n _ _ _ _ (l.take k) _ HM.out B _ hT.out.up hN.up HL.out)))))
            refine wpQuiet_nil ?_
            rintro _ ⟨δq, rfl⟩
            go_wp2_with (fail)
            go_ret
            refine ⟨ret_bool ?_, lat_ex⟩
            have : goes n [] (l.take (k + 1)) = false := by rw [hg.out, HM.out]; simp
            simp [isOrd, goes_more this]
        · rw [Bool.not_eq_true] at h1
          have HI := Lib.hid h1
          clear h1
          go_wp2_with (fail)
          refine wp_region_lat (by kernel_rfl) (by kernel_rfl) ?_
          repeat (go_big_quiet_step ((first | (go_at_call 15; exact Calls.lat_of (rIsHole_c r n _ _ HI.out B _ hN.up)))))
          refine wpQuiet_nil ?_
          rintro _ ⟨δq, rfl⟩
          go_wp2_with (fail)
          go_ret
          refine ⟨ret_bool ?_, lat_ex⟩
          have : goes n [] (l.take (k + 1)) = false := by rw [hg.out, HI.out]; simp
          simp [isOrd, goes_more this]
      · obtain rfl : k = l.length := by omega
        go_wp2
        go_ret
        refine ⟨ret_bool ?_, lat_ex⟩
        have := hn.out
        rw [List.take_length] at this
        simp [isOrd, this, H0.out]
  · have h0' : ((l.length : Int) != (n.hs.length : Int)) = true := by simp; omega
    have H0 := Lib.hid h0
    clear h0
    go_enter Try.func19, Try.ntmps19
    go_wp2_with (fail)
    go_ret
    refine ⟨ret_bool ?_, lat_ex⟩
    simp [isOrd, H0.out]

end Go.Proofs.Ytbfehifidlojlaa
