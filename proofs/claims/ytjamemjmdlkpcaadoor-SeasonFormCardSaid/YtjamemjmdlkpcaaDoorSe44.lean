/- Season: the law SeasonForm. -/
import Derived.Test.YtjamemjmdlkpcaaDoorSe41
namespace Go.Proofs.YtjamemjmdlkpcaaDoor
open Go.RowKit
open Se

theorem state_whole {s : Txt} {rs : List Row} (h : formOf (sealed s) = some rs) : stateOf (readOf (sealed s)) = 1 ∨ stateOf (readOf (sealed s)) = 4 := by
  have h1 := read_sealed h
  rcases got_cases (sealed s) with (h2 | h2 | h2) | ⟨ts, h2⟩
  · exact absurd h2 h1.1
  · exact absurd h2 h1.2
  · exact .inr (by rw [h2]; rfl)
  · exact .inl (by rw [h2]; rfl)
set_option maxRecDepth 100000 in
set_option maxHeartbeats 4000000 in
theorem lawForm_main (s : Txt) (k : Nat) (hz : s.length ≤ 1000) (hk : k ≤ 999) (w : World) (hT : TabIs w) [h6 : Le 6 w] :
    Calls Tryd.prog 14 #[.string (str s), .int .i64 k] w fun e w' => e = .returned (.bool true) ∧ ∃ δ, w' = lat w δ := by
  have hz' : ((s.length : Nat) : Int) ≤ 1000 := by omega
  have HIN : Hid (inB 0 999 (k : Int) = true) := Lib.hid (inB_iff.2 (by omega))
  have hsl := seal_lt s
  have HSE : Hid (∀ w, Calls Tryd.prog 42 #[.string (str s)] w fun e w' => e = .returned (.tuple #[.int .i64 (sealOf s : Nat), .int .i64 0]) ∧ ∃ δ, w' = lat w δ) := Lib.hid (fun w => seal_ok_c (str s) _ (by rw [lst_str]) (by rw [size_str]; omega) w)
  have HSO : Hid (∀ w, Calls Tryd.prog 48 #[.string (str s)] w fun e w' => e = .returned (.int .i64 (sealOf s : Nat)) ∧ w = w') := Lib.hid (fun w => rSealOf_c (str s) _ (by rw [lst_str]) (by rw [size_str]; omega) w)
  have HSD : Hid (∀ w, Calls Tryd.prog 47 #[.string (str s)] w fun e w' => e = .returned (.string (str (sealed s))) ∧ ∃ δ, w' = lat w δ) := Lib.hid (fun w => rSealed_c (str s) s (lst_str s) (by rw [size_str]; omega) w)
  have hfl := sealed_len s
  have hfz : (sealed s).length ≤ 100000 := by omega
  rcases hf : formOf (sealed s) with _ | rs
  · have HR := Lib.hid (fun w => rows_none _ hf hfz w)
    have HF := Lib.hid (fun w => rform_none _ hf hfz w)
    have HST : Hid (stateOf (readOf (sealed s)) = 2) := Lib.hid (by rw [readOf_form hf]; rfl)
    obtain ⟨n, hn⟩ : ∃ n, sealOf s = n := ⟨_, rfl⟩
    obtain ⟨f, hff⟩ : ∃ f, sealed s = f := ⟨_, rfl⟩
    rw [hn] at HSE HSO
    rw [hff] at HSD HR HF HST hfz
    clear hfl hf hn hff hsl
    go_enter Tryd.func14, Tryd.ntmps14
    go_wp2_with (first
      | (go_at_call 27; refine (within_is _ _ _ true HIN.out _).mono ?_; rintro e w1 ⟨rfl, rfl⟩)
      | (go_at_call 42; refine (HSE.out _).mono ?_; rintro e w1 ⟨rfl, δ1, rfl⟩)
      | (go_at_call 47; refine (HSD.out _).mono ?_; rintro e w1 ⟨rfl, δ2, rfl⟩)
      | (go_at_call 33; refine (HR.out _).mono ?_; rintro e w1 ⟨rfl, δ3, rfl⟩)
      | (go_at_call 48; refine (HSO.out _).mono ?_; rintro e w1 ⟨rfl, rfl⟩)
      | (go_at_call 49; refine (HF.out _).mono ?_; rintro e w1 ⟨A, m, c, rfl, δ4, rfl⟩)
      | (go_at_call 24; refine (state_c f hfz _ hT.up).mono ?_; rw [HST.out]; rintro e w1 ⟨rfl, δ5, rfl⟩)
      | (go_at_call 15; refine (works_c _ hT.up).mono ?_; rintro e w1 ⟨rfl, δ6, rfl⟩))
    go_ret
    exact ⟨rfl, lat_ex⟩
  · have hfo : formOf (s ++ three k) = some rs := by
      have := form_seal s k (sealOf s) (by omega) (by omega)
      rw [this]; exact hf
    have hol : (s ++ three k).length = s.length + 3 := by rw [List.length_append, three_len]
    have hoz : (s ++ three k).length ≤ 100000 := by omega
    have HR := Lib.hid (fun w => (rows_some _ rs hf hfz w).mono fun _ _ => rowsU_some)
    have HR2 := Lib.hid (fun w => (rows_some _ rs hfo hoz w).mono fun _ _ => rowsU_some)
    have HF := Lib.hid (fun w => rform_some _ rs hf hfz w)
    have HST2 : Hid (k ≠ sealOf s → stateOf (readOf (s ++ three k)) = 3) := Lib.hid (fun hne => by rw [read_other (by omega) hne hf]; rfl)
    have hst := state_whole hf
    have a1 := fun (W : World) => add_str (P := Tryd.prog) W s (three k) (by rw [three_len]; omega)
    obtain ⟨a, ha⟩ : ∃ a, a = k / 100 := ⟨_, rfl⟩
    obtain ⟨b, hb⟩ : ∃ b, b = k / 10 := ⟨_, rfl⟩
    obtain ⟨c, hc⟩ : ∃ c, c = b % 10 := ⟨_, rfl⟩
    obtain ⟨d, hd⟩ : ∃ d, d = k % 10 := ⟨_, rfl⟩
    have q1 : (k : Int).tdiv 100 = (a : Int) := by rw [Int.tdiv_eq_ediv_of_nonneg (by omega)]; omega
    have q2 : (k : Int).tdiv 10 = (b : Int) := by rw [Int.tdiv_eq_ediv_of_nonneg (by omega)]; omega
    have q3 : (b : Int).tmod 10 = (c : Int) := by rw [Int.tmod_eq_emod_of_nonneg (by omega)]; omega
    have q4 : (k : Int).tmod 10 = (d : Int) := by rw [Int.tmod_eq_emod_of_nonneg (by omega)]; omega
    have l1 : a < 10 := by omega
    have l4 : b < 100 := by omega
    have l2 : c < 10 := by omega
    have l3 : d < 10 := by omega
    have HT3 : Hid (three k = [UInt8.ofNat (48 + a), UInt8.ofNat (48 + c), UInt8.ofNat (48 + d)]) := Lib.hid (by subst ha hb hc hd; rfl)
    clear ha hb hc hd
    have u1 : ∀ x : Nat, x < 10 → (UInt8.ofNat (48 + x)).toNat = 48 + x := fun x hx => by rw [UInt8.toNat_ofNat']; omega
    have hcv := fun (W : World) => back_three W (three k) (48 + a) (48 + c) (48 + d) (by rw [HT3.out]; simp only [List.map_cons, List.map_nil, u1 a l1, u1 c l2, u1 d l3]; simp)
    clear u1
    obtain ⟨z, hzz⟩ : ∃ z, three k = z := ⟨_, rfl⟩
    obtain ⟨o, ho⟩ : ∃ o, s ++ three k = o := ⟨_, rfl⟩
    rw [ho] at a1 HR2 HST2 hoz
    rw [hzz] at hcv a1
    obtain ⟨n, hn⟩ : ∃ n, sealOf s = n := ⟨_, rfl⟩
    obtain ⟨f, hff⟩ : ∃ f, sealed s = f := ⟨_, rfl⟩
    rw [hn] at HSE HSO HST2
    rw [hff] at HSD HR HF hst hfz
    clear hfl hf hfo hn hff hsl hol hzz ho
    rcases hst with hst | hst
    all_goals
      have HST := Lib.hid hst
      clear hst
      by_cases hkn : k = n
      · subst hkn
        go_enter Tryd.func14, Tryd.ntmps14
        go_wp2_with (first
          | (go_at_call 27; refine (within_is _ _ _ true HIN.out _).mono ?_; rintro e w1 ⟨rfl, rfl⟩)
          | (go_at_call 42; refine (HSE.out _).mono ?_; rintro e w1 ⟨rfl, δ1, rfl⟩)
          | (go_at_call 47; refine (HSD.out _).mono ?_; rintro e w1 ⟨rfl, δ2, rfl⟩)
          | (go_at_call 33; refine (HR.out _).mono ?_; rintro e w1 ⟨A1, c1, rfl, S1, δ3, rfl⟩)
          | (go_at_call 48; refine (HSO.out _).mono ?_; rintro e w1 ⟨rfl, rfl⟩)
          | (go_at_call 49; refine (HF.out _).mono ?_; rintro e w1 ⟨A2, c2, rfl, _, δ4, rfl⟩)
          | (go_at_call 24; refine (state_c f hfz _ hT.up).mono ?_; rw [HST.out]; rintro e w1 ⟨rfl, δ5, rfl⟩)
          | (go_at_call 15; refine (works_c _ hT.up).mono ?_; rintro e w1 ⟨rfl, δ6, rfl⟩))
        go_ret
        exact ⟨rfl, lat_ex⟩
      · have HS3 := Lib.hid (HST2.out hkn)
        have hkb : ((k : Int) == (n : Int)) = false := by simp; omega
        clear hkn
        go_enter Tryd.func14, Tryd.ntmps14
        go_wp2_with (first
          | (go_at_call 27; refine (within_is _ _ _ true HIN.out _).mono ?_; rintro e w1 ⟨rfl, rfl⟩)
          | (go_at_call 42; refine (HSE.out _).mono ?_; rintro e w1 ⟨rfl, δ1, rfl⟩)
          | (go_at_call 47; refine (HSD.out _).mono ?_; rintro e w1 ⟨rfl, δ2, rfl⟩)
          | (go_at_call 33; (with_reducible refine Calls.mono (HR.out _) ?_); rintro e w1 ⟨A1, c1, rfl, S1, δ3, rfl⟩)
          | (go_at_call 33; (with_reducible refine Calls.mono (HR2.out _) ?_); rintro e w1 ⟨A3, c3, rfl, S3, δ7, rfl⟩)
          | (go_at_call 48; refine (HSO.out _).mono ?_; rintro e w1 ⟨rfl, rfl⟩)
          | (go_at_call 49; refine (HF.out _).mono ?_; rintro e w1 ⟨A2, c2, rfl, _, δ4, rfl⟩)
          | (go_at_call 24; refine (state_c _ (by first | exact hfz | exact hoz) _ hT.up).mono ?_; first | (rw [HST.out]; rintro e w1 ⟨rfl, δ5, rfl⟩) | (rw [HS3.out]; rintro e w1 ⟨rfl, δ8, rfl⟩))
          | (go_at_call 34; refine (sameRows_t _ _ _ _ rs _ _ (Sl.wide S1.out) (Sl.wide S3.out)).mono ?_; rintro e w1 ⟨rfl, δ9, rfl⟩)
          | (go_at_call 15; refine (works_c _ hT.up).mono ?_; rintro e w1 ⟨rfl, δ6, rfl⟩))
        go_ret
        exact ⟨rfl, lat_ex⟩
theorem lawForm_c (s : Txt) (a : Int) (w : World) (hT : TabIs w) [h6 : Le 6 w] :
    Calls Tryd.prog 14 #[.string (str s), .int .i64 a] w fun e w' => e = .returned (.bool true) ∧ ∃ δ, w' = lat w δ := by
  by_cases hz : s.length ≤ 1000
  · rcases hb : inB 0 999 a with _ | _
    · have HIN := Lib.hid hb
      have hz' : ((s.length : Nat) : Int) ≤ 1000 := by omega
      clear hb
      go_enter Tryd.func14, Tryd.ntmps14
      go_wp2_with (first
        | (go_at_call 27; refine (within_is _ _ _ false HIN.out _).mono ?_; rintro e w1 ⟨rfl, rfl⟩)
        | (go_at_call 15; refine (works_c _ hT.up).mono ?_; rintro e w1 ⟨rfl, δ6, rfl⟩))
      go_ret
      exact ⟨rfl, lat_ex⟩
    · obtain ⟨h0, h1⟩ := inB_iff.1 hb
      obtain ⟨k, rfl⟩ : ∃ k : Nat, a = k := ⟨a.toNat, by omega⟩
      exact lawForm_main s k hz (by omega) w hT
  · have hz' : (1000 : Int) < ((s.length : Nat) : Int) := by omega
    go_enter Tryd.func14, Tryd.ntmps14
    go_wp2_with (go_at_call 15; refine (works_c _ hT.up).mono ?_; rintro e w1 ⟨rfl, δ6, rfl⟩)
    go_ret
    exact ⟨rfl, lat_ex⟩
end Go.Proofs.YtjamemjmdlkpcaaDoor
