/- Season: the law SeasonOrder. -/
import Derived.Test.YtjamemjmdlkpcaaDoorSe43
namespace Go.Proofs.YtjamemjmdlkpcaaDoor
open Go.RowKit
open Se

/-- Texts that begin at one of their places, and go round. -/
def turned (us : List Txt) (f : Nat) : List Txt := us.drop (f % us.length) ++ us.take (f % us.length)
theorem turned_len (us : List Txt) (f : Nat) (h : 0 < us.length) : (turned us f).length = us.length := by
  have := Nat.mod_lt f h
  unfold turned
  rw [List.length_append, List.length_drop, List.length_take]; omega
theorem turned_perm (us : List Txt) (f : Nat) : (turned us f).Perm us := by
  have := (List.perm_append_comm (l₁ := us.drop (f % us.length)) (l₂ := us.take (f % us.length)))
  rwa [List.take_append_drop] at this
theorem turned_at (us : List Txt) (f : Nat) {k : Nat} (hk : k < us.length) : nth (turned us f) k = nth us ((k + f) % us.length) := by
  have h0 : 0 < us.length := by omega
  have hr := Nat.mod_lt f h0
  have hm := Nat.mod_add_div f us.length
  have hkf : (k + f) % us.length = (k + f % us.length) % us.length := by rw [Nat.add_mod_mod]
  unfold turned
  generalize f % us.length = r at *
  rw [hkf]
  by_cases h : k + r < us.length
  · rw [Nat.mod_eq_of_lt h]
    show ((us.drop r ++ us.take r)[k]?).getD [] = (us[k + r]?).getD []
    rw [List.getElem?_append_left (by rw [List.length_drop]; omega), List.getElem?_drop, Nat.add_comm]
  · have : (k + r) % us.length = k + r - us.length := by
      rw [Nat.mod_eq_sub_mod (by omega), Nat.mod_eq_of_lt (by omega)]
    rw [this]
    show ((us.drop r ++ us.take r)[k]?).getD [] = (us[k + r - us.length]?).getD []
    rw [List.getElem?_append_right (by rw [List.length_drop]; omega), List.length_drop, List.getElem?_take_of_lt (by omega)]
    congr 2
    omega
theorem nth_rev {us : List Txt} {k : Nat} (hk : k < us.length) : nth us.reverse k = nth us (us.length - 1 - k) := by
  show (us.reverse[k]?).getD [] = (us[us.length - 1 - k]?).getD []
  rw [List.getElem?_reverse hk]
/-- The place of the text that the law takes next. -/
def placeK (n f : Nat) (b : Bool) (k : Nat) : Nat := if b then n - 1 - (k + f) % n else (k + f) % n
def orderOf (ts : List Txt) (f : Nat) (b : Bool) : List Txt := turned (if b then ts.reverse else ts) f
theorem order_perm (ts : List Txt) (f : Nat) (b : Bool) : (orderOf ts f b).Perm ts := by
  unfold orderOf
  cases b
  · exact turned_perm _ _
  · exact (turned_perm _ _).trans (List.reverse_perm _)
theorem order_at {ts : List Txt} (f : Nat) (b : Bool) {k : Nat} (hk : k < ts.length) : nth (orderOf ts f b) k = nth ts (placeK ts.length f b k) ∧ placeK ts.length f b k < ts.length := by
  have hm := Nat.mod_lt (k + f) (show 0 < ts.length by omega)
  cases b
  · exact ⟨turned_at ts f hk, hm⟩
  · refine ⟨?_, ?_⟩
    · show nth (turned ts.reverse f) k = nth ts (ts.length - 1 - (k + f) % ts.length)
      rw [turned_at _ _ (by rw [List.length_reverse]; exact hk), List.length_reverse, nth_rev hm]
    · show ts.length - 1 - (k + f) % ts.length < ts.length
      omega
theorem ready_perm {us ts : List Txt} (h : us.Perm ts) (hr : readyT ts = true) : readyT us = true := by
  obtain ⟨h1, h2⟩ := ready_yes hr
  unfold readyT textsErr
  rw [if_neg (by rw [h.length_eq]; omega), if_pos (List.all_eq_true.2 (fun t ht => h2 t (h.mem_iff.1 ht)))]; rfl
theorem err6_of {ts : List Txt} (hr : readyT ts = true) (h : ts.length ≤ 6) : textsErr 6 ts = 0 := by
  obtain ⟨h1, h2⟩ := ready_yes hr
  unfold textsErr
  rw [if_neg (by omega), if_pos (List.all_eq_true.2 h2)]
set_option maxRecDepth 100000 in
set_option maxHeartbeats 4000000 in
theorem lawOrder_main (A : Option Addr) (c : Nat) (ts : List Txt) (f : Nat) (b : Bool) (hr : readyT ts = true) (hn : ts.length ≤ 6) (hf : f ≤ 100) (B : Nat) (w : World) (hS : Sl strE B w A c ts) [hB : Le B w] (hT : TabIs w) [h6 : Le 6 w] :
    Calls Tryd.prog 7 #[.slice A ts.length c, .int .i64 f, .bool b] w fun e w' => e = .returned (.bool true) ∧ ∃ δ, w' = lat w δ := by
  have HS := Lib.hid hS
  have HR := Lib.hid hr
  have hcl := hS.len
  have hvp := order_perm ts f b
  have hvl := hvp.length_eq
  have HVR := Lib.hid (ready_perm hvp hr)
  have hle := least_le hvp
  have hlp := least_perm hvp
  have HAT : Hid (∀ k, k < ts.length → nth (orderOf ts f b) k = nth ts (placeK ts.length f b k) ∧ placeK ts.length f b k < ts.length) := Lib.hid (fun k hk => order_at f b hk)
  obtain ⟨vs, hvs⟩ : ∃ vs, orderOf ts f b = vs := ⟨_, rfl⟩
  rw [hvs] at hvp hvl HVR hle hlp HAT
  have h3 : 3 ≤ leastN ts := by unfold leastN; omega
  have hzT := smallT_of (ready_yes hr).2
  have hzV := smallT_of (ready_yes HVR.out).2
  have heT := err6_of hr hn
  have heV := err6_of HVR.out (by omega)
  have HW1 : Hid (∀ (A : Option Addr) (c : Nat) (w : World), Sl strE w.heap.size w A c vs → TabIs w → Le 6 w → Calls Tryd.prog 21 #[.slice A ts.length c] w fun e w' => e = .returned (.tuple #[.string (str (file vs)), .bool true]) ∧ ∃ δ, w' = lat w δ) := Lib.hid (fun A c w hS hT _ => written_c A c vs HVR.out _ hvl w.heap.size w hS hT)
  have HL1 : Hid (∀ (A : Option Addr) (c : Nat) (w : World), Sl strE w.heap.size w A c ts → Calls Tryd.prog 28 #[.slice A ts.length c] w fun e w' => e = .returned (.tuple #[.int .i64 (leastN ts : Nat), .int .i64 0]) ∧ ∃ δ, w' = lat w δ) := Lib.hid (fun A c w hS => least_ok_c A c ts heT _ rfl hzT w.heap.size w hS)
  have HL2 : Hid (∀ (A : Option Addr) (c : Nat) (w : World), Sl strE w.heap.size w A c vs → Calls Tryd.prog 28 #[.slice A ts.length c] w fun e w' => e = .returned (.tuple #[.int .i64 (leastN ts : Nat), .int .i64 0]) ∧ ∃ δ, w' = lat w δ) := Lib.hid (fun A c w hS => by rw [← hlp]; exact least_ok_c A c vs heV _ hvl hzV w.heap.size w hS)
  have hfz := file_small HVR.out
  obtain ⟨L, hL⟩ : ∃ n, leastN ts = n := ⟨_, rfl⟩
  obtain ⟨g, hg⟩ : ∃ g, file vs = g := ⟨_, rfl⟩
  rw [hL] at HL1 HL2 hle h3
  rw [hg] at HW1 hle hfz
  have HVL := Lib.hid hvl
  have b1 : ¬ (6 : Int) < (ts.length : Int) := by omega
  have b2 : ¬ (f : Int) < 0 := by omega
  have b3 : ¬ (100 : Int) < (f : Int) := by omega
  have b4 : decide ((3 : Int) ≤ ((L : Nat) : Int)) = true := decide_eq_true (by omega)
  have b5 : decide (((L : Nat) : Int) ≤ ((g.length : Nat) : Int)) = true := decide_eq_true (by omega)
  clear hS hr hvp hvl hlp hzT hzV heT heV hvs hL hg
  go_enter Tryd.func7, Tryd.ntmps7
  go_wp2_with (go_at_call 20; refine (ready_c A c ts true HR.out _ rfl B _ HS.out.up).mono ?_; rintro e w1 ⟨rfl, rfl⟩)
  go_loopg [7, 8] ts.length (fun g o i wr => ∃ (k : Nat) (us : List Txt) (A2 : Option Addr) (c2 : Nat) (δ : World), k ≤ ts.length ∧ Hid (vs.take k = us ∧ us.length = k) ∧ g = ts.length - k ∧ o = .slice A2 k c2 ∧ i = .int .i64 k ∧ Hid (wr.ownsRow w.heap.size 9 1 (.slice A2 k c2) k (us.flatMap strE)) ∧ wr = lat w δ)
  case atStart => exact ⟨0, [], none, 0, w, Nat.zero_le _, ⟨rfl, rfl⟩, rfl, rfl, rfl, World.ownsRow_nil _ _ _ _, (lat_refl w).symm⟩
  case round =>
    obtain ⟨k, us, A2, c2, δ, hk, HU, rfl, rfl, rfl, HO, rfl⟩ := hrel
    by_cases hlt : k < ts.length
    · obtain ⟨ha, hpl⟩ := HAT.out k hlt
      have hki : (k : Int) < (ts.length : Int) := by omega
      have hpm : ((k : Int) + (f : Int)).tmod (ts.length : Int) = ((k + f) % ts.length : Nat) := by
        rw [Int.tmod_eq_emod_of_nonneg (by omega)]; rfl
      have hn0 : ¬ ((ts.length : Int) = 0) := by omega
      have hml := Nat.mod_lt (k + f) (show 0 < ts.length by omega)
      obtain ⟨m, hm⟩ : ∃ m, (k + f) % ts.length = m := ⟨_, rfl⟩
      obtain ⟨q, hq⟩ : ∃ q, placeK ts.length f b k = q := ⟨_, rfl⟩
      rw [hm] at hpm hml
      rw [hq] at ha hpl
      have hqm : q = if b then ts.length - 1 - m else m := by rw [← hq, ← hm]; rfl
      obtain ⟨b0, o0, rfl, hb0, d0⟩ := HS.out.txt hpl
      have ib : Lt b0 w := ⟨Nat.lt_of_lt_of_le hb0 hB.out⟩
      have hqk : ((q : Nat) : Int) < (ts.length : Int) := by omega
      have hq0 : ¬ ((q : Nat) : Int) < 0 := by omega
      obtain ⟨t, ht⟩ : ∃ t, nth ts q = t := ⟨_, rfl⟩
      rw [ht] at d0 ha
      have HU2 : Hid (vs.take (k + 1) = us ++ [t] ∧ (us ++ [t]).length = k + 1) := Lib.hid ⟨by
        have hkv : k < vs.length := by have := HVL.out; omega
        rw [List.take_add_one, HU.out.1, List.getElem?_eq_getElem hkv]
        have : nth vs k = vs[k] := by show (vs[k]?).getD [] = _; rw [List.getElem?_eq_getElem hkv]; rfl
        rw [← ha, this]; rfl, by rw [List.length_append, HU.out.2]; rfl⟩
      have hk1 : k ≤ 6 := by omega
      clear hm hq ha ht
      rcases b with _ | _
      · obtain rfl : q = m := hqm
        go_wp2_with (at_builtin; go_must (refine wpList_append_new w slS (.tmp 51) (.tmp 56) rfl rfl (owns_up HO.out) rfl rfl (by go_simp) rfl (by simp [Value.oneCell']) (by omega) (by omega) ?_); intro A' c' δ' hown')
        go_roundg (ts.length - (k + 1))
        case measure => omega
        case rel => exact ⟨k + 1, us ++ [t], A', c', _, by omega, HU2, rfl, rfl, by go_num, by rw [List.flatMap_append]; exact hown', lat_def⟩
      · have hqe : (ts.length : Int) - 1 - (m : Int) = (q : Int) := by simp at hqm; omega
        clear hqm
        go_wp2_with (at_builtin; go_must (refine wpList_append_new w slS (.tmp 51) (.tmp 56) rfl rfl (owns_up HO.out) rfl rfl (by go_simp) rfl (by simp [Value.oneCell']) (by omega) (by omega) ?_); intro A' c' δ' hown')
        go_roundg (ts.length - (k + 1))
        case measure => omega
        case rel => exact ⟨k + 1, us ++ [t], A', c', _, by omega, HU2, rfl, rfl, by go_num, by rw [List.flatMap_append]; exact hown', lat_def⟩
    · obtain rfl : k = ts.length := by omega
      have HSV : Hid (Sl strE (lat w δ).heap.size (lat w δ) A2 c2 vs) := Lib.hid (by
        have h1 := HU.out.1
        rw [List.take_of_length_le (by have := HVL.out; omega)] at h1
        have h2 := HO.out
        rw [← h1, ← HVL.out] at h2
        exact Sl.of_own h2)
      clear hlt hk
      go_wp2_with (first
        | (go_at_call 21; (with_reducible refine Calls.mono (HW1.out _ _ _ ?_ ?_ ?_) ?_); exact Sl.wide HSV.out; exact hT.up; infer_instance; rintro e w1 ⟨rfl, δ1, rfl⟩)
        | (at_builtin; (refine wpList_append_lit (lat w δ) slS (.tmp 64) (.tmp 65) rfl rfl (v := .slice (some ⟨_, 0, none⟩) 0 0) (own_lit0 (by go_simp) (by go_simp)) rfl (B := B) (A := A) (m := ts.length) (c := c) (news := ts.flatMap strE) rfl (HS.out.up.2.2) (len_enc strE 1 (fun _ => rfl) _) (one_enc strE one_str _) (by omega) (by omega) ?_); intro A1 c1 δ2 own1 hg1; have S1 := Lib.hid (Sl.of_own own1); clear own1)
        | (go_at_call 28; (with_reducible refine Calls.mono (HL1.out _ _ _ ?_) ?_); exact Sl.wide S1.out; rintro e w1 ⟨rfl, δ3, rfl⟩)
        | (go_at_call 28; (with_reducible refine Calls.mono (HL2.out _ _ _ ?_) ?_); exact Sl.wide HSV.out; rintro e w1 ⟨rfl, δ4, rfl⟩)
        | (go_at_call 15; refine (works_c _ hT.up).mono ?_; rintro e w1 ⟨rfl, δ5, rfl⟩))
      go_ret
      exact ⟨rfl, lat_ex⟩
theorem lawOrder_c (A : Option Addr) (c : Nat) (ts : List Txt) (a : Int) (b : Bool) (B : Nat) (w : World) (hS : Sl strE B w A c ts) [hB : Le B w] (hT : TabIs w) [h6 : Le 6 w] :
    Calls Tryd.prog 7 #[.slice A ts.length c, .int .i64 a, .bool b] w fun e w' => e = .returned (.bool true) ∧ ∃ δ, w' = lat w δ := by
  rcases hr : readyT ts with _ | _
  · have HS := Lib.hid hS
    have HR := Lib.hid hr
    clear hr hS
    go_enter Tryd.func7, Tryd.ntmps7
    go_wp2_with (first
      | (go_at_call 20; refine (ready_c A c ts false HR.out _ rfl B _ HS.out.up).mono ?_; rintro e w1 ⟨rfl, rfl⟩)
      | (go_at_call 15; refine (works_c _ hT.up).mono ?_; rintro e w1 ⟨rfl, δ5, rfl⟩))
    go_ret
    exact ⟨rfl, lat_ex⟩
  · by_cases h6' : ts.length ≤ 6
    · by_cases ha : 0 ≤ a
      · by_cases hb : a ≤ 100
        · obtain ⟨k, rfl⟩ : ∃ k : Nat, a = k := ⟨a.toNat, by omega⟩
          exact lawOrder_main A c ts k b hr h6' (by omega) B w hS hT
        · have HS := Lib.hid hS
          have HR := Lib.hid hr
          have b1 : ¬ (6 : Int) < (ts.length : Int) := by omega
          have b2 : ¬ a < 0 := by omega
          have b3 : (100 : Int) < a := by omega
          clear hr hS
          go_enter Tryd.func7, Tryd.ntmps7
          go_wp2_with (first
            | (go_at_call 20; refine (ready_c A c ts true HR.out _ rfl B _ HS.out.up).mono ?_; rintro e w1 ⟨rfl, rfl⟩)
            | (go_at_call 15; refine (works_c _ hT.up).mono ?_; rintro e w1 ⟨rfl, δ5, rfl⟩))
          go_ret
          exact ⟨rfl, lat_ex⟩
      · have HS := Lib.hid hS
        have HR := Lib.hid hr
        have b1 : ¬ (6 : Int) < (ts.length : Int) := by omega
        have b2 : a < 0 := by omega
        clear hr hS
        go_enter Tryd.func7, Tryd.ntmps7
        go_wp2_with (first
          | (go_at_call 20; refine (ready_c A c ts true HR.out _ rfl B _ HS.out.up).mono ?_; rintro e w1 ⟨rfl, rfl⟩)
          | (go_at_call 15; refine (works_c _ hT.up).mono ?_; rintro e w1 ⟨rfl, δ5, rfl⟩))
        go_ret
        exact ⟨rfl, lat_ex⟩
    · have HS := Lib.hid hS
      have HR := Lib.hid hr
      have b1 : (6 : Int) < (ts.length : Int) := by omega
      clear hr hS
      go_enter Tryd.func7, Tryd.ntmps7
      go_wp2_with (first
        | (go_at_call 20; refine (ready_c A c ts true HR.out _ rfl B _ HS.out.up).mono ?_; rintro e w1 ⟨rfl, rfl⟩)
        | (go_at_call 15; refine (works_c _ hT.up).mono ?_; rintro e w1 ⟨rfl, δ5, rfl⟩))
      go_ret
      exact ⟨rfl, lat_ex⟩
end Go.Proofs.YtjamemjmdlkpcaaDoor
