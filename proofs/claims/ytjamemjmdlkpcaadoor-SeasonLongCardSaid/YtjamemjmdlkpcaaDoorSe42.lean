/- Season: the law SeasonLong. -/
import Derived.Test.YtjamemjmdlkpcaaDoorSe41
namespace Go.Proofs.YtjamemjmdlkpcaaDoor
open Go.RowKit
open Se

theorem Sl.drop {α : Type} {enc : α → List Value} {B : Nat} {w : World} {A : Option Addr} {c : Nat} {xs : List α} (h : Sl enc B w A c xs) {size : Nat} (hs : ∀ x, (enc x).length = size) (m : Nat) (hm : m ≤ xs.length) : Sl enc B w (if c = m then A else A.map (·.add (m * size))) (c - m) (xs.drop m) := by
  refine ⟨by rw [List.length_drop]; have := h.1; omega, by have := h.2.1; omega, fun hne => ?_⟩
  have e : xs.flatMap enc = (xs.take m).flatMap enc ++ (xs.drop m).flatMap enc := by rw [← List.flatMap_append, List.take_append_drop]
  have hl : ((xs.take m).flatMap enc).length = m * size := by rw [len_enc enc size hs, List.length_take, Nat.min_eq_left hm]
  obtain ⟨b, o, hA, hb, hc⟩ := h.2.2 (by rw [e]; simp [hne])
  have hlt : m < xs.length := by
    rcases Nat.lt_or_ge m xs.length with l | l
    · exact l
    · rw [List.drop_of_length_le l] at hne; exact absurd rfl hne
  have := h.1
  rw [if_neg (by omega), hA]
  refine ⟨b, o + m * size, by rw [Option.map_some, Addr.add_lit], hb, fun j v hj => ?_⟩
  rw [Nat.add_assoc]
  refine hc _ v ?_
  rw [e, List.getElem?_append_right (by rw [hl]; omega), hl, Nat.add_sub_cancel_left]
  exact hj
theorem ready_twice {ts : List Txt} {k : Nat} (h : readyT ts = true) (hk : k < ts.length) (hn : ts.length ≠ 20) : readyT (ts.take (k + 1) ++ ts.drop k) = true := by
  obtain ⟨h1, h2⟩ := ready_yes h
  unfold readyT textsErr
  rw [if_neg (by rw [List.length_append, List.length_take, List.length_drop]; omega), if_pos (List.all_eq_true.2 (fun t ht => ?_))]
  · rfl
  · rcases List.mem_append.1 ht with h | h
    · exact h2 t (List.mem_of_mem_take h)
    · exact h2 t (List.mem_of_mem_drop h)
theorem file_twice {ts : List Txt} {k : Nat} (hk : k < ts.length) : (file (ts.take (k + 1) ++ ts.drop k)).length = (file ts).length + 3 := by
  rw [file_len, file_len, twice_len [] ts k hk]
theorem long_le {ts : List Txt} : ((file ts).length : Int) ≤ (whole ts : Nat) + 2 * ts.length + 3 := by
  have := bytes_le [] ts
  rw [file_len]; omega
theorem twice_sl {W : World} {base : Nat} {A : Option Addr} {c n m : Nat} {us vs : List Txt} (h : W.ownsRow base 9 1 (.slice A (n + m) c) (n + m) (us.flatMap strE ++ vs.flatMap strE)) (h1 : us.length = n) (h2 : vs.length = m) : Sl strE W.heap.size W A c (us ++ vs) := by
  subst h1 h2
  refine Sl.of_own (base := base) (e := 9) (size := 1) ?_
  rw [List.length_append, List.flatMap_append]
  exact h
set_option maxRecDepth 100000 in
set_option maxHeartbeats 4000000 in
theorem lawLong_main (A : Option Addr) (c : Nat) (ts : List Txt) (a : Int) (hr : readyT ts = true) (B : Nat) (w : World) (hS : Sl strE B w A c ts) [hB : Le B w] (hT : TabIs w) [h6 : Le 6 w] :
    Calls Tryd.prog 12 #[.slice A ts.length c, .int .i64 a] w fun e w' => e = .returned (.bool true) ∧ ∃ δ, w' = lat w δ := by
  have HS := Lib.hid hS
  have HR := Lib.hid hr
  have HAL := Lib.hid (ready_yes hr)
  have HN := Lib.hid (errOf_ready hr)
  have h20 := HAL.out.1
  have hcl := hS.len
  have hll := long_le (ts := ts)
  have hfs := file_small hr
  have hwl := whole_le (smallT_of HAL.out.2) ts.length
  rw [List.take_length] at hwl
  have hw2 : whole ts ≤ 1000000 := by unfold whole; omega
  have HW1 : Hid (∀ (w : World), Sl strE w.heap.size w A c ts → TabIs w → Le 6 w → Calls Tryd.prog 21 #[.slice A ts.length c] w fun e w' => e = .returned (.tuple #[.string (str (file ts)), .bool true]) ∧ ∃ δ, w' = lat w δ) := Lib.hid (fun w hS hT _ => written_c A c ts hr _ rfl w.heap.size w hS hT)
  have HSV : Hid (∀ (A' : Option Addr) (c' : Nat) (w : World), Sl strE w.heap.size w A' c' ts → TabIs w → Le 6 w → Calls Tryd.prog 38 #[.slice A' ts.length c'] w fun e w' => e = .returned (.tuple #[.int .i64 ((whole ts : Nat) - (file ts).length : Int), .int .i64 0]) ∧ ∃ δ, w' = lat w δ) := Lib.hid (fun A' c' w h hT _ => saves_ok_c A' c' ts HN.out _ rfl (smallT_of HAL.out.2) _ w h hT)
  have HTW : Hid (∀ k, k < ts.length → ts.length ≠ 20 → readyT (ts.take (k + 1) ++ ts.drop k) = true ∧ (file (ts.take (k + 1) ++ ts.drop k)).length = (file ts).length + 3) := Lib.hid (fun k h1 h2 => ⟨ready_twice hr h1 h2, file_twice h1⟩)
  obtain ⟨f, hf⟩ : ∃ f, file ts = f := ⟨_, rfl⟩
  rw [hf] at HW1 HSV hll hfs HTW
  obtain ⟨wh, hwh⟩ : ∃ v, whole ts = v := ⟨_, rfl⟩
  have HWH : Hid (∀ w : World, Sl strE w.heap.size w A c ts → Calls Tryd.prog 41 #[.slice A ts.length c] w fun e w' => e = .returned (.int .i64 (wh : Nat)) ∧ w = w') := Lib.hid (fun w h => by rw [← hwh]; exact rWholeOf_c A c ts _ rfl (smallT_of HAL.out.2) (by omega) _ w h)
  rw [hwh] at HSV hll hw2
  have b1 : decide (((wh : Nat) : Int) - ((f.length : Nat) : Int) < -2 * ((ts.length : Nat) : Int) - 3) = false := decide_eq_false (by omega)
  have b1' : ¬ (((wh : Nat) : Int) - ((f.length : Nat) : Int) < -2 * ((ts.length : Nat) : Int) - 3) := by omega
  have hstart : inB 0 ((ts.length : Int) - 1) a = false ∨ (((ts.length : Nat) : Int) == 20) = true ∧ inB 0 ((ts.length : Int) - 1) a = true ∨ ∃ k : Nat, a = k ∧ k < ts.length ∧ ts.length ≠ 20 ∧ inB 0 ((ts.length : Int) - 1) a = true := by
    cases hb : inB 0 ((ts.length : Int) - 1) a with
    | false => exact .inl rfl
    | true =>
      by_cases h : ts.length = 20
      · exact .inr (.inl ⟨by rw [h]; rfl, rfl⟩)
      · obtain ⟨h0, h1⟩ := inB_iff.1 hb
        exact .inr (.inr ⟨a.toNat, by omega, by omega, h, rfl⟩)
  clear hS hr hf hwh hwl hll
  rcases hstart with hb | ⟨h20e, hb⟩ | ⟨k, rfl, hk, h20', hb⟩
  · have HIN := Lib.hid hb
    clear hb
    go_enter Tryd.func12, Tryd.ntmps12
    go_wp2_with (first
      | (go_at_call 20; refine (ready_c A c ts true HR.out _ rfl B _ HS.out.up).mono ?_; rintro e w1 ⟨rfl, rfl⟩)
      | (go_at_call 21; refine (HW1.out _ (Sl.wide HS.out) hT.up inferInstance).mono ?_; rintro e w1 ⟨rfl, δ1, rfl⟩)
      | (at_builtin; (refine wpList_append_lit w slS (.tmp 22) (.tmp 23) rfl rfl (v := .slice (some ⟨_, 0, none⟩) 0 0) (own_lit0 (by go_simp) (by go_simp)) rfl (B := B) (A := A) (m := ts.length) (c := c) (news := ts.flatMap strE) rfl (HS.out.up.2.2) (len_enc strE 1 (fun _ => rfl) _) (one_enc strE one_str _) (by omega) (by omega) ?_); intro A1 c1 δ2 own1 hg1; have S1 := Lib.hid (Sl.of_own own1); clear own1)
      | (go_at_call 38; refine (HSV.out _ _ _ (Sl.wide S1.out) hT.up inferInstance).mono ?_; rintro e w1 ⟨rfl, δ3, rfl⟩)
      | (go_at_call 41; refine (HWH.out _ (Sl.wide HS.out)).mono ?_; rintro e w1 ⟨rfl, rfl⟩)
      | (go_at_call 27; refine (within_is _ _ _ false HIN.out _).mono ?_; rintro e w1 ⟨rfl, rfl⟩)
      | (go_at_call 15; refine (works_c _ hT.up).mono ?_; rintro e w1 ⟨rfl, δ5, rfl⟩))
    go_ret
    exact ⟨rfl, lat_ex⟩
  · have HIN := Lib.hid hb
    clear hb
    go_enter Tryd.func12, Tryd.ntmps12
    go_wp2_with (first
      | (go_at_call 20; refine (ready_c A c ts true HR.out _ rfl B _ HS.out.up).mono ?_; rintro e w1 ⟨rfl, rfl⟩)
      | (go_at_call 21; refine (HW1.out _ (Sl.wide HS.out) hT.up inferInstance).mono ?_; rintro e w1 ⟨rfl, δ1, rfl⟩)
      | (at_builtin; (refine wpList_append_lit w slS (.tmp 22) (.tmp 23) rfl rfl (v := .slice (some ⟨_, 0, none⟩) 0 0) (own_lit0 (by go_simp) (by go_simp)) rfl (B := B) (A := A) (m := ts.length) (c := c) (news := ts.flatMap strE) rfl (HS.out.up.2.2) (len_enc strE 1 (fun _ => rfl) _) (one_enc strE one_str _) (by omega) (by omega) ?_); intro A1 c1 δ2 own1 hg1; have S1 := Lib.hid (Sl.of_own own1); clear own1)
      | (go_at_call 38; refine (HSV.out _ _ _ (Sl.wide S1.out) hT.up inferInstance).mono ?_; rintro e w1 ⟨rfl, δ3, rfl⟩)
      | (go_at_call 41; refine (HWH.out _ (Sl.wide HS.out)).mono ?_; rintro e w1 ⟨rfl, rfl⟩)
      | (go_at_call 27; refine (within_is _ _ _ true HIN.out _).mono ?_; rintro e w1 ⟨rfl, rfl⟩)
      | (go_at_call 15; refine (works_c _ hT.up).mono ?_; rintro e w1 ⟨rfl, δ5, rfl⟩))
    go_ret
    exact ⟨rfl, lat_ex⟩
  · have HIN := Lib.hid hb
    obtain ⟨b0, o0, rfl, _, _⟩ := HS.out.txt hk
    obtain ⟨htr, htf⟩ := HTW.out k hk h20'
    have hcle := HS.out.1
    have h20b : (((ts.length : Nat) : Int) == 20) = false := by simp; omega
    have HTF := Lib.hid htf
    have HTR := Lib.hid htr
    have hlt1 : (ts.take (k + 1)).length = k + 1 := by rw [List.length_take]; omega
    have hlt2 : (ts.drop k).length = ts.length - k := List.length_drop
    have HT1 : Hid (Sl strE B w (some ⟨b0, o0, none⟩) c (ts.take (k + 1))) := Lib.hid (HS.out.take (k + 1))
    have HT2 : Hid (Sl strE B w (some ⟨b0, o0 + k, none⟩) (c - k) (ts.drop k)) := Lib.hid (by
      have := HS.out.drop strE_len k (by omega)
      rw [if_neg (by omega)] at this
      simpa [Addr.add_lit] using this)
    obtain ⟨us, hus⟩ : ∃ us, ts.take (k + 1) = us := ⟨_, rfl⟩
    obtain ⟨vs, hvs⟩ : ∃ vs, ts.drop k = vs := ⟨_, rfl⟩
    rw [hus, hvs] at HTF HTR
    rw [hus] at HT1 hlt1
    rw [hvs] at HT2 hlt2
    have HW2 : Hid (∀ (A' : Option Addr) (c' : Nat) (w : World), Sl strE w.heap.size w A' c' (us ++ vs) → TabIs w → Le 6 w → Calls Tryd.prog 21 #[.slice A' (k + 1 + (ts.length - k)) c'] w fun e w' => e = .returned (.tuple #[.string (str (file (us ++ vs))), .bool true]) ∧ ∃ δ, w' = lat w δ) := Lib.hid (fun A' c' w hS hT _ => written_c A' c' (us ++ vs) HTR.out _ (by rw [List.length_append, hlt1, hlt2]) w.heap.size w hS hT)
    obtain ⟨g, hg⟩ : ∃ g, file (us ++ vs) = g := ⟨_, rfl⟩
    rw [hg] at HW2 HTF
    have hge : (((g.length : Nat) : Int) == ((f.length : Nat) : Int) + 3) = true := by rw [HTF.out]; simp
    have HL1 := Lib.hid hlt1
    have HL2 := Lib.hid hlt2
    have hk1 : ((k : Int) + 1) ≤ (c : Int) := by omega
    have hk2 : (k : Int) ≤ ((ts.length : Nat) : Int) := by omega
    have hkc : ¬ c = k := by omega
    clear hb htr htf hus hvs hg hlt1 hlt2
    go_enter Tryd.func12, Tryd.ntmps12
    go_wp2_with (first
      | (go_at_call 20; refine (ready_c _ c ts true HR.out _ rfl B _ HS.out.up).mono ?_; rintro e w1 ⟨rfl, rfl⟩)
      | (go_at_call 21; (with_reducible refine Calls.mono (HW1.out _ ?_ ?_ ?_) ?_); exact Sl.wide HS.out; exact hT.up; infer_instance; rintro e w1 ⟨rfl, δ1, rfl⟩)
      | (at_builtin; (refine wpList_append_lit w slS (.tmp 22) (.tmp 23) rfl rfl (v := .slice (some ⟨_, 0, none⟩) 0 0) (own_lit0 (by go_simp) (by go_simp)) rfl (B := B) (A := some ⟨b0, o0, none⟩) (m := ts.length) (c := c) (news := ts.flatMap strE) rfl (HS.out.up.2.2) (len_enc strE 1 (fun _ => rfl) _) (one_enc strE one_str _) (by omega) (by omega) ?_); intro A1 c1 δ2 own1 hg1; have S1 := Lib.hid (Sl.of_own own1); clear own1)
      | (go_at_call 38; refine (HSV.out _ _ _ (Sl.wide S1.out) hT.up inferInstance).mono ?_; rintro e w1 ⟨rfl, δ3, rfl⟩)
      | (go_at_call 41; refine (HWH.out _ (Sl.wide HS.out)).mono ?_; rintro e w1 ⟨rfl, rfl⟩)
      | (go_at_call 27; refine (within_is _ _ _ true HIN.out _).mono ?_; rintro e w1 ⟨rfl, rfl⟩)
      | (at_builtin; (refine wpList_append_lit w slS (.tmp 63) (.tmp 67) rfl rfl (v := .slice (some ⟨_, 0, none⟩) 0 0) (own_lit0 (by go_simp) (by go_simp)) rfl (B := B) (A := some ⟨b0, o0, none⟩) (m := k + 1) (c := c) (news := us.flatMap strE) rfl (HT1.out.up.2.2) (by rw [len_enc strE 1 (fun _ => rfl), HL1.out]) (one_enc strE one_str _) (by omega) (by omega) ?_); intro A2 c2 δ6 own2 hg2)
      | (at_builtin; (refine wpList_append_cells w slS (.tmp 69) (.tmp 72) rfl rfl own2 rfl (B := B) (A := some ⟨b0, o0 + k, none⟩) (m := ts.length - k) (c := c - k) (news := vs.flatMap strE) rfl (HT2.out.up.2.2) (by rw [len_enc strE 1 (fun _ => rfl), HL2.out]) (one_enc strE one_str _) (by omega) (by omega) ?_); intro A3 c3 δ7 own3 hg3; have S3 := Lib.hid (twice_sl own3 HL1.out HL2.out); clear own3)
      | (go_at_call 21; (with_reducible refine Calls.mono (HW2.out _ _ _ ?_ ?_ ?_) ?_); exact Sl.wide S3.out; exact hT.up; infer_instance; rintro e w1 ⟨rfl, δ8, rfl⟩)
      | (go_at_call 15; refine (works_c _ hT.up).mono ?_; rintro e w1 ⟨rfl, δ5, rfl⟩))
    go_ret
    exact ⟨rfl, lat_ex⟩
theorem lawLong_c (A : Option Addr) (c : Nat) (ts : List Txt) (a : Int) (B : Nat) (w : World) (hS : Sl strE B w A c ts) [hB : Le B w] (hT : TabIs w) [h6 : Le 6 w] :
    Calls Tryd.prog 12 #[.slice A ts.length c, .int .i64 a] w fun e w' => e = .returned (.bool true) ∧ ∃ δ, w' = lat w δ := by
  rcases hr : readyT ts with _ | _
  · have HS := Lib.hid hS
    have HR := Lib.hid hr
    clear hr hS
    go_enter Tryd.func12, Tryd.ntmps12
    go_wp2_with (first
      | (go_at_call 20; refine (ready_c A c ts false HR.out _ rfl B _ HS.out.up).mono ?_; rintro e w1 ⟨rfl, rfl⟩)
      | (go_at_call 15; refine (works_c _ hT.up).mono ?_; rintro e w1 ⟨rfl, δ5, rfl⟩))
    go_ret
    exact ⟨rfl, lat_ex⟩
  · exact lawLong_main A c ts a hr B w hS hT
end Go.Proofs.YtjamemjmdlkpcaaDoor
