/- Season: the reference's Rows, Read, State, Add and Cut. -/
import Derived.Test.YtjamemjmdlkpcaaDoorSe29
namespace Go.Proofs.YtjamemjmdlkpcaaDoor
open Go.RowKit
open Se
open Go.Shelf

theorem rform_none (l : Txt) (h : formOf l = none) (hz : l.length ≤ 100000) (w : World) :
    Calls Tryd.prog 49 #[.string (str l)] w fun e w' => ∃ A n c, e = .returned (.tuple #[.slice A n c, .bool false]) ∧ ∃ δ, w' = lat w δ := by
  have := rform_c l hz w
  rw [h] at this
  refine this.mono ?_
  rintro e w' ⟨⟨A, n, c, h1⟩, h3⟩
  exact ⟨A, n, c, h1, h3⟩
theorem rform_some (l : Txt) (rs : List Row) (h : formOf l = some rs) (hz : l.length ≤ 100000) (w : World) :
    Calls Tryd.prog 49 #[.string (str l)] w fun e w' => ∃ A c, e = .returned (.tuple #[.slice A rs.length c, .bool true]) ∧ Hid (w'.ownsRow w.heap.size 23 3 (.slice A rs.length c) rs.length (rs.flatMap rowE)) ∧ ∃ δ, w' = lat w δ := by
  have := rform_c l hz w
  rw [h] at this
  refine this.mono ?_
  rintro e w' ⟨⟨A, c, h1, h2⟩, h3⟩
  exact ⟨A, c, h1, h2, h3⟩
theorem rrows_none (l : Txt) (h : formOf l = none) (hz : l.length ≤ 100000) (w : World) :
    Calls Tryd.prog 44 #[.string (str l)] w fun e w' => e = .returned (.tuple #[.slice none 0 0, .int .i64 140]) ∧ ∃ δ, w' = lat w δ := by
  have H := Lib.hid h
  clear h
  go_enter Tryd.func44, Tryd.ntmps44
  go_wp2_with (go_at_call 49; refine (rform_none l H.out hz _).mono ?_; rintro e w1 ⟨A, n, c, rfl, δ1, rfl⟩)
  go_ret2
  exact ⟨rfl, lat_ex⟩
theorem rrows_some (l : Txt) (rs : List Row) (h : formOf l = some rs) (hz : l.length ≤ 100000) (w : World) :
    Calls Tryd.prog 44 #[.string (str l)] w fun e w' => ∃ A c, e = .returned (.tuple #[.slice A rs.length c, .int .i64 0]) ∧ Hid (w'.ownsRow w.heap.size 23 3 (.slice A rs.length c) rs.length (rs.flatMap rowE)) ∧ ∃ δ, w' = lat w δ := by
  have H := Lib.hid h
  clear h
  go_enter Tryd.func44, Tryd.ntmps44
  go_wp2_with (go_at_call 49; refine (rform_some l rs H.out hz _).mono ?_; rintro e w1 ⟨A, c, rfl, HO, δ1, rfl⟩)
  go_ret2
  exact ⟨A, c, rfl, HO, lat_ex⟩
theorem rback_n (a : ByteArray) (p s : Int) (m : ByteArray) (x y : Txt) (hx : a.data.toList = x) (hy : m.data.toList = y) (h : backOf x ⟨p, s, y⟩ = none) (ha : a.size ≤ 100000) (hm : m.size ≤ 100000) (w : World) :
    Calls Tryd.prog 54 #[.string a, .agg #[.int .i64 p, .int .i64 s, .string m]] w fun e w' => e = .returned (.tuple #[.string ⟨#[]⟩, .bool false]) ∧ ∃ δ, w' = lat w δ := rBackOf_c a p s m x y hx hy none h ha hm w
theorem rback_s (a : ByteArray) (p s : Int) (m : ByteArray) (x y t : Txt) (hx : a.data.toList = x) (hy : m.data.toList = y) (h : backOf x ⟨p, s, y⟩ = some t) (ha : a.size ≤ 100000) (hm : m.size ≤ 100000) (w : World) :
    Calls Tryd.prog 54 #[.string a, .agg #[.int .i64 p, .int .i64 s, .string m]] w fun e w' => e = .returned (.tuple #[.string (str t), .bool true]) ∧ ∃ δ, w' = lat w δ := rBackOf_c a p s m x y hx hy (some t) h ha hm w
set_option maxRecDepth 100000 in
set_option maxHeartbeats 4000000 in
theorem rread_c (l : Txt) (hz : l.length ≤ 100000) (w : World) :
    Calls Tryd.prog 45 #[.string (str l)] w (ReadPost w (readOf l)) := by
  rcases hf : formOf l with _ | rs
  · have HG := Lib.hid (readOf_form hf)
    have H := Lib.hid hf
    clear hf
    go_enter Tryd.func45, Tryd.ntmps45
    go_wp2_with (go_at_call 44; refine (rrows_none l H.out hz _).mono ?_; rintro e w1 ⟨rfl, δ1, rfl⟩)
    go_ret2
    exact read_bad_p HG.out lat_ex
  · have hl := formOf_len hf
    have hy := fun (W : World) t k hh => to_str (P := Tryd.prog) W t k l (l.length - 3) (l.take (l.length - 3)) hh (by omega) rfl
    have e3 : (l.length : Int) - 3 = ((l.length - 3 : Nat) : Int) := by omega
    obtain ⟨bd, hbd⟩ : ∃ bd, l.take (l.length - 3) = bd := ⟨_, rfl⟩
    have hbl : (str bd).size ≤ 140737488355328 := by rw [size_str, ← hbd, List.length_take]; omega
    have H := Lib.hid hf
    have HB := Lib.hid hbd
    have HL : Hid ((str bd).size ≤ 140737488355328) := Lib.hid hbl
    rw [hbd] at hy
    have hq := str_beq (sealed bd) l
    clear hbd hbl
    by_cases hs : sealed bd = l
    · rw [decide_eq_true hs] at hq
      have HS := Lib.hid hs
      obtain ⟨hrl, hrg⟩ := formOf_rows hf
      have HR := Lib.hid hrg
      clear hf hs hrg
      go_enter Tryd.func45, Tryd.ntmps45
      go_wp2_with (first
        | (go_at_call 44; refine (rrows_some l rs H.out hz _).mono ?_; rintro e w1 ⟨A, c, rfl, HO, δ1, rfl⟩)
        | (go_at_call 47; refine (rSealed_c (str bd) bd (lst_str bd) HL.out _).mono ?_; rintro e w1 ⟨rfl, δ2, rfl⟩))
      have hS1 : Hid (Sl rowE (lat (lat w δ1) δ2).heap.size (lat (lat w δ1) δ2) A c rs) := Lib.hid (Sl.wide (Sl.of_own HO.out))
      refine wp_name ?_
      intro W1 hW1
      rw [← hW1.out] at hS1
      have iw1 : Le w.heap.size W1 := by rw [hW1.out]; infer_instance
      have iw2 : Grew w.heap.size w W1 := by rw [hW1.out]; infer_instance
      have iw3 : Le w.heap.size W1 := by rw [hW1.out]; infer_instance
      have iw4 : Grew w.heap.size w W1 := by rw [hW1.out]; infer_instance
      have hcl := hS1.out.len
      go_loopg [6, 7, 8] rs.length (fun g o b i wr => ∃ (k : Nat) (ts : List Txt) (A2 : Option Addr) (c2 : Nat) (δ : World), k ≤ rs.length ∧ Hid (ts.length = k) ∧ g = rs.length - k ∧ o = .slice A2 ts.length c2 ∧ b = .string (str (lastD [] ts)) ∧ i = .int .i64 k ∧ Hid (Told rs ts k ∧ allT ts) ∧ Hid (wr.ownsRow W1.heap.size 9 1 (.slice A2 ts.length c2) ts.length (ts.flatMap strE)) ∧ wr = lat W1 δ)
      case atStart => exact ⟨0, [], none, 0, W1, Nat.zero_le _, rfl, rfl, rfl, rfl, rfl, ⟨told_start rs, fun t ht => by cases ht⟩, World.ownsRow_nil _ _ _ _, (lat_refl W1).symm⟩
      case round =>
        obtain ⟨k, ts, A2, c2, δ, hk, htl, rfl, rfl, rfl, rfl, HT, HO2, rfl⟩ := hrel
        by_cases hlt : k < rs.length
        · obtain ⟨b, o, rfl, hb, d0, d1, d2⟩ := hS1.out.row hlt
          have ib : Lt b W1 := ⟨hb⟩
          have hki : (k : Int) < (rs.length : Int) := by omega
          have hts : ts.length ≤ 1100 := by have := htl.out; omega
          have hk0 : ¬ (k : Int) < 0 := by omega
          have hll := lastD_len HT.out.2
          obtain ⟨y, hy2⟩ : ∃ y, lastD [] ts = y := ⟨_, rfl⟩
          have hgr := HR.out _ (nth_mem _ hlt)
          obtain ⟨x, hx⟩ : ∃ x, nth rs k = x := ⟨_, rfl⟩
          rw [hy2] at hll
          rw [hx] at d0 d1 d2 hgr
          rw [hy2]
          obtain ⟨p, q, m⟩ := x
          have hml := (isText_iff.1 hgr.2.2.2.2).2
          have HL : Hid ((str y).size ≤ 100000 ∧ (str m).size ≤ 100000) := Lib.hid (by rw [size_str, size_str]; exact ⟨by omega, by simp only at hml; omega⟩)
          have HY : Hid (lastD [] ts = y ∧ nth rs k = ⟨p, q, m⟩) := Lib.hid ⟨hy2, hx⟩
          clear hgr hml hll hy2 hx
          rcases hbk : backOf y ⟨p, q, m⟩ with _ | t
          · have HG := Lib.hid (readOf_texts H.out (by rw [HB.out]; exact HS.out) (told_bad HT.out.1 hlt (by rw [HY.out.1, HY.out.2]; exact hbk)))
            have HK := Lib.hid hbk
            clear hbk
            go_wp2_with (go_at_call 54; refine (rback_n (str y) p q (str m) y m (lst_str y) (lst_str m) HK.out HL.out.1 HL.out.2 _).mono ?_; rintro e w1 ⟨rfl, δ3, rfl⟩)
            go_ret2
            exact read_bad_p HG.out lat_ex
          · have HT2 : Hid (Told rs (ts ++ [t]) (k + 1) ∧ allT (ts ++ [t])) := Lib.hid ⟨told_step HT.out.1 hlt (by rw [HY.out.1, HY.out.2]; exact hbk), allT_snoc HT.out.2 (back_some hbk).1⟩
            have HK := Lib.hid hbk
            clear hbk
            go_wp2_with (first
              | (go_at_call 54; refine (rback_s (str y) p q (str m) y m t (lst_str y) (lst_str m) HK.out HL.out.1 HL.out.2 _).mono ?_; rintro e w1 ⟨rfl, δ3, rfl⟩)
              | (at_builtin; go_must (refine wpList_append_new W1 slS (.tmp 44) (.tmp 46) rfl rfl (owns_up HO2.out) rfl rfl (by go_simp) rfl (by simp [Value.oneCell']) (by omega) (by omega) ?_); intro A' c' δ' hown'))
            go_roundg (rs.length - (k + 1))
            case measure => omega
            case rel => exact ⟨k + 1, ts ++ [t], A', c', _, by omega, by rw [List.length_append, htl.out]; rfl, rfl, by rw [List.length_append]; rfl, by rw [lastD_snoc], by go_num, HT2, by rw [List.length_append, List.flatMap_append]; exact hown', lat_def⟩
        · obtain rfl : k = rs.length := by omega
          have HE := Lib.hid (told_end HT.out.1)
          have HO3 : Hid ((lat W1 δ).ownsRow w.heap.size 9 1 (.slice A2 ts.length c2) ts.length (ts.flatMap strE)) := Lib.hid (owns_mono HO2.out iw3.out)
          have HSl : Hid (Sl strE (lat W1 δ).heap.size (lat W1 δ) A2 c2 ts) := Lib.hid (Sl.of_own HO2.out)
          have HZ : Hid (smallT ts) := Lib.hid (smallT_of HT.out.2)
          by_cases h20 : 20 < ts.length
          · have HE2 : Hid (textsErr 20 ts = 2) := Lib.hid (by unfold textsErr; rw [if_pos h20])
            have HG := Lib.hid (readOf_many H.out (by rw [HB.out]; exact HS.out) HE.out h20)
            clear h20
            go_wp2_with (go_at_call 55; refine (rAreTexts_c A2 c2 ts _ HE2.out _ rfl HZ.out _ _ HSl.out.up).mono ?_; rintro e w1 ⟨rfl, rfl⟩)
            go_ret2
            exact read_bad_p HG.out lat_ex
          · have HG := Lib.hid (readOf_all H.out (by rw [HB.out]; exact HS.out) HE.out (by omega))
            have HE2 : Hid (textsErr 20 ts = 0) := Lib.hid (by unfold textsErr; rw [if_neg h20, if_pos (List.all_eq_true.2 HT.out.2)])
            clear h20
            go_wp2_with (go_at_call 55; refine (rAreTexts_c A2 c2 ts _ HE2.out _ rfl HZ.out _ _ HSl.out.up).mono ?_; rintro e w1 ⟨rfl, rfl⟩)
            go_ret2
            exact read_all_p HG.out HO3.out lat_ex
    · rw [decide_eq_false hs] at hq
      have HG := Lib.hid (readOf_seal hf (by rw [HB.out]; exact hs))
      clear hf hs
      go_enter Tryd.func45, Tryd.ntmps45
      go_wp2_with (first
        | (go_at_call 44; refine (rrows_some l rs H.out hz _).mono ?_; rintro e w1 ⟨A, c, rfl, HO, δ1, rfl⟩)
        | (go_at_call 47; refine (rSealed_c (str bd) bd (lst_str bd) HL.out _).mono ?_; rintro e w1 ⟨rfl, δ2, rfl⟩))
      go_ret2
      exact read_bad_p HG.out lat_ex
theorem rread_bad (l : Txt) (n : Int) (h : readOf l = .bad n) (hz : l.length ≤ 100000) (w : World) :
    Calls Tryd.prog 45 #[.string (str l)] w fun e w' => e = .returned (.tuple #[.slice none 0 0, .int .i64 n]) ∧ ∃ δ, w' = lat w δ := by
  have := rread_c l hz w
  rw [h] at this
  exact this
theorem rread_all (l : Txt) (ts : List Txt) (h : readOf l = .all ts) (hz : l.length ≤ 100000) (w : World) :
    Calls Tryd.prog 45 #[.string (str l)] w fun e w' => ∃ A c, e = .returned (.tuple #[.slice A ts.length c, .int .i64 0]) ∧ Hid (w'.ownsRow w.heap.size 9 1 (.slice A ts.length c) ts.length (ts.flatMap strE)) ∧ ∃ δ, w' = lat w δ := by
  have := rread_c l hz w
  rw [h] at this
  refine this.mono ?_
  rintro e w' ⟨⟨A, c, h1, h2⟩, h3⟩
  exact ⟨A, c, h1, h2, h3⟩
theorem rstate_c (l : Txt) (hz : l.length ≤ 100000) (w : World) :
    Calls Tryd.prog 46 #[.string (str l)] w fun e w' => e = .returned (.int .i64 (stateOf (readOf l))) ∧ ∃ δ, w' = lat w δ := by
  rcases got_cases l with (h | h | h) | ⟨ts, h⟩
  · have H := Lib.hid h
    rw [show stateOf (readOf l) = 2 by rw [h]; rfl]
    clear h
    go_enter Tryd.func46, Tryd.ntmps46
    go_wp2_with (go_at_call 45; refine (rread_bad l _ H.out hz _).mono ?_; rintro e w1 ⟨rfl, δ1, rfl⟩)
    go_ret
    exact ⟨rfl, lat_ex⟩
  · have H := Lib.hid h
    rw [show stateOf (readOf l) = 3 by rw [h]; rfl]
    clear h
    go_enter Tryd.func46, Tryd.ntmps46
    go_wp2_with (go_at_call 45; refine (rread_bad l _ H.out hz _).mono ?_; rintro e w1 ⟨rfl, δ1, rfl⟩)
    go_ret
    exact ⟨rfl, lat_ex⟩
  · have H := Lib.hid h
    rw [show stateOf (readOf l) = 4 by rw [h]; rfl]
    clear h
    go_enter Tryd.func46, Tryd.ntmps46
    go_wp2_with (go_at_call 45; refine (rread_bad l _ H.out hz _).mono ?_; rintro e w1 ⟨rfl, δ1, rfl⟩)
    go_ret
    exact ⟨rfl, lat_ex⟩
  · have H := Lib.hid h
    rw [show stateOf (readOf l) = 1 by rw [h]; rfl]
    clear h
    go_enter Tryd.func46, Tryd.ntmps46
    go_wp2_with (go_at_call 45; refine (rread_all l ts H.out hz _).mono ?_; rintro e w1 ⟨A, c, rfl, HO, δ1, rfl⟩)
    go_ret
    exact ⟨rfl, lat_ex⟩
theorem rwrite_c (A : Option Addr) (c : Nat) (ts : List Txt) (ln : Nat) (hl : ts.length = ln) (hs : smallT ts) (B : Nat) (w : World) (hS : Sl strE B w A c ts) [hB : Le B w] :
    Calls Tryd.prog 37 #[.slice A ln c] w fun e w' => e = .returned (outV (writeOf ts)) ∧ ∃ δ, w' = lat w δ := by
  rw [writeOf_err]
  by_cases h : textsErr 20 ts = 0
  · rw [if_pos h]
    exact rWrite_ok A c ts h ln hl hs B w hS
  · rw [if_neg h]
    exact rWrite_no A c ts _ rfl h ln hl hs B w hS
theorem one_str : ∀ x : Txt, ∀ u ∈ strE x, u.oneCell' = true := by intro x u hu; simp only [strE, List.mem_singleton] at hu; subst hu; rfl
theorem radd_c (l t : Txt) (hz : l.length ≤ 100000) (ht : t.length ≤ 2000) (w : World) :
    Calls Tryd.prog 30 #[.string (str l), .string (str t)] w fun e w' => e = .returned (outV (addOf l t)) ∧ ∃ δ, w' = lat w δ := by
  rcases hr : readOf l with n | ts
  · have H := Lib.hid hr
    have hd : n ≠ 0 := by
      rcases got_cases l with (h | h | h) | ⟨ts, h⟩
      · rw [hr] at h; injection h with h; omega
      · rw [hr] at h; injection h with h; omega
      · rw [hr] at h; injection h with h; omega
      · rw [hr] at h; cases h
    have hd2 : (n != 0) = true := by simpa using hd
    rw [show outV (addOf l t) = .tuple #[.string ⟨#[]⟩, .int .i64 n] by unfold addOf; rw [hr]; rfl]
    clear hr
    go_enter Tryd.func30, Tryd.ntmps30
    go_wp2_with (go_at_call 45; refine (rread_bad l _ H.out hz _).mono ?_; rintro e w1 ⟨rfl, δ1, rfl⟩)
    go_ret2
    exact ⟨rfl, lat_ex⟩
  · have H := Lib.hid hr
    have HA := Lib.hid (read_some hr)
    have h20 := HA.out.1
    have HS : Hid (smallT (ts ++ [t])) := Lib.hid (smallT_snoc (smallT_of HA.out.2.1) ht)
    rw [show outV (addOf l t) = outV (writeOf (ts ++ [t])) by unfold addOf; rw [hr]]
    obtain ⟨us, hus⟩ : ∃ us, ts ++ [t] = us := ⟨_, rfl⟩
    have HU := Lib.hid hus
    rw [hus] at HS ⊢
    have HL : Hid (us.length = ts.length + 1) := Lib.hid (by rw [← hus, List.length_append]; rfl)
    clear hr hus
    obtain ⟨s, n, hn⟩ := outV_form (writeOf us)
    have HN := Lib.hid hn
    rw [hn]
    clear hn
    go_enter Tryd.func30, Tryd.ntmps30
    go_wp2_with (first
      | (go_at_call 45; refine (rread_all l ts H.out hz _).mono ?_; rintro e w1 ⟨A, c, rfl, HO, δ1, rfl⟩)
      | (at_builtin; (refine wpList_append_lit w slS (.tmp 16) (.tmp 17) rfl rfl (v := .slice (some ⟨_, 0, none⟩) 0 0) (own_lit0 (by go_simp) (by go_simp)) rfl (B := (lat w δ1).heap.size) (A := A) (m := ts.length) (c := c) (news := ts.flatMap strE) rfl ((Sl.of_own HO.out).up.2.2) (len_enc strE 1 (fun _ => rfl) _) (one_enc strE one_str _) (by omega) (by omega) ?_); intro A1 c1 δ2 own1 hg1)
      | (at_builtin; go_must (refine wpList_append_new w slS (.tmp 18) (.tmp 20) rfl rfl own1 rfl rfl (by go_simp) rfl (by simp [Value.oneCell']) (by omega) (by omega) ?_); intro A2 c2 δ3 own2; have HW := Lib.hid (add_sl own2 HU.out); clear own2)
      | (go_at_call 37; refine (rwrite_c A2 c2 us _ HL.out HS.out _ _ HW.out.up).mono ?_; rw [HN.out]; rintro e w1 ⟨rfl, δ2, rfl⟩))
    go_ret2
    exact ⟨rfl, lat_ex⟩
theorem rcut_c (l : Txt) (hz : l.length ≤ 100000) (w : World) :
    Calls Tryd.prog 32 #[.string (str l)] w fun e w' => e = .returned (outV (cutOf l)) ∧ ∃ δ, w' = lat w δ := by
  rcases hr : readOf l with n | ts
  · have H := Lib.hid hr
    have hd : n ≠ 0 := readOf_bad0 hr
    have hd2 : (n != 0) = true := by simpa using hd
    rw [show outV (cutOf l) = .tuple #[.string ⟨#[]⟩, .int .i64 n] by unfold cutOf; rw [hr]; rfl]
    clear hr
    go_enter Tryd.func32, Tryd.ntmps32
    go_wp2_with (go_at_call 45; refine (rread_bad l _ H.out hz _).mono ?_; rintro e w1 ⟨rfl, δ1, rfl⟩)
    go_ret2
    exact ⟨rfl, lat_ex⟩
  · have H := Lib.hid hr
    have HA := Lib.hid (read_some hr)
    have h20 := HA.out.1
    by_cases h0 : ts = []
    · subst h0
      rw [show outV (cutOf l) = .tuple #[.string ⟨#[]⟩, .int .i64 3] by unfold cutOf; rw [hr]; rfl]
      clear hr
      go_enter Tryd.func32, Tryd.ntmps32
      go_wp2_with (go_at_call 45; refine (rread_all l _ H.out hz _).mono ?_; rintro e w1 ⟨A, c, rfl, HO, δ1, rfl⟩)
      go_ret2
      exact ⟨rfl, lat_ex⟩
    · rw [show outV (cutOf l) = .tuple #[.string (str (file (ts.take (ts.length - 1)))), .int .i64 0] by unfold cutOf; rw [hr]; simp only; rw [if_neg h0]; rfl]
      have hlen : 0 < ts.length := List.length_pos_iff.2 h0
      obtain ⟨us, hus⟩ : ∃ us, ts.take (ts.length - 1) = us := ⟨_, rfl⟩
      have HU := Lib.hid hus
      have HT : Hid (allT us ∧ us.length ≤ 20) := Lib.hid ⟨by rw [← hus]; exact allT_take HA.out.2.1 _, by rw [← hus, List.length_take]; omega⟩
      have HW0 : Hid (textsErr 20 us = 0) := Lib.hid (by unfold textsErr; rw [if_neg (by have := HT.out.2; omega), if_pos (List.all_eq_true.2 HT.out.1)])
      have HL : Hid (us.length = ts.length - 1) := Lib.hid (by rw [← hus, List.length_take]; omega)
      have hn1 : ((ts.length : Int) == 0) = false := by simp; omega
      have hn2 : ¬ (ts.length : Int) = 0 := by omega
      rw [hus]
      obtain ⟨m, hm⟩ : ∃ m, ts.length - 1 = m := ⟨_, rfl⟩
      rw [hm] at HL
      have HU2 : Hid (ts.take m = us) := Lib.hid (by rw [← hm]; exact HU.out)
      have hmt : m ≤ ts.length := by omega
      have e1 : (ts.length : Int) - 1 = (m : Int) := by omega
      clear hr hus h0 hm
      go_enter Tryd.func32, Tryd.ntmps32
      go_wp2_with (first
        | (go_at_call 45; refine (rread_all l _ H.out hz _).mono ?_; rintro e w1 ⟨A, c, rfl, HO, δ1, rfl⟩; have HS : Hid (Sl strE (lat w δ1).heap.size (lat w δ1) A c us) := Lib.hid (take_sl HO.out HU2.out); have hc0 : (m : Int) ≤ (c : Int) := (by have := (Sl.of_own HO.out).1; omega))
        | (go_at_call 37; refine (rWrite_ok A c us HW0.out _ HL.out (smallT_of HT.out.1) _ _ HS.out.up).mono ?_; rintro e w1 ⟨rfl, δ2, rfl⟩))
      go_ret2
      exact ⟨rfl, lat_ex⟩
end Go.Proofs.YtjamemjmdlkpcaaDoor
