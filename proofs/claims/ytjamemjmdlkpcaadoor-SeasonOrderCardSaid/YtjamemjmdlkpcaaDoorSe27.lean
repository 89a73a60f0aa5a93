/- Season: the program's Rows and Read. -/
import Derived.Test.YtjamemjmdlkpcaaDoorSe26
namespace Go.Proofs.YtjamemjmdlkpcaaDoor
open Go.RowKit
open Se
open Go.Shelf

theorem parse_none (l : Txt) (h : formOf l = none) (hz : l.length ≤ 100000) (w : World) :
    Calls Tryd.prog 56 #[.string (str l)] w fun e w' => e = .returned (.tuple #[.slice none 0 0, .bool false]) ∧ ∃ δ, w' = lat w δ := by
  have := parse_c l hz w
  rw [h] at this
  exact this
theorem parse_some_c (l : Txt) (rs : List Row) (h : formOf l = some rs) (hz : l.length ≤ 100000) (w : World) :
    Calls Tryd.prog 56 #[.string (str l)] w fun e w' => ∃ A c, e = .returned (.tuple #[.slice A rs.length c, .bool true]) ∧ Hid (w'.ownsRow w.heap.size 23 3 (.slice A rs.length c) rs.length (rs.flatMap rowE)) ∧ ∃ δ, w' = lat w δ := by
  have := parse_c l hz w
  rw [h] at this
  refine this.mono ?_
  rintro e w' ⟨⟨A, c, h1, h2⟩, h3⟩
  exact ⟨A, c, h1, h2, h3⟩
theorem rows_none (l : Txt) (h : formOf l = none) (hz : l.length ≤ 100000) (w : World) :
    Calls Tryd.prog 33 #[.string (str l)] w fun e w' => e = .returned (.tuple #[.slice none 0 0, .int .i64 140]) ∧ ∃ δ, w' = lat w δ := by
  have H := Lib.hid h
  clear h
  go_enter Tryd.func33, Tryd.ntmps33
  go_wp2_with (go_at_call 56; refine (parse_none l H.out hz _).mono ?_; rintro e w1 ⟨rfl, δ1, rfl⟩)
  go_ret2
  exact ⟨rfl, lat_ex⟩
theorem rows_some (l : Txt) (rs : List Row) (h : formOf l = some rs) (hz : l.length ≤ 100000) (w : World) :
    Calls Tryd.prog 33 #[.string (str l)] w fun e w' => ∃ A c, e = .returned (.tuple #[.slice A rs.length c, .int .i64 0]) ∧ Hid (w'.ownsRow w.heap.size 23 3 (.slice A rs.length c) rs.length (rs.flatMap rowE)) ∧ ∃ δ, w' = lat w δ := by
  have H := Lib.hid h
  clear h
  go_enter Tryd.func33, Tryd.ntmps33
  go_wp2_with (go_at_call 56; refine (parse_some_c l rs H.out hz _).mono ?_; rintro e w1 ⟨A, c, rfl, HO, δ1, rfl⟩)
  go_ret2
  exact ⟨A, c, rfl, HO, lat_ex⟩

/-! ### Reading the texts, row by row -/
instance : Inhabited Row := ⟨⟨0, 0, []⟩⟩
/-- Where the texts stand when k rows have been read. -/
def Told (rs : List Row) (ts : List Txt) (k : Nat) : Prop := texts [] rs = (texts (lastD [] ts) (rs.drop k)).map (ts ++ ·)
theorem told_start (rs : List Row) : Told rs [] 0 := by
  unfold Told
  rw [List.drop_zero]
  cases h : texts [] rs with
  | none => simp [lastD, h]
  | some x => simp [lastD, h]
theorem told_step {rs : List Row} {ts : List Txt} {k : Nat} {t : Txt} (h : Told rs ts k) (hk : k < rs.length) (hb : backOf (lastD [] ts) (nth rs k) = some t) : Told rs (ts ++ [t]) (k + 1) := by
  unfold Told at h ⊢
  rw [h, List.drop_eq_getElem_cons hk, lastD_snoc]
  rw [nth_get _ hk] at hb
  rw [texts, hb]
  simp only
  cases texts t (rs.drop (k + 1)) <;> simp
theorem told_bad {rs : List Row} {ts : List Txt} {k : Nat} (h : Told rs ts k) (hk : k < rs.length) (hb : backOf (lastD [] ts) (nth rs k) = none) : texts [] rs = none := by
  unfold Told at h
  rw [h, List.drop_eq_getElem_cons hk]
  rw [nth_get _ hk] at hb
  rw [texts, hb]
  rfl
theorem told_end {rs : List Row} {ts : List Txt} (h : Told rs ts rs.length) : texts [] rs = some ts := by
  unfold Told at h
  rw [h, List.drop_length]
  simp [texts]
theorem Sl.wide {α : Type} {enc : α → List Value} {B : Nat} {w w' : World} {A : Option Addr} {c : Nat} {xs : List α} (h : Sl enc B w A c xs) [hg : Grew B w w'] [hB : Le B w'] : Sl enc w'.heap.size w' A c xs := ⟨h.1, h.2.1, fun hne => by
  obtain ⟨b, o, e, hb, hv⟩ := (h.up (w' := w')).2.2 hne
  exact ⟨b, o, e, Nat.lt_of_lt_of_le hb hB.out, hv⟩⟩
/-- A row out of its cells. -/
theorem Sl.row {B : Nat} {w : World} {A : Option Addr} {c : Nat} {rs : List Row} (h : Sl rowE B w A c rs) {k : Nat} (hk : k < rs.length) :
    ∃ b o, A = some ⟨b, o, none⟩ ∧ b < B ∧ w.cell? ⟨b, o + k * 3, none⟩ = some (.int .i64 (nth rs k).pre) ∧ w.cell? ⟨b, o + k * 3 + 1, none⟩ = some (.int .i64 (nth rs k).suf) ∧ w.cell? ⟨b, o + k * 3 + 2, none⟩ = some (.string (str (nth rs k).mid)) := by
  obtain ⟨b, o, hA, hb, hc⟩ := h.at_ rowE_len hk (by omega)
  rw [← nth_get _ hk] at hc
  refine ⟨b, o, hA, hb, ?_, hc 1 _ rfl, hc 2 _ rfl⟩
  have := hc 0 (.int .i64 (nth rs k).pre) rfl
  simpa using this
/-- What Read returns. -/
def ReadPost (w : World) (g : Got) (e : Ending) (w' : World) : Prop :=
  (match g with
    | .bad n => e = .returned (.tuple #[.slice none 0 0, .int .i64 n])
    | .all ts => ∃ A c, e = .returned (.tuple #[.slice A ts.length c, .int .i64 0]) ∧ w'.ownsRow w.heap.size 9 1 (.slice A ts.length c) ts.length (ts.flatMap strE)) ∧ ∃ δ, w' = lat w δ
theorem read_bad_p {w w' : World} {g : Got} {n : Int} (h : g = .bad n) (hl : ∃ δ, w' = lat w δ) : ReadPost w g (.returned (.tuple #[.slice none 0 0, .int .i64 n])) w' := by
  subst h; exact ⟨rfl, hl⟩
theorem read_all_p {w w' : World} {g : Got} {ts : List Txt} {A : Option Addr} {c : Nat} (h : g = .all ts) (ho : w'.ownsRow w.heap.size 9 1 (.slice A ts.length c) ts.length (ts.flatMap strE)) (hl : ∃ δ, w' = lat w δ) : ReadPost w g (.returned (.tuple #[.slice A ts.length c, .int .i64 0])) w' := by
  subst h; exact ⟨⟨A, c, rfl, ho⟩, hl⟩
theorem readOf_form {l : Txt} (h : formOf l = none) : readOf l = .bad 140 := by unfold readOf; rw [h]
theorem readOf_seal {l : Txt} {rs : List Row} (h : formOf l = some rs) (h2 : sealed (l.take (l.length - 3)) ≠ l) : readOf l = .bad 141 := by unfold readOf; rw [h]; simp only; rw [if_neg h2]
theorem readOf_texts {l : Txt} {rs : List Row} (h : formOf l = some rs) (h2 : sealed (l.take (l.length - 3)) = l) (h3 : texts [] rs = none) : readOf l = .bad 142 := by unfold readOf; rw [h]; simp only; rw [if_pos h2, h3]
theorem readOf_many {l : Txt} {rs : List Row} {ts : List Txt} (h : formOf l = some rs) (h2 : sealed (l.take (l.length - 3)) = l) (h3 : texts [] rs = some ts) (h4 : 20 < ts.length) : readOf l = .bad 142 := by unfold readOf; rw [h]; simp only; rw [if_pos h2, h3]; simp only; rw [if_neg (by omega)]
theorem readOf_all {l : Txt} {rs : List Row} {ts : List Txt} (h : formOf l = some rs) (h2 : sealed (l.take (l.length - 3)) = l) (h3 : texts [] rs = some ts) (h4 : ts.length ≤ 20) : readOf l = .all ts := by unfold readOf; rw [h]; simp only; rw [if_pos h2, h3]; simp only; rw [if_pos h4]
theorem formOf_len {l : Txt} {rs : List Row} (h : formOf l = some rs) : 3 ≤ l.length ∧ l.length ≤ 1100 := by
  unfold formOf at h
  split at h
  · rename_i hc; exact ⟨hc.1, hc.2.1⟩
  · cases h
theorem formOf_rows {l : Txt} {rs : List Row} (h : formOf l = some rs) : rs.length ≤ 1100 ∧ ∀ r ∈ rs, goodR r := by
  have hl := formOf_len h
  unfold formOf at h
  split at h
  · obtain ⟨h1, h2⟩ := parse_some h
    refine ⟨?_, h2⟩
    have h3 := congrArg List.length h1
    rw [List.nil_append, List.length_take] at h3
    have h4 : rs.length ≤ (bytesL rs).length := by
      clear h1 h2 h3 h
      induction rs with
      | nil => simp
      | cons r rs ih =>
        have e : bytesL (r :: rs) = bytesOf r ++ bytesL rs := by simp [bytesL]
        rw [e, List.length_append, List.length_cons]
        have : 1 ≤ (bytesOf r).length := by simp [bytesOf]
        omega
    omega
  · cases h
theorem lastD_len {ts : List Txt} (h : allT ts) : (lastD [] ts).length ≤ 48 := (isText_iff.1 (lastD_text h)).2
theorem allT_snoc {ts : List Txt} {t : Txt} (h : allT ts) (ht : isText t = true) : allT (ts ++ [t]) := by
  intro x hx
  rcases List.mem_append.1 hx with hx | hx
  · exact h x hx
  · rw [List.mem_singleton.1 hx]; exact ht
theorem str_beq (x y : Txt) : ((str x).toList == (str y).toList) = decide (x = y) := by
  rw [toList_lst, toList_lst, lst_str, lst_str]
  by_cases h : x = y
  · subst h; simp
  · simp [h]
theorem slS : SlT Tryd.prog 31 9 (.string ⟨#[]⟩) 1 16 := SlT.mk Tryd.underlying31 (by kernel_rfl) rfl (by omega)
set_option maxHeartbeats 4000000 in
theorem read_c (l : Txt) (hz : l.length ≤ 100000) (w : World) (hT : TabIs w) [h6 : Le 6 w] :
    Calls Tryd.prog 22 #[.string (str l)] w (ReadPost w (readOf l)) := by
  rcases hf : formOf l with _ | rs
  · have HG := Lib.hid (readOf_form hf)
    have H := Lib.hid hf
    clear hf
    go_enter Tryd.func22, Tryd.ntmps22
    go_wp2_with (go_at_call 56; refine (parse_none l H.out hz _).mono ?_; rintro e w1 ⟨rfl, δ1, rfl⟩)
    go_ret2
    exact read_bad_p HG.out lat_ex
  · have hl := formOf_len hf
    have hy := fun (W : World) t k hh => to_str (P := Tryd.prog) W t k l (l.length - 3) (l.take (l.length - 3)) hh (by omega) rfl
    have e3 : (l.length : Int) - 3 = ((l.length - 3 : Nat) : Int) := by omega
    obtain ⟨bd, hbd⟩ : ∃ bd, l.take (l.length - 3) = bd := ⟨_, rfl⟩
    have hbl : bd.length ≤ 50000 := by rw [← hbd, List.length_take]; omega
    have H := Lib.hid hf
    have HB := Lib.hid hbd
    have HL : Hid (bd.length ≤ 50000) := Lib.hid hbl
    rw [hbd] at hy
    have hq := str_beq (sealed bd) l
    clear hbd hbl
    by_cases hs : sealed bd = l
    · rw [decide_eq_true hs] at hq
      have HS := Lib.hid hs
      obtain ⟨hrl, hrg⟩ := formOf_rows hf
      have HR := Lib.hid hrg
      clear hf hs hrg
      go_enter Tryd.func22, Tryd.ntmps22
      go_wp2_with (first
        | (go_at_call 56; refine (parse_some_c l rs H.out hz _).mono ?_; rintro e w1 ⟨A, c, rfl, HO, δ1, rfl⟩)
        | (go_at_call 57; refine (sealed_c (str bd) bd (lst_str bd) HL.out _ hT.up).mono ?_; rintro e w1 ⟨rfl, δ2, rfl⟩))
      have hS1 : Hid (Sl rowE (lat (lat w δ1) δ2).heap.size (lat (lat w δ1) δ2) A c rs) := Lib.hid (Sl.wide (Sl.of_own HO.out))
      refine wp_name ?_
      intro W1 hW1
      rw [← hW1.out] at hS1
      have iw1 : Le 6 W1 := by rw [hW1.out]; infer_instance
      have iw2 : Grew 6 w W1 := by rw [hW1.out]; infer_instance
      have iw3 : Le w.heap.size W1 := by rw [hW1.out]; infer_instance
      have iw4 : Grew w.heap.size w W1 := by rw [hW1.out]; infer_instance
      have hcl := hS1.out.len
      go_loopg [2, 6, 28] rs.length (fun g o b i wr => ∃ (k : Nat) (ts : List Txt) (A2 : Option Addr) (c2 : Nat) (δ : World), k ≤ rs.length ∧ Hid (ts.length = k) ∧ g = rs.length - k ∧ o = .slice A2 ts.length c2 ∧ b = .string (str (lastD [] ts)) ∧ i = .int .i64 k ∧ Hid (Told rs ts k ∧ allT ts) ∧ Hid (wr.ownsRow W1.heap.size 9 1 (.slice A2 ts.length c2) ts.length (ts.flatMap strE)) ∧ wr = lat W1 δ)
      case atStart => exact ⟨0, [], none, 0, W1, Nat.zero_le _, rfl, rfl, rfl, rfl, rfl, ⟨told_start rs, fun t ht => by cases ht⟩, World.ownsRow_nil _ _ _ _, (lat_refl W1).symm⟩
      case round =>
        obtain ⟨k, ts, A2, c2, δ, hk, htl, rfl, rfl, rfl, rfl, HT, HO2, rfl⟩ := hrel
        by_cases hlt : k < rs.length
        · obtain ⟨b, o, rfl, hb, d0, d1, d2⟩ := hS1.out.row hlt
          have ib : Lt b W1 := ⟨hb⟩
          have hki : (k : Int) < (rs.length : Int) := by omega
          have hts : ts.length ≤ 1100 := by have := htl.out; omega
          have hk0 : ¬ (k : Int) < 0 := by omega
          have hll := lastD_len HT.out.2
          obtain ⟨y, hy2⟩ : ∃ y, lastD [] ts = y := ⟨_, rfl⟩
          have hgr := HR.out _ (nth_mem _ hlt)
          obtain ⟨x, hx⟩ : ∃ x, nth rs k = x := ⟨_, rfl⟩
          rw [hy2] at hll
          rw [hx] at d0 d1 d2 hgr
          rw [hy2]
          obtain ⟨p, q, m⟩ := x
          have hml := (isText_iff.1 hgr.2.2.2.2).2
          have HL : Hid ((str y).size ≤ 100000 ∧ (str m).size ≤ 100000) := Lib.hid (by rw [size_str, size_str]; exact ⟨by omega, by simp only at hml; omega⟩)
          have HY : Hid (lastD [] ts = y ∧ nth rs k = ⟨p, q, m⟩) := Lib.hid ⟨hy2, hx⟩
          clear hgr hml hll hy2 hx
          rcases hbk : backOf y ⟨p, q, m⟩ with _ | t
          · have HG := Lib.hid (readOf_texts H.out (by rw [HB.out]; exact HS.out) (told_bad HT.out.1 hlt (by rw [HY.out.1, HY.out.2]; exact hbk)))
            have HK := Lib.hid hbk
            clear hbk
            go_wp2_with (go_at_call 53; refine (back_none (str y) p q (str m) y m (lst_str y) (lst_str m) HK.out HL.out.1 HL.out.2 _).mono ?_; rintro e w1 ⟨t, rfl, δ3, rfl⟩)
            go_ret2
            exact read_bad_p HG.out lat_ex
          · have HT2 : Hid (Told rs (ts ++ [t]) (k + 1) ∧ allT (ts ++ [t])) := Lib.hid ⟨told_step HT.out.1 hlt (by rw [HY.out.1, HY.out.2]; exact hbk), allT_snoc HT.out.2 (back_some hbk).1⟩
            have HK := Lib.hid hbk
            clear hbk
            go_wp2_with (first
              | (go_at_call 53; refine (back_some_c (str y) p q (str m) y m t (lst_str y) (lst_str m) HK.out HL.out.1 HL.out.2 _).mono ?_; rintro e w1 ⟨rfl, δ3, rfl⟩)
              | (at_builtin; go_must (refine wpList_append_new W1 slS (.tmp 40) (.tmp 42) rfl rfl (owns_up HO2.out) rfl rfl (by go_simp) rfl (by simp [Value.oneCell']) (by omega) (by omega) ?_); intro A' c' δ' hown'))
            go_roundg (rs.length - (k + 1))
            case measure => omega
            case rel => exact ⟨k + 1, ts ++ [t], A', c', _, by omega, by rw [List.length_append, htl.out]; rfl, rfl, by rw [List.length_append]; rfl, by rw [lastD_snoc], by go_num, HT2, by rw [List.length_append, List.flatMap_append]; exact hown', lat_def⟩
        · obtain rfl : k = rs.length := by omega
          have HE := Lib.hid (told_end HT.out.1)
          have HO3 : Hid ((lat W1 δ).ownsRow w.heap.size 9 1 (.slice A2 ts.length c2) ts.length (ts.flatMap strE)) := Lib.hid (owns_mono HO2.out iw3.out)
          by_cases h20 : 20 < ts.length
          · have HG := Lib.hid (readOf_many H.out (by rw [HB.out]; exact HS.out) HE.out h20)
            have h20' : (20 : Int) < (ts.length : Int) := by omega
            go_wp2
            go_ret2
            exact read_bad_p HG.out lat_ex
          · have HG := Lib.hid (readOf_all H.out (by rw [HB.out]; exact HS.out) HE.out (by omega))
            have h20' : (ts.length : Int) ≤ 20 := by omega
            go_wp2
            go_ret2
            exact read_all_p HG.out HO3.out lat_ex
    · rw [decide_eq_false hs] at hq
      have HG := Lib.hid (readOf_seal hf (by rw [HB.out]; exact hs))
      clear hf hs
      go_enter Tryd.func22, Tryd.ntmps22
      go_wp2_with (first
        | (go_at_call 56; refine (parse_some_c l rs H.out hz _).mono ?_; rintro e w1 ⟨A, c, rfl, HO, δ1, rfl⟩)
        | (go_at_call 57; refine (sealed_c (str bd) bd (lst_str bd) HL.out _ hT.up).mono ?_; rintro e w1 ⟨rfl, δ2, rfl⟩))
      go_ret2
      exact read_bad_p HG.out lat_ex
end Go.Proofs.YtjamemjmdlkpcaaDoor
