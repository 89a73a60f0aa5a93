/- Season: the program's State, Add and Cut. -/
import Derived.Test.YtjamemjmdlkpcaaDoorSe27
namespace Go.Proofs.YtjamemjmdlkpcaaDoor
open Go.RowKit
open Se
open Go.Shelf

theorem Sl.take {α : Type} {enc : α → List Value} {B : Nat} {w : World} {A : Option Addr} {c : Nat} {xs : List α} (h : Sl enc B w A c xs) (k : Nat) : Sl enc B w A c (xs.take k) := by
  refine ⟨Nat.le_trans (by rw [List.length_take]; omega) h.1, h.2.1, fun hne => ?_⟩
  have e : xs.flatMap enc = (xs.take k).flatMap enc ++ (xs.drop k).flatMap enc := by rw [← List.flatMap_append, List.take_append_drop]
  obtain ⟨b, o, hA, hb, hv⟩ := h.2.2 (by rw [e]; intro hc; exact hne (List.append_eq_nil_iff.1 hc).1)
  refine ⟨b, o, hA, hb, fun j v hj => hv j v ?_⟩
  rw [e, List.getElem?_append_left (List.getElem?_eq_some_iff.1 hj).1]
  exact hj
theorem read_bad_c (l : Txt) (n : Int) (h : readOf l = .bad n) (hz : l.length ≤ 100000) (w : World) (hT : TabIs w) [h6 : Le 6 w] :
    Calls Tryd.prog 22 #[.string (str l)] w fun e w' => e = .returned (.tuple #[.slice none 0 0, .int .i64 n]) ∧ ∃ δ, w' = lat w δ := by
  have := read_c l hz w hT
  rw [h] at this
  exact this
theorem read_all_c (l : Txt) (ts : List Txt) (h : readOf l = .all ts) (hz : l.length ≤ 100000) (w : World) (hT : TabIs w) [h6 : Le 6 w] :
    Calls Tryd.prog 22 #[.string (str l)] w fun e w' => ∃ A c, e = .returned (.tuple #[.slice A ts.length c, .int .i64 0]) ∧ Hid (w'.ownsRow w.heap.size 9 1 (.slice A ts.length c) ts.length (ts.flatMap strE)) ∧ ∃ δ, w' = lat w δ := by
  have := read_c l hz w hT
  rw [h] at this
  refine this.mono ?_
  rintro e w' ⟨⟨A, c, h1, h2⟩, h3⟩
  exact ⟨A, c, h1, h2, h3⟩
def stateOf (g : Got) : Int := match g with
  | .bad n => if n = 140 then 2 else if n = 141 then 3 else if n = 142 then 4 else 1
  | .all _ => 1
theorem state_c (l : Txt) (hz : l.length ≤ 100000) (w : World) (hT : TabIs w) [h6 : Le 6 w] :
    Calls Tryd.prog 24 #[.string (str l)] w fun e w' => e = .returned (.int .i64 (stateOf (readOf l))) ∧ ∃ δ, w' = lat w δ := by
  rcases got_cases l with (h | h | h) | ⟨ts, h⟩
  · have H := Lib.hid h
    rw [show stateOf (readOf l) = 2 by rw [h]; rfl]
    clear h
    go_enter Tryd.func24, Tryd.ntmps24
    go_wp2_with (go_at_call 22; refine (read_bad_c l _ H.out hz _ hT.up).mono ?_; rintro e w1 ⟨rfl, δ1, rfl⟩)
    go_ret
    exact ⟨rfl, lat_ex⟩
  · have H := Lib.hid h
    rw [show stateOf (readOf l) = 3 by rw [h]; rfl]
    clear h
    go_enter Tryd.func24, Tryd.ntmps24
    go_wp2_with (go_at_call 22; refine (read_bad_c l _ H.out hz _ hT.up).mono ?_; rintro e w1 ⟨rfl, δ1, rfl⟩)
    go_ret
    exact ⟨rfl, lat_ex⟩
  · have H := Lib.hid h
    rw [show stateOf (readOf l) = 4 by rw [h]; rfl]
    clear h
    go_enter Tryd.func24, Tryd.ntmps24
    go_wp2_with (go_at_call 22; refine (read_bad_c l _ H.out hz _ hT.up).mono ?_; rintro e w1 ⟨rfl, δ1, rfl⟩)
    go_ret
    exact ⟨rfl, lat_ex⟩
  · have H := Lib.hid h
    rw [show stateOf (readOf l) = 1 by rw [h]; rfl]
    clear h
    go_enter Tryd.func24, Tryd.ntmps24
    go_wp2_with (go_at_call 22; refine (read_all_c l ts H.out hz _ hT.up).mono ?_; rintro e w1 ⟨A, c, rfl, HO, δ1, rfl⟩)
    go_ret
    exact ⟨rfl, lat_ex⟩
/-- What Write, Add and Cut return. -/
def outV (o : Out) : Value := match o with
  | .bad n => .tuple #[.string ⟨#[]⟩, .int .i64 n]
  | .ok s => .tuple #[.string (str s), .int .i64 0]
theorem ret_out {v : Value} {o o' : Out} (h : o = o') (hv : v = outV o') : Ending.returned v = Ending.returned (outV o) := by rw [h, hv]
theorem writeOf_err (ts : List Txt) : writeOf ts = if textsErr 20 ts = 0 then .ok (file ts) else .bad (textsErr 20 ts) := by
  unfold writeOf textsErr
  by_cases h1 : 20 < ts.length
  · simp [h1]
  · by_cases h2 : ts.all isText = true
    · rw [if_neg h1, if_pos h2, if_neg h1, if_pos h2, if_pos rfl]
    · rw [if_neg h1, if_neg h2, if_neg h1, if_neg h2]; rfl
theorem write_c (A : Option Addr) (c : Nat) (ts : List Txt) (ln : Nat) (hl : ts.length = ln) (hs : smallT ts) (B : Nat) (w : World) (hS : Sl strE B w A c ts) [hB : Le B w] (hT : TabIs w) [h6 : Le 6 w] :
    Calls Tryd.prog 36 #[.slice A ln c] w fun e w' => e = .returned (outV (writeOf ts)) ∧ ∃ δ, w' = lat w δ := by
  rw [writeOf_err]
  by_cases h : textsErr 20 ts = 0
  · rw [if_pos h]
    exact write_ok_c A c ts h ln hl hs B w hS hT
  · rw [if_neg h]
    exact write_no_c A c ts _ rfl h ln hl hs B w hS
theorem smallT_of {ts : List Txt} (h : allT ts) : smallT ts := fun t ht => by have := (isText_iff.1 (h t ht)).2; omega
theorem smallT_snoc {ts : List Txt} {t : Txt} (h : smallT ts) (ht : t.length ≤ 2000) : smallT (ts ++ [t]) := by
  intro x hx
  rcases List.mem_append.1 hx with hx | hx
  · exact h x hx
  · rw [List.mem_singleton.1 hx]; exact ht
theorem outV_form (o : Out) : ∃ s n, outV o = .tuple #[.string s, .int .i64 n] := by
  cases o with
  | bad n => exact ⟨_, _, rfl⟩
  | ok s => exact ⟨_, _, rfl⟩
theorem add_sl {W : World} {base : Nat} {A : Option Addr} {c : Nat} {ts us : List Txt} {t : Txt} (h : W.ownsRow base 9 1 (.slice A (ts.length + 1) c) (ts.length + 1) (ts.flatMap strE ++ [.string (str t)])) (hu : ts ++ [t] = us) : Sl strE W.heap.size W A c us := by
  subst hu
  refine Sl.of_own (base := base) (e := 9) (size := 1) ?_
  rw [List.length_append, List.flatMap_append]
  exact h
theorem readOf_bad0 {l : Txt} {n : Int} (hr : readOf l = .bad n) : n ≠ 0 := by
  rcases got_cases l with (h | h | h) | ⟨ts, h⟩
  · rw [hr] at h; injection h with h; omega
  · rw [hr] at h; injection h with h; omega
  · rw [hr] at h; injection h with h; omega
  · rw [hr] at h; cases h
theorem add_c (l t : Txt) (hz : l.length ≤ 100000) (ht : t.length ≤ 2000) (w : World) (hT : TabIs w) [h6 : Le 6 w] :
    Calls Tryd.prog 29 #[.string (str l), .string (str t)] w fun e w' => e = .returned (outV (addOf l t)) ∧ ∃ δ, w' = lat w δ := by
  rcases hr : readOf l with n | ts
  · have H := Lib.hid hr
    have hd : n ≠ 0 := by
      rcases got_cases l with (h | h | h) | ⟨ts, h⟩
      · rw [hr] at h; injection h with h; omega
      · rw [hr] at h; injection h with h; omega
      · rw [hr] at h; injection h with h; omega
      · rw [hr] at h; cases h
    have hd2 : (n != 0) = true := by simpa using hd
    rw [show outV (addOf l t) = .tuple #[.string ⟨#[]⟩, .int .i64 n] by unfold addOf; rw [hr]; rfl]
    clear hr
    go_enter Tryd.func29, Tryd.ntmps29
    go_wp2_with (go_at_call 22; refine (read_bad_c l _ H.out hz _ hT.up).mono ?_; rintro e w1 ⟨rfl, δ1, rfl⟩)
    go_ret2
    exact ⟨rfl, lat_ex⟩
  · have H := Lib.hid hr
    have HA := Lib.hid (read_some hr)
    have h20 := HA.out.1
    have HS : Hid (smallT (ts ++ [t])) := Lib.hid (smallT_snoc (smallT_of HA.out.2.1) ht)
    rw [show outV (addOf l t) = outV (writeOf (ts ++ [t])) by unfold addOf; rw [hr]]
    obtain ⟨us, hus⟩ : ∃ us, ts ++ [t] = us := ⟨_, rfl⟩
    have HU := Lib.hid hus
    rw [hus] at HS ⊢
    have HL : Hid (us.length = ts.length + 1) := Lib.hid (by rw [← hus, List.length_append]; rfl)
    clear hr hus
    obtain ⟨s, n, hn⟩ := outV_form (writeOf us)
    have HN := Lib.hid hn
    rw [hn]
    clear hn
    go_enter Tryd.func29, Tryd.ntmps29
    go_wp2_with (first
      | (go_at_call 22; refine (read_all_c l ts H.out hz _ hT.up).mono ?_; rintro e w1 ⟨A, c, rfl, HO, δ1, rfl⟩)
      | (at_builtin; go_must (refine wpList_append_new w slS (.tmp 16) (.tmp 18) rfl rfl HO.out rfl rfl (by go_simp) rfl (by simp [Value.oneCell']) (by omega) (by omega) ?_); intro A' c' δ' hown'; have HW : Hid (Sl strE (latB w.heap.size ((lat w δ1).alloc (.cells #[.string (str t)] 9)) δ').heap.size (latB w.heap.size ((lat w δ1).alloc (.cells #[.string (str t)] 9)) δ') A' c' us) := Lib.hid (add_sl hown' HU.out); clear hown')
      | (go_at_call 36; refine (write_c A' c' us _ HL.out HS.out _ _ HW.out.up hT.up).mono ?_; rw [HN.out]; rintro e w1 ⟨rfl, δ2, rfl⟩))
    go_ret2
    exact ⟨rfl, lat_ex⟩
theorem take_sl {W : World} {base : Nat} {A : Option Addr} {c : Nat} {ts us : List Txt} {k : Nat} (h : W.ownsRow base 9 1 (.slice A ts.length c) ts.length (ts.flatMap strE)) (hu : ts.take k = us) : Sl strE W.heap.size W A c us := by
  subst hu
  exact (Sl.of_own h).take k
theorem cut_c (l : Txt) (hz : l.length ≤ 100000) (w : World) (hT : TabIs w) [h6 : Le 6 w] :
    Calls Tryd.prog 31 #[.string (str l)] w fun e w' => e = .returned (outV (cutOf l)) ∧ ∃ δ, w' = lat w δ := by
  rcases hr : readOf l with n | ts
  · have H := Lib.hid hr
    have hd : n ≠ 0 := readOf_bad0 hr
    have hd2 : (n != 0) = true := by simpa using hd
    rw [show outV (cutOf l) = .tuple #[.string ⟨#[]⟩, .int .i64 n] by unfold cutOf; rw [hr]; rfl]
    clear hr
    go_enter Tryd.func31, Tryd.ntmps31
    go_wp2_with (go_at_call 22; refine (read_bad_c l _ H.out hz _ hT.up).mono ?_; rintro e w1 ⟨rfl, δ1, rfl⟩)
    go_ret2
    exact ⟨rfl, lat_ex⟩
  · have H := Lib.hid hr
    have HA := Lib.hid (read_some hr)
    have h20 := HA.out.1
    by_cases h0 : ts = []
    · subst h0
      rw [show outV (cutOf l) = .tuple #[.string ⟨#[]⟩, .int .i64 3] by unfold cutOf; rw [hr]; rfl]
      clear hr
      go_enter Tryd.func31, Tryd.ntmps31
      go_wp2_with (go_at_call 22; refine (read_all_c l _ H.out hz _ hT.up).mono ?_; rintro e w1 ⟨A, c, rfl, HO, δ1, rfl⟩)
      go_ret2
      exact ⟨rfl, lat_ex⟩
    · rw [show outV (cutOf l) = .tuple #[.string (str (file (ts.take (ts.length - 1)))), .int .i64 0] by unfold cutOf; rw [hr]; simp only; rw [if_neg h0]; rfl]
      have hlen : 0 < ts.length := List.length_pos_iff.2 h0
      obtain ⟨us, hus⟩ : ∃ us, ts.take (ts.length - 1) = us := ⟨_, rfl⟩
      have HU := Lib.hid hus
      have HT : Hid (allT us ∧ us.length ≤ 20) := Lib.hid ⟨by rw [← hus]; exact allT_take HA.out.2.1 _, by rw [← hus, List.length_take]; omega⟩
      have HL : Hid (us.length = ts.length - 1) := Lib.hid (by rw [← hus, List.length_take]; omega)
      have hn1 : ((ts.length : Int) == 0) = false := by simp; omega
      have hn2 : ¬ (ts.length : Int) = 0 := by omega
      rw [hus]
      obtain ⟨m, hm⟩ : ∃ m, ts.length - 1 = m := ⟨_, rfl⟩
      rw [hm] at HL
      have HU2 : Hid (ts.take m = us) := Lib.hid (by rw [← hm]; exact HU.out)
      have hmt : m ≤ ts.length := by omega
      have e1 : (ts.length : Int) - 1 = (m : Int) := by omega
      clear hr hus h0 hm
      go_enter Tryd.func31, Tryd.ntmps31
      go_wp2_with (first
        | (go_at_call 22; refine (read_all_c l _ H.out hz _ hT.up).mono ?_; rintro e w1 ⟨A, c, rfl, HO, δ1, rfl⟩; have HS : Hid (Sl strE (lat w δ1).heap.size (lat w δ1) A c us) := Lib.hid (take_sl HO.out HU2.out); have hc0 : (m : Int) ≤ (c : Int) := (by have := (Sl.of_own HO.out).1; omega))
        | (go_at_call 60; refine (file_c A c us _ HL.out HT.out.1 HT.out.2 _ _ HS.out.up hT.up).mono ?_; rintro e w1 ⟨rfl, δ2, rfl⟩))
      go_ret2
      exact ⟨rfl, lat_ex⟩
end Go.Proofs.YtjamemjmdlkpcaaDoor
