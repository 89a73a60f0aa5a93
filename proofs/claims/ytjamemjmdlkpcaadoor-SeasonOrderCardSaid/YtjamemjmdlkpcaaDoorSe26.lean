/- Season: the program's parse, its loop. -/
import Derived.Test.YtjamemjmdlkpcaaDoorSe25
import Derived.Test.YtjamemjmdlkpcaaDoorMeB
import Derived.Deep.CutRange
namespace Go.Proofs.YtjamemjmdlkpcaaDoor
open Go.RowKit
open Se
open Go.Shelf

theorem post_none {w w' : World} {o : Option (List Row)} (h : o = none) (hl : ∃ δ, w' = lat w δ) : ParsePost w o (.returned (.tuple #[.slice none 0 0, .bool false])) w' := by
  subst h; exact ⟨rfl, hl⟩
theorem rows_flat (rs : List Row) : (rs.flatMap rowE).length = rs.length * 3 := by
  induction rs with
  | nil => rfl
  | cons r rs ih => simp only [List.flatMap_cons, List.length_append, ih, rowE_len, List.length_cons]; omega
set_option maxHeartbeats 8000000 in
theorem parse_loop (l : Txt) (h3 : 3 ≤ l.length) (hz : l.length ≤ 1100) (hd : (l.drop (l.length - 3)).all isDigit = true) (w : World) :
    Calls Tryd.prog 56 #[.string (str l)] w (ParsePost w (parse [] (l.take (l.length - 3)))) := by
  have h1' : (l.length : Int) ≤ 1100 := by omega
  have h2' : ¬ (l.length : Int) - 3 < 0 := by omega
  have e3 : (l.length : Int) - 3 = ((l.length - 3 : Nat) : Int) := by omega
  have hx := fun (W : World) t k hh => from_str (P := Tryd.prog) W t k l ((l.length - 3 : Nat) : Int) (l.length - 3) rfl (l.drop (l.length - 3)) hh (by omega) rfl
  have hy := fun (W : World) t k hh => to_str (P := Tryd.prog) W t k l (l.length - 3) (l.take (l.length - 3)) hh (by omega) rfl
  have HD : Hid ((str (l.drop (l.length - 3))).data.toList.all isDigit = true) := Lib.hid (by rw [lst_str]; exact hd)
  have HZ : Hid ((str (l.drop (l.length - 3))).size ≤ 100000) := Lib.hid (by rw [size_str, List.length_drop]; omega)
  obtain ⟨d, hde⟩ : ∃ d, l.drop (l.length - 3) = d := ⟨_, rfl⟩
  rw [hde] at hx HD HZ
  obtain ⟨bd, hbd⟩ : ∃ bd, l.take (l.length - 3) = bd := ⟨_, rfl⟩
  rw [hbd] at hy ⊢
  have hbl : bd.length ≤ 1100 := by rw [← hbd, List.length_take]; omega
  clear hd hde hbd
  go_enter Tryd.func56, Tryd.ntmps56
  go_wp2_with (go_at_call 69; refine (trim_c _ true HD.out HZ.out _).mono ?_; rintro e w1 ⟨t, rfl, ht, δ, rfl⟩)
  go_loopg [5, 6] bd.length (fun g o i wr => ∃ (rs : List Row) (more : Txt) (A : Option Addr) (c : Nat) (δ : World), g = more.length ∧ o = .slice A rs.length c ∧ i = .string (str more) ∧ rs.length + more.length ≤ 1100 ∧ Hid (Stands bd rs [] more) ∧ Hid (wr.ownsRow w.heap.size 23 3 (.slice A rs.length c) rs.length (rs.flatMap rowE)) ∧ wr = lat w δ)
  case atStart => exact ⟨[], bd, none, 0, δ, rfl, rfl, rfl, by simpa using hbl, stands_start bd, World.ownsRow_nil _ _ _ _, rfl⟩
  case round =>
    clear hx hy HD HZ
    obtain ⟨rs, more, A, c, δ2, rfl, rfl, rfl, hlen, HS, HO, rfl⟩ := hrel
    by_cases hm : more = []
    · subst hm
      have q0 := str_nil
      have HP : Hid (parse [] bd = some rs) := Lib.hid (by have := stands_end HS.out; rwa [if_pos rfl] at this)
      go_wp2
      go_ret2
      exact ⟨by rw [HP.out]; exact ⟨A, c, rfl, HO.out⟩, lat_ex⟩
    · have q0 := str_cons hm
      rcases split10 (l := more) with h10 | ⟨a, m, hsp, ha⟩
      · have HN := Lib.hid (stands_open HS.out h10 hm)
        have HA : Hid (∀ b ∈ (str more).data.toList, b ≠ 10) := Lib.hid (by rw [lst_str]; exact h10)
        clear h10
        go_wp2_with (go_at_call 70; refine (cut_no (str more) HA.out _).mono ?_; rintro e w1 ⟨rfl, δ3, rfl⟩)
        go_ret2
        exact post_none HN.out lat_ex
      · have HM : Hid ((str more).data.toList = a ++ 10 :: m) := Lib.hid (by rw [lst_str]; exact hsp)
        have HZ2 : Hid ((str more).size ≤ 100000) := Lib.hid (by rw [size_str]; omega)
        have hml : more.length = a.length + 1 + m.length := by rw [hsp]; simp; omega
        have HL : Hid ((∀ r, lineRow a = some r → Stands bd (rs ++ [r]) [] m) ∧ (lineRow a = none → parse [] bd = none)) := Lib.hid (stands_line (by rw [← hsp]; exact HS.out) ha)
        have HA := Lib.hid ha
        clear hsp ha
        by_cases ha2 : a.length < 2
        · have HN := Lib.hid (HL.out.2 (line_short ha2))
          have h2 : (a.length : Int) < 2 := by omega
          clear ha2
          go_wp2_with (go_at_call 70; refine (cut_yes (str more) a m HM.out HA.out HZ2.out _).mono ?_; rintro e w1 ⟨rfl, δ3, rfl⟩)
          go_ret2
          exact post_none HN.out lat_ex
        · obtain ⟨x, y, t2, hae⟩ : ∃ x y t2, a = x :: y :: t2 := by
            match a, ha2 with
            | [], h => exact absurd (by simp) h
            | [_], h => exact absurd (by simp) h
            | x :: y :: t2, _ => exact ⟨x, y, t2, rfl⟩
          have hll : a.length = t2.length + 2 := by rw [hae]; rfl
          have h2 : ¬ ((a.length : Nat) : Int) < 2 := by omega
          have x0 := fun (W : World) t k hh => idx_str (P := Tryd.prog) W t k a 0 0 rfl x hh (by rw [hae]; rfl)
          have x1 := fun (W : World) t k hh => idx_str (P := Tryd.prog) W t k a 1 1 rfl y hh (by rw [hae]; rfl)
          have x2 := fun (W : World) t k hh => from_str (P := Tryd.prog) W t k a 2 2 rfl t2 hh (by omega) (by rw [hae]; rfl)
          have HI : Hid (lineRow a = if 0 ≤ letterI x ∧ 0 ≤ letterI y ∧ isText t2 = true then some ⟨letterI x, letterI y, t2⟩ else none) := Lib.hid (by rw [hae]; exact line_iff)
          have HZ3 : Hid ((str t2).size ≤ 140737488355328) := Lib.hid (by rw [size_str]; omega)
          clear hae ha2
          rcases hq : isText t2 with _ | _
          · have HQ : Hid (isText (str t2).data.toList = false) := Lib.hid (by rw [lst_str]; exact hq)
            have HN : Hid (parse [] bd = none) := Lib.hid (HL.out.2 (by rw [HI.out, if_neg]; intro hc; rw [hq] at hc; exact Bool.false_ne_true hc.2.2))
            clear hq
            go_wp2_with (first
              | (go_at_call 70; refine (cut_yes (str more) a m HM.out HA.out HZ2.out _).mono ?_; rintro e w1 ⟨rfl, δ3, rfl⟩)
              | (go_at_call 50; refine (isText_v _ _ HQ.out HZ3.out _).mono ?_; rintro e w1 ⟨rfl, δ4, rfl⟩))
            go_ret2
            exact post_none HN.out lat_ex
          · have HQ : Hid (isText (str t2).data.toList = true) := Lib.hid (by rw [lst_str]; exact hq)
            have HT := Lib.hid hq
            clear hq
            go_wp2_with (first
              | (go_at_call 70; refine (cut_yes (str more) a m HM.out HA.out HZ2.out _).mono ?_; rintro e w1 ⟨rfl, δ3, rfl⟩)
              | (go_at_call 50; refine (isText_v _ _ HQ.out HZ3.out _).mono ?_; rintro e w1 ⟨rfl, δ4, rfl⟩))
            go_upto_region 10 with fail
            go_cut [10] from 31 to 71 (fun s10 wx => s10 = .pointer (some ⟨(lat (lat (lat w δ2) δ3) δ4).heap.size, 0, none⟩) ∧ ∃ δ5, wx = lat ((lat (lat (lat w δ2) δ3) δ4).alloc (.cells #[.int .i64 (letterI x), .int .i64 (letterI y), .string (str t2)] 23)) δ5)
            case first =>
              go_region_held3 (fun _ => True)
                (trivial)
                (first
                  | (go_at_call 71; with_reducible refine (letter_c x _ rfl _).mono ?_; rintro e w1 ⟨rfl, rfl⟩)
                  | (go_at_call 71; with_reducible refine (letter_c y _ rfl _).mono ?_; rintro e w1 ⟨rfl, rfl⟩))
              all_goals (go_wp2_with fail; go_meet; exact ⟨rfl, _, drew_lat _⟩)
            obtain ⟨rfl, δ5, rfl⟩ := hcut
            obtain ⟨p, hp⟩ : ∃ p, letterI x = p := ⟨_, rfl⟩
            obtain ⟨q, hq⟩ : ∃ q, letterI y = q := ⟨_, rfl⟩
            have HI2 : Hid (lineRow a = if 0 ≤ p ∧ 0 ≤ q ∧ isText t2 = true then some ⟨p, q, t2⟩ else none) := Lib.hid (by rw [← hp, ← hq]; exact HI.out)
            rw [hp, hq]
            clear hp hq HI
            by_cases hpq : 0 ≤ p ∧ 0 ≤ q
            · have HR := Lib.hid (HL.out.1 ⟨p, q, t2⟩ (by rw [HI2.out, if_pos ⟨hpq.1, hpq.2, HT.out⟩]))
              have hm1 : ¬ min p q < 0 := by omega
              have hm2 : (min p q < 0) = False := by simp; omega
              go_wp2_with (at_builtin; (refine wpList_append_new w slR (.tmp 67) (.tmp 69) rfl rfl (owns_up HO.out) rfl rfl (by go_simp) rfl (by simp [Value.oneCell']) (by omega) (by omega) ?_); intro A' c' δ' hown')
              go_roundg m.length
              case measure => omega
              case rel =>
                exact ⟨rs ++ [⟨p, q, t2⟩], m, A', c', _, rfl, by rw [List.length_append]; rfl, rfl, by rw [List.length_append, List.length_singleton]; omega, HR, by rw [List.length_append, List.flatMap_append]; exact hown', lat_def⟩
            · have HN := Lib.hid (HL.out.2 (by rw [HI2.out, if_neg (fun hc => hpq ⟨hc.1, hc.2.1⟩)]))
              have hm1 : min p q < 0 := by omega
              go_wp2
              go_ret2
              exact post_none HN.out lat_ex
theorem parse_c (l : Txt) (hz : l.length ≤ 100000) (w : World) :
    Calls Tryd.prog 56 #[.string (str l)] w (ParsePost w (formOf l)) := by
  by_cases h : 3 ≤ l.length ∧ l.length ≤ 1100 ∧ (l.drop (l.length - 3)).all isDigit = true
  · rw [show formOf l = parse [] (l.take (l.length - 3)) from if_pos h]
    exact parse_loop l h.1 h.2.1 h.2.2 w
  · exact parse_bad l h hz w
end Go.Proofs.YtjamemjmdlkpcaaDoor
