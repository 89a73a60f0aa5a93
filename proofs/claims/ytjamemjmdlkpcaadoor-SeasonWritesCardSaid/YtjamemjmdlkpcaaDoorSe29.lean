/- Season: the reference's Letter and Form. -/
import Derived.Test.YtjamemjmdlkpcaaDoorSe28
import Derived.Deep.RegionHeld3
import Derived.Deep.CutRange
import Derived.Deep.DeepMust
namespace Go.Proofs.YtjamemjmdlkpcaaDoor
open Go.RowKit
open Se
open Go.Shelf

theorem letterI_of {b : UInt8} {k : Nat} (hk : k < 49) (h : letter k = b) : letterI b = k := by
  unfold letterI
  rw [← h, unletter_letter (by omega)]
theorem letterI_none {b : UInt8} (h : ∀ k, k < 49 → letter k ≠ b) : letterI b = -1 := by
  unfold letterI
  cases hu : unletter b with
  | none => rfl
  | some n =>
    obtain ⟨h1, h2⟩ := letter_unletter hu
    exact absurd h1 (h n (by omega))
theorem u8_ne {a b : UInt8} (h : a ≠ b) : (a.toNat : Int) ≠ b.toNat := fun hc => h (u8_eq (by omega))
theorem rLetter_c (b : UInt8) (u : Int) (hu : u = b.toNat) (w : World) :
    Calls Tryd.prog 65 #[.int .u8 u] w fun e w' => e = .returned (.int .i64 (letterI b)) ∧ w = w' := by
  have HU := Lib.hid hu
  clear hu
  go_enter Tryd.func65, Tryd.ntmps65
  go_wp2
  go_loop [3] (fun i => ∃ k : Nat, k ≤ 49 ∧ i = .int .i64 k ∧ Hid (∀ j, j < k → letter j ≠ b)) (fun i => 49 - (intOf i).toNat)
  case atStart => exact ⟨0, by omega, rfl, fun j hj => by omega⟩
  case round =>
    obtain ⟨k, hk, rfl, HK⟩ := hrel
    by_cases hlt : k < 49
    · have hki : (k : Int) < 49 := by omega
      have x1 := fun (W : World) t q hh => index_letters (P := Tryd.prog) W t q k hh (by omega)
      by_cases hq : letter k = b
      · have HL := Lib.hid (letterI_of hlt hq)
        have h1 : (letter k).toNat = b.toNat := by rw [hq]
        have h2 : ((letter k).toNat : Int) = u := by rw [HU.out, h1]
        rw [h2] at x1
        clear h1 h2 hq
        go_wp2
        go_ret
        exact ⟨ret_int HL.out.symm, rfl⟩
      · have h2 : ((letter k).toNat : Int) ≠ u := by rw [HU.out]; exact u8_ne hq
        have HK2 : Hid (∀ j, j < k + 1 → letter j ≠ b) := Lib.hid (fun j hj => by
          by_cases hjk : j = k
          · subst hjk; exact hq
          · exact HK.out j (by omega))
        obtain ⟨v, hv⟩ : ∃ v : Int, ((letter k).toNat : Int) = v := ⟨_, rfl⟩
        rw [hv] at x1 h2
        have h3 : (v == u) = false := by simpa using h2
        clear hq hv
        go_wp2
        go_round
        case rel => exact ⟨k + 1, hlt, by go_num, HK2⟩
        case measure => simp [intOf]; omega
    · obtain rfl : k = 49 := by omega
      have HL := Lib.hid (letterI_none HK.out)
      go_wp2
      go_ret
      exact ⟨ret_int HL.out.symm, rfl⟩

theorem sub_str {P : Program} (w : World) (t : TypeId) (k k' : IntKind) (l : Txt) (i : Int) (a b : Nat) (hi : i = (a : Int)) (m : Txt) (h : P.underlying t = some .string) (hab : a ≤ b) (hb : b ≤ l.length) (hm : (l.take b).drop a = m) :
    (Instr.slice t (.string (str l)) (some (.int k i)) (some (.int k' b)) none).run P w = .ok (.string (str m)) w := by
  subst hi
  rw [slice_at w t (str l) k k' a b h hab (by rw [size_str]; exact hb)]
  rw [str_eq (a := (str l).extract a b) (l := m)]
  rw [ext_lst, lst_str, hm]
theorem seg_cons {l : Txt} {a k : Nat} {x : UInt8} (ha : a < k) (hx : l[a]? = some x) : (l.take k).drop a = x :: (l.take k).drop (a + 1) := by
  have hl : a < l.length := (List.getElem?_eq_some_iff.1 hx).1
  have h2 : a < (l.take k).length := by rw [List.length_take]; omega
  rw [List.drop_eq_getElem_cons h2]
  have h3 : (l.take k)[a]? = some x := by rw [List.getElem?_take_of_lt ha]; exact hx
  rw [List.getElem?_eq_getElem h2] at h3
  injection h3 with h3
  rw [h3]
/-- What Form returns. -/
def FormPost (w : World) (o : Option (List Row)) (e : Ending) (w' : World) : Prop :=
  (match o with
    | some rs => ∃ A c, e = .returned (.tuple #[.slice A rs.length c, .bool true]) ∧ w'.ownsRow w.heap.size 23 3 (.slice A rs.length c) rs.length (rs.flatMap rowE)
    | none => ∃ A n c, e = .returned (.tuple #[.slice A n c, .bool false])) ∧ ∃ δ, w' = lat w δ
theorem form_none_p {w w' : World} {o : Option (List Row)} (h : o = none) (A : Option Addr) (n c : Nat) (hl : ∃ δ, w' = lat w δ) : FormPost w o (.returned (.tuple #[.slice A n c, .bool false])) w' := by
  subst h; exact ⟨⟨A, n, c, rfl⟩, hl⟩
theorem digit_not (x : UInt8) : isDigit x = false ↔ (x.toNat : Int) < 48 ∨ (57 : Int) < x.toNat := by
  unfold isDigit
  rw [decide_eq_false_iff_not]
  omega
theorem digit_yes (x : UInt8) : isDigit x = true ↔ ¬ (x.toNat : Int) < 48 ∧ ¬ (57 : Int) < x.toNat := by
  unfold isDigit
  rw [decide_eq_true_eq]
  omega
/-- The bytes of a string from a place on, one more. -/
theorem seg_snoc {l : Txt} {a k : Nat} {x : UInt8} (ha : a ≤ k) (hx : l[k]? = some x) : (l.take (k + 1)).drop a = (l.take k).drop a ++ [x] := by
  rw [List.take_add_one, hx]
  have hl : k < l.length := (List.getElem?_eq_some_iff.1 hx).1
  rw [List.drop_append, List.length_take, show a - min k l.length = 0 by omega]
  rfl
theorem seg_self (l : Txt) (k : Nat) : (l.take k).drop k = [] := by
  apply List.drop_eq_nil_of_le
  rw [List.length_take]; omega
theorem rform_bad (l : Txt) (h : ¬ (3 ≤ l.length ∧ l.length ≤ 1100)) (hz : l.length ≤ 100000) (w : World) :
    Calls Tryd.prog 49 #[.string (str l)] w (FormPost w (formOf l)) := by
  have HG := Lib.hid (form_none (l := l) (fun hc => h ⟨hc.1, hc.2.1⟩))
  by_cases h1 : l.length < 3
  · have h2 : (l.length : Int) - 3 < 0 := by omega
    clear h
    go_enter Tryd.func49, Tryd.ntmps49
    go_wp2
    go_ret2
    exact form_none_p HG.out _ _ _ lat_ex
  · have h2 : ¬ (l.length : Int) - 3 < 0 := by omega
    have h3 : (1100 : Int) < (l.length : Int) := by omega
    clear h
    go_enter Tryd.func49, Tryd.ntmps49
    go_wp2
    go_ret2
    exact form_none_p HG.out _ _ _ lat_ex
set_option maxRecDepth 100000 in
set_option maxHeartbeats 8000000 in
theorem rform_c (l : Txt) (hz : l.length ≤ 100000) (w : World) :
    Calls Tryd.prog 49 #[.string (str l)] w (FormPost w (formOf l)) := by
  by_cases hb : 3 ≤ l.length ∧ l.length ≤ 1100
  · have h1' : (l.length : Int) ≤ 1100 := by omega
    have h2' : ¬ (l.length : Int) - 3 < 0 := by omega
    obtain ⟨m, hm⟩ : ∃ m, l.length = m + 3 := ⟨l.length - 3, by omega⟩
    have e3 : (l.length : Int) - 3 = (m : Int) := by omega
    have HM : Hid (l.length = m + 3) := Lib.hid hm
    have hz2 : m ≤ 1097 := by omega
    clear hb hm
    go_enter Tryd.func49, Tryd.ntmps49
    go_wp2_with (fail)
    go_loopg [5] 3 (fun g i wr => ∃ (k : Nat), m ≤ k ∧ k ≤ m + 3 ∧ g = m + 3 - k ∧ i = .int .i64 k ∧ Hid (((l.take k).drop m).all isDigit = true) ∧ w = wr)
    case atStart => exact ⟨m, Nat.le_refl _, by omega, by omega, rfl, by rw [seg_self]; rfl, rfl⟩
    case round =>
      obtain ⟨k, hmk, hk, rfl, rfl, HK, rfl⟩ := hrel
      by_cases hlt : k < m + 3
      · have hll : k < l.length := by have := HM.out; omega
        obtain ⟨x, hx⟩ : ∃ x, l[k]? = some x := ⟨_, List.getElem?_eq_getElem hll⟩
        have x1 := fun (W : World) t q hh => idx_str (P := Tryd.prog) W t q l (k : Int) k rfl x hh hx
        have hki : (k : Int) < (l.length : Int) := by omega
        rcases hd : isDigit x with _ | _
        · have HG : Hid (formOf l = none) := Lib.hid (form_none (by
            intro hc
            have h3 := hc.2.2
            rw [List.all_eq_true] at h3
            have h4 : x ∈ l.drop (l.length - 3) := by
              rw [HM.out, Nat.add_sub_cancel]
              refine List.mem_of_getElem? (i := k - m) ?_
              rw [List.getElem?_drop, show m + (k - m) = k by omega]; exact hx
            rw [h3 x h4] at hd; cases hd))
          have hd2 := (digit_not x).1 hd
          obtain ⟨v, hv⟩ : ∃ v : Int, (x.toNat : Int) = v := ⟨_, rfl⟩
          rw [hv] at x1 hd2
          clear hd hv
          rcases hd2 with h1 | h1
          · go_wp2
            go_ret2
            exact form_none_p HG.out _ _ _ lat_ex
          · have h2 : ¬ v < 48 := by omega
            go_wp2
            go_ret2
            exact form_none_p HG.out _ _ _ lat_ex
        · have hd2 := (digit_yes x).1 hd
          have HK2 : Hid (((l.take (k + 1)).drop m).all isDigit = true) := Lib.hid (by
            rw [seg_snoc hmk hx, List.all_append, HK.out]; simp [hd])
          obtain ⟨v, hv⟩ : ∃ v : Int, (x.toNat : Int) = v := ⟨_, rfl⟩
          rw [hv] at x1 hd2
          obtain ⟨h1, h2⟩ := hd2
          clear hd hv
          go_wp2
          go_roundg (m + 3 - (k + 1))
          case measure => omega
          case rel => exact ⟨k + 1, by omega, hlt, rfl, by go_num, HK2, rfl⟩
      · obtain rfl : k = m + 3 := by omega
        have hki : ¬ ((m + 3 : Nat) : Int) < (l.length : Int) := by have := HM.out; omega
        have HD : Hid (formOf l = parse [] (l.take m)) := Lib.hid (by
          have h3 := HK.out
          rw [List.take_of_length_le (by have := HM.out; omega)] at h3
          have e : l.length - 3 = m := by have := HM.out; omega
          have h4 := HM.out
          unfold formOf
          rw [e, if_pos ⟨by omega, by omega, h3⟩])
        clear HK
        go_wp2_with (fail)
        go_loopg [6, 7, 8] m (fun g o f i wr => ∃ (fr k : Nat) (rs : List Row) (A : Option Addr) (c : Nat) (δ : World), fr ≤ k ∧ k ≤ m ∧ g = m - k ∧ o = .slice A rs.length c ∧ f = .int .i64 fr ∧ i = .int .i64 k ∧ rs.length ≤ k ∧ Hid (Stands (l.take m) rs ((l.take k).drop fr) ((l.take m).drop k)) ∧ Hid (wr.ownsRow w.heap.size 23 3 (.slice A rs.length c) rs.length (rs.flatMap rowE)) ∧ wr = lat w δ)
        case atStart => exact ⟨0, 0, [], none, 0, w, Nat.le_refl _, Nat.zero_le _, rfl, rfl, rfl, rfl, Nat.zero_le _, stands_start _, World.ownsRow_nil _ _ _ _, (lat_refl w).symm⟩
        case round =>
          obtain ⟨fr, k, rs, A, c, δ, hfk, hkm, rfl, rfl, rfl, rfl, hrk, HS, HO, rfl⟩ := hrel
          have hdd := HM.out
          by_cases hlt : k < m
          · have hki2 : (k : Int) < (m : Int) := by omega
            obtain ⟨x, hx⟩ : ∃ x, l[k]? = some x := ⟨_, List.getElem?_eq_getElem (by omega)⟩
            have x1 := fun (W : World) t q hh => idx_str (P := Tryd.prog) W t q l (k : Int) k rfl x hh hx
            have HX : Hid ((l.take m).drop k = x :: (l.take m).drop (k + 1)) := Lib.hid (seg_cons hlt hx)
            have HSN : Hid ((l.take (k + 1)).drop fr = (l.take k).drop fr ++ [x]) := Lib.hid (seg_snoc hfk hx)
            by_cases h10 : x = 10
            · obtain ⟨v, hv⟩ : ∃ v : Int, (x.toNat : Int) = v := ⟨_, rfl⟩
              have hv10 : v = 10 := by rw [← hv, h10]; rfl
              rw [hv, hv10] at x1
              have HS2 : Hid (Stands (l.take m) rs ((l.take k).drop fr) (10 :: (l.take m).drop (k + 1))) := Lib.hid (by rw [← h10, ← HX.out]; exact HS.out)
              have HSF : Hid ((l.take (k + 1)).drop (k + 1) = []) := Lib.hid (seg_self l (k + 1))
              clear hv hv10 h10 hx hdd
              by_cases h2 : k - fr < 2
              · have HN : Hid (parse [] (l.take m) = none) := Lib.hid (stands_bad HS2.out (line_short (by rw [List.length_drop, List.length_take]; omega)))
                have h3 : (k : Int) - (fr : Int) < 2 := by omega
                go_wp2
                go_ret2
                exact form_none_p (HD.out.trans HN.out) _ _ _ lat_ex
              · have h3 : ¬ (k : Int) - (fr : Int) < 2 := by omega
                have hll : k ≤ l.length := by have := HM.out; omega
                obtain ⟨a, ha⟩ : ∃ a, l[fr]? = some a := ⟨_, List.getElem?_eq_getElem (by omega)⟩
                obtain ⟨b, hb⟩ : ∃ b, l[fr + 1]? = some b := ⟨_, List.getElem?_eq_getElem (by omega)⟩
                have xa := fun (W : World) t q hh => idx_str (P := Tryd.prog) W t q l (fr : Int) fr rfl a hh ha
                have xb := fun (W : World) t q hh => idx_str (P := Tryd.prog) W t q l ((fr : Int) + 1) (fr + 1) (by omega) b hh hb
                have xs := fun (W : World) t q q' hh => sub_str (P := Tryd.prog) W t q q' l ((fr : Int) + 2) (fr + 2) k (by omega) ((l.take k).drop (fr + 2)) hh (by omega) hll rfl
                have HL : Hid ((l.take k).drop fr = a :: b :: (l.take k).drop (fr + 2)) := Lib.hid (by rw [seg_cons (by omega) ha, seg_cons (by omega) hb])
                have hml : ((l.take k).drop (fr + 2)).length ≤ 1100 := by rw [List.length_drop, List.length_take]; omega
                obtain ⟨t, ht⟩ : ∃ t, (l.take k).drop (fr + 2) = t := ⟨_, rfl⟩
                rw [ht] at xs HL hml
                obtain ⟨p, hp⟩ : ∃ p, letterI a = p := ⟨_, rfl⟩
                obtain ⟨q, hq⟩ : ∃ q, letterI b = q := ⟨_, rfl⟩
                have HA := fun (W : World) (u : Int) (hu : u = a.toNat) => rLetter_c a u hu W
                have HB := fun (W : World) (u : Int) (hu : u = b.toNat) => rLetter_c b u hu W
                have HLR : Hid (lineRow ((l.take k).drop fr) = if 0 ≤ p ∧ 0 ≤ q ∧ isText t = true then some ⟨p, q, t⟩ else none) := Lib.hid (by rw [HL.out, ← hp, ← hq]; exact line_iff)
                rw [hp] at HA
                rw [hq] at HB
                have HZ : Hid ((str t).size ≤ 140737488355328) := Lib.hid (by rw [size_str]; omega)
                have hw1 : IntKind.i64.wrap ((fr : Int) + 1) = (fr : Int) + 1 := IntWalk.i64_in _ (by omega)
                have hw2 : IntKind.i64.wrap ((fr : Int) + 2) = (fr : Int) + 2 := IntWalk.i64_in _ (by omega)
                clear hp hq ht ha hb h2 hll
                by_cases hp0 : p < 0
                · have HN : Hid (parse [] (l.take m) = none) := Lib.hid (stands_bad HS2.out (by rw [HLR.out, if_neg]; intro hc; omega))
                  go_wp2_with (go_at_call 65; with_reducible refine (HA _ _ rfl).mono ?_; rintro e w1 ⟨rfl, rfl⟩)
                  go_ret2
                  exact form_none_p (HD.out.trans HN.out) _ _ _ lat_ex
                · by_cases hq0 : q < 0
                  · have HN : Hid (parse [] (l.take m) = none) := Lib.hid (stands_bad HS2.out (by rw [HLR.out, if_neg]; intro hc; omega))
                    go_wp2_with (first
                      | (go_at_call 65; with_reducible refine (HA _ _ rfl).mono ?_; rintro e w1 ⟨rfl, rfl⟩)
                      | (go_at_call 65; with_reducible refine (HB _ _ rfl).mono ?_; rintro e w1 ⟨rfl, rfl⟩))
                    go_ret2
                    exact form_none_p (HD.out.trans HN.out) _ _ _ lat_ex
                  · rcases hi : isText t with _ | _
                    · have HN : Hid (parse [] (l.take m) = none) := Lib.hid (stands_bad HS2.out (by rw [HLR.out, if_neg]; intro hc; rw [hi] at hc; exact Bool.false_ne_true hc.2.2))
                      have HQ : Hid (isText (str t).data.toList = false) := Lib.hid (by rw [lst_str]; exact hi)
                      clear hi
                      go_wp2_with (first
                        | (go_at_call 65; with_reducible refine (HA _ _ rfl).mono ?_; rintro e w1 ⟨rfl, rfl⟩)
                        | (go_at_call 65; with_reducible refine (HB _ _ rfl).mono ?_; rintro e w1 ⟨rfl, rfl⟩)
                        | (go_at_call 26; refine (rIsText_c _ _ HQ.out HZ.out _).mono ?_; rintro e w1 ⟨rfl, rfl⟩))
                      go_ret2
                      exact form_none_p (HD.out.trans HN.out) _ _ _ lat_ex
                    · have HR : Hid (Stands (l.take m) (rs ++ [⟨p, q, t⟩]) [] ((l.take m).drop (k + 1))) := Lib.hid (stands_feed HS2.out (by rw [HLR.out, if_pos ⟨by omega, by omega, hi⟩]))
                      have HQ : Hid (isText (str t).data.toList = true) := Lib.hid (by rw [lst_str]; exact hi)
                      clear hi
                      go_upto_region 17 with (first
                        | (go_at_call 65; with_reducible refine (HA _ _ rfl).mono ?_; rintro e w1 ⟨rfl, rfl⟩)
                        | (go_at_call 65; with_reducible refine (HB _ _ rfl).mono ?_; rintro e w1 ⟨rfl, rfl⟩)
                        | (go_at_call 26; refine (rIsText_c _ _ HQ.out HZ.out _).mono ?_; rintro e w1 ⟨rfl, rfl⟩))
                      go_cut [6] from 36 to 92 (fun s6 wx => ∃ (A' : Option Addr) (c' : Nat) (δ' : World), s6 = .slice A' (rs.length + 1) c' ∧ Hid ((lat w δ').ownsRow w.heap.size 23 3 (.slice A' (rs.length + 1) c') (rs.length + 1) (rs.flatMap rowE ++ rowE ⟨p, q, t⟩)) ∧ wx = lat w δ')
                      case first =>
                        go_region_held3 (fun _ => True)
                          (trivial)
                          (first
                            | (go_at_call 65; with_reducible refine (HA _ _ rfl).mono ?_; rintro e w1 ⟨rfl, rfl⟩)
                            | (go_at_call 65; with_reducible refine (HB _ _ rfl).mono ?_; rintro e w1 ⟨rfl, rfl⟩)
                            | (refine step_append_cells w slR (.tmp 73) (.tmp 89) rfl rfl (v := .slice A rs.length c) (n := rs.length) (xs := rs.flatMap rowE) (owns_up HO.out) rfl (m := 1) (c := 1) (news := rowE ⟨p, q, t⟩) rfl (cells_lit rfl) rfl (by simp [rowE, Value.oneCell']) (by omega) (by omega) ?_; intro A1 c1 δ1 own1 hg1))
                        all_goals (go_wp2_with fail; go_meet; exact ⟨A1, c1, _, rfl, owns_def own1, lat_def⟩)
                      obtain ⟨A', c', δ', rfl, HO', rfl⟩ := hcut
                      go_wp2
                      go_roundg (m - (k + 1))
                      case measure => omega
                      case rel => exact ⟨k + 1, k + 1, rs ++ [⟨p, q, t⟩], A', c', δ', Nat.le_refl _, hlt, rfl, by rw [List.length_append]; rfl, by go_num, by go_num, by rw [List.length_append, List.length_singleton]; omega, by rw [HSF.out]; exact HR, by rw [List.length_append, List.flatMap_append]; exact HO', rfl⟩
            · have HS2 : Hid (Stands (l.take m) rs ((l.take (k + 1)).drop fr) ((l.take m).drop (k + 1))) := Lib.hid (by
                rw [HSN.out]
                exact stands_byte (by rw [← HX.out]; exact HS.out) h10)
              obtain ⟨v, hv⟩ : ∃ v : Int, (x.toNat : Int) = v := ⟨_, rfl⟩
              have hvn : v ≠ 10 := by
                rw [← hv]
                intro hc
                exact h10 (u8_eq (by show x.toNat = 10; omega))
              rw [hv] at x1
              have hvb : (v != 10) = true := by simpa using hvn
              have hvb2 : (v == 10) = false := by simpa using hvn
              clear hv h10 hx hdd
              go_wp2
              go_roundg (m - (k + 1))
              case measure => omega
              case rel => exact ⟨fr, k + 1, rs, A, c, δ, by omega, hlt, rfl, rfl, rfl, by go_num, by omega, HS2, HO, rfl⟩
          · obtain rfl : k = m := by omega
            have HE : Hid (parse [] (l.take k) = if fr = k then some rs else none) := Lib.hid (by
              have h1 := HS.out
              rw [seg_self l k] at h1
              rw [stands_end h1]
              have h4 : ((l.take k).drop fr).length = k - fr := by rw [List.length_drop, List.length_take]; omega
              by_cases hf : fr = k
              · rw [if_pos hf, if_pos (List.eq_nil_of_length_eq_zero (by omega))]
              · rw [if_neg hf, if_neg]
                intro hc
                rw [hc] at h4
                simp at h4; omega)
            clear hdd
            by_cases hf : fr = k
            · subst hf
              go_wp2
              go_ret2
              rw [HD.out, HE.out]
              first | rw [if_pos rfl] | rw [if_pos trivial]
              exact ⟨⟨A, c, rfl, HO.out⟩, lat_ex⟩
            · have hfb : ((fr : Int) == (k : Int)) = false := by simp; omega
              rw [if_neg hf] at HE
              clear hf
              go_wp2
              go_ret2
              exact form_none_p (HD.out.trans HE.out) _ _ _ lat_ex
  · exact rform_bad l hb hz w
end Go.Proofs.YtjamemjmdlkpcaaDoor
