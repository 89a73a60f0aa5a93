/- Season: the reference's orders and Least. -/
import Derived.Test.YtjamemjmdlkpcaaDoorSe46
import Derived.Deep.RegionHeld3
namespace Go.Proofs.YtjamemjmdlkpcaaDoor
open Go.RowKit
open Se

/-- What 'orders' returns. -/
def OrdPost (w : World) (L : List (List Txt)) (e : Ending) (w' : World) : Prop := ∃ (A : Option Addr) (c : Nat) (δ : World), e = .returned (.slice A L.length c) ∧ w' = lat w δ ∧ SlS 9 strE (lat w δ) A c L

set_option maxRecDepth 100000 in
set_option maxHeartbeats 4000000 in
theorem orders0_c (At : Option Addr) (ct : Nat) (ts : List Txt) (f : List Nat) (A : Option Addr) (c : Nat) (B : Nat) (w : World) [hB : Le B w] (h : Sl strE B w At ct ts) (hf : Slt 3 natE w.heap.size w A c f) (hl : f.length = ts.length) (h6 : ts.length ≤ 6) (hb : ∀ x ∈ f, x < ts.length) :
    Calls Tryd.prog 62 #[.slice At ts.length ct, .slice A f.length c] w (OrdPost w (ordT ts 0 f)) := by
  have hE : ((f.length : Int) == (ts.length : Int)) = true := by simp; omega
  have l1 := hf.plain.len
  have l2 := h.len
  have HS := Lib.hid h
  have HF := Lib.hid hf
  have HB := Lib.hid hb
  have hf6 : f.length ≤ 6 := by omega
  obtain ⟨us, hus⟩ : ∃ us, f.map (nth ts) = us := ⟨_, rfl⟩
  have HUS := Lib.hid hus
  rw [show ordT ts 0 f = [us] by rw [← hus]; rfl]
  clear hl h hf hb hus
  go_enter Tryd.func62, Tryd.ntmps62
  go_wp2_with (fail)
  go_loopg [5, 6] f.length (fun g o i wr => ∃ (k : Nat) (A2 : Option Addr) (c2 : Nat) (δ : World), k ≤ f.length ∧ g = f.length - k ∧ o = .slice A2 k c2 ∧ i = .int .i64 k ∧ Hid (wr.ownsRow w.heap.size 9 1 (.slice A2 k c2) k (((f.take k).map (nth ts)).flatMap strE)) ∧ wr = lat w δ)
  case atStart => exact ⟨0, none, 0, w, Nat.zero_le _, rfl, rfl, rfl, World.ownsRow_nil _ _ _ _, (lat_refl w).symm⟩
  case round =>
    obtain ⟨k, A2, c2, δ, hk, rfl, rfl, rfl, HO, rfl⟩ := hrel
    by_cases hlt : k < f.length
    · obtain ⟨b1, o1, rfl, hb1, d1⟩ := HF.out.plain.nat hlt
      have ib1 : Lt b1 w := ⟨hb1⟩
      have hq := HB.out _ (nth_mem f hlt)
      have htk : Hid (f.take (k + 1) = f.take k ++ [nth f k]) := Lib.hid (take_snoc f hlt)
      obtain ⟨q, hq'⟩ : ∃ q, nth f k = q := ⟨_, rfl⟩
      have HQ := Lib.hid hq'
      rw [hq'] at hq d1
      obtain ⟨b2, o2, rfl, hb2, d2⟩ := HS.out.txt hq
      have ib2 : Lt b2 w := ⟨Nat.lt_of_lt_of_le hb2 hB.out⟩
      have hki : (k : Int) < (f.length : Int) := by omega
      have hk0 : ¬ (k : Int) < 0 := by omega
      have hqi : ((q : Nat) : Int) < (ts.length : Int) := by omega
      have hq0 : ¬ ((q : Nat) : Int) < 0 := by omega
      clear hq'
      go_wp2_with (at_builtin; go_must (refine wpList_append_new w slS (.tmp 20) (.tmp 28) rfl rfl (owns_up HO.out) rfl rfl (by go_simp) rfl (by simp [Value.oneCell']) (by omega) (by omega) ?_); intro A' c' δ' hown')
      go_roundg (f.length - (k + 1))
      case measure => omega
      case rel => exact ⟨k + 1, A', c', _, by omega, rfl, rfl, by go_num, by rw [htk.out, HQ.out, List.map_append, List.flatMap_append]; exact hown', lat_def⟩
    · obtain rfl : k = f.length := by omega
      have HO2 : Hid (Slt 9 strE (lat w δ).heap.size (lat w δ) A2 c2 (f.map (nth ts))) := Lib.hid (by
        have := HO.out
        rw [List.take_length] at this
        exact Slt.of_own this (by rw [List.length_map]))
      have hml : (f.map (nth ts)).length = f.length := List.length_map ..
      rw [HUS.out] at HO2 hml
      have HM := Lib.hid hml
      clear hml
      go_wp2_with (fail)
      go_ret
      refine ⟨some ⟨(lat w δ).heap.size, 0, none⟩, 1, (lat w δ).alloc (.cells #[.slice A2 f.length c2] 31), rfl, lat_def, ?_⟩
      rw [← lat_def (w := w) (W := (lat w δ).alloc (.cells #[.slice A2 f.length c2] 31))]
      have hs := Subs.one (HO2.out.wide (w' := (lat w δ).alloc (.cells #[.slice A2 f.length c2] 31)))
      rw [HM.out] at hs
      exact ⟨Nat.le_refl _, by omega, [.slice A2 f.length c2], cells_one (by go_simp) (by go_simp), hs⟩

/-- The contract of 'orders' where m more are to come. -/
def OrdC (ts : List Txt) (m : Nat) : Prop := ∀ (At : Option Addr) (ct : Nat) (f : List Nat) (A : Option Addr) (c : Nat) (B : Nat) (w : World), Le B w → Sl strE B w At ct ts → Slt 3 natE w.heap.size w A c f → f.length + m = ts.length → (∀ x ∈ f, x < ts.length) → ∀ ln : Nat, f.length = ln →
  Calls Tryd.prog 62 #[.slice At ts.length ct, .slice A ln c] w (OrdPost w (ordT ts m f))
theorem ordT_len {ts : List Txt} (h6 : ts.length ≤ 6) (m : Nat) (f : List Nat) : (ordT ts m f).length ≤ 6 ^ m := by
  unfold ordT
  rw [List.length_map]
  exact ordI_len h6 m f

set_option maxRecDepth 100000 in
set_option maxHeartbeats 8000000 in
theorem ordersS_c (ts : List Txt) (m : Nat) (h6 : ts.length ≤ 6) (IH : OrdC ts m) : OrdC ts (m + 1) := by
  intro At ct f A c B w hB h hf hfl hfb ln hln
  subst hln
  have l1 := hf.plain.len
  have l2 := h.len
  have hne : ((f.length : Int) == (ts.length : Int)) = false := by simp; omega
  have hF : Hid (ordT ts (m + 1) f = (ordK ts.length m f ts.length).map fun p => p.map (nth ts)) := Lib.hid rfl
  have hpw : 6 ^ m ≤ 7776 := by
    have : 6 ^ m ≤ 6 ^ 5 := Nat.pow_le_pow_right (by omega) (by omega)
    omega
  have hfl6 : f.length ≤ 6 := by omega
  have HFL := Lib.hid hfl
  have HIH := Lib.hid IH
  have HFB := Lib.hid hfb
  have H := Lib.hid h
  have HFF := Lib.hid hf
  clear hfl IH h hfb hf
  go_enter Tryd.func62, Tryd.ntmps62
  go_wp2_with (fail)
  go_loopg [7, 8] ts.length (fun g o i wr => ∃ (k c' : Nat) (A' : Option Addr) (cs : List Value) (L : List (List Txt)), k ≤ ts.length ∧ g = ts.length - k ∧ i = .int .i64 k ∧ Hid (L = (ordK ts.length m f k).map fun p => p.map (nth ts)) ∧ L.length ≤ k * 6 ^ m ∧ o = .slice A' L.length c' ∧ wr.ownsRow w.heap.size 31 1 (.slice A' L.length c') L.length cs ∧ Subs 9 strE wr cs L ∧ Grew w.heap.size w wr ∧ Le w.heap.size wr)
  case atStart => exact ⟨0, 0, none, [], [], Nat.zero_le _, rfl, rfl, by simp [ordK, Hid], by simp, rfl, World.ownsRow_nil _ _ _ _, Subs.nil, inferInstance, inferInstance⟩
  case round =>
    obtain ⟨k, c', A', cs, L, hk, rfl, rfl, hL, hLl, rfl, hown, hsub, i1, i2⟩ := hrel
    have i5 : Le B wr := ⟨Nat.le_trans hB.out i2.out⟩
    have i7 : Grew B w wr := ⟨⟨i1.out.1, i1.out.2.1, i1.out.2.2.1, fun b hb => i1.out.2.2.2 b (Nat.lt_of_lt_of_le hb hB.out)⟩⟩
    have HO := Lib.hid hown
    have HS := Lib.hid hsub
    clear hown hsub
    by_cases hlt' : k < ts.length
    · have hki : (k : Int) < (ts.length : Int) := by omega
      have hbd : k * 6 ^ m ≤ 50000 := by
        have := Nat.mul_le_mul (show k ≤ 6 by omega) hpw
        omega
      have hgl := ordT_len h6 m (f ++ [k])
      have hsc := Lib.hid (ordK_succ (n := ts.length) (m := m) (f := f) (j := k))
      have G2 : Hid (Sl natE wr.heap.size wr A c f) := Lib.hid (HFF.out.wide (w' := wr)).plain
      have HN : Hid (Calls Tryd.prog 81 #[.slice A f.length c, .int .i64 k] wr fun e w' => e = .returned (.bool (f.contains k)) ∧ wr = w') := Lib.hid (in_n A c f.length f k _ wr G2.out rfl (by omega))
      rcases hm : f.contains k with _ | _
      · rw [hm] at HN
        have HM := Lib.hid hm
        have hb2 : ∀ x ∈ f ++ [k], x < ts.length := by
          intro x hx
          rcases List.mem_append.1 hx with h | h
          · exact HFB.out x h
          · simp at h; omega
        have HB2 := Lib.hid hb2
        clear hm hb2
        go_wp2_with (first
          | (go_at_call 81; refine HN.out.mono ?_; rintro e w1 ⟨rfl, rfl⟩)
          | (at_builtin; (refine wpList_append_lit wr slN (.tmp 44) (.tmp 45) rfl rfl (v := .slice (some ⟨_, 0, none⟩) 0 0) (own_lit0 (by go_simp) (by go_simp)) rfl (B := wr.heap.size) (A := A) (m := f.length) (c := c) (news := f.flatMap natE) rfl (G2.out.up.2.2) (len_enc natE 1 (fun _ => rfl) f) (one_enc natE one_nat f) (by omega) (by omega) ?_); intro A1 c1 δ1 own1 hg1)
          | (at_builtin; (refine wpList_append_new wr slN (.tmp 46) (.tmp 48) rfl rfl own1 rfl rfl (by go_simp) rfl (by simp [Value.oneCell']) (by omega) (by omega) ?_); intro A2 c2 δ2 own2)
          | (go_at_call 62; (refine (HIH.out At ct (f ++ [k]) A2 c2 B _ inferInstance H.out.up (Slt.of_own (by rw [List.flatMap_append]; exact own2) (by simp)) (by have := HFL.out; simp; omega) HB2.out (f.length + 1) (by simp)).mono ?_); rintro e w1 ⟨A3, c3, δ3, rfl, rfl, hq1, hq2, cs3, hc3, hs3⟩)
          | (at_builtin; (refine wpList_append_cells w slSS (.tmp 42) (.tmp 50) rfl rfl (v := .slice A' L.length c') (n := L.length) (xs := cs) (owns_up HO.out) rfl (A := A3) (m := (ordT ts m (f ++ [k])).length) (c := c3) (news := cs3) rfl hc3 (by have := hs3.1; omega) hs3.oneCell (by omega) (by omega) ?_); intro A4 c4 δ4 own4 hg4))
        go_roundg (ts.length - (k + 1))
        case measure => omega
        case rel =>
          refine ⟨k + 1, c4, A4, cs ++ cs3, L ++ ordT ts m (f ++ [k]), by omega, rfl, by go_num, ?_, ?_, by rw [List.length_append], by rw [List.length_append]; exact own4, (HS.out.up.append hs3).grown (owns_up HO.out) hg4 (by decide), inferInstance, inferInstance⟩
          · unfold Hid
            rw [hsc.out, HM.out, hL.out, List.map_append]; rfl
          · rw [List.length_append, Nat.succ_mul]; omega
      · rw [hm] at HN
        have HM := Lib.hid hm
        clear hm
        go_wp2_with (go_at_call 81; refine HN.out.mono ?_; rintro e w1 ⟨rfl, rfl⟩)
        go_roundg (ts.length - (k + 1))
        case measure => omega
        case rel =>
          refine ⟨k + 1, c', A', cs, L, by omega, rfl, by go_num, ?_, by rw [Nat.succ_mul]; omega, rfl, HO.out, HS.out, inferInstance, inferInstance⟩
          unfold Hid
          rw [hsc.out, HM.out, hL.out, List.map_append]; simp
    · obtain rfl : k = ts.length := by omega
      have HF := Lib.hid (show ordT ts (m + 1) f = L by rw [hF.out, hL.out])
      go_wp2_with (fail)
      go_ret
      rw [HF.out]
      refine ⟨A', c', wr, rfl, lat_def, ?_⟩
      rw [← lat_def (w := w) (W := wr)]
      exact SlS.of_own HO.out HS.out rfl

theorem orders_C (ts : List Txt) (h6 : ts.length ≤ 6) (m : Nat) : OrdC ts m := by
  induction m with
  | zero =>
    intro At ct f A c B w hB h hf hl hb ln hln
    subst hln
    exact orders0_c At ct ts f A c B w h hf (by omega) h6 hb
  | succ m ih => exact ordersS_c ts m h6 ih
theorem rOrders_c (At : Option Addr) (ct : Nat) (ts : List Txt) (h6 : ts.length ≤ 6) (B : Nat) (w : World) (h : Sl strE B w At ct ts) [hB : Le B w] :
    Calls Tryd.prog 62 #[.slice At ts.length ct, .slice none 0 0] w (OrdPost w (allO ts)) :=
  orders_C ts h6 ts.length At ct [] none 0 B w hB h Slt.none_ (by simp) (fun x hx => by cases hx) 0 rfl

theorem err20_of {ts : List Txt} (h : readyT ts = true) : textsErr 20 ts = 0 := of_decide_eq_true h
/-- The fewest bytes of the first k orders, begun with the first. -/
def fewK (L : List (List Txt)) (k : Nat) : Nat := (L.take k).foldl (fun v us => min v (file us).length) (file (nth L 0)).length
theorem fewK_succ {L : List (List Txt)} {k : Nat} (hk : k < L.length) : fewK L (k + 1) = min (fewK L k) (file (nth L k)).length := by
  unfold fewK
  rw [take_snoc L hk, List.foldl_append]; rfl
theorem fewK_all {L : List (List Txt)} (h : 0 < L.length) : fewK L L.length = fewest L := by
  cases L with
  | nil => simp at h
  | cons us L =>
    unfold fewK
    rw [List.take_length]
    show List.foldl _ (min (file us).length (file us).length) L = _
    rw [Nat.min_self]; rfl
set_option maxRecDepth 100000 in
set_option maxHeartbeats 4000000 in
theorem rleast_ok_c (A : Option Addr) (c : Nat) (ts : List Txt) (hn : textsErr 6 ts = 0) (B : Nat) (w : World) (hS : Sl strE B w A c ts) [hB : Le B w] :
    Calls Tryd.prog 40 #[.slice A ts.length c] w fun e w' => e = .returned (.tuple #[.int .i64 (leastN ts : Nat), .int .i64 0]) ∧ ∃ δ, w' = lat w δ := by
  obtain ⟨h6, hall⟩ := textsErr_0 hn
  have hcl := hS.len
  have hr : readyT ts = true := by unfold readyT; rw [show textsErr 20 ts = 0 by unfold textsErr; rw [if_neg (by omega), if_pos (List.all_eq_true.2 hall)]]; rfl
  have hA : ∀ us ∈ allO ts, us.length = ts.length ∧ readyT us = true := fun us hu => ⟨(allO_perm hu).length_eq, ready_perm (allO_perm hu) hr⟩
  have HAT : Hid (Calls Tryd.prog 55 #[.slice A ts.length c] w fun e w' => e = .returned (.int .i64 0) ∧ w = w') := Lib.hid (rAreTexts_c A c ts 0 (err20_of hr) _ rfl (smallT_of hall) B w hS)
  have HOR : Hid (Calls Tryd.prog 62 #[.slice A ts.length c, .slice none 0 0] w (OrdPost w (allO ts))) := Lib.hid (rOrders_c A c ts h6 B w hS)
  have hne := allO_ne ts
  have hll : (allO ts).length ≤ 46656 := by
    have h1 := ordT_len h6 ts.length []
    have h2 : 6 ^ ts.length ≤ 6 ^ 6 := Nat.pow_le_pow_right (by omega) h6
    have h3 : (6 : Nat) ^ 6 = 46656 := rfl
    unfold allO
    omega
  rw [← fewest_least, ← fewK_all hne]
  obtain ⟨L, hL⟩ : ∃ L, allO ts = L := ⟨_, rfl⟩
  rw [hL] at HOR hne hll hA
  rw [hL]
  have HRO : Hid (∀ k, k < L.length → ∀ (A : Option Addr) (c : Nat) (W : World), Sl strE W.heap.size W A c (nth L k) → Calls Tryd.prog 61 #[.slice A ts.length c] W fun e w' => e = .returned (.string (str (bytesL (rows [] (nth L k))))) ∧ ∃ δ, w' = lat W δ) := Lib.hid (fun k hk A c W h => by
    obtain ⟨h1, h2⟩ := hA _ (nth_mem L hk)
    exact rRowsOf_c A c _ _ h1 (ready_yes h2).2 (ready_yes h2).1 _ W h)
  have HSE : Hid (∀ k, k < L.length → ∀ W, Calls Tryd.prog 47 #[.string (str (bytesL (rows [] (nth L k))))] W fun e w' => e = .returned (.string (str (file (nth L k)))) ∧ ∃ δ, w' = lat W δ) := Lib.hid (fun k hk W => by
    obtain ⟨h1, h2⟩ := hA _ (nth_mem L hk)
    exact rSealed_c _ _ (lst_str _) (by
      rw [size_str]
      have := bytes_len (a := []) (ready_yes h2).2
      have := (ready_yes h2).1
      omega) W)
  have HLN : Hid (∀ k (hk : k < L.length), L[k].length = ts.length ∧ L[k] = nth L k) := Lib.hid (fun k hk => ⟨(hA _ (List.getElem_mem hk)).1, (nth_get _ hk).symm⟩)
  have h6' : ¬ (6 : Int) < (ts.length : Int) := by omega
  clear hn hS hall hr hA hL
  go_enter Tryd.func40, Tryd.ntmps40
  go_upto_region 7 with (first
    | (go_at_call 55; refine HAT.out.mono ?_; rintro e w1 ⟨rfl, rfl⟩)
    | (go_at_call 62; refine HOR.out.mono ?_; rintro e w1 ⟨A1, c1, δ1, rfl, rfl, hSS⟩))
  have HSS := Lib.hid hSS
  have hcl2 := hSS.1
  obtain ⟨b, o, A2, c2, rfl, hb, d0, hs0⟩ := hSS.at_ hne
  rw [(HLN.out 0 hne).1] at d0
  rw [(HLN.out 0 hne).2] at hs0
  have HS0 := Lib.hid hs0.plain
  have ib : Lt b (lat w δ1) := ⟨hb⟩
  have HR0 := Lib.hid (HRO.out 0 hne)
  have HE0 := Lib.hid (HSE.out 0 hne)
  have hL0 : (0 : Int) < (L.length : Int) := by omega
  rw [Nat.add_zero] at d0
  obtain ⟨f0, hf0⟩ : ∃ f, file (nth L 0) = f := ⟨_, rfl⟩
  rw [hf0] at HE0
  have HF0 : Hid (fewK L 0 = f0.length) := Lib.hid (by unfold fewK; rw [List.take_zero, hf0]; rfl)
  clear hf0 hs0 hSS
  go_wp2_with (first
    | (go_at_call 61; refine (HR0.out A2 c2 _ (Sl.wide HS0.out)).mono ?_; rintro e w1 ⟨rfl, δ2, rfl⟩)
    | (go_at_call 47; refine (HE0.out _).mono ?_; rintro e w1 ⟨rfl, δ3, rfl⟩))
  go_loopg [6, 7] L.length (fun g v i wr => ∃ (k : Nat) (δ : World), k ≤ L.length ∧ g = L.length - k ∧ v = .int .i64 (fewK L k : Nat) ∧ i = .int .i64 k ∧ wr = lat (lat w δ1) δ)
  case atStart => exact ⟨0, lat (lat (lat w δ1) δ2) δ3, Nat.zero_le _, rfl, by rw [HF0.out], rfl, lat_def⟩
  case round =>
    obtain ⟨k, δ, hk, rfl, rfl, rfl, rfl⟩ := hrel
    by_cases hlt : k < L.length
    · obtain ⟨b', o', A3, c3, he, hb', d1, hs1⟩ := HSS.out.at_ hlt
      injection he with he
      injection he with he1 he2
      subst he1 he2
      rw [(HLN.out k hlt).1] at d1
      rw [(HLN.out k hlt).2] at hs1
      have HS1 := Lib.hid hs1.plain
      have HR1 := Lib.hid (HRO.out k hlt)
      have HE1 := Lib.hid (HSE.out k hlt)
      have HK := Lib.hid (fewK_succ hlt)
      obtain ⟨f1, hf1⟩ : ∃ f, file (nth L k) = f := ⟨_, rfl⟩
      rw [hf1] at HE1 HK
      have hmin : min ((fewK L k : Nat) : Int) ((f1.length : Nat) : Int) = ((min (fewK L k) f1.length : Nat) : Int) := by omega
      have hki : (k : Int) < (L.length : Int) := by omega
      have hk0 : ¬ (k : Int) < 0 := by omega
      clear hf1 hs1
      go_wp2_with (first
        | (go_at_call 61; refine (HR1.out A3 c3 _ (Sl.wide HS1.out)).mono ?_; rintro e w1 ⟨rfl, δ2, rfl⟩)
        | (go_at_call 47; refine (HE1.out _).mono ?_; rintro e w1 ⟨rfl, δ3, rfl⟩))
      go_roundg (L.length - (k + 1))
      case measure => omega
      case rel => exact ⟨k + 1, _, hlt, rfl, by rw [HK.out], by go_num, lat_def⟩
    · obtain rfl : k = L.length := by omega
      go_wp2_with (fail)
      go_ret2
      exact ⟨rfl, lat_ex⟩
end Go.Proofs.YtjamemjmdlkpcaaDoor
