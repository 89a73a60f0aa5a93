/- Season: the law's own helpers: SameTexts, SameRows, Long, ready, written, refused, Within. -/
import Derived.Test.YtjamemjmdlkpcaaDoorSe30
import Derived.Test.YtjamemjmdlkpcaaDoorSe33
namespace Go.Proofs.YtjamemjmdlkpcaaDoor
open Go.RowKit
open Se

theorem within_is (n low high : Int) (b : Bool) (hb : inB low high n = b) (w : World) :
    Calls Tryd.prog 27 #[.int .i64 n, .int .i64 low, .int .i64 high] w fun e w' => e = .returned (.bool b) ∧ w = w' := by
  subst hb
  by_cases h1 : low ≤ n
  · by_cases h2 : n ≤ high
    · have hb : Hid (inB low high n = true) := Lib.hid (inB_iff.2 ⟨h1, h2⟩)
      go_enter Tryd.func27, Tryd.ntmps27
      go_wp2
      go_ret
      exact ⟨ret_bool hb.out.symm, rfl⟩
    · have hb : Hid (inB low high n = false) := Lib.hid (inB_not.2 (fun h => h2 h.2))
      go_enter Tryd.func27, Tryd.ntmps27
      go_wp2
      go_ret
      exact ⟨ret_bool hb.out.symm, rfl⟩
  · have hb : Hid (inB low high n = false) := Lib.hid (inB_not.2 (fun h => h1 h.1))
    go_enter Tryd.func27, Tryd.ntmps27
    go_wp2
    go_ret
    exact ⟨ret_bool hb.out.symm, rfl⟩

theorem take_ne {α : Type} [DecidableEq α] [Inhabited α] {xs ys : List α} {k : Nat} (_h1 : k < xs.length) (_h2 : k < ys.length) (hne : nth xs k ≠ nth ys k) : decide (xs = ys) = false := by
  rw [decide_eq_false_iff_not]
  intro h
  subst h
  exact hne rfl
theorem take_next {α : Type} [Inhabited α] {xs ys : List α} {k : Nat} (h1 : k < xs.length) (h2 : k < ys.length) (h : xs.take k = ys.take k) (he : nth xs k = nth ys k) : xs.take (k + 1) = ys.take (k + 1) := by
  rw [take_snoc _ h1, take_snoc _ h2, h, he]
theorem same_c (A A' : Option Addr) (c c' : Nat) (ts us : List Txt) (ln ln' : Nat) (hl : ts.length = ln) (hl' : us.length = ln') (B : Nat) (w : World) (hS : Sl strE B w A c ts) (hS' : Sl strE B w A' c' us) [hB : Le B w] :
    Calls Tryd.prog 23 #[.slice A ln c, .slice A' ln' c'] w fun e w' => e = .returned (.bool (decide (ts = us))) ∧ ∃ δ, w' = lat w δ := by
  have HS := Lib.hid hS
  have HS' := Lib.hid hS'
  have hcl := hS.len
  have hcl' := hS'.len
  clear hS hS'
  by_cases hn : ts.length = us.length
  · have HN := Lib.hid hn
    have hn2 : ((us.length : Int) != (us.length : Int)) = false := by simp
    obtain rfl : ln = us.length := by omega
    subst hl'
    have HL := Lib.hid hl
    clear hl hn
    go_enter Tryd.func23, Tryd.ntmps23
    go_wp2
    go_loopg [5] us.length (fun g i wr => ∃ (k : Nat) (δ : World), k ≤ us.length ∧ g = us.length - k ∧ i = .int .i64 k ∧ Hid (ts.take k = us.take k) ∧ wr = lat w δ)
    case atStart => exact ⟨0, w, Nat.zero_le _, rfl, rfl, rfl, (lat_refl w).symm⟩
    case round =>
      obtain ⟨k, δ, hk, rfl, rfl, HK, rfl⟩ := hrel
      by_cases hlt : k < us.length
      · have hlt0 : k < ts.length := by have := HN.out; omega
        obtain ⟨b, o, rfl, hb, d0⟩ := HS.out.txt hlt0
        obtain ⟨b', o', rfl, hb', d0'⟩ := HS'.out.txt hlt
        have ib : Lt b w := ⟨Nat.lt_of_lt_of_le hb hB.out⟩
        have ib' : Lt b' w := ⟨Nat.lt_of_lt_of_le hb' hB.out⟩
        have hki : (k : Int) < (us.length : Int) := by omega
        have hk0 : ¬ (k : Int) < 0 := by omega
        have hq := str_beq (nth ts k) (nth us k)
        by_cases he : nth ts k = nth us k
        · rw [decide_eq_true he] at hq
          have HK2 := Lib.hid (take_next hlt0 hlt HK.out he)
          clear he hlt0
          go_wp2
          refine wp_region_lat (by kernel_rfl) (by kernel_rfl) ?_
          repeat (go_big_quiet_step ((first | (fail))))
          refine wpQuiet_nil ?_
          rintro _ ⟨δq, rfl⟩
          go_wp2
          go_roundg (us.length - (k + 1))
          case measure => omega
          case rel => exact ⟨k + 1, _, hlt, rfl, by go_num, HK2, lat_def⟩
        · rw [decide_eq_false he] at hq
          have HF := Lib.hid (take_ne hlt0 hlt he)
          clear he hlt0
          go_wp2
          refine wp_region_lat (by kernel_rfl) (by kernel_rfl) ?_
          repeat (go_big_quiet_step ((first | (fail))))
          refine wpQuiet_nil ?_
          rintro _ ⟨δq, rfl⟩
          go_wp2
          go_ret
          exact ⟨ret_bool HF.out.symm, lat_ex⟩
      · obtain rfl : k = us.length := by omega
        have HE : Hid (decide (ts = us) = true) := Lib.hid (by
          have h := HK.out
          rw [List.take_length, ← HN.out, List.take_length] at h
          exact decide_eq_true h)
        go_wp2
        go_ret
        exact ⟨ret_bool HE.out.symm, lat_ex⟩
  · have HF : Hid (decide (ts = us) = false) := Lib.hid (decide_eq_false (fun h => hn (by rw [h])))
    have hn2 : ((ln : Int) != (ln' : Int)) = true := by simp; omega
    clear hn
    go_enter Tryd.func23, Tryd.ntmps23
    go_wp2
    go_ret
    exact ⟨ret_bool HF.out.symm, lat_ex⟩
theorem row_ext {x y : Row} : x = y ↔ x.pre = y.pre ∧ x.suf = y.suf ∧ (str x.mid).data.toList = (str y.mid).data.toList := by
  obtain ⟨a, b, c⟩ := x
  obtain ⟨a', b', c'⟩ := y
  simp only [Row.mk.injEq, lst_str]
theorem sameRows_c (A A' : Option Addr) (c c' : Nat) (ts us : List Row) (ln ln' : Nat) (hl : ts.length = ln) (hl' : us.length = ln') (B : Nat) (w : World) (hS : Sl rowE B w A c ts) (hS' : Sl rowE B w A' c' us) [hB : Le B w] :
    Calls Tryd.prog 34 #[.slice A ln c, .slice A' ln' c'] w fun e w' => e = .returned (.bool (decide (ts = us))) ∧ ∃ δ, w' = lat w δ := by
  have HS := Lib.hid hS
  have HS' := Lib.hid hS'
  have hcl := hS.len
  have hcl' := hS'.len
  clear hS hS'
  by_cases hn : ts.length = us.length
  · have HN := Lib.hid hn
    have hn2 : ((us.length : Int) != (us.length : Int)) = false := by simp
    obtain rfl : ln = us.length := by omega
    subst hl'
    have HL := Lib.hid hl
    clear hl hn
    go_enter Tryd.func34, Tryd.ntmps34
    go_wp2
    go_loopg [5] us.length (fun g i wr => ∃ (k : Nat) (δ : World), k ≤ us.length ∧ g = us.length - k ∧ i = .int .i64 k ∧ Hid (ts.take k = us.take k) ∧ wr = lat w δ)
    case atStart => exact ⟨0, w, Nat.zero_le _, rfl, rfl, rfl, (lat_refl w).symm⟩
    case round =>
      obtain ⟨k, δ, hk, rfl, rfl, HK, rfl⟩ := hrel
      by_cases hlt : k < us.length
      · have hlt0 : k < ts.length := by have := HN.out; omega
        obtain ⟨b, o, rfl, hb, d0, d1, d2⟩ := HS.out.row hlt0
        obtain ⟨b', o', rfl, hb', e0, e1, e2⟩ := HS'.out.row hlt
        have ib : Lt b w := ⟨Nat.lt_of_lt_of_le hb hB.out⟩
        have ib' : Lt b' w := ⟨Nat.lt_of_lt_of_le hb' hB.out⟩
        have hki : (k : Int) < (us.length : Int) := by omega
        have hk0 : ¬ (k : Int) < 0 := by omega
        have hq := fun W => neq_row (decide (nth ts k = nth us k)) (nth ts k).pre (nth ts k).suf (nth us k).pre (nth us k).suf (str (nth ts k).mid) (str (nth us k).mid) (by rw [decide_eq_decide]; exact row_ext.symm) W
        by_cases he : nth ts k = nth us k
        · rw [decide_eq_true he] at hq
          have HK2 := Lib.hid (take_next hlt0 hlt HK.out he)
          clear he hlt0
          go_wp2
          refine wp_region_lat (by kernel_rfl) (by kernel_rfl) ?_
          repeat (go_big_quiet_step ((first | (fail))))
          refine wpQuiet_nil ?_
          rintro _ ⟨δq, rfl⟩
          go_wp2
          go_roundg (us.length - (k + 1))
          case measure => omega
          case rel => exact ⟨k + 1, _, hlt, rfl, by go_num, HK2, lat_def⟩
        · rw [decide_eq_false he] at hq
          have HF := Lib.hid (take_ne hlt0 hlt he)
          clear he hlt0
          go_wp2
          refine wp_region_lat (by kernel_rfl) (by kernel_rfl) ?_
          repeat (go_big_quiet_step ((first | (fail))))
          refine wpQuiet_nil ?_
          rintro _ ⟨δq, rfl⟩
          go_wp2
          go_ret
          exact ⟨ret_bool HF.out.symm, lat_ex⟩
      · obtain rfl : k = us.length := by omega
        have HE : Hid (decide (ts = us) = true) := Lib.hid (by
          have h := HK.out
          rw [List.take_length, ← HN.out, List.take_length] at h
          exact decide_eq_true h)
        go_wp2
        go_ret
        exact ⟨ret_bool HE.out.symm, lat_ex⟩
  · have HF : Hid (decide (ts = us) = false) := Lib.hid (decide_eq_false (fun h => hn (by rw [h])))
    have hn2 : ((ln : Int) != (ln' : Int)) = true := by simp; omega
    clear hn
    go_enter Tryd.func34, Tryd.ntmps34
    go_wp2
    go_ret
    exact ⟨ret_bool HF.out.symm, lat_ex⟩

/-- Are texts far too many, or far too long? -/
def longT (ts : List Txt) : Bool := decide (60 < ts.length) || ts.any fun t => decide (200 < t.length)
theorem long_no {ts : List Txt} (h : longT ts = false) : ts.length ≤ 60 ∧ ∀ t ∈ ts, t.length ≤ 200 := by
  unfold longT at h
  rw [Bool.or_eq_false_iff, decide_eq_false_iff_not, List.any_eq_false] at h
  exact ⟨by omega, fun t ht => by have := h.2 t ht; simp at this; exact this⟩
theorem long_any {ts : List Txt} {k : Nat} (hk : k < ts.length) (h : 200 < (nth ts k).length) : longT ts = true := by
  unfold longT
  rw [Bool.or_eq_true, List.any_eq_true]
  exact .inr ⟨_, nth_mem _ hk, decide_eq_true h⟩
theorem long_c (A : Option Addr) (c : Nat) (ts : List Txt) (b : Bool) (hb : longT ts = b) (ln : Nat) (hl : ts.length = ln) (B : Nat) (w : World) (hS : Sl strE B w A c ts) [hB : Le B w] :
    Calls Tryd.prog 35 #[.slice A ln c] w fun e w' => e = .returned (.bool b) ∧ w = w' := by
  subst hl
  have HS := Lib.hid hS
  have HB := Lib.hid hb
  have hcl := hS.len
  clear hS hb
  by_cases h60 : 60 < ts.length
  · have HT : Hid (longT ts = true) := Lib.hid (by unfold longT; rw [decide_eq_true h60]; rfl)
    have h60' : (60 : Int) < (ts.length : Int) := by omega
    go_enter Tryd.func35, Tryd.ntmps35
    go_wp2
    go_ret
    exact ⟨ret_bool (by rw [← HB.out, HT.out]), rfl⟩
  · have h60' : (ts.length : Int) ≤ 60 := by omega
    have h60n := Lib.hid h60
    clear h60
    go_enter Tryd.func35, Tryd.ntmps35
    go_wp2
    go_loop [3] (fun i => ∃ k : Nat, k ≤ ts.length ∧ i = .int .i64 k ∧ Hid (∀ j, j < k → (nth ts j).length ≤ 200)) (fun i => ts.length - (intOf i).toNat)
    case atStart => exact ⟨0, Nat.zero_le _, rfl, fun j hj => by omega⟩
    case round =>
      obtain ⟨k, hk, rfl, HK⟩ := hrel
      by_cases hlt : k < ts.length
      · obtain ⟨b0, o, rfl, hb0, d0⟩ := HS.out.txt hlt
        have ib : Lt b0 w := ⟨Nat.lt_of_lt_of_le hb0 hB.out⟩
        have hki : (k : Int) < (ts.length : Int) := by omega
        have hk0 : ¬ (k : Int) < 0 := by omega
        by_cases h2 : 200 < (nth ts k).length
        · have HT := Lib.hid (long_any hlt h2)
          have h2' : (200 : Int) < ((nth ts k).length : Int) := by omega
          go_wp2
          go_ret
          exact ⟨ret_bool (by rw [← HB.out, HT.out]), rfl⟩
        · have h2' : ((nth ts k).length : Int) ≤ 200 := by omega
          have HK2 : Hid (∀ j, j < k + 1 → (nth ts j).length ≤ 200) := Lib.hid (fun j hj => by
            by_cases hjk : j = k
            · subst hjk; omega
            · exact HK.out j (by omega))
          clear h2
          go_wp2
          go_round
          case rel => exact ⟨k + 1, hlt, by go_num, HK2⟩
          case measure => simp [intOf]; omega
      · obtain rfl : k = ts.length := by omega
        have HF : Hid (longT ts = false) := Lib.hid (by
          unfold longT
          rw [Bool.or_eq_false_iff, List.any_eq_false]
          refine ⟨decide_eq_false h60n.out, fun t ht => ?_⟩
          obtain ⟨j, hj, he⟩ := List.getElem_of_mem ht
          have h3 := HK.out j hj
          rw [nth_get _ hj, he] at h3
          simp; exact h3)
        go_wp2
        go_ret
        exact ⟨ret_bool (by rw [← HB.out, HF.out]), rfl⟩
/-- Are texts ones that a file can have? -/
def readyT (ts : List Txt) : Bool := decide (textsErr 20 ts = 0)
theorem ready_yes {ts : List Txt} (h : readyT ts = true) : ts.length ≤ 20 ∧ allT ts := textsErr_0 (of_decide_eq_true h)
theorem small_ready {ts : List Txt} (h : ts.length ≤ 60 ∧ ∀ t ∈ ts, t.length ≤ 200) : smallT ts := fun t ht => by have := h.2 t ht; omega
theorem readyT_long {ts : List Txt} (h : longT ts = true) : readyT ts = false := by
  cases hr : readyT ts with
  | false => rfl
  | true =>
    obtain ⟨h1, h2⟩ := ready_yes hr
    unfold longT at h
    rw [Bool.or_eq_true, List.any_eq_true] at h
    rcases h with h | ⟨t, ht, h⟩
    · have := of_decide_eq_true h; omega
    · have := of_decide_eq_true h
      have := (isText_iff.1 (h2 t ht)).2
      omega
theorem ready_c (A : Option Addr) (c : Nat) (ts : List Txt) (b : Bool) (hb : readyT ts = b) (ln : Nat) (hl : ts.length = ln) (B : Nat) (w : World) (hS : Sl strE B w A c ts) [hB : Le B w] :
    Calls Tryd.prog 20 #[.slice A ln c] w fun e w' => e = .returned (.bool b) ∧ w = w' := by
  have HS := Lib.hid hS
  have HL := Lib.hid hl
  have HB := Lib.hid hb
  clear hS hl hb
  rcases hg : longT ts with _ | _
  · have HG := Lib.hid hg
    have HZ := Lib.hid (small_ready (long_no hg))
    obtain ⟨n, hn⟩ : ∃ n, textsErr 20 ts = n := ⟨_, rfl⟩
    have HN := Lib.hid hn
    have HD : Hid (b = decide (n = 0)) := Lib.hid (by rw [← HB.out, ← hn]; rfl)
    by_cases h0 : n = 0
    · have hd2 : (n == 0) = true := by simpa using h0
      have HE : Hid (b = true) := Lib.hid (by rw [HD.out]; exact decide_eq_true h0)
      clear hg hn h0
      go_enter Tryd.func20, Tryd.ntmps20
      go_wp2_with (first
        | (go_at_call 35; refine (long_c A c ts false HG.out _ HL.out B _ HS.out.up).mono ?_; rintro e w1 ⟨rfl, rfl⟩)
        | (go_at_call 55; refine (rAreTexts_c A c ts n HN.out _ HL.out HZ.out B _ HS.out.up).mono ?_; rintro e w1 ⟨rfl, rfl⟩))
      go_ret
      exact ⟨ret_bool HE.out.symm, rfl⟩
    · have hd2 : (n == 0) = false := by simpa using h0
      have HE : Hid (b = false) := Lib.hid (by rw [HD.out]; exact decide_eq_false h0)
      clear hg hn h0
      go_enter Tryd.func20, Tryd.ntmps20
      go_wp2_with (first
        | (go_at_call 35; refine (long_c A c ts false HG.out _ HL.out B _ HS.out.up).mono ?_; rintro e w1 ⟨rfl, rfl⟩)
        | (go_at_call 55; refine (rAreTexts_c A c ts n HN.out _ HL.out HZ.out B _ HS.out.up).mono ?_; rintro e w1 ⟨rfl, rfl⟩))
      go_ret
      exact ⟨ret_bool HE.out.symm, rfl⟩
  · have HG := Lib.hid hg
    have HE : Hid (b = false) := Lib.hid (by rw [← HB.out]; exact readyT_long hg)
    clear hg
    go_enter Tryd.func20, Tryd.ntmps20
    go_wp2_with (go_at_call 35; refine (long_c A c ts true HG.out _ HL.out B _ HS.out.up).mono ?_; rintro e w1 ⟨rfl, rfl⟩)
    go_ret
    exact ⟨ret_bool HE.out.symm, rfl⟩
end Go.Proofs.YtjamemjmdlkpcaaDoor
