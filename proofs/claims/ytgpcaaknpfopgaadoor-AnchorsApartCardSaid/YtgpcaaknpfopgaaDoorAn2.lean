/- Layer 2: the walks of the program's Check, and of what it calls. -/
import Derived.Test.YtgpcaaknpfopgaaDoorAn1
namespace Go.Proofs.YtgpcaaknpfopgaaDoor
open Go.RowKit
open An

theorem Sl_lit {α : Type} {enc : α → List Value} {W : World} (xs : List α) {T : TypeId} {b c : Nat} {cs : Array Value} (hb : b = W.heap.size) (hn : xs.length ≤ c) (hc : c ≤ 9223372036854775807) (hcs : cs.toList = xs.flatMap enc) : Sl enc (b + 1) (W.alloc (.cells cs T)) (some ⟨b, 0, none⟩) c xs := by
  refine ⟨hn, hc, fun _ => ⟨_, _, rfl, by omega, fun j v hj => ?_⟩⟩
  rw [World.cell?_alloc_at _ _ _ _ hb, ← Array.getElem?_toList, hcs]
  simpa using hj

theorem inside_c (most : Int) (A : Option Addr) (c : Nat) (xs : List Int) (B : Nat) (w : World) (h : Sl encI B w A c xs) [hB : Le B w] :
    Calls Tryd.prog 86 #[.int .i64 most, .slice A xs.length c] w fun e w' => e = .returned (.bool (allB most xs)) ∧ ∃ δ, w' = lat w δ := by
  go_enter Tryd.func86, Tryd.ntmps86
  go_wp2_with (first | (go_at_call 110; go_in) | (go_at_call 117; refine (indexFunc_c most _ _ _ _ B _ h.up (by go_simp)).mono ?_; rintro e w1 ⟨⟨n, rfl, hn⟩, rfl⟩))
  go_ret
  exact ⟨ret_bool (by simp), lat_ex⟩

/-- .. at a slice that was written out at the call. -/
theorem insideL_c (most : Int) (b k : Nat) (arr : Array Value) (T : TypeId) (W : World) (hb : b = W.heap.size) (hk : arr.size = k) (hs : k ≤ 100) (harr : arr.toList = (arr.toList.map intOf).flatMap encI) :
    Calls Tryd.prog 86 #[.int .i64 most, .slice (some ⟨b, 0, none⟩) k k] (W.alloc (.cells arr T)) fun e w' => e = .returned (.bool (allB most (arr.toList.map intOf))) ∧ ∃ δ, w' = lat (W.alloc (.cells arr T)) δ := by
  have hl : (arr.toList.map intOf).length = k := by simpa using hk
  have hS : Sl encI (b + 1) (W.alloc (.cells arr T)) (some ⟨b, 0, none⟩) k (arr.toList.map intOf) := Sl_lit _ hb (by omega) (by omega) harr
  have hB : Le (b + 1) (W.alloc (.cells arr T)) := ⟨by subst hb; simp⟩
  have := inside_c most (some ⟨b, 0, none⟩) k (arr.toList.map intOf) (b + 1) _ hS
  rw [hl] at this
  exact this

theorem isSpan_c (s : Sp) (m : Int) (w : World) :
    Calls Tryd.prog 81 #[.agg #[.int .i64 s.lo, .int .i64 s.hi], .int .i64 m] w fun e w' => e = .returned (.bool (okSp m s)) ∧ ∃ δ, w' = lat w δ := by
  go_enter Tryd.func81, Tryd.ntmps81
  go_wp2_with (go_at_call 86; refine (insideL_c _ _ _ _ _ _ (by go_simp) (by rfl) (by omega) (by rfl)).mono ?_; rintro e w1 ⟨rfl, δ, rfl⟩)
  all_goals
    go_ret
    exact ⟨ret_bool (by rw [Bool.eq_iff_iff]; simp [allB, inB, intOf, okSp] at *; omega), lat_ex⟩

theorem check1_c (s : Sp) (w : World) :
    Calls Tryd.prog 83 #[.agg #[.int .i64 s.lo, .int .i64 s.hi]] w fun e w' => e = .returned (.bool (okSp 9 s)) ∧ ∃ δ, w' = lat w δ := by
  go_enter Tryd.func83, Tryd.ntmps83
  go_wp2_with (go_at_call 81; refine (isSpan_c s 9 _).mono ?_; rintro e w1 ⟨rfl, δ, rfl⟩)
  go_ret
  exact ⟨rfl, lat_ex⟩

theorem check2_c (a : Anc) (b g : Nat) (gA : Option Addr) (gc : Nat) (w : World) [hb : Lt b w] (hg : g ≤ 9223372036854775807) (hc : w.cell? ⟨b, 4, none⟩ = some (.slice gA g gc)) :
    Calls Tryd.prog 85 #[.agg #[.int .i64 a.wt, .int .i64 a.bt], .pointer (some ⟨b, 0, none⟩)] w fun e w' => e = .returned (.bool (okAnc g a)) ∧ ∃ δ, w' = lat w δ := by
  go_enter Tryd.func85, Tryd.ntmps85
  go_wp2_with (go_at_call 86; refine (insideL_c _ _ _ _ _ _ (by go_simp) (by rfl) (by omega) (by rfl)).mono ?_; rintro e w1 ⟨rfl, δ, rfl⟩)
  all_goals
    go_ret
    exact ⟨ret_bool (by rw [Bool.eq_iff_iff]; simp [allB, inB, intOf, okAnc] at *; omega), lat_ex⟩

theorem check3_c (x : Wal) (w : World) :
    Calls Tryd.prog 88 #[.agg #[.int .i64 x.sail, .int .i64 x.drag, .int .i64 x.lean, .int .i64 x.corks, .int .i64 x.stones]] w fun e w' => e = .returned (.bool (okWal x)) ∧ ∃ δ, w' = lat w δ := by
  go_enter Tryd.func88, Tryd.ntmps88
  go_wp2_with (go_at_call 86; refine (insideL_c _ _ _ _ _ _ (by go_simp) (by rfl) (by omega) (by rfl)).mono ?_; rintro e w1 ⟨rfl, δ, rfl⟩)
  all_goals
    go_ret
    exact ⟨ret_bool (by rw [Bool.eq_iff_iff]; simp [allB, inB, intOf, okWal] at *; omega), lat_ex⟩

theorem everySp_c (A : Option Addr) (ln c : Nat) (xs : List Sp) (B : Nat) (w : World) (h : Sl encSp B w A c xs) (hn : xs.length = ln) [hB : Le B w] :
    Calls Tryd.prog 82 #[.slice A ln c, .func (.func 83) #[] #[]] w fun e w' => e = .returned (.bool (okSps xs)) ∧ ∃ δ, w' = lat w δ := by
  subst hn
  have hl := h.len
  go_enter Tryd.func82, Tryd.ntmps82
  go_wp2
  go_loopw [9] (fun i wr => ∃ (k : Nat) (δ : World), k ≤ xs.length ∧ i = .int .i64 k ∧ Hid ((xs.take k).all (okSp 9) = true) ∧ wr = lat w δ) (fun i _ => xs.length - (intOf i).toNat)
  case atStart => exact ⟨0, w, Nat.zero_le _, rfl, by simp [Hid], (lat_refl w).symm⟩
  case round =>
    obtain ⟨k, δ, hk, rfl, hn, rfl⟩ := hrel
    by_cases hlt : k < xs.length
    · obtain ⟨b', o, rfl, hb, hc0, hc1⟩ := h.sp hlt
      have hb' : Lt b' w := ⟨Nat.lt_of_lt_of_le hb hB.out⟩
      have hm := Lib.hid (nth_mem xs hlt)
      have ht := Lib.hid (take_snoc xs hlt)
      by_cases he : okSp 9 (nth xs k) = true
      · go_wp2_with (go_at_call 83; refine (check1_c (nth xs k) _).mono ?_; rintro e w1 ⟨rfl, δ1, rfl⟩)
        go_roundw
        case rel =>
          refine ⟨k + 1, _, by omega, by go_num, ?_, lat_def⟩
          unfold Hid
          rw [ht.out, List.all_append, hn.out]
          simp [he]
        case measure => simp [intOf]; omega
      · rw [Bool.not_eq_true] at he
        go_wp2_with (go_at_call 83; refine (check1_c (nth xs k) _).mono ?_; rintro e w1 ⟨rfl, δ1, rfl⟩)
        go_ret
        refine ⟨ret_bool ?_, lat_ex⟩
        have : okSps xs = false := by
          rw [okSps, List.all_eq_false]
          exact ⟨_, hm.out, by simp [he]⟩
        exact this.symm
    · obtain rfl : k = xs.length := by omega
      go_wp2
      go_ret
      refine ⟨ret_bool ?_, lat_ex⟩
      have := hn.out
      rw [List.take_length] at this
      exact this.symm

theorem everyAnc_c (A : Option Addr) (ln c : Nat) (xs : List Anc) (bx g : Nat) (gA : Option Addr) (gc : Nat) (B : Nat) (w : World) (h : Sl encAnc B w A c xs) (hn : xs.length = ln) [hB : Le B w] [hx : Lt bx w] (hg : g ≤ 9223372036854775807) (hcx : w.cell? ⟨bx, 4, none⟩ = some (.slice gA g gc)) :
    Calls Tryd.prog 84 #[.slice A ln c, .func (.func 85) #[] #[.pointer (some ⟨bx, 0, none⟩)]] w fun e w' => e = .returned (.bool (okAncl g xs)) ∧ ∃ δ, w' = lat w δ := by
  subst hn
  have hl := h.len
  go_enter Tryd.func84, Tryd.ntmps84
  go_wp2
  go_loopw [9] (fun i wr => ∃ (k : Nat) (δ : World), k ≤ xs.length ∧ i = .int .i64 k ∧ Hid ((xs.take k).all (okAnc g) = true) ∧ wr = lat w δ) (fun i _ => xs.length - (intOf i).toNat)
  case atStart => exact ⟨0, w, Nat.zero_le _, rfl, by simp [Hid], (lat_refl w).symm⟩
  case round =>
    obtain ⟨k, δ, hk, rfl, hn, rfl⟩ := hrel
    by_cases hlt : k < xs.length
    · obtain ⟨b', o, rfl, hb, hc0, hc1⟩ := h.anc hlt
      have hb' : Lt b' w := ⟨Nat.lt_of_lt_of_le hb hB.out⟩
      have hm := Lib.hid (nth_mem xs hlt)
      have ht := Lib.hid (take_snoc xs hlt)
      by_cases he : okAnc g (nth xs k) = true
      · go_wp2_with (go_at_call 85; refine (check2_c (nth xs k) bx g gA gc _ hg (by go_simp)).mono ?_; rintro e w1 ⟨rfl, δ1, rfl⟩)
        go_roundw
        case rel =>
          refine ⟨k + 1, _, by omega, by go_num, ?_, lat_def⟩
          unfold Hid
          rw [ht.out, List.all_append, hn.out]
          simp [he]
        case measure => simp [intOf]; omega
      · rw [Bool.not_eq_true] at he
        go_wp2_with (go_at_call 85; refine (check2_c (nth xs k) bx g gA gc _ hg (by go_simp)).mono ?_; rintro e w1 ⟨rfl, δ1, rfl⟩)
        go_ret
        refine ⟨ret_bool ?_, lat_ex⟩
        have : okAncl g xs = false := by
          rw [okAncl, List.all_eq_false]
          exact ⟨_, hm.out, by simp [he]⟩
        exact this.symm
    · obtain rfl : k = xs.length := by omega
      go_wp2
      go_ret
      refine ⟨ret_bool ?_, lat_ex⟩
      have := hn.out
      rw [List.take_length] at this
      exact this.symm

theorem everyWal_c (A : Option Addr) (ln c : Nat) (xs : List Wal) (B : Nat) (w : World) (h : Sl encWal B w A c xs) (hn : xs.length = ln) [hB : Le B w] :
    Calls Tryd.prog 87 #[.slice A ln c, .func (.func 88) #[] #[]] w fun e w' => e = .returned (.bool (okWall xs)) ∧ ∃ δ, w' = lat w δ := by
  subst hn
  have hl := h.len
  go_enter Tryd.func87, Tryd.ntmps87
  go_wp2
  go_loopw [9] (fun i wr => ∃ (k : Nat) (δ : World), k ≤ xs.length ∧ i = .int .i64 k ∧ Hid ((xs.take k).all okWal = true) ∧ wr = lat w δ) (fun i _ => xs.length - (intOf i).toNat)
  case atStart => exact ⟨0, w, Nat.zero_le _, rfl, by simp [Hid], (lat_refl w).symm⟩
  case round =>
    obtain ⟨k, δ, hk, rfl, hn, rfl⟩ := hrel
    by_cases hlt : k < xs.length
    · obtain ⟨b', o, rfl, hb, hc0, hc1, hc2, hc3, hc4⟩ := h.wal hlt
      have hb' : Lt b' w := ⟨Nat.lt_of_lt_of_le hb hB.out⟩
      have hm := Lib.hid (nth_mem xs hlt)
      have ht := Lib.hid (take_snoc xs hlt)
      by_cases he : okWal (nth xs k) = true
      · go_wp2_with (go_at_call 88; refine (check3_c (nth xs k) _).mono ?_; rintro e w1 ⟨rfl, δ1, rfl⟩)
        go_roundw
        case rel =>
          refine ⟨k + 1, _, by omega, by go_num, ?_, lat_def⟩
          unfold Hid
          rw [ht.out, List.all_append, hn.out]
          simp [he]
        case measure => simp [intOf]; omega
      · rw [Bool.not_eq_true] at he
        go_wp2_with (go_at_call 88; refine (check3_c (nth xs k) _).mono ?_; rintro e w1 ⟨rfl, δ1, rfl⟩)
        go_ret
        refine ⟨ret_bool ?_, lat_ex⟩
        have : okWall xs = false := by
          rw [okWall, List.all_eq_false]
          exact ⟨_, hm.out, by simp [he]⟩
        exact this.symm
    · obtain rfl : k = xs.length := by omega
      go_wp2
      go_ret
      refine ⟨ret_bool ?_, lat_ex⟩
      have := hn.out
      rw [List.take_length] at this
      exact this.symm

/-- The code of an error. -/
def errOf (ok : Bool) (k : Int) : Int := if ok then 0 else k

set_option maxRecDepth 100000 in
set_option maxHeartbeats 2000000 in
theorem check_c (r : NetR) (n : Net) (B : Nat) (w : World) (h : NetIs B w r n) [hB : Le B w] :
    Calls Tryd.prog 38 #[netV r n] w fun e w' => e = .returned (.int .i64 (errOf (valid n) 20)) ∧ ∃ δ, w' = lat w δ := by
  have l1 := h.1.len
  have l2 := h.2.1.len
  have l3 := h.2.2.len
  go_enter Tryd.func38, Tryd.ntmps38
  go_wp2_with (first
    | (go_at_call 81; refine (isSpan_c _ _ _).mono ?_; rintro e w1 ⟨rfl, δ, rfl⟩)
    | (go_at_call 82; refine (everySp_c _ _ _ n.grips B _ h.1.up (by first | rfl | (simp [*]; done) | omega)).mono ?_; rintro e w1 ⟨rfl, δ, rfl⟩)
    | (go_at_call 84; refine (everyAnc_c _ _ _ n.ancs w.heap.size n.grips.length r.gA r.gc B _ h.2.1.up (by first | rfl | (simp [*]; done) | omega) (by omega) (by go_simp)).mono ?_; rintro e w1 ⟨rfl, δ, rfl⟩)
    | (go_at_call 87; refine (everyWal_c _ _ _ n.wals B _ h.2.2.up (by first | rfl | (simp [*]; done) | omega)).mono ?_; rintro e w1 ⟨rfl, δ, rfl⟩))
  all_goals
    go_ret
    refine ⟨ret_int ?_, lat_ex⟩
    go_light
    have hv := @valid_iff n
    have hz : n.wals = [] ↔ n.wals.length = 0 := List.length_eq_zero_iff.symm
    grind [errOf, okWall]

end Go.Proofs.YtgpcaaknpfopgaaDoor
