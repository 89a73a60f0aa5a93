/- Towards the claim of XLawCalmed: Layer 2: the walks of what asks of single numbers, and of Check, the program's and the reference's. Layer 2: the walks of the program's Check, and of what it calls. Layer 2: the walks of the reference's Check, and of what it calls. Layer 2: the walks of the program's anchors in a truth: what an anchor bears and could bear more, who drags, and who at last. Layer 2: the walks of bears, spare, step and last of the program. Layer 2: the walks of with, step and last of the program. Layer 2: the walks of worst and best of the program. Layer 2: the walks of the lists of anchors, and of the program's  -/
import Derived.Test.YtnddiloeikaleaaRows
import Derived.Test.YtnddiloeikaleaaQ2
namespace Go.Proofs.Ytnddiloeikaleaa
open Go.RowKit
open An

/-! ### How the values lie in memory -/
def encI (x : Int) : List Value := [.int .i64 x]
def encSp (x : Sp) : List Value := [.int .i64 x.lo, .int .i64 x.hi]
def encAnc (x : Anc) : List Value := [.int .i64 x.wt, .int .i64 x.bt]
def encWal (x : Wal) : List Value := [.int .i64 x.sail, .int .i64 x.drag, .int .i64 x.lean, .int .i64 x.corks, .int .i64 x.stones]

section
variable {B : Nat} {w : World} {A : Option Addr} {c : Nat}
theorem Sl.int {xs : List Int} (h : Sl encI B w A c xs) {k : Nat} (hk : k < xs.length) : ∃ b o, A = some ⟨b, o, none⟩ ∧ b < B ∧ w.cell? ⟨b, o + k, none⟩ = some (.int .i64 (nth xs k)) := by
  obtain ⟨b, o, hA, hb, hc⟩ := h.at_ (size := 1) (fun _ => rfl) hk (by omega)
  refine ⟨b, o, hA, hb, ?_⟩
  have := hc 0 _ rfl
  rw [nth_get _ hk]
  simpa using this
theorem Sl.sp {xs : List Sp} (h : Sl encSp B w A c xs) {k : Nat} (hk : k < xs.length) : ∃ b o, A = some ⟨b, o, none⟩ ∧ b < B ∧ w.cell? ⟨b, o + k * 2, none⟩ = some (.int .i64 (nth xs k).lo) ∧ w.cell? ⟨b, o + k * 2 + 1, none⟩ = some (.int .i64 (nth xs k).hi) := by
  obtain ⟨b, o, hA, hb, hc⟩ := h.at_ (size := 2) (fun _ => rfl) hk (by omega)
  rw [nth_get _ hk]
  exact ⟨b, o, hA, hb, hc 0 _ rfl, hc 1 _ rfl⟩
theorem Sl.anc {xs : List Anc} (h : Sl encAnc B w A c xs) {k : Nat} (hk : k < xs.length) : ∃ b o, A = some ⟨b, o, none⟩ ∧ b < B ∧ w.cell? ⟨b, o + k * 2, none⟩ = some (.int .i64 (nth xs k).wt) ∧ w.cell? ⟨b, o + k * 2 + 1, none⟩ = some (.int .i64 (nth xs k).bt) := by
  obtain ⟨b, o, hA, hb, hc⟩ := h.at_ (size := 2) (fun _ => rfl) hk (by omega)
  rw [nth_get _ hk]
  exact ⟨b, o, hA, hb, hc 0 _ rfl, hc 1 _ rfl⟩
theorem Sl.wal {xs : List Wal} (h : Sl encWal B w A c xs) {k : Nat} (hk : k < xs.length) : ∃ b o, A = some ⟨b, o, none⟩ ∧ b < B ∧ w.cell? ⟨b, o + k * 5, none⟩ = some (.int .i64 (nth xs k).sail) ∧ w.cell? ⟨b, o + k * 5 + 1, none⟩ = some (.int .i64 (nth xs k).drag) ∧
    w.cell? ⟨b, o + k * 5 + 2, none⟩ = some (.int .i64 (nth xs k).lean) ∧ w.cell? ⟨b, o + k * 5 + 3, none⟩ = some (.int .i64 (nth xs k).corks) ∧ w.cell? ⟨b, o + k * 5 + 4, none⟩ = some (.int .i64 (nth xs k).stones) := by
  obtain ⟨b, o, hA, hb, hc⟩ := h.at_ (size := 5) (fun _ => rfl) hk (by omega)
  rw [nth_get _ hk]
  exact ⟨b, o, hA, hb, hc 0 _ rfl, hc 1 _ rfl, hc 2 _ rfl, hc 3 _ rfl, hc 4 _ rfl⟩
end

/-- Where a net's slices lie. -/
structure NetR where
  gA : Option Addr
  gc : Nat
  aA : Option Addr
  ac : Nat
  wA : Option Addr
  wc : Nat
abbrev netV (r : NetR) (n : Net) : Value := .agg #[.int .i64 n.wind.lo, .int .i64 n.wind.hi, .int .i64 n.cur.lo, .int .i64 n.cur.hi, .slice r.gA n.grips.length r.gc, .slice r.aA n.ancs.length r.ac, .slice r.wA n.wals.length r.wc]
def NetIs (B : Nat) (w : World) (r : NetR) (n : Net) : Prop := Sl encSp B w r.gA r.gc n.grips ∧ Sl encAnc B w r.aA r.ac n.ancs ∧ Sl encWal B w r.wA r.wc n.wals
section
variable {B : Nat} {w : World} {r : NetR} {n : Net}
@[go_sem] theorem NetIs_lat (δ : World) [hB : Le B w] : NetIs B (lat w δ) r n ↔ NetIs B w r n := by simp only [NetIs, Sl_lat]
@[go_sem] theorem NetIs_alloc (o : Obj) [hB : Le B w] : NetIs B (w.alloc o) r n ↔ NetIs B w r n := by simp only [NetIs, Sl_alloc]
@[go_sem] theorem NetIs_drew : NetIs B w.drew r n ↔ NetIs B w r n := Iff.rfl
@[go_sem] theorem NetIs_setCell (p : Addr) (u : Value) (hB : B ≤ p.block) : NetIs B (w.setCell p u) r n ↔ NetIs B w r n := by simp only [NetIs, Sl_setCell p u hB]
theorem NetIs.up {w' : World} (h : NetIs B w r n) [hg : Grew B w w'] : NetIs B w' r n := ⟨h.1.up, h.2.1.up, h.2.2.up⟩
theorem NetIs.more (h : NetIs B w r n) {B' : Nat} (hB : B ≤ B') : NetIs B' w r n := ⟨h.1.more hB, h.2.1.more hB, h.2.2.more hB⟩
end

theorem ite_bool2 (a b : Bool) : (if a = true then b else false) = (a && b) := by cases a <;> rfl

/-! ### Numbers -/
theorem within_c (n low high : Int) (w : World) :
    Calls Try.prog 14 #[.int .i64 n, .int .i64 low, .int .i64 high] w fun e w' => e = .returned (.bool (inB low high n)) ∧ w = w' := by
  go_enter Try.func14, Try.ntmps14
  by_cases h1 : low ≤ n
  · go_wp2
    go_ret
    exact ⟨ret_bool (by simp [inB, h1]), rfl⟩
  · go_wp2
    go_ret
    exact ⟨ret_bool (by simp [inB]; omega), rfl⟩

theorem within2_c (n low high : Int) (w : World) :
    Calls Try.prog 40 #[.int .i64 n, .int .i64 low, .int .i64 high] w fun e w' => e = .returned (.bool (inB low high n)) ∧ w = w' := by
  go_enter Try.func40, Try.ntmps40
  go_wp2_with (go_at_call 14; refine (within_c _ _ _ _).mono ?_; rintro e w1 ⟨rfl, rfl⟩)
  go_ret
  exact ⟨rfl, rfl⟩

/-- Is a number in a list? (closed to simp) -/
def isIn (xs : List Int) (x : Int) : Bool := decide (x ∈ xs)

/-- What is known of something that is so in 'so' of 'all' truths. -/
def knownI (so all : Int) : Int := if so = 0 then 2 else if so = all then 1 else 3
/-! ### The program's Check -/
theorem inside1_c (most x : Int) (b : Nat) (w : World) (hc : w.cell? ⟨b, 0, none⟩ = some (.int .i64 most)) :
    Calls Try.prog 70 #[.int .i64 x, .pointer (some ⟨b, 0, none⟩)] w fun e w' => e = .returned (.bool (!inB 0 most x)) ∧ w = w' := by
  go_enter Try.func70, Try.ntmps70
  by_cases h1 : x < 0
  · go_wp2
    go_ret
    exact ⟨ret_bool (by simp [inB]; omega), rfl⟩
  · go_wp2
    go_ret
    exact ⟨ret_bool (by rw [Bool.eq_iff_iff]; simp [inB]; omega), rfl⟩

/-- slices.IndexFunc over ints, at inside's closure: the first number that is not within, or -1. -/
theorem indexFunc_c (most : Int) (b : Nat) (A : Option Addr) (c : Nat) (xs : List Int) (B : Nat) (w : World) (h : Sl encI B w A c xs) (hc : w.cell? ⟨b, 0, none⟩ = some (.int .i64 most)) :
    Calls Try.prog 78 #[.slice A xs.length c, .func (.func 70) #[] #[.pointer (some ⟨b, 0, none⟩)]] w fun e w' => (∃ n : Int, e = .returned (.int .i64 n) ∧ decide (0 ≤ n) = !allB most xs) ∧ w = w' := by
  have hl := h.len
  go_enter Try.func78, Try.ntmps78
  go_wp2
  go_loop [8] (fun i => ∃ k : Nat, k ≤ xs.length ∧ i = .int .i64 k ∧ Hid ((xs.take k).all (inB 0 most) = true)) (fun i => xs.length - (intOf i).toNat)
  case atStart => exact ⟨0, Nat.zero_le _, rfl, by simp [Hid]⟩
  case round =>
    obtain ⟨k, hk, rfl, hn⟩ := hrel
    by_cases hlt : k < xs.length
    · obtain ⟨b', o, rfl, hb, hc'⟩ := h.int hlt
      have hm := Lib.hid (nth_mem xs hlt)
      have ht := Lib.hid (take_snoc xs hlt)
      by_cases he : inB 0 most (nth xs k) = true
      · go_wp2_with (go_at_call 70; refine (inside1_c most _ b _ hc).mono ?_; rintro e w1 ⟨rfl, rfl⟩)
        go_round
        case rel =>
          refine ⟨k + 1, by omega, by go_num, ?_⟩
          unfold Hid
          rw [ht.out, List.all_append, hn.out]
          simp [he]
        case measure => simp [intOf]; omega
      · rw [Bool.not_eq_true] at he
        go_wp2_with (go_at_call 70; refine (inside1_c most _ b _ hc).mono ?_; rintro e w1 ⟨rfl, rfl⟩)
        go_ret
        refine ⟨⟨k, rfl, ?_⟩, rfl⟩
        have : allB most xs = false := by
          rw [allB, List.all_eq_false]
          exact ⟨_, hm.out, by simp [he]⟩
        rw [this]
        simp
    · obtain rfl : k = xs.length := by omega
      go_wp2
      go_ret
      refine ⟨⟨-1, rfl, ?_⟩, rfl⟩
      have := hn.out
      rw [List.take_length] at this
      rw [allB, this]
      rfl

end Go.Proofs.Ytnddiloeikaleaa
namespace Go.Proofs.Ytnddiloeikaleaa
open Go.RowKit
open An

theorem Sl_lit {α : Type} {enc : α → List Value} {W : World} (xs : List α) {T : TypeId} {b c : Nat} {cs : Array Value} (hb : b = W.heap.size) (hn : xs.length ≤ c) (hc : c ≤ 9223372036854775807) (hcs : cs.toList = xs.flatMap enc) : Sl enc (b + 1) (W.alloc (.cells cs T)) (some ⟨b, 0, none⟩) c xs := by
  refine ⟨hn, hc, fun _ => ⟨_, _, rfl, by omega, fun j v hj => ?_⟩⟩
  rw [World.cell?_alloc_at _ _ _ _ hb, ← Array.getElem?_toList, hcs]
  simpa using hj

theorem inside_c (most : Int) (A : Option Addr) (c : Nat) (xs : List Int) (B : Nat) (w : World) (h : Sl encI B w A c xs) [hB : Le B w] :
    Calls Try.prog 56 #[.int .i64 most, .slice A xs.length c] w fun e w' => e = .returned (.bool (allB most xs)) ∧ ∃ δ, w' = lat w δ := by
  go_enter Try.func56, Try.ntmps56
  go_wp2_with (first | (go_at_call 69; go_in) | (go_at_call 78; refine (indexFunc_c most _ _ _ _ B _ h.up (by go_simp)).mono ?_; rintro e w1 ⟨⟨n, rfl, hn⟩, rfl⟩))
  go_ret
  exact ⟨ret_bool (by simp), lat_ex⟩

/-- .. at a slice that was written out at the call. -/
theorem insideL_c (most : Int) (b k : Nat) (arr : Array Value) (T : TypeId) (W : World) (hb : b = W.heap.size) (hk : arr.size = k) (hs : k ≤ 100) (harr : arr.toList = (arr.toList.map intOf).flatMap encI) :
    Calls Try.prog 56 #[.int .i64 most, .slice (some ⟨b, 0, none⟩) k k] (W.alloc (.cells arr T)) fun e w' => e = .returned (.bool (allB most (arr.toList.map intOf))) ∧ ∃ δ, w' = lat (W.alloc (.cells arr T)) δ := by
  have hl : (arr.toList.map intOf).length = k := by simpa using hk
  have hS : Sl encI (b + 1) (W.alloc (.cells arr T)) (some ⟨b, 0, none⟩) k (arr.toList.map intOf) := Sl_lit _ hb (by omega) (by omega) harr
  have hB : Le (b + 1) (W.alloc (.cells arr T)) := ⟨by subst hb; simp⟩
  have := inside_c most (some ⟨b, 0, none⟩) k (arr.toList.map intOf) (b + 1) _ hS
  rw [hl] at this
  exact this

theorem isSpan_c (s : Sp) (m : Int) (w : World) :
    Calls Try.prog 51 #[.agg #[.int .i64 s.lo, .int .i64 s.hi], .int .i64 m] w fun e w' => e = .returned (.bool (okSp m s)) ∧ ∃ δ, w' = lat w δ := by
  go_enter Try.func51, Try.ntmps51
  go_wp2_with (go_at_call 56; refine (insideL_c _ _ _ _ _ _ (by go_simp) (by rfl) (by omega) (by rfl)).mono ?_; rintro e w1 ⟨rfl, δ, rfl⟩)
  all_goals
    go_ret
    exact ⟨ret_bool (by rw [Bool.eq_iff_iff]; simp [allB, inB, intOf, okSp] at *; omega), lat_ex⟩

theorem check1_c (s : Sp) (w : World) :
    Calls Try.prog 53 #[.agg #[.int .i64 s.lo, .int .i64 s.hi]] w fun e w' => e = .returned (.bool (okSp 9 s)) ∧ ∃ δ, w' = lat w δ := by
  go_enter Try.func53, Try.ntmps53
  go_wp2_with (go_at_call 51; refine (isSpan_c s 9 _).mono ?_; rintro e w1 ⟨rfl, δ, rfl⟩)
  go_ret
  exact ⟨rfl, lat_ex⟩

theorem check2_c (a : Anc) (b g : Nat) (gA : Option Addr) (gc : Nat) (w : World) [hb : Lt b w] (hg : g ≤ 9223372036854775807) (hc : w.cell? ⟨b, 4, none⟩ = some (.slice gA g gc)) :
    Calls Try.prog 55 #[.agg #[.int .i64 a.wt, .int .i64 a.bt], .pointer (some ⟨b, 0, none⟩)] w fun e w' => e = .returned (.bool (okAnc g a)) ∧ ∃ δ, w' = lat w δ := by
  go_enter Try.func55, Try.ntmps55
  go_wp2_with (go_at_call 56; refine (insideL_c _ _ _ _ _ _ (by go_simp) (by rfl) (by omega) (by rfl)).mono ?_; rintro e w1 ⟨rfl, δ, rfl⟩)
  all_goals
    go_ret
    exact ⟨ret_bool (by rw [Bool.eq_iff_iff]; simp [allB, inB, intOf, okAnc] at *; omega), lat_ex⟩

theorem check3_c (x : Wal) (w : World) :
    Calls Try.prog 58 #[.agg #[.int .i64 x.sail, .int .i64 x.drag, .int .i64 x.lean, .int .i64 x.corks, .int .i64 x.stones]] w fun e w' => e = .returned (.bool (okWal x)) ∧ ∃ δ, w' = lat w δ := by
  go_enter Try.func58, Try.ntmps58
  go_wp2_with (go_at_call 56; refine (insideL_c _ _ _ _ _ _ (by go_simp) (by rfl) (by omega) (by rfl)).mono ?_; rintro e w1 ⟨rfl, δ, rfl⟩)
  all_goals
    go_ret
    exact ⟨ret_bool (by rw [Bool.eq_iff_iff]; simp [allB, inB, intOf, okWal] at *; omega), lat_ex⟩

theorem everySp_c (A : Option Addr) (ln c : Nat) (xs : List Sp) (B : Nat) (w : World) (h : Sl encSp B w A c xs) (hn : xs.length = ln) [hB : Le B w] :
    Calls Try.prog 52 #[.slice A ln c, .func (.func 53) #[] #[]] w fun e w' => e = .returned (.bool (okSps xs)) ∧ ∃ δ, w' = lat w δ := by
  subst hn
  have hl := h.len
  go_enter Try.func52, Try.ntmps52
  go_wp2
  go_loopw [9] (fun i wr => ∃ (k : Nat) (δ : World), k ≤ xs.length ∧ i = .int .i64 k ∧ Hid ((xs.take k).all (okSp 9) = true) ∧ wr = lat w δ) (fun i _ => xs.length - (intOf i).toNat)
  case atStart => exact ⟨0, w, Nat.zero_le _, rfl, by simp [Hid], (lat_refl w).symm⟩
  case round =>
    obtain ⟨k, δ, hk, rfl, hn, rfl⟩ := hrel
    by_cases hlt : k < xs.length
    · obtain ⟨b', o, rfl, hb, hc0, hc1⟩ := h.sp hlt
      have hb' : Lt b' w := ⟨Nat.lt_of_lt_of_le hb hB.out⟩
      have hm := Lib.hid (nth_mem xs hlt)
      have ht := Lib.hid (take_snoc xs hlt)
      by_cases he : okSp 9 (nth xs k) = true
      · go_wp2_with (go_at_call 53; refine (check1_c (nth xs k) _).mono ?_; rintro e w1 ⟨rfl, δ1, rfl⟩)
        go_roundw
        case rel =>
          refine ⟨k + 1, _, by omega, by go_num, ?_, lat_def⟩
          unfold Hid
          rw [ht.out, List.all_append, hn.out]
          simp [he]
        case measure => simp [intOf]; omega
      · rw [Bool.not_eq_true] at he
        go_wp2_with (go_at_call 53; refine (check1_c (nth xs k) _).mono ?_; rintro e w1 ⟨rfl, δ1, rfl⟩)
        go_ret
        refine ⟨ret_bool ?_, lat_ex⟩
        have : okSps xs = false := by
          rw [okSps, List.all_eq_false]
          exact ⟨_, hm.out, by simp [he]⟩
        exact this.symm
    · obtain rfl : k = xs.length := by omega
      go_wp2
      go_ret
      refine ⟨ret_bool ?_, lat_ex⟩
      have := hn.out
      rw [List.take_length] at this
      exact this.symm

theorem everyAnc_c (A : Option Addr) (ln c : Nat) (xs : List Anc) (bx g : Nat) (gA : Option Addr) (gc : Nat) (B : Nat) (w : World) (h : Sl encAnc B w A c xs) (hn : xs.length = ln) [hB : Le B w] [hx : Lt bx w] (hg : g ≤ 9223372036854775807) (hcx : w.cell? ⟨bx, 4, none⟩ = some (.slice gA g gc)) :
    Calls Try.prog 54 #[.slice A ln c, .func (.func 55) #[] #[.pointer (some ⟨bx, 0, none⟩)]] w fun e w' => e = .returned (.bool (okAncl g xs)) ∧ ∃ δ, w' = lat w δ := by
  subst hn
  have hl := h.len
  go_enter Try.func54, Try.ntmps54
  go_wp2
  go_loopw [9] (fun i wr => ∃ (k : Nat) (δ : World), k ≤ xs.length ∧ i = .int .i64 k ∧ Hid ((xs.take k).all (okAnc g) = true) ∧ wr = lat w δ) (fun i _ => xs.length - (intOf i).toNat)
  case atStart => exact ⟨0, w, Nat.zero_le _, rfl, by simp [Hid], (lat_refl w).symm⟩
  case round =>
    obtain ⟨k, δ, hk, rfl, hn, rfl⟩ := hrel
    by_cases hlt : k < xs.length
    · obtain ⟨b', o, rfl, hb, hc0, hc1⟩ := h.anc hlt
      have hb' : Lt b' w := ⟨Nat.lt_of_lt_of_le hb hB.out⟩
      have hm := Lib.hid (nth_mem xs hlt)
      have ht := Lib.hid (take_snoc xs hlt)
      by_cases he : okAnc g (nth xs k) = true
      · go_wp2_with (go_at_call 55; refine (check2_c (nth xs k) bx g gA gc _ hg (by go_simp)).mono ?_; rintro e w1 ⟨rfl, δ1, rfl⟩)
        go_roundw
        case rel =>
          refine ⟨k + 1, _, by omega, by go_num, ?_, lat_def⟩
          unfold Hid
          rw [ht.out, List.all_append, hn.out]
          simp [he]
        case measure => simp [intOf]; omega
      · rw [Bool.not_eq_true] at he
        go_wp2_with (go_at_call 55; refine (check2_c (nth xs k) bx g gA gc _ hg (by go_simp)).mono ?_; rintro e w1 ⟨rfl, δ1, rfl⟩)
        go_ret
        refine ⟨ret_bool ?_, lat_ex⟩
        have : okAncl g xs = false := by
          rw [okAncl, List.all_eq_false]
          exact ⟨_, hm.out, by simp [he]⟩
        exact this.symm
    · obtain rfl : k = xs.length := by omega
      go_wp2
      go_ret
      refine ⟨ret_bool ?_, lat_ex⟩
      have := hn.out
      rw [List.take_length] at this
      exact this.symm

theorem everyWal_c (A : Option Addr) (ln c : Nat) (xs : List Wal) (B : Nat) (w : World) (h : Sl encWal B w A c xs) (hn : xs.length = ln) [hB : Le B w] :
    Calls Try.prog 57 #[.slice A ln c, .func (.func 58) #[] #[]] w fun e w' => e = .returned (.bool (okWall xs)) ∧ ∃ δ, w' = lat w δ := by
  subst hn
  have hl := h.len
  go_enter Try.func57, Try.ntmps57
  go_wp2
  go_loopw [9] (fun i wr => ∃ (k : Nat) (δ : World), k ≤ xs.length ∧ i = .int .i64 k ∧ Hid ((xs.take k).all okWal = true) ∧ wr = lat w δ) (fun i _ => xs.length - (intOf i).toNat)
  case atStart => exact ⟨0, w, Nat.zero_le _, rfl, by simp [Hid], (lat_refl w).symm⟩
  case round =>
    obtain ⟨k, δ, hk, rfl, hn, rfl⟩ := hrel
    by_cases hlt : k < xs.length
    · obtain ⟨b', o, rfl, hb, hc0, hc1, hc2, hc3, hc4⟩ := h.wal hlt
      have hb' : Lt b' w := ⟨Nat.lt_of_lt_of_le hb hB.out⟩
      have hm := Lib.hid (nth_mem xs hlt)
      have ht := Lib.hid (take_snoc xs hlt)
      by_cases he : okWal (nth xs k) = true
      · go_wp2_with (go_at_call 58; refine (check3_c (nth xs k) _).mono ?_; rintro e w1 ⟨rfl, δ1, rfl⟩)
        go_roundw
        case rel =>
          refine ⟨k + 1, _, by omega, by go_num, ?_, lat_def⟩
          unfold Hid
          rw [ht.out, List.all_append, hn.out]
          simp [he]
        case measure => simp [intOf]; omega
      · rw [Bool.not_eq_true] at he
        go_wp2_with (go_at_call 58; refine (check3_c (nth xs k) _).mono ?_; rintro e w1 ⟨rfl, δ1, rfl⟩)
        go_ret
        refine ⟨ret_bool ?_, lat_ex⟩
        have : okWall xs = false := by
          rw [okWall, List.all_eq_false]
          exact ⟨_, hm.out, by simp [he]⟩
        exact this.symm
    · obtain rfl : k = xs.length := by omega
      go_wp2
      go_ret
      refine ⟨ret_bool ?_, lat_ex⟩
      have := hn.out
      rw [List.take_length] at this
      exact this.symm

/-- The code of an error. -/
def errOf (ok : Bool) (k : Int) : Int := if ok then 0 else k

set_option maxRecDepth 100000 in
set_option maxHeartbeats 2000000 in
theorem check_c (r : NetR) (n : Net) (B : Nat) (w : World) (h : NetIs B w r n) [hB : Le B w] :
    Calls Try.prog 31 #[netV r n] w fun e w' => e = .returned (.int .i64 (errOf (valid n) 20)) ∧ ∃ δ, w' = lat w δ := by
  have l1 := h.1.len
  have l2 := h.2.1.len
  have l3 := h.2.2.len
  go_enter Try.func31, Try.ntmps31
  go_wp2_with (first
    | (go_at_call 51; refine (isSpan_c _ _ _).mono ?_; rintro e w1 ⟨rfl, δ, rfl⟩)
    | (go_at_call 52; refine (everySp_c _ _ _ n.grips B _ h.1.up (by first | rfl | (simp [*]; done) | omega)).mono ?_; rintro e w1 ⟨rfl, δ, rfl⟩)
    | (go_at_call 54; refine (everyAnc_c _ _ _ n.ancs w.heap.size n.grips.length r.gA r.gc B _ h.2.1.up (by first | rfl | (simp [*]; done) | omega) (by omega) (by go_simp)).mono ?_; rintro e w1 ⟨rfl, δ, rfl⟩)
    | (go_at_call 57; refine (everyWal_c _ _ _ n.wals B _ h.2.2.up (by first | rfl | (simp [*]; done) | omega)).mono ?_; rintro e w1 ⟨rfl, δ, rfl⟩))
  all_goals
    go_ret
    refine ⟨ret_int ?_, lat_ex⟩
    go_light
    have hv := @valid_iff n
    have hz : n.wals = [] ↔ n.wals.length = 0 := List.length_eq_zero_iff.symm
    grind [errOf, okWall]

end Go.Proofs.Ytnddiloeikaleaa
namespace Go.Proofs.Ytnddiloeikaleaa
open Go.RowKit
open An

theorem rIsSpan_c (s : Sp) (m : Int) (w : World) :
    Calls Try.prog 39 #[.agg #[.int .i64 s.lo, .int .i64 s.hi], .int .i64 m] w fun e w' => e = .returned (.bool (okSp m s)) ∧ ∃ δ, w' = lat w δ := by
  go_enter Try.func39, Try.ntmps39
  go_wp2_with (go_at_call 40; refine (within2_c _ _ _ _).mono ?_; rintro e w1 ⟨rfl, rfl⟩)
  all_goals
    go_ret
    exact ⟨ret_bool (by grind [inB, okSp]), lat_ex⟩

set_option maxRecDepth 100000 in
set_option maxHeartbeats 2000000 in
theorem rCheck_c (r : NetR) (n : Net) (B : Nat) (w : World) (h : NetIs B w r n) [hB : Le B w] :
    Calls Try.prog 18 #[netV r n] w fun e w' => e = .returned (.int .i64 (errOf (valid n) 20)) ∧ ∃ δ, w' = lat w δ := by
  have l1 := h.1.len
  have l2 := h.2.1.len
  have l3 := h.2.2.len
  by_cases hw : n.wals.length = n.ancs.length - 1
  case neg =>
    obtain ⟨m, hm⟩ : ∃ m : Nat, m = n.ancs.length - 1 := ⟨_, rfl⟩
    have hmx : (if 1 < (n.ancs.length : Int) then (n.ancs.length : Int) - 1 else 0) = (m : Int) := by split <;> omega
    have hne : ((n.wals.length : Int) != (m : Int)) = true := by simp; omega
    have hv : valid n = false := by rw [← Bool.not_eq_true]; intro hv; exact hw (valid_iff.1 hv).2.2.2.2.1
    have HV := Lib.hid hv
    clear hm hv hw
    go_enter Try.func18, Try.ntmps18
    go_wp2_with (go_at_call 39; refine (rIsSpan_c _ _ _).mono ?_; rintro e w1 ⟨rfl, δ, rfl⟩)
    all_goals
      go_ret
      exact ⟨ret_int (by rw [HV.out]; rfl), lat_ex⟩
  case pos =>
    have hmx : (if 1 < (n.ancs.length : Int) then (n.ancs.length : Int) - 1 else 0) = (n.wals.length : Int) := by split <;> omega
    have HW := Lib.hid hw
    clear hw
    go_enter Try.func18, Try.ntmps18
    go_wp2_with (go_at_call 39; refine (rIsSpan_c _ _ _).mono ?_; rintro e w1 ⟨rfl, δ, rfl⟩)
    all_goals first
      | (go_ret
         refine ⟨ret_int ?_, lat_ex⟩
         go_light
         have hv := @valid_iff n
         grind [errOf])
      | skip
    refine wp_name fun W1 hW1 => ?_
    have c4 : W1.cell? ⟨w.heap.size, 4, none⟩ = some (.slice r.gA n.grips.length r.gc) := by rw [hW1.out]; go_simp
    have c5 : W1.cell? ⟨w.heap.size, 5, none⟩ = some (.slice r.aA n.ancs.length r.ac) := by rw [hW1.out]; go_simp
    have c6 : W1.cell? ⟨w.heap.size, 6, none⟩ = some (.slice r.wA n.wals.length r.wc) := by rw [hW1.out]; go_simp
    have i1 : Lt w.heap.size W1 := by rw [hW1.out]; infer_instance
    have i2 : Le B W1 := by rw [hW1.out]; infer_instance
    have i3 : Grew B w W1 := by rw [hW1.out]; infer_instance
    have i4 : Grew w.heap.size w W1 := by rw [hW1.out]; infer_instance
    have i5 : Le w.heap.size W1 := by rw [hW1.out]; infer_instance
    have s1 : Sl encSp B W1 r.gA r.gc n.grips := h.1.up
    have s2 : Sl encAnc B W1 r.aA r.ac n.ancs := h.2.1.up
    have s3 : Sl encWal B W1 r.wA r.wc n.wals := h.2.2.up
    have F := Lib.hid (show okSp 20 n.wind = true ∧ okSp 20 n.cur = true ∧ n.grips.length ≤ 3 ∧ n.ancs.length ≤ 6 by refine ⟨by assumption, by assumption, by omega, by omega⟩)
    clear hmx
    go_loopw [3] (fun i wr => ∃ (k : Nat) (δ : World), k ≤ n.grips.length ∧ i = .int .i64 k ∧ Hid (okSps (n.grips.take k) = true) ∧ wr = lat W1 δ) (fun i _ => n.grips.length - (intOf i).toNat)
    case atStart => exact ⟨0, W1, Nat.zero_le _, rfl, by simp [Hid, okSps], (lat_refl W1).symm⟩
    case round =>
      obtain ⟨k, δ, hk, rfl, hn, rfl⟩ := hrel
      by_cases hlt : k < n.grips.length
      · obtain ⟨b, o, hA, hb, d0, d1⟩ := s1.sp hlt
        have ib : Lt b W1 := ⟨Nat.lt_of_lt_of_le hb i2.out⟩
        rw [hA] at c4
        have hm := Lib.hid (nth_mem n.grips hlt)
        have ht := Lib.hid (take_snoc n.grips hlt)
        clear hA
        go_wp2_with (go_at_call 39; refine (rIsSpan_c (nth n.grips k) 9 _).mono ?_; rintro e w1 ⟨rfl, δ1, rfl⟩)
        · go_ret
          refine ⟨ret_int ?_, lat_ex⟩
          go_light
          have hv := (@valid_iff n).1
          have hm := hm.out
          grind [errOf, okSps]
        · go_roundw
          case rel =>
            refine ⟨k + 1, _, by omega, by go_num, ?_, lat_def⟩
            unfold Hid
            have hn := hn.out
            rw [ht.out]
            go_light
            grind [okSps]
          case measure => simp [intOf]; omega
      · obtain rfl : k = n.grips.length := by omega
        have G1 := Lib.hid (show okSps n.grips = true by have := hn.out; rwa [List.take_length] at this)
        clear hlt hn hk
        go_wp2
        go_loopw [4] (fun i wr => ∃ (k : Nat) (δ : World), k ≤ n.ancs.length ∧ i = .int .i64 k ∧ Hid (okAncl n.grips.length (n.ancs.take k) = true) ∧ wr = lat W1 δ) (fun i _ => n.ancs.length - (intOf i).toNat)
        case atStart => exact ⟨0, δ, Nat.zero_le _, rfl, by simp [Hid, okAncl], rfl⟩
        case round =>
          obtain ⟨k, δ, hk, rfl, hn, rfl⟩ := hrel
          by_cases hlt : k < n.ancs.length
          · obtain ⟨b, o, hA, hb, d0, d1⟩ := s2.anc hlt
            have ib : Lt b W1 := ⟨Nat.lt_of_lt_of_le hb i2.out⟩
            rw [hA] at c5
            have hm := Lib.hid (nth_mem n.ancs hlt)
            have ht := Lib.hid (take_snoc n.ancs hlt)
            have hki : (k : Int) < (n.ancs.length : Int) := by omega
            have hk0 : ¬ (k : Int) < 0 := by omega
            clear hA
            by_cases g1 : inB 0 20 (nth n.ancs k).wt = true
            all_goals try rw [Bool.not_eq_true] at g1
            all_goals
              go_wp2_with (fail)
              refine wp_region_lat (by kernel_rfl) (by kernel_rfl) ?_
              repeat (go_big_quiet_step ((go_at_call 40; exact Calls.lat_same (within2_c _ _ _ _))))
              refine wpQuiet_nil ?_
              rintro _ ⟨δ1, rfl⟩
              go_wp2
            all_goals try rw [Bool.not_eq_true] at g1
            all_goals first
              | (go_ret
                 refine ⟨ret_int ?_, lat_ex⟩
                 go_light
                 have hv := (@valid_iff n).1
                 have hm := hm.out
                 grind [errOf, okAncl, okAnc, inB])
              | (go_roundw
                 case rel =>
                   refine ⟨k + 1, _, by omega, by go_num, ?_, lat_def⟩
                   unfold Hid
                   have hn := hn.out
                   rw [ht.out]
                   go_light
                   grind [okAncl, okAnc, inB]
                 case measure => simp [intOf]; omega)
          · obtain rfl : k = n.ancs.length := by omega
            have G2 := Lib.hid (show okAncl n.grips.length n.ancs = true by have := hn.out; rwa [List.take_length] at this)
            clear hlt hn hk
            go_wp2
            go_loopw [5] (fun i wr => ∃ (k : Nat) (δ : World), k ≤ n.wals.length ∧ i = .int .i64 k ∧ Hid (okWall (n.wals.take k) = true) ∧ wr = lat W1 δ) (fun i _ => n.wals.length - (intOf i).toNat)
            case atStart => exact ⟨0, δ, Nat.zero_le _, rfl, by simp [Hid, okWall], rfl⟩
            case round =>
              obtain ⟨k, δ, hk, rfl, hn, rfl⟩ := hrel
              by_cases hlt : k < n.wals.length
              · obtain ⟨b, o, hA, hb, d0, d1, d2, d3, d4⟩ := s3.wal hlt
                have ib : Lt b W1 := ⟨Nat.lt_of_lt_of_le hb i2.out⟩
                rw [hA] at c6
                have hm := Lib.hid (nth_mem n.wals hlt)
                have ht := Lib.hid (take_snoc n.wals hlt)
                have hki : (k : Int) < (n.wals.length : Int) := by omega
                have hk0 : ¬ (k : Int) < 0 := by omega
                clear hA
                go_wp2_with (go_at_call 40; refine (within2_c _ _ _ _).mono ?_; rintro e w1 ⟨rfl, rfl⟩)
                all_goals first
                  | (go_ret
                     refine ⟨ret_int ?_, lat_ex⟩
                     go_light
                     have hv := (@valid_iff n).1
                     have hm := hm.out
                     grind [errOf, okWall, okWal, inB])
                  | (go_roundw
                     case rel =>
                       refine ⟨k + 1, _, by omega, by go_num, ?_, lat_def⟩
                       unfold Hid
                       have hn := hn.out
                       rw [ht.out]
                       go_light
                       grind [okWall, okWal, inB]
                     case measure => simp [intOf]; omega)
              · obtain rfl : k = n.wals.length := by omega
                have G3 : okWall n.wals = true := by have := hn.out; rwa [List.take_length] at this
                have HV := Lib.hid (show valid n = true from valid_iff.2 ⟨F.out.1, F.out.2.1, F.out.2.2.1, F.out.2.2.2, HW.out, G1.out, G2.out, G3⟩)
                clear hlt hn hk G3
                go_wp2
                go_ret
                exact ⟨ret_int (by rw [HV.out]; rfl), lat_ex⟩

end Go.Proofs.Ytnddiloeikaleaa
namespace Go.Proofs.Ytnddiloeikaleaa
open Go.RowKit
open An

/-- Where a truth's slice lies. -/
structure TruR where
  tA : Option Addr
  tc : Nat
abbrev truV (rt : TruR) (t : Tru) : Value := .agg #[.int .i64 t.wind, .int .i64 t.cur, .slice rt.tA t.grips.length rt.tc]
abbrev TruIs (B : Nat) (w : World) (rt : TruR) (t : Tru) : Prop := Sl encI B w rt.tA rt.tc t.grips
abbrev rowV (r : NetR) (n : Net) (rt : TruR) (t : Tru) : Value := .agg #[.int .i64 n.wind.lo, .int .i64 n.wind.hi, .int .i64 n.cur.lo, .int .i64 n.cur.hi, .slice r.gA n.grips.length r.gc, .slice r.aA n.ancs.length r.ac, .slice r.wA n.wals.length r.wc, .int .i64 t.wind, .int .i64 t.cur, .slice rt.tA t.grips.length rt.tc]

theorem bit_form (s i : Nat) (hs : s < 18446744073709551616) : (bits BinOp.and IntKind.u64 ((s : Int) / 2 ^ i) 1 == 1) = s.testBit i := by
  have h1 : ((s : Int) / 2 ^ i) = ((s / 2 ^ i : Nat) : Int) := by push_cast; rfl
  have h2 : s / 2 ^ i < 18446744073709551616 := Nat.lt_of_le_of_lt (Nat.div_le_self _ _) hs
  rw [h1, show (1 : Int) = ((1 : Nat) : Int) from rfl, u64_and_nat _ _ h2 (by omega), Nat.and_one_is_mod, Nat.testBit_eq_decide_div_mod_eq]
  rw [Bool.eq_iff_iff]
  simp only [beq_iff_eq, decide_eq_true_eq]
  omega

theorem has_c (s i : Nat) (w : World) (hs : s < 18446744073709551616) (hi : i < 64) :
    Calls Try.prog 73 #[.int .u64 s, .int .i64 i] w fun e w' => e = .returned (.bool (s.testBit i)) ∧ w = w' := by
  have hf := Lib.hid (bit_form s i hs)
  go_enter Try.func73, Try.ntmps73
  go_wp2
  go_ret
  exact ⟨ret_bool hf.out, rfl⟩

theorem load_c (x : Wal) (wi cu : Int) (w : World) (hx : okWal x = true) (hw : inB 0 20 wi = true) (hc : inB 0 20 cu = true) :
    Calls Try.prog 72 #[.agg #[.int .i64 x.sail, .int .i64 x.drag, .int .i64 x.lean, .int .i64 x.corks, .int .i64 x.stones], .int .i64 wi, .int .i64 cu] w fun e w' => e = .returned (.int .i64 (ldW x wi cu)) ∧ ∃ δ, w' = lat w δ := by
  have hb := Lib.hid (ldW_bd hx hw hc)
  clear hx hw hc
  go_enter Try.func72, Try.ntmps72
  go_wp2
  go_ret
  refine ⟨ret_int ?_, lat_ex⟩
  have hb := hb.out
  rw [w64 (x := x.sail * wi) (by omega), w64 (x := x.drag * cu) (by omega), w64 (by omega)]
  rfl

/-- One side of what an anchor bears: the closure that adds it up. -/
theorem side_c (n : Net) (t : Tru) (wl ot : Int) (br bd bn : Nat) (wA : Option Addr) (wc : Nat) (dr : Nat) (n0 : Int) (B : Nat) (w : World) [hB : Le B w] [hr : Lt br w] [hd : Lt bd w] [hn : Lt bn w]
    (ht : okTru n t) (h : Sl encWal B w wA wc n.wals)
    (h0 : w.cell? ⟨br, 6, none⟩ = some (.slice wA n.wals.length wc)) (h1 : w.cell? ⟨br, 7, none⟩ = some (.int .i64 t.wind)) (h2 : w.cell? ⟨br, 8, none⟩ = some (.int .i64 t.cur))
    (h3 : w.cell? ⟨bd, 0, none⟩ = some (.int .u64 dr)) (h4 : w.cell? ⟨bn, 0, none⟩ = some (.int .i64 n0)) (h5 : w.frozen? ⟨bn, 0, none⟩ = false)
    (hs : dr < 18446744073709551616) (hi : 0 ≤ wl → wl < n.wals.length → 0 ≤ ot ∧ ot < 64) (hn0 : 0 ≤ n0 ∧ n0 ≤ 1000) :
    Calls Try.prog 71 #[.int .i64 wl, .int .i64 ot, .pointer (some ⟨br, 0, none⟩), .pointer (some ⟨bd, 0, none⟩), .pointer (some ⟨bn, 0, none⟩)] w fun e w' => e = .returned (.tuple #[]) ∧
      ∃ δ, w' = (lat w δ).setCell ⟨bn, 0, none⟩ (.int .i64 (n0 + if 0 ≤ wl ∧ wl < n.wals.length then side n t (fun i => dr.testBit i) wl.toNat ot.toNat else 0)) := by
  have hl := h.len
  by_cases hc : 0 ≤ wl ∧ wl < n.wals.length
  · rw [if_pos hc]
    obtain ⟨wn, rfl⟩ := Int.eq_ofNat_of_zero_le hc.1
    obtain ⟨on, rfl⟩ := Int.eq_ofNat_of_zero_le (hi hc.1 hc.2).1
    have hon := (hi hc.1 hc.2).2
    have hwn : wn < n.wals.length := by omega
    have hx := okWal_nth ht.1 hwn
    have hbd := Lib.hid (ld_bd ht hwn)
    have hsd := Lib.hid (side_bd ht (d := fun i => dr.testBit i) (o := on) hwn)
    obtain ⟨b, o, rfl, hb, k0, k1, k2, k3, k4⟩ := h.wal hwn
    have ib : Lt b w := ⟨Nat.lt_of_lt_of_le hb hB.out⟩
    have hlt : (wn : Int) < (n.wals.length : Int) := by omega
    have hnn : ¬ (wn : Int) < 0 := by omega
    have hc1 := ht.2.1
    have hc2 := ht.2.2.1
    have HE : Hid (ldW (nth n.wals wn) t.wind t.cur = ld n t wn) := Lib.hid rfl
    clear hi hc ht h
    by_cases hbit : dr.testBit on = true
    all_goals try rw [Bool.not_eq_true] at hbit
    all_goals
      go_enter Try.func71, Try.ntmps71
      go_wp2_with (fail)
      refine wp_region_lat (by kernel_rfl) (by kernel_rfl) ?_
      repeat (go_big_quiet_step ((go_at_call 72; exact Calls.lat_of (load_c _ _ _ _ (by assumption) (by assumption) (by assumption)))))
      refine wpQuiet_nil ?_
      rintro _ ⟨δ, rfl⟩
      go_wp2_with (go_at_call 73; refine (has_c _ _ _ (by omega) (by omega)).mono ?_; rintro e w1 ⟨rfl, rfl⟩)
      go_end0
      refine ⟨rfl, δ, ?_⟩
      have hbd := hbd.out
      have hsd := hsd.out
      congr 2
      simp only [Int.toNat_natCast, side, hbit, HE.out, if_true] at *
      first
        | (rw [w64 (x := ld n t wn * 2) (by omega), w64 (by omega)]; done)
        | (simp only [Bool.false_eq_true, if_false, Int.mul_one] at *; rw [w64 (by omega)])
  · rw [if_neg hc, Int.add_zero]
    have hse : w.setCell ⟨bn, 0, none⟩ (.int .i64 n0) = w := setCell_self h4
    have HS := Lib.hid hse
    have hc' : wl < 0 ∨ ¬ wl < 0 ∧ (n.wals.length : Int) ≤ wl := by omega
    clear hse hc hi
    rcases hc' with h' | ⟨h'', h'⟩
    all_goals
      go_enter Try.func71, Try.ntmps71
      go_wp2
      refine bodyPost_ret (results_none rfl _ _ _) rfl ?_
      exact ⟨rfl, w, by rw [lat_refl, HS.out]⟩

end Go.Proofs.Ytnddiloeikaleaa
namespace Go.Proofs.Ytnddiloeikaleaa
open Go.RowKit
open An

theorem bears_eq (n : Net) (t : Tru) (i : Nat) (d : Nat → Bool) :
    (if (0 : Int) ≤ (i : Int) - 1 ∧ (i : Int) - 1 < n.wals.length then side n t d ((i : Int) - 1).toNat ((i : Int) - 1).toNat else 0) + (if (0 : Int) ≤ (i : Int) ∧ (i : Int) < n.wals.length then side n t d (i : Int).toNat ((i : Int) + 1).toNat else 0) = (if 0 < i ∧ i - 1 < n.wals.length then side n t d (i - 1) (i - 1) else 0) + (if i < n.wals.length then side n t d i (i + 1) else 0) := by
  have e1 : ((i : Int) - 1).toNat = i - 1 := by omega
  have e2 : ((i : Int) + 1).toNat = i + 1 := by omega
  rw [e1, e2, Int.toNat_natCast]
  congr 1
  · by_cases h : 0 < i ∧ i - 1 < n.wals.length
    · rw [if_pos h, if_pos (by omega)]
    · rw [if_neg h, if_neg (by omega)]
  · by_cases h : i < n.wals.length
    · rw [if_pos h, if_pos (by omega)]
    · rw [if_neg h, if_neg (by omega)]

/-- .. in a world that w0 grew into, but for the sum. -/
theorem side_c' (n : Net) (t : Tru) (wl ot : Int) (br bd bn : Nat) (wA : Option Addr) (wc : Nat) (dr : Nat) (n0 : Int) (v0 : Value) (B : Nat) (w0 δ0 : World) [hB : Le B w0] [hr : Lt br w0] [hd : Lt bd w0] [hn : Lt bn w0] [hb : LeN B bn]
    (ht : okTru n t) (h : Sl encWal B w0 wA wc n.wals) (hne : br ≠ bn) (hne' : bd ≠ bn)
    (h0 : w0.cell? ⟨br, 6, none⟩ = some (.slice wA n.wals.length wc)) (h1 : w0.cell? ⟨br, 7, none⟩ = some (.int .i64 t.wind)) (h2 : w0.cell? ⟨br, 8, none⟩ = some (.int .i64 t.cur))
    (h3 : w0.cell? ⟨bd, 0, none⟩ = some (.int .u64 dr)) (h4 : w0.cell? ⟨bn, 0, none⟩ = some v0) (h5 : w0.frozen? ⟨bn, 0, none⟩ = false)
    (hs : dr < 18446744073709551616) (hi : 0 ≤ wl → wl < n.wals.length → 0 ≤ ot ∧ ot < 64) (hn0 : 0 ≤ n0 ∧ n0 ≤ 1000) :
    Calls Try.prog 71 #[.int .i64 wl, .int .i64 ot, .pointer (some ⟨br, 0, none⟩), .pointer (some ⟨bd, 0, none⟩), .pointer (some ⟨bn, 0, none⟩)] ((lat w0 δ0).setCell ⟨bn, 0, none⟩ (.int .i64 n0)) fun e w' => e = .returned (.tuple #[]) ∧
      ∃ δ, w' = (lat w0 δ).setCell ⟨bn, 0, none⟩ (.int .i64 (n0 + if 0 ≤ wl ∧ wl < n.wals.length then side n t (fun i => dr.testBit i) wl.toNat ot.toNat else 0)) := by
  have e0 : ∀ b o, Lt b w0 → b ≠ bn → ((lat w0 δ0).setCell ⟨bn, 0, none⟩ (.int .i64 n0)).cell? ⟨b, o, none⟩ = w0.cell? ⟨b, o, none⟩ := fun b o _ hne => by
    rw [World.cell?_setCell_other _ _ _ _ (by simp), cell_lat]
  refine (side_c n t wl ot br bd bn wA wc dr n0 B _ ht h.up (by rw [e0 _ _ hr hne]; exact h0) (by rw [e0 _ _ hr hne]; exact h1) (by rw [e0 _ _ hr hne]; exact h2) (by rw [e0 _ _ hd hne']; exact h3)
    (World.cell?_setCell_same _ _ _ (u := v0) (by rw [cell_lat]; exact h4)) (by go_simp) hs hi hn0).mono ?_
  rintro e w' ⟨rfl, δ, rfl⟩
  obtain ⟨δ', hδ⟩ := lat_set_lat (w0 := w0) δ0 δ (.int .i64 n0) (.int .i64 (n0 + if 0 ≤ wl ∧ wl < n.wals.length then side n t (fun i => dr.testBit i) wl.toNat ot.toNat else 0)) h4
  exact ⟨rfl, δ', hδ⟩

theorem bears_c (r : NetR) (n : Net) (rt : TruR) (t : Tru) (i : Nat) (dr : Nat) (B : Nat) (w : World) [hB : Le B w] (h : NetIs B w r n) (ht : okTru n t) (hi : i < n.ancs.length) (hs : dr < 18446744073709551616) :
    Calls Try.prog 59 #[rowV r n rt t, .int .i64 i, .int .u64 dr] w fun e w' => e = .returned (.int .i64 (bears n t i (fun k => dr.testBit k))) ∧ ∃ δ, w' = lat w δ := by
  have hv := valid_iff.1 ht.1
  have hw := hv.2.2.2.2.1
  have h6 := hv.2.2.2.1
  have hbd := bears_bd ht (d := fun k => dr.testBit k) hi
  have s1 : ∀ k o, k < n.wals.length → 0 ≤ side n t (fun k => dr.testBit k) k o ∧ side n t (fun k => dr.testBit k) k o ≤ 720 := fun k o hk => side_bd ht hk
  have hX : ∃ X : Int, X = (if (0 : Int) ≤ (i : Int) - 1 ∧ (i : Int) - 1 < n.wals.length then side n t (fun k => dr.testBit k) ((i : Int) - 1).toNat ((i : Int) - 1).toNat else 0) ∧ 0 ≤ X ∧ X ≤ 720 := by
    refine ⟨_, rfl, ?_⟩
    split
    · exact s1 _ _ (by omega)
    · omega
  obtain ⟨X, hX, x0, x1⟩ := hX
  have hE : bears n t i (fun k => dr.testBit k) = X + (if (0 : Int) ≤ (i : Int) ∧ (i : Int) < n.wals.length then side n t (fun k => dr.testBit k) (i : Int).toNat ((i : Int) + 1).toNat else 0) := by
    rw [hX, bears_eq]
    unfold bears
    congr 1
    by_cases h0 : 0 < i
    · rw [if_pos h0, if_pos ⟨h0, by omega⟩]
    · rw [if_neg h0, if_neg (fun h => h0 h.1)]
  have HX := Lib.hid hX
  have HE := Lib.hid hE
  have HW := Lib.hid hw
  clear hX hE s1 hv hw
  go_enter Try.func59, Try.ntmps59
  go_wp2_with (fail)
  refine wp_set (b := w.heap.size + 1 + 1) (i := 0) (v := .int .i64 0) (by go_simp) ?_
  refine (side_c' n t _ _ w.heap.size _ _ r.wA r.wc dr 0 (.int .i64 0) B _ _ ht h.2.2.up (by omega) (by omega) (by go_simp) (by go_simp) (by go_simp) (by go_simp) (by go_simp) (by go_simp) hs (by have := HW.out; omega) (by omega)).mono ?_
  rintro e w1 ⟨rfl, δ, rfl⟩
  rw [← HX.out, Int.zero_add]
  go_wp2_with (fail)
  refine (side_c' n t _ _ w.heap.size _ _ r.wA r.wc dr X (.int .i64 0) B _ _ ht h.2.2.up (by omega) (by omega) (by go_simp) (by go_simp) (by go_simp) (by go_simp) (by go_simp) (by go_simp) hs (by have := HW.out; omega) (by omega)).mono ?_
  rintro e w1 ⟨rfl, δ1, rfl⟩
  rw [← HE.out]
  go_wp2_with (fail)
  go_ret
  exact ⟨rfl, lat_ex⟩

theorem spare_c (r : NetR) (n : Net) (rt : TruR) (t : Tru) (i : Nat) (dr : Nat) (B : Nat) (w : World) [hB : Le B w] (h : NetIs B w r n) (h' : TruIs B w rt t) (ht : okTru n t) (hi : i < n.ancs.length) (hs : dr < 18446744073709551616) :
    Calls Try.prog 33 #[rowV r n rt t, .int .i64 i, .int .u64 dr] w fun e w' => e = .returned (.int .i64 (spare n t i (fun k => dr.testBit k))) ∧ ∃ δ, w' = lat w δ := by
  have hbd := Lib.hid (bears_bd ht (d := fun k => dr.testBit k) hi)
  have hcd := can_bd ht hi
  have l1 := h'.len
  obtain ⟨b, o, hA, hb, k0, k1⟩ := h.2.1.anc hi
  have ib : Lt b w := ⟨Nat.lt_of_lt_of_le hb hB.out⟩
  obtain ⟨b', o', hA', hb', k2⟩ := h'.int hcd.2.2.2.1
  have ib' : Lt b' w := ⟨Nat.lt_of_lt_of_le hb' hB.out⟩
  have hii : (i : Int) < (n.ancs.length : Int) := by omega
  have hi0 : ¬ (i : Int) < 0 := by omega
  have hj0 : (nth n.ancs i).bt < (t.grips.length : Int) := by omega
  have hj1 : ¬ (nth n.ancs i).bt < 0 := by omega
  have HC := Lib.hid hcd
  have HA := Lib.hid hA
  have HA' := Lib.hid hA'
  have H := Lib.hid h
  clear hcd hA hA'
  go_enter Try.func33, Try.ntmps33
  rw [show rowV r n rt t = Value.agg #[.int .i64 n.wind.lo, .int .i64 n.wind.hi, .int .i64 n.cur.lo, .int .i64 n.cur.hi, .slice r.gA n.grips.length r.gc, .slice r.aA n.ancs.length r.ac, .slice r.wA n.wals.length r.wc, .int .i64 t.wind, .int .i64 t.cur, .slice rt.tA t.grips.length rt.tc] from rfl]
  rw [HA.out, HA'.out]
  go_wp2_with (fail)
  refine wp_region_lat (by kernel_rfl) (by kernel_rfl) ?_
  repeat (go_big_quiet_step ((rw [← HA.out, ← HA'.out]; go_at_call 59; exact Calls.lat_of (bears_c r n rt t i dr B _ H.out.up ht hi hs))))
  refine wpQuiet_nil ?_
  rintro _ ⟨δ, rfl⟩
  go_wp2_with (fail)
  go_ret
  refine ⟨ret_int ?_, lat_ex⟩
  have HC := HC.out
  have hbd := hbd.out
  have e : 2 * (nth n.ancs i).wt * nth t.grips (nth n.ancs i).bt.toNat = can n t i := rfl
  rw [w64 (x := 2 * (nth n.ancs i).wt) (by omega), e, w64 (x := can n t i) (by omega), w64 (by omega)]
  rfl

end Go.Proofs.Ytnddiloeikaleaa
namespace Go.Proofs.Ytnddiloeikaleaa
open Go.RowKit
open An

theorem with_c (s i : Nat) (w : World) (hs : s < 18446744073709551616) (hi : i < 6) :
    Calls Try.prog 75 #[.int .u64 s, .int .i64 i] w fun e w' => e = .returned (.int .u64 ((s ||| 2 ^ i : Nat) : Int)) ∧ w = w' := by
  have key : ∀ (j : Nat) (p : Nat), p < 18446744073709551616 → p = 2 ^ j → bits .or .u64 (s : Int) (p : Int) = ((s ||| 2 ^ j : Nat) : Int) := by
    intro j p hp he
    rw [u64_or_nat s p hs hp, he]
  have K0 := Lib.hid (key 0 1 (by omega) rfl)
  have K1 := Lib.hid (key 1 2 (by omega) rfl)
  have K2 := Lib.hid (key 2 4 (by omega) rfl)
  have K3 := Lib.hid (key 3 8 (by omega) rfl)
  have K4 := Lib.hid (key 4 16 (by omega) rfl)
  have K5 := Lib.hid (key 5 32 (by omega) rfl)
  clear key
  match i, hi with
  | 0, _ => 
    go_enter Try.func75, Try.ntmps75
    go_wp2
    go_ret
    exact ⟨ret_int K0.out, rfl⟩
  | 1, _ => 
    go_enter Try.func75, Try.ntmps75
    go_wp2
    go_ret
    exact ⟨ret_int K1.out, rfl⟩
  | 2, _ => 
    go_enter Try.func75, Try.ntmps75
    go_wp2
    go_ret
    exact ⟨ret_int K2.out, rfl⟩
  | 3, _ => 
    go_enter Try.func75, Try.ntmps75
    go_wp2
    go_ret
    exact ⟨ret_int K3.out, rfl⟩
  | 4, _ => 
    go_enter Try.func75, Try.ntmps75
    go_wp2
    go_ret
    exact ⟨ret_int K4.out, rfl⟩
  | 5, _ => 
    go_enter Try.func75, Try.ntmps75
    go_wp2
    go_ret
    exact ⟨ret_int K5.out, rfl⟩

theorem step_c (r : NetR) (n : Net) (rt : TruR) (t : Tru) (dr : Nat) (B : Nat) (w : World) [hB : Le B w] (h : NetIs B w r n) (h' : TruIs B w rt t) (ht : okTru n t) (hs : dr < 64) :
    Calls Try.prog 66 #[rowV r n rt t, .int .u64 dr] w fun e w' => e = .returned (.int .u64 (stepM n t dr)) ∧ ∃ δ, w' = lat w δ := by
  have hv := valid_iff.1 ht.1
  have h6 := hv.2.2.2.1
  clear hv
  go_enter Try.func66, Try.ntmps66
  go_wp2_with (fail)
  go_loopw [5, 12] (fun o i wr => ∃ (k : Nat) (δ : World), k ≤ n.ancs.length ∧ i = .int .i64 k ∧ o = .int .u64 (stepTo n t dr k) ∧ wr = lat (w.alloc (.cells #[.int .i64 n.wind.lo, .int .i64 n.wind.hi, .int .i64 n.cur.lo, .int .i64 n.cur.hi, .slice r.gA n.grips.length r.gc, .slice r.aA n.ancs.length r.ac, .slice r.wA n.wals.length r.wc, .int .i64 t.wind, .int .i64 t.cur, .slice rt.tA t.grips.length rt.tc] 76)) δ) (fun _ i _ => n.ancs.length - (intOf i).toNat)
  case atStart => exact ⟨0, _, Nat.zero_le _, rfl, rfl, (lat_refl _).symm⟩
  case round =>
    obtain ⟨k, δ, hk, rfl, rfl, rfl⟩ := hrel
    by_cases hlt : k < n.ancs.length
    · have hlo := stepTo_lt n t dr k hs (by omega)
      by_cases hb : dr.testBit k = true
      all_goals try rw [Bool.not_eq_true] at hb
      · have HN := Lib.hid (show stepTo n t dr (k + 1) = stepTo n t dr k by simp [stepTo, hb])
        go_wp2_with (go_at_call 73; refine (has_c _ _ _ (by omega) (by omega)).mono ?_; rintro e w1 ⟨rfl, rfl⟩)
        go_roundw
        case rel => exact ⟨k + 1, _, by omega, by go_num, by rw [HN.out], rfl⟩
        case measure => simp [intOf]; omega
      · by_cases hsp : spare n t k (fun i => dr.testBit i) < 0
        all_goals
          have hsp' := hsp
        · have HN := Lib.hid (show stepTo n t dr (k + 1) = stepTo n t dr k ||| 2 ^ k by simp [stepTo, hb, hsp])
          clear hsp'
          go_wp2_with (first
            | (go_at_call 73; refine (has_c _ _ _ (by omega) (by omega)).mono ?_; rintro e w1 ⟨rfl, rfl⟩)
            | (go_at_call 33; refine (spare_c r n rt t k dr B _ h.up h'.up ht hlt (by omega)).mono ?_; rintro e w1 ⟨rfl, δ1, rfl⟩)
            | (go_at_call 75; refine (with_c _ _ _ (by omega) (by omega)).mono ?_; rintro e w1 ⟨rfl, rfl⟩))
          go_roundw
          case rel => exact ⟨k + 1, _, by omega, by go_num, by rw [HN.out], lat_lat _ _ _⟩
          case measure => simp [intOf]; omega
        · have HN := Lib.hid (show stepTo n t dr (k + 1) = stepTo n t dr k by simp [stepTo, hb, hsp])
          clear hsp'
          go_wp2_with (first
            | (go_at_call 73; refine (has_c _ _ _ (by omega) (by omega)).mono ?_; rintro e w1 ⟨rfl, rfl⟩)
            | (go_at_call 33; refine (spare_c r n rt t k dr B _ h.up h'.up ht hlt (by omega)).mono ?_; rintro e w1 ⟨rfl, δ1, rfl⟩))
          go_roundw
          case rel => exact ⟨k + 1, _, by omega, by go_num, by rw [HN.out], lat_lat _ _ _⟩
          case measure => simp [intOf]; omega
    · obtain rfl : k = n.ancs.length := by omega
      go_wp2
      go_ret
      exact ⟨rfl, lat_ex⟩

end Go.Proofs.Ytnddiloeikaleaa
namespace Go.Proofs.Ytnddiloeikaleaa
open Go.RowKit
open An

theorem slI : SlT Try.prog 34 3 (.int .i64 0) 1 8 := SlT.mk Try.underlying34 (by kernel_rfl) rfl (by omega)

def worstT (n : Net) : Tru := ⟨n.wind.hi, n.cur.hi, n.grips.map (·.lo)⟩
def bestT (n : Net) : Tru := ⟨n.wind.lo, n.cur.lo, n.grips.map (·.hi)⟩

set_option maxHeartbeats 1000000 in
theorem worst_c (r : NetR) (n : Net) (B : Nat) (w : World) [hB : Le B w] (h : NetIs B w r n) (h3 : n.grips.length ≤ 3) :
    Calls Try.prog 29 #[netV r n] w fun e w' => ∃ (rt : TruR) (δ : World), e = .returned (rowV r n rt (worstT n)) ∧ w' = lat w δ ∧ TruIs (lat w δ).heap.size (lat w δ) rt (worstT n) := by
  go_enter Try.func29, Try.ntmps29
  go_wp2_with (fail)
  refine wp_name fun W1 hW1 => ?_
  have iw1 : Le B W1 := by rw [hW1.out]; infer_instance
  have iw2 : Grew B w W1 := by rw [hW1.out]; infer_instance
  have iw3 : Le w.heap.size W1 := by rw [hW1.out]; infer_instance
  have iw4 : Grew w.heap.size w W1 := by rw [hW1.out]; infer_instance
  have iw5 : Lt (w.heap.size) W1 := by rw [hW1.out]; infer_instance
  have iw6 : Lt (w.heap.size + 1) W1 := by rw [hW1.out]; infer_instance
  have iw7 : Lt (w.heap.size + 1 + 1) W1 := by rw [hW1.out]; infer_instance
  have cw8 : W1.cell? ⟨w.heap.size, 0, none⟩ = some (.int .i64 n.wind.lo) := by rw [hW1.out]; go_simp
  have cw9 : W1.cell? ⟨w.heap.size, 1, none⟩ = some (.int .i64 n.wind.hi) := by rw [hW1.out]; go_simp
  have cw10 : W1.cell? ⟨w.heap.size, 2, none⟩ = some (.int .i64 n.cur.lo) := by rw [hW1.out]; go_simp
  have cw11 : W1.cell? ⟨w.heap.size, 3, none⟩ = some (.int .i64 n.cur.hi) := by rw [hW1.out]; go_simp
  have cw12 : W1.cell? ⟨w.heap.size, 4, none⟩ = some (.slice r.gA n.grips.length r.gc) := by rw [hW1.out]; go_simp
  have cw13 : W1.cell? ⟨w.heap.size, 5, none⟩ = some (.slice r.aA n.ancs.length r.ac) := by rw [hW1.out]; go_simp
  have cw14 : W1.cell? ⟨w.heap.size, 6, none⟩ = some (.slice r.wA n.wals.length r.wc) := by rw [hW1.out]; go_simp
  have cw15 : W1.cell? ⟨w.heap.size + 1, 0, none⟩ = some (.int .i64 0) := by rw [hW1.out]; go_simp
  have cw16 : W1.cell? ⟨w.heap.size + 1, 1, none⟩ = some (.int .i64 0) := by rw [hW1.out]; go_simp
  have cw17 : W1.cell? ⟨w.heap.size + 1, 2, none⟩ = some (.int .i64 0) := by rw [hW1.out]; go_simp
  have cw18 : W1.cell? ⟨w.heap.size + 1, 3, none⟩ = some (.int .i64 0) := by rw [hW1.out]; go_simp
  have cw19 : W1.cell? ⟨w.heap.size + 1, 4, none⟩ = some (.slice none 0 0) := by rw [hW1.out]; go_simp
  have cw20 : W1.cell? ⟨w.heap.size + 1, 5, none⟩ = some (.slice none 0 0) := by rw [hW1.out]; go_simp
  have cw21 : W1.cell? ⟨w.heap.size + 1, 6, none⟩ = some (.slice none 0 0) := by rw [hW1.out]; go_simp
  have cw22 : W1.cell? ⟨w.heap.size + 1, 7, none⟩ = some (.int .i64 0) := by rw [hW1.out]; go_simp
  have cw23 : W1.cell? ⟨w.heap.size + 1, 8, none⟩ = some (.int .i64 0) := by rw [hW1.out]; go_simp
  have cw24 : W1.cell? ⟨w.heap.size + 1, 9, none⟩ = some (.slice none 0 0) := by rw [hW1.out]; go_simp
  have fw25 : W1.frozen? ⟨w.heap.size + 1, 0, none⟩ = false := by rw [hW1.out]; go_simp
  have fw26 : W1.frozen? ⟨w.heap.size + 1, 1, none⟩ = false := by rw [hW1.out]; go_simp
  have fw27 : W1.frozen? ⟨w.heap.size + 1, 2, none⟩ = false := by rw [hW1.out]; go_simp
  have fw28 : W1.frozen? ⟨w.heap.size + 1, 3, none⟩ = false := by rw [hW1.out]; go_simp
  have fw29 : W1.frozen? ⟨w.heap.size + 1, 4, none⟩ = false := by rw [hW1.out]; go_simp
  have fw30 : W1.frozen? ⟨w.heap.size + 1, 5, none⟩ = false := by rw [hW1.out]; go_simp
  have fw31 : W1.frozen? ⟨w.heap.size + 1, 6, none⟩ = false := by rw [hW1.out]; go_simp
  have fw32 : W1.frozen? ⟨w.heap.size + 1, 7, none⟩ = false := by rw [hW1.out]; go_simp
  have fw33 : W1.frozen? ⟨w.heap.size + 1, 8, none⟩ = false := by rw [hW1.out]; go_simp
  have fw34 : W1.frozen? ⟨w.heap.size + 1, 9, none⟩ = false := by rw [hW1.out]; go_simp
  have cw35 : W1.cell? ⟨w.heap.size + 1 + 1, 0, none⟩ = some (.int .i64 n.wind.hi) := by rw [hW1.out]; go_simp
  have cw36 : W1.cell? ⟨w.heap.size + 1 + 1, 1, none⟩ = some (.int .i64 n.cur.hi) := by rw [hW1.out]; go_simp
  have cw37 : W1.cell? ⟨w.heap.size + 1 + 1, 2, none⟩ = some (.slice none 0 0) := by rw [hW1.out]; go_simp
  have fw38 : W1.frozen? ⟨w.heap.size + 1 + 1, 2, none⟩ = false := by rw [hW1.out]; go_simp
  have s1 : Sl encSp B W1 r.gA r.gc n.grips := h.1.up
  have hlen := s1.len
  go_loopw [16] (fun i wr => ∃ (k : Nat) (A : Option Addr) (c : Nat), k ≤ n.grips.length ∧ i = .int .i64 k ∧ wr.ownsRow W1.heap.size 3 1 (.slice A k c) k (((n.grips.map (·.lo)).take k).flatMap encI) ∧ ∃ δ, wr = (lat W1 δ).setCell ⟨w.heap.size + 1 + 1, 2, none⟩ (.slice A k c)) (fun i _ => n.grips.length - (intOf i).toNat)
  case atStart =>
    refine ⟨0, none, 0, Nat.zero_le _, rfl, by simpa using World.ownsRow_nil _ _ _ _, W1, ?_⟩
    rw [lat_refl, setCell_self (by assumption)]
  case round =>
    obtain ⟨k, A, c, hk, rfl, hown, δ, rfl⟩ := hrel
    by_cases hlt : k < n.grips.length
    · obtain ⟨b, o, hA, hb, d0, d1⟩ := s1.sp hlt
      have ib : Lt b W1 := ⟨Nat.lt_of_lt_of_le hb iw1.out⟩
      have in1 : NeN b (w.heap.size + 1 + 1) := ⟨by have := hB.out; omega⟩
      have HA := Lib.hid hA
      have HO := Lib.hid hown
      clear hA hown
      rw [HA.out]
      go_wp2_with (at_builtin; (refine wpList_append_new W1 slI (.tmp 21) (.tmp 24) rfl rfl (HO.out.alloc _) rfl rfl (by go_simp) rfl (by simp [Value.oneCell']) (by omega) (by omega) ?_); intro A' c' δ' hown')
      go_roundw
      case rel =>
        refine ⟨k + 1, A', c', by omega, by go_num, ?_, set_back (w0 := W1) δ (.slice A k c) (.slice A' (k + 1) c') (by assumption) below_inst⟩
        have := ownsRow_setCell_below hown' (a := ⟨w.heap.size + 1 + 1, 2, none⟩) iw7.out (.slice A' (k + 1) c')
        rw [flatMap_snoc encI (n.grips.map (·.lo)) (by simpa using hlt), nth_map _ _ hlt]
        exact this
      case measure => simp [intOf]; omega
    · obtain rfl : k = n.grips.length := by omega
      have HO := Lib.hid hown
      clear hown
      have in2 : NeN (w.heap.size + 1) (w.heap.size + 1 + 1) := ⟨by omega⟩
      go_wp2_with (fail)
      refine bodyPost_ret (v := rowV r n ⟨A, c⟩ (worstT n)) ?_ rfl ?_
      · simp only [results, Try.results29]
        go_simp
        simp [worstT]
      · refine ⟨⟨A, c⟩, _, rfl, lat_def, ?_⟩
        rw [← lat_def (w := w)]
        have H1 := HO.out
        rw [List.take_of_length_le (by simp)] at H1
        refine Sl.of_own (base := W1.heap.size) (e := 3) (size := 1) ?_
        rw [show (worstT n).grips.length = n.grips.length by simp [worstT]]
        show (_ : World).ownsRow W1.heap.size 3 1 _ _ ((n.grips.map (·.lo)).flatMap encI)
        iterate 10 (refine ownsRow_setCell_below (a := ⟨_, _, _⟩) ?_ iw6.out _)
        exact H1

set_option maxHeartbeats 1000000 in
theorem best_c (r : NetR) (n : Net) (B : Nat) (w : World) [hB : Le B w] (h : NetIs B w r n) (h3 : n.grips.length ≤ 3) :
    Calls Try.prog 30 #[netV r n] w fun e w' => ∃ (rt : TruR) (δ : World), e = .returned (rowV r n rt (bestT n)) ∧ w' = lat w δ ∧ TruIs (lat w δ).heap.size (lat w δ) rt (bestT n) := by
  go_enter Try.func30, Try.ntmps30
  go_wp2_with (fail)
  refine wp_name fun W1 hW1 => ?_
  have iw1 : Le B W1 := by rw [hW1.out]; infer_instance
  have iw2 : Grew B w W1 := by rw [hW1.out]; infer_instance
  have iw3 : Le w.heap.size W1 := by rw [hW1.out]; infer_instance
  have iw4 : Grew w.heap.size w W1 := by rw [hW1.out]; infer_instance
  have iw5 : Lt (w.heap.size) W1 := by rw [hW1.out]; infer_instance
  have iw6 : Lt (w.heap.size + 1) W1 := by rw [hW1.out]; infer_instance
  have iw7 : Lt (w.heap.size + 1 + 1) W1 := by rw [hW1.out]; infer_instance
  have cw8 : W1.cell? ⟨w.heap.size, 0, none⟩ = some (.int .i64 n.wind.lo) := by rw [hW1.out]; go_simp
  have cw9 : W1.cell? ⟨w.heap.size, 1, none⟩ = some (.int .i64 n.wind.hi) := by rw [hW1.out]; go_simp
  have cw10 : W1.cell? ⟨w.heap.size, 2, none⟩ = some (.int .i64 n.cur.lo) := by rw [hW1.out]; go_simp
  have cw11 : W1.cell? ⟨w.heap.size, 3, none⟩ = some (.int .i64 n.cur.hi) := by rw [hW1.out]; go_simp
  have cw12 : W1.cell? ⟨w.heap.size, 4, none⟩ = some (.slice r.gA n.grips.length r.gc) := by rw [hW1.out]; go_simp
  have cw13 : W1.cell? ⟨w.heap.size, 5, none⟩ = some (.slice r.aA n.ancs.length r.ac) := by rw [hW1.out]; go_simp
  have cw14 : W1.cell? ⟨w.heap.size, 6, none⟩ = some (.slice r.wA n.wals.length r.wc) := by rw [hW1.out]; go_simp
  have cw15 : W1.cell? ⟨w.heap.size + 1, 0, none⟩ = some (.int .i64 0) := by rw [hW1.out]; go_simp
  have cw16 : W1.cell? ⟨w.heap.size + 1, 1, none⟩ = some (.int .i64 0) := by rw [hW1.out]; go_simp
  have cw17 : W1.cell? ⟨w.heap.size + 1, 2, none⟩ = some (.int .i64 0) := by rw [hW1.out]; go_simp
  have cw18 : W1.cell? ⟨w.heap.size + 1, 3, none⟩ = some (.int .i64 0) := by rw [hW1.out]; go_simp
  have cw19 : W1.cell? ⟨w.heap.size + 1, 4, none⟩ = some (.slice none 0 0) := by rw [hW1.out]; go_simp
  have cw20 : W1.cell? ⟨w.heap.size + 1, 5, none⟩ = some (.slice none 0 0) := by rw [hW1.out]; go_simp
  have cw21 : W1.cell? ⟨w.heap.size + 1, 6, none⟩ = some (.slice none 0 0) := by rw [hW1.out]; go_simp
  have cw22 : W1.cell? ⟨w.heap.size + 1, 7, none⟩ = some (.int .i64 0) := by rw [hW1.out]; go_simp
  have cw23 : W1.cell? ⟨w.heap.size + 1, 8, none⟩ = some (.int .i64 0) := by rw [hW1.out]; go_simp
  have cw24 : W1.cell? ⟨w.heap.size + 1, 9, none⟩ = some (.slice none 0 0) := by rw [hW1.out]; go_simp
  have fw25 : W1.frozen? ⟨w.heap.size + 1, 0, none⟩ = false := by rw [hW1.out]; go_simp
  have fw26 : W1.frozen? ⟨w.heap.size + 1, 1, none⟩ = false := by rw [hW1.out]; go_simp
  have fw27 : W1.frozen? ⟨w.heap.size + 1, 2, none⟩ = false := by rw [hW1.out]; go_simp
  have fw28 : W1.frozen? ⟨w.heap.size + 1, 3, none⟩ = false := by rw [hW1.out]; go_simp
  have fw29 : W1.frozen? ⟨w.heap.size + 1, 4, none⟩ = false := by rw [hW1.out]; go_simp
  have fw30 : W1.frozen? ⟨w.heap.size + 1, 5, none⟩ = false := by rw [hW1.out]; go_simp
  have fw31 : W1.frozen? ⟨w.heap.size + 1, 6, none⟩ = false := by rw [hW1.out]; go_simp
  have fw32 : W1.frozen? ⟨w.heap.size + 1, 7, none⟩ = false := by rw [hW1.out]; go_simp
  have fw33 : W1.frozen? ⟨w.heap.size + 1, 8, none⟩ = false := by rw [hW1.out]; go_simp
  have fw34 : W1.frozen? ⟨w.heap.size + 1, 9, none⟩ = false := by rw [hW1.out]; go_simp
  have cw35 : W1.cell? ⟨w.heap.size + 1 + 1, 0, none⟩ = some (.int .i64 n.wind.lo) := by rw [hW1.out]; go_simp
  have cw36 : W1.cell? ⟨w.heap.size + 1 + 1, 1, none⟩ = some (.int .i64 n.cur.lo) := by rw [hW1.out]; go_simp
  have cw37 : W1.cell? ⟨w.heap.size + 1 + 1, 2, none⟩ = some (.slice none 0 0) := by rw [hW1.out]; go_simp
  have fw38 : W1.frozen? ⟨w.heap.size + 1 + 1, 2, none⟩ = false := by rw [hW1.out]; go_simp
  have s1 : Sl encSp B W1 r.gA r.gc n.grips := h.1.up
  have hlen := s1.len
  go_loopw [16] (fun i wr => ∃ (k : Nat) (A : Option Addr) (c : Nat), k ≤ n.grips.length ∧ i = .int .i64 k ∧ wr.ownsRow W1.heap.size 3 1 (.slice A k c) k (((n.grips.map (·.hi)).take k).flatMap encI) ∧ ∃ δ, wr = (lat W1 δ).setCell ⟨w.heap.size + 1 + 1, 2, none⟩ (.slice A k c)) (fun i _ => n.grips.length - (intOf i).toNat)
  case atStart =>
    refine ⟨0, none, 0, Nat.zero_le _, rfl, by simpa using World.ownsRow_nil _ _ _ _, W1, ?_⟩
    rw [lat_refl, setCell_self (by assumption)]
  case round =>
    obtain ⟨k, A, c, hk, rfl, hown, δ, rfl⟩ := hrel
    by_cases hlt : k < n.grips.length
    · obtain ⟨b, o, hA, hb, d0, d1⟩ := s1.sp hlt
      have ib : Lt b W1 := ⟨Nat.lt_of_lt_of_le hb iw1.out⟩
      have in1 : NeN b (w.heap.size + 1 + 1) := ⟨by have := hB.out; omega⟩
      have HA := Lib.hid hA
      have HO := Lib.hid hown
      clear hA hown
      rw [HA.out]
      go_wp2_with (at_builtin; (refine wpList_append_new W1 slI (.tmp 21) (.tmp 24) rfl rfl (HO.out.alloc _) rfl rfl (by go_simp) rfl (by simp [Value.oneCell']) (by omega) (by omega) ?_); intro A' c' δ' hown')
      go_roundw
      case rel =>
        refine ⟨k + 1, A', c', by omega, by go_num, ?_, set_back (w0 := W1) δ (.slice A k c) (.slice A' (k + 1) c') (by assumption) below_inst⟩
        have := ownsRow_setCell_below hown' (a := ⟨w.heap.size + 1 + 1, 2, none⟩) iw7.out (.slice A' (k + 1) c')
        rw [flatMap_snoc encI (n.grips.map (·.hi)) (by simpa using hlt), nth_map _ _ hlt]
        exact this
      case measure => simp [intOf]; omega
    · obtain rfl : k = n.grips.length := by omega
      have HO := Lib.hid hown
      clear hown
      have in2 : NeN (w.heap.size + 1) (w.heap.size + 1 + 1) := ⟨by omega⟩
      go_wp2_with (fail)
      refine bodyPost_ret (v := rowV r n ⟨A, c⟩ (bestT n)) ?_ rfl ?_
      · simp only [results, Try.results30]
        go_simp
        simp [bestT]
      · refine ⟨⟨A, c⟩, _, rfl, lat_def, ?_⟩
        rw [← lat_def (w := w)]
        have H1 := HO.out
        rw [List.take_of_length_le (by simp)] at H1
        refine Sl.of_own (base := W1.heap.size) (e := 3) (size := 1) ?_
        rw [show (bestT n).grips.length = n.grips.length by simp [bestT]]
        show (_ : World).ownsRow W1.heap.size 3 1 _ _ ((n.grips.map (·.hi)).flatMap encI)
        iterate 10 (refine ownsRow_setCell_below (a := ⟨_, _, _⟩) ?_ iw6.out _)
        exact H1

end Go.Proofs.Ytnddiloeikaleaa
namespace Go.Proofs.Ytnddiloeikaleaa
open Go.RowKit
open An

/-- Where the table of the lowest bits is asked. -/
def tzOff (s : Nat) : Nat := (IntKind.u64.wrap (bits BinOp.and IntKind.u64 (s : Int) (IntKind.u64.wrap (-(s : Int))) * 285870213051353865) / 288230376151711744).toNat
theorem listM_len (s : Nat) : (listM s).length ≤ 6 := by
  unfold listM
  rw [List.length_map]
  have := List.length_filter_le (fun i => s.testBit i) (List.range 6)
  simpa using this

theorem and_form (s : Nat) (h0 : 0 < s) (hs : s < 64) : bits .and .u64 (s : Int) ((s : Int) - 1) = ((s &&& (s - 1) : Nat) : Int) := by
  rw [show ((s : Int) - 1) = ((s - 1 : Nat) : Int) by omega]
  exact u64_and_nat _ _ (by omega) (by omega)

end Go.Proofs.Ytnddiloeikaleaa
