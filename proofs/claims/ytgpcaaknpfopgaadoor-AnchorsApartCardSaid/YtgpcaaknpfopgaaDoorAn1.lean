/- Layer 2: the walks of what asks of single numbers, and of Check, the program's and the reference's. -/
import Derived.Test.YtgpcaaknpfopgaaDoorRows
import Derived.Test.YtgpcaaknpfopgaaDoorBase
import Derived.Test.YtgpcaaknpfopgaaDoorAnPlain
namespace Go.Proofs.YtgpcaaknpfopgaaDoor
open Go.RowKit
open An

/-! ### How the values lie in memory -/
def encI (x : Int) : List Value := [.int .i64 x]
def encSp (x : Sp) : List Value := [.int .i64 x.lo, .int .i64 x.hi]
def encAnc (x : Anc) : List Value := [.int .i64 x.wt, .int .i64 x.bt]
def encWal (x : Wal) : List Value := [.int .i64 x.sail, .int .i64 x.drag, .int .i64 x.lean, .int .i64 x.corks, .int .i64 x.stones]

section
variable {B : Nat} {w : World} {A : Option Addr} {c : Nat}
theorem Sl.int {xs : List Int} (h : Sl encI B w A c xs) {k : Nat} (hk : k < xs.length) : ∃ b o, A = some ⟨b, o, none⟩ ∧ b < B ∧ w.cell? ⟨b, o + k, none⟩ = some (.int .i64 (nth xs k)) := by
  obtain ⟨b, o, hA, hb, hc⟩ := h.at_ (size := 1) (fun _ => rfl) hk (by omega)
  refine ⟨b, o, hA, hb, ?_⟩
  have := hc 0 _ rfl
  rw [nth_get _ hk]
  simpa using this
theorem Sl.sp {xs : List Sp} (h : Sl encSp B w A c xs) {k : Nat} (hk : k < xs.length) : ∃ b o, A = some ⟨b, o, none⟩ ∧ b < B ∧ w.cell? ⟨b, o + k * 2, none⟩ = some (.int .i64 (nth xs k).lo) ∧ w.cell? ⟨b, o + k * 2 + 1, none⟩ = some (.int .i64 (nth xs k).hi) := by
  obtain ⟨b, o, hA, hb, hc⟩ := h.at_ (size := 2) (fun _ => rfl) hk (by omega)
  rw [nth_get _ hk]
  exact ⟨b, o, hA, hb, hc 0 _ rfl, hc 1 _ rfl⟩
theorem Sl.anc {xs : List Anc} (h : Sl encAnc B w A c xs) {k : Nat} (hk : k < xs.length) : ∃ b o, A = some ⟨b, o, none⟩ ∧ b < B ∧ w.cell? ⟨b, o + k * 2, none⟩ = some (.int .i64 (nth xs k).wt) ∧ w.cell? ⟨b, o + k * 2 + 1, none⟩ = some (.int .i64 (nth xs k).bt) := by
  obtain ⟨b, o, hA, hb, hc⟩ := h.at_ (size := 2) (fun _ => rfl) hk (by omega)
  rw [nth_get _ hk]
  exact ⟨b, o, hA, hb, hc 0 _ rfl, hc 1 _ rfl⟩
theorem Sl.wal {xs : List Wal} (h : Sl encWal B w A c xs) {k : Nat} (hk : k < xs.length) : ∃ b o, A = some ⟨b, o, none⟩ ∧ b < B ∧ w.cell? ⟨b, o + k * 5, none⟩ = some (.int .i64 (nth xs k).sail) ∧ w.cell? ⟨b, o + k * 5 + 1, none⟩ = some (.int .i64 (nth xs k).drag) ∧
    w.cell? ⟨b, o + k * 5 + 2, none⟩ = some (.int .i64 (nth xs k).lean) ∧ w.cell? ⟨b, o + k * 5 + 3, none⟩ = some (.int .i64 (nth xs k).corks) ∧ w.cell? ⟨b, o + k * 5 + 4, none⟩ = some (.int .i64 (nth xs k).stones) := by
  obtain ⟨b, o, hA, hb, hc⟩ := h.at_ (size := 5) (fun _ => rfl) hk (by omega)
  rw [nth_get _ hk]
  exact ⟨b, o, hA, hb, hc 0 _ rfl, hc 1 _ rfl, hc 2 _ rfl, hc 3 _ rfl, hc 4 _ rfl⟩
end

/-- Where a net's slices lie. -/
structure NetR where
  gA : Option Addr
  gc : Nat
  aA : Option Addr
  ac : Nat
  wA : Option Addr
  wc : Nat
abbrev netV (r : NetR) (n : Net) : Value := .agg #[.int .i64 n.wind.lo, .int .i64 n.wind.hi, .int .i64 n.cur.lo, .int .i64 n.cur.hi, .slice r.gA n.grips.length r.gc, .slice r.aA n.ancs.length r.ac, .slice r.wA n.wals.length r.wc]
def NetIs (B : Nat) (w : World) (r : NetR) (n : Net) : Prop := Sl encSp B w r.gA r.gc n.grips ∧ Sl encAnc B w r.aA r.ac n.ancs ∧ Sl encWal B w r.wA r.wc n.wals
section
variable {B : Nat} {w : World} {r : NetR} {n : Net}
@[go_sem] theorem NetIs_lat (δ : World) [hB : Le B w] : NetIs B (lat w δ) r n ↔ NetIs B w r n := by simp only [NetIs, Sl_lat]
@[go_sem] theorem NetIs_alloc (o : Obj) [hB : Le B w] : NetIs B (w.alloc o) r n ↔ NetIs B w r n := by simp only [NetIs, Sl_alloc]
@[go_sem] theorem NetIs_drew : NetIs B w.drew r n ↔ NetIs B w r n := Iff.rfl
@[go_sem] theorem NetIs_setCell (p : Addr) (u : Value) (hB : B ≤ p.block) : NetIs B (w.setCell p u) r n ↔ NetIs B w r n := by simp only [NetIs, Sl_setCell p u hB]
theorem NetIs.up {w' : World} (h : NetIs B w r n) [hg : Grew B w w'] : NetIs B w' r n := ⟨h.1.up, h.2.1.up, h.2.2.up⟩
theorem NetIs.more (h : NetIs B w r n) {B' : Nat} (hB : B ≤ B') : NetIs B' w r n := ⟨h.1.more hB, h.2.1.more hB, h.2.2.more hB⟩
end

theorem ite_bool2 (a b : Bool) : (if a = true then b else false) = (a && b) := by cases a <;> rfl

/-! ### Numbers -/
theorem within_c (n low high : Int) (w : World) :
    Calls Tryd.prog 28 #[.int .i64 n, .int .i64 low, .int .i64 high] w fun e w' => e = .returned (.bool (inB low high n)) ∧ w = w' := by
  go_enter Tryd.func28, Tryd.ntmps28
  by_cases h1 : low ≤ n
  · go_wp2
    go_ret
    exact ⟨ret_bool (by simp [inB, h1]), rfl⟩
  · go_wp2
    go_ret
    exact ⟨ret_bool (by simp [inB]; omega), rfl⟩

theorem within2_c (n low high : Int) (w : World) :
    Calls Tryd.prog 72 #[.int .i64 n, .int .i64 low, .int .i64 high] w fun e w' => e = .returned (.bool (inB low high n)) ∧ w = w' := by
  go_enter Tryd.func72, Tryd.ntmps72
  go_wp2_with (go_at_call 28; refine (within_c _ _ _ _).mono ?_; rintro e w1 ⟨rfl, rfl⟩)
  go_ret
  exact ⟨rfl, rfl⟩

/-- Is a number in a list? (closed to simp) -/
def isIn (xs : List Int) (x : Int) : Bool := decide (x ∈ xs)

theorem in_c (A : Option Addr) (c : Nat) (xs : List Int) (x : Int) (B : Nat) (w : World) (h : Sl encI B w A c xs) :
    Calls Tryd.prog 55 #[.slice A xs.length c, .int .i64 x] w fun e w' => e = .returned (.bool (isIn xs x)) ∧ w = w' := by
  have hl := h.len
  go_enter Tryd.func55, Tryd.ntmps55
  go_wp2
  go_loop [5] (fun i => ∃ k : Nat, k ≤ xs.length ∧ i = .int .i64 k ∧ Hid (x ∉ xs.take k)) (fun i => xs.length - (intOf i).toNat)
  case atStart => exact ⟨0, Nat.zero_le _, rfl, by simp [Hid]⟩
  case round =>
    obtain ⟨k, hk, rfl, hn⟩ := hrel
    by_cases hlt : k < xs.length
    · obtain ⟨b, o, rfl, hb, hc⟩ := h.int hlt
      have hm := Lib.hid (nth_mem xs hlt)
      have ht := Lib.hid (take_snoc xs hlt)
      by_cases he : nth xs k = x
      · subst he
        go_wp2
        go_ret
        exact ⟨ret_bool (by simpa [isIn] using hm.out), rfl⟩
      · have he' : (nth xs k == x) = false := by simpa using he
        go_wp2
        go_round
        case rel =>
          refine ⟨k + 1, by omega, by go_num, ?_⟩
          have := hn.out
          unfold Hid
          rw [ht.out]
          simp [this, Ne.symm he]
        case measure => simp [intOf]; omega
    · obtain rfl : k = xs.length := by omega
      go_wp2
      go_ret
      refine ⟨ret_bool ?_, rfl⟩
      have := hn.out
      simpa [isIn] using this

/-- What is known of something that is so in 'so' of 'all' truths. -/
def knownI (so all : Int) : Int := if so = 0 then 2 else if so = all then 1 else 3
theorem known_c (so all : Int) (w : World) :
    Calls Tryd.prog 96 #[.int .i64 so, .int .i64 all] w fun e w' => e = .returned (.int .i64 (knownI so all)) ∧ w = w' := by
  by_cases h1 : so = 0
  · subst h1
    go_enter Tryd.func96, Tryd.ntmps96
    go_wp2
    go_ret
    exact ⟨rfl, rfl⟩
  · have h1' : (so == 0) = false := by simpa using h1
    by_cases h2 : so = all
    · subst h2
      go_enter Tryd.func96, Tryd.ntmps96
      go_wp2
      go_ret
      exact ⟨ret_int (by simp [knownI, h1]), rfl⟩
    · have h2' : (so == all) = false := by simpa using h2
      go_enter Tryd.func96, Tryd.ntmps96
      go_wp2
      go_ret
      exact ⟨ret_int (by simp [knownI, h1, h2]), rfl⟩

/-! ### The program's Check -/
theorem inside1_c (most x : Int) (b : Nat) (w : World) (hc : w.cell? ⟨b, 0, none⟩ = some (.int .i64 most)) :
    Calls Tryd.prog 111 #[.int .i64 x, .pointer (some ⟨b, 0, none⟩)] w fun e w' => e = .returned (.bool (!inB 0 most x)) ∧ w = w' := by
  go_enter Tryd.func111, Tryd.ntmps111
  by_cases h1 : x < 0
  · go_wp2
    go_ret
    exact ⟨ret_bool (by simp [inB]; omega), rfl⟩
  · go_wp2
    go_ret
    exact ⟨ret_bool (by rw [Bool.eq_iff_iff]; simp [inB]; omega), rfl⟩

/-- slices.IndexFunc over ints, at inside's closure: the first number that is not within, or -1. -/
theorem indexFunc_c (most : Int) (b : Nat) (A : Option Addr) (c : Nat) (xs : List Int) (B : Nat) (w : World) (h : Sl encI B w A c xs) (hc : w.cell? ⟨b, 0, none⟩ = some (.int .i64 most)) :
    Calls Tryd.prog 117 #[.slice A xs.length c, .func (.func 111) #[] #[.pointer (some ⟨b, 0, none⟩)]] w fun e w' => (∃ n : Int, e = .returned (.int .i64 n) ∧ decide (0 ≤ n) = !allB most xs) ∧ w = w' := by
  have hl := h.len
  go_enter Tryd.func117, Tryd.ntmps117
  go_wp2
  go_loop [8] (fun i => ∃ k : Nat, k ≤ xs.length ∧ i = .int .i64 k ∧ Hid ((xs.take k).all (inB 0 most) = true)) (fun i => xs.length - (intOf i).toNat)
  case atStart => exact ⟨0, Nat.zero_le _, rfl, by simp [Hid]⟩
  case round =>
    obtain ⟨k, hk, rfl, hn⟩ := hrel
    by_cases hlt : k < xs.length
    · obtain ⟨b', o, rfl, hb, hc'⟩ := h.int hlt
      have hm := Lib.hid (nth_mem xs hlt)
      have ht := Lib.hid (take_snoc xs hlt)
      by_cases he : inB 0 most (nth xs k) = true
      · go_wp2_with (go_at_call 111; refine (inside1_c most _ b _ hc).mono ?_; rintro e w1 ⟨rfl, rfl⟩)
        go_round
        case rel =>
          refine ⟨k + 1, by omega, by go_num, ?_⟩
          unfold Hid
          rw [ht.out, List.all_append, hn.out]
          simp [he]
        case measure => simp [intOf]; omega
      · rw [Bool.not_eq_true] at he
        go_wp2_with (go_at_call 111; refine (inside1_c most _ b _ hc).mono ?_; rintro e w1 ⟨rfl, rfl⟩)
        go_ret
        refine ⟨⟨k, rfl, ?_⟩, rfl⟩
        have : allB most xs = false := by
          rw [allB, List.all_eq_false]
          exact ⟨_, hm.out, by simp [he]⟩
        rw [this]
        simp
    · obtain rfl : k = xs.length := by omega
      go_wp2
      go_ret
      refine ⟨⟨-1, rfl, ?_⟩, rfl⟩
      have := hn.out
      rw [List.take_length] at this
      rw [allB, this]
      rfl

end Go.Proofs.YtgpcaaknpfopgaaDoor
