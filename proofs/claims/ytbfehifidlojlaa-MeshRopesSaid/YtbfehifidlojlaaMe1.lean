/- Layer 4: how nets lie in memory; the walks of what asks of single numbers and lists. -/
import Derived.Test.YtbfehifidlojlaaRows
import Derived.Test.YtbfehifidlojlaaBase6
import Derived.Test.YtbfehifidlojlaaMeP1
namespace Go.Proofs.Ytbfehifidlojlaa
open Go.RowKit
open Me

/-! ### How the values lie in memory -/
def encI (x : Int) : List Value := [.int .i64 x]
def encHole (x : Hole) : List Value := [.int .i64 x.fr, .int .i64 x.lo, .int .i64 x.hi, .int .i64 x.hr]
def encPr (x : Pr) : List Value := [.int .i64 x.a, .int .i64 x.b]

section
variable {B : Nat} {w : World} {A : Option Addr} {c : Nat}
theorem Sl.int {xs : List Int} (h : Sl encI B w A c xs) {k : Nat} (hk : k < xs.length) : ∃ b o, A = some ⟨b, o, none⟩ ∧ b < B ∧ w.cell? ⟨b, o + k, none⟩ = some (.int .i64 (nth xs k)) := by
  obtain ⟨b, o, hA, hb, hc⟩ := h.at_ (size := 1) (fun _ => rfl) hk (by omega)
  refine ⟨b, o, hA, hb, ?_⟩
  have := hc 0 _ rfl
  rw [nth_get _ hk]
  simpa using this
theorem Sl.pr {xs : List Pr} (h : Sl encPr B w A c xs) {k : Nat} (hk : k < xs.length) : ∃ b o, A = some ⟨b, o, none⟩ ∧ b < B ∧ w.cell? ⟨b, o + k * 2, none⟩ = some (.int .i64 (nth xs k).a) ∧ w.cell? ⟨b, o + k * 2 + 1, none⟩ = some (.int .i64 (nth xs k).b) := by
  obtain ⟨b, o, hA, hb, hc⟩ := h.at_ (size := 2) (fun _ => rfl) hk (by omega)
  rw [nth_get _ hk]
  exact ⟨b, o, hA, hb, hc 0 _ rfl, hc 1 _ rfl⟩
theorem Sl.hole {xs : List Hole} (h : Sl encHole B w A c xs) {k : Nat} (hk : k < xs.length) : ∃ b o, A = some ⟨b, o, none⟩ ∧ b < B ∧ w.cell? ⟨b, o + k * 4, none⟩ = some (.int .i64 (nth xs k).fr) ∧ w.cell? ⟨b, o + k * 4 + 1, none⟩ = some (.int .i64 (nth xs k).lo) ∧
    w.cell? ⟨b, o + k * 4 + 2, none⟩ = some (.int .i64 (nth xs k).hi) ∧ w.cell? ⟨b, o + k * 4 + 3, none⟩ = some (.int .i64 (nth xs k).hr) := by
  obtain ⟨b, o, hA, hb, hc⟩ := h.at_ (size := 4) (fun _ => rfl) hk (by omega)
  rw [nth_get _ hk]
  exact ⟨b, o, hA, hb, hc 0 _ rfl, hc 1 _ rfl, hc 2 _ rfl, hc 3 _ rfl⟩
theorem Sl.wide {α : Type} {enc : α → List Value} {W : World} {xs : List α} (h : Sl enc B w A c xs) [Grew B w W] [hB : Le B W] : Sl enc W.heap.size W A c xs := h.up.more hB.out
/-- The first elements of a slice. -/
theorem Sl.take {α : Type} {enc : α → List Value} {xs : List α} (h : Sl enc B w A c xs) (k : Nat) : Sl enc B w A c (xs.take k) := by
  refine ⟨by rw [List.length_take]; have := h.1; omega, h.2.1, fun hne => ?_⟩
  have hn : xs.flatMap enc ≠ [] := by
    intro e; apply hne
    have : (xs.take k).flatMap enc <+: xs.flatMap enc := by
      conv => rhs; rw [← List.take_append_drop k xs, List.flatMap_append]
      exact List.prefix_append _ _
    rw [e] at this
    exact List.prefix_nil.1 this
  obtain ⟨b, o, hA, hb, hv⟩ := h.2.2 hn
  refine ⟨b, o, hA, hb, fun j v hj => hv j v ?_⟩
  conv => lhs; rw [← List.take_append_drop k xs, List.flatMap_append]
  rw [List.getElem?_append_left (List.getElem?_eq_some_iff.1 hj).1]
  exact hj
end

/-- Where a net's slices lie. -/
structure NetR where
  hA : Option Addr
  hc : Nat
  pA : Option Addr
  pc : Nat
abbrev netV (r : NetR) (n : Net) : Value := .agg #[.int .i64 n.m, .slice r.hA n.hs.length r.hc, .slice r.pA n.ps.length r.pc]
def NetIs (B : Nat) (w : World) (r : NetR) (n : Net) : Prop := Sl encHole B w r.hA r.hc n.hs ∧ Sl encPr B w r.pA r.pc n.ps
section
variable {B : Nat} {w : World} {r : NetR} {n : Net}
@[go_sem] theorem NetIs_lat (δ : World) [hB : Le B w] : NetIs B (lat w δ) r n ↔ NetIs B w r n := by simp only [NetIs, Sl_lat]
@[go_sem] theorem NetIs_alloc (o : Obj) [hB : Le B w] : NetIs B (w.alloc o) r n ↔ NetIs B w r n := by simp only [NetIs, Sl_alloc]
@[go_sem] theorem NetIs_drew : NetIs B w.drew r n ↔ NetIs B w r n := Iff.rfl
@[go_sem] theorem NetIs_setCell (p : Addr) (u : Value) (hB : B ≤ p.block) : NetIs B (w.setCell p u) r n ↔ NetIs B w r n := by simp only [NetIs, Sl_setCell p u hB]
theorem NetIs.up {w' : World} (h : NetIs B w r n) [hg : Grew B w w'] : NetIs B w' r n := ⟨h.1.up, h.2.up⟩
theorem NetIs.more (h : NetIs B w r n) {B' : Nat} (hB : B ≤ B') : NetIs B' w r n := ⟨h.1.more hB, h.2.more hB⟩
theorem NetIs.wide {W : World} (h : NetIs B w r n) [Grew B w W] [hB : Le B W] : NetIs W.heap.size W r n := h.up.more hB.out
end

/-! ### Numbers -/
theorem within_c (n low high : Int) (w : World) :
    Calls Try.prog 28 #[.int .i64 n, .int .i64 low, .int .i64 high] w fun e w' => e = .returned (.bool (inB low high n)) ∧ w = w' := by
  go_enter Try.func28, Try.ntmps28
  by_cases h1 : low ≤ n
  · go_wp2
    go_ret
    exact ⟨ret_bool (by simp [inB, h1]), rfl⟩
  · go_wp2
    go_ret
    exact ⟨ret_bool (by simp [inB]; omega), rfl⟩
theorem within4_c (n low high : Int) (w : World) :
    Calls Try.prog 58 #[.int .i64 n, .int .i64 low, .int .i64 high] w fun e w' => e = .returned (.bool (inB low high n)) ∧ w = w' := by
  go_enter Try.func58, Try.ntmps58
  go_wp2_with (go_at_call 28; refine (within_c _ _ _ _).mono ?_; rintro e w1 ⟨rfl, rfl⟩)
  go_ret
  exact ⟨rfl, rfl⟩
theorem withinM_c (n low high : Int) (w : World) :
    Calls Try.prog 71 #[.int .i64 n, .int .i64 low, .int .i64 high] w fun e w' => e = .returned (.bool (inB low high n)) ∧ w = w' := by
  go_enter Try.func71, Try.ntmps71
  by_cases h1 : low ≤ n
  · go_wp2
    go_ret
    exact ⟨ret_bool (by simp [inB, h1]), rfl⟩
  · go_wp2
    go_ret
    exact ⟨ret_bool (by simp [inB]; omega), rfl⟩

theorem in_c (A : Option Addr) (c ln : Nat) (xs : List Int) (x : Int) (B : Nat) (w : World) (h : Sl encI B w A c xs) (hn : xs.length = ln) :
    Calls Try.prog 94 #[.slice A ln c, .int .i64 x] w fun e w' => e = .returned (.bool (isIn xs x)) ∧ w = w' := by
  subst hn
  have hl := h.len
  go_enter Try.func94, Try.ntmps94
  go_wp2
  go_loop [5] (fun i => ∃ k : Nat, k ≤ xs.length ∧ i = .int .i64 k ∧ Hid (x ∉ xs.take k)) (fun i => xs.length - (intOf i).toNat)
  case atStart => exact ⟨0, Nat.zero_le _, rfl, by simp [Hid]⟩
  case round =>
    obtain ⟨k, hk, rfl, hn⟩ := hrel
    by_cases hlt : k < xs.length
    · obtain ⟨b, o, rfl, hb, hc⟩ := h.int hlt
      have hm := Lib.hid (nth_mem xs hlt)
      have ht := Lib.hid (take_snoc xs hlt)
      by_cases he : nth xs k = x
      · subst he
        go_wp2
        go_ret
        exact ⟨ret_bool (by simpa [isIn] using hm.out), rfl⟩
      · have he' : (nth xs k == x) = false := by simpa using he
        go_wp2
        go_round
        case rel =>
          refine ⟨k + 1, by omega, by go_num, ?_⟩
          have := hn.out
          unfold Hid
          rw [ht.out]
          simp [this, Ne.symm he]
        case measure => simp [intOf]; omega
    · obtain rfl : k = xs.length := by omega
      go_wp2
      go_ret
      refine ⟨ret_bool ?_, rfl⟩
      have := hn.out
      simpa [isIn] using this

theorem index_c (A : Option Addr) (c ln : Nat) (xs : List Int) (x : Int) (B : Nat) (w : World) (h : Sl encI B w A c xs) (hn : xs.length = ln) :
    Calls Try.prog 104 #[.slice A ln c, .int .i64 x] w fun e w' => (∃ n : Int, e = .returned (.int .i64 n) ∧ decide (0 ≤ n) = isIn xs x) ∧ w = w' := by
  subst hn
  have hl := h.len
  go_enter Try.func104, Try.ntmps104
  go_wp2
  go_loop [8] (fun i => ∃ k : Nat, k ≤ xs.length ∧ i = .int .i64 k ∧ Hid (x ∉ xs.take k)) (fun i => xs.length - (intOf i).toNat)
  case atStart => exact ⟨0, Nat.zero_le _, rfl, by simp [Hid]⟩
  case round =>
    obtain ⟨k, hk, rfl, hn⟩ := hrel
    by_cases hlt : k < xs.length
    · obtain ⟨b', o, rfl, hb, hc'⟩ := h.int hlt
      have hm := Lib.hid (nth_mem xs hlt)
      have ht := Lib.hid (take_snoc xs hlt)
      by_cases he : nth xs k = x
      · subst he
        go_wp2
        go_ret
        exact ⟨⟨k, rfl, by simpa [isIn] using hm.out⟩, rfl⟩
      · have he' : (x == nth xs k) = false := by simpa using Ne.symm he
        go_wp2
        go_round
        case rel =>
          refine ⟨k + 1, by omega, by go_num, ?_⟩
          have := hn.out
          unfold Hid
          rw [ht.out]
          simp [this, Ne.symm he]
        case measure => simp [intOf]; omega
    · obtain rfl : k = xs.length := by omega
      go_wp2
      go_ret
      refine ⟨⟨-1, rfl, ?_⟩, rfl⟩
      have := hn.out
      rw [List.take_length] at this
      rw [isIn_not.2 this]; rfl
theorem contains_c (A : Option Addr) (c ln : Nat) (xs : List Int) (x : Int) (b : Bool) (hb : isIn xs x = b) (B : Nat) (w : World) (h : Sl encI B w A c xs) (hn : xs.length = ln) :
    Calls Try.prog 97 #[.slice A ln c, .int .i64 x] w fun e w' => e = .returned (.bool b) ∧ w = w' := by
  subst hb
  go_enter Try.func97, Try.ntmps97
  go_wp2_with (go_at_call 104; refine (index_c _ _ _ xs _ _ _ h hn).mono ?_; rintro e w1 ⟨⟨k, rfl, hk⟩, rfl⟩)
  go_ret
  exact ⟨ret_bool (by simp), rfl⟩

/-- What is known of something that is so in 'so' of 'all' truths. -/
def knownI (so all : Int) : Int := if so = 0 then 2 else if so = all then 1 else 3
theorem known_c (so all : Int) (w : World) :
    Calls Try.prog 89 #[.int .i64 so, .int .i64 all] w fun e w' => e = .returned (.int .i64 (knownI so all)) ∧ w = w' := by
  by_cases h1 : so = 0
  · subst h1
    go_enter Try.func89, Try.ntmps89
    go_wp2
    go_ret
    exact ⟨rfl, rfl⟩
  · have h1' : (so == 0) = false := by simpa using h1
    by_cases h2 : so = all
    · subst h2
      go_enter Try.func89, Try.ntmps89
      go_wp2
      go_ret
      exact ⟨ret_int (by simp [knownI, h1]), rfl⟩
    · have h2' : (so == all) = false := by simpa using h2
      go_enter Try.func89, Try.ntmps89
      go_wp2
      go_ret
      exact ⟨ret_int (by simp [knownI, h1, h2]), rfl⟩

end Go.Proofs.Ytbfehifidlojlaa
