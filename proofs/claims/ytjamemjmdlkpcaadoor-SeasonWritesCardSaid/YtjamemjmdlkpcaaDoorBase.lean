/- The tools of the walks over this seat: worlds that only grew (lat), slices that read as lists (Sl), a region that draws its order walked once in the order of the text. No program's function is named here. -/
import Derived.WalkKit
import Derived.WalkSpells
import Derived.WalkLawsBesides
import Derived.Deep.QuietTactic
import Derived.BigQuiet
import Derived.Lib.Hide
import Derived.Laws.AppendOwnNone
import Derived.Deep.Light
namespace Go.Proofs.YtjamemjmdlkpcaaDoor
open Go.RowKit

open Classical in
/-- A world that grew out of w: every block of w is as it was. -/
noncomputable def lat (w δ : World) : World := if Below w.heap.size w δ then δ else w
theorem lat_below (w δ : World) : Below w.heap.size w (lat w δ) := by
  unfold lat; split
  · assumption
  · exact Below.refl _ _
theorem lat_of {w w' : World} (h : Below w.heap.size w w') : lat w w' = w' := by
  unfold lat; rw [if_pos h]
theorem lat_size (w δ : World) : w.heap.size ≤ (lat w δ).heap.size := (lat_below w δ).size
theorem lat_lat (w δ ε : World) : lat (lat w δ) ε = lat w (lat (lat w δ) ε) :=
  (lat_of ((lat_below w δ).trans ((lat_below _ ε).mono (lat_size _ _)))).symm
theorem lat_refl (w : World) : lat w w = w := lat_of (Below.refl _ _)
theorem drew_lat (w : World) : w.drew = lat w w.drew := (lat_of (Below.refl _ _).drew).symm

/-! ### Blocks that are there: by instances, so that the walk's simp needs no long chain of side conditions -/
class Lt (b : Nat) (w : World) : Prop where
  out : b < w.heap.size
class Le (B : Nat) (w : World) : Prop where
  out : B ≤ w.heap.size
instance {b : Nat} {w δ : World} [h : Lt b w] : Lt b (lat w δ) := ⟨Nat.lt_of_lt_of_le h.out (lat_size w δ)⟩
instance {b : Nat} {w : World} {o : Obj} [h : Lt b w] : Lt b (w.alloc o) := ⟨by simpa using Nat.lt_succ_of_lt h.out⟩
instance {b : Nat} {w : World} [h : Lt b w] : Lt b w.drew := ⟨h.out⟩
instance {b : Nat} {w : World} {p : Addr} {u : Value} [h : Lt b w] : Lt b (w.setCell p u) := ⟨by simpa [World.setCell] using h.out⟩
instance {w : World} {a : Obj} : Lt w.heap.size (w.alloc a) := ⟨by simp⟩
instance {w : World} {a b : Obj} : Lt (w.heap.size + 1) ((w.alloc a).alloc b) := ⟨by simp⟩
instance {w : World} {a b c : Obj} : Lt (w.heap.size + 2) (((w.alloc a).alloc b).alloc c) := ⟨by simp⟩
instance {w : World} {a b c d : Obj} : Lt (w.heap.size + 3) ((((w.alloc a).alloc b).alloc c).alloc d) := ⟨by simp⟩
instance {w : World} {a b c d e : Obj} : Lt (w.heap.size + 4) (((((w.alloc a).alloc b).alloc c).alloc d).alloc e) := ⟨by simp⟩
instance {w : World} {a b c d e f : Obj} : Lt (w.heap.size + 5) ((((((w.alloc a).alloc b).alloc c).alloc d).alloc e).alloc f) := ⟨by simp⟩
instance {w : World} {a b c d e f g : Obj} : Lt (w.heap.size + 6) (((((((w.alloc a).alloc b).alloc c).alloc d).alloc e).alloc f).alloc g) := ⟨by simp⟩
instance {w : World} {a b c d e f g h : Obj} : Lt (w.heap.size + 7) ((((((((w.alloc a).alloc b).alloc c).alloc d).alloc e).alloc f).alloc g).alloc h) := ⟨by simp⟩
instance {w : World} : Le w.heap.size w := ⟨Nat.le_refl _⟩
instance {B : Nat} {w δ : World} [h : Le B w] : Le B (lat w δ) := ⟨Nat.le_trans h.out (lat_size w δ)⟩
instance {B : Nat} {w : World} {o : Obj} [h : Le B w] : Le B (w.alloc o) := ⟨by simpa using Nat.le_succ_of_le h.out⟩
instance {B : Nat} {w : World} [h : Le B w] : Le B w.drew := ⟨h.out⟩
instance {B : Nat} {w : World} {p : Addr} {u : Value} [h : Le B w] : Le B (w.setCell p u) := ⟨by simpa [World.setCell] using h.out⟩
instance {w : World} {a : Obj} : Le (w.heap.size + 1) (w.alloc a) := ⟨by simp⟩
instance {w : World} {a b : Obj} : Le (w.heap.size + 2) ((w.alloc a).alloc b) := ⟨by simp⟩
instance {w : World} {a b c : Obj} : Le (w.heap.size + 3) (((w.alloc a).alloc b).alloc c) := ⟨by simp⟩
instance {w : World} {a b c d : Obj} : Le (w.heap.size + 4) ((((w.alloc a).alloc b).alloc c).alloc d) := ⟨by simp⟩
instance {w : World} {a b c d e : Obj} : Le (w.heap.size + 5) (((((w.alloc a).alloc b).alloc c).alloc d).alloc e) := ⟨by simp⟩
instance {w : World} {a b c d e f : Obj} : Le (w.heap.size + 6) ((((((w.alloc a).alloc b).alloc c).alloc d).alloc e).alloc f) := ⟨by simp⟩

@[go_sem] theorem lt_inst (b : Nat) (w : World) [h : Lt b w] : b < w.heap.size := h.out
@[go_sem] theorem le_inst (b : Nat) (w : World) [h : Lt b w] : b ≤ w.heap.size := Nat.le_of_lt h.out
@[go_sem] theorem lt_add_inst (b k : Nat) (w : World) [h : Lt b w] : b < w.heap.size + k := Nat.lt_add_right k h.out
@[go_sem] theorem le_inst' (b : Nat) (w : World) [h : Le b w] : b ≤ w.heap.size := h.out
@[go_sem] theorem le_add_inst (b k : Nat) (w : World) [h : Le b w] : b ≤ w.heap.size + k := Nat.le_add_right_of_le h.out
@[go_sem] theorem cell_lat (w δ : World) (b o : Nat) [h : Lt b w] : (lat w δ).cell? ⟨b, o, none⟩ = w.cell? ⟨b, o, none⟩ := (lat_below w δ).cell (p := ⟨b, o, none⟩) h.out
@[go_sem] theorem frozen_lat (w δ : World) (b o : Nat) [h : Lt b w] : (lat w δ).frozen? ⟨b, o, none⟩ = w.frozen? ⟨b, o, none⟩ := (lat_below w δ).frozen (p := ⟨b, o, none⟩) h.out
@[go_sem] theorem cell_alloc_inst (w : World) (x : Obj) (b o : Nat) [h : Lt b w] : (w.alloc x).cell? ⟨b, o, none⟩ = w.cell? ⟨b, o, none⟩ := World.cell?_alloc_past _ _ _ h.out
@[go_sem] theorem frozen_alloc_inst (w : World) (x : Obj) (b o : Nat) [h : Lt b w] : (w.alloc x).frozen? ⟨b, o, none⟩ = w.frozen? ⟨b, o, none⟩ := World.frozen?_alloc_past _ _ _ h.out

/-- Below block B the world is as w was. -/
def Same (B : Nat) (w W : World) : Prop := W.os = w.os ∧ W.tape = w.tape ∧ W.output = w.output ∧ ∀ k, k < B → W.heap[k]? = w.heap[k]?
theorem Same.below {B : Nat} {w W : World} (h : Same B w W) [hs : Le w.heap.size W] : Below B w W := ⟨h.1, h.2.1, h.2.2.1, hs.out, h.2.2.2⟩
theorem Same.of {B : Nat} {w W : World} (h : Below B w W) : Same B w W := ⟨h.os, h.tape, h.output, h.block⟩
@[go_sem] theorem same_refl (B : Nat) (w : World) : Same B w w := ⟨rfl, rfl, rfl, fun _ _ => rfl⟩
@[go_sem] theorem same_lat (B : Nat) (w W δ : World) [hB : Le B W] : Same B w (lat W δ) ↔ Same B w W := by
  have hb := lat_below W δ
  unfold Same
  rw [hb.os, hb.tape, hb.output]
  constructor
  · rintro ⟨a, b, c, d⟩; exact ⟨a, b, c, fun k hk => (hb.block k (Nat.lt_of_lt_of_le hk hB.out)).symm.trans (d k hk)⟩
  · rintro ⟨a, b, c, d⟩; exact ⟨a, b, c, fun k hk => (hb.block k (Nat.lt_of_lt_of_le hk hB.out)).trans (d k hk)⟩
@[go_sem] theorem same_alloc (B : Nat) (w W : World) (o : Obj) [hB : Le B W] : Same B w (W.alloc o) ↔ Same B w W := by
  have hb : ∀ k, k < B → (W.alloc o).heap[k]? = W.heap[k]? := fun k hk => Below.heap_alloc W o k (Nat.lt_of_lt_of_le hk hB.out)
  constructor
  · rintro ⟨a, b, c, d⟩; exact ⟨a, b, c, fun k hk => (hb k hk).symm.trans (d k hk)⟩
  · rintro ⟨a, b, c, d⟩; exact ⟨a, b, c, fun k hk => (hb k hk).trans (d k hk)⟩
@[go_sem] theorem same_drew (B : Nat) (w W : World) : Same B w W.drew ↔ Same B w W := Iff.rfl
@[go_sem] theorem same_setCell (B : Nat) (w W : World) (p : Addr) (u : Value) (hB : B ≤ p.block) : Same B w (W.setCell p u) ↔ Same B w W := by
  have hb : ∀ k, k < B → (W.setCell p u).heap[k]? = W.heap[k]? := fun k hk => Below.heap_setCell W p u k (by omega)
  constructor
  · rintro ⟨a, b, c, d⟩; exact ⟨a, b, c, fun k hk => (hb k hk).symm.trans (d k hk)⟩
  · rintro ⟨a, b, c, d⟩; exact ⟨a, b, c, fun k hk => (hb k hk).trans (d k hk)⟩
/-! ### Worlds that grew, by instances -/
class LeN (a b : Nat) : Prop where
  out : a ≤ b
instance {B : Nat} {w : World} [h : Le B w] : LeN B w.heap.size := ⟨h.out⟩
instance {B a k : Nat} [h : LeN B a] : LeN B (a + k) := ⟨Nat.le_add_right_of_le h.out⟩
class Grew (B : Nat) (w W : World) : Prop where
  out : Same B w W
instance {B : Nat} {w : World} : Grew B w w := ⟨same_refl _ _⟩
instance {B : Nat} {w W δ : World} [h : Grew B w W] [Le B W] : Grew B w (lat W δ) := ⟨(same_lat _ _ _ _).2 h.out⟩
instance {B : Nat} {w W : World} {o : Obj} [h : Grew B w W] [Le B W] : Grew B w (W.alloc o) := ⟨(same_alloc _ _ _ _).2 h.out⟩
instance {B : Nat} {w W : World} [h : Grew B w W] : Grew B w W.drew := ⟨h.out⟩
instance {B b i : Nat} {w W : World} {u : Value} [h : Grew B w W] [hb : LeN B b] : Grew B w (W.setCell ⟨b, i, none⟩ u) := ⟨(same_setCell _ _ _ ⟨b, i, none⟩ _ hb.out).2 h.out⟩
theorem lat_def {w W : World} [h : Grew w.heap.size w W] [Le w.heap.size W] : W = lat w W := (lat_of h.out.below).symm
theorem lat_ex {w W : World} [h : Grew w.heap.size w W] [Le w.heap.size W] : ∃ δ, W = lat w δ := ⟨W, (lat_of h.out.below).symm⟩
theorem grew_below {w W : World} [h : Grew w.heap.size w W] [Le w.heap.size W] : Below w.heap.size w W := h.out.below

theorem wp_region_lat {P : Program} {id : Nat} {Q : Exit → Act → World → Prop} {a : Act} {w : World} {l : List Oper} (hm : P.follows .mixedOrders = true) (hB : Region.lexB .any l.toArray = true)
    (h : wpQuiet P l.toArray (fun w' => ∃ δ, w' = lat w δ) (fun a' => ∀ w', (∃ δ, w' = lat w δ) → Q .normal a' w') l a) : (Code.region id l.toArray true).wp P Q a w :=
  wp_region_quiet (C := fun w' => ∃ δ, w' = lat w δ) hm hB ⟨_, drew_lat w⟩ (by simpa using h)

theorem Calls.lat_of {P : Program} {f : FuncId} {args : Array Value} {w : World} {n : World} {v : Value}
    (h : Calls P f args (lat w n) fun e w' => e = .returned v ∧ ∃ δ, w' = lat (lat w n) δ) : Calls P f args (lat w n) fun e w'' => e = .returned v ∧ ∃ m, w'' = lat w m :=
  h.mono fun _ _ ⟨he, m, hm⟩ => ⟨he, lat (lat w n) m, by rw [hm, ← lat_lat]⟩

theorem Calls.lat_same {P : Program} {f : FuncId} {args : Array Value} {w : World} {n : World} {v : Value}
    (h : Calls P f args (lat w n) fun e w' => e = .returned v ∧ lat w n = w') : Calls P f args (lat w n) fun e w'' => e = .returned v ∧ ∃ m, w'' = lat w m :=
  h.mono fun _ _ ⟨he, hm⟩ => ⟨he, n, hm.symm⟩

/-- The world of a walk under a name. -/
theorem wp_name {P : Program} {c : Code} {Q : Exit → Act → World → Prop} {a : Act} {w : World} (h : ∀ W, Hid (W = w) → c.wp P Q a W) : c.wp P Q a w := h w rfl

theorem below_lat {B : Nat} {w W : World} (δ : World) (h : Below B w W) (hB : B ≤ W.heap.size) : Below B w (lat W δ) := h.trans ((lat_below W δ).mono hB)

theorem ret_of {v u : Value} (h : v = u) : Ending.returned v = Ending.returned u := by rw [h]
theorem ret_bool {a b : Bool} (h : a = b) : Ending.returned (.bool a) = Ending.returned (.bool b) := by rw [h]
theorem ret_int {k : IntKind} {a b : Int} (h : a = b) : Ending.returned (.int k a) = Ending.returned (.int k b) := by rw [h]
theorem int_eq {k : IntKind} {a b : Int} (h : a = b) : Value.int k a = Value.int k b := by rw [h]
theorem w64 {x : Int} (h : -9223372036854775808 ≤ x ∧ x ≤ 9223372036854775807) : wrap64 x = x := IntWalk.wrap64_in _ h

/-- Element k of a list (closed to simp). -/
def nth {α : Type} [Inhabited α] (xs : List α) (k : Nat) : α := xs.getD k default
theorem nth_get {α : Type} [Inhabited α] (xs : List α) {k : Nat} (h : k < xs.length) : nth xs k = xs[k] := by simp [nth, List.getD, h]
theorem nth_mem {α : Type} [Inhabited α] (xs : List α) {k : Nat} (h : k < xs.length) : nth xs k ∈ xs := by rw [nth_get _ h]; exact List.getElem_mem h
theorem take_snoc {α : Type} [Inhabited α] (xs : List α) {k : Nat} (h : k < xs.length) : xs.take (k + 1) = xs.take k ++ [nth xs k] := by rw [List.take_succ_eq_append_getElem h, nth_get _ h]
/-- Is a number from low to high? (closed to simp) -/
def inB (low high x : Int) : Bool := decide (low ≤ x ∧ x ≤ high)
/-- Are all numbers from 0 to a greatest one? (closed to simp) -/
def allB (most : Int) (xs : List Int) : Bool := xs.all (inB 0 most)
theorem inB_iff {low high x : Int} : inB low high x = true ↔ low ≤ x ∧ x ≤ high := by simp [inB]
theorem inB_not {low high x : Int} : inB low high x = false ↔ ¬ (low ≤ x ∧ x ≤ high) := by simp [inB]

theorem setCell_self {w : World} {b i : Nat} {v : Value} (h : w.cell? ⟨b, i, none⟩ = some v) : w.setCell ⟨b, i, none⟩ v = w := by
  obtain ⟨heap, tape, drawn, os, output⟩ := w
  simp only [World.setCell, World.cell?] at *
  congr 1
  apply Array.ext_getElem?
  intro k
  rw [Array.getElem?_modify]
  by_cases hk : b = k
  · subst hk
    rw [if_pos rfl]
    cases hh : heap[b]? with
    | none => rfl
    | some o =>
      rw [hh] at h
      cases o with
      | cells c t f =>
        simp only [Option.isSome_none, Bool.false_eq_true, if_false] at h
        simp only [Option.map_some, Option.isSome_none, Bool.false_eq_true, if_false]
        have : c.setIfInBounds i v = c := by
          apply Array.ext_getElem?
          intro j
          rw [Array.getElem?_setIfInBounds]
          split
          · rename_i hij; subst hij
            split
            · rw [h]
            · rename_i hlt; rw [Array.getElem?_eq_none (by omega)] at h; cases h
          · rfl
        rw [this]
      | _ => cases h
  · rw [if_neg hk]

theorem setCell_setCell (w : World) (b i : Nat) (u v : Value) : (w.setCell ⟨b, i, none⟩ u).setCell ⟨b, i, none⟩ v = w.setCell ⟨b, i, none⟩ v := by
  obtain ⟨heap, tape, drawn, os, output⟩ := w
  simp only [World.setCell]
  congr 1
  apply Array.ext_getElem?
  intro k
  simp only [Array.getElem?_modify]
  by_cases hk : b = k
  · simp only [hk, if_true, Option.map_map]
    cases heap[k]? with
    | none => rfl
    | some o =>
      cases o with
      | cells c t f => simp [Array.setIfInBounds_setIfInBounds]
      | _ => rfl
  · simp only [hk, if_false]

/-- One cell of w0 is written, the world grows, the cell is written again: it is as if w0 had grown and the cell were written once. -/
theorem lat_set_lat {w0 : World} (δ0 δ : World) {b i : Nat} {v0 : Value} (x y : Value) (h : w0.cell? ⟨b, i, none⟩ = some v0) [hb : Lt b w0] :
    ∃ δ', (lat ((lat w0 δ0).setCell ⟨b, i, none⟩ x) δ).setCell ⟨b, i, none⟩ y = (lat w0 δ').setCell ⟨b, i, none⟩ y := by
  have hsz : ((lat w0 δ0).setCell ⟨b, i, none⟩ x).heap.size = (lat w0 δ0).heap.size := by simp [World.setCell]
  have hL := lat_below ((lat w0 δ0).setCell ⟨b, i, none⟩ x) δ
  have hl0 := lat_below w0 δ0
  have hself : (lat w0 δ0).setCell ⟨b, i, none⟩ v0 = lat w0 δ0 := setCell_self (by rw [cell_lat, h])
  have hblk : ∀ k, k < w0.heap.size → ((lat ((lat w0 δ0).setCell ⟨b, i, none⟩ x) δ).setCell ⟨b, i, none⟩ v0).heap[k]? = w0.heap[k]? := by
    intro k hk
    have h2 : k < (lat w0 δ0).heap.size := Nat.lt_of_lt_of_le hk (lat_size _ _)
    have e1 := hL.block k (by omega)
    have e2 : ((lat ((lat w0 δ0).setCell ⟨b, i, none⟩ x) δ).setCell ⟨b, i, none⟩ v0).heap[k]? = (((lat w0 δ0).setCell ⟨b, i, none⟩ x).setCell ⟨b, i, none⟩ v0).heap[k]? := by
      simp only [World.setCell] at e1 ⊢
      simp only [Array.getElem?_modify] at e1 ⊢
      by_cases hk' : b = k
      · simp only [hk', if_true] at e1 ⊢; rw [e1]
      · simp only [hk', if_false] at e1 ⊢; rw [e1]
    rw [e2, setCell_setCell, hself]
    exact hl0.block k hk
  have hB : Below w0.heap.size w0 ((lat ((lat w0 δ0).setCell ⟨b, i, none⟩ x) δ).setCell ⟨b, i, none⟩ v0) := by
    refine ⟨?_, ?_, ?_, ?_, hblk⟩
    · exact hL.os.trans hl0.os
    · exact hL.tape.trans hl0.tape
    · exact hL.output.trans hl0.output
    · have := hL.size
      have := hl0.size
      simp only [World.setCell, Array.size_modify] at *
      omega
  exact ⟨_, by rw [lat_of hB, setCell_setCell]⟩

/-- A call in a world, one of whose cells is named as if it had just been written. -/
theorem wp_set {P : Program} {f : FuncId} {args : Array Value} {w : World} {R : Ending → World → Prop} {b i : Nat} {v : Value} (h : w.cell? ⟨b, i, none⟩ = some v)
    (hc : Calls P f args ((lat w w).setCell ⟨b, i, none⟩ v) R) : Calls P f args w R := by rwa [lat_refl, setCell_self h] at hc

/-! ### Slices that read as lists -/

/-- The cells from address A on. -/
def Cells (w : World) (B : Nat) (A : Option Addr) (cs : List Value) : Prop :=
  cs ≠ [] → ∃ b o, A = some ⟨b, o, none⟩ ∧ b < B ∧ ∀ j v, cs[j]? = some v → w.cell? ⟨b, o + j, none⟩ = some v

theorem Cells.nil {w : World} {B : Nat} {A : Option Addr} : Cells w B A [] := fun h => absurd rfl h
theorem Cells.keep {w w' : World} {B B' : Nat} {A : Option Addr} {cs : List Value} (h : Cells w B A cs) (hB : B ≤ B') (hk : ∀ b o, b < B → w'.cell? ⟨b, o, none⟩ = w.cell? ⟨b, o, none⟩) : Cells w' B' A cs := fun hc => by
  obtain ⟨b, o, hA, hb, hv⟩ := h hc
  exact ⟨b, o, hA, Nat.lt_of_lt_of_le hb hB, fun j v hj => (hk b _ hb).trans (hv j v hj)⟩

/-- The slice value '.slice A xs.length c' reads as xs, each element x as the cells 'enc x'; all below block B. -/
def Sl {α : Type} (enc : α → List Value) (B : Nat) (w : World) (A : Option Addr) (c : Nat) (xs : List α) : Prop :=
  xs.length ≤ c ∧ c ≤ 9223372036854775807 ∧ Cells w B A (xs.flatMap enc)

section
variable {α : Type} {enc : α → List Value} {B : Nat} {w w' : World} {A : Option Addr} {c : Nat} {xs : List α}
theorem Sl.cast {ys : List α} (h : Sl enc B w A c xs) (he : xs = ys) : Sl enc B w A c ys := he ▸ h
theorem Sl.none_ : Sl enc B w A 0 ([] : List α) := ⟨Nat.le_refl _, by omega, Cells.nil⟩
theorem Sl.keep (h : Sl enc B w A c xs) {B' : Nat} (hB : B ≤ B') (hk : ∀ b o, b < B → w'.cell? ⟨b, o, none⟩ = w.cell? ⟨b, o, none⟩) : Sl enc B' w' A c xs := ⟨h.1, h.2.1, h.2.2.keep hB hk⟩
theorem Sl.more (h : Sl enc B w A c xs) {B' : Nat} (hB : B ≤ B') : Sl enc B' w A c xs := h.keep hB fun _ _ _ => rfl
theorem Sl.below (h : Sl enc B w A c xs) (hb : Below B w w') : Sl enc B w' A c xs := h.keep (Nat.le_refl _) fun b o hb' => hb.cell (p := ⟨b, o, none⟩) hb'
theorem Sl.len (h : Sl enc B w A c xs) : xs.length ≤ 9223372036854775807 := Nat.le_trans h.1 h.2.1
theorem Sl_iff (hk : ∀ b o, b < B → w'.cell? ⟨b, o, none⟩ = w.cell? ⟨b, o, none⟩) : Sl enc B w' A c xs ↔ Sl enc B w A c xs :=
  ⟨fun h => h.keep (Nat.le_refl _) fun b o hb => (hk b o hb).symm, fun h => h.keep (Nat.le_refl _) hk⟩
theorem cells_same (h : Same B w w') : ∀ b o, b < B → w'.cell? ⟨b, o, none⟩ = w.cell? ⟨b, o, none⟩ := fun b o hb => World.cell?_of_block (a := ⟨b, o, none⟩) (h.2.2.2 b hb)
@[go_sem] theorem Sl_lat (δ : World) [hB : Le B w] : Sl enc B (lat w δ) A c xs ↔ Sl enc B w A c xs := Sl_iff (cells_same ((same_lat B w w δ).2 (same_refl _ _)))
@[go_sem] theorem Sl_alloc (o : Obj) [hB : Le B w] : Sl enc B (w.alloc o) A c xs ↔ Sl enc B w A c xs := Sl_iff (cells_same ((same_alloc B w w o).2 (same_refl _ _)))
theorem Sl.up (h : Sl enc B w A c xs) [hg : Grew B w w'] : Sl enc B w' A c xs := (Sl_iff (cells_same hg.out)).2 h
@[go_sem] theorem Sl_drew : Sl enc B w.drew A c xs ↔ Sl enc B w A c xs := Iff.rfl
@[go_sem] theorem Sl_setCell (p : Addr) (u : Value) (hB : B ≤ p.block) : Sl enc B (w.setCell p u) A c xs ↔ Sl enc B w A c xs := Sl_iff (cells_same ((same_setCell B w w p u hB).2 (same_refl _ _)))
/-- Element k, cell by cell. -/
theorem Sl.at_ (h : Sl enc B w A c xs) {size : Nat} (hs : ∀ x, (enc x).length = size) {k : Nat} (hk : k < xs.length) (h0 : 0 < size) :
    ∃ b o, A = some ⟨b, o, none⟩ ∧ b < B ∧ ∀ j v, (enc xs[k])[j]? = some v → w.cell? ⟨b, o + (k * size + j), none⟩ = some v := by
  have key : ∀ (l : List α) (k : Nat) (hk : k < l.length) (j : Nat) (v : Value), (enc l[k])[j]? = some v → (l.flatMap enc)[k * size + j]? = some v := by
    intro l
    induction l with
    | nil => intro k hk; simp at hk
    | cons x l ih =>
      intro k hk j v hv
      rw [List.flatMap_cons]
      cases k with
      | zero =>
        rw [Nat.zero_mul, Nat.zero_add, List.getElem?_append_left]
        · exact hv
        · exact (List.getElem?_eq_some_iff.1 hv).1
      | succ k =>
        rw [List.getElem?_append_right (by rw [hs, Nat.succ_mul]; omega), hs, Nat.succ_mul, show k * size + size + j - size = k * size + j by omega]
        exact ih k (by simpa using hk) j v hv
  have hne : xs.flatMap enc ≠ [] := by
    intro he
    have hl : 0 < (enc xs[k]).length := by rw [hs]; exact h0
    have := key xs k hk 0 _ (List.getElem?_eq_getElem hl)
    rw [he] at this
    cases this
  obtain ⟨b, o, hA, hb, hc⟩ := h.2.2 hne
  exact ⟨b, o, hA, hb, fun j v hv => hc _ v (key xs k hk j v hv)⟩
end

/-- A row of the call's own reads as a list. -/
theorem Cells.of_own {w : World} {base : Nat} {e : TypeId} {size n c : Nat} {A : Option Addr} {xs : List Value} (h : w.ownsRow base e size (.slice A n c) n xs) : Cells w w.heap.size A xs := by
  intro hne
  rcases h.2 with ⟨hv, rfl⟩ | ⟨g, cap, cur, hv, _, hh, hnc, _, hcs, ht⟩
  · have := h.1; simp at this; exact absurd this hne
  · injection hv with hA _ hc
    subst hA hc
    refine ⟨g, 0, rfl, ?_, ?_⟩
    · rcases Nat.lt_or_ge g w.heap.size with hlt | hge
      · exact hlt
      · rw [Array.getElem?_eq_none hge] at hh; cases hh
    · intro j v hj
      have hcell := h.cells (g := g) rfl j v hj
      simpa [Addr.add_lit] using hcell

theorem Sl.of_own {α : Type} {enc : α → List Value} {w : World} {base : Nat} {e : TypeId} {size c : Nat} {A : Option Addr} {xs : List α} (h : w.ownsRow base e size (.slice A xs.length c) xs.length (xs.flatMap enc)) : Sl enc w.heap.size w A c xs := by
  refine ⟨?_, ?_, Cells.of_own h⟩
  · rcases h.2 with ⟨hv, h0⟩ | ⟨g, cap, cur, hv, _, hh, hnc, _, hcs, ht⟩
    · omega
    · injection hv with _ _ hc; omega
  · rcases h.2 with ⟨hv, h0⟩ | ⟨g, cap, cur, hv, _, hh, hnc, hm, hcs, ht⟩
    · injection hv with _ _ hc; omega
    · injection hv with _ _ hc; unfold maxLen at hm; omega

/-- The slice value of an owned row. -/
theorem own_form {w : World} {base : Nat} {e : TypeId} {size n : Nat} {v : Value} {xs : List Value} (h : w.ownsRow base e size v n xs) : ∃ A c, v = .slice A n c := by
  rcases h.2 with ⟨rfl, rfl⟩ | ⟨g, cap, cur, rfl, _⟩
  · exact ⟨_, _, rfl⟩
  · exact ⟨_, _, rfl⟩

/-- A row owned from W1's size on, in a world that W1 grew into, behind a growth that touched that row alone. -/
theorem grown_lat {W1 W w' : World} {base : Nat} {e : TypeId} {size n : Nat} {v : Value} {xs : List Value} (hb : Below base W1 W) (hown : W.ownsRow base e size v n xs) (hbase : base ≤ W.heap.size) (hg : W.grownBy w' v.ownBlock) : Below base W1 w' :=
  hb.grown hg hbase fun k hk => (hown.lt k hk).1

theorem owns_lat {w : World} (δ : World) {base : Nat} {e : TypeId} {size n : Nat} {v : Value} {xs : List Value} (h : w.ownsRow base e size v n xs) : (lat w δ).ownsRow base e size v n xs := by
  refine ⟨h.1, ?_⟩
  rcases h.2 with h2 | ⟨g, cap, cur, hv, hg, hh, r⟩
  · exact .inl h2
  · refine .inr ⟨g, cap, cur, hv, hg, ?_, r⟩
    rw [(lat_below w δ).block g, hh]
    rcases Nat.lt_or_ge g w.heap.size with hlt | hge
    · exact hlt
    · rw [Array.getElem?_eq_none hge] at hh; cases hh

end Go.Proofs.YtjamemjmdlkpcaaDoor
