/- Towards the claim of XLawCalmed: The tools of the walks over this seat: worlds that only grew (lat), slices that read as lists (Sl), a region that draws its order walked once in the order of the text. No program's function is named here. The plain words of layer 2 (anchors): nets, truths, what is valid, what an anchor bears. No program in sight. More tools: worlds that grew from a block on (latB), appends in a loop, a cell that is written round after round. The plain words of layer 5 (lifts), as far as the calm sky reaches them: seas, what is valid, which crews hold. No program in sight. The plain words of layer 2: sets of an -/
import Derived.WalkKit
import Derived.WalkSpells
import Derived.WalkLawsBesides
import Derived.Deep.QuietTactic
import Derived.BigQuiet
import Derived.Lib.Hide
import Derived.Laws.AppendOwnNone
import Derived.Deep.Light
namespace Go.Proofs.Ytnddiloeikaleaa
open Go.RowKit

open Classical in
/-- A world that grew out of w: every block of w is as it was. -/
noncomputable def lat (w δ : World) : World := if Below w.heap.size w δ then δ else w
theorem lat_below (w δ : World) : Below w.heap.size w (lat w δ) := by
  unfold lat; split
  · assumption
  · exact Below.refl _ _
theorem lat_of {w w' : World} (h : Below w.heap.size w w') : lat w w' = w' := by
  unfold lat; rw [if_pos h]
theorem lat_size (w δ : World) : w.heap.size ≤ (lat w δ).heap.size := (lat_below w δ).size
theorem lat_lat (w δ ε : World) : lat (lat w δ) ε = lat w (lat (lat w δ) ε) :=
  (lat_of ((lat_below w δ).trans ((lat_below _ ε).mono (lat_size _ _)))).symm
theorem lat_refl (w : World) : lat w w = w := lat_of (Below.refl _ _)
theorem drew_lat (w : World) : w.drew = lat w w.drew := (lat_of (Below.refl _ _).drew).symm

/-! ### Blocks that are there: by instances, so that the walk's simp needs no long chain of side conditions -/
class Lt (b : Nat) (w : World) : Prop where
  out : b < w.heap.size
class Le (B : Nat) (w : World) : Prop where
  out : B ≤ w.heap.size
instance {b : Nat} {w δ : World} [h : Lt b w] : Lt b (lat w δ) := ⟨Nat.lt_of_lt_of_le h.out (lat_size w δ)⟩
instance {b : Nat} {w : World} {o : Obj} [h : Lt b w] : Lt b (w.alloc o) := ⟨by simpa using Nat.lt_succ_of_lt h.out⟩
instance {b : Nat} {w : World} [h : Lt b w] : Lt b w.drew := ⟨h.out⟩
instance {b : Nat} {w : World} {p : Addr} {u : Value} [h : Lt b w] : Lt b (w.setCell p u) := ⟨by simpa [World.setCell] using h.out⟩
instance {w : World} {a : Obj} : Lt w.heap.size (w.alloc a) := ⟨by simp⟩
instance {w : World} {a b : Obj} : Lt (w.heap.size + 1) ((w.alloc a).alloc b) := ⟨by simp⟩
instance {w : World} {a b c : Obj} : Lt (w.heap.size + 2) (((w.alloc a).alloc b).alloc c) := ⟨by simp⟩
instance {w : World} {a b c d : Obj} : Lt (w.heap.size + 3) ((((w.alloc a).alloc b).alloc c).alloc d) := ⟨by simp⟩
instance {w : World} {a b c d e : Obj} : Lt (w.heap.size + 4) (((((w.alloc a).alloc b).alloc c).alloc d).alloc e) := ⟨by simp⟩
instance {w : World} {a b c d e f : Obj} : Lt (w.heap.size + 5) ((((((w.alloc a).alloc b).alloc c).alloc d).alloc e).alloc f) := ⟨by simp⟩
instance {w : World} {a b c d e f g : Obj} : Lt (w.heap.size + 6) (((((((w.alloc a).alloc b).alloc c).alloc d).alloc e).alloc f).alloc g) := ⟨by simp⟩
instance {w : World} {a b c d e f g h : Obj} : Lt (w.heap.size + 7) ((((((((w.alloc a).alloc b).alloc c).alloc d).alloc e).alloc f).alloc g).alloc h) := ⟨by simp⟩
instance {w : World} : Le w.heap.size w := ⟨Nat.le_refl _⟩
instance {B : Nat} {w δ : World} [h : Le B w] : Le B (lat w δ) := ⟨Nat.le_trans h.out (lat_size w δ)⟩
instance {B : Nat} {w : World} {o : Obj} [h : Le B w] : Le B (w.alloc o) := ⟨by simpa using Nat.le_succ_of_le h.out⟩
instance {B : Nat} {w : World} [h : Le B w] : Le B w.drew := ⟨h.out⟩
instance {B : Nat} {w : World} {p : Addr} {u : Value} [h : Le B w] : Le B (w.setCell p u) := ⟨by simpa [World.setCell] using h.out⟩
instance {w : World} {a : Obj} : Le (w.heap.size + 1) (w.alloc a) := ⟨by simp⟩
instance {w : World} {a b : Obj} : Le (w.heap.size + 2) ((w.alloc a).alloc b) := ⟨by simp⟩
instance {w : World} {a b c : Obj} : Le (w.heap.size + 3) (((w.alloc a).alloc b).alloc c) := ⟨by simp⟩
instance {w : World} {a b c d : Obj} : Le (w.heap.size + 4) ((((w.alloc a).alloc b).alloc c).alloc d) := ⟨by simp⟩
instance {w : World} {a b c d e : Obj} : Le (w.heap.size + 5) (((((w.alloc a).alloc b).alloc c).alloc d).alloc e) := ⟨by simp⟩
instance {w : World} {a b c d e f : Obj} : Le (w.heap.size + 6) ((((((w.alloc a).alloc b).alloc c).alloc d).alloc e).alloc f) := ⟨by simp⟩

@[go_sem] theorem lt_inst (b : Nat) (w : World) [h : Lt b w] : b < w.heap.size := h.out
@[go_sem] theorem le_inst (b : Nat) (w : World) [h : Lt b w] : b ≤ w.heap.size := Nat.le_of_lt h.out
@[go_sem] theorem lt_add_inst (b k : Nat) (w : World) [h : Lt b w] : b < w.heap.size + k := Nat.lt_add_right k h.out
@[go_sem] theorem le_inst' (b : Nat) (w : World) [h : Le b w] : b ≤ w.heap.size := h.out
@[go_sem] theorem le_add_inst (b k : Nat) (w : World) [h : Le b w] : b ≤ w.heap.size + k := Nat.le_add_right_of_le h.out
@[go_sem] theorem cell_lat (w δ : World) (b o : Nat) [h : Lt b w] : (lat w δ).cell? ⟨b, o, none⟩ = w.cell? ⟨b, o, none⟩ := (lat_below w δ).cell (p := ⟨b, o, none⟩) h.out
@[go_sem] theorem frozen_lat (w δ : World) (b o : Nat) [h : Lt b w] : (lat w δ).frozen? ⟨b, o, none⟩ = w.frozen? ⟨b, o, none⟩ := (lat_below w δ).frozen (p := ⟨b, o, none⟩) h.out
@[go_sem] theorem cell_alloc_inst (w : World) (x : Obj) (b o : Nat) [h : Lt b w] : (w.alloc x).cell? ⟨b, o, none⟩ = w.cell? ⟨b, o, none⟩ := World.cell?_alloc_past _ _ _ h.out
@[go_sem] theorem frozen_alloc_inst (w : World) (x : Obj) (b o : Nat) [h : Lt b w] : (w.alloc x).frozen? ⟨b, o, none⟩ = w.frozen? ⟨b, o, none⟩ := World.frozen?_alloc_past _ _ _ h.out

/-- Below block B the world is as w was. -/
def Same (B : Nat) (w W : World) : Prop := W.os = w.os ∧ W.tape = w.tape ∧ W.output = w.output ∧ ∀ k, k < B → W.heap[k]? = w.heap[k]?
theorem Same.below {B : Nat} {w W : World} (h : Same B w W) [hs : Le w.heap.size W] : Below B w W := ⟨h.1, h.2.1, h.2.2.1, hs.out, h.2.2.2⟩
theorem Same.of {B : Nat} {w W : World} (h : Below B w W) : Same B w W := ⟨h.os, h.tape, h.output, h.block⟩
@[go_sem] theorem same_refl (B : Nat) (w : World) : Same B w w := ⟨rfl, rfl, rfl, fun _ _ => rfl⟩
@[go_sem] theorem same_lat (B : Nat) (w W δ : World) [hB : Le B W] : Same B w (lat W δ) ↔ Same B w W := by
  have hb := lat_below W δ
  unfold Same
  rw [hb.os, hb.tape, hb.output]
  constructor
  · rintro ⟨a, b, c, d⟩; exact ⟨a, b, c, fun k hk => (hb.block k (Nat.lt_of_lt_of_le hk hB.out)).symm.trans (d k hk)⟩
  · rintro ⟨a, b, c, d⟩; exact ⟨a, b, c, fun k hk => (hb.block k (Nat.lt_of_lt_of_le hk hB.out)).trans (d k hk)⟩
@[go_sem] theorem same_alloc (B : Nat) (w W : World) (o : Obj) [hB : Le B W] : Same B w (W.alloc o) ↔ Same B w W := by
  have hb : ∀ k, k < B → (W.alloc o).heap[k]? = W.heap[k]? := fun k hk => Below.heap_alloc W o k (Nat.lt_of_lt_of_le hk hB.out)
  constructor
  · rintro ⟨a, b, c, d⟩; exact ⟨a, b, c, fun k hk => (hb k hk).symm.trans (d k hk)⟩
  · rintro ⟨a, b, c, d⟩; exact ⟨a, b, c, fun k hk => (hb k hk).trans (d k hk)⟩
@[go_sem] theorem same_drew (B : Nat) (w W : World) : Same B w W.drew ↔ Same B w W := Iff.rfl
@[go_sem] theorem same_setCell (B : Nat) (w W : World) (p : Addr) (u : Value) (hB : B ≤ p.block) : Same B w (W.setCell p u) ↔ Same B w W := by
  have hb : ∀ k, k < B → (W.setCell p u).heap[k]? = W.heap[k]? := fun k hk => Below.heap_setCell W p u k (by omega)
  constructor
  · rintro ⟨a, b, c, d⟩; exact ⟨a, b, c, fun k hk => (hb k hk).symm.trans (d k hk)⟩
  · rintro ⟨a, b, c, d⟩; exact ⟨a, b, c, fun k hk => (hb k hk).trans (d k hk)⟩
/-! ### Worlds that grew, by instances -/
class LeN (a b : Nat) : Prop where
  out : a ≤ b
instance {B : Nat} {w : World} [h : Le B w] : LeN B w.heap.size := ⟨h.out⟩
instance {B a k : Nat} [h : LeN B a] : LeN B (a + k) := ⟨Nat.le_add_right_of_le h.out⟩
class Grew (B : Nat) (w W : World) : Prop where
  out : Same B w W
instance {B : Nat} {w : World} : Grew B w w := ⟨same_refl _ _⟩
instance {B : Nat} {w W δ : World} [h : Grew B w W] [Le B W] : Grew B w (lat W δ) := ⟨(same_lat _ _ _ _).2 h.out⟩
instance {B : Nat} {w W : World} {o : Obj} [h : Grew B w W] [Le B W] : Grew B w (W.alloc o) := ⟨(same_alloc _ _ _ _).2 h.out⟩
instance {B : Nat} {w W : World} [h : Grew B w W] : Grew B w W.drew := ⟨h.out⟩
instance {B b i : Nat} {w W : World} {u : Value} [h : Grew B w W] [hb : LeN B b] : Grew B w (W.setCell ⟨b, i, none⟩ u) := ⟨(same_setCell _ _ _ ⟨b, i, none⟩ _ hb.out).2 h.out⟩
theorem lat_def {w W : World} [h : Grew w.heap.size w W] [Le w.heap.size W] : W = lat w W := (lat_of h.out.below).symm
theorem lat_ex {w W : World} [h : Grew w.heap.size w W] [Le w.heap.size W] : ∃ δ, W = lat w δ := ⟨W, (lat_of h.out.below).symm⟩
theorem grew_below {w W : World} [h : Grew w.heap.size w W] [Le w.heap.size W] : Below w.heap.size w W := h.out.below

theorem wp_region_lat {P : Program} {id : Nat} {Q : Exit → Act → World → Prop} {a : Act} {w : World} {l : List Oper} (hm : P.follows .mixedOrders = true) (hB : Region.lexB .any l.toArray = true)
    (h : wpQuiet P l.toArray (fun w' => ∃ δ, w' = lat w δ) (fun a' => ∀ w', (∃ δ, w' = lat w δ) → Q .normal a' w') l a) : (Code.region id l.toArray true).wp P Q a w :=
  wp_region_quiet (C := fun w' => ∃ δ, w' = lat w δ) hm hB ⟨_, drew_lat w⟩ (by simpa using h)

theorem Calls.lat_of {P : Program} {f : FuncId} {args : Array Value} {w : World} {n : World} {v : Value}
    (h : Calls P f args (lat w n) fun e w' => e = .returned v ∧ ∃ δ, w' = lat (lat w n) δ) : Calls P f args (lat w n) fun e w'' => e = .returned v ∧ ∃ m, w'' = lat w m :=
  h.mono fun _ _ ⟨he, m, hm⟩ => ⟨he, lat (lat w n) m, by rw [hm, ← lat_lat]⟩

theorem Calls.lat_same {P : Program} {f : FuncId} {args : Array Value} {w : World} {n : World} {v : Value}
    (h : Calls P f args (lat w n) fun e w' => e = .returned v ∧ lat w n = w') : Calls P f args (lat w n) fun e w'' => e = .returned v ∧ ∃ m, w'' = lat w m :=
  h.mono fun _ _ ⟨he, hm⟩ => ⟨he, n, hm.symm⟩

/-- The world of a walk under a name. -/
theorem wp_name {P : Program} {c : Code} {Q : Exit → Act → World → Prop} {a : Act} {w : World} (h : ∀ W, Hid (W = w) → c.wp P Q a W) : c.wp P Q a w := h w rfl

theorem below_lat {B : Nat} {w W : World} (δ : World) (h : Below B w W) (hB : B ≤ W.heap.size) : Below B w (lat W δ) := h.trans ((lat_below W δ).mono hB)

theorem ret_of {v u : Value} (h : v = u) : Ending.returned v = Ending.returned u := by rw [h]
theorem ret_bool {a b : Bool} (h : a = b) : Ending.returned (.bool a) = Ending.returned (.bool b) := by rw [h]
theorem ret_int {k : IntKind} {a b : Int} (h : a = b) : Ending.returned (.int k a) = Ending.returned (.int k b) := by rw [h]
theorem int_eq {k : IntKind} {a b : Int} (h : a = b) : Value.int k a = Value.int k b := by rw [h]
theorem w64 {x : Int} (h : -9223372036854775808 ≤ x ∧ x ≤ 9223372036854775807) : wrap64 x = x := IntWalk.wrap64_in _ h

/-- Element k of a list (closed to simp). -/
def nth {α : Type} [Inhabited α] (xs : List α) (k : Nat) : α := xs.getD k default
theorem nth_get {α : Type} [Inhabited α] (xs : List α) {k : Nat} (h : k < xs.length) : nth xs k = xs[k] := by simp [nth, List.getD, h]
theorem nth_mem {α : Type} [Inhabited α] (xs : List α) {k : Nat} (h : k < xs.length) : nth xs k ∈ xs := by rw [nth_get _ h]; exact List.getElem_mem h
theorem take_snoc {α : Type} [Inhabited α] (xs : List α) {k : Nat} (h : k < xs.length) : xs.take (k + 1) = xs.take k ++ [nth xs k] := by rw [List.take_succ_eq_append_getElem h, nth_get _ h]
/-- Is a number from low to high? (closed to simp) -/
def inB (low high x : Int) : Bool := decide (low ≤ x ∧ x ≤ high)
/-- Are all numbers from 0 to a greatest one? (closed to simp) -/
def allB (most : Int) (xs : List Int) : Bool := xs.all (inB 0 most)
theorem inB_iff {low high x : Int} : inB low high x = true ↔ low ≤ x ∧ x ≤ high := by simp [inB]
theorem inB_not {low high x : Int} : inB low high x = false ↔ ¬ (low ≤ x ∧ x ≤ high) := by simp [inB]

theorem setCell_self {w : World} {b i : Nat} {v : Value} (h : w.cell? ⟨b, i, none⟩ = some v) : w.setCell ⟨b, i, none⟩ v = w := by
  obtain ⟨heap, tape, drawn, os, output⟩ := w
  simp only [World.setCell, World.cell?] at *
  congr 1
  apply Array.ext_getElem?
  intro k
  rw [Array.getElem?_modify]
  by_cases hk : b = k
  · subst hk
    rw [if_pos rfl]
    cases hh : heap[b]? with
    | none => rfl
    | some o =>
      rw [hh] at h
      cases o with
      | cells c t f =>
        simp only [Option.isSome_none, Bool.false_eq_true, if_false] at h
        simp only [Option.map_some, Option.isSome_none, Bool.false_eq_true, if_false]
        have : c.setIfInBounds i v = c := by
          apply Array.ext_getElem?
          intro j
          rw [Array.getElem?_setIfInBounds]
          split
          · rename_i hij; subst hij
            split
            · rw [h]
            · rename_i hlt; rw [Array.getElem?_eq_none (by omega)] at h; cases h
          · rfl
        rw [this]
      | _ => cases h
  · rw [if_neg hk]

theorem setCell_setCell (w : World) (b i : Nat) (u v : Value) : (w.setCell ⟨b, i, none⟩ u).setCell ⟨b, i, none⟩ v = w.setCell ⟨b, i, none⟩ v := by
  obtain ⟨heap, tape, drawn, os, output⟩ := w
  simp only [World.setCell]
  congr 1
  apply Array.ext_getElem?
  intro k
  simp only [Array.getElem?_modify]
  by_cases hk : b = k
  · simp only [hk, if_true, Option.map_map]
    cases heap[k]? with
    | none => rfl
    | some o =>
      cases o with
      | cells c t f => simp [Array.setIfInBounds_setIfInBounds]
      | _ => rfl
  · simp only [hk, if_false]

/-- One cell of w0 is written, the world grows, the cell is written again: it is as if w0 had grown and the cell were written once. -/
theorem lat_set_lat {w0 : World} (δ0 δ : World) {b i : Nat} {v0 : Value} (x y : Value) (h : w0.cell? ⟨b, i, none⟩ = some v0) [hb : Lt b w0] :
    ∃ δ', (lat ((lat w0 δ0).setCell ⟨b, i, none⟩ x) δ).setCell ⟨b, i, none⟩ y = (lat w0 δ').setCell ⟨b, i, none⟩ y := by
  have hsz : ((lat w0 δ0).setCell ⟨b, i, none⟩ x).heap.size = (lat w0 δ0).heap.size := by simp [World.setCell]
  have hL := lat_below ((lat w0 δ0).setCell ⟨b, i, none⟩ x) δ
  have hl0 := lat_below w0 δ0
  have hself : (lat w0 δ0).setCell ⟨b, i, none⟩ v0 = lat w0 δ0 := setCell_self (by rw [cell_lat, h])
  have hblk : ∀ k, k < w0.heap.size → ((lat ((lat w0 δ0).setCell ⟨b, i, none⟩ x) δ).setCell ⟨b, i, none⟩ v0).heap[k]? = w0.heap[k]? := by
    intro k hk
    have h2 : k < (lat w0 δ0).heap.size := Nat.lt_of_lt_of_le hk (lat_size _ _)
    have e1 := hL.block k (by omega)
    have e2 : ((lat ((lat w0 δ0).setCell ⟨b, i, none⟩ x) δ).setCell ⟨b, i, none⟩ v0).heap[k]? = (((lat w0 δ0).setCell ⟨b, i, none⟩ x).setCell ⟨b, i, none⟩ v0).heap[k]? := by
      simp only [World.setCell] at e1 ⊢
      simp only [Array.getElem?_modify] at e1 ⊢
      by_cases hk' : b = k
      · simp only [hk', if_true] at e1 ⊢; rw [e1]
      · simp only [hk', if_false] at e1 ⊢; rw [e1]
    rw [e2, setCell_setCell, hself]
    exact hl0.block k hk
  have hB : Below w0.heap.size w0 ((lat ((lat w0 δ0).setCell ⟨b, i, none⟩ x) δ).setCell ⟨b, i, none⟩ v0) := by
    refine ⟨?_, ?_, ?_, ?_, hblk⟩
    · exact hL.os.trans hl0.os
    · exact hL.tape.trans hl0.tape
    · exact hL.output.trans hl0.output
    · have := hL.size
      have := hl0.size
      simp only [World.setCell, Array.size_modify] at *
      omega
  exact ⟨_, by rw [lat_of hB, setCell_setCell]⟩

/-- A call in a world, one of whose cells is named as if it had just been written. -/
theorem wp_set {P : Program} {f : FuncId} {args : Array Value} {w : World} {R : Ending → World → Prop} {b i : Nat} {v : Value} (h : w.cell? ⟨b, i, none⟩ = some v)
    (hc : Calls P f args ((lat w w).setCell ⟨b, i, none⟩ v) R) : Calls P f args w R := by rwa [lat_refl, setCell_self h] at hc

/-! ### Slices that read as lists -/

/-- The cells from address A on. -/
def Cells (w : World) (B : Nat) (A : Option Addr) (cs : List Value) : Prop :=
  cs ≠ [] → ∃ b o, A = some ⟨b, o, none⟩ ∧ b < B ∧ ∀ j v, cs[j]? = some v → w.cell? ⟨b, o + j, none⟩ = some v

theorem Cells.nil {w : World} {B : Nat} {A : Option Addr} : Cells w B A [] := fun h => absurd rfl h
theorem Cells.keep {w w' : World} {B B' : Nat} {A : Option Addr} {cs : List Value} (h : Cells w B A cs) (hB : B ≤ B') (hk : ∀ b o, b < B → w'.cell? ⟨b, o, none⟩ = w.cell? ⟨b, o, none⟩) : Cells w' B' A cs := fun hc => by
  obtain ⟨b, o, hA, hb, hv⟩ := h hc
  exact ⟨b, o, hA, Nat.lt_of_lt_of_le hb hB, fun j v hj => (hk b _ hb).trans (hv j v hj)⟩

/-- The slice value '.slice A xs.length c' reads as xs, each element x as the cells 'enc x'; all below block B. -/
def Sl {α : Type} (enc : α → List Value) (B : Nat) (w : World) (A : Option Addr) (c : Nat) (xs : List α) : Prop :=
  xs.length ≤ c ∧ c ≤ 9223372036854775807 ∧ Cells w B A (xs.flatMap enc)

section
variable {α : Type} {enc : α → List Value} {B : Nat} {w w' : World} {A : Option Addr} {c : Nat} {xs : List α}
theorem Sl.cast {ys : List α} (h : Sl enc B w A c xs) (he : xs = ys) : Sl enc B w A c ys := he ▸ h
theorem Sl.none_ : Sl enc B w A 0 ([] : List α) := ⟨Nat.le_refl _, by omega, Cells.nil⟩
theorem Sl.keep (h : Sl enc B w A c xs) {B' : Nat} (hB : B ≤ B') (hk : ∀ b o, b < B → w'.cell? ⟨b, o, none⟩ = w.cell? ⟨b, o, none⟩) : Sl enc B' w' A c xs := ⟨h.1, h.2.1, h.2.2.keep hB hk⟩
theorem Sl.more (h : Sl enc B w A c xs) {B' : Nat} (hB : B ≤ B') : Sl enc B' w A c xs := h.keep hB fun _ _ _ => rfl
theorem Sl.below (h : Sl enc B w A c xs) (hb : Below B w w') : Sl enc B w' A c xs := h.keep (Nat.le_refl _) fun b o hb' => hb.cell (p := ⟨b, o, none⟩) hb'
theorem Sl.len (h : Sl enc B w A c xs) : xs.length ≤ 9223372036854775807 := Nat.le_trans h.1 h.2.1
theorem Sl_iff (hk : ∀ b o, b < B → w'.cell? ⟨b, o, none⟩ = w.cell? ⟨b, o, none⟩) : Sl enc B w' A c xs ↔ Sl enc B w A c xs :=
  ⟨fun h => h.keep (Nat.le_refl _) fun b o hb => (hk b o hb).symm, fun h => h.keep (Nat.le_refl _) hk⟩
theorem cells_same (h : Same B w w') : ∀ b o, b < B → w'.cell? ⟨b, o, none⟩ = w.cell? ⟨b, o, none⟩ := fun b o hb => World.cell?_of_block (a := ⟨b, o, none⟩) (h.2.2.2 b hb)
@[go_sem] theorem Sl_lat (δ : World) [hB : Le B w] : Sl enc B (lat w δ) A c xs ↔ Sl enc B w A c xs := Sl_iff (cells_same ((same_lat B w w δ).2 (same_refl _ _)))
@[go_sem] theorem Sl_alloc (o : Obj) [hB : Le B w] : Sl enc B (w.alloc o) A c xs ↔ Sl enc B w A c xs := Sl_iff (cells_same ((same_alloc B w w o).2 (same_refl _ _)))
theorem Sl.up (h : Sl enc B w A c xs) [hg : Grew B w w'] : Sl enc B w' A c xs := (Sl_iff (cells_same hg.out)).2 h
@[go_sem] theorem Sl_drew : Sl enc B w.drew A c xs ↔ Sl enc B w A c xs := Iff.rfl
@[go_sem] theorem Sl_setCell (p : Addr) (u : Value) (hB : B ≤ p.block) : Sl enc B (w.setCell p u) A c xs ↔ Sl enc B w A c xs := Sl_iff (cells_same ((same_setCell B w w p u hB).2 (same_refl _ _)))
/-- Element k, cell by cell. -/
theorem Sl.at_ (h : Sl enc B w A c xs) {size : Nat} (hs : ∀ x, (enc x).length = size) {k : Nat} (hk : k < xs.length) (h0 : 0 < size) :
    ∃ b o, A = some ⟨b, o, none⟩ ∧ b < B ∧ ∀ j v, (enc xs[k])[j]? = some v → w.cell? ⟨b, o + (k * size + j), none⟩ = some v := by
  have key : ∀ (l : List α) (k : Nat) (hk : k < l.length) (j : Nat) (v : Value), (enc l[k])[j]? = some v → (l.flatMap enc)[k * size + j]? = some v := by
    intro l
    induction l with
    | nil => intro k hk; simp at hk
    | cons x l ih =>
      intro k hk j v hv
      rw [List.flatMap_cons]
      cases k with
      | zero =>
        rw [Nat.zero_mul, Nat.zero_add, List.getElem?_append_left]
        · exact hv
        · exact (List.getElem?_eq_some_iff.1 hv).1
      | succ k =>
        rw [List.getElem?_append_right (by rw [hs, Nat.succ_mul]; omega), hs, Nat.succ_mul, show k * size + size + j - size = k * size + j by omega]
        exact ih k (by simpa using hk) j v hv
  have hne : xs.flatMap enc ≠ [] := by
    intro he
    have hl : 0 < (enc xs[k]).length := by rw [hs]; exact h0
    have := key xs k hk 0 _ (List.getElem?_eq_getElem hl)
    rw [he] at this
    cases this
  obtain ⟨b, o, hA, hb, hc⟩ := h.2.2 hne
  exact ⟨b, o, hA, hb, fun j v hv => hc _ v (key xs k hk j v hv)⟩
end

/-- A row of the call's own reads as a list. -/
theorem Cells.of_own {w : World} {base : Nat} {e : TypeId} {size n c : Nat} {A : Option Addr} {xs : List Value} (h : w.ownsRow base e size (.slice A n c) n xs) : Cells w w.heap.size A xs := by
  intro hne
  rcases h.2 with ⟨hv, rfl⟩ | ⟨g, cap, cur, hv, _, hh, hnc, _, hcs, ht⟩
  · have := h.1; simp at this; exact absurd this hne
  · injection hv with hA _ hc
    subst hA hc
    refine ⟨g, 0, rfl, ?_, ?_⟩
    · rcases Nat.lt_or_ge g w.heap.size with hlt | hge
      · exact hlt
      · rw [Array.getElem?_eq_none hge] at hh; cases hh
    · intro j v hj
      have hcell := h.cells (g := g) rfl j v hj
      simpa [Addr.add_lit] using hcell

theorem Sl.of_own {α : Type} {enc : α → List Value} {w : World} {base : Nat} {e : TypeId} {size c : Nat} {A : Option Addr} {xs : List α} (h : w.ownsRow base e size (.slice A xs.length c) xs.length (xs.flatMap enc)) : Sl enc w.heap.size w A c xs := by
  refine ⟨?_, ?_, Cells.of_own h⟩
  · rcases h.2 with ⟨hv, h0⟩ | ⟨g, cap, cur, hv, _, hh, hnc, _, hcs, ht⟩
    · omega
    · injection hv with _ _ hc; omega
  · rcases h.2 with ⟨hv, h0⟩ | ⟨g, cap, cur, hv, _, hh, hnc, hm, hcs, ht⟩
    · injection hv with _ _ hc; omega
    · injection hv with _ _ hc; unfold maxLen at hm; omega

/-- The slice value of an owned row. -/
theorem own_form {w : World} {base : Nat} {e : TypeId} {size n : Nat} {v : Value} {xs : List Value} (h : w.ownsRow base e size v n xs) : ∃ A c, v = .slice A n c := by
  rcases h.2 with ⟨rfl, rfl⟩ | ⟨g, cap, cur, rfl, _⟩
  · exact ⟨_, _, rfl⟩
  · exact ⟨_, _, rfl⟩

/-- A row owned from W1's size on, in a world that W1 grew into, behind a growth that touched that row alone. -/
theorem grown_lat {W1 W w' : World} {base : Nat} {e : TypeId} {size n : Nat} {v : Value} {xs : List Value} (hb : Below base W1 W) (hown : W.ownsRow base e size v n xs) (hbase : base ≤ W.heap.size) (hg : W.grownBy w' v.ownBlock) : Below base W1 w' :=
  hb.grown hg hbase fun k hk => (hown.lt k hk).1

theorem owns_lat {w : World} (δ : World) {base : Nat} {e : TypeId} {size n : Nat} {v : Value} {xs : List Value} (h : w.ownsRow base e size v n xs) : (lat w δ).ownsRow base e size v n xs := by
  refine ⟨h.1, ?_⟩
  rcases h.2 with h2 | ⟨g, cap, cur, hv, hg, hh, r⟩
  · exact .inl h2
  · refine .inr ⟨g, cap, cur, hv, hg, ?_, r⟩
    rw [(lat_below w δ).block g, hh]
    rcases Nat.lt_or_ge g w.heap.size with hlt | hge
    · exact hlt
    · rw [Array.getElem?_eq_none hge] at hh; cases hh

end Go.Proofs.Ytnddiloeikaleaa
namespace Go.Proofs.Ytnddiloeikaleaa
namespace An

structure Sp where
  lo : Int
  hi : Int
structure Anc where
  wt : Int
  bt : Int
structure Wal where
  sail : Int
  drag : Int
  lean : Int
  corks : Int
  stones : Int
structure Net where
  wind : Sp
  cur : Sp
  grips : List Sp
  ancs : List Anc
  wals : List Wal
structure Tru where
  wind : Int
  cur : Int
  grips : List Int

instance : Inhabited Sp := ⟨⟨0, 0⟩⟩
instance : Inhabited Anc := ⟨⟨0, 0⟩⟩
instance : Inhabited Wal := ⟨⟨0, 0, 0, 0, 0⟩⟩

/-- Is a span one of numbers from 0 to m? -/
def okSp (m : Int) (s : Sp) : Bool := decide (0 ≤ s.lo ∧ s.lo ≤ s.hi ∧ s.hi ≤ m)
def okAnc (bots : Nat) (a : Anc) : Bool := decide (0 ≤ a.wt ∧ a.wt ≤ 20 ∧ 0 ≤ a.bt ∧ a.bt < bots)
def okWal (w : Wal) : Bool := decide (0 ≤ w.sail ∧ w.sail ≤ 9 ∧ 0 ≤ w.drag ∧ w.drag ≤ 9 ∧ 0 ≤ w.lean ∧ w.lean ≤ 9 ∧ 0 ≤ w.corks ∧ w.corks ≤ 99 ∧ 0 ≤ w.stones ∧ w.stones ≤ 99)
def okSps (xs : List Sp) : Bool := xs.all (okSp 9)
def okAncl (g : Nat) (xs : List Anc) : Bool := xs.all (okAnc g)
def okWall (xs : List Wal) : Bool := xs.all okWal
def valid (n : Net) : Bool :=
  okSp 20 n.wind && okSp 20 n.cur && decide (n.grips.length ≤ 3) && decide (n.ancs.length ≤ 6) && decide (n.wals.length = n.ancs.length - 1) && okSps n.grips && okAncl n.grips.length n.ancs && okWall n.wals
theorem valid_iff {n : Net} : valid n = true ↔ okSp 20 n.wind = true ∧ okSp 20 n.cur = true ∧ n.grips.length ≤ 3 ∧ n.ancs.length ≤ 6 ∧ n.wals.length = n.ancs.length - 1 ∧ okSps n.grips = true ∧ okAncl n.grips.length n.ancs = true ∧ okWall n.wals = true := by
  simp [valid, and_assoc]

/-- The load of a wall. -/
def ldW (x : Wal) (wi cu : Int) : Int := x.sail * wi + x.drag * cu
def ld (n : Net) (t : Tru) (k : Nat) : Int := ldW (nth n.wals k) t.wind t.cur
/-- What an anchor bears on one side: the wall k, the anchor o on its other side. -/
def side (n : Net) (t : Tru) (d : Nat → Bool) (k o : Nat) : Int := ld n t k * (if d o then 2 else 1)
/-- What an anchor bears, if some have dragged. -/
def bears (n : Net) (t : Tru) (i : Nat) (d : Nat → Bool) : Int :=
  (if 0 < i then side n t d (i - 1) (i - 1) else 0) + (if i < n.wals.length then side n t d i (i + 1) else 0)
def can (n : Net) (t : Tru) (i : Nat) : Int := 2 * (nth n.ancs i).wt * nth t.grips (nth n.ancs i).bt.toNat
def spare (n : Net) (t : Tru) (i : Nat) (d : Nat → Bool) : Int := can n t i - bears n t i d
/-- A wind, a current and grips that a net can be in (its own wind and current aside). -/
def okTru (n : Net) (t : Tru) : Prop := valid n = true ∧ inB 0 20 t.wind = true ∧ inB 0 20 t.cur = true ∧ t.grips.length = n.grips.length ∧ ∀ g ∈ t.grips, inB 0 9 g = true

theorem mul_bd {a b A B : Int} (h0 : 0 ≤ a) (h1 : a ≤ A) (h2 : 0 ≤ b) (h3 : b ≤ B) : 0 ≤ a * b ∧ a * b ≤ A * B :=
  ⟨Int.mul_nonneg h0 h2, Int.mul_le_mul h1 h3 h2 (Int.le_trans h0 h1)⟩
theorem ldW_bd {x : Wal} {wi cu : Int} (hx : okWal x = true) (hw : inB 0 20 wi = true) (hc : inB 0 20 cu = true) : 0 ≤ x.sail * wi ∧ x.sail * wi ≤ 180 ∧ 0 ≤ x.drag * cu ∧ x.drag * cu ≤ 180 ∧ 0 ≤ ldW x wi cu ∧ ldW x wi cu ≤ 360 := by
  simp only [okWal, inB, decide_eq_true_eq] at *
  have h1 := mul_bd hx.1 hx.2.1 hw.1 hw.2
  have h2 := mul_bd hx.2.2.1 hx.2.2.2.1 hc.1 hc.2
  unfold ldW
  omega
theorem okWal_nth {n : Net} (hv : valid n = true) {k : Nat} (hk : k < n.wals.length) : okWal (nth n.wals k) = true := by
  have := (valid_iff.1 hv).2.2.2.2.2.2.2
  unfold okWall at this
  exact (List.all_eq_true.1 this) _ (nth_mem _ hk)
theorem okAnc_nth {n : Net} (hv : valid n = true) {k : Nat} (hk : k < n.ancs.length) : okAnc n.grips.length (nth n.ancs k) = true := by
  have := (valid_iff.1 hv).2.2.2.2.2.2.1
  unfold okAncl at this
  exact (List.all_eq_true.1 this) _ (nth_mem _ hk)
theorem ld_bd {n : Net} {t : Tru} (h : okTru n t) {k : Nat} (hk : k < n.wals.length) : 0 ≤ ld n t k ∧ ld n t k ≤ 360 := by
  have := ldW_bd (okWal_nth h.1 hk) h.2.1 h.2.2.1
  unfold ld; omega
theorem side_bd {n : Net} {t : Tru} (h : okTru n t) {d : Nat → Bool} {k o : Nat} (hk : k < n.wals.length) : 0 ≤ side n t d k o ∧ side n t d k o ≤ 720 := by
  have := ld_bd h hk
  unfold side; split <;> omega
theorem bears_bd {n : Net} {t : Tru} (h : okTru n t) {d : Nat → Bool} {i : Nat} (hi : i < n.ancs.length) : 0 ≤ bears n t i d ∧ bears n t i d ≤ 1440 := by
  have hw := (valid_iff.1 h.1).2.2.2.2.1
  unfold bears
  by_cases h1 : 0 < i
  · have a := side_bd h (d := d) (k := i - 1) (o := i - 1) (by omega)
    by_cases h2 : i < n.wals.length
    · have b := side_bd h (d := d) (k := i) (o := i + 1) h2
      simp only [h1, h2, if_true]; omega
    · simp only [h1, h2, if_true, if_false]; omega
  · by_cases h2 : i < n.wals.length
    · have b := side_bd h (d := d) (k := i) (o := i + 1) h2
      simp only [h1, h2, if_true, if_false]; omega
    · simp only [h1, h2, if_false]; omega
theorem can_bd {n : Net} {t : Tru} (h : okTru n t) {i : Nat} (hi : i < n.ancs.length) :
    0 ≤ (nth n.ancs i).wt ∧ (nth n.ancs i).wt ≤ 20 ∧ 0 ≤ (nth n.ancs i).bt ∧ (nth n.ancs i).bt.toNat < t.grips.length ∧ 0 ≤ nth t.grips (nth n.ancs i).bt.toNat ∧ nth t.grips (nth n.ancs i).bt.toNat ≤ 9 ∧ 0 ≤ can n t i ∧ can n t i ≤ 360 := by
  have ha := okAnc_nth h.1 hi
  simp only [okAnc, decide_eq_true_eq] at ha
  have hb : (nth n.ancs i).bt.toNat < t.grips.length := by rw [h.2.2.2.1]; omega
  have hg := h.2.2.2.2 _ (nth_mem _ hb)
  simp only [inB, decide_eq_true_eq] at hg
  have := mul_bd (a := 2 * (nth n.ancs i).wt) (A := 40) (by omega) (by omega) hg.1 hg.2
  unfold can
  omega

end An
end Go.Proofs.Ytnddiloeikaleaa
namespace Go.Proofs.Ytnddiloeikaleaa
open Go.RowKit

open Classical in
/-- A world that is w below block B, and perhaps another one from B on. -/
noncomputable def latB (B : Nat) (w δ : World) : World := if Below B w δ then δ else w
theorem latB_below (B : Nat) (w δ : World) : Below B w (latB B w δ) := by
  unfold latB; split
  · assumption
  · exact Below.refl _ _
theorem latB_of {B : Nat} {w w' : World} (h : Below B w w') : latB B w w' = w' := by
  unfold latB; rw [if_pos h]
instance {b B : Nat} {w δ : World} [h : Lt b w] : Lt b (latB B w δ) := ⟨Nat.lt_of_lt_of_le h.out (latB_below B w δ).size⟩
instance {B B' : Nat} {w δ : World} [h : Le B w] : Le B (latB B' w δ) := ⟨Nat.le_trans h.out (latB_below B' w δ).size⟩
@[go_sem] theorem cell_latB (W1 w δ : World) (b o : Nat) [h : Lt b W1] : (latB W1.heap.size w δ).cell? ⟨b, o, none⟩ = w.cell? ⟨b, o, none⟩ := (latB_below _ w δ).cell (p := ⟨b, o, none⟩) h.out
@[go_sem] theorem frozen_latB (W1 w δ : World) (b o : Nat) [h : Lt b W1] : (latB W1.heap.size w δ).frozen? ⟨b, o, none⟩ = w.frozen? ⟨b, o, none⟩ := (latB_below _ w δ).frozen (p := ⟨b, o, none⟩) h.out
instance {B B' : Nat} {w W δ : World} [h : Grew B w W] [hb : LeN B B'] : Grew B w (latB B' W δ) := ⟨by
  have hb := (latB_below B' W δ).mono hb.out
  obtain ⟨a, b, c, d⟩ := h.out
  exact ⟨hb.os.trans a, hb.tape.trans b, hb.output.trans c, fun k hk => (hb.block k hk).trans (d k hk)⟩⟩

/-- One cell of w0 is written, and w0 changes from its end on; the cell is written again: it is as if w0 had grown and the cell were written once. -/
theorem set_back {w0 w2 : World} (δ0 : World) {b i : Nat} {v0 : Value} (x y : Value) (h : w0.cell? ⟨b, i, none⟩ = some v0) [hb : Lt b w0] (hg : Below w0.heap.size ((lat w0 δ0).setCell ⟨b, i, none⟩ x) w2) :
    ∃ δ', w2.setCell ⟨b, i, none⟩ y = (lat w0 δ').setCell ⟨b, i, none⟩ y := by
  have hl0 := lat_below w0 δ0
  have hself : (lat w0 δ0).setCell ⟨b, i, none⟩ v0 = lat w0 δ0 := setCell_self (by rw [cell_lat, h])
  have hblk : ∀ k, k < w0.heap.size → (w2.setCell ⟨b, i, none⟩ v0).heap[k]? = w0.heap[k]? := by
    intro k hk
    have e1 := hg.block k hk
    have e2 : (w2.setCell ⟨b, i, none⟩ v0).heap[k]? = (((lat w0 δ0).setCell ⟨b, i, none⟩ x).setCell ⟨b, i, none⟩ v0).heap[k]? := by
      simp only [World.setCell] at e1 ⊢
      simp only [Array.getElem?_modify] at e1 ⊢
      by_cases hk' : b = k
      · simp only [hk', if_true] at e1 ⊢; rw [e1]
      · simp only [hk', if_false] at e1 ⊢; rw [e1]
    rw [e2, setCell_setCell, hself]
    exact hl0.block k hk
  have hB : Below w0.heap.size w0 (w2.setCell ⟨b, i, none⟩ v0) := by
    refine ⟨hg.os.trans hl0.os, hg.tape.trans hl0.tape, hg.output.trans hl0.output, ?_, hblk⟩
    have := hg.size
    have := hl0.size
    simp only [World.setCell, Array.size_modify] at *
    omega
  exact ⟨_, by rw [lat_of hB, setCell_setCell]⟩

class NeN (a b : Nat) : Prop where
  out : a ≠ b
@[go_sem] theorem cell_set_ne (w : World) (b b' i i' : Nat) (u : Value) [h : NeN b b'] : (w.setCell ⟨b', i', none⟩ u).cell? ⟨b, i, none⟩ = w.cell? ⟨b, i, none⟩ :=
  World.cell?_setCell_other _ _ _ _ (by intro e; injection e with e1 _; exact h.out e1.symm)

/-- A slice type: its elements' type, their zero value, cells and bytes. -/
def SlT (P : Program) (t e : TypeId) (z : Value) (size bytes : Nat) : Prop := ∃ i, P.underlying t = some (.slice e) ∧ P.info? e = some i ∧ i.zero = some z ∧ i.size = size ∧ i.bytes = bytes ∧ z.cells.size = size ∧ 0 < size
theorem SlT.mk {P : Program} {t e : TypeId} {z : Value} {size bytes : Nat} (ht : P.underlying t = some (.slice e)) (hi : (P.info? e).map (fun i => (i.zero, i.size, i.bytes)) = some (some z, size, bytes)) (hzs : z.cells.size = size) (hsz : 0 < size) : SlT P t e z size bytes := by
  obtain ⟨i, a, b, c, d⟩ := info_parts hi
  exact ⟨i, ht, a, b, c, d, hzs, hsz⟩

/-- append onto a row of the call's own (made since the world W1). -/
theorem wpList_append_lat {P : Program} (W1 : World) {W : World} {ops : Array Oper} {rest : List Oper} {o : Oper} {a : Act} {Q : Exit → Act → World → Prop} {t e : TypeId} {z : Value} {size bytes : Nat} (hT : SlT P t e z size bytes)
    (s x : Operand) (hgd : o.guard = none) (ho : o.op = .call { callee := .builtin .append, args := #[s, x], argTypes := #[t, t] })
    (v : Value) (n : Nat) (xs : List Value) (hs : a.eval s = v) (hown : W.ownsRow W1.heap.size e size v n xs)
    (ad : Addr) (m c : Nat) (news : List Value) (hx : a.eval x = .slice (some ad) m c) (hl : news.length = m * size) (hnews : ∀ j u, news[j]? = some u → W.cell? (ad.add j) = some u) (h1 : ∀ u ∈ news, u.oneCell' = true)
    (h63 : n + m ≤ 9223372036854775807) (hbytes : (n + m) * bytes ≤ 140737488355328) [hbase : Le W1.heap.size W]
    (h : ∀ A' c' δ, (latB W1.heap.size W δ).ownsRow W1.heap.size e size (.slice A' (n + m) c') (n + m) (xs ++ news) → wpList P ops Q rest (a.put o.dst (.slice A' (n + m) c')) (latB W1.heap.size W δ)) : wpList P ops Q (o :: rest) a W := by
  obtain ⟨i, ht, hi, hz, hsize, hby, hzs, hsz⟩ := hT
  refine wpList_append_own W hgd s x t ho W1.heap.size e i z size bytes ht hi hz hsize hby hzs hsz v n xs hs hown ad m c news hx hl hnews h1 h63 hbytes hbase.out ?_
  intro v' w' hown' hg _
  obtain ⟨A', c', rfl⟩ := own_form hown'
  have hB : Below W1.heap.size W w' := (Below.refl _ _).grown hg hbase.out fun k hk => (hown.lt k hk).1
  have := h A' c' w'
  rw [latB_of hB] at this
  exact this hown'

/-- .. of elements that were written out just before. -/
theorem wpList_append_new {P : Program} (W1 : World) {W : World} {ops : Array Oper} {rest : List Oper} {o : Oper} {a : Act} {Q : Exit → Act → World → Prop} {t e : TypeId} {z : Value} {size bytes : Nat} (hT : SlT P t e z size bytes)
    (s x : Operand) (hgd : o.guard = none) (ho : o.op = .call { callee := .builtin .append, args := #[s, x], argTypes := #[t, t] })
    {v : Value} {n : Nat} {xs : List Value} (hown : W.ownsRow W1.heap.size e size v n xs) (hs : a.eval s = v)
    {g m c : Nat} {arr : Array Value} {T : TypeId} (hx : a.eval x = .slice (some ⟨g, 0, none⟩) m c) (hg : g = W.heap.size) (hl : arr.size = m * size) (h1 : ∀ u ∈ arr.toList, u.oneCell' = true)
    (h63 : n + m ≤ 1000000) (hbytes : bytes ≤ 1000) [hbase : Le W1.heap.size W]
    (h : ∀ A' c' δ, (latB W1.heap.size (W.alloc (.cells arr T)) δ).ownsRow W1.heap.size e size (.slice A' (n + m) c') (n + m) (xs ++ arr.toList) → wpList P ops Q rest (a.put o.dst (.slice A' (n + m) c')) (latB W1.heap.size (W.alloc (.cells arr T)) δ)) :
    wpList P ops Q (o :: rest) a (W.alloc (.cells arr T)) :=
  wpList_append_lat W1 hT s x hgd ho v n xs hs (hown.alloc _) ⟨g, 0, none⟩ m c arr.toList hx (by simpa using hl)
    (fun j u hj => by
      rw [show (⟨g, 0, none⟩ : Addr).add j = ⟨g, j, none⟩ by simp [Addr.add_lit], World.cell?_alloc_at _ _ _ _ hg]
      simpa using hj) h1 (by omega) (by have := Nat.mul_le_mul h63 hbytes; omega) h

theorem below_inst {B : Nat} {w W : World} [h : Grew B w W] [hs : Le w.heap.size W] : Below B w W := h.out.below
theorem flatMap_snoc {α : Type} [Inhabited α] (enc : α → List Value) (xs : List α) {k : Nat} (h : k < xs.length) : (xs.take (k + 1)).flatMap enc = (xs.take k).flatMap enc ++ enc (nth xs k) := by
  rw [take_snoc xs h, List.flatMap_append]; simp
theorem nth_map {α β : Type} [Inhabited α] [Inhabited β] (f : α → β) (xs : List α) {k : Nat} (h : k < xs.length) : nth (xs.map f) k = f (nth xs k) := by
  rw [nth_get _ (by simpa using h), nth_get _ h]; simp

theorem owns_def {w W : World} {b e s n : Nat} {v : Value} {xs : List Value} (h : W.ownsRow b e s v n xs) [Grew w.heap.size w W] [Le w.heap.size W] : (lat w W).ownsRow b e s v n xs := by rwa [← lat_def (w := w) (W := W)]
theorem sl_def {α : Type} {enc : α → List Value} {w W : World} {A : Option Addr} {c : Nat} {xs : List α} (h : Sl enc W.heap.size W A c xs) [Grew w.heap.size w W] [Le w.heap.size W] : Sl enc (lat w W).heap.size (lat w W) A c xs := by rwa [← lat_def (w := w) (W := W)]

/-! More tools: a block that is known whole, in whatever world. -/
open Go.RowKit

/-- Block b is a row of just these cells, none of them frozen. -/
def Box (w : World) (b : Nat) (T : TypeId) (cs : Array Value) : Prop := w.heap[b]? = some (.cells cs T (0, 0))
section
variable {w W : World} {b : Nat} {T : TypeId} {cs : Array Value}
theorem Box.lt_ (h : Box w b T cs) : b < w.heap.size := by
  rcases Nat.lt_or_ge b w.heap.size with hlt | hge
  · exact hlt
  · unfold Box at h; rw [Array.getElem?_eq_none hge] at h; cases h
theorem Box.lt (h : Box w b T cs) : Lt b w := ⟨h.lt_⟩
theorem Box.cell (h : Box w b T cs) {i : Nat} {v : Value} (hv : cs[i]? = some v) : w.cell? ⟨b, i, none⟩ = some v := by
  unfold Box at h; unfold World.cell?; rw [h]; exact hv
theorem Box.free (h : Box w b T cs) (i : Nat) : w.frozen? ⟨b, i, none⟩ = false := by
  unfold Box at h
  simp [World.frozen?, h]
theorem Box.new {o : Array Value} {n : Nat} (hn : n = w.heap.size) : Box (w.alloc (.cells o T)) n T o := by
  subst hn; exact heap_alloc_new w _
theorem Box.drew (h : Box w b T cs) : Box w.drew b T cs := h
theorem Box.lat (h : Box w b T cs) (δ : World) : Box (lat w δ) b T cs := ((lat_below w δ).block b h.lt_).trans h
theorem Box.alloc (h : Box w b T cs) (o : Obj) : Box (w.alloc o) b T cs := (Below.heap_alloc w o b h.lt_).trans h
theorem Box.set (h : Box w b T cs) (i : Nat) (u : Value) : Box (w.setCell ⟨b, i, none⟩ u) b T (cs.setIfInBounds i u) := by
  unfold Box at h ⊢
  simp [World.setCell, Array.getElem?_modify, h]
theorem Box.far (h : Box w b T cs) {p : Addr} (hp : b ≠ p.block) (u : Value) : Box (w.setCell p u) b T cs := (Below.heap_setCell w p u b hp).trans h
theorem Box.latB {B : Nat} (h : Box w b T cs) (hb : b < B) (δ : World) : Box (latB B w δ) b T cs := ((latB_below B w δ).block b hb).trans h
end

/-- The first number below m that hits, or m. -/
def firstHit (hit : Nat → Bool) : Nat → Nat → Nat
  | 0, k => k
  | f + 1, k => if hit k then k else firstHit hit f (k + 1)
theorem firstHit_spec (hit : Nat → Bool) : ∀ f k, k ≤ firstHit hit f k ∧ firstHit hit f k ≤ k + f ∧ (∀ j, k ≤ j → j < firstHit hit f k → hit j = false) ∧ (firstHit hit f k < k + f → hit (firstHit hit f k) = true)
  | 0, k => ⟨Nat.le_refl _, Nat.le_refl _, fun j h1 h2 => absurd h2 (by simp [firstHit]; omega), fun h => absurd h (by simp [firstHit])⟩
  | f + 1, k => by
    unfold firstHit
    by_cases h : hit k = true
    · rw [if_pos h]; exact ⟨Nat.le_refl _, by omega, fun j h1 h2 => by omega, fun _ => h⟩
    · rw [if_neg h]
      obtain ⟨a, b, c, d⟩ := firstHit_spec hit f (k + 1)
      refine ⟨by omega, by omega, fun j h1 h2 => ?_, fun hh => d (by omega)⟩
      by_cases hj : j = k
      · subst hj; simpa using h
      · exact c j (by omega) h2
theorem firstHit_at (hit : Nat → Bool) {m k : Nat} (hk : k < m) (h0 : ∀ j, j < k → hit j = false) (h1 : hit k = true) : firstHit hit m 0 = k := by
  obtain ⟨a, b, c, d⟩ := firstHit_spec hit m 0
  rcases Nat.lt_trichotomy (firstHit hit m 0) k with h | h | h
  · have := d (by omega); rw [h0 _ h] at this; cases this
  · exact h
  · have := c k (by omega) h; rw [h1] at this; cases this
theorem firstHit_none (hit : Nat → Bool) {m : Nat} (h0 : ∀ j, j < m → hit j = false) : firstHit hit m 0 = m := by
  obtain ⟨a, b, c, d⟩ := firstHit_spec hit m 0
  rcases Nat.lt_or_ge (firstHit hit m 0) m with h | h
  · have := d (by omega); rw [h0 _ h] at this; cases this
  · omega

end Go.Proofs.Ytnddiloeikaleaa
namespace Go.Proofs.Ytnddiloeikaleaa
open An
namespace Tc

structure Boat where
  carry : Int
  pence : Int
structure Sea where
  wt : Sp
  places : List Sp
  boats : List Boat
instance : Inhabited Boat := ⟨⟨0, 0⟩⟩

def okPls (xs : List Sp) : Bool := xs.all (okSp 12)
def okBoat (b : Boat) : Bool := decide (0 ≤ b.carry ∧ b.carry ≤ 999 ∧ 0 ≤ b.pence ∧ b.pence ≤ 99)
def okBoats (xs : List Boat) : Bool := xs.all okBoat
def sumLo (xs : List Sp) : Int := (xs.map Sp.lo).sum
def sumHi (xs : List Sp) : Int := (xs.map Sp.hi).sum
def seaOk (s : Sea) : Bool := okSp 2000 s.wt && decide (s.places.length ≤ 4) && decide (s.boats.length ≤ 6) && okPls s.places && decide (sumLo s.places ≤ 12) && decide (12 ≤ sumHi s.places) && okBoats s.boats
theorem seaOk_iff {s : Sea} : seaOk s = true ↔ okSp 2000 s.wt = true ∧ s.places.length ≤ 4 ∧ s.boats.length ≤ 6 ∧ okPls s.places = true ∧ sumLo s.places ≤ 12 ∧ 12 ≤ sumHi s.places ∧ okBoats s.boats = true := by
  simp [seaOk, and_assoc]
theorem sumLo_snoc {xs : List Sp} {k : Nat} (h : k < xs.length) : sumLo (xs.take (k + 1)) = sumLo (xs.take k) + (nth xs k).lo := by
  unfold sumLo; rw [take_snoc _ h]; simp
theorem sumHi_snoc {xs : List Sp} {k : Nat} (h : k < xs.length) : sumHi (xs.take (k + 1)) = sumHi (xs.take k) + (nth xs k).hi := by
  unfold sumHi; rw [take_snoc _ h]; simp
theorem okPls_nth {xs : List Sp} (h : okPls xs = true) {k : Nat} (hk : k < xs.length) : okSp 12 (nth xs k) = true := List.all_eq_true.1 h _ (nth_mem xs hk)
theorem okBoats_nth {xs : List Boat} (h : okBoats xs = true) {k : Nat} (hk : k < xs.length) : okBoat (nth xs k) = true := List.all_eq_true.1 h _ (nth_mem xs hk)
theorem okSp_iff {m : Int} {s : Sp} : okSp m s = true ↔ 0 ≤ s.lo ∧ s.lo ≤ s.hi ∧ s.hi ≤ m := by simp [okSp]
theorem okBoat_iff {b : Boat} : okBoat b = true ↔ 0 ≤ b.carry ∧ b.carry ≤ 999 ∧ 0 ≤ b.pence ∧ b.pence ≤ 99 := by simp [okBoat]
theorem sums_bd {xs : List Sp} (h : okPls xs = true) (k : Nat) (hk : k ≤ xs.length) : 0 ≤ sumLo (xs.take k) ∧ sumLo (xs.take k) ≤ sumHi (xs.take k) ∧ sumHi (xs.take k) ≤ 12 * k := by
  induction k with
  | zero => simp [sumLo, sumHi]
  | succ k ih =>
    obtain ⟨a, b, c⟩ := ih (by omega)
    obtain ⟨d, e, f⟩ := okSp_iff.1 (okPls_nth h (show k < xs.length by omega))
    rw [sumLo_snoc (by omega), sumHi_snoc (by omega)]
    omega

/-- The most parts that a place can have in a truth. -/
def partLo (s : Sea) (i : Nat) : Int := max (nth s.places i).lo (12 - (sumHi s.places - (nth s.places i).hi))
def partHi (s : Sea) (i : Nat) : Int := min (nth s.places i).hi (12 - (sumLo s.places - (nth s.places i).lo))
/-- What a boat must carry at a place. -/
def needB (s : Sea) (i : Nat) : Int := (s.wt.hi * partHi s i + 12 - 1).tdiv 12
/-- A list of boats, no two the same. -/
def isCrewL (s : Sea) (l : List Int) : Prop := l.Nodup ∧ ∀ x ∈ l, 0 ≤ x ∧ x < s.boats.length
/-- Does a crew surely hold? -/
def holdsTo (s : Sea) (l : List Int) (k : Nat) : Bool := (List.range k).all fun i => decide (needB s i ≤ (nth s.boats (nth l i).toNat).carry)
def holdsL (s : Sea) (l : List Int) : Bool := holdsTo s l l.length
def costTo (s : Sea) (l : List Int) (k : Nat) : Int := ((List.range k).map fun i => (nth s.boats (nth l i).toNat).pence).sum
/-- All crews that begin with a list, m more to come. -/
def crewsN (s : Sea) : Nat → List Int → List (List Int)
  | 0, l => [l]
  | m + 1, l => (List.range s.boats.length).flatMap fun (i : Nat) => if (i : Int) ∈ l then [] else crewsN s m (l ++ [(i : Int)])
def crews (s : Sea) : List (List Int) := crewsN s s.places.length []
/-- Is there a crew that surely holds? -/
def canHold (s : Sea) : Bool := (crews s).any (holdsL s)
end Tc
end Go.Proofs.Ytnddiloeikaleaa
namespace Go.Proofs.Ytnddiloeikaleaa
namespace An

/-- Those that have dragged when those have that bear too much, looked at up to anchor k. -/
def stepTo (n : Net) (t : Tru) (m : Nat) : Nat → Nat
  | 0 => m
  | k + 1 => if m.testBit k = false ∧ spare n t k (fun i => m.testBit i) < 0 then stepTo n t m k ||| 2 ^ k else stepTo n t m k
def stepM (n : Net) (t : Tru) (m : Nat) : Nat := stepTo n t m n.ancs.length
/-- .. as a set. -/
def stepB (n : Net) (t : Tru) (d : Nat → Bool) (i : Nat) : Bool := d i || (decide (i < n.ancs.length) && decide (spare n t i d < 0))

theorem stepTo_bit (n : Net) (t : Tru) (m k i : Nat) : (stepTo n t m k).testBit i = (m.testBit i || (decide (i < k) && decide (spare n t i (fun i => m.testBit i) < 0))) := by
  induction k with
  | zero => simp [stepTo]
  | succ k ih =>
    unfold stepTo
    split
    · rename_i h
      rw [Nat.testBit_or, ih, Nat.testBit_two_pow]
      by_cases hik : k = i
      · subst hik; simp [h.2]
      · have e : decide (i < k + 1) = decide (i < k) := by rw [decide_eq_decide]; omega
        simp [hik, e]
    · rename_i h
      rw [ih]
      by_cases hik : i = k
      · subst hik
        by_cases hb : m.testBit i = true
        · simp [hb]
        · have : ¬ spare n t i (fun i => m.testBit i) < 0 := fun hs => h ⟨by simpa using hb, hs⟩
          simp [this]
      · have e : decide (i < k + 1) = decide (i < k) := by rw [decide_eq_decide]; omega
        simp [e]
theorem stepM_bit (n : Net) (t : Tru) (m i : Nat) : (stepM n t m).testBit i = stepB n t (fun i => m.testBit i) i := stepTo_bit n t m _ i
theorem stepTo_lt (n : Net) (t : Tru) (m k : Nat) (hm : m < 64) (hk : k ≤ 6) : stepTo n t m k < 64 := by
  induction k with
  | zero => simpa [stepTo] using hm
  | succ k ih =>
    have h1 := ih (by omega)
    unfold stepTo
    split
    · exact Nat.or_lt_two_pow (n := 6) h1 (Nat.pow_lt_pow_right (by omega) (by omega))
    · exact h1
theorem le_of_sub {a b : Nat} (h : ∀ i, a.testBit i = true → b.testBit i = true) : a ≤ b := by
  have : a ||| b = b := by
    apply Nat.eq_of_testBit_eq
    intro i
    rw [Nat.testBit_or]
    cases ha : a.testBit i with
    | false => simp
    | true => simp [h i ha]
  rw [← this]
  exact Nat.left_le_or
theorem stepM_ge (n : Net) (t : Tru) (m : Nat) : m ≤ stepM n t m := le_of_sub fun i h => by rw [stepM_bit, stepB, h]; rfl

/-- A set that holds all that drag if it has dragged. -/
def Closed (n : Net) (t : Tru) (S : Nat → Bool) : Prop := ∀ i, stepB n t S i = true → S i = true
/-- Those that have dragged at last: all that are in each closed set that holds the first ones. -/
def lastP (n : Net) (t : Tru) (d : Nat → Bool) (i : Nat) : Prop := ∀ S, Closed n t S → (∀ k, d k = true → S k = true) → S i = true

theorem bears_mono {n : Net} {t : Tru} (h : okTru n t) {d e : Nat → Bool} (hde : ∀ k, d k = true → e k = true) {i : Nat} (hi : i < n.ancs.length) : bears n t i d ≤ bears n t i e := by
  have hw := (valid_iff.1 h.1).2.2.2.2.1
  have hs : ∀ k o, k < n.wals.length → side n t d k o ≤ side n t e k o := by
    intro k o hk
    have := ld_bd h hk
    unfold side
    by_cases hd : d o = true
    · rw [hd, hde o hd]; omega
    · rw [Bool.not_eq_true] at hd; rw [hd]; simp only [Bool.false_eq_true, if_false]; split <;> omega
  unfold bears
  by_cases h1 : 0 < i
  · have a := hs (i - 1) (i - 1) (by omega)
    by_cases h2 : i < n.wals.length
    · have b := hs i (i + 1) h2
      simp only [h1, h2, if_true]; omega
    · simp only [h1, h2, if_true, if_false]; omega
  · by_cases h2 : i < n.wals.length
    · have b := hs i (i + 1) h2
      simp only [h1, h2, if_true, if_false]; omega
    · simp only [h1, h2, if_false]; omega
theorem stepB_mono {n : Net} {t : Tru} (h : okTru n t) {d e : Nat → Bool} (hde : ∀ k, d k = true → e k = true) {i : Nat} (hi : stepB n t d i = true) : stepB n t e i = true := by
  unfold stepB at *
  rw [Bool.or_eq_true] at *
  rcases hi with hi | hi
  · exact .inl (hde i hi)
  · right
    simp only [Bool.and_eq_true, decide_eq_true_eq] at *
    have := bears_mono h hde hi.1
    refine ⟨hi.1, ?_⟩
    unfold spare at *
    omega
/-- A set on the way to the last one. -/
def OnWay (n : Net) (t : Tru) (m0 m : Nat) : Prop := (∀ i, m0.testBit i = true → m.testBit i = true) ∧ ∀ S, Closed n t S → (∀ k, m0.testBit k = true → S k = true) → ∀ i, m.testBit i = true → S i = true
theorem OnWay.start (n : Net) (t : Tru) (m : Nat) : OnWay n t m m := ⟨fun _ h => h, fun _ _ h i hi => h i hi⟩
theorem OnWay.step {n : Net} {t : Tru} {m0 m : Nat} (ht : okTru n t) (h : OnWay n t m0 m) : OnWay n t m0 (stepM n t m) :=
  ⟨fun i hi => by rw [stepM_bit, stepB, h.1 i hi]; rfl, fun S hS hm i hi => hS i (stepB_mono ht (fun k hk => h.2 S hS hm k hk) (by rw [stepM_bit] at hi; exact hi))⟩
theorem OnWay.last {n : Net} {t : Tru} {m0 m : Nat} (h : OnWay n t m0 m) (hf : stepM n t m = m) (i : Nat) : m.testBit i = true ↔ lastP n t (fun i => m0.testBit i) i :=
  ⟨fun hi S hS hm => h.2 S hS hm i hi, fun hl => hl (fun i => m.testBit i) (fun k hk => by rw [← stepM_bit, hf] at hk; exact hk) h.1⟩

/-- The lowest anchor of a set that is not empty. -/
def tzN (s : Nat) : Nat := if s.testBit 0 then 0 else if s.testBit 1 then 1 else if s.testBit 2 then 2 else if s.testBit 3 then 3 else if s.testBit 4 then 4 else 5
/-- All anchors of a set. -/
def listM (s : Nat) : List Int := ((List.range 6).filter fun i => s.testBit i).map fun (i : Nat) => (i : Int)
theorem listM_zero : listM 0 = [] := by decide
theorem listM_step : ∀ s : Fin 64, s.val ≠ 0 → listM s.val = (tzN s.val : Int) :: listM (s.val &&& (s.val - 1)) ∧ s.val &&& (s.val - 1) < s.val ∧ tzN s.val < 6 := by decide +kernel
theorem listM_mem {s i : Nat} (hs : s < 64) : (i : Int) ∈ listM s ↔ s.testBit i = true := by
  unfold listM
  simp only [List.mem_map, List.mem_filter, List.mem_range]
  constructor
  · rintro ⟨k, ⟨_, h⟩, hk⟩
    have : k = i := by omega
    rwa [← this]
  · intro h
    refine ⟨i, ⟨?_, h⟩, rfl⟩
    rcases Nat.lt_or_ge i 6 with h6 | h6
    · exact h6
    · have := Nat.testBit_lt_two_pow (Nat.lt_of_lt_of_le hs (show 64 ≤ 2 ^ i from Nat.pow_le_pow_right (n := 2) (by omega) h6))
      rw [this] at h; cases h

end An

/-! The plain words of layer 2: sets of anchors as ascending lists. -/
namespace An

/-- All numbers below m of a set, as a list. -/
def rangeL (m : Nat) (d : Nat → Bool) : List Int := ((List.range m).filter d).map fun (i : Nat) => (i : Int)
theorem rangeL_zero (d : Nat → Bool) : rangeL 0 d = [] := rfl
theorem rangeL_succ (m : Nat) (d : Nat → Bool) : rangeL (m + 1) d = rangeL m d ++ (if d m = true then [(m : Int)] else []) := by
  unfold rangeL
  rw [List.range_succ, List.filter_append, List.map_append]
  congr 1
  by_cases h : d m = true <;> simp [h]
theorem mem_rangeL {m : Nat} {d : Nat → Bool} {k : Nat} : (k : Int) ∈ rangeL m d ↔ k < m ∧ d k = true := by
  unfold rangeL
  simp only [List.mem_map, List.mem_filter, List.mem_range]
  constructor
  · rintro ⟨j, h, hj⟩
    have : j = k := by omega
    rwa [← this]
  · intro h; exact ⟨k, h, rfl⟩
theorem rangeL_len (m : Nat) (d : Nat → Bool) : (rangeL m d).length ≤ m := by
  unfold rangeL
  rw [List.length_map]
  have := List.length_filter_le d (List.range m)
  simpa using this
theorem rangeL_congr {m : Nat} {d e : Nat → Bool} (h : ∀ k, k < m → d k = e k) : rangeL m d = rangeL m e := by
  unfold rangeL
  rw [List.filter_congr (fun k hk => h k (by simpa using hk))]
theorem rangeL_mono {m : Nat} {d e : Nat → Bool} (h : ∀ k, k < m → d k = true → e k = true) : (rangeL m d).length ≤ (rangeL m e).length ∧ ((rangeL m d).length = (rangeL m e).length → ∀ k, k < m → d k = e k) := by
  induction m with
  | zero => exact ⟨by simp [rangeL], fun _ k hk => by omega⟩
  | succ m ih =>
    obtain ⟨i1, i2⟩ := ih (fun k hk => h k (by omega))
    rw [rangeL_succ, rangeL_succ, List.length_append, List.length_append]
    have hm := h m (by omega)
    by_cases hd : d m = true
    · rw [if_pos hd, if_pos (hm hd)]
      refine ⟨by simpa using i1, fun he k hk => ?_⟩
      by_cases hkm : k = m
      · subst hkm; rw [hd, hm hd]
      · exact i2 (by simpa using he) k (by omega)
    · rw [if_neg hd]
      by_cases he : e m = true
      · rw [if_pos he]
        refine ⟨by simp; omega, fun hq => ?_⟩
        simp at hq; omega
      · rw [if_neg he]
        refine ⟨by simpa using i1, fun hq k hk => ?_⟩
        by_cases hkm : k = m
        · subst hkm; rw [Bool.not_eq_true] at hd he; rw [hd, he]
        · exact i2 (by simpa using hq) k (by omega)

theorem lastP_step {n : Net} {t : Tru} (ht : okTru n t) (d : Nat → Bool) (i : Nat) : lastP n t (stepB n t d) i ↔ lastP n t d i := by
  constructor
  · intro h S hS hd
    exact h S hS fun k hk => hS k (stepB_mono ht hd hk)
  · intro h S hS hd
    exact h S hS fun k hk => hd k (by unfold stepB; rw [hk]; rfl)
theorem lastP_fix {n : Net} {t : Tru} {d : Nat → Bool} (h : ∀ i, stepB n t d i = d i) (i : Nat) : lastP n t d i ↔ d i = true :=
  ⟨fun hl => hl d (fun k hk => by rw [h] at hk; exact hk) fun _ hk => hk, fun hd _ _ hs => hs i hd⟩

theorem bears_congr {n : Net} {t : Tru} {d e : Nat → Bool} (hw : n.wals.length = n.ancs.length - 1) (h : ∀ k, k < n.ancs.length → d k = e k) {i : Nat} (hi : i < n.ancs.length) : bears n t i d = bears n t i e := by
  unfold bears side
  congr 1
  · by_cases h0 : 0 < i
    · rw [if_pos h0, if_pos h0, h (i - 1) (by omega)]
    · rw [if_neg h0, if_neg h0]
  · by_cases h0 : i < n.wals.length
    · rw [if_pos h0, if_pos h0, h (i + 1) (by omega)]
    · rw [if_neg h0, if_neg h0]
theorem stepB_congr {n : Net} {t : Tru} {d e : Nat → Bool} (hw : n.wals.length = n.ancs.length - 1) (h : ∀ k, k < n.ancs.length → d k = e k) {i : Nat} (hi : i < n.ancs.length) : stepB n t d i = stepB n t e i := by
  unfold stepB spare
  rw [h i hi, bears_congr hw h hi]

end An
end Go.Proofs.Ytnddiloeikaleaa
namespace Go.Proofs.Ytnddiloeikaleaa
open Go.RowKit

theorem run_append_nil {P : Program} (w : World) {base : Nat} {t ty e : TypeId} {z : Value} {size bytes : Nat} (hT : SlT P t e z size bytes) {v : Value} {n : Nat} {xs : List Value} (hown : w.ownsRow base e size v n xs) (c : Nat) :
    (Builtin.append_ #[t, t] ty #[v, .slice none 0 c]).run P w = .ok v w := by
  obtain ⟨i, ht, hi, _⟩ := hT
  rcases hown.2 with ⟨rfl, rfl⟩ | ⟨g, cap, cur, rfl, _, _, hnc, _⟩
  · simp [Builtin.append_, run_underlying ht, sizeOf, typeInfo, hi, Builtin.lenOf, Builtin.firstCells]
  · simp [Builtin.append_, run_underlying ht, sizeOf, typeInfo, hi, Builtin.lenOf, Builtin.firstCells, hnc, storeCells]

theorem run_append_cells {P : Program} (w : World) {base : Nat} {t ty e : TypeId} {z : Value} {size bytes : Nat} (hT : SlT P t e z size bytes) {v : Value} {n : Nat} {xs : List Value} (hown : w.ownsRow base e size v n xs)
    {B m c : Nat} {A : Option Addr} {news : List Value} (hr : Cells w B A news) (hl : news.length = m * size) (h1 : ∀ u ∈ news, u.oneCell' = true)
    (h63 : n + m ≤ 1000000) (hbytes : bytes ≤ 1000) [hbase : Le base w] :
    ∃ v' w', (Builtin.append_ #[t, t] ty #[v, .slice A m c]).run P w = .ok v' w' ∧ w'.ownsRow base e size v' (n + m) (xs ++ news) ∧ w.grownBy w' v.ownBlock := by
  have hT' := hT
  obtain ⟨i, ht, hi, hz, hsize, hby, hzs, hsz⟩ := hT
  cases A with
  | none =>
    have hn : news = [] := by
      rcases news with _ | ⟨u, us⟩
      · rfl
      · obtain ⟨_, _, h, _⟩ := hr (by simp); cases h
    subst hn
    have hm : m = 0 := by
      rcases Nat.eq_zero_or_pos m with h | h
      · exact h
      · have := Nat.mul_pos h hsz; simp at hl; omega
    subst hm
    exact ⟨v, w, run_append_nil w hT' hown c, by simpa using hown, World.grownBy.refl w _⟩
  | some ad =>
    obtain ⟨v', w', h2, h3, h4, _⟩ := run_append_own (P := P) w base t ty e i z size bytes ht hi hz hsize hby hzs hsz v n xs hown ad m c news hl (by
      intro j u hj
      obtain ⟨b, o, hA, _, hc⟩ := hr (by rintro rfl; simp at hj)
      injection hA with hA
      subst hA
      rw [show (⟨b, o, none⟩ : Addr).add j = ⟨b, o + j, none⟩ by simp [Addr.add_lit]]
      exact hc j u hj) h1 (by unfold maxLen; omega) (by have := Nat.mul_le_mul h63 hbytes; omega) hbase.out
    exact ⟨v', w', h2, h3, h4⟩

/-- append of a slice, in the midst of a region. -/
theorem wp_append_cells {P : Program} (W1 : World) {W : World} {o : Oper} {a : Act} {K : Act → World → Prop} {Q : Exit → Act → World → Prop} {t e : TypeId} {z : Value} {size bytes : Nat} (hT : SlT P t e z size bytes)
    (s x : Operand) (ho : o.op = .call { callee := .builtin .append, args := #[s, x], argTypes := #[t, t] })
    {v : Value} {n : Nat} {xs : List Value} (hown : W.ownsRow W1.heap.size e size v n xs) (hs : a.eval s = v)
    {B m c : Nat} {A : Option Addr} {news : List Value} (hx : a.eval x = .slice A m c) (hr : Cells W B A news) (hl : news.length = m * size) (h1 : ∀ u ∈ news, u.oneCell' = true)
    (h63 : n + m ≤ 1000000) (hbytes : bytes ≤ 1000) [hbase : Le W1.heap.size W]
    (h : ∀ A' c' δ, (latB W1.heap.size W δ).ownsRow W1.heap.size e size (.slice A' (n + m) c') (n + m) (xs ++ news) → W.grownBy (latB W1.heap.size W δ) v.ownBlock → K (a.put o.dst (.slice A' (n + m) c')) (latB W1.heap.size W δ)) : o.wp P a W K Q := by
  obtain ⟨v', w', hrun, hown', hg⟩ := run_append_cells (P := P) (ty := o.type) W hT hown hr hl h1 h63 hbytes
  obtain ⟨A', c', rfl⟩ := own_form hown'
  have hB : Below W1.heap.size W w' := (Below.refl _ _).grown hg hbase.out fun k hk => (hown.lt k hk).1
  have := h A' c' w'
  rw [latB_of hB] at this
  have h9 := this hown' hg
  unfold Oper.wp execOp
  simp only [ho, resolve, invoke, builtin, Sem.run_bind, Sem.run_pure, Result.andThen_ok, List.map_toArray, List.map_cons, List.map_nil, hs, hx]
  rw [hrun]
  exact h9

theorem wpList_append_cells {P : Program} (W1 : World) {W : World} {ops : Array Oper} {rest : List Oper} {o : Oper} {a : Act} {Q : Exit → Act → World → Prop} {t e : TypeId} {z : Value} {size bytes : Nat} (hT : SlT P t e z size bytes)
    (s x : Operand) (hgd : o.guard = none) (ho : o.op = .call { callee := .builtin .append, args := #[s, x], argTypes := #[t, t] })
    {v : Value} {n : Nat} {xs : List Value} (hown : W.ownsRow W1.heap.size e size v n xs) (hs : a.eval s = v)
    {B m c : Nat} {A : Option Addr} {news : List Value} (hx : a.eval x = .slice A m c) (hr : Cells W B A news) (hl : news.length = m * size) (h1 : ∀ u ∈ news, u.oneCell' = true)
    (h63 : n + m ≤ 1000000) (hbytes : bytes ≤ 1000) [hbase : Le W1.heap.size W]
    (h : ∀ A' c' δ, (latB W1.heap.size W δ).ownsRow W1.heap.size e size (.slice A' (n + m) c') (n + m) (xs ++ news) → W.grownBy (latB W1.heap.size W δ) v.ownBlock → wpList P ops Q rest (a.put o.dst (.slice A' (n + m) c')) (latB W1.heap.size W δ)) : wpList P ops Q (o :: rest) a W :=
  wpList_plain hgd fun _ hK => wp_append_cells W1 hT s x ho hown hs hx hr hl h1 h63 hbytes fun A' c' δ h2 h3 => hK _ _ (h A' c' δ h2 h3)

theorem step_append_cells {P : Program} (W1 : World) {W : World} {ops : Array Oper} {o : Oper} {a : Act} {K : Act → World → Prop} {Q : Exit → Act → World → Prop} {E : Prop} {t e : TypeId} {z : Value} {size bytes : Nat} (hT : SlT P t e z size bytes)
    (s x : Operand) (hgd : o.guard = none) (ho : o.op = .call { callee := .builtin .append, args := #[s, x], argTypes := #[t, t] })
    {v : Value} {n : Nat} {xs : List Value} (hown : W.ownsRow W1.heap.size e size v n xs) (hs : a.eval s = v)
    {B m c : Nat} {A : Option Addr} {news : List Value} (hx : a.eval x = .slice A m c) (hr : Cells W B A news) (hl : news.length = m * size) (h1 : ∀ u ∈ news, u.oneCell' = true)
    (h63 : n + m ≤ 1000000) (hbytes : bytes ≤ 1000) [hbase : Le W1.heap.size W]
    (h : ∀ A' c' δ, (latB W1.heap.size W δ).ownsRow W1.heap.size e size (.slice A' (n + m) c') (n + m) (xs ++ news) → W.grownBy (latB W1.heap.size W δ) v.ownBlock → K (a.put o.dst (.slice A' (n + m) c')) (latB W1.heap.size W δ)) :
    if Region.wanted o (yielded ops a.tmps) = true then Oper.wp P o a W K Q else E := by
  have hw : Region.wanted o (yielded ops a.tmps) = true := by simp [Region.wanted, hgd]
  rw [if_pos hw]
  exact wp_append_cells W1 hT s x ho hown hs hx hr hl h1 h63 hbytes h

theorem cells_lit {W : World} {arr : Array Value} {T : TypeId} {g : Nat} (hg : g = W.heap.size) : Cells (W.alloc (.cells arr T)) (g + 1) (some ⟨g, 0, none⟩) arr.toList :=
  fun _ => ⟨g, 0, rfl, by omega, fun j v hj => by rw [Nat.zero_add, World.cell?_alloc_at _ _ _ _ hg]; simpa using hj⟩
/-- append of elements that were written out just before: what else there is stays. -/
theorem wpList_append_newg {P : Program} (W1 : World) {W : World} {ops : Array Oper} {rest : List Oper} {o : Oper} {a : Act} {Q : Exit → Act → World → Prop} {t e : TypeId} {z : Value} {size bytes : Nat} (hT : SlT P t e z size bytes)
    (s x : Operand) (hgd : o.guard = none) (ho : o.op = .call { callee := .builtin .append, args := #[s, x], argTypes := #[t, t] })
    {v : Value} {n : Nat} {xs : List Value} (hown : W.ownsRow W1.heap.size e size v n xs) (hs : a.eval s = v)
    {g m c : Nat} {arr : Array Value} {T : TypeId} (hx : a.eval x = .slice (some ⟨g, 0, none⟩) m c) (hg : g = W.heap.size) (hl : arr.size = m * size) (h1 : ∀ u ∈ arr.toList, u.oneCell' = true)
    (h63 : n + m ≤ 1000000) (hbytes : bytes ≤ 1000) [hbase : Le W1.heap.size W]
    (h : ∀ A' c' δ, (latB W1.heap.size (W.alloc (.cells arr T)) δ).ownsRow W1.heap.size e size (.slice A' (n + m) c') (n + m) (xs ++ arr.toList) → (W.alloc (.cells arr T)).grownBy (latB W1.heap.size (W.alloc (.cells arr T)) δ) v.ownBlock → wpList P ops Q rest (a.put o.dst (.slice A' (n + m) c')) (latB W1.heap.size (W.alloc (.cells arr T)) δ)) :
    wpList P ops Q (o :: rest) a (W.alloc (.cells arr T)) :=
  wpList_append_cells W1 hT s x hgd ho (hown.alloc _) hs hx (cells_lit hg) (by simpa using hl) h1 h63 hbytes h

/-! ### Slices of slices of numbers -/
/-- A list of cells that are slices, each of which reads as a list. -/
def SlL {α : Type} (enc : α → List Value) (B : Nat) (w : World) (A : Option Addr) (c : Nat) (xss : List (List α)) : Prop :=
  xss.length ≤ c ∧ c ≤ 9223372036854775807 ∧ ∃ cs : List Value, Cells w B A cs ∧ cs.length = xss.length ∧ ∀ i (h : i < xss.length), ∃ A' c', cs[i]? = some (.slice A' xss[i].length c') ∧ Sl enc B w A' c' xss[i]
section
variable {α : Type} {enc : α → List Value} {B : Nat} {w w' : World} {A : Option Addr} {c : Nat} {xss : List (List α)}
theorem SlL.keep (h : SlL enc B w A c xss) {B' : Nat} (hB : B ≤ B') (hk : ∀ b o, b < B → w'.cell? ⟨b, o, none⟩ = w.cell? ⟨b, o, none⟩) : SlL enc B' w' A c xss := by
  obtain ⟨h1, h2, cs, h3, h4, h5⟩ := h
  exact ⟨h1, h2, cs, h3.keep hB hk, h4, fun i hi => by obtain ⟨A', c', e, s⟩ := h5 i hi; exact ⟨A', c', e, s.keep hB hk⟩⟩
theorem SlL.up (h : SlL enc B w A c xss) [hg : Grew B w w'] : SlL enc B w' A c xss := h.keep (Nat.le_refl _) (cells_same hg.out)
theorem SlL.wide (h : SlL enc B w A c xss) [hg : Grew B w w'] [hB : Le B w'] : SlL enc w'.heap.size w' A c xss := h.keep hB.out (cells_same hg.out)
theorem SlL.at_ (h : SlL enc B w A c xss) {k : Nat} (hk : k < xss.length) : ∃ b o A' c', A = some ⟨b, o, none⟩ ∧ b < B ∧ w.cell? ⟨b, o + k, none⟩ = some (.slice A' xss[k].length c') ∧ Sl enc B w A' c' xss[k] := by
  obtain ⟨h1, h2, cs, h3, h4, h5⟩ := h
  obtain ⟨A', c', e, s⟩ := h5 k hk
  obtain ⟨b, o, hA, hb, hc⟩ := h3 (by rintro rfl; simp at e)
  exact ⟨b, o, A', c', hA, hb, hc k _ e, s⟩
end

end Go.Proofs.Ytnddiloeikaleaa
namespace Go.Proofs.Ytnddiloeikaleaa
open Go.RowKit

def CellsT (T : TypeId) (w : World) (B : Nat) (A : Option Addr) (cs : List Value) : Prop :=
  cs ≠ [] → ∃ b o cur fr, A = some ⟨b, o, none⟩ ∧ b < B ∧ w.heap[b]? = some (.cells cur T fr) ∧ ∀ j v, cs[j]? = some v → cur[o + j]? = some v
section
variable {T : TypeId} {w w' : World} {B B' : Nat} {A : Option Addr} {cs : List Value}
theorem CellsT.nil : CellsT T w B A [] := fun h => absurd rfl h
theorem CellsT.keep (h : CellsT T w B A cs) (hB : B ≤ B') (hk : ∀ b cur fr, b < B → w.heap[b]? = some (.cells cur T fr) → w'.heap[b]? = w.heap[b]?) : CellsT T w' B' A cs := fun hc => by
  obtain ⟨b, o, cur, fr, hA, hb, hh, hv⟩ := h hc
  exact ⟨b, o, cur, fr, hA, Nat.lt_of_lt_of_le hb hB, (hk b cur fr hb hh).trans hh, hv⟩
theorem CellsT.plain (h : CellsT T w B A cs) : Cells w B A cs := fun hc => by
  obtain ⟨b, o, cur, fr, hA, hb, hh, hv⟩ := h hc
  refine ⟨b, o, hA, hb, fun j v hj => ?_⟩
  simp only [World.cell?, hh]
  exact hv j v hj
end

/-- A slice that reads as a list, in a row of type T. -/
def Slt {α : Type} (T : TypeId) (enc : α → List Value) (B : Nat) (w : World) (A : Option Addr) (c : Nat) (xs : List α) : Prop :=
  xs.length ≤ c ∧ c ≤ 9223372036854775807 ∧ CellsT T w B A (xs.flatMap enc)
section
variable {α : Type} {enc : α → List Value} {T : TypeId} {B B' : Nat} {w w' : World} {A : Option Addr} {c : Nat} {xs : List α}
theorem Slt.plain (h : Slt T enc B w A c xs) : Sl enc B w A c xs := ⟨h.1, h.2.1, h.2.2.plain⟩
theorem Slt.none_ : Slt T enc B w A 0 ([] : List α) := ⟨Nat.le_refl _, by omega, CellsT.nil⟩
theorem Slt.keep (h : Slt T enc B w A c xs) (hB : B ≤ B') (hk : ∀ b cur fr, b < B → w.heap[b]? = some (.cells cur T fr) → w'.heap[b]? = w.heap[b]?) : Slt T enc B' w' A c xs := ⟨h.1, h.2.1, h.2.2.keep hB hk⟩
theorem Slt.up (h : Slt T enc B w A c xs) [hg : Grew B w w'] : Slt T enc B w' A c xs := h.keep (Nat.le_refl _) fun b _ _ hb _ => hg.out.2.2.2 b hb
theorem Slt.wide (h : Slt T enc B w A c xs) [hg : Grew B w w'] [hB : Le B w'] : Slt T enc w'.heap.size w' A c xs := h.keep hB.out fun b _ _ hb _ => hg.out.2.2.2 b hb
/-- An append to a row of another type. -/
theorem Slt.grown (h : Slt T enc w.heap.size w A c xs) {v : Value} {base : Nat} {e : TypeId} {size n : Nat} {ys : List Value} (hown : w.ownsRow base e size v n ys) (hg : w.grownBy w' v.ownBlock) (hne : e ≠ T) : Slt T enc w'.heap.size w' A c xs :=
  h.keep hg.size fun b cur fr hb hh => hg.block b hb (by
    rcases hown.2 with ⟨rfl, _⟩ | ⟨g, cap, cur', rfl, _, hh', _⟩
    · simp [Value.ownBlock]
    · intro he
      have : b = g := by simpa [Value.ownBlock] using he
      subst this
      rw [hh] at hh'
      injection hh' with hh'
      injection hh' with _ ht
      exact hne ht.symm)
theorem Slt.of_own {base : Nat} {size : Nat} {n : Nat} (h : w.ownsRow base T size (.slice A n c) n (xs.flatMap enc)) (hn : xs.length = n) : Slt T enc w.heap.size w A c xs := by
  subst hn
  have hp := Sl.of_own h
  refine ⟨hp.1, hp.2.1, fun hne => ?_⟩
  rcases h.2 with ⟨hv, h0⟩ | ⟨g, cap, cur, hv, _, hh, hnc, _, hcs, ht⟩
  · have := h.1; rw [h0] at this; simp only [Nat.zero_mul] at this; exact absurd (List.eq_nil_of_length_eq_zero this) hne
  · injection hv with hA _ hc
    subst hA
    have hg : g < w.heap.size := by
      rcases Nat.lt_or_ge g w.heap.size with hlt | hge
      · exact hlt
      · rw [Array.getElem?_eq_none hge] at hh; cases hh
    refine ⟨g, 0, cur, (0, 0), rfl, hg, hh, fun j v hj => ?_⟩
    rw [← ht] at hj
    rw [Nat.zero_add, ← Array.getElem?_toList]
    rw [List.getElem?_take] at hj
    split at hj
    · exact hj
    · cases hj
end

/-- Cells that are slices of lists, each in a row of type T. -/
def Subs {α : Type} (T : TypeId) (enc : α → List Value) (w : World) (cs : List Value) (xss : List (List α)) : Prop :=
  cs.length = xss.length ∧ ∀ i (h : i < xss.length), ∃ A' c', cs[i]? = some (.slice A' xss[i].length c') ∧ Slt T enc w.heap.size w A' c' xss[i]
section
variable {α : Type} {enc : α → List Value} {T : TypeId} {w w' : World} {cs ds : List Value} {xss yss : List (List α)}
theorem Subs.nil : Subs T enc w [] ([] : List (List α)) := ⟨rfl, fun i h => absurd h (by simp)⟩
theorem Subs.keep (h : Subs T enc w cs xss) (hB : w.heap.size ≤ w'.heap.size) (hk : ∀ b cur fr, b < w.heap.size → w.heap[b]? = some (.cells cur T fr) → w'.heap[b]? = w.heap[b]?) : Subs T enc w' cs xss :=
  ⟨h.1, fun i hi => by obtain ⟨A', c', e, s⟩ := h.2 i hi; exact ⟨A', c', e, s.keep hB hk⟩⟩
theorem Subs.below (h : Subs T enc w cs xss) (hb : Below w.heap.size w w') : Subs T enc w' cs xss := h.keep hb.size fun b _ _ hb' _ => hb.block b hb'
theorem Subs.grown (h : Subs T enc w cs xss) {v : Value} {base : Nat} {e : TypeId} {size n : Nat} {ys : List Value} (hown : w.ownsRow base e size v n ys) (hg : w.grownBy w' v.ownBlock) (hne : e ≠ T) : Subs T enc w' cs xss :=
  ⟨h.1, fun i hi => by obtain ⟨A', c', e', s⟩ := h.2 i hi; exact ⟨A', c', e', s.grown hown hg hne⟩⟩
theorem Subs.append (h : Subs T enc w cs xss) (h' : Subs T enc w ds yss) : Subs T enc w (cs ++ ds) (xss ++ yss) := by
  refine ⟨by rw [List.length_append, List.length_append, h.1, h'.1], fun i hi => ?_⟩
  rw [List.length_append] at hi
  by_cases hlt : i < xss.length
  · obtain ⟨A', c', e, s⟩ := h.2 i hlt
    refine ⟨A', c', ?_, ?_⟩
    · rw [List.getElem?_append_left (by rw [h.1]; exact hlt), e, List.getElem_append_left hlt]
    · rw [List.getElem_append_left hlt]; exact s
  · obtain ⟨A', c', e, s⟩ := h'.2 (i - xss.length) (by omega)
    refine ⟨A', c', ?_, ?_⟩
    · rw [List.getElem?_append_right (by rw [h.1]; omega), h.1, e, List.getElem_append_right (by omega)]
    · rw [List.getElem_append_right (by omega)]; exact s
theorem Subs.up (h : Subs T enc w cs xss) [hg : Grew w.heap.size w w'] [hs : Le w.heap.size w'] : Subs T enc w' cs xss := h.below hg.out.below
theorem Subs.oneCell (h : Subs T enc w cs xss) : ∀ u ∈ cs, u.oneCell' = true := by
  intro u hu
  obtain ⟨i, hi, rfl⟩ := List.getElem_of_mem hu
  obtain ⟨A', c', e, _⟩ := h.2 i (by rw [← h.1]; exact hi)
  rw [List.getElem?_eq_getElem hi] at e
  injection e with e
  rw [e]; rfl
theorem Subs.one {A : Option Addr} {c : Nat} {xs : List α} (h : Slt T enc w.heap.size w A c xs) : Subs T enc w [.slice A xs.length c] [xs] :=
  ⟨rfl, fun i hi => by
    have : i = 0 := by simpa using hi
    subst this
    exact ⟨A, c, rfl, h⟩⟩
end

/-- A slice of slices that reads as a list of lists. -/
def SlS {α : Type} (T : TypeId) (enc : α → List Value) (w : World) (A : Option Addr) (c : Nat) (xss : List (List α)) : Prop :=
  xss.length ≤ c ∧ c ≤ 9223372036854775807 ∧ ∃ cs : List Value, Cells w w.heap.size A cs ∧ Subs T enc w cs xss
section
variable {α : Type} {enc : α → List Value} {T : TypeId} {w w' : World} {A : Option Addr} {c : Nat} {xss : List (List α)}
theorem SlS.below (h : SlS T enc w A c xss) (hb : Below w.heap.size w w') : SlS T enc w' A c xss := by
  obtain ⟨h1, h2, cs, h3, h4⟩ := h
  exact ⟨h1, h2, cs, h3.keep hb.size fun b o hb' => hb.cell (p := ⟨b, o, none⟩) hb', h4.below hb⟩
theorem SlS.up (h : SlS T enc w A c xss) [hg : Grew w.heap.size w w'] [hs : Le w.heap.size w'] : SlS T enc w' A c xss := h.below hg.out.below
theorem SlS.at_ (h : SlS T enc w A c xss) {k : Nat} (hk : k < xss.length) : ∃ b o A' c', A = some ⟨b, o, none⟩ ∧ b < w.heap.size ∧ w.cell? ⟨b, o + k, none⟩ = some (.slice A' xss[k].length c') ∧ Slt T enc w.heap.size w A' c' xss[k] := by
  obtain ⟨h1, h2, cs, h3, h4, h5⟩ := h
  obtain ⟨A', c', e, s⟩ := h5 k hk
  obtain ⟨b, o, hA, hb, hc⟩ := h3 (by rintro rfl; simp at e)
  exact ⟨b, o, A', c', hA, hb, hc k _ e, s⟩
theorem SlS.of_own {base : Nat} {e : TypeId} {n : Nat} {cs : List Value} (h : w.ownsRow base e 1 (.slice A n c) n cs) (hs : Subs T enc w cs xss) (hn : xss.length = n) : SlS T enc w A c xss := by
  have hl := h.1
  refine ⟨?_, ?_, cs, Cells.of_own h, hs⟩
  · rcases h.2 with ⟨hv, h0⟩ | ⟨g, cap, cur, hv, _, hh, hnc, _⟩
    · omega
    · injection hv with _ _ hc; omega
  · rcases h.2 with ⟨hv, h0⟩ | ⟨g, cap, cur, hv, _, hh, hnc, hm, _⟩
    · injection hv with _ _ hc; omega
    · injection hv with _ _ hc; unfold maxLen at hm; omega
end

end Go.Proofs.Ytnddiloeikaleaa
