/- Season: the law of a loop over the rows of texts. -/
import Derived.Test.YtjamemjmdlkpcaaDoorSe19
import Derived.Shelf.Abstract
import Derived.Laws.EntriesVeiled
namespace Go.Proofs.YtjamemjmdlkpcaaDoor
open Go.RowKit
open Se
open Go.Shelf

/-- Blocks of a set, or the two that a loop over rows lays. -/
def Two (S : Nat → Prop) (D : Nat) (b : Nat) : Prop := S b ∨ b = D ∨ b = D + 1
def rowCs (x : Row) : Array Value := #[.int .i64 x.pre, .int .i64 x.suf, .string (str x.mid)]
/-- How the body of a loop over rows may be left. -/
def rowsPost (S : Nat → Prop) (I : List Row → World → Prop) (xs : List Row) (W : World) : Exit → Act → World → Prop
  | .normal, _, W' => Kep S W W' ∧ I xs W'
  | _, _, _ => False
set_option maxHeartbeats 1000000 in
/-- **A loop over all rows.** -/
theorem wp_rows (A : Option Addr) (c : Nat) (ts : List Txt) (ht : allT ts) (B bp : Nat) {g : Operand} {p : Tmp} {assign body : Code} {Q : Exit → Act → World → Prop} {a : Act} {w : World}
    (hg : a.eval g = .func (.func 97) #[] #[.pointer (some ⟨bp, 0, none⟩)]) (hN : Sl strE B w A c ts) (hB : B ≤ w.heap.size) (hbp : bp < w.heap.size)
    (c0 : w.cell? ⟨bp, 0, none⟩ = some (.slice A ts.length c))
    (S : Nat → Prop) (hS : ∀ b, S b → B ≤ b ∧ b ≠ bp ∧ b ≠ w.heap.size ∧ b ≠ w.heap.size + 1)
    (I : List Row → World → Prop)
    (hI : ∀ pre W W', I pre W → Kep (Two (fun _ => False) w.heap.size) W W' → I pre W') (h0 : I [] w) (a₁ : Row → Nat → Act)
    (hassign : ∀ (l m : Nat) (x : Row) (W : World) (K : Act → World → Prop), K (a₁ x W.heap.size) (W.alloc (.cells (rowCs x) 23)) → assign.wpIn (Fence.wide.inRound l) m Tryd.prog (Exit.then K (fun _ _ _ => False)) { tmps := (#[p].zip #[rowV x]).foldl (fun t (p, v) => t.setIfInBounds p v) a.tmps, defers := [] } W)
    (hbody : ∀ (l m : Nat) (pre : List Row) (x : Row) (bx : Nat) (W : World), pre ++ [x] <+: rows [] ts → I pre W → Box W bx 23 (rowCs x) → w.heap.size + 2 ≤ bx → w.heap.size + 2 ≤ W.heap.size → body.wpIn (Fence.wide.inRound l) m Tryd.prog (rowsPost S I (pre ++ [x]) W) (a₁ x bx) W)
    (hdone : ∀ W, I (rows [] ts) W → Kep (Two S w.heap.size) w W → W.heap[w.heap.size]? = some (.deferred (some [])) → Q .normal { a with defers := { target := .collected w.heap.size, args := #[] } :: a.defers } W) :
    (Code.rangeFunc g #[p] assign body).wp Tryd.prog Q a w := by
  refine (wpIn_wide (n := 3)).1 (wpIn_rangeFunc ?_)
  intro fn _
  rw [show Fence.wide.round = none from rfl]
  obtain ⟨rec, hrec⟩ : ∃ rec : LoopState → Option Code → Loop, rec = fun st pe => { state := st, pending := pe, fn, tmps := a.tmps, params := #[p], assign, body, defers := w.heap.size } := ⟨_, rfl⟩
  obtain ⟨D, hD⟩ : ∃ D, D = w.heap.size := ⟨_, rfl⟩
  obtain ⟨W1, hW1⟩ : ∃ W1, (w.alloc (.deferred (some []))).alloc (.loop (rec .ready none)) = W1 := ⟨_, rfl⟩
  have hs1 : W1.heap.size = D + 2 := by rw [← hW1]; simp; omega
  have hL1 : W1.heap[D + 1]? = some (.loop (rec .ready none)) := by
    rw [← hW1, hD]; have := World.alloc_heap_new (w.alloc (.deferred (some []))) (.loop (rec .ready none)); rwa [World.size_alloc] at this
  have hK1 : W1.heap[D]? = some (.deferred (some [])) := by
    rw [← hW1, hD]; exact (Below.heap_alloc _ _ _ (by simp)).trans (World.alloc_heap_new w _)
  have hw1 : Below w.heap.size w W1 := by rw [← hW1]; exact ((Below.refl _ w).alloc (Nat.le_refl _) _).alloc (by simp) _
  rw [← hD] at hS hI hbody hdone
  have hT : ∀ b, Two S D b → B ≤ b ∧ b ≠ bp := by
    rintro b (h | rfl | rfl)
    · have := hS b h; exact ⟨this.1, this.2.1⟩
    · exact ⟨by omega, by omega⟩
    · exact ⟨by omega, by omega⟩
  have stay : ∀ {k : Nat} {o : Obj} {W W' : World}, W.heap[k]? = some o → Below W.heap.size W W' → W'.heap[k]? = some o := fun h hb => (hb.block _ (Array.getElem?_eq_some_iff.1 h).1).trans h
  obtain ⟨J, hJ⟩ : ∃ J : List Row → World → Prop, J = fun pre W => I pre W ∧ W.heap[D + 1]? = some (.loop (rec .ready none)) ∧ W.heap[D]? = some (.deferred (some [])) ∧ Kep (Two S D) w W ∧ D + 2 ≤ W.heap.size := ⟨_, rfl⟩
  have hJs : Stays J := by
    subst hJ
    rintro pre W W' ⟨k1, k2, k3, k4, k5⟩ hb
    exact ⟨hI _ _ _ k1 (.of_below hb), stay k2 hb, stay k3 hb, k4.trans (.of_below hb), Nat.le_trans k5 hb.size⟩
  have hY : RowsOk Tryd.prog (Two S D) (rows [] ts) (D + 1) J := by
    subst hJ
    rintro m pre x W hpre ⟨k1, k2, k3, k4, k5⟩
    have hy := run_yield (P := Tryd.prog) (args := #[rowV x]) k2 (by rw [hrec]; rfl)
    rw [hrec] at hy
    refine ⟨fn, _, assign, body, hy, roundIn_of_wpIn trivial (hassign _ m x W _ ?_)⟩
    obtain ⟨W2, hW2⟩ : ∃ W2, W.alloc (.cells (rowCs x) 23) = W2 := ⟨_, rfl⟩
    have hb2 : Below W.heap.size W W2 := by rw [← hW2]; exact (Below.refl _ W).alloc (Nat.le_refl _) _
    have l2 := stay k2 hb2
    have l3 := stay k3 hb2
    have l5 : D + 2 ≤ W2.heap.size := Nat.le_trans k5 hb2.size
    have hx2 : Box W2 W.heap.size 23 (rowCs x) := by rw [← hW2]; exact Box.new rfl
    rw [hW2]
    refine ⟨_, run_beginRound l2 (by rw [hrec]), ?_⟩
    have hlt : D + 1 < W2.heap.size := by omega
    have hTD : Two (fun _ => False) D (D + 1) := .inr (.inr rfl)
    have hTS : ∀ b, Two (fun _ => False) D b → Two S D b := by rintro b (h | h); exact h.elim; exact .inr h
    have hkb : Kep (Two (fun _ => False) D) W2 (W2.putObj (D + 1) (.loop { rec .ready none with state := .busy })) := (Kep.refl _ _).putObj hTD _
    have hl2 : (W2.putObj (D + 1) (.loop { rec .ready none with state := .busy })).heap[D + 1]? = some (.loop { rec .ready none with state := .busy }) := World.putObj_heap_same hlt
    have hk2 : (W2.putObj (D + 1) (.loop { rec .ready none with state := .busy })).heap[D]? = some (.deferred (some [])) := (World.putObj_heap_other (by omega)).trans l3
    have hx3 : Box (W2.putObj (D + 1) (.loop { rec .ready none with state := .busy })) W.heap.size 23 (rowCs x) := (World.putObj_heap_other (by omega)).trans hx2
    refine wpIn_mono (hbody _ m pre x W.heap.size _ hpre (hI _ _ _ k1 ((Kep.of_below hb2).trans hkb)) hx3 k5 (by rw [World.putObj_size]; exact l5)) ?_
    rintro e a3 W3 hp
    cases e with
    | normal =>
      obtain ⟨hk3, hi3⟩ := hp
      have hz : D + 2 ≤ W3.heap.size := by have := hk3.size; rw [World.putObj_size] at this; omega
      have hl3 := (hk3.block (D + 1) (by rw [World.putObj_size]; omega) (fun hc => by have := hS _ hc; omega)).trans hl2
      have hk4 := (hk3.block D (by rw [World.putObj_size]; omega) (fun hc => by have := hS _ hc; omega)).trans hk2
      have hrun := run_endRound (P := Tryd.prog) none hl3
      have hend : Kep (Two (fun _ => False) D) W3 (W3.putObj (D + 1) (.loop (rec .ready none))) := (Kep.refl _ _).putObj hTD _
      have hkall : Kep (Two S D) W (W3.putObj (D + 1) (.loop (rec .ready none))) := ((Kep.of_below hb2).trans ((hkb.mono hTS).trans (hk3.mono fun b h => .inl h))).trans (hend.mono hTS)
      refine ⟨_, _, by rw [hrec] at hrun ⊢; exact hrun, rfl, hkall, hI _ _ _ hi3 hend, World.putObj_heap_same (by omega), (World.putObj_heap_other (by omega)).trans hk4, k4.trans hkall, by rw [World.putObj_size]; exact hz⟩
    | ret => exact hp.elim
    | exit id => exact hp.elim
    | goto t => exact hp.elim
    | panic ch => exact hp.elim
    | outgrown => exact hp.elim
  have hc := hw1.cell (p := ⟨bp, 0, none⟩) hbp
  have hord := rows1_c A c ts ht B bp (Two S D) (D + 1) J hJs W1 hY hT ((Kep.of_below hw1).slB (S := fun _ => False) hN hB (fun _ h => h.elim)) (by have := hw1.size; omega) (by have := hw1.size; omega) (hc.trans c0)
    (by subst hJ; exact ⟨hI _ _ _ h0 (.of_below hw1), hL1, hK1, .of_below hw1, by omega⟩)
  refine ⟨D + 1, [{ target := .collected w.heap.size, args := #[] }], W1, { target := .fn (.func 97) #[.pointer (some ⟨bp, 0, none⟩)], args := #[.func (.yield (D + 1)) #[] #[]] }, W1, 97,
    #[.func (.yield (D + 1)) #[] #[]] ++ #[.pointer (some ⟨bp, 0, none⟩)], W1, ?_, ?_, fun _ _ => trivial, ?_, fun h => (by simp [Fence.wide] at h), ?_⟩
  · rw [← hW1, hrec, hD]; exact run_enterLoop_outer _ _ _ _ _
  · simp only [resolve, hg]
    simp [go_sem]
  · simp [invoke, go_sem]
  · refine callsIn_wide.2 (hord.mono ?_)
    rintro e W2 ⟨⟨v, rfl⟩, hK, hJ2⟩
    subst hJ
    obtain ⟨k1, k2, k3, k4, k5⟩ := hJ2
    have hTD : Two (fun _ => False) D (D + 1) := .inr (.inr rfl)
    have hTD2 : Two S D (D + 1) := .inr (.inr rfl)
    refine ⟨none, _, by have := run_endLoop (P := Tryd.prog) k2 (by rw [hrec]; simp); rw [hrec] at this; exact this, ?_⟩
    rw [← hD]
    exact hdone _ (hI _ _ _ k1 ((Kep.refl _ _).putObj hTD _)) (k4.putObj hTD2 _) ((World.putObj_heap_other (by omega)).trans k3)
end Go.Proofs.YtjamemjmdlkpcaaDoor
