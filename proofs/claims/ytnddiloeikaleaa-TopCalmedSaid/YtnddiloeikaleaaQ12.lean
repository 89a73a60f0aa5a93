/- Towards the claim of XLawCalmed: Layer 5, for the calm sky: the law of a loop over all crews of a sea. -/
import Derived.Test.YtnddiloeikaleaaQ10
import Derived.Shelf.Abstract
import Derived.Laws.EntriesVeiled
namespace Go.Proofs.Ytnddiloeikaleaa
open Go.RowKit
open An
open Tc
open Go.Shelf

/-- Blocks of a set, or the two that a loop over crews lays. -/
def Two (S : Nat → Prop) (D : Nat) (b : Nat) : Prop := S b ∨ b = D ∨ b = D + 1

/-- **The function that yields all crews.** -/
theorem crewsF_c (s : Sea) (r : SeaR) (B g : Nat) (S : Nat → Prop) (L : List (List Int)) (lp : Nat) (J Jx : List (List Int) → World → Prop) (hJs : Stays J) (hJxs : Stays Jx) (W : World) (hY : RoundOk Try.prog W.heap.size S L lp J Jx)
    (hS : ∀ b, S b → B ≤ b ∧ b ≠ g ∧ b < W.heap.size) (h4 : s.places.length ≤ 4) (hA : AtSea B g r s W) (hL : crews s <+: L) (hJ : J [] W) :
    Calls Try.prog 76 #[.pointer (some ⟨g, 0, none⟩), .func (.yield lp) #[] #[]] W fun e W' => ∃ v b, e = .returned v ∧ RoundPost S (crews s) [] J Jx W b W' := by
  have HA := Lib.hid hA
  have HS := Lib.hid hS
  have HL := Lib.hid hL
  have HJ := Lib.hid hJ
  have HY := Lib.hid hY
  have HJs := Lib.hid hJs
  have HJxs := Lib.hid hJxs
  clear hA hS hL hJ hY hJs hJxs
  go_enter Try.func76, Try.ntmps76
  go_wp2_with (fail)
  refine (crew_c s r B W.heap.size (W.heap.size + 1) (W.heap.size + 1 + 1) g W.heap.size S (fun b hb => ⟨(HS.out b hb).1, (HS.out b hb).2.1, by have := (HS.out b hb).2.2; omega, by have := (HS.out b hb).2.2; omega, by have := (HS.out b hb).2.2; omega, (HS.out b hb).2.2⟩) L lp J Jx HJs.out HJxs.out HY.out h4 s.places.length [] _ [] _ ?e ?lo ⟨none, 0, rfl, Sl.none_, fun p hp => by cases hp⟩ (by simp) (show [] ++ crewsN s s.places.length [] <+: L from HL.out) ?j).mono ?post
  case e => exact ⟨HA.out.kep (S := fun _ => False) (Kep.of_below grew_below) (fun _ h => h.elim), by go_simp, by go_simp, by go_simp, by go_simp, by go_simp, by go_simp⟩
  case lo => exact le_inst' _ _
  case j => exact HJs.out _ _ _ HJ.out grew_below
  case post =>
    rintro e W' ⟨b, rfl, hP⟩
    go_wp2_with (fail)
    go_end0
    exact ⟨_, b, rfl, (Kep.of_below (A := W) grew_below).trans hP.1, hP.2.1, hP.2.2⟩
/-- How the body of a loop over crews may be left. -/
def overPost (S : Nat → Prop) (I : List (List Int) → World → Prop) (Ix : Code → List (List Int) → World → Prop) (xs : List (List Int)) (W : World) : Exit → Act → World → Prop
  | .normal, _, W' => Kep S W W' ∧ I xs W'
  | .ret, _, W' => Kep S W W' ∧ Ix .ret xs W'
  | .exit id, _, W' => Kep S W W' ∧ Ix (.exit id) xs W'
  | .goto t, _, W' => Kep S W W' ∧ Ix (.goto t) xs W'
  | .panic _, _, _ => False
  | .outgrown, _, _ => False

/-- **A loop over all crews.** -/
theorem wp_crews (s : Sea) (r : SeaR) (B bp : Nat) {g : Operand} {p : Tmp} {assign body : Code} {Q : Exit → Act → World → Prop} {a : Act} {w : World}
    (hg : a.eval g = .func (.func 76) #[.pointer (some ⟨bp, 0, none⟩)] #[]) (h4 : s.places.length ≤ 4) (hA : AtSea B bp r s w)
    (S : Nat → Prop) (hS : ∀ b, S b → B ≤ b ∧ b ≠ bp ∧ b < w.heap.size)
    (I : List (List Int) → World → Prop) (Ix : Code → List (List Int) → World → Prop)
    (hI : ∀ pre W W', I pre W → Kep (Two (fun _ => False) w.heap.size) W W' → I pre W') (hIx : ∀ c pre W W', Ix c pre W → Kep (Two (fun _ => False) w.heap.size) W W' → Ix c pre W') (h0 : I [] w) (a₁ : Value → Act)
    (hassign : ∀ (l m : Nat) (v : Value) (W : World) (K : Act → World → Prop), K (a₁ v) W → assign.wpIn (Fence.wide.inRound l) m Try.prog (Exit.then K (fun _ _ _ => False)) { tmps := (#[p].zip #[v]).foldl (fun t (p, v) => t.setIfInBounds p v) a.tmps, defers := [] } W)
    (hbody : ∀ (l m : Nat) (pre : List (List Int)) (x : List Int) (v : Value) (W : World), pre ++ [x] <+: crews s → I pre W → LiIs (w.heap.size + 2) v x W → Kep (Two S w.heap.size) w W → w.heap.size + 2 ≤ W.heap.size → body.wpIn (Fence.wide.inRound l) m Try.prog (overPost S I Ix (pre ++ [x]) W) (a₁ v) W)
    (hdone : ∀ W, I (crews s) W → Kep (Two S w.heap.size) w W → W.heap[w.heap.size]? = some (.deferred (some [])) → Q .normal { a with defers := { target := .collected w.heap.size, args := #[] } :: a.defers } W)
    (hstop : ∀ c pre W, pre <+: crews s → pre ≠ [] → Ix c pre W → Kep (Two S w.heap.size) w W → W.heap[w.heap.size]? = some (.deferred (some [])) → c.wp Try.prog Q { a with defers := { target := .collected w.heap.size, args := #[] } :: a.defers } W) :
    (Code.rangeFunc g #[p] assign body).wp Try.prog Q a w := by
  have hbp : bp < w.heap.size := hA.1.lt_
  have hB : B ≤ w.heap.size := by have := hA.2.2; omega
  refine (wpIn_wide (n := 3)).1 (wpIn_rangeFunc ?_)
  intro fn _
  rw [show Fence.wide.round = none from rfl]
  obtain ⟨rec, hrec⟩ : ∃ rec : LoopState → Option Code → Loop, rec = fun st pe => { state := st, pending := pe, fn, tmps := a.tmps, params := #[p], assign, body, defers := w.heap.size } := ⟨_, rfl⟩
  obtain ⟨D, hD⟩ : ∃ D, D = w.heap.size := ⟨_, rfl⟩
  obtain ⟨W1, hW1⟩ : ∃ W1, (w.alloc (.deferred (some []))).alloc (.loop (rec .ready none)) = W1 := ⟨_, rfl⟩
  have hs1 : W1.heap.size = D + 2 := by rw [← hW1]; simp; omega
  have hL1 : W1.heap[D + 1]? = some (.loop (rec .ready none)) := by
    rw [← hW1, hD]; have := World.alloc_heap_new (w.alloc (.deferred (some []))) (.loop (rec .ready none)); rwa [World.size_alloc] at this
  have hK1 : W1.heap[D]? = some (.deferred (some [])) := by
    rw [← hW1, hD]; exact (Below.heap_alloc _ _ _ (by simp)).trans (World.alloc_heap_new w _)
  have hw1 : Below w.heap.size w W1 := by rw [← hW1]; exact ((Below.refl _ w).alloc (Nat.le_refl _) _).alloc (by simp) _
  rw [← hD] at hS hI hIx hbody hdone hstop
  have hT : ∀ b, Two S D b → B ≤ b ∧ b ≠ bp ∧ b < W1.heap.size := by
    rintro b (h | rfl | rfl)
    · have := hS b h; exact ⟨this.1, this.2.1, by omega⟩
    · exact ⟨by omega, by omega, by omega⟩
    · exact ⟨by omega, by omega, by omega⟩
  have stay : ∀ {k : Nat} {o : Obj} {W W' : World}, W.heap[k]? = some o → Below W.heap.size W W' → W'.heap[k]? = some o := fun h hb => (hb.block _ (Array.getElem?_eq_some_iff.1 h).1).trans h
  obtain ⟨J, hJ⟩ : ∃ J : List (List Int) → World → Prop, J = fun pre W => I pre W ∧ W.heap[D + 1]? = some (.loop (rec .ready none)) ∧ W.heap[D]? = some (.deferred (some [])) ∧ Kep (Two S D) w W ∧ D + 2 ≤ W.heap.size := ⟨_, rfl⟩
  obtain ⟨Jx, hJx⟩ : ∃ J : List (List Int) → World → Prop, J = fun pre W => ∃ c, Ix c pre W ∧ W.heap[D + 1]? = some (.loop (rec .done (some c))) ∧ W.heap[D]? = some (.deferred (some [])) ∧ Kep (Two S D) w W ∧ D + 2 ≤ W.heap.size := ⟨_, rfl⟩
  have hJs : Stays J := by
    subst hJ
    rintro pre W W' ⟨k1, k2, k3, k4, k5⟩ hb
    exact ⟨hI _ _ _ k1 (.of_below hb), stay k2 hb, stay k3 hb, k4.trans (.of_below hb), Nat.le_trans k5 hb.size⟩
  have hJxs : Stays Jx := by
    subst hJx
    rintro pre W W' ⟨c, k1, k2, k3, k4, k5⟩ hb
    exact ⟨c, hIx _ _ _ _ k1 (.of_below hb), stay k2 hb, stay k3 hb, k4.trans (.of_below hb), Nat.le_trans k5 hb.size⟩
  have hY : RoundOk Try.prog W1.heap.size (Two S D) (crews s) (D + 1) J Jx := by
    subst hJ hJx
    rintro m pre x v W hpre ⟨k1, k2, k3, k4, k5⟩ hl
    rw [hs1] at hl
    have hy := run_yield (P := Try.prog) (args := #[v]) k2 (by rw [hrec]; rfl)
    rw [hrec] at hy
    refine ⟨fn, _, assign, body, hy, roundIn_of_wpIn trivial (hassign _ m v W _ ?_)⟩
    refine ⟨_, run_beginRound k2 (by rw [hrec]), ?_⟩
    have hlt : D + 1 < W.heap.size := by omega
    have hTD : Two (fun _ => False) D (D + 1) := .inr (.inr rfl)
    have hTS : ∀ b, Two (fun _ => False) D b → Two S D b := by rintro b (h | h); exact h.elim; exact .inr h
    have hkb : Kep (Two (fun _ => False) D) W (W.putObj (D + 1) (.loop { rec .ready none with state := .busy })) := (Kep.refl _ _).putObj hTD _
    have hl2 : (W.putObj (D + 1) (.loop { rec .ready none with state := .busy })).heap[D + 1]? = some (.loop { rec .ready none with state := .busy }) := World.putObj_heap_same hlt
    have hk2 : (W.putObj (D + 1) (.loop { rec .ready none with state := .busy })).heap[D]? = some (.deferred (some [])) := (World.putObj_heap_other (by omega)).trans k3
    refine wpIn_mono (hbody _ m pre x v _ hpre (hI _ _ _ k1 hkb) (hl.kep hkb (by rintro b (h | h | h); exact h.elim; omega; omega)) (k4.trans (hkb.mono hTS)) (by rw [World.putObj_size]; exact k5)) ?_
    have fin : ∀ (jump : Option Code) (W3 : World), Kep S (W.putObj (D + 1) (.loop { rec .ready none with state := .busy })) W3 →
        (Instr.endRound (D + 1) jump).run Try.prog W3 = .ok (.bool jump.isNone) (W3.putObj (D + 1) (.loop (rec (if jump.isNone then .ready else .done) jump))) ∧
        (W3.putObj (D + 1) (.loop (rec (if jump.isNone then .ready else .done) jump))).heap[D + 1]? = some (.loop (rec (if jump.isNone then .ready else .done) jump)) ∧
        (W3.putObj (D + 1) (.loop (rec (if jump.isNone then .ready else .done) jump))).heap[D]? = some (.deferred (some [])) ∧
        Kep (Two (fun _ => False) D) W3 (W3.putObj (D + 1) (.loop (rec (if jump.isNone then .ready else .done) jump))) ∧ Kep (Two S D) W (W3.putObj (D + 1) (.loop (rec (if jump.isNone then .ready else .done) jump))) ∧ D + 2 ≤ (W3.putObj (D + 1) (.loop (rec (if jump.isNone then .ready else .done) jump))).heap.size := fun jump W3 hk3 => by
      have hz : D + 2 ≤ W3.heap.size := by have := hk3.size; rw [World.putObj_size] at this; omega
      have hl3 := (hk3.block (D + 1) (by rw [World.putObj_size]; omega) (fun hc => by have := hS _ hc; omega)).trans hl2
      have hk4 := (hk3.block D (by rw [World.putObj_size]; omega) (fun hc => by have := hS _ hc; omega)).trans hk2
      have hrun := run_endRound (P := Try.prog) jump hl3
      have hend : Kep (Two (fun _ => False) D) W3 (W3.putObj (D + 1) (.loop (rec (if jump.isNone then .ready else .done) jump))) := (Kep.refl _ _).putObj hTD _
      refine ⟨?_, World.putObj_heap_same (by omega), (World.putObj_heap_other (by omega)).trans hk4, hend, ((hkb.mono hTS).trans (hk3.mono fun b h => .inl h)).trans (hend.mono hTS), by rw [World.putObj_size]; exact hz⟩
      rw [hrec] at hrun ⊢
      exact hrun
    rintro e a3 W3 hp
    cases e with
    | normal =>
      obtain ⟨hk3, hi3⟩ := hp
      obtain ⟨hr, f1, f2, f3, f4, f5⟩ := fin none W3 hk3
      refine ⟨_, _, hr, true, rfl, f4, fun _ => ?_, fun h => by cases h⟩
      exact ⟨hI _ _ _ hi3 f3, f1, f2, k4.trans f4, f5⟩
    | ret =>
      obtain ⟨hk3, hi3⟩ := hp
      obtain ⟨hr, f1, f2, f3, f4, f5⟩ := fin (some .ret) W3 hk3
      refine ⟨_, _, hr, false, rfl, f4, (fun h => by cases h), fun _ => ?_⟩
      exact ⟨[x], List.prefix_refl _, by simp, .ret, hIx _ _ _ _ hi3 f3, f1, f2, k4.trans f4, f5⟩
    | exit id =>
      obtain ⟨hk3, hi3⟩ := hp
      obtain ⟨hr, f1, f2, f3, f4, f5⟩ := fin (some (.exit id)) W3 hk3
      refine ⟨_, _, hr, false, rfl, f4, (fun h => by cases h), fun _ => ?_⟩
      exact ⟨[x], List.prefix_refl _, by simp, .exit id, hIx _ _ _ _ hi3 f3, f1, f2, k4.trans f4, f5⟩
    | goto t =>
      obtain ⟨hk3, hi3⟩ := hp
      obtain ⟨hr, f1, f2, f3, f4, f5⟩ := fin (some (.goto t)) W3 hk3
      refine ⟨_, _, hr, false, rfl, f4, (fun h => by cases h), fun _ => ?_⟩
      exact ⟨[x], List.prefix_refl _, by simp, .goto t, hIx _ _ _ _ hi3 f3, f1, f2, k4.trans f4, f5⟩
    | panic ch => exact hp.elim
    | outgrown => exact hp.elim
  have g1 : Le w.heap.size W1 := ⟨hw1.size⟩
  have g2 : Grew w.heap.size w W1 := ⟨Same.of hw1⟩
  have hord := crewsF_c s r B bp (Two S D) (crews s) (D + 1) J Jx hJs hJxs W1 hY hT h4 (hA.kep (S := fun _ => False) (.of_below hw1) (fun _ h => h.elim)) (List.prefix_refl _)
    (by subst hJ; exact ⟨hI _ _ _ h0 (.of_below hw1), hL1, hK1, .of_below hw1, by omega⟩)
  refine ⟨D + 1, [{ target := .collected w.heap.size, args := #[] }], W1, { target := .fn (.func 76) #[], args := #[.pointer (some ⟨bp, 0, none⟩)] ++ #[.func (.yield (D + 1)) #[] #[]] }, W1, 76,
    (#[.pointer (some ⟨bp, 0, none⟩)] ++ #[.func (.yield (D + 1)) #[] #[]]) ++ #[], W1, ?_, ?_, fun _ _ => trivial, ?_, fun h => (by simp [Fence.wide] at h), ?_⟩
  · rw [← hW1, hrec, hD]; exact run_enterLoop_outer _ _ _ _ _
  · simp only [resolve, hg]
    simp [go_sem]
  · simp [invoke, go_sem]
  · refine callsIn_wide.2 (hord.mono ?_)
    rintro e W2 ⟨v, b, rfl, hK, ht, hf⟩
    cases b with
    | true =>
      have := ht rfl
      subst hJ
      obtain ⟨k1, k2, k3, k4, k5⟩ := this
      have hTD : Two (fun _ => False) D (D + 1) := .inr (.inr rfl)
      have hTD2 : Two S D (D + 1) := .inr (.inr rfl)
      refine ⟨none, _, by have := run_endLoop (P := Try.prog) k2 (by rw [hrec]; simp); rw [hrec] at this; exact this, ?_⟩
      rw [← hD]
      exact hdone _ (hI _ _ _ k1 ((Kep.refl _ _).putObj hTD _)) (k4.putObj hTD2 _) ((World.putObj_heap_other (by omega)).trans k3)
    | false =>
      obtain ⟨q, hq, hq0, hx⟩ := hf rfl
      subst hJx
      obtain ⟨c, k1, k2, k3, k4, k5⟩ := hx
      have hTD : Two (fun _ => False) D (D + 1) := .inr (.inr rfl)
      have hTD2 : Two S D (D + 1) := .inr (.inr rfl)
      refine ⟨some c, _, by have := run_endLoop (P := Try.prog) k2 (by rw [hrec]; simp); rw [hrec] at this; exact this, ?_⟩
      rw [← hD]
      exact wpIn_wide.2 (hstop c q _ hq hq0 (hIx _ _ _ _ k1 ((Kep.refl _ _).putObj hTD _)) (k4.putObj hTD2 _) ((World.putObj_heap_other (by omega)).trans k3))

end Go.Proofs.Ytnddiloeikaleaa
