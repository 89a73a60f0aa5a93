/- Season: the map of the program's Least: what is looked up, and what is laid in. -/
import Derived.Test.YtjamemjmdlkpcaaDoorSeP1
import Derived.Test.YtjamemjmdlkpcaaDoorSe28
import Derived.DeepKeys4
import Derived.Maps.OwnOps
namespace Go.Proofs.YtjamemjmdlkpcaaDoor
open Go.RowKit
open Se
open Go.ChangeMaps (setBlock heap_setBlock_same heap_setBlock_other)

def keyV (m : Nat) (l : Int) : Value := .agg #[.int .u64 m, .int .i64 l]
theorem stLaid : laidOutB Tryd.prog = true := by kernel_rfl
theorem stRow : (72 : TypeId) < Tryd.prog.types.size := of_decide_eq_true (by kernel_rfl)
theorem stLaw : WideMaps.KeyLaw Tryd.prog 72 := deep_law_laid stLaid (m := 2) (by omega) stRow (by kernel_rfl) (by kernel_rfl)
theorem stKey64 : ∀ m : Fin 64, ∀ l : Fin 7, (keyOf Tryd.prog 72 (.agg #[.int .u64 (m.val : Nat), .int .i64 ((l.val : Nat) - 1 : Int)])).isSome = true := by decide +kernel
theorem stKey {m : Nat} {l : Int} (hm : m < 64) (h1 : -1 ≤ l) (h2 : l < 6) : ∃ k, keyOf Tryd.prog 72 (keyV m l) = some k := by
  have h := stKey64 ⟨m, hm⟩ ⟨(l + 1).toNat, by omega⟩
  have e : (((l + 1).toNat : Nat) - 1 : Int) = l := by omega
  simp only [e] at h
  exact Option.isSome_iff_exists.1 h
theorem stZero (w : World) : (zeroValue 3).run Tryd.prog w = .ok (.int .i64 0) w := by kernel_rfl

/-- Block b is a map each entry of which tells what it should. -/
structure Found (ts : List Txt) (w : World) (b : Nat) (es : Array MapEntry) (clock : Nat) : Prop where
  blk : w.heap[b]? = some (.map es clock)
  all : ∀ x ∈ es.toList, ∃ m l, m < 64 ∧ -1 ≤ l ∧ l < 6 ∧ x.key = keyV m l ∧ x.val = .int .i64 (specM ts m l : Nat)
def FoundE (ts : List Txt) (w : World) (b : Nat) : Prop := ∃ es clock, Found ts w b es clock
theorem Found.lt {ts : List Txt} {w : World} {b : Nat} {es : Array MapEntry} {clock : Nat} (h : Found ts w b es clock) : b < w.heap.size := (Array.getElem?_eq_some_iff.1 h.blk).1
theorem FoundE.up {ts : List Txt} {w w' : World} {b : Nat} (h : FoundE ts w b) (hb : Below w.heap.size w w') : FoundE ts w' b := by
  obtain ⟨es, clock, h⟩ := h
  exact ⟨es, clock, (hb.block b h.lt).trans h.blk, h.all⟩
theorem FoundE.set {ts : List Txt} {w : World} {b g i : Nat} {u : Value} (h : FoundE ts w b) (hn : b ≠ g) : FoundE ts (w.setCell ⟨g, i, none⟩ u) b := by
  obtain ⟨es, clock, h⟩ := h
  exact ⟨es, clock, (Below.heap_setCell w ⟨g, i, none⟩ u b hn).trans h.blk, h.all⟩
section
variable {ts : List Txt} {w : World} {b : Nat}
theorem found_keys {es : Array MapEntry} {clock : Nat} (h : Found ts w b es clock) : ∀ x ∈ es.toList, ∃ k, keyOf Tryd.prog 72 x.key = some k := fun x hx => by
  obtain ⟨m, l, h1, h2, h3, h4, _⟩ := h.all x hx
  rw [h4]
  exact stKey h1 h2 h3
theorem key_inj {m m' : Nat} {l l' : Int} (h : keyV m l = keyV m' l') : m = m' ∧ l = l' := by
  simp only [keyV, Value.agg.injEq, Array.mk.injEq, List.cons.injEq, Value.int.injEq, true_and, and_true] at h
  omega
/-- 'v, ok := m[k]' and 'm[k]'. -/
theorem found_look (h : FoundE ts w b) {m : Nat} {l : Int} (h1 : m < 64) (h2 : -1 ≤ l) (h3 : l < 6) :
    (∀ c, (Instr.lookup 68 (.map (some b)) (keyV m l) c).run Tryd.prog w = .ok (if c then .tuple #[.int .i64 (specM ts m l : Nat), .bool true] else .int .i64 (specM ts m l : Nat)) w) ∨
    (∀ c, (Instr.lookup 68 (.map (some b)) (keyV m l) c).run Tryd.prog w = .ok (if c then .tuple #[.int .i64 0, .bool false] else .int .i64 0) w) := by
  obtain ⟨es, clock, h⟩ := h
  obtain ⟨k, hk⟩ := stKey h1 h2 h3
  rcases stLaw.find w hk es.toList (found_keys h) with ⟨f1, f2⟩ | ⟨j, e0, f1, f2, f3⟩
  · refine .inr fun c => ?_
    simp [Instr.lookup, run_underlying Tryd.underlying68, MapKept.run_getObj_map h.blk, stLaw.check w _ hk, f1, Result.andThen]
  · refine .inl fun c => ?_
    obtain ⟨m', l', _, _, _, hk', hv⟩ := h.all e0 (List.mem_of_getElem? f2)
    rw [f3] at hk'
    obtain ⟨rfl, rfl⟩ := key_inj hk'
    simp [Instr.lookup, run_underlying Tryd.underlying68, MapKept.run_getObj_map h.blk, stLaw.check w _ hk, f1, hv, Result.andThen]
/-- 'm[k] = v', and what is found at k then. -/
theorem found_lay (h : FoundE ts w b) {m : Nat} {l : Int} (h1 : m < 64) (h2 : -1 ≤ l) (h3 : l < 6) (v : Int) (hv : v = (specM ts m l : Nat)) :
    ∃ w', (Instr.mapUpdate 68 (.map (some b)) (keyV m l) (.int .i64 v)).run Tryd.prog w = .ok () w' ∧ Kep (· = b) w w' ∧ FoundE ts w' b ∧
      ∀ c, (Instr.lookup 68 (.map (some b)) (keyV m l) c).run Tryd.prog w' = .ok (if c then .tuple #[.int .i64 (specM ts m l : Nat), .bool true] else .int .i64 (specM ts m l : Nat)) w' := by
  subst hv
  obtain ⟨es, clock, h⟩ := h
  obtain ⟨k, hk⟩ := stKey h1 h2 h3
  have kep : ∀ o, Kep (· = b) w (setBlock w b o) := fun o => ⟨by simp [setBlock], rfl, rfl, rfl, fun i _ hi => heap_setBlock_other h.blk _ (fun e => hi e)⟩
  rcases stLaw.find w hk es.toList (found_keys h) with ⟨f1, f2⟩ | ⟨j, e0, f1, f2, f3⟩
  · have hF : Found ts (setBlock w b (.map (es.push ⟨keyV m l, .int .i64 (specM ts m l : Nat), clock⟩) (clock + 1))) b (es.push ⟨keyV m l, .int .i64 (specM ts m l : Nat), clock⟩) (clock + 1) := by
      refine ⟨heap_setBlock_same h.blk _, fun x hx => ?_⟩
      simp only [Array.toList_push, List.mem_append, List.mem_singleton] at hx
      rcases hx with hx | rfl
      · exact h.all x hx
      · exact ⟨m, l, h1, h2, h3, rfl, rfl⟩
    refine ⟨_, ?_, kep _, ⟨_, _, hF⟩, ?_⟩
    · simp [Instr.mapUpdate, run_underlying Tryd.underlying68, MapKept.run_getObj_map h.blk, stLaw.check w false hk, f1, MapKept.run_setObj_map _ h.blk, Result.andThen, setBlock]
    · intro c
      rcases stLaw.find (setBlock w b (.map (es.push ⟨keyV m l, .int .i64 (specM ts m l : Nat), clock⟩) (clock + 1))) hk _ (found_keys hF) with ⟨_, g2⟩ | ⟨j', e1, g1, g2, g3⟩
      · exact absurd rfl (g2 ⟨keyV m l, .int .i64 (specM ts m l : Nat), clock⟩ (by simp))
      · obtain ⟨m', l', _, _, _, hk', hv⟩ := hF.all e1 (List.mem_of_getElem? g2)
        rw [g3] at hk'
        obtain ⟨rfl, rfl⟩ := key_inj hk'
        simp only [Instr.lookup, run_underlying Tryd.underlying68, MapKept.run_getObj_map hF.blk, stLaw.check _ _ hk, g1, hv, Result.andThen, Sem.run_bind, Sem.run_pure]
  · have hF : Found ts (setBlock w b (.map (es.modify j fun e => { e with key := keyV m l, val := .int .i64 (specM ts m l : Nat) }) clock)) b (es.modify j fun e => { e with key := keyV m l, val := .int .i64 (specM ts m l : Nat) }) clock := by
      refine ⟨heap_setBlock_same h.blk _, fun x hx => ?_⟩
      obtain ⟨i, hi⟩ := List.mem_iff_getElem?.1 hx
      rw [Array.getElem?_toList, Array.getElem?_modify] at hi
      split at hi
      · cases hq : es[i]? with
        | none => rw [hq] at hi; cases hi
        | some y =>
          rw [hq] at hi
          injection hi with hi
          subst hi
          exact ⟨m, l, h1, h2, h3, rfl, rfl⟩
      · exact h.all x (by rw [List.mem_iff_getElem?]; exact ⟨i, by rw [Array.getElem?_toList]; exact hi⟩)
    have hj : es[j]? = some e0 := by rw [← Array.getElem?_toList]; exact f2
    refine ⟨_, ?_, kep _, ⟨_, _, hF⟩, ?_⟩
    · simp [Instr.mapUpdate, run_underlying Tryd.underlying68, MapKept.run_getObj_map h.blk, stLaw.check w false hk, f1, hj, f3, stLaw.stays w hk, MapKept.run_setObj_map _ h.blk, Result.andThen, setBlock]
    · intro c
      rcases stLaw.find (setBlock w b (.map (es.modify j fun e => { e with key := keyV m l, val := .int .i64 (specM ts m l : Nat) }) clock)) hk _ (found_keys hF) with ⟨_, g2⟩ | ⟨j', e1, g1, g2, g3⟩
      · refine absurd rfl (g2 { e0 with key := keyV m l, val := .int .i64 (specM ts m l : Nat) } ?_)
        rw [List.mem_iff_getElem?]
        exact ⟨j, by rw [Array.getElem?_toList, Array.getElem?_modify, if_pos rfl, hj]; rfl⟩
      · obtain ⟨m', l', _, _, _, hk', hv⟩ := hF.all e1 (List.mem_of_getElem? g2)
        rw [g3] at hk'
        obtain ⟨rfl, rfl⟩ := key_inj hk'
        simp only [Instr.lookup, run_underlying Tryd.underlying68, MapKept.run_getObj_map hF.blk, stLaw.check _ _ hk, g1, hv, Result.andThen, Sem.run_bind, Sem.run_pure]
end
/-- A look-up at its operation. -/
theorem wpList_look {P : Program} (w : World) {ops : Array Oper} {rest : List Oper} {o : Oper} {a : Act} {Q : Exit → Act → World → Prop}
    (hg : o.guard = none) (m x : Operand) (t : TypeId) (c : Bool) (hop : o.op = Op.lookup t m x c) (mv key v : Value) (hm : a.eval m = mv) (hx : a.eval x = key) (hrun : (Instr.lookup t mv key c).run P w = .ok v w)
    (hK : wpList P ops Q rest (a.put o.dst v) w) : wpList P ops Q (o :: rest) a w := by
  refine wpList_plain hg fun K' hK' => ?_
  unfold Oper.wp
  simp [execOp, hop, hm, hx, hrun, Result.andThen]
  exact hK' _ _ hK
/-- A store at its operation. -/
theorem wpList_lay {P : Program} (w : World) {ops : Array Oper} {rest : List Oper} {o : Oper} {a : Act} {Q : Exit → Act → World → Prop}
    (hg : o.guard = none) (m x v : Operand) (t : TypeId) (hop : o.op = Op.mapUpdate t m x v) (mv key val : Value) (hm : a.eval m = mv) (hx : a.eval x = key) (hv : a.eval v = val) {w' : World} (hrun : (Instr.mapUpdate t mv key val).run P w = .ok () w')
    (hK : wpList P ops Q rest (a.put o.dst undef) w') : wpList P ops Q (o :: rest) a w := by
  refine wpList_plain hg fun K' hK' => ?_
  unfold Oper.wp
  simp [execOp, hop, hm, hx, hv, hrun, Result.andThen]
  exact hK' _ _ hK
end Go.Proofs.YtjamemjmdlkpcaaDoor
