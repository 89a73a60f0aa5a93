/- Towards the claim of XLawCalmed: Tools: whole rows (structs, arrays) by value, out of and into a block that is known whole. -/
import Derived.Test.YtnddiloeikaleaaQ13
import Derived.Laws.Rows
import Derived.Laws.Tables
import Derived.Deep.MidRow
import Derived.Laws.CopyOwn
namespace Go.Proofs.Ytnddiloeikaleaa
open Go.RowKit

/-- A type whose values are rows of n cells. -/
structure RowT (P : Program) (ty : TypeId) (n : Nat) : Prop where
  desc : ∃ d, P.underlying ty = some d ∧ d.isRow = true
  size : (P.info? ty).map (·.size) = some n
theorem RowT.mk' {P : Program} {ty : TypeId} {n : Nat} {d : TypeDesc} (h : P.underlying ty = some d) (hd : d.isRow = true) (hi : (P.info? ty).map (·.size) = some n) : RowT P ty n := ⟨⟨d, h, hd⟩, hi⟩
theorem Box.setRow {W : World} {b : Nat} {T : TypeId} {cs : Array Value} (h : Box W b T cs) (cs' : Array Value) : Box (W.setRow b cs') b T cs' := by
  unfold Box at h ⊢
  simp [World.setRow, Array.getElem?_modify, h]
theorem Kep.setRow (W : World) (b : Nat) (cs : Array Value) : Kep (fun x => x = b) W (W.setRow b cs) := by
  refine ⟨by simp, rfl, rfl, rfl, fun k hk hs => ?_⟩
  simp only [World.setRow, Array.getElem?_modify]
  rw [if_neg fun e => hs e.symm]
section
variable {P : Program} {W : World} {b : Nat} {T ty : TypeId} {cs cs' : Array Value} {ops : Array Oper} {rest : List Oper} {o : Oper} {a : Act} {Q : Exit → Act → World → Prop} {n : Nat}
theorem wpList_loadB (hT : RowT P ty n) (hgd : o.guard = none) (x : Operand) (ho : o.op = .load ty x) (hx : a.eval x = .pointer (some ⟨b, 0, none⟩)) (hb : Box W b T cs) (hn : cs.size = n)
    (h : wpList P ops Q rest (a.put o.dst (.agg cs)) W) : wpList P ops Q (o :: rest) a W := by
  obtain ⟨⟨d, h1, h2⟩, h3⟩ := hT
  subst hn
  exact wpList_load_row hgd ty x ho b hx T cs (0, 0) d hb h1 (by cases d <;> first | rfl | cases h2) h3 h
theorem wpList_storeB (hT : RowT P ty n) (hgd : o.guard = none) (x y : Operand) (ho : o.op = .store ty x y) (hx : a.eval x = .pointer (some ⟨b, 0, none⟩)) (hy : a.eval y = .agg cs') (hb : Box W b T cs) (hn : cs.size = n) (hn' : cs'.size = n) (h1 : cs'.all (·.oneCell') = true)
    (h : ∀ W', Box W' b T cs' → Kep (fun x => x = b) W W' → wpList P ops Q rest (a.put o.dst undef) W') : wpList P ops Q (o :: rest) a W := by
  obtain ⟨_, h3⟩ := hT
  subst hn
  exact wpList_plain hgd fun _ hK => wp_store_row ty x y ho b cs' hx hy T cs hb (by rw [hn']; exact h3) hn'.symm h1 (hK _ _ (h _ (hb.setRow cs') (Kep.setRow _ _ _)))
/-! The same within a fence. -/
theorem wpIn_loadB {F : Fence} {m : Nat} {K : Act → World → Prop} (hT : RowT P ty n) (x : Operand) (ho : o.op = .load ty x) (hx : a.eval x = .pointer (some ⟨b, 0, none⟩)) (hb : Box W b T cs) (hn : cs.size = n) (h : K (a.put o.dst (.agg cs)) W) : o.wpIn F m P a W K Q := by
  obtain ⟨⟨d, h1, h2⟩, h3⟩ := hT
  subst hn
  have hrun := run_loadVar_row (P := P) W b T ty cs (0, 0) d hb h1 (by cases d <;> first | rfl | cases h2) h3
  unfold Oper.wpIn
  refine ⟨?_, ?_⟩
  · simp [Oper.about, ho]
  · rw [Oper.semAt_plain F _ _ (by rw [ho]; intro c hc'; cases hc')]
    unfold execOp
    simp only [ho, hx, Instr.loadAt, Instr.sureAddr, Sem.run_bind, Sem.run_pure, Result.andThen_ok, hrun]
    exact h
theorem wpIn_storeB {F : Fence} {m : Nat} {K : Act → World → Prop} (hT : RowT P ty n) (x y : Operand) (ho : o.op = .store ty x y) (hx : a.eval x = .pointer (some ⟨b, 0, none⟩)) (hy : a.eval y = .agg cs') (hb : Box W b T cs) (hn : cs.size = n) (hn' : cs'.size = n) (h1 : cs'.all (·.oneCell') = true)
    (h : ∀ W', Box W' b T cs' → Kep (fun x => x = b) W W' → K (a.put o.dst undef) W') : o.wpIn F m P a W K Q := by
  obtain ⟨_, h3⟩ := hT
  subst hn
  have hrun := run_storeVar_row (P := P) W b T ty cs cs' hb (by rw [hn']; exact h3) hn'.symm h1
  unfold Oper.wpIn
  refine ⟨?_, ?_⟩
  · simp [Oper.about, ho]
  · rw [Oper.semAt_plain F _ _ (by rw [ho]; intro c hc'; cases hc')]
    unfold execOp
    simp only [ho, hx, hy, Instr.storeAt, Instr.sureAddr, Sem.run_bind, Sem.run_pure, Result.andThen_ok, hrun]
    exact h _ (hb.setRow cs') (Kep.setRow _ _ _)
theorem wpListIn_loadB {F : Fence} {m : Nat} (hT : RowT P ty n) (hw : Region.wanted o (yielded ops a.tmps) = true) (x : Operand) (ho : o.op = .load ty x) (hx : a.eval x = .pointer (some ⟨b, 0, none⟩)) (hb : Box W b T cs) (hn : cs.size = n)
    (h : wpListIn F m P ops Q rest (a.put o.dst (.agg cs)) W) : wpListIn F m P ops Q (o :: rest) a W :=
  wpListIn_step fun K hK => by rw [if_pos hw]; exact wpIn_loadB hT x ho hx hb hn (hK _ _ h)
theorem wpListIn_storeB {F : Fence} {m : Nat} (hT : RowT P ty n) (hw : Region.wanted o (yielded ops a.tmps) = true) (x y : Operand) (ho : o.op = .store ty x y) (hx : a.eval x = .pointer (some ⟨b, 0, none⟩)) (hy : a.eval y = .agg cs') (hb : Box W b T cs) (hn : cs.size = n) (hn' : cs'.size = n) (h1 : cs'.all (·.oneCell') = true)
    (h : ∀ W', Box W' b T cs' → Kep (fun x => x = b) W W' → wpListIn F m P ops Q rest (a.put o.dst undef) W') : wpListIn F m P ops Q (o :: rest) a W :=
  wpListIn_step fun K hK => by rw [if_pos hw]; exact wpIn_storeB hT x y ho hx hy hb hn hn' h1 fun W' h2 h3 => hK _ _ (h W' h2 h3)
/-- A whole row of one-cell elements goes over another one of the same length. -/
theorem wpListIn_copyB {F : Fence} {mm : Nat} {e sT dT : TypeId} {p g : Nat} {Ts Td : TypeId} {cur : Array Value} {dC sC : Nat} (hu : P.underlying dT = some (.slice e)) (hsz : (P.info? e).map (·.size) = some 1) (hw : Region.wanted o (yielded ops a.tmps) = true) (x y : Operand)
    (ho : o.op = .call { callee := .builtin .copy, args := #[x, y], argTypes := #[dT, sT] }) (hx : a.eval x = .slice (some ⟨g, 0, none⟩) n dC) (hy : a.eval y = .slice (some ⟨p, 0, none⟩) n sC) (hd : Box W g Td cur) (hs : Box W p Ts cs) (hc : cur.size = n) (hcs : cs.size = n) (h1 : ∀ v ∈ cs.toList, v.oneCell' = true)
    (h : ∀ W', Box W' g Td cs → Kep (fun x => x = g) W W' → wpListIn F mm P ops Q rest (a.put o.dst (.int .i64 (n : Nat))) W') : wpListIn F mm P ops Q (o :: rest) a W := by
  refine wpListIn_step fun K hK => ?_
  rw [if_pos hw]
  unfold Oper.wpIn
  refine ⟨by simp [Oper.about, ho, resolve, Target.leads, Sem.run_pure], ?_⟩
  rw [Oper.semAt_plain F _ _ (by rw [ho]; intro c hc'; cases hc')]
  have hmin : Nat.min n n = n := Nat.min_self n
  by_cases h0 : n = 0
  · have hrun := run_copy_none (P := P) W dT sT o.type e (some ⟨g, 0, none⟩) (some ⟨p, 0, none⟩) n dC n sC hu hsz (by rw [hmin]; exact h0)
    have e1 : cur = cs := by
      have a1 : cur = #[] := Array.eq_empty_of_size_eq_zero (by omega)
      have a2 : cs = #[] := Array.eq_empty_of_size_eq_zero (by omega)
      rw [a1, a2]
    simp [execOp, ho, resolve, invoke, builtin, hx, hy, hrun, Result.andThen]
    have := h W (e1 ▸ hd) (Kep.refl _ _)
    rw [h0] at this
    exact hK _ _ this
  · have hrun := run_copy_row (P := P) W dT sT o.type e g 0 n dC ⟨p, 0, none⟩ n sC cur Td cs.toList hu hsz hd (by rw [hmin]; simpa using hcs) (fun j v hj => by rw [Addr.add_mid, Nat.zero_add]; exact hs.cell (by simpa using hj)) (by simp; omega) h1
    have e1 : (cur.toList.take 0 ++ cs.toList ++ cur.toList.drop (0 + cs.toList.length)).toArray = cs := by
      rw [List.take_zero, List.nil_append, List.drop_eq_nil_of_le (by simp; omega), List.append_nil]
    rw [e1] at hrun
    simp [execOp, ho, resolve, invoke, builtin, hx, hy, hrun, Result.andThen]
    have := h _ (hd.setRow cs) (Kep.setRow _ _ _)
    rw [← hcs] at this
    exact hK _ _ this
/-- An element of an array by value that is a row itself. -/
theorem run_index_row {t e : TypeId} {n m : Nat} (hu : P.underlying t = some (.array n e)) (hE : RowT P e m) (cs : Array Value) (k : IntKind) (j : Nat) (hj : j < n) : (Instr.index t (.agg cs) (.int k (j : Int))).run P W = .ok (.agg (cs.extract (j * m) (j * m + m))) W := by
  obtain ⟨⟨d, h1, h2⟩, h3⟩ := hE
  have hagg : (isAgg e).run P W = .ok true W := by
    unfold isAgg
    rw [Sem.run_bind, run_underlying h1 W]
    cases d <;> simp_all
  cases hq : P.info? e with
  | none => simp [hq] at h3
  | some i =>
    have hs : i.size = m := by simpa [hq] using h3
    have hsz : (sizeOf e).run P W = .ok m W := by simp [sizeOf, typeInfo, hq, hs]
    have hj' : (j : Int) < (n : Int) := by omega
    have hp : ∀ off, (part e cs off).run P W = .ok (.agg (cs.extract off (off + m))) W := by
      intro off
      unfold part
      rw [Sem.run_bind, hagg]
      simp [hsz]
    simp [Instr.index, run_underlying hu, asIntOf, hj, hsz, hagg, part, go_sem]
theorem wpList_indexA {t e : TypeId} {n m : Nat} (hu : P.underlying t = some (.array n e)) (hE : RowT P e m) (hgd : o.guard = none) (x y : Operand) (ho : o.op = .index t x y) (hx : a.eval x = .agg cs) {k : IntKind} {j : Nat} (hy : a.eval y = .int k (j : Int)) (hj : j < n) (hcs : cs.extract (j * m) (j * m + m) = cs')
    (h : wpList P ops Q rest (a.put o.dst (.agg cs')) W) : wpList P ops Q (o :: rest) a W := by
  subst hcs
  refine wpList_plain hgd fun _ hK => ?_
  unfold Oper.wp execOp
  simp only [ho, hx, hy, Sem.run_bind, run_index_row hu hE cs k j hj, Result.andThen_ok]
  exact hK _ _ h
/-- The one result lies in a cell. -/
theorem ret_box {fn : Func} {p : Tmp} {R : Ending → World → Prop} {t : Array Value} (hT : RowT P ty n) (hr : fn.results = #[.cell p ty]) (hp : t.getD p undef = .pointer (some ⟨b, 0, none⟩)) (hb : Box W b T cs) (hn : cs.size = n)
    (h : R (.returned (.agg cs)) W) : bodyPost P fn R .ret { tmps := t, defers := [] } W := by
  obtain ⟨⟨d, h1, h2⟩, h3⟩ := hT
  subst hn
  exact bodyPost_ret (results_cell_row hr t W b T cs (0, 0) d hp hb h1 (by cases d <;> first | rfl | cases h2) h3) rfl h
end
end Go.Proofs.Ytnddiloeikaleaa
