/- Layer 4: slices.Clone and slices.Delete of pairs. -/
import Derived.Test.YtbfehifidlojlaaMe34
import Derived.Deep.RegionLaw
import Derived.Lib.SliceRun
namespace Go.Proofs.Ytbfehifidlojlaa
open Go.RowKit
open Me

section
variable {w : World} {g : Nat} {T : TypeId} {cs : Array Value}
/-- Some cells of a box are written. -/
theorem Box.setCells (vs : List Value) : ∀ {w : World} {cs : Array Value} (o : Nat), Box w g T cs → o + vs.length ≤ cs.size → ∃ cs', Box (w.setCells g o vs) g T cs' ∧ cs'.size = cs.size ∧ cs'.toList = cs.toList.take o ++ vs ++ cs.toList.drop (o + vs.length) := by
  induction vs with
  | nil => intro w cs o h _; exact ⟨cs, h, rfl, by simp⟩
  | cons v vs ih =>
    intro w cs o h hl
    simp only [List.length_cons] at hl
    obtain ⟨cs', h1, h2, h3⟩ := ih (o + 1) (h.set o v) (by rw [Array.size_setIfInBounds]; omega)
    refine ⟨cs', h1, by rw [h2, Array.size_setIfInBounds], ?_⟩
    rw [h3, Array.toList_setIfInBounds]
    have ho : o < cs.toList.length := by rw [Array.length_toList]; omega
    rw [List.take_set, List.drop_set_of_lt (by omega), List.length_cons, show o + 1 + vs.length = o + (vs.length + 1) by omega]
    have e : cs.toList.take (o + 1) = cs.toList.take o ++ [cs.toList[o]] := by rw [List.take_succ_eq_append_getElem ho]
    have hm : min o cs.size = o := by rw [Array.length_toList] at ho; omega
    rw [e, List.set_append_right _ _ (by rw [List.length_take]; omega)]
    simp [hm]
theorem box_of_own {base n c size : Nat} {xs : List Value} (h : w.ownsRow base T size (.slice (some ⟨g, 0, none⟩) n c) n xs) : ∃ cs, Box w g T cs ∧ base ≤ g ∧ n ≤ c ∧ c ≤ maxLen ∧ cs.size = c * size ∧ cs.toList.take (n * size) = xs := by
  rcases h.2 with ⟨hv, _⟩ | ⟨g', cap', cur, hv, h1, h2, h3, h4, h5, h6⟩
  · cases hv
  · injection hv with hA _ hc
    injection hA with hA
    injection hA with hg
    subst hg hc
    exact ⟨cur, h2, h1, h3, h4, h5, h6⟩
theorem own_of_box {base n c size : Nat} {xs : List Value} (h : Box w g T cs) (h1 : base ≤ g) (h2 : n ≤ c) (h3 : c ≤ maxLen) (h4 : cs.size = c * size) (h5 : cs.toList.take (n * size) = xs) (h6 : xs.length = n * size) : w.ownsRow base T size (.slice (some ⟨g, 0, none⟩) n c) n xs :=
  ⟨h6, .inr ⟨g, c, cs, rfl, h1, h, h2, h3, h4, h5⟩⟩
theorem below_setCells {b : Nat} (vs : List Value) : ∀ {w : World} {o : Nat}, b ≤ g → Below b w (w.setCells g o vs) := by
  induction vs with
  | nil => intro w o h; exact Below.refl _ _
  | cons v vs ih => intro w o h; exact (Below.setCell (Below.refl _ w) (p := ⟨g, o, none⟩) h v).trans (ih h)
end

theorem step_append_room' {P : Program} {ops : Array Oper} {o : Oper} {a : Act} {w : World} {K : Act → World → Prop} {Q : Exit → Act → World → Prop} {E : Prop}
    (hg : o.guard = none) (s x : Operand) (t : TypeId) (hop : o.op = Op.call { callee := Callee.builtin Builtin.append, args := #[s, x], argTypes := #[t, t] })
    (e : TypeId) (i : TypeInfo) (size : Nat) (h1 : P.underlying t = some (.slice e)) (h2 : P.info? e = some i) (h4 : i.size = size)
    (b off n cap : Nat) (hs : a.eval s = .slice (some ⟨b, off, none⟩) n cap)
    (ad : Addr) (m c : Nat) (news : List Value) (hx : a.eval x = .slice (some ad) m c) (hn : news.length = m * size) (hc : ∀ j u, news[j]? = some u → w.cell? (ad.add j) = some u) (h1c : ∀ u ∈ news, u.oneCell' = true)
    (hroom : n + m ≤ cap) (hspare : ∀ j, j < news.length → (w.cell? ⟨b, off + n * size + j, none⟩).isSome = true ∧ w.frozen? ⟨b, off + n * size + j, none⟩ = false) (r : Nat) (hr : n + m = r) (W' : World) (hW : w.setCells b (off + n * size) news = W')
    (hK : K (a.put o.dst (.slice (some ⟨b, off, none⟩) r cap)) W') :
    if Region.wanted o (yielded ops a.tmps) = true then Oper.wp P o a w K Q else E := by
  subst hr hW
  exact step_append_room hg s x t hop e i size h1 h2 h4 b off n cap hs ad m c news hx hn hc h1c hroom hspare hK

/-- 'clear' of one pair. -/
theorem clearP_run (w : World) (ty : TypeId) (g o c : Nat) (h0 : (w.cell? ⟨g, o, none⟩).isSome = true) (h1 : (w.cell? ⟨g, o + 1, none⟩).isSome = true) (f0 : w.frozen? ⟨g, o, none⟩ = false) (f1 : w.frozen? ⟨g, o + 1, none⟩ = false) :
    (Builtin.clear_ #[23] ty #[.slice (some ⟨g, o, none⟩) 1 c]).run Try.prog w = .ok (.tuple #[]) (w.setCells g o [.int .i64 0, .int .i64 0]) := by
  obtain ⟨i, hu, hi, hz, _⟩ := slPr
  have hv : ∀ w, (zeroValue 63).run Try.prog w = .ok (.agg #[.int .i64 0, .int .i64 0]) w := fun w => by kernel_rfl
  have hst := run_storeCells_cells (P := Try.prog) g o [.int .i64 0, .int .i64 0] 0 w (by
    intro j hj
    rcases j with _ | _ | j
    · simpa using h0
    · simpa using h1
    · simp only [List.length_cons, List.length_nil] at hj; omega) (by
    intro j hj
    rcases j with _ | _ | j
    · simpa using f0
    · simpa using f1
    · simp only [List.length_cons, List.length_nil] at hj; omega) (by intro v hv; simp at hv; subst hv; rfl)
  have hzc : (Builtin.zeroCells (Value.agg #[.int .i64 0, .int .i64 0]).cells 1).toList = [.int .i64 0, .int .i64 0] := by kernel_rfl
  simp only [Nat.add_zero] at hst
  simp [Builtin.clear_, run_underlying hu, hv, hzc, hst]

set_option maxRecDepth 100000 in
set_option maxHeartbeats 4000000 in
theorem deleteP_c (W1 : World) (g c i k : Nat) (ps : List Pr) (w : World) [hW : Le W1.heap.size w] (h : w.ownsRow W1.heap.size 63 2 (.slice (some ⟨g, 0, none⟩) (k + 1) c) (k + 1) (ps.flatMap encPr)) (hl : ps.length = k + 1) (hi : i ≤ k) (hk : k ≤ 100) :
    Calls Try.prog 90 #[.slice (some ⟨g, 0, none⟩) (k + 1) c, .int .i64 i, .int .i64 ((i : Int) + 1)] w fun e w' => e = .returned (.slice (some ⟨g, 0, none⟩) k c) ∧ ∃ δ, w' = latB W1.heap.size w δ ∧
      w'.ownsRow W1.heap.size 63 2 (.slice (some ⟨g, 0, none⟩) k c) k ((ps.take i ++ ps.drop (i + 1)).flatMap encPr) := by
  obtain ⟨cs, hbx, hbg, hnc, hmx, hsz, hcs⟩ := box_of_own h
  obtain ⟨ti, hu, hinf, hz, hts, _⟩ := slPr
  have hmx' : c ≤ 9223372036854775807 := hmx
  have hlen : (ps.flatMap encPr).length = (k + 1) * 2 := by rw [len_enc encPr 2 (fun _ => rfl), hl]
  -- the cells that move
  obtain ⟨news, hnews⟩ : ∃ news, news = (ps.drop (i + 1)).flatMap encPr := ⟨_, rfl⟩
  have hnl : news.length = (k - i) * 2 := by rw [hnews, len_enc encPr 2 (fun _ => rfl), List.length_drop, hl]; omega
  have hcell : ∀ j v, (ps.flatMap encPr)[j]? = some v → w.cell? ⟨g, j, none⟩ = some v := fun j v hj => by
    refine hbx.cell ?_
    rw [← hcs, List.getElem?_take] at hj
    split at hj
    · simpa using hj
    · cases hj
  have hall : ∀ j, j < (k + 1) * 2 → (w.cell? ⟨g, j, none⟩).isSome = true := fun j hj => by
    have : j < (ps.flatMap encPr).length := by rw [hlen]; exact hj
    rw [hcell j _ (List.getElem?_eq_getElem this)]; rfl
  have hsplit : ps.flatMap encPr = (ps.take (i + 1)).flatMap encPr ++ news := by rw [hnews, ← List.flatMap_append, List.take_append_drop]
  have htl : ((ps.take (i + 1)).flatMap encPr).length = (i + 1) * 2 := by rw [len_enc encPr 2 (fun _ => rfl), List.length_take, hl, Nat.min_eq_left (by omega)]
  obtain ⟨A, hA, hsrc⟩ : ∃ A : Addr, (if c = i + 1 then some (⟨g, 0, none⟩ : Addr) else some ⟨g, (i + 1) * 2, none⟩) = some A ∧ Hid (∀ t u, news[t]? = some u → w.drew.cell? (A.add t) = some u) := by
    by_cases hc : c = i + 1
    · refine ⟨⟨g, 0, none⟩, by simp [hc], fun t u hu => ?_⟩
      have h0 : news.length = 0 := by rw [hnl]; omega
      rw [List.length_eq_zero_iff.1 h0] at hu
      simp at hu
    · refine ⟨⟨g, (i + 1) * 2, none⟩, by simp [hc], fun t u hu => ?_⟩
      rw [Addr.add_lit]
      show w.cell? _ = _
      refine hcell _ _ ?_
      rw [hsplit, List.getElem?_append_right (by rw [htl]; omega), htl, Nat.add_sub_cancel_left]
      exact hu
  have s2 : Hid (∀ u ∈ news, u.oneCell' = true) := by rw [hnews]; exact one_enc encPr one_pr _
  have s3 : Hid (∀ t, t < news.length → (w.drew.cell? ⟨g, 0 + i * 2 + t, none⟩).isSome = true ∧ w.drew.frozen? ⟨g, 0 + i * 2 + t, none⟩ = false) := fun t ht => by
    rw [hnl] at ht
    exact ⟨hall _ (by omega), hbx.free _⟩
  obtain ⟨cs1, hb1, hz1, ht1⟩ := Box.setCells news (0 + i * 2) (show Box w.drew g _ cs from hbx.drew) (by rw [hnl, hsz]; omega)
  obtain ⟨W2, hW2⟩ : ∃ W2, w.drew.setCells g (0 + i * 2) news = W2 := ⟨_, rfl⟩
  rw [hW2] at hb1
  have hcs1 : ∀ j, j < (k + 1) * 2 → (W2.cell? ⟨g, j, none⟩).isSome = true := fun j hj => by
    have : j < cs1.size := by rw [hz1, hsz]; omega
    rw [hb1.cell (i := j) (Array.getElem?_eq_getElem this)]; rfl
  have hcl : ∀ ty, (Builtin.clear_ #[23] ty #[.slice (some ⟨g, k * 2, none⟩) 1 (c - k)]).run Try.prog W2 = .ok (.tuple #[]) (W2.setCells g (k * 2) [.int .i64 0, .int .i64 0]) := fun ty =>
    clearP_run W2 ty g (k * 2) (c - k) (hcs1 _ (by omega)) (hcs1 _ (by omega)) (hb1.free _) (hb1.free _)
  obtain ⟨cs2, hb2, hz2, ht2⟩ := Box.setCells [.int .i64 0, .int .i64 0] (k * 2) hb1 (by rw [hz1, hsz]; simp only [List.length_cons, List.length_nil]; omega)
  have hW3 : Below W1.heap.size w (W2.setCells g (k * 2) [.int .i64 0, .int .i64 0]) := by
    rw [← hW2]
    exact ((Below.drew (Below.refl _ w)).trans (below_setCells news hbg)).trans (below_setCells _ hbg)
  have hfin : (W2.setCells g (k * 2) [.int .i64 0, .int .i64 0]).ownsRow W1.heap.size 63 2 (.slice (some ⟨g, 0, none⟩) k c) k ((ps.take i ++ ps.drop (i + 1)).flatMap encPr) := by
    have e1 : (ps.take i).flatMap encPr = cs.toList.take (i * 2) := by
      have := congrArg (List.take (i * 2)) hcs
      rw [List.take_take, Nat.min_eq_left (by omega)] at this
      rw [this]
      have e : ps.flatMap encPr = (ps.take i).flatMap encPr ++ (ps.drop i).flatMap encPr := by rw [← List.flatMap_append, List.take_append_drop]
      rw [e, List.take_left' (by rw [len_enc encPr 2 (fun _ => rfl), List.length_take, hl, Nat.min_eq_left (by omega)])]
    have hcl : cs.toList.length = c * 2 := by rw [Array.length_toList, hsz]
    have e2 : ((ps.take i ++ ps.drop (i + 1)).flatMap encPr) = cs.toList.take (i * 2) ++ news := by rw [List.flatMap_append, e1, hnews]
    refine own_of_box hb2 hbg (by omega) hmx (by rw [hz2, hz1, hsz]) ?_ ?_
    · rw [ht2, ht1, e2]
      have l1 : (cs.toList.take (0 + i * 2) ++ news).length = k * 2 := by rw [List.length_append, List.length_take, hcl, hnl]; omega
      rw [List.append_assoc, List.take_append_of_le_length (by rw [List.length_take, List.length_append, l1]; omega), List.take_take, Nat.min_self, List.take_left' l1, Nat.zero_add]
    · rw [e2, List.length_append, List.length_take, hcl, hnl]; omega
  have W2' := Lib.hid hW2
  have HF := Lib.hid hfin
  have HB := Lib.hid hW3
  have HU := Lib.hid hu
  have HI := Lib.hid hinf
  have HT := Lib.hid hts
  have HNL := Lib.hid hnl
  have f1 : ¬ k + 1 = i := by omega
  have f2 : (i : Int) ≤ (i : Int) + 1 := by omega
  have f3 : (i : Int) + 1 ≤ (k : Int) + 1 := by omega
  have f4 : (k : Int) + 1 ≤ (c : Int) := by omega
  have f5 : (0 : Int) ≤ (i : Int) + 1 := by omega
  have f6 : ((i : Int) == (i : Int) + 1) = false := by simp; omega
  have f7 : (i : Int) ≤ (c : Int) := by omega
  have f8 : ¬ c = k := by omega
  have f9 : (k : Int) ≤ (k : Int) + 1 := by omega
  clear h hl hbx hcs hlen hnews hcell hall hsplit htl hb1 ht1 hz1 hcs1 hb2 hz2 ht2 hW3 hfin hu hinf hz hts hnl hW2 hmx hsz
  go_enter Try.func90, Try.ntmps90
  go_wp2_with fail
  go_region_law (refine step_append_room' rfl (.tmp 22) (.tmp 25) 23 rfl 63 ti 2 HU.out HI.out HT.out g 0 i c (by simp [Act.eval, Act.put]) A (k - i) (c - (i + 1)) news (by simp [Act.eval, Act.put]) HNL.out hsrc.out s2.out (by omega) s3.out k (by omega) W2 W2'.out ?_)
  go_wp2
  go_ret
  exact ⟨rfl, _, (latB_of HB.out).symm, HF.out⟩

end Go.Proofs.Ytbfehifidlojlaa
