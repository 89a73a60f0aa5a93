/- Season: a strings.Builder of the call's own: copyCheck, WriteByte, WriteString. -/
import Derived.Test.YtjamemjmdlkpcaaDoorSe18
import Derived.Lib.Builder
import Derived.Lib.AppendStr
import Derived.Lib.UnsafeStr
import Derived.Laws.Externs
namespace Go.Proofs.YtjamemjmdlkpcaaDoor
open Go.RowKit
open Se

/-- A builder in block b that holds the bytes l, in a row that lies from base on. -/
def Bld (b base : Nat) (l : Txt) (w : World) : Prop :=
  ∃ p v, Box w b 89 #[.pointer p, v] ∧ (p = none ∨ p = some ⟨b, 0, none⟩) ∧ w.ownsRow base 5 1 v l.length (Lib.byteCells l)
/-- What else there is. -/
structure Rest (b base : Nat) (w w' : World) : Prop where
  kep : Kep (fun k => k = b ∨ base ≤ k) w w'
  row : ∀ k T cur fr, T ≠ 5 → k ≠ b → w.heap[k]? = some (.cells cur T fr) → w'.heap[k]? = some (.cells cur T fr)
theorem Rest.refl (b base : Nat) (w : World) : Rest b base w w := ⟨Kep.refl _ _, fun _ _ _ _ _ _ h => h⟩
theorem Rest.trans {b base : Nat} {w1 w2 w3 : World} (h : Rest b base w1 w2) (k : Rest b base w2 w3) : Rest b base w1 w3 := ⟨h.kep.trans k.kep, fun j T cur fr hT hj hh => k.row j T cur fr hT hj (h.row j T cur fr hT hj hh)⟩
theorem heap_lt {w : World} {k : Nat} {o : Obj} (h : w.heap[k]? = some o) : k < w.heap.size := (Array.getElem?_eq_some_iff.1 h).1
theorem Rest.below {b base : Nat} {w w' : World} (h : Below w.heap.size w w') : Rest b base w w' := ⟨.of_below h, fun k _ _ _ _ _ hh => (h.block k (heap_lt hh)).trans hh⟩
theorem Rest.set {b base : Nat} (w : World) (i : Nat) (u : Value) : Rest b base w (w.setCell ⟨b, i, none⟩ u) :=
  ⟨(Kep.refl _ _).set (.inl rfl) i u, fun k _ _ _ _ hk hh => (Below.heap_setCell w ⟨b, i, none⟩ u k hk).trans hh⟩
theorem Rest.grown {b base : Nat} {w w' : World} {v : Value} {n : Nat} {xs : List Value} (hown : w.ownsRow base 5 1 v n xs) (hg : w.grownBy w' v.ownBlock) : Rest b base w w' := by
  refine ⟨⟨hg.size, hg.os, hg.tape, hg.output, fun k hk hs => hg.block k hk fun e => hs (.inr (hown.lt k e.symm).1)⟩, fun k T cur fr hT _ hh => (hg.block k (heap_lt hh) ?_).trans hh⟩
  intro e
  rcases hown.2 with ⟨rfl, _⟩ | ⟨g, cap, cur', rfl, _, hh', _⟩
  · simp [Value.ownBlock] at e
  · have : k = g := by simpa [Value.ownBlock] using e
    subst this
    rw [hh] at hh'
    injection hh' with hh'
    injection hh' with _ ht
    exact hT ht
theorem Rest.box {b base k : Nat} {T : TypeId} {cs : Array Value} {w w' : World} (h : Rest b base w w') (hb : Box w k T cs) (hk : k ≠ b) (hT : T ≠ 5) : Box w' k T cs := h.row k T cs (0, 0) hT hk hb
theorem slB : SlT Tryd.prog 44 5 (.int .u8 0) 1 1 := SlT.mk Tryd.underlying44 (by kernel_rfl) rfl (by omega)
theorem Bld.kept {b base : Nat} {l : Txt} {w w' : World} (h : Bld b base l w) (hk : ∀ k cur T fr, w.heap[k]? = some (.cells cur T fr) → (k = b ∨ base ≤ k) → w'.heap[k]? = w.heap[k]?) : Bld b base l w' := by
  obtain ⟨p, v, hb, hp, hown⟩ := h
  refine ⟨p, v, (hk b _ _ _ hb (.inl rfl)).trans hb, hp, hown.1, ?_⟩
  rcases hown.2 with h2 | ⟨g, cap, cur, hv, hg, hh, r⟩
  · exact .inl h2
  · exact .inr ⟨g, cap, cur, hv, hg, (hk g _ _ _ hh (.inr hg)).trans hh, r⟩
theorem Bld.below {b base : Nat} {l : Txt} {w w' : World} (h : Bld b base l w) (hb : Below w.heap.size w w') : Bld b base l w' := h.kept fun k _ _ _ hh _ => hb.block k (heap_lt hh)
set_option maxHeartbeats 1000000 in
set_option maxRecDepth 100000 in
theorem copyCheck_c (b base : Nat) (l : Txt) (w : World) (h : Bld b base l w) :
    Calls Tryd.prog 98 #[.pointer (some ⟨b, 0, none⟩)] w fun e w' => e = .returned (.tuple #[]) ∧ Bld b base l w' ∧ Rest b base w w' := by
  obtain ⟨p, v, hb, hp, hown⟩ := h
  obtain ⟨j, hj, hjs⟩ := Option.map_eq_some_iff.1 (show (Tryd.prog.info? 89).map (fun i => i.size) = some 2 by kernel_rfl)
  have c0 := hb.cell (i := 0) (v := .pointer p) rfl
  have f0 := hb.free 0
  have hsh : w.shape? b = some (89, 2) := by unfold Box at hb; simp [World.shape?, hb]
  have hown2 : (w.setCell ⟨b, 0, none⟩ (.pointer (some ⟨b, 0, none⟩))).ownsRow base 5 1 v l.length (Lib.byteCells l) := by
    refine own_far hown ?_
    intro e
    exact Lib.ownBlock_ne hown hb (by decide) e
  have HO := Lib.hid hown
  have HO2 := Lib.hid hown2
  have HB := Lib.hid hb
  have ib := hb.lt
  clear hown hown2 hb
  rcases hp with rfl | rfl
  · go_enter Tryd.func98, Tryd.ntmps98
    go_wp2
    rw [Lib.run_to_unsafe w ⟨b, 0, none⟩ (t := 89) (by kernel_rfl) (by kernel_rfl) hj (by rw [hjs]; decide) hsh (Nat.zero_lt_succ 1)]
    simp only [Result.andThen]
    rw [Oper.upon_value]
    go_wp2
    rw [run_callFunc_extern Tryd.func110 (by kernel_rfl) (by kernel_rfl) (by kernel_rfl) (e := Extern.AbiNoEscape.same) (by kernel_rfl)]
    rw [Lib.run_noEscape]
    simp only [Result.andThen]
    rw [Oper.upon_value]
    go_wp2
    rw [Lib.run_from_unsafe w ⟨b, 0, none⟩ (u := 89) (by kernel_rfl) (by kernel_rfl) hj hsh (by kernel_rfl)]
    simp only [Result.andThen]
    rw [Oper.upon_value]
    go_wp2
    go_end0
    exact ⟨rfl, ⟨_, v, HB.out.set 0 _, .inr rfl, HO2.out⟩, Rest.set _ _ _⟩
  · go_enter Tryd.func98, Tryd.ntmps98
    go_wp2
    rw [Lib.run_neq_ptr_same w _ (te := 89) (by kernel_rfl) hj]
    go_wp2
    go_end0
    exact ⟨rfl, ⟨_, v, HB.out, .inr rfl, HO.out⟩, Rest.refl _ _ _⟩
theorem own_put {b base : Nat} {v : Value} {n : Nat} {xs : List Value} {w : World} {cs : Array Value} (hown : w.ownsRow base 5 1 v n xs) (hb : Box w b 89 cs) (i : Nat) (u : Value) : (w.setCell ⟨b, i, none⟩ u).ownsRow base 5 1 v n xs :=
  own_far hown (fun e => Lib.ownBlock_ne hown hb (by decide) e)
set_option maxHeartbeats 1000000 in
set_option maxRecDepth 100000 in
theorem writeByte_c (b base : Nat) (l : Txt) (c : UInt8) (u : Int) (hu : u = c.toNat) (w : World) (h : Bld b base l w) (hl : l.length ≤ 100000) (hbase : base ≤ w.heap.size) :
    Calls Tryd.prog 77 #[.pointer (some ⟨b, 0, none⟩), .int .u8 u] w fun e w' => e = .returned .nilIface ∧ Bld b base (l ++ [c]) w' ∧ Rest b base w w' := by
  subst hu
  obtain ⟨i0, ht, hi, hz, hsize, hby, _, _⟩ := slB
  have H := Lib.hid h
  clear h
  go_enter Tryd.func77, Tryd.ntmps77
  go_wp2_with (go_at_call 98; refine (copyCheck_c b base l _ H.out).mono ?_)
  rintro e w1 ⟨rfl, h1, r1⟩
  obtain ⟨p, v, hb, hp, hown⟩ := h1
  have hs1 : base ≤ w1.heap.size := Nat.le_trans hbase r1.kep.size
  obtain ⟨A, cap, rfl⟩ := own_form hown
  have c1 := hb.cell (i := 1) (v := .slice A l.length cap) rfl
  have ib := hb.lt
  have HB := Lib.hid hb
  have HO := Lib.hid hown
  have R1 := Lib.hid r1
  have HP := Lib.hid hp
  clear hb hown r1 hp
  go_wp2_with (at_builtin; refine wpList_append_own _ rfl _ _ 44 rfl base 5 i0 (.int .u8 0) 1 1 ht hi hz hsize hby rfl (by decide) _ _ _ rfl (HO.out.alloc _) ⟨w1.heap.size, 0, none⟩ 1 1 [.int .u8 c.toNat] rfl rfl ?c1 ?c2 ?c3 ?c4 ?c5 ?_)
  case c1 =>
    intro j u hj
    match j, hj with
    | 0, hj => simp at hj; subst hj; simp [Addr.add]
  case c2 => intro u hu; simp at hu; subst hu; rfl
  case c3 => unfold maxLen; omega
  case c4 => omega
  case c5 => simp; omega
  intro v' w2 hown' hgrow _
  have r2 : Rest b base w1 w2 := (Rest.below ((Below.refl _ w1).alloc (Nat.le_refl _) _)).trans (Rest.grown (HO.out.alloc _) hgrow)
  have hb2 : Box w2 b 89 #[.pointer p, .slice A l.length cap] := (hgrow.block b (by have := HB.out.lt_; simp; omega) (fun e => Lib.ownBlock_ne HO.out HB.out (by decide) e.symm)).trans (HB.out.alloc _)
  obtain ⟨A', c', rfl⟩ := own_form hown'
  have d1 := hb2.cell (i := 1) (v := .slice A l.length cap) rfl
  have f1 := hb2.free 1
  have ib2 := hb2.lt
  have HB2 := Lib.hid hb2
  have R2 := Lib.hid r2
  have HO2 : Hid (w2.ownsRow base 5 1 (.slice A' (l.length + 1) c') (l.length + 1) (Lib.byteCells (l ++ [c]))) := Lib.hid (by rw [Lib.byteCells_append]; exact hown')
  clear hb2 r2 hown' hgrow
  go_wp2
  go_ret
  refine ⟨rfl, ⟨p, .slice A' (l.length + 1) c', ?_, HP.out, ?_⟩, R1.out.trans (R2.out.trans (Rest.set _ _ _))⟩
  · exact HB2.out.set 1 _
  · rw [List.length_append]; exact own_put HO2.out HB2.out 1 _
set_option maxHeartbeats 1000000 in
set_option maxRecDepth 100000 in
theorem writeString_c (b base : Nat) (l : Txt) (s : ByteArray) (y : Txt) (hy : s.data.toList = y) (w : World) (h : Bld b base l w) (hl : l.length ≤ 100000) (hyl : y.length ≤ 100000) (hbase : base ≤ w.heap.size) :
    Calls Tryd.prog 78 #[.pointer (some ⟨b, 0, none⟩), .string s] w fun e w' => e = .returned (.tuple #[.int .i64 s.size, .nilIface]) ∧ Bld b base (l ++ y) w' ∧ Rest b base w w' := by
  obtain ⟨i0, ht, hi, hz, hsize, hby, _, _⟩ := slB
  have hsz : s.size = y.length := by rw [← hy, size_len]
  have HY := Lib.hid hy
  have H := Lib.hid h
  clear h hy
  go_enter Tryd.func78, Tryd.ntmps78
  go_wp2_with (go_at_call 98; refine (copyCheck_c b base l _ H.out).mono ?_)
  rintro e w1 ⟨rfl, h1, r1⟩
  obtain ⟨p, v, hb, hp, hown⟩ := h1
  have hs1 : base ≤ w1.heap.size := Nat.le_trans hbase r1.kep.size
  obtain ⟨A, cap, rfl⟩ := own_form hown
  have c1 := hb.cell (i := 1) (v := .slice A l.length cap) rfl
  have ib := hb.lt
  have HB := Lib.hid hb
  have HO := Lib.hid hown
  have R1 := Lib.hid r1
  have HP := Lib.hid hp
  have HZ := Lib.hid hsz
  clear hb hown r1 hp hsz
  go_wp2_with (at_builtin; refine Lib.wpList_append_own_string _ rfl _ _ 44 9 rfl base 5 i0 ht (by kernel_rfl) hi hz hsize hby _ _ _ rfl HO.out s rfl ?c3 ?c4 ?c5 ?_)
  case c3 => have := HZ.out; unfold maxLen; omega
  case c4 => have := HZ.out; omega
  case c5 => omega
  intro v' w2 hown' hgrow _
  have r2 : Rest b base w1 w2 := Rest.grown HO.out hgrow
  have hb2 : Box w2 b 89 #[.pointer p, .slice A l.length cap] := (hgrow.block b HB.out.lt_ (fun e => Lib.ownBlock_ne HO.out HB.out (by decide) e.symm)).trans HB.out
  obtain ⟨A', c', rfl⟩ := own_form hown'
  have d1 := hb2.cell (i := 1) (v := .slice A l.length cap) rfl
  have f1 := hb2.free 1
  have ib2 := hb2.lt
  have HB2 := Lib.hid hb2
  have R2 := Lib.hid r2
  have HO2 : Hid (w2.ownsRow base 5 1 (.slice A' (l.length + s.size) c') (l.length + s.size) (Lib.byteCells (l ++ y))) := Lib.hid (by rw [Lib.byteCells_append, ← HY.out]; exact hown')
  clear hb2 r2 hown' hgrow
  go_wp2
  go_ret2
  refine ⟨rfl, ⟨p, .slice A' (l.length + s.size) c', ?_, HP.out, ?_⟩, R1.out.trans (R2.out.trans (Rest.set _ _ _))⟩
  · exact HB2.out.set 1 _
  · have := own_put HO2.out HB2.out 1 (.slice A' (l.length + s.size) c')
    rw [HZ.out] at this
    rw [List.length_append, HZ.out]
    exact this
end Go.Proofs.YtjamemjmdlkpcaaDoor
