/- Season: the rows of texts, as the program yields them. -/
import Derived.Test.YtjamemjmdlkpcaaDoorSe16
import Derived.RangeFuncNested
import Derived.RangeFuncCalls
import Derived.TacticsInMore
import Derived.OwnWalkIn
import Derived.LoopIn
namespace Go.Proofs.YtjamemjmdlkpcaaDoor
open Go.RowKit
open Se

/-- W' is W but for blocks of the set S, and for what is new. -/
structure Kep (S : Nat → Prop) (W W' : World) : Prop where
  size : W.heap.size ≤ W'.heap.size
  os : W'.os = W.os
  tape : W'.tape = W.tape
  output : W'.output = W.output
  block : ∀ b, b < W.heap.size → ¬ S b → W'.heap[b]? = W.heap[b]?
theorem Kep.refl (S : Nat → Prop) (W : World) : Kep S W W := ⟨Nat.le_refl _, rfl, rfl, rfl, fun _ _ _ => rfl⟩
theorem Kep.trans {S : Nat → Prop} {A B C : World} (h : Kep S A B) (k : Kep S B C) : Kep S A C :=
  ⟨Nat.le_trans h.size k.size, k.os.trans h.os, k.tape.trans h.tape, k.output.trans h.output, fun b hb hs => (k.block b (Nat.lt_of_lt_of_le hb h.size) hs).trans (h.block b hb hs)⟩
theorem Kep.mono {S S' : Nat → Prop} {A B : World} (h : Kep S A B) (hs : ∀ b, S b → S' b) : Kep S' A B := ⟨h.size, h.os, h.tape, h.output, fun b hb hn => h.block b hb fun hc => hn (hs b hc)⟩
theorem Kep.of_below {S : Nat → Prop} {A B : World} (h : Below A.heap.size A B) : Kep S A B := ⟨h.size, h.os, h.tape, h.output, fun b hb _ => h.block b hb⟩
theorem Kep.lat (S : Nat → Prop) (W δ : World) : Kep S W (lat W δ) := .of_below (lat_below W δ)
theorem Kep.below {S : Nat → Prop} {A B : World} {k : Nat} (h : Kep S A B) (hk : k ≤ A.heap.size) (hs : ∀ b, S b → k ≤ b) : Below k A B :=
  ⟨h.os, h.tape, h.output, h.size, fun b hb => h.block b (by omega) fun hc => by have := hs b hc; omega⟩
theorem Kep.set {S : Nat → Prop} {A B : World} (h : Kep S A B) {b : Nat} (hb : S b) (i : Nat) (u : Value) : Kep S A (B.setCell ⟨b, i, none⟩ u) :=
  ⟨by simpa [World.setCell] using h.size, h.os, h.tape, h.output, fun k hk hs => (Below.heap_setCell B ⟨b, i, none⟩ u k (by rintro rfl; exact hs hb)).trans (h.block k hk hs)⟩
theorem Kep.putObj {S : Nat → Prop} {A B : World} (h : Kep S A B) {b : Nat} (hb : S b) (o : Obj) : Kep S A (B.putObj b o) := by
  refine ⟨?_, h.os, h.tape, h.output, fun k hk hs => (World.putObj_heap_other (by rintro rfl; exact hs hb)).trans (h.block k hk hs)⟩
  have := h.size
  simpa [World.putObj] using this
theorem Kep.cell {S : Nat → Prop} {A B : World} (h : Kep S A B) {b o : Nat} (hb : b < A.heap.size) (hs : ¬ S b) : B.cell? ⟨b, o, none⟩ = A.cell? ⟨b, o, none⟩ := World.cell?_of_block (a := ⟨b, o, none⟩) (h.block b hb hs)
theorem Kep.slB {α : Type} {enc : α → List Value} {S : Nat → Prop} {A B : World} {B0 : Nat} {a : Option Addr} {c : Nat} {xs : List α} (h : Kep S A B) (hS : Sl enc B0 A a c xs) (hB : B0 ≤ A.heap.size) (hs : ∀ b, S b → B0 ≤ b) : Sl enc B0 B a c xs := by
  refine ⟨hS.1, hS.2.1, fun hne => ?_⟩
  obtain ⟨b, o, hA, hb, hv⟩ := hS.2.2 hne
  exact ⟨b, o, hA, hb, fun j v hj => (h.cell (by omega) (fun hc => by have := hs b hc; omega)).trans (hv j v hj)⟩
/-- An invariant that new blocks do not touch. -/
def Stays {β : Type} (J : β → World → Prop) : Prop := ∀ p W W', J p W → Below W.heap.size W W' → J p W'

def rowV (r : Row) : Value := .agg #[.int .i64 r.pre, .int .i64 r.suf, .string (str r.mid)]
/-- What the round of a loop over rows says of one row. -/
def RowsOk (P : Program) (S : Nat → Prop) (L : List Row) (l : Nat) (J : List Row → World → Prop) : Prop :=
  ∀ (m : Nat) (pre : List Row) (x : Row) (W : World), pre ++ [x] <+: L → J pre W →
    YieldAt Fence.wide m P l #[rowV x] W fun e W' => e = .returned (.bool true) ∧ Kep S W W' ∧ J (pre ++ [x]) W'

section
attribute [local go_sem] Oper.semAt_some
set_option maxHeartbeats 4000000 in
theorem rows1_c (A : Option Addr) (c : Nat) (ts : List Txt) (ht : allT ts) (B bp : Nat) (S : Nat → Prop) (lp : Nat) (J : List Row → World → Prop) (hJs : Stays J) (W : World) (hY : RowsOk Tryd.prog S (rows [] ts) lp J)
    (hS : ∀ b, S b → B ≤ b ∧ b ≠ bp) (hN : Sl strE B W A c ts) (hB : B ≤ W.heap.size) (hbp : bp < W.heap.size)
    (c0 : W.cell? ⟨bp, 0, none⟩ = some (.slice A ts.length c)) (hJ : J [] W) :
    Calls Tryd.prog 97 #[.func (.yield lp) #[] #[], .pointer (some ⟨bp, 0, none⟩)] W fun e W' => (∃ v, e = .returned v) ∧ Kep S W W' ∧ J (rows [] ts) W' := by
  refine (callsIn_wide (n := 3)).1 ?_
  have i1 : Lt bp W := ⟨hbp⟩
  have hcl := hN.len
  have HN := Lib.hid hN
  have HS := Lib.hid hS
  have HJ := Lib.hid hJ
  have HY := Lib.hid hY
  have HJs := Lib.hid hJs
  have HT := Lib.hid ht
  clear hN hS hJ hY hJs ht
  refine callsIn_of_wp Tryd.func97 rfl trivial ?_ rfl
  simp only [Tryd.ntmps97, List.size_toArray, List.length_cons, List.length_nil, Nat.reduceAdd, Nat.reduceSub, Array.replicate_succ, Array.replicate_zero, List.push_toArray, List.append_toArray, List.nil_append, List.cons_append]
  gi_wp2
  gi_loopw [3, 8] (fun b i wr => ∃ (k : Nat) (y : Txt), k ≤ ts.length ∧ b = .string (str y) ∧ i = .int .i64 k ∧ Hid (y = lastD [] (ts.take k)) ∧ Hid (J (rows [] (ts.take k)) wr) ∧ Hid (Kep S W wr)) (fun _ i _ => ts.length - (intOf i).toNat)
  case atStart => exact ⟨0, [], Nat.zero_le _, rfl, rfl, rfl, HJ.out, Kep.refl _ _⟩
  case round =>
    obtain ⟨k, y, hk, rfl, rfl, HX, HJk, HK⟩ := hrel
    by_cases hlt : k < ts.length
    · obtain ⟨b, o, rfl, hb, d0⟩ := (HK.out.slB HN.out hB (fun b hb => (HS.out b hb).1)).txt hlt
      have ib : Lt b wr := ⟨by have := HK.out.size; omega⟩
      have hki : (k : Int) < (ts.length : Int) := by omega
      have hk0 : ¬ (k : Int) < 0 := by omega
      obtain ⟨t, hte⟩ : ∃ t, nth ts k = t := ⟨_, rfl⟩
      have HR : Hid (rows [] (ts.take (k + 1)) = rows [] (ts.take k) ++ [rowOf y t] ∧ t = lastD [] (ts.take (k + 1))) := by
        rw [take_snoc _ hlt, rows_snoc, lastD_snoc, HX.out, hte]
        exact ⟨rfl, rfl⟩
      have hyt : isText y = true := by rw [HX.out]; exact lastD_text (allT_take HT.out k)
      have htt : isText t = true := by rw [← hte]; exact HT.out _ (nth_mem _ hlt)
      have ly := (isText_iff.1 hyt).2
      have lt := (isText_iff.1 htt).2
      have HL : Hid ((str y).size ≤ 140737488355328 ∧ (str t).size ≤ 140737488355328) := Lib.hid (by rw [size_str, size_str]; omega)
      rw [hte] at d0
      have hpre : Hid (rows [] (ts.take k) ++ [rowOf y t] <+: rows [] ts) := by
        rw [← HR.out.1, rows_take]
        exact List.take_prefix _ _
      clear hyt htt ly lt hte
      gi_wp2_with (fail)
      refine ⟨trivial, ?_⟩
      refine (callsIn_wide.2 (row_c (str y) (str t) y t (lst_str y) (lst_str t) HL.out.1 HL.out.2 _)).mono ?_
      rintro e w1 ⟨rfl, δ1, rfl⟩
      obtain ⟨fn, tmps, assign, body, hy, hR⟩ := HY.out 2 _ _ _ hpre.out (HJs.out _ _ _ HJk.out (lat_below wr δ1))
      simp only [rowV, rowOf] at hy hR
      gi_wp2_with (refine hR.mono ?_; clear hR hy; rintro e W2 ⟨rfl, hK2, hJ2⟩)
      go_roundw
      case rel => exact ⟨k + 1, t, by omega, rfl, by go_num, HR.out.2, by rw [HR.out.1]; exact hJ2, HK.out.trans ((Kep.lat _ _ _).trans hK2)⟩
      case measure => simp [intOf]; omega
    · obtain rfl : k = ts.length := by omega
      have HJ' : Hid (J (rows [] ts) wr) := by have := HJk.out; rw [List.take_length] at this; exact this
      gi_wp2
      go_end0
      exact ⟨⟨_, rfl⟩, HK.out, HJ'.out⟩
end
theorem rows_c (A : Option Addr) (n c : Nat) (w : World) :
    Calls Tryd.prog 76 #[.slice A n c] w fun e w' => e = .returned (.func (.func 97) #[] #[.pointer (some ⟨w.heap.size, 0, none⟩)]) ∧ w' = w.alloc (.cells #[.slice A n c] 31) := by
  go_enter Tryd.func76, Tryd.ntmps76
  go_wp2_with (fail)
  go_ret
  exact ⟨rfl, rfl⟩
end Go.Proofs.YtjamemjmdlkpcaaDoor
