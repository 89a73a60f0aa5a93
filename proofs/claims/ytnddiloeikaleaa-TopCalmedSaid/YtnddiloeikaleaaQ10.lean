/- Towards the claim of XLawCalmed: Layer 5, for the calm sky: all crews, as the program yields them (as layer 4's orders). Layer 5, for the calm sky: all crews that begin with some boats, as the program yields them. -/
import Derived.Test.YtnddiloeikaleaaQ6
import Derived.RangeFuncNested
import Derived.RangeFuncCalls
import Derived.ArgAppend
import Derived.Deep.RegionLawGrows
import Derived.TacticsInMore
import Derived.OwnWalkIn
import Derived.Deep.RegionHeld3
namespace Go.Proofs.Ytnddiloeikaleaa
open Go.RowKit
open An
open Tc

theorem Sl.wide {α : Type} {enc : α → List Value} {B : Nat} {w W : World} {A : Option Addr} {c : Nat} {xs : List α} (h : Sl enc B w A c xs) [Grew B w W] [hB : Le B W] : Sl enc W.heap.size W A c xs := h.up.more hB.out
/-- W' is W but for blocks of the set S, and for what is new. -/
structure Kep (S : Nat → Prop) (W W' : World) : Prop where
  size : W.heap.size ≤ W'.heap.size
  os : W'.os = W.os
  tape : W'.tape = W.tape
  output : W'.output = W.output
  block : ∀ b, b < W.heap.size → ¬ S b → W'.heap[b]? = W.heap[b]?
theorem Kep.refl (S : Nat → Prop) (W : World) : Kep S W W := ⟨Nat.le_refl _, rfl, rfl, rfl, fun _ _ _ => rfl⟩
theorem Kep.trans {S : Nat → Prop} {A B C : World} (h : Kep S A B) (k : Kep S B C) : Kep S A C :=
  ⟨Nat.le_trans h.size k.size, k.os.trans h.os, k.tape.trans h.tape, k.output.trans h.output, fun b hb hs => (k.block b (Nat.lt_of_lt_of_le hb h.size) hs).trans (h.block b hb hs)⟩
theorem Kep.mono {S S' : Nat → Prop} {A B : World} (h : Kep S A B) (hs : ∀ b, S b → S' b) : Kep S' A B := ⟨h.size, h.os, h.tape, h.output, fun b hb hn => h.block b hb fun hc => hn (hs b hc)⟩
theorem Kep.of_below {S : Nat → Prop} {A B : World} (h : Below A.heap.size A B) : Kep S A B := ⟨h.size, h.os, h.tape, h.output, fun b hb _ => h.block b hb⟩
theorem Kep.lat (S : Nat → Prop) (W δ : World) : Kep S W (lat W δ) := .of_below (lat_below W δ)
theorem Kep.below {S : Nat → Prop} {A B : World} {k : Nat} (h : Kep S A B) (hk : k ≤ A.heap.size) (hs : ∀ b, S b → k ≤ b) : Below k A B :=
  ⟨h.os, h.tape, h.output, h.size, fun b hb => h.block b (by omega) fun hc => by have := hs b hc; omega⟩
theorem Kep.alloc {S : Nat → Prop} {A B : World} (h : Kep S A B) (o : Obj) : Kep S A (B.alloc o) := h.trans (.of_below ((Below.refl _ _).alloc (Nat.le_refl _) _))
theorem Kep.drew {S : Nat → Prop} {A B : World} (h : Kep S A B) : Kep S A B.drew := ⟨h.size, h.os, h.tape, h.output, h.block⟩
theorem Kep.set {S : Nat → Prop} {A B : World} (h : Kep S A B) {b : Nat} (hb : S b) (i : Nat) (u : Value) : Kep S A (B.setCell ⟨b, i, none⟩ u) :=
  ⟨by simpa [World.setCell] using h.size, h.os, h.tape, h.output, fun k hk hs => (Below.heap_setCell B ⟨b, i, none⟩ u k (by rintro rfl; exact hs hb)).trans (h.block k hk hs)⟩
theorem Kep.putObj {S : Nat → Prop} {A B : World} (h : Kep S A B) {b : Nat} (hb : S b) (o : Obj) : Kep S A (B.putObj b o) := by
  refine ⟨?_, h.os, h.tape, h.output, fun k hk hs => (World.putObj_heap_other (by rintro rfl; exact hs hb)).trans (h.block k hk hs)⟩
  have := h.size
  simpa [World.putObj] using this
theorem Kep.cell {S : Nat → Prop} {A B : World} (h : Kep S A B) {b o : Nat} (hb : b < A.heap.size) (hs : ¬ S b) : B.cell? ⟨b, o, none⟩ = A.cell? ⟨b, o, none⟩ := World.cell?_of_block (a := ⟨b, o, none⟩) (h.block b hb hs)
theorem Kep.sl {α : Type} {enc : α → List Value} {S : Nat → Prop} {A B : World} {B0 : Nat} {a : Option Addr} {c : Nat} {xs : List α} (h : Kep S A B) (hS : Sl enc B0 A a c xs) (hB : B0 ≤ A.heap.size) (hs : ∀ p, a = some p → ¬ S p.block) : Sl enc B0 B a c xs := by
  refine ⟨hS.1, hS.2.1, fun hne => ?_⟩
  obtain ⟨b, o, hA, hb, hv⟩ := hS.2.2 hne
  exact ⟨b, o, hA, hb, fun j v hj => (h.cell (Nat.lt_of_lt_of_le hb hB) (hs _ hA)).trans (hv j v hj)⟩
theorem Kep.slB {α : Type} {enc : α → List Value} {S : Nat → Prop} {A B : World} {B0 : Nat} {a : Option Addr} {c : Nat} {xs : List α} (h : Kep S A B) (hS : Sl enc B0 A a c xs) (hB : B0 ≤ A.heap.size) (hs : ∀ b, S b → B0 ≤ b) : Sl enc B0 B a c xs := by
  refine ⟨hS.1, hS.2.1, fun hne => ?_⟩
  obtain ⟨b, o, hA, hb, hv⟩ := hS.2.2 hne
  exact ⟨b, o, hA, hb, fun j v hj => (h.cell (by omega) (fun hc => by have := hs b hc; omega)).trans (hv j v hj)⟩
/-- A list that lies in blocks from lo on. -/
def LiIs (lo : Nat) (v : Value) (l : List Int) (W : World) : Prop := ∃ A c, v = .slice A l.length c ∧ Sl encI W.heap.size W A c l ∧ ∀ p, A = some p → lo ≤ p.block
theorem LiIs.kep {S : Nat → Prop} {lo : Nat} {v : Value} {l : List Int} {W W' : World} (h : LiIs lo v l W) (k : Kep S W W') (hs : ∀ b, S b → b < lo) : LiIs lo v l W' := by
  obtain ⟨A, c, hv, hS, hlo⟩ := h
  exact ⟨A, c, hv, (k.sl hS (Nat.le_refl _) (fun p hp hc => by have := hs _ hc; have := hlo p hp; omega)).more k.size, hlo⟩

/-- An invariant that new blocks do not touch. -/
def Stays {β : Type} (J : β → World → Prop) : Prop := ∀ p W W', J p W → Below W.heap.size W W' → J p W'

/-- How a round of a loop over orders ends, or a call that yields some of them. -/
def RoundPost (S : Nat → Prop) (L : List (List Int)) (pre : List (List Int)) (J Jx : List (List Int) → World → Prop) (W : World) (b : Bool) (W' : World) : Prop :=
  Kep S W W' ∧ (b = true → J (pre ++ L) W') ∧ (b = false → ∃ q, q <+: L ∧ q ≠ [] ∧ Jx (pre ++ q) W')
/-- What the round of a loop over orders says of one order. -/
def RoundOk (P : Program) (lo : Nat) (S : Nat → Prop) (L : List (List Int)) (l : Nat) (J Jx : List (List Int) → World → Prop) : Prop :=
  ∀ (m : Nat) (pre : List (List Int)) (x : List Int) (v : Value) (W : World), pre ++ [x] <+: L → J pre W → LiIs lo v x W →
    YieldAt Fence.wide m P l #[v] W fun e W' => ∃ b, e = .returned (.bool b) ∧ RoundPost S [x] pre J Jx W b W'

/-- append onto a slice that has no room: a new row. -/
theorem step_append_full {P : Program} {W : World} {ops : Array Oper} {o : Oper} {a : Act} {K : Act → World → Prop} {Q : Exit → Act → World → Prop} {E : Prop} {t e : TypeId} {z : Value} {size bytes : Nat} (hT : SlT P t e z size bytes)
    (s x : Operand) (hgd : o.guard = none) (ho : o.op = .call { callee := .builtin .append, args := #[s, x], argTypes := #[t, t] })
    (A : Option Addr) (n : Nat) (olds : List Value) (hs : a.eval s = .slice A n n) (hA : A = none → n = 0) (hlo : olds.length = n * size) (holds : ∀ b, A = some b → ∀ j u, olds[j]? = some u → W.cell? (b.add j) = some u)
    (ad : Addr) (m c : Nat) (news : List Value) (hx : a.eval x = .slice (some ad) m c) (hm : 0 < m) (hn : news.length = m * size) (hc : ∀ j u, news[j]? = some u → W.cell? (ad.add j) = some u) (h1c : ∀ u ∈ news, u.oneCell' = true)
    (h63 : n + m ≤ 1000000) (hbytes : bytes ≤ 1000)
    (hK : ∀ A' c' δ, (lat W δ).ownsRow W.heap.size e size (.slice A' (n + m) c') (n + m) (olds ++ news) → K (a.put o.dst (.slice A' (n + m) c')) (lat W δ)) :
    if Region.wanted o (yielded ops a.tmps) = true then Oper.wp P o a W K Q else E := by
  obtain ⟨i, ht, hi, hz, hsize, hby, hzs, hsz⟩ := hT
  refine step_append_grows hgd s x t ho e i z size bytes ht hi hz hsize hby hzs hsz A n n olds hs (fun h => ⟨hA h, hA h⟩) hlo holds ad m c news hx hn hc h1c (by omega) (by unfold maxLen; omega) (by have := Nat.mul_le_mul h63 hbytes; omega) ?_
  intro v' w' hown hg
  obtain ⟨A', c', rfl⟩ := own_form hown
  have hB : Below W.heap.size W w' := (Below.refl _ _).grown hg (Nat.le_refl _) (fun k e => by cases e)
  have := hK A' c' w'
  rw [lat_of hB] at this
  exact this hown

theorem len_encI (f : List Int) : (f.flatMap encI).length = f.length * 1 := by
  induction f with
  | nil => rfl
  | cons x f ih => simp only [List.flatMap_cons, List.length_append, ih, encI, List.length_cons, List.length_nil]; omega
theorem Sl.holds {α : Type} {enc : α → List Value} {B : Nat} {w : World} {A : Option Addr} {c : Nat} {xs : List α} (h : Sl enc B w A c xs) : ∀ b, A = some b → ∀ j u, (xs.flatMap enc)[j]? = some u → w.cell? (b.add j) = some u := by
  intro b hb j u hj
  obtain ⟨g, o, hA, _, hv⟩ := h.2.2 (fun e => by rw [e] at hj; cases hj)
  rw [hA] at hb
  injection hb with hb
  subst hb
  rw [Addr.add_lit]
  exact hv j u hj
theorem Sl.none0 {B : Nat} {w : World} {A : Option Addr} {c : Nat} {xs : List Int} (h : Sl encI B w A c xs) (hA : A = none) : xs.length = 0 := by
  cases xs with
  | nil => rfl
  | cons x xs =>
    obtain ⟨g, o, hA', _, _⟩ := h.2.2 (by simp [encI])
    rw [hA] at hA'; cases hA'
theorem hc_one {W : World} {g : Nat} {v : Value} (h : W.cell? ⟨g, 0, none⟩ = some v) : ∀ j u, ([v] : List Value)[j]? = some u → W.cell? ((⟨g, 0, none⟩ : Addr).add j) = some u := fun j u hj => by
  cases j with
  | zero => simp at hj; subst hj; simpa [Addr.add_lit] using h
  | succ j => simp at hj
theorem li_of_own {W W' : World} {base lo e c : Nat} {A : Option Addr} {l : List Int} {x : Int} (h : W.ownsRow base e 1 (.slice A (l.length + 1) c) (l.length + 1) (l.flatMap encI ++ [.int .i64 x])) (hlo : lo ≤ base) [g : Grew W.heap.size W W'] [hs : Le W.heap.size W'] : LiIs lo (.slice A (l.length + 1) c) (l ++ [x]) W' := by
  have h2 : W.ownsRow base e 1 (.slice A (l ++ [x]).length c) (l ++ [x]).length ((l ++ [x]).flatMap encI) := by
    rw [List.length_append, List.flatMap_append]; exact h
  obtain ⟨b, rfl, hb, _⟩ := own_at h (by omega)
  refine ⟨_, c, by rw [List.length_append]; rfl, (Sl.of_own h2).wide, fun p hp => ?_⟩
  cases hp
  exact Nat.le_trans hlo hb


/-- The closure's surroundings: the sea, yield, and itself. -/
structure Env (B bp by_ bm l g : Nat) (r : SeaR) (s : Sea) (W : World) : Prop where
  sea : AtSea B g r s W
  p : W.cell? ⟨bp, 0, none⟩ = some (.pointer (some ⟨g, 0, none⟩))
  y : W.cell? ⟨by_, 0, none⟩ = some (.func (.yield l) #[] #[])
  m : W.cell? ⟨bm, 0, none⟩ = some (.func (.func 79) #[] #[.pointer (some ⟨bp, 0, none⟩), .pointer (some ⟨by_, 0, none⟩), .pointer (some ⟨bm, 0, none⟩)])
  lp : bp < W.heap.size
  ly : by_ < W.heap.size
  lm : bm < W.heap.size
theorem AtSea.kep {S : Nat → Prop} {B g : Nat} {r : SeaR} {s : Sea} {W W' : World} (h : AtSea B g r s W) (k : Kep S W W') (hs : ∀ b, S b → B ≤ b ∧ b ≠ g) : AtSea B g r s W' :=
  have hB : B ≤ W.heap.size := by have := h.2.2; have := h.1.lt_; omega
  ⟨(k.block g h.1.lt_ (fun hc => (hs _ hc).2 rfl)).trans h.1, ⟨k.slB h.2.1.1 hB (fun b hb => (hs b hb).1), k.slB h.2.1.2 hB (fun b hb => (hs b hb).1)⟩, h.2.2⟩
theorem Env.kep {S : Nat → Prop} {B bp by_ bm l g : Nat} {r : SeaR} {s : Sea} {W W' : World} (h : Env B bp by_ bm l g r s W) (k : Kep S W W') (hs : ∀ b, S b → B ≤ b ∧ b ≠ g ∧ b ≠ bp ∧ b ≠ by_ ∧ b ≠ bm) : Env B bp by_ bm l g r s W' :=
  ⟨h.sea.kep k (fun b hb => ⟨(hs b hb).1, (hs b hb).2.1⟩), (k.cell h.lp (fun hc => (hs _ hc).2.2.1 rfl)).trans h.p, (k.cell h.ly (fun hc => (hs _ hc).2.2.2.1 rfl)).trans h.y, (k.cell h.lm (fun hc => (hs _ hc).2.2.2.2 rfl)).trans h.m, Nat.lt_of_lt_of_le h.lp k.size, Nat.lt_of_lt_of_le h.ly k.size, Nat.lt_of_lt_of_le h.lm k.size⟩

section
attribute [local go_sem] Oper.semAt_some
set_option maxHeartbeats 1000000 in
theorem crew0_c (s : Sea) (r : SeaR) (B bp by_ bm g lo : Nat) (S : Nat → Prop) (L : List (List Int)) (lp : Nat) (J Jx : List (List Int) → World → Prop) (hY : RoundOk Try.prog lo S L lp J Jx)
    (l : List Int) (v : Value) (pre : List (List Int)) (W : World) (hE : Env B bp by_ bm lp g r s W) (hl : LiIs lo v l W) (hn : l.length = s.places.length) (hL : pre ++ crewsN s 0 l <+: L) (hJ : J pre W) :
    Calls Try.prog 79 #[v, .pointer (some ⟨bp, 0, none⟩), .pointer (some ⟨by_, 0, none⟩), .pointer (some ⟨bm, 0, none⟩)] W fun e W' => ∃ b, e = .returned (.bool b) ∧ RoundPost S (crewsN s 0 l) pre J Jx W b W' := by
  refine (callsIn_wide (n := 3)).1 ?_
  obtain ⟨fn, tmps, assign, body, hy, hR⟩ := hY 2 pre l v W hL hJ hl
  obtain ⟨A, c, rfl, hS, hlo⟩ := hl
  have e0 := hE.p
  have e1 := hE.sea.1.cell (seaC_lo r s s.places.length).2.2.1
  have e2 := hE.y
  have h0 : ((l.length : Int) == (s.places.length : Int)) = true := by simp [hn]
  have hll := hS.len
  clear hn
  refine callsIn_of_wp Try.func79 rfl trivial ?_ rfl
  simp only [Try.ntmps79, List.size_toArray, List.length_cons, List.length_nil, Nat.reduceAdd, Nat.reduceSub, Array.replicate_succ, Array.replicate_zero, List.push_toArray, List.append_toArray, List.nil_append, List.cons_append]
  gi_wp2_with (refine hR.mono ?_; clear hR; rintro e W2 ⟨b, rfl, hP⟩)
  go_ret
  exact ⟨b, rfl, hP⟩
end
end Go.Proofs.Ytnddiloeikaleaa
namespace Go.Proofs.Ytnddiloeikaleaa
open Go.RowKit
open An
open Tc

theorem isIn_not {xs : List Int} {x : Int} : isIn xs x = false ↔ x ∉ xs := by simp [isIn]
theorem index_c (A : Option Addr) (c ln : Nat) (xs : List Int) (x : Int) (B : Nat) (w : World) (h : Sl encI B w A c xs) (hn : xs.length = ln) :
    Calls Try.prog 82 #[.slice A ln c, .int .i64 x] w fun e w' => (∃ n : Int, e = .returned (.int .i64 n) ∧ decide (0 ≤ n) = isIn xs x) ∧ w = w' := by
  subst hn
  have hl := h.len
  go_enter Try.func82, Try.ntmps82
  go_wp2
  go_loop [8] (fun i => ∃ k : Nat, k ≤ xs.length ∧ i = .int .i64 k ∧ Hid (x ∉ xs.take k)) (fun i => xs.length - (intOf i).toNat)
  case atStart => exact ⟨0, Nat.zero_le _, rfl, by simp [Hid]⟩
  case round =>
    obtain ⟨k, hk, rfl, hn⟩ := hrel
    by_cases hlt : k < xs.length
    · obtain ⟨b', o, rfl, hb, hc'⟩ := h.int hlt
      have hm := Lib.hid (nth_mem xs hlt)
      have ht := Lib.hid (take_snoc xs hlt)
      by_cases he : nth xs k = x
      · subst he
        go_wp2
        go_ret
        exact ⟨⟨k, rfl, by simpa [isIn] using hm.out⟩, rfl⟩
      · have he' : (x == nth xs k) = false := by simpa using Ne.symm he
        go_wp2
        go_round
        case rel =>
          refine ⟨k + 1, by omega, by go_num, ?_⟩
          have := hn.out
          unfold Hid
          rw [ht.out]
          simp [this, Ne.symm he]
        case measure => simp [intOf]; omega
    · obtain rfl : k = xs.length := by omega
      go_wp2
      go_ret
      refine ⟨⟨-1, rfl, ?_⟩, rfl⟩
      have := hn.out
      rw [List.take_length] at this
      rw [isIn_not.2 this]; rfl
theorem contains_c (A : Option Addr) (c ln : Nat) (xs : List Int) (x : Int) (b : Bool) (hb : isIn xs x = b) (B : Nat) (w : World) (h : Sl encI B w A c xs) (hn : xs.length = ln) :
    Calls Try.prog 80 #[.slice A ln c, .int .i64 x] w fun e w' => e = .returned (.bool b) ∧ w = w' := by
  subst hb
  go_enter Try.func80, Try.ntmps80
  go_wp2_with (go_at_call 82; refine (index_c _ _ _ xs _ _ _ h hn).mono ?_; rintro e w1 ⟨⟨k, rfl, hk⟩, rfl⟩)
  go_ret
  exact ⟨ret_bool (by simp), rfl⟩


theorem step_append_fullg {P : Program} {W : World} {ops : Array Oper} {o : Oper} {a : Act} {K : Act → World → Prop} {Q : Exit → Act → World → Prop} {E : Prop} {t e : TypeId} {z : Value} {size bytes : Nat} (hT : SlT P t e z size bytes)
    (s x : Operand) (hw : Region.wanted o (yielded ops a.tmps) = true) (ho : o.op = .call { callee := .builtin .append, args := #[s, x], argTypes := #[t, t] })
    (A : Option Addr) (n : Nat) (olds : List Value) (hs : a.eval s = .slice A n n) (hA : A = none → n = 0) (hlo : olds.length = n * size) (holds : ∀ b, A = some b → ∀ j u, olds[j]? = some u → W.cell? (b.add j) = some u)
    (ad : Addr) (m c : Nat) (news : List Value) (hx : a.eval x = .slice (some ad) m c) (hm : 0 < m) (hn : news.length = m * size) (hc : ∀ j u, news[j]? = some u → W.cell? (ad.add j) = some u) (h1c : ∀ u ∈ news, u.oneCell' = true)
    (h63 : n + m ≤ 1000000) (hbytes : bytes ≤ 1000)
    (hK : ∀ A' c' δ, (lat W δ).ownsRow W.heap.size e size (.slice A' (n + m) c') (n + m) (olds ++ news) → K (a.put o.dst (.slice A' (n + m) c')) (lat W δ)) :
    if Region.wanted o (yielded ops a.tmps) = true then Oper.wp P o a W K Q else E := by
  rw [if_pos hw]
  have h := step_append_full (o := { o with guard := none }) (ops := ops) (K := K) (Q := Q) (E := E) hT s x rfl ho A n olds hs hA hlo holds ad m c news hx hm hn hc h1c h63 hbytes hK
  rw [if_pos (by simp [Region.wanted])] at h
  exact h
/-- The crews behind a list, as the first i boats go. -/
def crewsTo (s : Sea) (k : Nat) (l : List Int) (i : Nat) : List (List Int) := (List.range i).flatMap fun (i : Nat) => if (i : Int) ∈ l then [] else crewsN s k (l ++ [(i : Int)])
theorem crewsTo_succ (s : Sea) (k : Nat) (l : List Int) (i : Nat) : crewsTo s k l (i + 1) = crewsTo s k l i ++ if (i : Int) ∈ l then [] else crewsN s k (l ++ [(i : Int)]) := by
  unfold crewsTo; rw [List.range_succ, List.flatMap_append]; simp
theorem crewsTo_pre (s : Sea) (k : Nat) (l : List Int) {i : Nat} (h : i ≤ s.boats.length) : crewsTo s k l i <+: crewsN s (k + 1) l := by
  obtain ⟨m, hm⟩ : ∃ m, s.boats.length = i + m := ⟨s.boats.length - i, by omega⟩
  unfold crewsN crewsTo
  rw [hm, List.range_add, List.flatMap_append]
  exact List.prefix_append _ _
set_option maxRecDepth 100000 in
set_option maxHeartbeats 4000000 in
theorem crew_c (s : Sea) (r : SeaR) (B bp by_ bm g lo : Nat) (S : Nat → Prop) (hS : ∀ b, S b → B ≤ b ∧ b ≠ g ∧ b ≠ bp ∧ b ≠ by_ ∧ b ≠ bm ∧ b < lo) (L : List (List Int)) (lp : Nat) (J Jx : List (List Int) → World → Prop) (hJs : Stays J) (_hJxs : Stays Jx) (hY : RoundOk Try.prog lo S L lp J Jx) (h4 : s.places.length ≤ 4) :
    ∀ (k : Nat) (l : List Int) (v : Value) (pre : List (List Int)) (W : World), Env B bp by_ bm lp g r s W → lo ≤ W.heap.size → LiIs lo v l W → l.length + k = s.places.length → pre ++ crewsN s k l <+: L → J pre W →
    Calls Try.prog 79 #[v, .pointer (some ⟨bp, 0, none⟩), .pointer (some ⟨by_, 0, none⟩), .pointer (some ⟨bm, 0, none⟩)] W fun e W' => ∃ b, e = .returned (.bool b) ∧ RoundPost S (crewsN s k l) pre J Jx W b W' := by
  intro k
  induction k with
  | zero => intro l v pre W hE _ hl hn hL hJ; exact crew0_c s r B bp by_ bm g lo S L lp J Jx hY l v pre W hE hl (by simpa using hn) hL hJ
  | succ k IH =>
    intro l v pre W hE hloW hl hn hL hJ
    obtain ⟨A, c, rfl, hSl, hlo⟩ := hl
    have e0 := hE.p
    have e1 := hE.sea.1.cell (seaC_lo r s s.places.length).2.2.1
    have e3 := hE.sea.1.cell (seaC_lo r s s.places.length).2.2.2
    have h0 : ((l.length : Int) == (s.places.length : Int)) = false := by simp; omega
    have hll := hSl.len
    have hbl := hE.sea.2.1.2.len
    have hkc : l.length ≤ c := hSl.1
    have HIH := Lib.hid IH
    have HE := Lib.hid hE
    have HS := Lib.hid hS
    have HJ := Lib.hid hJs
    have HL := Lib.hid hL
    have HLo := Lib.hid hlo
    have HSl := Lib.hid hSl
    have HN := Lib.hid hn
    have HJ0 := Lib.hid hJ
    clear IH hE hS hJs hL hlo hSl hn hJ hY
    go_enter Try.func79, Try.ntmps79
    go_wp2_with (fail)
    go_loopw [6, 25] (fun z i wr => ∃ j : Nat, j ≤ s.boats.length ∧ i = .int .i64 j ∧ Hid (J (pre ++ crewsTo s k l j) wr) ∧ Kep S W wr) (fun _ i _ => s.boats.length - (intOf i).toNat)
    case atStart => exact ⟨0, Nat.zero_le _, rfl, by unfold Hid crewsTo; simpa using HJ0.out, Kep.refl _ _⟩
    case round =>
      obtain ⟨j, hj, rfl, hJr, hK⟩ := hrel
      have E1 := HE.out.kep hK (fun b hb => ⟨(HS.out b hb).1, (HS.out b hb).2.1, (HS.out b hb).2.2.1, (HS.out b hb).2.2.2.1, (HS.out b hb).2.2.2.2.1⟩)
      have p0 := E1.p
      have pm := E1.m
      have i1 : Lt bp wr := ⟨E1.lp⟩
      have i2 : Lt bm wr := ⟨E1.lm⟩
      have i4 : Lt by_ wr := ⟨E1.ly⟩
      have S1 : Sl encI wr.heap.size wr A c l := (hK.sl HSl.out (Nat.le_refl _) (fun p hp hc => by have := (HS.out _ hc).2.2.2.2.2; have := HLo.out p hp; omega)).more hK.size
      have HE1 := Lib.hid E1
      clear E1
      by_cases hlt : j < s.boats.length
      · have hsucc := Lib.hid (crewsTo_succ s k l j)
        have hpre := Lib.hid (crewsTo_pre s k l (show j + 1 ≤ s.boats.length from hlt))
        by_cases h1 : (j : Int) ∈ l
        · have HI : Hid (isIn l (j : Int) = true) := Lib.hid (by simp [isIn, h1])
          have HM := Lib.hid h1
          clear h1
          have HS1 := Lib.hid S1
          go_wp2_with (fail)
          refine wp_region_lat (by kernel_rfl) (by kernel_rfl) ?_
          repeat (go_big_quiet_step ((first | (go_at_call 80; exact Calls.lat_same (contains_c _ _ _ l _ _ HI.out _ _ HS1.out.up rfl)))))
          refine wpQuiet_nil ?_
          rintro _ ⟨δq, rfl⟩
          go_wp2
          go_roundw
          case rel =>
            refine ⟨j + 1, hlt, by go_num, ?_, hK.trans (Kep.lat _ _ _)⟩
            unfold Hid
            rw [hsucc.out, if_pos HM.out]
            simpa using HJ.out _ _ _ hJr.out (lat_below _ _)
          case measure => simp [intOf]; omega
        · have HI : Hid (isIn l (j : Int) = false) := Lib.hid (isIn_not.2 h1)
          have HM := Lib.hid h1
          clear h1
          have hcI : (l.length : Int) ≤ (c : Int) := by omega
          have hl0 : (0 : Int) ≤ (l.length : Int) := by omega
          have hl6 : l.length ≤ 6 := by have := HN.out; omega
          have hloR : lo ≤ wr.heap.size := Nat.le_trans hloW hK.size
          have hpreL : Hid ((pre ++ crewsTo s k l j) ++ crewsN s k (l ++ [(j : Int)]) <+: L) := by
            refine List.IsPrefix.trans ?_ HL.out
            rw [List.append_assoc]
            refine (List.prefix_append_right_inj _).2 ?_
            have := hsucc.out
            rw [if_neg HM.out] at this
            rw [← this]
            exact hpre.out
          have HS1 := Lib.hid S1
          go_wp2_with (fail)
          go_region_held3 (fun W => W.cell? ⟨bm, 0, none⟩ = some (.func (.func 79) #[] #[.pointer (some ⟨bp, 0, none⟩), .pointer (some ⟨by_, 0, none⟩), .pointer (some ⟨bm, 0, none⟩)]))
            (go_simp)
            (first
              | (go_at_call 80; refine (contains_c _ _ _ l _ _ HI.out _ _ HS1.out.up rfl).mono ?_; rintro e w1 ⟨rfl, rfl⟩)
              | (refine step_append_fullg slI (.tmp 39) (.tmp 41) (by first | rfl | (simp [Region.wanted, yielded]; done)) rfl A l.length (l.flatMap encI) rfl S1.none0 (len_encI l) (Sl.holds HS1.out.up) _ 1 1 [.int .i64 (j : Int)] rfl (by omega) rfl (hc_one (by go_simp)) (by simp [Value.oneCell']) (by omega) (by omega) ?_; intro A1 c1 δ1 own1)
              | (go_at_call 79; refine (HIH.out (l ++ [(j : Int)]) _ (pre ++ crewsTo s k l j) _ (HE1.out.kep (S := fun _ => False) (Kep.of_below grew_below) (fun _ h => h.elim)) (Nat.le_trans hloR (le_inst' _ _)) (li_of_own own1 (Nat.le_trans hloR (le_inst' _ _))) (by have := HN.out; simp; omega) hpreL.out (HJ.out _ _ _ hJr.out grew_below)).mono ?_; rintro e w1 ⟨b, rfl, hP⟩; have hbm : w1.cell? ⟨bm, 0, none⟩ = some (.func (.func 79) #[] #[.pointer (some ⟨bp, 0, none⟩), .pointer (some ⟨by_, 0, none⟩), .pointer (some ⟨bm, 0, none⟩)]) := (hP.1.cell (b := bm) (o := 0) (by go_simp) (fun hc => (HS.out bm hc).2.2.2.2.1 rfl)).trans (by go_simp)))
          cases b
          · go_wp2_with (fail)
            go_ret
            obtain ⟨q, hq, hq0, hx⟩ := hP.2.2 rfl
            refine ⟨false, rfl, hK.trans ((Kep.of_below (A := wr) grew_below).trans hP.1), (fun h => by cases h), fun _ => ⟨crewsTo s k l j ++ q, ?_, by simp [hq0], by rw [← List.append_assoc]; exact hx⟩⟩
            refine List.IsPrefix.trans ?_ hpre.out
            rw [hsucc.out, if_neg HM.out]
            exact (List.prefix_append_right_inj _).2 hq
          · go_wp2_with (fail)
            go_roundw
            case rel =>
              refine ⟨j + 1, hlt, by go_num, ?_, hK.trans ((Kep.of_below (A := wr) grew_below).trans hP.1)⟩
              unfold Hid
              rw [hsucc.out, if_neg HM.out, ← List.append_assoc]
              exact hP.2.1 rfl
            case measure => simp [intOf]; omega
      · obtain rfl : j = s.boats.length := by omega
        go_wp2_with (fail)
        go_ret
        refine ⟨true, rfl, hK, fun _ => hJr.out, fun h => by cases h⟩
end Go.Proofs.Ytnddiloeikaleaa
