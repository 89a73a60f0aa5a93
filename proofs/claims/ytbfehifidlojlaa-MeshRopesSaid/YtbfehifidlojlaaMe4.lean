/- Layer 4: all orders, as the program yields them: the laws of a range over them. -/
import Derived.Test.YtbfehifidlojlaaMe3
import Derived.RangeFuncNested
import Derived.RangeFuncCalls
import Derived.ArgAppend
import Derived.Deep.RegionLawGrows
import Derived.TacticsInMore
import Derived.OwnWalkIn
import Derived.Deep.RegionHeld3
namespace Go.Proofs.Ytbfehifidlojlaa
open Go.RowKit
open Me

/-- W' is W but for blocks of the set S, and for what is new. -/
structure Kep (S : Nat → Prop) (W W' : World) : Prop where
  size : W.heap.size ≤ W'.heap.size
  os : W'.os = W.os
  tape : W'.tape = W.tape
  output : W'.output = W.output
  block : ∀ b, b < W.heap.size → ¬ S b → W'.heap[b]? = W.heap[b]?
theorem Kep.refl (S : Nat → Prop) (W : World) : Kep S W W := ⟨Nat.le_refl _, rfl, rfl, rfl, fun _ _ _ => rfl⟩
theorem Kep.trans {S : Nat → Prop} {A B C : World} (h : Kep S A B) (k : Kep S B C) : Kep S A C :=
  ⟨Nat.le_trans h.size k.size, k.os.trans h.os, k.tape.trans h.tape, k.output.trans h.output, fun b hb hs => (k.block b (Nat.lt_of_lt_of_le hb h.size) hs).trans (h.block b hb hs)⟩
theorem Kep.mono {S S' : Nat → Prop} {A B : World} (h : Kep S A B) (hs : ∀ b, S b → S' b) : Kep S' A B := ⟨h.size, h.os, h.tape, h.output, fun b hb hn => h.block b hb fun hc => hn (hs b hc)⟩
theorem Kep.of_below {S : Nat → Prop} {A B : World} (h : Below A.heap.size A B) : Kep S A B := ⟨h.size, h.os, h.tape, h.output, fun b hb _ => h.block b hb⟩
theorem Kep.lat (S : Nat → Prop) (W δ : World) : Kep S W (lat W δ) := .of_below (lat_below W δ)
theorem Kep.below {S : Nat → Prop} {A B : World} {k : Nat} (h : Kep S A B) (hk : k ≤ A.heap.size) (hs : ∀ b, S b → k ≤ b) : Below k A B :=
  ⟨h.os, h.tape, h.output, h.size, fun b hb => h.block b (by omega) fun hc => by have := hs b hc; omega⟩
theorem Kep.alloc {S : Nat → Prop} {A B : World} (h : Kep S A B) (o : Obj) : Kep S A (B.alloc o) := h.trans (.of_below ((Below.refl _ _).alloc (Nat.le_refl _) _))
theorem Kep.drew {S : Nat → Prop} {A B : World} (h : Kep S A B) : Kep S A B.drew := ⟨h.size, h.os, h.tape, h.output, h.block⟩
theorem Kep.set {S : Nat → Prop} {A B : World} (h : Kep S A B) {b : Nat} (hb : S b) (i : Nat) (u : Value) : Kep S A (B.setCell ⟨b, i, none⟩ u) :=
  ⟨by simpa [World.setCell] using h.size, h.os, h.tape, h.output, fun k hk hs => (Below.heap_setCell B ⟨b, i, none⟩ u k (by rintro rfl; exact hs hb)).trans (h.block k hk hs)⟩
theorem Kep.putObj {S : Nat → Prop} {A B : World} (h : Kep S A B) {b : Nat} (hb : S b) (o : Obj) : Kep S A (B.putObj b o) := by
  refine ⟨?_, h.os, h.tape, h.output, fun k hk hs => (World.putObj_heap_other (by rintro rfl; exact hs hb)).trans (h.block k hk hs)⟩
  have := h.size
  simpa [World.putObj] using this
theorem Kep.cell {S : Nat → Prop} {A B : World} (h : Kep S A B) {b o : Nat} (hb : b < A.heap.size) (hs : ¬ S b) : B.cell? ⟨b, o, none⟩ = A.cell? ⟨b, o, none⟩ := World.cell?_of_block (a := ⟨b, o, none⟩) (h.block b hb hs)
theorem Kep.sl {α : Type} {enc : α → List Value} {S : Nat → Prop} {A B : World} {B0 : Nat} {a : Option Addr} {c : Nat} {xs : List α} (h : Kep S A B) (hS : Sl enc B0 A a c xs) (hB : B0 ≤ A.heap.size) (hs : ∀ p, a = some p → ¬ S p.block) : Sl enc B0 B a c xs := by
  refine ⟨hS.1, hS.2.1, fun hne => ?_⟩
  obtain ⟨b, o, hA, hb, hv⟩ := hS.2.2 hne
  exact ⟨b, o, hA, hb, fun j v hj => (h.cell (Nat.lt_of_lt_of_le hb hB) (hs _ hA)).trans (hv j v hj)⟩
theorem Kep.slB {α : Type} {enc : α → List Value} {S : Nat → Prop} {A B : World} {B0 : Nat} {a : Option Addr} {c : Nat} {xs : List α} (h : Kep S A B) (hS : Sl enc B0 A a c xs) (hB : B0 ≤ A.heap.size) (hs : ∀ b, S b → B0 ≤ b) : Sl enc B0 B a c xs := by
  refine ⟨hS.1, hS.2.1, fun hne => ?_⟩
  obtain ⟨b, o, hA, hb, hv⟩ := hS.2.2 hne
  exact ⟨b, o, hA, hb, fun j v hj => (h.cell (by omega) (fun hc => by have := hs b hc; omega)).trans (hv j v hj)⟩
theorem Kep.net {S : Nat → Prop} {A B : World} {B0 : Nat} {r : NetR} {n : Net} (h : Kep S A B) (hN : NetIs B0 A r n) (hB : B0 ≤ A.heap.size) (hs : ∀ b, S b → B0 ≤ b) : NetIs B0 B r n := ⟨h.slB hN.1 hB hs, h.slB hN.2 hB hs⟩

/-- A list that lies in blocks from lo on. -/
def LiIs (lo : Nat) (v : Value) (l : List Int) (W : World) : Prop := ∃ A c, v = .slice A l.length c ∧ Sl encI W.heap.size W A c l ∧ ∀ p, A = some p → lo ≤ p.block
theorem LiIs.kep {S : Nat → Prop} {lo : Nat} {v : Value} {l : List Int} {W W' : World} (h : LiIs lo v l W) (k : Kep S W W') (hs : ∀ b, S b → b < lo) : LiIs lo v l W' := by
  obtain ⟨A, c, hv, hS, hlo⟩ := h
  exact ⟨A, c, hv, (k.sl hS (Nat.le_refl _) (fun p hp hc => by have := hs _ hc; have := hlo p hp; omega)).more k.size, hlo⟩

/-- An invariant that new blocks do not touch. -/
def Stays {β : Type} (J : β → World → Prop) : Prop := ∀ p W W', J p W → Below W.heap.size W W' → J p W'

/-- How a round of a loop over orders ends, or a call that yields some of them. -/
def RoundPost (S : Nat → Prop) (L : List (List Int)) (pre : List (List Int)) (J Jx : List (List Int) → World → Prop) (W : World) (b : Bool) (W' : World) : Prop :=
  Kep S W W' ∧ (b = true → J (pre ++ L) W') ∧ (b = false → ∃ q, q <+: L ∧ q ≠ [] ∧ Jx (pre ++ q) W')
/-- What the round of a loop over orders says of one order. -/
def RoundOk (P : Program) (lo : Nat) (S : Nat → Prop) (L : List (List Int)) (l : Nat) (J Jx : List (List Int) → World → Prop) : Prop :=
  ∀ (m : Nat) (pre : List (List Int)) (x : List Int) (v : Value) (W : World), pre ++ [x] <+: L → J pre W → LiIs lo v x W →
    YieldAt Fence.wide m P l #[v] W fun e W' => ∃ b, e = .returned (.bool b) ∧ RoundPost S [x] pre J Jx W b W'

/-! ### The function that makes the lists longer -/
/-- The closure's surroundings: the net, yield, and itself. -/
structure Env (B bp by_ bm l : Nat) (r : NetR) (n : Net) (W : World) : Prop where
  net : NetIs B W r n
  le : B ≤ W.heap.size
  p0 : W.cell? ⟨bp, 0, none⟩ = some (.int .i64 n.m)
  p1 : W.cell? ⟨bp, 1, none⟩ = some (.slice r.hA n.hs.length r.hc)
  p2 : W.cell? ⟨bp, 2, none⟩ = some (.slice r.pA n.ps.length r.pc)
  y : W.cell? ⟨by_, 0, none⟩ = some (.func (.yield l) #[] #[])
  m : W.cell? ⟨bm, 0, none⟩ = some (.func (.func 103) #[] #[.pointer (some ⟨bp, 0, none⟩), .pointer (some ⟨by_, 0, none⟩), .pointer (some ⟨bm, 0, none⟩)])
  lp : bp < W.heap.size
  ly : by_ < W.heap.size
  lm : bm < W.heap.size
theorem Env.kep {S : Nat → Prop} {B bp by_ bm l : Nat} {r : NetR} {n : Net} {W W' : World} (h : Env B bp by_ bm l r n W) (k : Kep S W W') (hs : ∀ b, S b → B ≤ b ∧ b ≠ bp ∧ b ≠ by_ ∧ b ≠ bm) : Env B bp by_ bm l r n W' :=
  ⟨k.net h.net h.le (fun b hb => (hs b hb).1), Nat.le_trans h.le k.size, (k.cell h.lp (fun hc => (hs _ hc).2.1 rfl)).trans h.p0, (k.cell h.lp (fun hc => (hs _ hc).2.1 rfl)).trans h.p1, (k.cell h.lp (fun hc => (hs _ hc).2.1 rfl)).trans h.p2,
    (k.cell h.ly (fun hc => (hs _ hc).2.2.1 rfl)).trans h.y, (k.cell h.lm (fun hc => (hs _ hc).2.2.2 rfl)).trans h.m, Nat.lt_of_lt_of_le h.lp k.size, Nat.lt_of_lt_of_le h.ly k.size, Nat.lt_of_lt_of_le h.lm k.size⟩

section
attribute [local go_sem] Oper.semAt_some
set_option maxHeartbeats 1000000 in
theorem more0_c (n : Net) (r : NetR) (B bp by_ bm lo : Nat) (S : Nat → Prop) (L : List (List Int)) (lp : Nat) (J Jx : List (List Int) → World → Prop) (hY : RoundOk Try.prog lo S L lp J Jx)
    (l : List Int) (v : Value) (pre : List (List Int)) (W : World) (hE : Env B bp by_ bm lp r n W) (hl : LiIs lo v l W) (hn : l.length = n.hs.length) (hL : pre ++ ords n 0 l <+: L) (hJ : J pre W) :
    Calls Try.prog 103 #[v, .pointer (some ⟨bp, 0, none⟩), .pointer (some ⟨by_, 0, none⟩), .pointer (some ⟨bm, 0, none⟩)] W fun e W' => ∃ b, e = .returned (.bool b) ∧ RoundPost S (ords n 0 l) pre J Jx W b W' := by
  refine (callsIn_wide (n := 3)).1 ?_
  obtain ⟨fn, tmps, assign, body, hy, hR⟩ := hY 2 pre l v W hL hJ hl
  obtain ⟨A, c, rfl, hS, hlo⟩ := hl
  have e1 := hE.p1
  have e2 := hE.y
  have h0 : ((l.length : Int) == (n.hs.length : Int)) = true := by simp [hn]
  have hll := hS.len
  clear hn
  refine callsIn_of_wp Try.func103 rfl trivial ?_ rfl
  simp only [Try.ntmps103, List.size_toArray, List.length_cons, List.length_nil, Nat.reduceAdd, Nat.reduceSub, Array.replicate_succ, Array.replicate_zero, List.push_toArray, List.append_toArray, List.nil_append, List.cons_append]
  gi_wp2_with (refine hR.mono ?_; clear hR; rintro e W2 ⟨b, rfl, hP⟩)
  go_ret
  exact ⟨b, rfl, hP⟩
end

/-- append onto a slice that has no room: a new row. -/
theorem step_append_full {P : Program} {W : World} {ops : Array Oper} {o : Oper} {a : Act} {K : Act → World → Prop} {Q : Exit → Act → World → Prop} {E : Prop} {t e : TypeId} {z : Value} {size bytes : Nat} (hT : SlT P t e z size bytes)
    (s x : Operand) (hgd : o.guard = none) (ho : o.op = .call { callee := .builtin .append, args := #[s, x], argTypes := #[t, t] })
    (A : Option Addr) (n : Nat) (olds : List Value) (hs : a.eval s = .slice A n n) (hA : A = none → n = 0) (hlo : olds.length = n * size) (holds : ∀ b, A = some b → ∀ j u, olds[j]? = some u → W.cell? (b.add j) = some u)
    (ad : Addr) (m c : Nat) (news : List Value) (hx : a.eval x = .slice (some ad) m c) (hm : 0 < m) (hn : news.length = m * size) (hc : ∀ j u, news[j]? = some u → W.cell? (ad.add j) = some u) (h1c : ∀ u ∈ news, u.oneCell' = true)
    (h63 : n + m ≤ 1000000) (hbytes : bytes ≤ 1000)
    (hK : ∀ A' c' δ, (lat W δ).ownsRow W.heap.size e size (.slice A' (n + m) c') (n + m) (olds ++ news) → K (a.put o.dst (.slice A' (n + m) c')) (lat W δ)) :
    if Region.wanted o (yielded ops a.tmps) = true then Oper.wp P o a W K Q else E := by
  obtain ⟨i, ht, hi, hz, hsize, hby, hzs, hsz⟩ := hT
  refine step_append_grows hgd s x t ho e i z size bytes ht hi hz hsize hby hzs hsz A n n olds hs (fun h => ⟨hA h, hA h⟩) hlo holds ad m c news hx hn hc h1c (by omega) (by unfold maxLen; omega) (by have := Nat.mul_le_mul h63 hbytes; omega) ?_
  intro v' w' hown hg
  obtain ⟨A', c', rfl⟩ := own_form hown
  have hB : Below W.heap.size W w' := (Below.refl _ _).grown hg (Nat.le_refl _) (fun k e => by cases e)
  have := hK A' c' w'
  rw [lat_of hB] at this
  exact this hown

theorem slI : SlT Try.prog 30 3 (.int .i64 0) 1 8 := SlT.mk Try.underlying30 (by kernel_rfl) rfl (by omega)

/-- The orders behind a list, as the first i holes go. -/
def ordsTo (n : Net) (k : Nat) (l : List Int) (i : Nat) : List (List Int) := (List.range i).flatMap fun (i : Nat) => if may n l (i : Int) = true then ords n k (l ++ [(i : Int)]) else []
theorem ordsTo_succ (n : Net) (k : Nat) (l : List Int) (i : Nat) : ordsTo n k l (i + 1) = ordsTo n k l i ++ if may n l (i : Int) = true then ords n k (l ++ [(i : Int)]) else [] := by
  unfold ordsTo; rw [List.range_succ, List.flatMap_append]; simp
theorem ordsTo_pre (n : Net) (k : Nat) (l : List Int) {i : Nat} (h : i ≤ n.hs.length) : ordsTo n k l i <+: ords n (k + 1) l := by
  obtain ⟨m, hm⟩ : ∃ m, n.hs.length = i + m := ⟨n.hs.length - i, by omega⟩
  unfold ords ordsTo
  rw [hm, List.range_add, List.flatMap_append]
  exact List.prefix_append _ _

theorem len_encI (f : List Int) : (f.flatMap encI).length = f.length * 1 := by
  induction f with
  | nil => rfl
  | cons x f ih => simp only [List.flatMap_cons, List.length_append, ih, encI, List.length_cons, List.length_nil]; omega
theorem Sl.holds {α : Type} {enc : α → List Value} {B : Nat} {w : World} {A : Option Addr} {c : Nat} {xs : List α} (h : Sl enc B w A c xs) : ∀ b, A = some b → ∀ j u, (xs.flatMap enc)[j]? = some u → w.cell? (b.add j) = some u := by
  intro b hb j u hj
  obtain ⟨g, o, hA, _, hv⟩ := h.2.2 (fun e => by rw [e] at hj; cases hj)
  rw [hA] at hb
  injection hb with hb
  subst hb
  rw [Addr.add_lit]
  exact hv j u hj
theorem Sl.none0 {B : Nat} {w : World} {A : Option Addr} {c : Nat} {xs : List Int} (h : Sl encI B w A c xs) (hA : A = none) : xs.length = 0 := by
  cases xs with
  | nil => rfl
  | cons x xs =>
    obtain ⟨g, o, hA', _, _⟩ := h.2.2 (by simp [encI])
    rw [hA] at hA'; cases hA'
theorem hc_one {W : World} {g : Nat} {v : Value} (h : W.cell? ⟨g, 0, none⟩ = some v) : ∀ j u, ([v] : List Value)[j]? = some u → W.cell? ((⟨g, 0, none⟩ : Addr).add j) = some u := fun j u hj => by
  cases j with
  | zero => simp at hj; subst hj; simpa [Addr.add_lit] using h
  | succ j => simp at hj
theorem li_of_own {W W' : World} {base lo e c : Nat} {A : Option Addr} {l : List Int} {x : Int} (h : W.ownsRow base e 1 (.slice A (l.length + 1) c) (l.length + 1) (l.flatMap encI ++ [.int .i64 x])) (hlo : lo ≤ base) [g : Grew W.heap.size W W'] [hs : Le W.heap.size W'] : LiIs lo (.slice A (l.length + 1) c) (l ++ [x]) W' := by
  have h2 : W.ownsRow base e 1 (.slice A (l ++ [x]).length c) (l ++ [x]).length ((l ++ [x]).flatMap encI) := by
    rw [List.length_append, List.flatMap_append]; exact h
  obtain ⟨b, rfl, hb, _⟩ := own_at h (by omega)
  refine ⟨_, c, by rw [List.length_append]; rfl, (Sl.of_own h2).wide, fun p hp => ?_⟩
  cases hp
  exact Nat.le_trans hlo hb

set_option maxRecDepth 100000 in
set_option maxHeartbeats 4000000 in
theorem more_c (n : Net) (r : NetR) (B bp by_ bm lo : Nat) (S : Nat → Prop) (hS : ∀ b, S b → B ≤ b ∧ b ≠ bp ∧ b ≠ by_ ∧ b ≠ bm ∧ b < lo) (L : List (List Int)) (lp : Nat) (J Jx : List (List Int) → World → Prop) (hJs : Stays J) (hJxs : Stays Jx) (hY : RoundOk Try.prog lo S L lp J Jx) (h6 : n.hs.length ≤ 6) :
    ∀ (k : Nat) (l : List Int) (v : Value) (pre : List (List Int)) (W : World), Env B bp by_ bm lp r n W → lo ≤ W.heap.size → LiIs lo v l W → l.length + k = n.hs.length → pre ++ ords n k l <+: L → J pre W →
    Calls Try.prog 103 #[v, .pointer (some ⟨bp, 0, none⟩), .pointer (some ⟨by_, 0, none⟩), .pointer (some ⟨bm, 0, none⟩)] W fun e W' => ∃ b, e = .returned (.bool b) ∧ RoundPost S (ords n k l) pre J Jx W b W' := by
  intro k
  induction k with
  | zero => intro l v pre W hE _ hl hn hL hJ; exact more0_c n r B bp by_ bm lo S L lp J Jx hY l v pre W hE hl (by simpa using hn) hL hJ
  | succ k IH =>
    intro l v pre W hE hloW hl hn hL hJ
    obtain ⟨A, c, rfl, hSl, hlo⟩ := hl
    have e1 := hE.p1
    have h0 : ((l.length : Int) == (n.hs.length : Int)) = false := by simp; omega
    have hll := hSl.len
    have hkc : l.length ≤ c := hSl.1
    have HIH := Lib.hid IH
    have HE := Lib.hid hE
    have HS := Lib.hid hS
    have HJ := Lib.hid hJs
    have HL := Lib.hid hL
    have HLo := Lib.hid hlo
    have HSl := Lib.hid hSl
    have HN := Lib.hid hn
    have HJ0 := Lib.hid hJ
    clear IH hE hS hJs hL hlo hSl hn hJ hY
    go_enter Try.func103, Try.ntmps103
    go_wp2_with (fail)
    go_loopw [21] (fun i wr => ∃ j : Nat, j ≤ n.hs.length ∧ i = .int .i64 j ∧ Hid (J (pre ++ ordsTo n k l j) wr) ∧ Kep S W wr) (fun i _ => n.hs.length - (intOf i).toNat)
    case atStart => exact ⟨0, Nat.zero_le _, rfl, by unfold Hid ordsTo; simpa using HJ0.out, Kep.refl _ _⟩
    case round =>
      obtain ⟨j, hj, rfl, hJr, hK⟩ := hrel
      have E1 := HE.out.kep hK (fun b hb => ⟨(HS.out b hb).1, (HS.out b hb).2.1, (HS.out b hb).2.2.1, (HS.out b hb).2.2.2.1⟩)
      have p0 := E1.p0
      have p1 := E1.p1
      have p2 := E1.p2
      have pm := E1.m
      have i1 : Lt bp wr := ⟨E1.lp⟩
      have i2 : Lt bm wr := ⟨E1.lm⟩
      have i3 : Le B wr := ⟨E1.le⟩
      have i4 : Lt by_ wr := ⟨E1.ly⟩
      have S1 : Sl encI wr.heap.size wr A c l := (hK.sl HSl.out (Nat.le_refl _) (fun p hp hc => by have := (HS.out _ hc).2.2.2.2; have := HLo.out p hp; omega)).more hK.size
      have HE1 := Lib.hid E1
      clear E1
      by_cases hlt : j < n.hs.length
      · have hsucc := Lib.hid (ordsTo_succ n k l j)
        have hpre := Lib.hid (ordsTo_pre n k l hlt)
        by_cases h1 : isIn l (j : Int) = true
        · have HM := Lib.hid (show may n l (j : Int) = false by unfold may; rw [h1]; rfl)
          have HI := Lib.hid h1
          clear h1
          go_wp2_with (go_at_call 97; refine (contains_c _ _ _ l _ _ HI.out wr.heap.size _ S1 rfl).mono ?_; rintro e w1 ⟨rfl, rfl⟩)
          go_roundw
          case rel =>
            refine ⟨j + 1, hlt, by go_num, ?_, hK⟩
            unfold Hid
            rw [hsucc.out, HM.out]
            simpa using hJr.out
          case measure => simp [intOf]; omega
        · rw [Bool.not_eq_true] at h1
          have HI := Lib.hid h1
          by_cases h2 : rdy n.ps l (j : Int) = true
          · have HM := Lib.hid (show may n l (j : Int) = true by unfold may; rw [h1, h2]; rfl)
            have HR := Lib.hid h2
            clear h1 h2
            have hcI : (l.length : Int) ≤ (c : Int) := by omega
            have hl0 : (0 : Int) ≤ (l.length : Int) := by omega
            have hl6 : l.length ≤ 6 := by have := HN.out; omega
            have hloR : lo ≤ wr.heap.size := Nat.le_trans hloW hK.size
            have hpreL : Hid ((pre ++ ordsTo n k l j) ++ ords n k (l ++ [(j : Int)]) <+: L) := by
              refine List.IsPrefix.trans ?_ HL.out
              rw [List.append_assoc]
              refine (List.prefix_append_right_inj _).2 ?_
              have := hsucc.out
              rw [HM.out, if_pos rfl] at this
              rw [← this]
              exact hpre.out
            go_wp2_with (first | (go_at_call 97; refine (contains_c _ _ _ l _ _ HI.out wr.heap.size _ S1 rfl).mono ?_; rintro e w1 ⟨rfl, rfl⟩) | (go_at_call 98; refine (ready_c r n _ _ _ _ l _ HR.out wr.heap.size _ S1 (HE1.out.net.more HE1.out.le) rfl).mono ?_; rintro e w1 ⟨rfl, δ, rfl⟩))
            go_goals
            go_region_held3 (fun W => W.cell? ⟨bm, 0, none⟩ = some (.func (.func 103) #[] #[.pointer (some ⟨bp, 0, none⟩), .pointer (some ⟨by_, 0, none⟩), .pointer (some ⟨bm, 0, none⟩)]))
              (go_simp)
              (first
                | (refine step_append_full slI (.tmp 40) (.tmp 42) rfl rfl A l.length (l.flatMap encI) rfl S1.none0 (len_encI l) (Sl.holds S1.up) _ 1 1 [.int .i64 (j : Int)] rfl (by omega) rfl (hc_one (by go_simp)) (by simp [Value.oneCell']) (by omega) (by omega) ?_; intro A1 c1 δ1 own1)
                | (go_at_call 103; refine (HIH.out (l ++ [(j : Int)]) _ (pre ++ ordsTo n k l j) _ (HE1.out.kep (S := fun _ => False) (Kep.of_below grew_below) (fun _ h => h.elim)) (Nat.le_trans hloR (le_inst' _ _)) (li_of_own own1 (Nat.le_trans hloR (le_inst' _ _))) (by have := HN.out; simp; omega) hpreL.out (HJ.out _ _ _ hJr.out grew_below)).mono ?_; rintro e w1 ⟨b, rfl, hP⟩; have hbm : w1.cell? ⟨bm, 0, none⟩ = some (.func (.func 103) #[] #[.pointer (some ⟨bp, 0, none⟩), .pointer (some ⟨by_, 0, none⟩), .pointer (some ⟨bm, 0, none⟩)]) := (hP.1.cell (b := bm) (o := 0) (by go_simp) (fun hc => (HS.out bm hc).2.2.2.1 rfl)).trans (by go_simp)))
            cases b
            · go_wp2_with (fail)
              go_ret
              obtain ⟨q, hq, hq0, hx⟩ := hP.2.2 rfl
              refine ⟨false, rfl, hK.trans ((Kep.of_below (A := wr) grew_below).trans hP.1), (fun h => by cases h), fun _ => ⟨ordsTo n k l j ++ q, ?_, by simp [hq0], by rw [← List.append_assoc]; exact hx⟩⟩
              refine List.IsPrefix.trans ?_ hpre.out
              rw [hsucc.out, HM.out, if_pos rfl]
              exact (List.prefix_append_right_inj _).2 hq
            · go_wp2_with (fail)
              go_roundw
              case rel =>
                refine ⟨j + 1, hlt, by go_num, ?_, hK.trans ((Kep.of_below (A := wr) grew_below).trans hP.1)⟩
                unfold Hid
                rw [hsucc.out, HM.out, if_pos rfl, ← List.append_assoc]
                exact hP.2.1 rfl
              case measure => simp [intOf]; omega
          · rw [Bool.not_eq_true] at h2
            have HM := Lib.hid (show may n l (j : Int) = false by unfold may; rw [h2]; simp)
            have HR := Lib.hid h2
            clear h1 h2
            go_wp2_with (first | (go_at_call 97; refine (contains_c _ _ _ l _ _ HI.out wr.heap.size _ S1 rfl).mono ?_; rintro e w1 ⟨rfl, rfl⟩) | (go_at_call 98; refine (ready_c r n _ _ _ _ l _ HR.out wr.heap.size _ S1 (HE1.out.net.more HE1.out.le) rfl).mono ?_; rintro e w1 ⟨rfl, δ, rfl⟩))
            go_roundw
            case rel =>
              refine ⟨j + 1, hlt, by go_num, ?_, hK.trans (Kep.lat _ _ _)⟩
              unfold Hid
              rw [hsucc.out, HM.out]
              simpa using HJ.out _ _ _ hJr.out (lat_below _ _)
            case measure => simp [intOf]; omega
      · obtain rfl : j = n.hs.length := by omega
        go_wp2_with (fail)
        go_ret
        refine ⟨true, rfl, hK, fun _ => hJr.out, fun h => by cases h⟩

end Go.Proofs.Ytbfehifidlojlaa
