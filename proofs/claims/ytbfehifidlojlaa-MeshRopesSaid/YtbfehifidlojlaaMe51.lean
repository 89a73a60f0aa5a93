/- Layer 4: MeshRopes. -/
import Derived.Test.YtbfehifidlojlaaMe47
import Derived.Test.YtbfehifidlojlaaMe48
namespace Go.Proofs.Ytbfehifidlojlaa
open Go.RowKit
open Me

namespace Me
/-- With one more pair. -/
def addN (n : Net) (x : Pr) : Net := ⟨n.m, n.hs, n.ps ++ [x]⟩
theorem add_easier {n : Net} (hm : 1 ≤ n.m) (x : Pr) : Easier n (addN n x) := ⟨rfl, Nat.le_refl _, by show 0 < n.m.toNat; omega, fun p hp => List.mem_append.2 (.inl hp)⟩
theorem add_le {n : Net} {x : Pr} (hv : valid n = true) (ha : valid (addN n x) = true) : leastN n ≤ leastN (addN n x) ∧ doneN n ≤ doneN (addN n x) := by
  obtain ⟨h1, _, _, h4, _, h6⟩ := valid_iff.1 hv
  exact (least_easier (add_easier h1.1 x) h4 (valid_iff.1 ha).2.2.2.2.2).2
theorem add_ord {n : Net} {x : Pr} (hv : valid n = true) {l : List Int} (h : isOrd (addN n x) l = true) : isOrd n l = true := ord_easier (add_easier (valid_iff.1 hv).1.1 x) h
end Me

theorem own_box_ne {w : World} {base size n b : Nat} {e T : TypeId} {v : Value} {xs : List Value} {cs : Array Value} (h : w.ownsRow base e size v n xs) (hb : Box w b T cs) (hne : e ≠ T) : v.ownBlock ≠ some b := by
  intro hv
  rcases h.2 with ⟨rfl, _⟩ | ⟨g, cap, cur, rfl, _, hh, _⟩
  · cases hv
  · have hg : g = b := by injection hv
    subst hg
    unfold Box at hb
    rw [hb] at hh
    injection hh with hh
    injection hh with _ ht
    exact hne ht.symm
theorem own_or {w : World} {base base' size size' n n' : Nat} {e e' : TypeId} {v v' : Value} {xs xs' : List Value} (h : w.ownsRow base e size v n xs) (h' : w.ownsRow base' e' size' v' n' xs') (hne : e ≠ e') : v.ownBlock = none ∨ v.ownBlock ≠ v'.ownBlock := by
  by_cases hn : v.ownBlock = none
  · exact .inl hn
  · refine .inr fun e1 => ?_
    rcases h'.2 with ⟨rfl, _⟩ | ⟨g, cap, cur, rfl, _⟩
    · exact hn e1
    · exact own_ne h h' hne e1
theorem app_facts {W5 W7 : World} {b6 : Nat} {cs : Array Value} {vh vp : Value} {k m c : Nat} {A : Option Addr} {xs ys zs : List Value} {arr : Array Value} {δ : World} [l57 : Le W5.heap.size W7] [g57 : Grew W5.heap.size W5 W7] (HB : Box W7 b6 25 cs) (HH : W7.ownsRow W5.heap.size 33 4 vh k xs) (HP : W7.ownsRow W5.heap.size 63 2 vp m ys) (hb6 : ∀ g, vp.ownBlock = some g → g < b6)
    (own2 : (latB W5.heap.size (W7.alloc (.cells arr 63)) δ).ownsRow W5.heap.size 63 2 (.slice A (m + 1) c) (m + 1) zs) (hg : (W7.alloc (.cells arr 63)).grownBy (latB W5.heap.size (W7.alloc (.cells arr 63)) δ) vp.ownBlock) :
    ∃ W8, latB W5.heap.size (W7.alloc (.cells arr 63)) δ = W8 ∧ Box W8 b6 25 cs ∧ W8.ownsRow W5.heap.size 33 4 vh k xs ∧ Grew W5.heap.size W5 W8 ∧ Le W5.heap.size W8 ∧ W8.ownsRow W5.heap.size 63 2 (.slice A (m + 1) c) (m + 1) zs ∧ (Value.slice A (m + 1) c).ownBlock ≠ some b6 := by
  refine ⟨_, rfl, ?_, ?_, inferInstance, inferInstance, own2, ?_⟩
  · exact (hg.block _ (HB.alloc _).lt_ (fun e => absurd (hb6 _ e.symm) (Nat.lt_irrefl _))).trans (HB.alloc _)
  · exact (HH.alloc _).kept hg (own_or HH HP (by decide))
  · exact own_box_ne own2 (show Box _ b6 25 cs from (hg.block _ (HB.alloc _).lt_ (fun e => absurd (hb6 _ e.symm) (Nat.lt_irrefl _))).trans (HB.alloc _)) (by decide)
theorem lReady5x_c (r : NetR) (n : Net) (b : Bool) (hb : readyL n 5 = b) (B : Nat) (w : World) (hN : NetIs B w r n) [hB : Le B w] :
    Calls Try.prog 14 #[netV r n, .int .i64 5] w fun e w' => e = .returned (.bool b) ∧ ∃ δ, w' = lat w δ := lReady_c r n 5 (by omega) b hb B w hN
theorem both_loose (r : NetR) (n : Net) (i q : Nat) (hq : n.ps.length = q + 1) (hi : i ≤ q) (hv : valid n = true) (B : Nat) (w : World) (hN : NetIs B w r (looseN n i)) [hB : Le B w] :
    Calls Try.prog 18 #[.agg #[.int .i64 n.m, .slice r.hA n.hs.length r.hc, .slice r.pA q r.pc]] w fun e w' => e = .returned (.tuple #[.int .i64 (leastN (looseN n i)), .int .i64 (doneN (looseN n i)), .bool true]) ∧ ∃ δ, w' = lat w δ := by
  have h := both_c r (looseN n i) (loose_valid hv i).1 B w hN
  rw [show netV r (looseN n i) = Value.agg #[.int .i64 n.m, .slice r.hA n.hs.length r.hc, .slice r.pA q r.pc] by simp only [netV, loose_len hq hi]; rfl] at h
  exact h

set_option maxRecDepth 100000 in
set_option maxHeartbeats 4000000 in
theorem ropesNo_c (r : NetR) (n : Net) (a b : Int) (A : Option Addr) (c : Nat) (l : List Int) (B : Nat) (w : World) [hB : Le B w] (hN : NetIs B w r n) (hS : Sl encI B w A c l) (hg : readyL n 5 = false ∨ (readyL n 5 = true ∧ 40 < l.length)) :
    Calls Try.prog 12 #[netV r n, .agg #[.int .i64 a, .int .i64 b], .slice A l.length c] w fun e w' => e = .returned (.bool true) ∧ ∃ δ, w' = lat w δ := by
  have z1 := hS.len
  have HN := Lib.hid hN
  clear hN hS
  rcases hg with hr | ⟨hr, h1⟩
  · have HR := Lib.hid hr
    clear hr
    go_enter Try.func12, Try.ntmps12
    go_wp2_with (first
      | (go_at_call 14; refine (lReady5x_c r n _ HR.out B _ HN.out.up).mono ?_; rintro e w1 ⟨rfl, δ, rfl⟩)
      | (go_at_call 16; refine (works_c _).mono ?_; rintro e w1 ⟨rfl, δ2, rfl⟩))
    go_ret
    exact ⟨rfl, lat_ex⟩
  · have HR := Lib.hid hr
    have d1 : decide ((40 : Int) < (l.length : Int)) = true := by simp; omega
    clear hr
    go_enter Try.func12, Try.ntmps12
    go_wp2_with (first
      | (go_at_call 14; refine (lReady5x_c r n _ HR.out B _ HN.out.up).mono ?_; rintro e w1 ⟨rfl, δ, rfl⟩)
      | (go_at_call 16; refine (works_c _).mono ?_; rintro e w1 ⟨rfl, δ2, rfl⟩))
    go_ret
    exact ⟨rfl, lat_ex⟩

set_option maxRecDepth 100000 in
set_option maxHeartbeats 8000000 in
theorem ropes0_c (r : NetR) (n : Net) (a b : Int) (A : Option Addr) (c : Nat) (l : List Int) (B : Nat) (w : World) [hB : Le B w] (hN : NetIs B w r n) (hS : Sl encI B w A c l) (hr : readyL n 5 = true) (hl : l.length ≤ 40) (h0 : n.ps.length = 0) :
    Calls Try.prog 12 #[netV r n, .agg #[.int .i64 a, .int .i64 b], .slice A l.length c] w fun e w' => e = .returned (.bool true) ∧ ∃ δ, w' = lat w δ := by
  have z1 := hS.len
  have hv := (readyL_iff.1 hr).2
  have HV := Lib.hid hv
  have HN := Lib.hid hN
  have HS := Lib.hid hS
  have HR := Lib.hid hr
  have A6 := Lib.hid (ok_of hv).2.1
  have A8 := Lib.hid (ok_of hv).2.2.1
  have d1 : decide ((40 : Int) < (l.length : Int)) = false := by simp; omega
  have e0 : decide (0 < n.ps.length) = false := by simp [h0]
  have e1 : decide ((0 : Int) < (n.ps.length : Int)) = false := by simp [h0]
  have H0 := Lib.hid h0
  clear h0
  clear hN hS hr hv
  go_enter Try.func12, Try.ntmps12
  go_upto_region 14 with (first
    | (go_at_call 14; refine (lReady5x_c r n _ HR.out B _ HN.out.up).mono ?_; rintro e w1 ⟨rfl, δ, rfl⟩)
    | (go_at_call 18; refine (both_c r n HV.out B _ HN.out.up).mono ?_; rintro e w1 ⟨rfl, δb, rfl⟩)
    | (go_at_call 54; refine (ropeP_none r n HV.out H0.out B _ HN.out.up).mono ?_; rintro e w1 ⟨rfl, δr, rfl⟩))
  refine wp_name fun W5 hW5 => ?_
  have iw1 : Le B W5 := by rw [hW5.out]; infer_instance
  have iw2 : Grew B w W5 := by rw [hW5.out]; infer_instance
  have iw3 : Le w.heap.size W5 := by rw [hW5.out]; infer_instance
  have iw4 : Grew w.heap.size w W5 := by rw [hW5.out]; infer_instance
  have iw5 : Lt (w.heap.size) W5 := by rw [hW5.out]; infer_instance
  have iw6 : Lt (w.heap.size + 1) W5 := by rw [hW5.out]; infer_instance
  have cw7 : W5.cell? ⟨w.heap.size, 0, none⟩ = some (.int .i64 n.m) := by rw [hW5.out]; go_simp
  have cw8 : W5.cell? ⟨w.heap.size, 1, none⟩ = some (.slice r.hA n.hs.length r.hc) := by rw [hW5.out]; go_simp
  have cw9 : W5.cell? ⟨w.heap.size, 2, none⟩ = some (.slice r.pA n.ps.length r.pc) := by rw [hW5.out]; go_simp
  have cw10 : W5.cell? ⟨w.heap.size + 1, 0, none⟩ = some (.int .i64 a) := by rw [hW5.out]; go_simp
  have cw11 : W5.cell? ⟨w.heap.size + 1, 1, none⟩ = some (.int .i64 b) := by rw [hW5.out]; go_simp
  have N5 := Lib.hid (HN.out.up : NetIs B W5 r n)
  have S5 := Lib.hid (HS.out.up : Sl encI B W5 A c l)
  clear hW5
  go_wp2_with (fail)
  refine (copy_c r n B _ N5.out.up (by have := A6.out; omega) (by have := A8.out; omega)).mono ?_
  rintro e' w1 ⟨⟨gA, gc, qA, qc⟩, δ1, rfl, rfl, ho⟩
  obtain ⟨W6, hW6⟩ : ∃ W6, Hid (W6 = lat W5 δ1) := ⟨_, rfl⟩
  rw [← hW6.out] at ho ⊢
  have iw12 : Le B W6 := by rw [hW6.out]; infer_instance
  have iw13 : Grew B W5 W6 := by rw [hW6.out]; infer_instance
  have iw14 : Le W5.heap.size W6 := by rw [hW6.out]; infer_instance
  have iw15 : Grew W5.heap.size W5 W6 := by rw [hW6.out]; infer_instance
  have iw16 : Lt (w.heap.size) W6 := by rw [hW6.out]; infer_instance
  have iw17 : Lt (w.heap.size + 1) W6 := by rw [hW6.out]; infer_instance
  have cw18 : W6.cell? ⟨w.heap.size, 0, none⟩ = some (.int .i64 n.m) := by rw [hW6.out]; go_simp
  have cw19 : W6.cell? ⟨w.heap.size, 1, none⟩ = some (.slice r.hA n.hs.length r.hc) := by rw [hW6.out]; go_simp
  have cw20 : W6.cell? ⟨w.heap.size, 2, none⟩ = some (.slice r.pA n.ps.length r.pc) := by rw [hW6.out]; go_simp
  have cw21 : W6.cell? ⟨w.heap.size + 1, 0, none⟩ = some (.int .i64 a) := by rw [hW6.out]; go_simp
  have cw22 : W6.cell? ⟨w.heap.size + 1, 1, none⟩ = some (.int .i64 b) := by rw [hW6.out]; go_simp
  have H6 := Lib.hid ho.1
  have P6 := Lib.hid ho.2
  have PB := Lib.hid (own_block ho.2)
  clear ho hW6
  rw [show netV ⟨gA, gc, qA, qc⟩ n = Value.agg #[.int .i64 n.m, .slice gA n.hs.length gc, .slice qA n.ps.length qc] from rfl]
  go_upto_region 15 with fail
  refine wp_name fun W7 hW7 => ?_
  have HB7 : Hid (Box W7 W6.heap.size 25 #[.int .i64 n.m, .slice gA n.hs.length gc, .slice qA n.ps.length qc]) := by rw [hW7.out]; exact Box.new rfl
  have H7 : Hid (W7.ownsRow W5.heap.size 33 4 (.slice gA n.hs.length gc) n.hs.length (n.hs.flatMap encHole)) := by rw [hW7.out]; exact H6.out.alloc _
  have P7 : Hid (W7.ownsRow W5.heap.size 63 2 (.slice qA n.ps.length qc) n.ps.length (n.ps.flatMap encPr)) := by rw [hW7.out]; exact P6.out.alloc _
  have iw23 : Le B W7 := by rw [hW7.out]; infer_instance
  have iw24 : Grew B W6 W7 := by rw [hW7.out]; infer_instance
  have iw25 : Le W6.heap.size W7 := by rw [hW7.out]; infer_instance
  have iw26 : Grew W6.heap.size W6 W7 := by rw [hW7.out]; infer_instance
  have iw27 : Lt (w.heap.size) W7 := by rw [hW7.out]; infer_instance
  have iw28 : Lt (w.heap.size + 1) W7 := by rw [hW7.out]; infer_instance
  have cw29 : W7.cell? ⟨w.heap.size, 0, none⟩ = some (.int .i64 n.m) := by rw [hW7.out]; go_simp
  have cw30 : W7.cell? ⟨w.heap.size, 1, none⟩ = some (.slice r.hA n.hs.length r.hc) := by rw [hW7.out]; go_simp
  have cw31 : W7.cell? ⟨w.heap.size, 2, none⟩ = some (.slice r.pA n.ps.length r.pc) := by rw [hW7.out]; go_simp
  have cw32 : W7.cell? ⟨w.heap.size + 1, 0, none⟩ = some (.int .i64 a) := by rw [hW7.out]; go_simp
  have cw33 : W7.cell? ⟨w.heap.size + 1, 1, none⟩ = some (.int .i64 b) := by rw [hW7.out]; go_simp
  have cw34 : W7.cell? ⟨W6.heap.size, 0, none⟩ = some (.int .i64 n.m) := by rw [hW7.out]; go_simp
  have cw35 : W7.cell? ⟨W6.heap.size, 1, none⟩ = some (.slice gA n.hs.length gc) := by rw [hW7.out]; go_simp
  have cw36 : W7.cell? ⟨W6.heap.size, 2, none⟩ = some (.slice qA n.ps.length qc) := by rw [hW7.out]; go_simp
  have g57 : Grew W5.heap.size W5 W7 := by
    have g1 : Grew W5.heap.size W5 W6 := inferInstance
    have g2 : Grew W6.heap.size W6 W7 := inferInstance
    have : Le W5.heap.size W6 := inferInstance
    exact grew_tr g1 g2
  have l57 : Le W5.heap.size W7 := ⟨Nat.le_trans (inferInstance : Le W5.heap.size W6).out (inferInstance : Le W6.heap.size W7).out⟩
  have hwl : w.heap.size + 1 < W5.heap.size := (inferInstance : Lt (w.heap.size + 1) W5).out
  clear hW7 H6 P6
  have p8 : n.ps.length + 1 ≤ 1000000 := by have := A8.out; omega
  have b16 : (16 : Nat) ≤ 1000 := by omega
  go_upto_region 16 with (at_builtin; go_loud ((refine wpList_append_newg W5 slPr (.tmp 117) (.tmp 119) rfl rfl P7.out rfl rfl (by go_simp) rfl (by simp [Value.oneCell']) p8 b16 ?_); intro A2 c2 δ2 own2 hg2; obtain ⟨W8, hW8, hb8, hh8, g58, l58, hp8, hne8⟩ := app_facts HB7.out H7.out P7.out (fun g hg => (PB.out g hg).2) own2 hg2; rw [hW8]; have q0 := hb8.cell (i := 0) rfl; have q1 := hb8.cell (i := 1) rfl; have q2 := hb8.cell (i := 2) rfl; have iq := hb8.lt; have f0 := hb8.free 2; have HB8 := Lib.hid hb8; have HH8 := Lib.hid hh8; have HP8 := Lib.hid hp8; have HNE8 := Lib.hid hne8; clear hW8 own2 hg2 hb8 hh8 hp8 hne8))
  refine wp_name fun W9 hW9 => ?_
  have HB9 : Hid (Box W9 W6.heap.size 25 #[.int .i64 n.m, .slice gA n.hs.length gc, .slice A2 (n.ps.length + 1) c2]) := by rw [hW9.out]; exact HB8.out.set 2 _
  have l56 : W5.heap.size ≤ W6.heap.size := (inferInstance : Le W5.heap.size W6).out
  have g59 : Grew W5.heap.size W5 W9 := by
    rw [hW9.out]
    have : LeN W5.heap.size W6.heap.size := ⟨l56⟩
    infer_instance
  have l59 : Le W5.heap.size W9 := by rw [hW9.out]; infer_instance
  have ph : (Value.slice gA n.hs.length gc).ownBlock ≠ some W6.heap.size := own_box_ne HH8.out HB8.out (by decide)
  have HH9 : Hid (W9.ownsRow W5.heap.size 33 4 (.slice gA n.hs.length gc) n.hs.length (n.hs.flatMap encHole)) := by rw [hW9.out]; exact own_far HH8.out (p := ⟨W6.heap.size, 2, none⟩) ph
  have HP9 : Hid (W9.ownsRow W5.heap.size 63 2 (.slice A2 (n.ps.length + 1) c2) (n.ps.length + 1) ((n.ps ++ [(⟨a, b⟩ : Pr)]).flatMap encPr)) := by
    rw [hW9.out]
    have h1 := own_far HP8.out (p := ⟨W6.heap.size, 2, none⟩) (u := .slice A2 (n.ps.length + 1) c2) HNE8.out
    rw [List.flatMap_append]
    exact h1
  obtain ⟨x, hx⟩ : ∃ x : Pr, x = ⟨a, b⟩ := ⟨_, rfl⟩
  rw [← hx] at HP9
  have hal : (addN n x).ps.length = n.ps.length + 1 := by simp [addN]
  have N9 : Hid (NetIs W9.heap.size W9 ⟨gA, gc, A2, c2⟩ (addN n x)) := by
    refine ⟨Sl.of_own HH9.out, ?_⟩
    have h1 := HP9.out
    rw [← hal] at h1
    exact Sl.of_own h1
  have hv2 : netV ⟨gA, gc, A2, c2⟩ (addN n x) = Value.agg #[.int .i64 n.m, .slice gA n.hs.length gc, .slice A2 (n.ps.length + 1) c2] := by simp only [netV, hal]; rfl
  have w0 : W9.cell? ⟨w.heap.size, 0, none⟩ = some (.int .i64 n.m) := (cells_same g59.out w.heap.size 0 (by omega)).trans (by assumption)
  have w1' : W9.cell? ⟨w.heap.size, 1, none⟩ = some (.slice r.hA n.hs.length r.hc) := (cells_same g59.out w.heap.size 1 (by omega)).trans (by assumption)
  have w2 : W9.cell? ⟨w.heap.size, 2, none⟩ = some (.slice r.pA n.ps.length r.pc) := (cells_same g59.out w.heap.size 2 (by omega)).trans (by assumption)
  have iw9 : Lt w.heap.size W9 := ⟨by have := l59.out; omega⟩
  have k0 := HB9.out.cell (i := 0) rfl
  have k1 := HB9.out.cell (i := 1) rfl
  have k2 := HB9.out.cell (i := 2) rfl
  have ik := HB9.out.lt
  have gB9 : Grew B w W9 := grew_tr (W := W5) inferInstance g59
  have lB9 : Le B W9 := ⟨Nat.le_trans (inferInstance : Le B W5).out l59.out⟩
  have gw9 : Grew w.heap.size w W9 := grew_tr (W := W5) inferInstance g59
  have lw9 : Le w.heap.size W9 := ⟨Nat.le_trans (inferInstance : Le w.heap.size W5).out l59.out⟩
  have NN9 := Lib.hid (HN.out.up : NetIs B W9 r n)
  have SS9 := Lib.hid (HS.out.up : Sl encI B W9 A c l)
  have nm1 : NeN w.heap.size W6.heap.size := ⟨by omega⟩
  have nm2 : NeN W6.heap.size w.heap.size := ⟨by omega⟩
  have trd := fun b hb B w hN hB => lReady5x_c ⟨gA, gc, A2, c2⟩ (addN n x) b hb B w hN (hB := hB)
  rw [hv2] at trd
  have TRD := Lib.hid trd
  clear hW9 trd HB7 H7 P7 PB HB8 HH8 HP8 HNE8 HH9 HP9 HB9 ph N5 S5 hx hal q0 q1 q2 f0 iq
  cases hra : readyL (addN n x) 5 with
  | false =>
    have HRA := Lib.hid hra
    clear hra
    go_wp2_with (first
      | (go_at_call 14; refine (TRD.out _ HRA.out _ _ N9.out.up inferInstance).mono ?_; rintro e' w1 ⟨rfl, δx, rfl⟩)
      | (go_at_call 16; refine (works_c _).mono ?_; rintro e' w1 ⟨rfl, δw, rfl⟩))
    go_ret
    exact ⟨rfl, lat_ex⟩
  | true =>
    have hva := (readyL_iff.1 hra).2
    have HRA := Lib.hid hra
    have tb := fun B w hN hB => both_c ⟨gA, gc, A2, c2⟩ (addN n x) hva B w hN (hB := hB)
    have tg := fun (Ac : Option Addr) (cc B : Nat) (w : World) hS hN hB => goodP_yes ⟨gA, gc, A2, c2⟩ (addN n x) hva Ac cc l B w hS hN (hB := hB)
    have ti := fun b hb B w hS hN hB => rIsOrder_c ⟨gA, gc, A2, c2⟩ (addN n x) A c l b hb B w hS hN (hB := hB)
    rw [hv2] at tb tg ti
    obtain ⟨y1, y2⟩ := add_le HV.out hva
    have p1 : decide (leastN n ≤ leastN (addN n x)) = true := decide_eq_true y1
    have p2 : decide (doneN n ≤ doneN (addN n x)) = true := decide_eq_true y2
    have TB := Lib.hid tb
    have AO := Lib.hid (add_ord (x := x) (l := l) HV.out)
    clear hra hva tb hv2 y1 y2
    cases hio : isOrd (addN n x) l with
    | true =>
      have HIO := Lib.hid hio
      have HIN := Lib.hid (AO.out hio)
      rw [hio] at tg
      have TG := Lib.hid tg
      have TI := Lib.hid ti
      clear hio tg ti
      go_upto_region 19 with (first
        | (go_at_call 14; refine (TRD.out _ HRA.out _ _ N9.out.up inferInstance).mono ?_; rintro e' w1 ⟨rfl, δx, rfl⟩)
        | (go_at_call 18; refine (TB.out _ _ N9.out.up inferInstance).mono ?_; rintro e' w1 ⟨rfl, δy, rfl⟩))
      go_region_held3 (fun W => W.cell? ⟨W6.heap.size, 0, none⟩ = some (.int .i64 n.m) ∧ W.cell? ⟨W6.heap.size, 1, none⟩ = some (.slice gA n.hs.length gc) ∧ W.cell? ⟨W6.heap.size, 2, none⟩ = some (.slice A2 (n.ps.length + 1) c2))
        (refine ⟨?_, ?_, ?_⟩ <;> go_simp)
        (first
          | (go_at_call 21; refine (copied_c A c _ l rfl (by omega) B _ SS9.out.up).mono ?_; rintro e' w1 ⟨Ac, cc, δc, rfl, rfl, hSc⟩)
          | (go_at_call 34; refine (TG.out Ac cc _ _ hSc.out.wide N9.out.wide inferInstance).mono ?_; rintro e' w1 ⟨rfl, δg, rfl⟩))
      go_wp2_with (fail)
      go_region_held3 (fun W => W.cell? ⟨w.heap.size, 0, none⟩ = some (.int .i64 n.m) ∧ W.cell? ⟨w.heap.size, 1, none⟩ = some (.slice r.hA n.hs.length r.hc) ∧ W.cell? ⟨w.heap.size, 2, none⟩ = some (.slice r.pA n.ps.length r.pc))
        (refine ⟨?_, ?_, ?_⟩ <;> go_simp)
        (first
          | (go_at_call 21; refine (copied_c A c _ l rfl (by omega) B _ SS9.out.up).mono ?_; rintro e' w1 ⟨Ad, cd, δd, rfl, rfl, hSd⟩)
          | (go_at_call 34; refine (goodP_yes r n HV.out Ad cd l _ _ hSd.out.wide NN9.out.wide).mono ?_; rw [HIN.out]; rintro e' w1 ⟨rfl, δh, rfl⟩))
      go_wp2_with (first
        | (go_at_call 19; refine (TI.out _ HIO.out _ _ (SS9.out.up.more (by first | exact (inferInstance : Le B _).out)) N9.out.wide inferInstance).mono ?_; rintro e' w1 ⟨rfl, δi, rfl⟩)
        | (go_at_call 16; refine (works_c _).mono ?_; rintro e' w1 ⟨rfl, δw, rfl⟩))
      go_ret
      exact ⟨rfl, lat_ex⟩
    | false =>
      have HIO := Lib.hid hio
      rw [hio] at tg
      have TG := Lib.hid tg
      have TI := Lib.hid ti
      clear hio tg ti
      go_upto_region 19 with (first
        | (go_at_call 14; refine (TRD.out _ HRA.out _ _ N9.out.up inferInstance).mono ?_; rintro e' w1 ⟨rfl, δx, rfl⟩)
        | (go_at_call 18; refine (TB.out _ _ N9.out.up inferInstance).mono ?_; rintro e' w1 ⟨rfl, δy, rfl⟩))
      go_region_held3 (fun W => W.cell? ⟨W6.heap.size, 0, none⟩ = some (.int .i64 n.m) ∧ W.cell? ⟨W6.heap.size, 1, none⟩ = some (.slice gA n.hs.length gc) ∧ W.cell? ⟨W6.heap.size, 2, none⟩ = some (.slice A2 (n.ps.length + 1) c2))
        (refine ⟨?_, ?_, ?_⟩ <;> go_simp)
        (first
          | (go_at_call 21; refine (copied_c A c _ l rfl (by omega) B _ SS9.out.up).mono ?_; rintro e' w1 ⟨Ac, cc, δc, rfl, rfl, hSc⟩)
          | (go_at_call 34; refine (TG.out Ac cc _ _ hSc.out.wide N9.out.wide inferInstance).mono ?_; rintro e' w1 ⟨rfl, δg, rfl⟩))
      go_wp2_with (fail)
      go_region_held3 (fun W => W.cell? ⟨w.heap.size, 0, none⟩ = some (.int .i64 n.m) ∧ W.cell? ⟨w.heap.size, 1, none⟩ = some (.slice r.hA n.hs.length r.hc) ∧ W.cell? ⟨w.heap.size, 2, none⟩ = some (.slice r.pA n.ps.length r.pc))
        (refine ⟨?_, ?_, ?_⟩ <;> go_simp)
        (first
          | (go_at_call 21; refine (copied_c A c _ l rfl (by omega) B _ SS9.out.up).mono ?_; rintro e' w1 ⟨Ad, cd, δd, rfl, rfl, hSd⟩)
          | (go_at_call 34; refine (goodP_yes r n HV.out Ad cd l _ _ hSd.out.wide NN9.out.wide).mono ?_; rintro e' w1 ⟨rfl, δh, rfl⟩))
      go_wp2_with (first
        | (go_at_call 19; refine (TI.out _ HIO.out _ _ (SS9.out.up.more (by first | exact (inferInstance : Le B _).out)) N9.out.wide inferInstance).mono ?_; rintro e' w1 ⟨rfl, δi, rfl⟩)
        | (go_at_call 16; refine (works_c _).mono ?_; rintro e' w1 ⟨rfl, δw, rfl⟩))
      go_ret
      exact ⟨rfl, lat_ex⟩

set_option maxRecDepth 100000 in
set_option maxHeartbeats 8000000 in
theorem ropes1_c (r : NetR) (n : Net) (a b : Int) (A : Option Addr) (c : Nat) (l : List Int) (B : Nat) (w : World) [hB : Le B w] (hN : NetIs B w r n) (hS : Sl encI B w A c l) (hr : readyL n 5 = true) (hl : l.length ≤ 40) (h0 : 0 < n.ps.length) (hcd : (leastN (looseN n (ropeN n)) == leastN (looseN n 0)) = true) :
    Calls Try.prog 12 #[netV r n, .agg #[.int .i64 a, .int .i64 b], .slice A l.length c] w fun e w' => e = .returned (.bool true) ∧ ∃ δ, w' = lat w δ := by
  have z1 := hS.len
  have hv := (readyL_iff.1 hr).2
  have HV := Lib.hid hv
  have HN := Lib.hid hN
  have HS := Lib.hid hS
  have HR := Lib.hid hr
  have A6 := Lib.hid (ok_of hv).2.1
  have A8 := Lib.hid (ok_of hv).2.2.1
  have d1 : decide ((40 : Int) < (l.length : Int)) = false := by simp; omega
  have e0 : decide (0 < n.ps.length) = true := by simpa using h0
  have e1 : decide ((0 : Int) < (n.ps.length : Int)) = true := by simp; omega
  obtain ⟨q, hq⟩ : ∃ q, n.ps.length = q + 1 := ⟨n.ps.length - 1, by omega⟩
  have hrs := ropeK_spec n n.ps.length
  have hrl : ropeN n ≤ q := by have := hrs.1; unfold ropeN; omega
  have HRL := Lib.hid hrl
  have hwi : inB 0 ((n.ps.length : Int) - 1) (ropeN n : Nat) = true := inB_iff.2 (by omega)
  have HWI := Lib.hid hwi
  have x1 : decide (leastN n < leastN (looseN n (ropeN n))) = false := decide_eq_false (by have := (loose_valid hv (ropeN n)).2; omega)
  have x2 : decide (leastN (looseN n 0) < leastN (looseN n (ropeN n))) = false := decide_eq_false (by have := hrs.2.1 0 h0; unfold ropeN; omega)
  have x3 := hcd
  have x4 : decide ((0 : Int) < ((ropeN n : Nat) : Int)) = false := decide_eq_false (by have := hrs.2.2 0 h0 (by have := eq_of_beq hcd; unfold ropeN at this; omega); unfold ropeN; omega)
  have x5 : decide (0 < ropeN n) = false := decide_eq_false (by have := of_decide_eq_false x4; omega)
  have hr8 : ropeN n ≤ 8 := by have := (ok_of hv).2.2.1; omega
  have h8i : n.ps.length ≤ 8 := (ok_of hv).2.2.1
  have HQ := Lib.hid hq
  have H0 := Lib.hid h0
  clear h0 hq hcd hrs hrl hwi
  clear hN hS hr hv
  go_enter Try.func12, Try.ntmps12
  go_upto_region 14 with (first
    | (go_at_call 14; refine (lReady5x_c r n _ HR.out B _ HN.out.up).mono ?_; rintro e w1 ⟨rfl, δ, rfl⟩)
    | (go_at_call 18; with_reducible refine (both_c r n HV.out B _ HN.out.up).mono ?_; rintro e w1 ⟨rfl, δb, rfl⟩)
    | (go_at_call 54; refine (ropeP_yes r n HV.out H0.out B _ HN.out.up).mono ?_; rintro e w1 ⟨rfl, δr, rfl⟩)
    | (go_at_call 28; refine (within_c _ _ _ _).mono ?_; rw [HWI.out]; rintro e w1 ⟨rfl, rfl⟩)
    | (go_at_call 55; with_reducible refine (rLoose_c r n (ropeN n) q HQ.out HRL.out A6.out A8.out B _ HN.out.up).mono ?_; rintro e w1 ⟨r1, δ1, rfl, rfl, hL1⟩)
    | (go_at_call 55; refine (rLoose_c r n 0 q HQ.out (Nat.zero_le _) A6.out A8.out B _ HN.out.up).mono ?_; rintro e w1 ⟨r2, δ2, rfl, rfl, hL2⟩)
    | (go_at_call 18; with_reducible refine (both_loose r1 n (ropeN n) q HQ.out HRL.out HV.out _ _ hL1.out).mono ?_; rintro e w1 ⟨rfl, δb1, rfl⟩)
    | (go_at_call 18; refine (both_loose r2 n 0 q HQ.out (Nat.zero_le _) HV.out _ _ hL2.out).mono ?_; rintro e w1 ⟨rfl, δb2, rfl⟩))
  try clear hL1
  try clear hL2
  refine wp_name fun W5 hW5 => ?_
  have iw1 : Le B W5 := by rw [hW5.out]; infer_instance
  have iw2 : Grew B w W5 := by rw [hW5.out]; infer_instance
  have iw3 : Le w.heap.size W5 := by rw [hW5.out]; infer_instance
  have iw4 : Grew w.heap.size w W5 := by rw [hW5.out]; infer_instance
  have iw5 : Lt (w.heap.size) W5 := by rw [hW5.out]; infer_instance
  have iw6 : Lt (w.heap.size + 1) W5 := by rw [hW5.out]; infer_instance
  have cw7 : W5.cell? ⟨w.heap.size, 0, none⟩ = some (.int .i64 n.m) := by rw [hW5.out]; go_simp
  have cw8 : W5.cell? ⟨w.heap.size, 1, none⟩ = some (.slice r.hA n.hs.length r.hc) := by rw [hW5.out]; go_simp
  have cw9 : W5.cell? ⟨w.heap.size, 2, none⟩ = some (.slice r.pA n.ps.length r.pc) := by rw [hW5.out]; go_simp
  have cw10 : W5.cell? ⟨w.heap.size + 1, 0, none⟩ = some (.int .i64 a) := by rw [hW5.out]; go_simp
  have cw11 : W5.cell? ⟨w.heap.size + 1, 1, none⟩ = some (.int .i64 b) := by rw [hW5.out]; go_simp
  have N5 := Lib.hid (HN.out.up : NetIs B W5 r n)
  have S5 := Lib.hid (HS.out.up : Sl encI B W5 A c l)
  clear hW5
  go_wp2_with (fail)
  refine (copy_c r n B _ N5.out.up (by have := A6.out; omega) (by have := A8.out; omega)).mono ?_
  rintro e' w1 ⟨⟨gA, gc, qA, qc⟩, δ1, rfl, rfl, ho⟩
  obtain ⟨W6, hW6⟩ : ∃ W6, Hid (W6 = lat W5 δ1) := ⟨_, rfl⟩
  rw [← hW6.out] at ho ⊢
  have iw12 : Le B W6 := by rw [hW6.out]; infer_instance
  have iw13 : Grew B W5 W6 := by rw [hW6.out]; infer_instance
  have iw14 : Le W5.heap.size W6 := by rw [hW6.out]; infer_instance
  have iw15 : Grew W5.heap.size W5 W6 := by rw [hW6.out]; infer_instance
  have iw16 : Lt (w.heap.size) W6 := by rw [hW6.out]; infer_instance
  have iw17 : Lt (w.heap.size + 1) W6 := by rw [hW6.out]; infer_instance
  have cw18 : W6.cell? ⟨w.heap.size, 0, none⟩ = some (.int .i64 n.m) := by rw [hW6.out]; go_simp
  have cw19 : W6.cell? ⟨w.heap.size, 1, none⟩ = some (.slice r.hA n.hs.length r.hc) := by rw [hW6.out]; go_simp
  have cw20 : W6.cell? ⟨w.heap.size, 2, none⟩ = some (.slice r.pA n.ps.length r.pc) := by rw [hW6.out]; go_simp
  have cw21 : W6.cell? ⟨w.heap.size + 1, 0, none⟩ = some (.int .i64 a) := by rw [hW6.out]; go_simp
  have cw22 : W6.cell? ⟨w.heap.size + 1, 1, none⟩ = some (.int .i64 b) := by rw [hW6.out]; go_simp
  have H6 := Lib.hid ho.1
  have P6 := Lib.hid ho.2
  have PB := Lib.hid (own_block ho.2)
  clear ho hW6
  rw [show netV ⟨gA, gc, qA, qc⟩ n = Value.agg #[.int .i64 n.m, .slice gA n.hs.length gc, .slice qA n.ps.length qc] from rfl]
  go_upto_region 15 with fail
  refine wp_name fun W7 hW7 => ?_
  have HB7 : Hid (Box W7 W6.heap.size 25 #[.int .i64 n.m, .slice gA n.hs.length gc, .slice qA n.ps.length qc]) := by rw [hW7.out]; exact Box.new rfl
  have H7 : Hid (W7.ownsRow W5.heap.size 33 4 (.slice gA n.hs.length gc) n.hs.length (n.hs.flatMap encHole)) := by rw [hW7.out]; exact H6.out.alloc _
  have P7 : Hid (W7.ownsRow W5.heap.size 63 2 (.slice qA n.ps.length qc) n.ps.length (n.ps.flatMap encPr)) := by rw [hW7.out]; exact P6.out.alloc _
  have iw23 : Le B W7 := by rw [hW7.out]; infer_instance
  have iw24 : Grew B W6 W7 := by rw [hW7.out]; infer_instance
  have iw25 : Le W6.heap.size W7 := by rw [hW7.out]; infer_instance
  have iw26 : Grew W6.heap.size W6 W7 := by rw [hW7.out]; infer_instance
  have iw27 : Lt (w.heap.size) W7 := by rw [hW7.out]; infer_instance
  have iw28 : Lt (w.heap.size + 1) W7 := by rw [hW7.out]; infer_instance
  have cw29 : W7.cell? ⟨w.heap.size, 0, none⟩ = some (.int .i64 n.m) := by rw [hW7.out]; go_simp
  have cw30 : W7.cell? ⟨w.heap.size, 1, none⟩ = some (.slice r.hA n.hs.length r.hc) := by rw [hW7.out]; go_simp
  have cw31 : W7.cell? ⟨w.heap.size, 2, none⟩ = some (.slice r.pA n.ps.length r.pc) := by rw [hW7.out]; go_simp
  have cw32 : W7.cell? ⟨w.heap.size + 1, 0, none⟩ = some (.int .i64 a) := by rw [hW7.out]; go_simp
  have cw33 : W7.cell? ⟨w.heap.size + 1, 1, none⟩ = some (.int .i64 b) := by rw [hW7.out]; go_simp
  have cw34 : W7.cell? ⟨W6.heap.size, 0, none⟩ = some (.int .i64 n.m) := by rw [hW7.out]; go_simp
  have cw35 : W7.cell? ⟨W6.heap.size, 1, none⟩ = some (.slice gA n.hs.length gc) := by rw [hW7.out]; go_simp
  have cw36 : W7.cell? ⟨W6.heap.size, 2, none⟩ = some (.slice qA n.ps.length qc) := by rw [hW7.out]; go_simp
  have g57 : Grew W5.heap.size W5 W7 := by
    have g1 : Grew W5.heap.size W5 W6 := inferInstance
    have g2 : Grew W6.heap.size W6 W7 := inferInstance
    have : Le W5.heap.size W6 := inferInstance
    exact grew_tr g1 g2
  have l57 : Le W5.heap.size W7 := ⟨Nat.le_trans (inferInstance : Le W5.heap.size W6).out (inferInstance : Le W6.heap.size W7).out⟩
  have hwl : w.heap.size + 1 < W5.heap.size := (inferInstance : Lt (w.heap.size + 1) W5).out
  clear hW7 H6 P6
  have p8 : n.ps.length + 1 ≤ 1000000 := by have := A8.out; omega
  have b16 : (16 : Nat) ≤ 1000 := by omega
  go_upto_region 16 with (at_builtin; go_loud ((refine wpList_append_newg W5 slPr (.tmp 117) (.tmp 119) rfl rfl P7.out rfl rfl (by go_simp) rfl (by simp [Value.oneCell']) p8 b16 ?_); intro A2 c2 δ2 own2 hg2; obtain ⟨W8, hW8, hb8, hh8, g58, l58, hp8, hne8⟩ := app_facts HB7.out H7.out P7.out (fun g hg => (PB.out g hg).2) own2 hg2; rw [hW8]; have q0 := hb8.cell (i := 0) rfl; have q1 := hb8.cell (i := 1) rfl; have q2 := hb8.cell (i := 2) rfl; have iq := hb8.lt; have f0 := hb8.free 2; have HB8 := Lib.hid hb8; have HH8 := Lib.hid hh8; have HP8 := Lib.hid hp8; have HNE8 := Lib.hid hne8; clear hW8 own2 hg2 hb8 hh8 hp8 hne8))
  refine wp_name fun W9 hW9 => ?_
  have HB9 : Hid (Box W9 W6.heap.size 25 #[.int .i64 n.m, .slice gA n.hs.length gc, .slice A2 (n.ps.length + 1) c2]) := by rw [hW9.out]; exact HB8.out.set 2 _
  have l56 : W5.heap.size ≤ W6.heap.size := (inferInstance : Le W5.heap.size W6).out
  have g59 : Grew W5.heap.size W5 W9 := by
    rw [hW9.out]
    have : LeN W5.heap.size W6.heap.size := ⟨l56⟩
    infer_instance
  have l59 : Le W5.heap.size W9 := by rw [hW9.out]; infer_instance
  have ph : (Value.slice gA n.hs.length gc).ownBlock ≠ some W6.heap.size := own_box_ne HH8.out HB8.out (by decide)
  have HH9 : Hid (W9.ownsRow W5.heap.size 33 4 (.slice gA n.hs.length gc) n.hs.length (n.hs.flatMap encHole)) := by rw [hW9.out]; exact own_far HH8.out (p := ⟨W6.heap.size, 2, none⟩) ph
  have HP9 : Hid (W9.ownsRow W5.heap.size 63 2 (.slice A2 (n.ps.length + 1) c2) (n.ps.length + 1) ((n.ps ++ [(⟨a, b⟩ : Pr)]).flatMap encPr)) := by
    rw [hW9.out]
    have h1 := own_far HP8.out (p := ⟨W6.heap.size, 2, none⟩) (u := .slice A2 (n.ps.length + 1) c2) HNE8.out
    rw [List.flatMap_append]
    exact h1
  obtain ⟨x, hx⟩ : ∃ x : Pr, x = ⟨a, b⟩ := ⟨_, rfl⟩
  rw [← hx] at HP9
  have hal : (addN n x).ps.length = n.ps.length + 1 := by simp [addN]
  have N9 : Hid (NetIs W9.heap.size W9 ⟨gA, gc, A2, c2⟩ (addN n x)) := by
    refine ⟨Sl.of_own HH9.out, ?_⟩
    have h1 := HP9.out
    rw [← hal] at h1
    exact Sl.of_own h1
  have hv2 : netV ⟨gA, gc, A2, c2⟩ (addN n x) = Value.agg #[.int .i64 n.m, .slice gA n.hs.length gc, .slice A2 (n.ps.length + 1) c2] := by simp only [netV, hal]; rfl
  have w0 : W9.cell? ⟨w.heap.size, 0, none⟩ = some (.int .i64 n.m) := (cells_same g59.out w.heap.size 0 (by omega)).trans (by assumption)
  have w1' : W9.cell? ⟨w.heap.size, 1, none⟩ = some (.slice r.hA n.hs.length r.hc) := (cells_same g59.out w.heap.size 1 (by omega)).trans (by assumption)
  have w2 : W9.cell? ⟨w.heap.size, 2, none⟩ = some (.slice r.pA n.ps.length r.pc) := (cells_same g59.out w.heap.size 2 (by omega)).trans (by assumption)
  have iw9 : Lt w.heap.size W9 := ⟨by have := l59.out; omega⟩
  have k0 := HB9.out.cell (i := 0) rfl
  have k1 := HB9.out.cell (i := 1) rfl
  have k2 := HB9.out.cell (i := 2) rfl
  have ik := HB9.out.lt
  have gB9 : Grew B w W9 := grew_tr (W := W5) inferInstance g59
  have lB9 : Le B W9 := ⟨Nat.le_trans (inferInstance : Le B W5).out l59.out⟩
  have gw9 : Grew w.heap.size w W9 := grew_tr (W := W5) inferInstance g59
  have lw9 : Le w.heap.size W9 := ⟨Nat.le_trans (inferInstance : Le w.heap.size W5).out l59.out⟩
  have NN9 := Lib.hid (HN.out.up : NetIs B W9 r n)
  have SS9 := Lib.hid (HS.out.up : Sl encI B W9 A c l)
  have nm1 : NeN w.heap.size W6.heap.size := ⟨by omega⟩
  have nm2 : NeN W6.heap.size w.heap.size := ⟨by omega⟩
  have trd := fun b hb B w hN hB => lReady5x_c ⟨gA, gc, A2, c2⟩ (addN n x) b hb B w hN (hB := hB)
  rw [hv2] at trd
  have TRD := Lib.hid trd
  clear hW9 trd HB7 H7 P7 PB HB8 HH8 HP8 HNE8 HH9 HP9 HB9 ph N5 S5 hx hal q0 q1 q2 f0 iq
  cases hra : readyL (addN n x) 5 with
  | false =>
    have HRA := Lib.hid hra
    clear hra
    go_wp2_with (first
      | (go_at_call 14; refine (TRD.out _ HRA.out _ _ N9.out.up inferInstance).mono ?_; rintro e' w1 ⟨rfl, δx, rfl⟩)
      | (go_at_call 16; refine (works_c _).mono ?_; rintro e' w1 ⟨rfl, δw, rfl⟩))
    go_ret
    exact ⟨rfl, lat_ex⟩
  | true =>
    have hva := (readyL_iff.1 hra).2
    have HRA := Lib.hid hra
    have tb := fun B w hN hB => both_c ⟨gA, gc, A2, c2⟩ (addN n x) hva B w hN (hB := hB)
    have tg := fun (Ac : Option Addr) (cc B : Nat) (w : World) hS hN hB => goodP_yes ⟨gA, gc, A2, c2⟩ (addN n x) hva Ac cc l B w hS hN (hB := hB)
    have ti := fun b hb B w hS hN hB => rIsOrder_c ⟨gA, gc, A2, c2⟩ (addN n x) A c l b hb B w hS hN (hB := hB)
    rw [hv2] at tb tg ti
    obtain ⟨y1, y2⟩ := add_le HV.out hva
    have p1 : decide (leastN n ≤ leastN (addN n x)) = true := decide_eq_true y1
    have p2 : decide (doneN n ≤ doneN (addN n x)) = true := decide_eq_true y2
    have TB := Lib.hid tb
    have AO := Lib.hid (add_ord (x := x) (l := l) HV.out)
    clear hra hva tb hv2 y1 y2
    cases hio : isOrd (addN n x) l with
    | true =>
      have HIO := Lib.hid hio
      have HIN := Lib.hid (AO.out hio)
      rw [hio] at tg
      have TG := Lib.hid tg
      have TI := Lib.hid ti
      clear hio tg ti
      go_upto_region 19 with (first
        | (go_at_call 14; refine (TRD.out _ HRA.out _ _ N9.out.up inferInstance).mono ?_; rintro e' w1 ⟨rfl, δx, rfl⟩)
        | (go_at_call 18; refine (TB.out _ _ N9.out.up inferInstance).mono ?_; rintro e' w1 ⟨rfl, δy, rfl⟩))
      go_region_held3 (fun W => W.cell? ⟨W6.heap.size, 0, none⟩ = some (.int .i64 n.m) ∧ W.cell? ⟨W6.heap.size, 1, none⟩ = some (.slice gA n.hs.length gc) ∧ W.cell? ⟨W6.heap.size, 2, none⟩ = some (.slice A2 (n.ps.length + 1) c2))
        (refine ⟨?_, ?_, ?_⟩ <;> go_simp)
        (first
          | (go_at_call 21; refine (copied_c A c _ l rfl (by omega) B _ SS9.out.up).mono ?_; rintro e' w1 ⟨Ac, cc, δc, rfl, rfl, hSc⟩)
          | (go_at_call 34; refine (TG.out Ac cc _ _ hSc.out.wide N9.out.wide inferInstance).mono ?_; rintro e' w1 ⟨rfl, δg, rfl⟩))
      go_wp2_with (fail)
      go_region_held3 (fun W => W.cell? ⟨w.heap.size, 0, none⟩ = some (.int .i64 n.m) ∧ W.cell? ⟨w.heap.size, 1, none⟩ = some (.slice r.hA n.hs.length r.hc) ∧ W.cell? ⟨w.heap.size, 2, none⟩ = some (.slice r.pA n.ps.length r.pc))
        (refine ⟨?_, ?_, ?_⟩ <;> go_simp)
        (first
          | (go_at_call 21; refine (copied_c A c _ l rfl (by omega) B _ SS9.out.up).mono ?_; rintro e' w1 ⟨Ad, cd, δd, rfl, rfl, hSd⟩)
          | (go_at_call 34; refine (goodP_yes r n HV.out Ad cd l _ _ hSd.out.wide NN9.out.wide).mono ?_; rw [HIN.out]; rintro e' w1 ⟨rfl, δh, rfl⟩))
      go_wp2_with (first
        | (go_at_call 19; refine (TI.out _ HIO.out _ _ (SS9.out.up.more (by first | exact (inferInstance : Le B _).out)) N9.out.wide inferInstance).mono ?_; rintro e' w1 ⟨rfl, δi, rfl⟩)
        | (go_at_call 16; refine (works_c _).mono ?_; rintro e' w1 ⟨rfl, δw, rfl⟩))
      go_ret
      exact ⟨rfl, lat_ex⟩
    | false =>
      have HIO := Lib.hid hio
      rw [hio] at tg
      have TG := Lib.hid tg
      have TI := Lib.hid ti
      clear hio tg ti
      go_upto_region 19 with (first
        | (go_at_call 14; refine (TRD.out _ HRA.out _ _ N9.out.up inferInstance).mono ?_; rintro e' w1 ⟨rfl, δx, rfl⟩)
        | (go_at_call 18; refine (TB.out _ _ N9.out.up inferInstance).mono ?_; rintro e' w1 ⟨rfl, δy, rfl⟩))
      go_region_held3 (fun W => W.cell? ⟨W6.heap.size, 0, none⟩ = some (.int .i64 n.m) ∧ W.cell? ⟨W6.heap.size, 1, none⟩ = some (.slice gA n.hs.length gc) ∧ W.cell? ⟨W6.heap.size, 2, none⟩ = some (.slice A2 (n.ps.length + 1) c2))
        (refine ⟨?_, ?_, ?_⟩ <;> go_simp)
        (first
          | (go_at_call 21; refine (copied_c A c _ l rfl (by omega) B _ SS9.out.up).mono ?_; rintro e' w1 ⟨Ac, cc, δc, rfl, rfl, hSc⟩)
          | (go_at_call 34; refine (TG.out Ac cc _ _ hSc.out.wide N9.out.wide inferInstance).mono ?_; rintro e' w1 ⟨rfl, δg, rfl⟩))
      go_wp2_with (fail)
      go_region_held3 (fun W => W.cell? ⟨w.heap.size, 0, none⟩ = some (.int .i64 n.m) ∧ W.cell? ⟨w.heap.size, 1, none⟩ = some (.slice r.hA n.hs.length r.hc) ∧ W.cell? ⟨w.heap.size, 2, none⟩ = some (.slice r.pA n.ps.length r.pc))
        (refine ⟨?_, ?_, ?_⟩ <;> go_simp)
        (first
          | (go_at_call 21; refine (copied_c A c _ l rfl (by omega) B _ SS9.out.up).mono ?_; rintro e' w1 ⟨Ad, cd, δd, rfl, rfl, hSd⟩)
          | (go_at_call 34; refine (goodP_yes r n HV.out Ad cd l _ _ hSd.out.wide NN9.out.wide).mono ?_; rintro e' w1 ⟨rfl, δh, rfl⟩))
      go_wp2_with (first
        | (go_at_call 19; refine (TI.out _ HIO.out _ _ (SS9.out.up.more (by first | exact (inferInstance : Le B _).out)) N9.out.wide inferInstance).mono ?_; rintro e' w1 ⟨rfl, δi, rfl⟩)
        | (go_at_call 16; refine (works_c _).mono ?_; rintro e' w1 ⟨rfl, δw, rfl⟩))
      go_ret
      exact ⟨rfl, lat_ex⟩

set_option maxRecDepth 100000 in
set_option maxHeartbeats 8000000 in
theorem ropes2_c (r : NetR) (n : Net) (a b : Int) (A : Option Addr) (c : Nat) (l : List Int) (B : Nat) (w : World) [hB : Le B w] (hN : NetIs B w r n) (hS : Sl encI B w A c l) (hr : readyL n 5 = true) (hl : l.length ≤ 40) (h0 : 0 < n.ps.length) (hcd : (leastN (looseN n (ropeN n)) == leastN (looseN n 0)) = false) :
    Calls Try.prog 12 #[netV r n, .agg #[.int .i64 a, .int .i64 b], .slice A l.length c] w fun e w' => e = .returned (.bool true) ∧ ∃ δ, w' = lat w δ := by
  have z1 := hS.len
  have hv := (readyL_iff.1 hr).2
  have HV := Lib.hid hv
  have HN := Lib.hid hN
  have HS := Lib.hid hS
  have HR := Lib.hid hr
  have A6 := Lib.hid (ok_of hv).2.1
  have A8 := Lib.hid (ok_of hv).2.2.1
  have d1 : decide ((40 : Int) < (l.length : Int)) = false := by simp; omega
  have e0 : decide (0 < n.ps.length) = true := by simpa using h0
  have e1 : decide ((0 : Int) < (n.ps.length : Int)) = true := by simp; omega
  obtain ⟨q, hq⟩ : ∃ q, n.ps.length = q + 1 := ⟨n.ps.length - 1, by omega⟩
  have hrs := ropeK_spec n n.ps.length
  have hrl : ropeN n ≤ q := by have := hrs.1; unfold ropeN; omega
  have HRL := Lib.hid hrl
  have hwi : inB 0 ((n.ps.length : Int) - 1) (ropeN n : Nat) = true := inB_iff.2 (by omega)
  have HWI := Lib.hid hwi
  have x1 : decide (leastN n < leastN (looseN n (ropeN n))) = false := decide_eq_false (by have := (loose_valid hv (ropeN n)).2; omega)
  have x2 : decide (leastN (looseN n 0) < leastN (looseN n (ropeN n))) = false := decide_eq_false (by have := hrs.2.1 0 h0; unfold ropeN; omega)
  have x3 := hcd
  have hr8 : ropeN n ≤ 8 := by have := (ok_of hv).2.2.1; omega
  have h8i : n.ps.length ≤ 8 := (ok_of hv).2.2.1
  have HQ := Lib.hid hq
  have H0 := Lib.hid h0
  clear h0 hq hcd hrs hrl hwi
  clear hN hS hr hv
  go_enter Try.func12, Try.ntmps12
  go_upto_region 14 with (first
    | (go_at_call 14; refine (lReady5x_c r n _ HR.out B _ HN.out.up).mono ?_; rintro e w1 ⟨rfl, δ, rfl⟩)
    | (go_at_call 18; with_reducible refine (both_c r n HV.out B _ HN.out.up).mono ?_; rintro e w1 ⟨rfl, δb, rfl⟩)
    | (go_at_call 54; refine (ropeP_yes r n HV.out H0.out B _ HN.out.up).mono ?_; rintro e w1 ⟨rfl, δr, rfl⟩)
    | (go_at_call 28; refine (within_c _ _ _ _).mono ?_; rw [HWI.out]; rintro e w1 ⟨rfl, rfl⟩)
    | (go_at_call 55; with_reducible refine (rLoose_c r n (ropeN n) q HQ.out HRL.out A6.out A8.out B _ HN.out.up).mono ?_; rintro e w1 ⟨r1, δ1, rfl, rfl, hL1⟩)
    | (go_at_call 55; refine (rLoose_c r n 0 q HQ.out (Nat.zero_le _) A6.out A8.out B _ HN.out.up).mono ?_; rintro e w1 ⟨r2, δ2, rfl, rfl, hL2⟩)
    | (go_at_call 18; with_reducible refine (both_loose r1 n (ropeN n) q HQ.out HRL.out HV.out _ _ hL1.out).mono ?_; rintro e w1 ⟨rfl, δb1, rfl⟩)
    | (go_at_call 18; refine (both_loose r2 n 0 q HQ.out (Nat.zero_le _) HV.out _ _ hL2.out).mono ?_; rintro e w1 ⟨rfl, δb2, rfl⟩))
  try clear hL1
  try clear hL2
  refine wp_name fun W5 hW5 => ?_
  have iw1 : Le B W5 := by rw [hW5.out]; infer_instance
  have iw2 : Grew B w W5 := by rw [hW5.out]; infer_instance
  have iw3 : Le w.heap.size W5 := by rw [hW5.out]; infer_instance
  have iw4 : Grew w.heap.size w W5 := by rw [hW5.out]; infer_instance
  have iw5 : Lt (w.heap.size) W5 := by rw [hW5.out]; infer_instance
  have iw6 : Lt (w.heap.size + 1) W5 := by rw [hW5.out]; infer_instance
  have cw7 : W5.cell? ⟨w.heap.size, 0, none⟩ = some (.int .i64 n.m) := by rw [hW5.out]; go_simp
  have cw8 : W5.cell? ⟨w.heap.size, 1, none⟩ = some (.slice r.hA n.hs.length r.hc) := by rw [hW5.out]; go_simp
  have cw9 : W5.cell? ⟨w.heap.size, 2, none⟩ = some (.slice r.pA n.ps.length r.pc) := by rw [hW5.out]; go_simp
  have cw10 : W5.cell? ⟨w.heap.size + 1, 0, none⟩ = some (.int .i64 a) := by rw [hW5.out]; go_simp
  have cw11 : W5.cell? ⟨w.heap.size + 1, 1, none⟩ = some (.int .i64 b) := by rw [hW5.out]; go_simp
  have N5 := Lib.hid (HN.out.up : NetIs B W5 r n)
  have S5 := Lib.hid (HS.out.up : Sl encI B W5 A c l)
  clear hW5
  go_wp2_with (fail)
  refine (copy_c r n B _ N5.out.up (by have := A6.out; omega) (by have := A8.out; omega)).mono ?_
  rintro e' w1 ⟨⟨gA, gc, qA, qc⟩, δ1, rfl, rfl, ho⟩
  obtain ⟨W6, hW6⟩ : ∃ W6, Hid (W6 = lat W5 δ1) := ⟨_, rfl⟩
  rw [← hW6.out] at ho ⊢
  have iw12 : Le B W6 := by rw [hW6.out]; infer_instance
  have iw13 : Grew B W5 W6 := by rw [hW6.out]; infer_instance
  have iw14 : Le W5.heap.size W6 := by rw [hW6.out]; infer_instance
  have iw15 : Grew W5.heap.size W5 W6 := by rw [hW6.out]; infer_instance
  have iw16 : Lt (w.heap.size) W6 := by rw [hW6.out]; infer_instance
  have iw17 : Lt (w.heap.size + 1) W6 := by rw [hW6.out]; infer_instance
  have cw18 : W6.cell? ⟨w.heap.size, 0, none⟩ = some (.int .i64 n.m) := by rw [hW6.out]; go_simp
  have cw19 : W6.cell? ⟨w.heap.size, 1, none⟩ = some (.slice r.hA n.hs.length r.hc) := by rw [hW6.out]; go_simp
  have cw20 : W6.cell? ⟨w.heap.size, 2, none⟩ = some (.slice r.pA n.ps.length r.pc) := by rw [hW6.out]; go_simp
  have cw21 : W6.cell? ⟨w.heap.size + 1, 0, none⟩ = some (.int .i64 a) := by rw [hW6.out]; go_simp
  have cw22 : W6.cell? ⟨w.heap.size + 1, 1, none⟩ = some (.int .i64 b) := by rw [hW6.out]; go_simp
  have H6 := Lib.hid ho.1
  have P6 := Lib.hid ho.2
  have PB := Lib.hid (own_block ho.2)
  clear ho hW6
  rw [show netV ⟨gA, gc, qA, qc⟩ n = Value.agg #[.int .i64 n.m, .slice gA n.hs.length gc, .slice qA n.ps.length qc] from rfl]
  go_upto_region 15 with fail
  refine wp_name fun W7 hW7 => ?_
  have HB7 : Hid (Box W7 W6.heap.size 25 #[.int .i64 n.m, .slice gA n.hs.length gc, .slice qA n.ps.length qc]) := by rw [hW7.out]; exact Box.new rfl
  have H7 : Hid (W7.ownsRow W5.heap.size 33 4 (.slice gA n.hs.length gc) n.hs.length (n.hs.flatMap encHole)) := by rw [hW7.out]; exact H6.out.alloc _
  have P7 : Hid (W7.ownsRow W5.heap.size 63 2 (.slice qA n.ps.length qc) n.ps.length (n.ps.flatMap encPr)) := by rw [hW7.out]; exact P6.out.alloc _
  have iw23 : Le B W7 := by rw [hW7.out]; infer_instance
  have iw24 : Grew B W6 W7 := by rw [hW7.out]; infer_instance
  have iw25 : Le W6.heap.size W7 := by rw [hW7.out]; infer_instance
  have iw26 : Grew W6.heap.size W6 W7 := by rw [hW7.out]; infer_instance
  have iw27 : Lt (w.heap.size) W7 := by rw [hW7.out]; infer_instance
  have iw28 : Lt (w.heap.size + 1) W7 := by rw [hW7.out]; infer_instance
  have cw29 : W7.cell? ⟨w.heap.size, 0, none⟩ = some (.int .i64 n.m) := by rw [hW7.out]; go_simp
  have cw30 : W7.cell? ⟨w.heap.size, 1, none⟩ = some (.slice r.hA n.hs.length r.hc) := by rw [hW7.out]; go_simp
  have cw31 : W7.cell? ⟨w.heap.size, 2, none⟩ = some (.slice r.pA n.ps.length r.pc) := by rw [hW7.out]; go_simp
  have cw32 : W7.cell? ⟨w.heap.size + 1, 0, none⟩ = some (.int .i64 a) := by rw [hW7.out]; go_simp
  have cw33 : W7.cell? ⟨w.heap.size + 1, 1, none⟩ = some (.int .i64 b) := by rw [hW7.out]; go_simp
  have cw34 : W7.cell? ⟨W6.heap.size, 0, none⟩ = some (.int .i64 n.m) := by rw [hW7.out]; go_simp
  have cw35 : W7.cell? ⟨W6.heap.size, 1, none⟩ = some (.slice gA n.hs.length gc) := by rw [hW7.out]; go_simp
  have cw36 : W7.cell? ⟨W6.heap.size, 2, none⟩ = some (.slice qA n.ps.length qc) := by rw [hW7.out]; go_simp
  have g57 : Grew W5.heap.size W5 W7 := by
    have g1 : Grew W5.heap.size W5 W6 := inferInstance
    have g2 : Grew W6.heap.size W6 W7 := inferInstance
    have : Le W5.heap.size W6 := inferInstance
    exact grew_tr g1 g2
  have l57 : Le W5.heap.size W7 := ⟨Nat.le_trans (inferInstance : Le W5.heap.size W6).out (inferInstance : Le W6.heap.size W7).out⟩
  have hwl : w.heap.size + 1 < W5.heap.size := (inferInstance : Lt (w.heap.size + 1) W5).out
  clear hW7 H6 P6
  have p8 : n.ps.length + 1 ≤ 1000000 := by have := A8.out; omega
  have b16 : (16 : Nat) ≤ 1000 := by omega
  go_upto_region 16 with (at_builtin; go_loud ((refine wpList_append_newg W5 slPr (.tmp 117) (.tmp 119) rfl rfl P7.out rfl rfl (by go_simp) rfl (by simp [Value.oneCell']) p8 b16 ?_); intro A2 c2 δ2 own2 hg2; obtain ⟨W8, hW8, hb8, hh8, g58, l58, hp8, hne8⟩ := app_facts HB7.out H7.out P7.out (fun g hg => (PB.out g hg).2) own2 hg2; rw [hW8]; have q0 := hb8.cell (i := 0) rfl; have q1 := hb8.cell (i := 1) rfl; have q2 := hb8.cell (i := 2) rfl; have iq := hb8.lt; have f0 := hb8.free 2; have HB8 := Lib.hid hb8; have HH8 := Lib.hid hh8; have HP8 := Lib.hid hp8; have HNE8 := Lib.hid hne8; clear hW8 own2 hg2 hb8 hh8 hp8 hne8))
  refine wp_name fun W9 hW9 => ?_
  have HB9 : Hid (Box W9 W6.heap.size 25 #[.int .i64 n.m, .slice gA n.hs.length gc, .slice A2 (n.ps.length + 1) c2]) := by rw [hW9.out]; exact HB8.out.set 2 _
  have l56 : W5.heap.size ≤ W6.heap.size := (inferInstance : Le W5.heap.size W6).out
  have g59 : Grew W5.heap.size W5 W9 := by
    rw [hW9.out]
    have : LeN W5.heap.size W6.heap.size := ⟨l56⟩
    infer_instance
  have l59 : Le W5.heap.size W9 := by rw [hW9.out]; infer_instance
  have ph : (Value.slice gA n.hs.length gc).ownBlock ≠ some W6.heap.size := own_box_ne HH8.out HB8.out (by decide)
  have HH9 : Hid (W9.ownsRow W5.heap.size 33 4 (.slice gA n.hs.length gc) n.hs.length (n.hs.flatMap encHole)) := by rw [hW9.out]; exact own_far HH8.out (p := ⟨W6.heap.size, 2, none⟩) ph
  have HP9 : Hid (W9.ownsRow W5.heap.size 63 2 (.slice A2 (n.ps.length + 1) c2) (n.ps.length + 1) ((n.ps ++ [(⟨a, b⟩ : Pr)]).flatMap encPr)) := by
    rw [hW9.out]
    have h1 := own_far HP8.out (p := ⟨W6.heap.size, 2, none⟩) (u := .slice A2 (n.ps.length + 1) c2) HNE8.out
    rw [List.flatMap_append]
    exact h1
  obtain ⟨x, hx⟩ : ∃ x : Pr, x = ⟨a, b⟩ := ⟨_, rfl⟩
  rw [← hx] at HP9
  have hal : (addN n x).ps.length = n.ps.length + 1 := by simp [addN]
  have N9 : Hid (NetIs W9.heap.size W9 ⟨gA, gc, A2, c2⟩ (addN n x)) := by
    refine ⟨Sl.of_own HH9.out, ?_⟩
    have h1 := HP9.out
    rw [← hal] at h1
    exact Sl.of_own h1
  have hv2 : netV ⟨gA, gc, A2, c2⟩ (addN n x) = Value.agg #[.int .i64 n.m, .slice gA n.hs.length gc, .slice A2 (n.ps.length + 1) c2] := by simp only [netV, hal]; rfl
  have w0 : W9.cell? ⟨w.heap.size, 0, none⟩ = some (.int .i64 n.m) := (cells_same g59.out w.heap.size 0 (by omega)).trans (by assumption)
  have w1' : W9.cell? ⟨w.heap.size, 1, none⟩ = some (.slice r.hA n.hs.length r.hc) := (cells_same g59.out w.heap.size 1 (by omega)).trans (by assumption)
  have w2 : W9.cell? ⟨w.heap.size, 2, none⟩ = some (.slice r.pA n.ps.length r.pc) := (cells_same g59.out w.heap.size 2 (by omega)).trans (by assumption)
  have iw9 : Lt w.heap.size W9 := ⟨by have := l59.out; omega⟩
  have k0 := HB9.out.cell (i := 0) rfl
  have k1 := HB9.out.cell (i := 1) rfl
  have k2 := HB9.out.cell (i := 2) rfl
  have ik := HB9.out.lt
  have gB9 : Grew B w W9 := grew_tr (W := W5) inferInstance g59
  have lB9 : Le B W9 := ⟨Nat.le_trans (inferInstance : Le B W5).out l59.out⟩
  have gw9 : Grew w.heap.size w W9 := grew_tr (W := W5) inferInstance g59
  have lw9 : Le w.heap.size W9 := ⟨Nat.le_trans (inferInstance : Le w.heap.size W5).out l59.out⟩
  have NN9 := Lib.hid (HN.out.up : NetIs B W9 r n)
  have SS9 := Lib.hid (HS.out.up : Sl encI B W9 A c l)
  have nm1 : NeN w.heap.size W6.heap.size := ⟨by omega⟩
  have nm2 : NeN W6.heap.size w.heap.size := ⟨by omega⟩
  have trd := fun b hb B w hN hB => lReady5x_c ⟨gA, gc, A2, c2⟩ (addN n x) b hb B w hN (hB := hB)
  rw [hv2] at trd
  have TRD := Lib.hid trd
  clear hW9 trd HB7 H7 P7 PB HB8 HH8 HP8 HNE8 HH9 HP9 HB9 ph N5 S5 hx hal q0 q1 q2 f0 iq
  cases hra : readyL (addN n x) 5 with
  | false =>
    have HRA := Lib.hid hra
    clear hra
    go_wp2_with (first
      | (go_at_call 14; refine (TRD.out _ HRA.out _ _ N9.out.up inferInstance).mono ?_; rintro e' w1 ⟨rfl, δx, rfl⟩)
      | (go_at_call 16; refine (works_c _).mono ?_; rintro e' w1 ⟨rfl, δw, rfl⟩))
    go_ret
    exact ⟨rfl, lat_ex⟩
  | true =>
    have hva := (readyL_iff.1 hra).2
    have HRA := Lib.hid hra
    have tb := fun B w hN hB => both_c ⟨gA, gc, A2, c2⟩ (addN n x) hva B w hN (hB := hB)
    have tg := fun (Ac : Option Addr) (cc B : Nat) (w : World) hS hN hB => goodP_yes ⟨gA, gc, A2, c2⟩ (addN n x) hva Ac cc l B w hS hN (hB := hB)
    have ti := fun b hb B w hS hN hB => rIsOrder_c ⟨gA, gc, A2, c2⟩ (addN n x) A c l b hb B w hS hN (hB := hB)
    rw [hv2] at tb tg ti
    obtain ⟨y1, y2⟩ := add_le HV.out hva
    have p1 : decide (leastN n ≤ leastN (addN n x)) = true := decide_eq_true y1
    have p2 : decide (doneN n ≤ doneN (addN n x)) = true := decide_eq_true y2
    have TB := Lib.hid tb
    have AO := Lib.hid (add_ord (x := x) (l := l) HV.out)
    clear hra hva tb hv2 y1 y2
    cases hio : isOrd (addN n x) l with
    | true =>
      have HIO := Lib.hid hio
      have HIN := Lib.hid (AO.out hio)
      rw [hio] at tg
      have TG := Lib.hid tg
      have TI := Lib.hid ti
      clear hio tg ti
      go_upto_region 19 with (first
        | (go_at_call 14; refine (TRD.out _ HRA.out _ _ N9.out.up inferInstance).mono ?_; rintro e' w1 ⟨rfl, δx, rfl⟩)
        | (go_at_call 18; refine (TB.out _ _ N9.out.up inferInstance).mono ?_; rintro e' w1 ⟨rfl, δy, rfl⟩))
      go_region_held3 (fun W => W.cell? ⟨W6.heap.size, 0, none⟩ = some (.int .i64 n.m) ∧ W.cell? ⟨W6.heap.size, 1, none⟩ = some (.slice gA n.hs.length gc) ∧ W.cell? ⟨W6.heap.size, 2, none⟩ = some (.slice A2 (n.ps.length + 1) c2))
        (refine ⟨?_, ?_, ?_⟩ <;> go_simp)
        (first
          | (go_at_call 21; refine (copied_c A c _ l rfl (by omega) B _ SS9.out.up).mono ?_; rintro e' w1 ⟨Ac, cc, δc, rfl, rfl, hSc⟩)
          | (go_at_call 34; refine (TG.out Ac cc _ _ hSc.out.wide N9.out.wide inferInstance).mono ?_; rintro e' w1 ⟨rfl, δg, rfl⟩))
      go_wp2_with (fail)
      go_region_held3 (fun W => W.cell? ⟨w.heap.size, 0, none⟩ = some (.int .i64 n.m) ∧ W.cell? ⟨w.heap.size, 1, none⟩ = some (.slice r.hA n.hs.length r.hc) ∧ W.cell? ⟨w.heap.size, 2, none⟩ = some (.slice r.pA n.ps.length r.pc))
        (refine ⟨?_, ?_, ?_⟩ <;> go_simp)
        (first
          | (go_at_call 21; refine (copied_c A c _ l rfl (by omega) B _ SS9.out.up).mono ?_; rintro e' w1 ⟨Ad, cd, δd, rfl, rfl, hSd⟩)
          | (go_at_call 34; refine (goodP_yes r n HV.out Ad cd l _ _ hSd.out.wide NN9.out.wide).mono ?_; rw [HIN.out]; rintro e' w1 ⟨rfl, δh, rfl⟩))
      go_wp2_with (first
        | (go_at_call 19; refine (TI.out _ HIO.out _ _ (SS9.out.up.more (by first | exact (inferInstance : Le B _).out)) N9.out.wide inferInstance).mono ?_; rintro e' w1 ⟨rfl, δi, rfl⟩)
        | (go_at_call 16; refine (works_c _).mono ?_; rintro e' w1 ⟨rfl, δw, rfl⟩))
      go_ret
      exact ⟨rfl, lat_ex⟩
    | false =>
      have HIO := Lib.hid hio
      rw [hio] at tg
      have TG := Lib.hid tg
      have TI := Lib.hid ti
      clear hio tg ti
      go_upto_region 19 with (first
        | (go_at_call 14; refine (TRD.out _ HRA.out _ _ N9.out.up inferInstance).mono ?_; rintro e' w1 ⟨rfl, δx, rfl⟩)
        | (go_at_call 18; refine (TB.out _ _ N9.out.up inferInstance).mono ?_; rintro e' w1 ⟨rfl, δy, rfl⟩))
      go_region_held3 (fun W => W.cell? ⟨W6.heap.size, 0, none⟩ = some (.int .i64 n.m) ∧ W.cell? ⟨W6.heap.size, 1, none⟩ = some (.slice gA n.hs.length gc) ∧ W.cell? ⟨W6.heap.size, 2, none⟩ = some (.slice A2 (n.ps.length + 1) c2))
        (refine ⟨?_, ?_, ?_⟩ <;> go_simp)
        (first
          | (go_at_call 21; refine (copied_c A c _ l rfl (by omega) B _ SS9.out.up).mono ?_; rintro e' w1 ⟨Ac, cc, δc, rfl, rfl, hSc⟩)
          | (go_at_call 34; refine (TG.out Ac cc _ _ hSc.out.wide N9.out.wide inferInstance).mono ?_; rintro e' w1 ⟨rfl, δg, rfl⟩))
      go_wp2_with (fail)
      go_region_held3 (fun W => W.cell? ⟨w.heap.size, 0, none⟩ = some (.int .i64 n.m) ∧ W.cell? ⟨w.heap.size, 1, none⟩ = some (.slice r.hA n.hs.length r.hc) ∧ W.cell? ⟨w.heap.size, 2, none⟩ = some (.slice r.pA n.ps.length r.pc))
        (refine ⟨?_, ?_, ?_⟩ <;> go_simp)
        (first
          | (go_at_call 21; refine (copied_c A c _ l rfl (by omega) B _ SS9.out.up).mono ?_; rintro e' w1 ⟨Ad, cd, δd, rfl, rfl, hSd⟩)
          | (go_at_call 34; refine (goodP_yes r n HV.out Ad cd l _ _ hSd.out.wide NN9.out.wide).mono ?_; rintro e' w1 ⟨rfl, δh, rfl⟩))
      go_wp2_with (first
        | (go_at_call 19; refine (TI.out _ HIO.out _ _ (SS9.out.up.more (by first | exact (inferInstance : Le B _).out)) N9.out.wide inferInstance).mono ?_; rintro e' w1 ⟨rfl, δi, rfl⟩)
        | (go_at_call 16; refine (works_c _).mono ?_; rintro e' w1 ⟨rfl, δw, rfl⟩))
      go_ret
      exact ⟨rfl, lat_ex⟩

theorem lawRopes_c (r : NetR) (n : Net) (a b : Int) (A : Option Addr) (c : Nat) (l : List Int) (B : Nat) (w : World) [hB : Le B w] (hN : NetIs B w r n) (hS : Sl encI B w A c l) :
    Calls Try.prog 12 #[netV r n, .agg #[.int .i64 a, .int .i64 b], .slice A l.length c] w fun e w' => e = .returned (.bool true) ∧ ∃ δ, w' = lat w δ := by
  cases hr : readyL n 5 with
  | false => exact ropesNo_c r n a b A c l B w hN hS (.inl hr)
  | true =>
    by_cases hl : l.length ≤ 40
    · rcases Nat.eq_zero_or_pos n.ps.length with h0 | h0
      · exact ropes0_c r n a b A c l B w hN hS hr hl h0
      · cases hcd : (leastN (looseN n (ropeN n)) == leastN (looseN n 0)) with
        | true => exact ropes1_c r n a b A c l B w hN hS hr hl h0 hcd
        | false => exact ropes2_c r n a b A c l B w hN hS hr hl h0 hcd
    · exact ropesNo_c r n a b A c l B w hN hS (.inr ⟨hr, by omega⟩)

end Go.Proofs.Ytbfehifidlojlaa
