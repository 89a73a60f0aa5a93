/- Towards the claim of XLawCalmed: Layer 5, for the calm sky: the cheapest crew that surely holds. Layer 5, for the calm sky: cheapest and Cheap. -/
import Derived.Test.YtnddiloeikaleaaQ12
import Derived.LoopIn
import Derived.IntWalk
import Derived.Deep.QuietTactic
namespace Go.Proofs.Ytnddiloeikaleaa
open Go.RowKit
open An
open Tc

theorem Box.kep {S : Nat → Prop} {W W' : World} {b : Nat} {T : TypeId} {cs : Array Value} (h : Box W b T cs) (k : Kep S W W') (hs : ¬ S b) : Box W' b T cs := (k.block b h.lt_ hs).trans h
theorem Box.put {W : World} {b D : Nat} {T : TypeId} {cs : Array Value} (h : Box W b T cs) (hne : b ≠ D) (o : Obj) : Box (W.putObj D o) b T cs := (World.putObj_heap_other hne).trans h
theorem two_none {D b : Nat} (h : b < D) : ¬ Two (fun _ => False) D b := by rintro (h | h | h); exact h; omega; omega

/-- A function with a loop over orders: its contract out of its body's walk. -/
theorem calls_over {f : FuncId} {fn : Func} {c : Code} {args : Array Value} {w : World} {R : Ending → World → Prop} (hf : Try.prog.funcs[f]? = some fn) (hb : fn.body = some c)
    (h : c.wp Try.prog (bodyPostM Fence.wide 3 Try.prog fn R) { tmps := args ++ Array.replicate (fn.ntmps - args.size) undef, defers := [] } w) : Calls Try.prog f args w R :=
  (callsIn_wide (n := 3)).1 (callsIn_of_wp_marks hf hb trivial (wpIn_wide.2 h) rfl)

theorem over_ret {fn : Func} {R : Ending → World → Prop} {t : Array Value} {D : Nat} {W : World} {v : Value} (hD : W.heap[D]? = some (.deferred (some [])))
    (hr : (results fn t).run Try.prog (W.putObj D (.deferred none)) = .ok v (W.putObj D (.deferred none))) (h : R (.returned v) (W.putObj D (.deferred none))) :
    bodyPostM Fence.wide 3 Try.prog fn R .ret { tmps := t, defers := [{ target := .collected D, args := #[] }] } W :=
  ⟨by simp, .inl ⟨_, _, rfl, run_takeDeferred hD, _, hr, h⟩⟩
theorem over_below {w W0 W : World} {S : Nat → Prop} [g : Grew w.heap.size w W0] [l : Le w.heap.size W0] (k : Kep S W0 W) (hs : ∀ b, S b → w.heap.size ≤ b) : Below w.heap.size w W := (grew_below (w := w) (W := W0)).trans (k.below l.out hs)
theorem over_lat {w W0 W : World} {S : Nat → Prop} [g : Grew w.heap.size w W0] [l : Le w.heap.size W0] (k : Kep S W0 W) (hs : ∀ b, S b → w.heap.size ≤ b) : ∃ δ, W = lat w δ := ⟨W, (lat_of (over_below k hs)).symm⟩

theorem round_call {P : Program} {fid : Nat} {args : Array Value} {W : World} {R R' : Ending → World → Prop} {m l : Nat} (h : Calls P fid args W R') (hm : ∀ e w, R' e w → R e w) :
    Fence.wide.fn fid ∧ (Fence.wide.depth.isSome = true → 1 ≤ m) ∧ CallsIn (Fence.wide.inRound l) (m - 1) P fid args W R :=
  ⟨trivial, fun h => by simp [Fence.wide] at h, (CallsIn.inRound l (callsIn_wide.2 (h.mono hm)))⟩


namespace Tc
theorem costTo_succ (s : Sea) (l : List Int) (k : Nat) : costTo s l (k + 1) = costTo s l k + (nth s.boats (nth l k).toNat).pence := by
  unfold costTo; rw [List.range_succ]; simp
theorem crewsN_mem {s : Sea} : ∀ (m : Nat) (f : List Int), (∀ x ∈ f, 0 ≤ x ∧ x < s.boats.length) → ∀ l ∈ crewsN s m f, l.length = f.length + m ∧ ∀ x ∈ l, 0 ≤ x ∧ x < s.boats.length
  | 0, f, h, l, hl => by
    have : l = f := by simpa [crewsN] using hl
    subst this; exact ⟨rfl, h⟩
  | m + 1, f, h, l, hl => by
    simp only [crewsN, List.mem_flatMap, List.mem_range] at hl
    obtain ⟨i, hi, hl⟩ := hl
    split at hl
    · cases hl
    · obtain ⟨a, b⟩ := crewsN_mem m (f ++ [(i : Int)]) (fun x hx => by
        rcases List.mem_append.1 hx with h' | h'
        · exact h x h'
        · simp at h'; omega) l hl
      exact ⟨by rw [a, List.length_append]; simp; omega, b⟩
theorem crews_mem {s : Sea} {l : List Int} (h : l ∈ crews s) : l.length = s.places.length ∧ ∀ x ∈ l, 0 ≤ x ∧ x < s.boats.length := by
  obtain ⟨a, b⟩ := crewsN_mem s.places.length [] (fun x hx => by cases hx) l h
  exact ⟨by simpa using a, b⟩
end Tc
end Go.Proofs.Ytnddiloeikaleaa
namespace Go.Proofs.Ytnddiloeikaleaa
open Go.RowKit
open An
open Tc

/-- What best and least hold when some crews have come. -/
def CheapI (s : Sea) (D : Nat) (pre : List (List Int)) (W : World) : Prop :=
  ∃ (n : Int) (A : Option Addr) (m c : Nat), Box W (D + 1) 34 #[.slice A m c] ∧ Box W (D + 1 + 1) 3 #[.int .i64 n] ∧ -1 ≤ n ∧ n ≤ 100000 ∧ (n < 0 ↔ ∀ l ∈ pre, holdsL s l = false)
theorem CheapI.kep {s : Sea} {D : Nat} {pre : List (List Int)} {S : Nat → Prop} {W W' : World} (h : CheapI s D pre W) (k : Kep S W W') (h1 : ¬ S (D + 1)) (h2 : ¬ S (D + 1 + 1)) : CheapI s D pre W' := by
  obtain ⟨n, A, m, c, b1, b2, r⟩ := h
  exact ⟨n, A, m, c, b1.kep k h1, b2.kep k h2, r⟩
theorem costTo_bd {s : Sea} (hv : seaOk s = true) {l : List Int} (hl : ∀ x ∈ l, 0 ≤ x ∧ x < s.boats.length) : ∀ k, k ≤ l.length → 0 ≤ costTo s l k ∧ costTo s l k ≤ 99 * k
  | 0, _ => by simp [costTo]
  | k + 1, h => by
    obtain ⟨a, b⟩ := costTo_bd hv hl k (by omega)
    have hx := hl _ (nth_mem l (k := k) (by omega))
    have hb := okBoat_iff.1 (okBoats_nth (seaOk_iff.1 hv).2.2.2.2.2.2 (k := (nth l k).toNat) (by omega))
    rw [costTo_succ]
    omega
section
attribute [local go_sem] Oper.semAt_some
set_option maxRecDepth 100000 in
set_option maxHeartbeats 4000000 in
theorem cheapest_c (s : Sea) (r : SeaR) (hv : seaOk s = true) (B g : Nat) (w : World) (hA : AtSea B g r s w) :
    Calls Try.prog 68 #[.pointer (some ⟨g, 0, none⟩)] w fun e w' => ∃ (A : Option Addr) (m c : Nat) (n : Int), e = .returned (.tuple #[.slice A m c, .int .i64 n]) ∧ (n < 0 ↔ canHold s = false) ∧ -1 ≤ n ∧ n ≤ 100000 ∧ ∃ δ, w' = lat w δ := by
  have HA := Lib.hid hA
  have HV := Lib.hid hv
  have h4 := (seaOk_iff.1 hv).2.1
  clear hA hv
  refine calls_over Try.func68 rfl ?_
  simp only [Try.ntmps68, List.size_toArray, List.length_cons, List.length_nil, Nat.reduceAdd, Nat.reduceSub, Array.replicate_succ, Array.replicate_zero, List.push_toArray, List.append_toArray, List.nil_append, List.cons_append]
  go_wp2_with (fail)
  refine wp_name fun W0 hW0 => ?_
  have B1 : Hid (Box W0 (w.heap.size + 1) 34 #[.slice none 0 0]) := by rw [hW0.out]; exact (Box.new (by simp)).alloc _
  have B2 : Hid (Box W0 (w.heap.size + 1 + 1) 3 #[.int .i64 (-1)]) := by rw [hW0.out]; exact Box.new (by simp)
  have B0 : Hid (Box W0 w.heap.size 107 #[.pointer (some ⟨g, 0, none⟩)]) := by rw [hW0.out]; exact ((Box.new rfl).alloc _).alloc _
  have g1 : Grew w.heap.size w W0 := by rw [hW0.out]; infer_instance
  have g2 : Le w.heap.size W0 := by rw [hW0.out]; infer_instance
  have HZ : Hid (W0.heap.size = w.heap.size + 3) := by rw [hW0.out]; unfold Hid; simp
  have HA0 : Hid (AtSea B g r s W0) := Lib.hid (HA.out.kep (S := fun _ => False) (.of_below g1.out.below) (fun _ h => h.elim))
  have hgl := HA.out.1.lt_
  have hBg := HA.out.2.2
  clear hW0
  refine wp_crews s r B g rfl h4 HA0.out (fun b => b = w.heap.size + 1 ∨ b = w.heap.size + 1 + 1) (by have := HZ.out; rintro b (rfl | rfl) <;> omega)
    (CheapI s w.heap.size) (fun _ _ _ => False)
    (by intro pre W W' h hk; exact h.kep hk (two_none (by have := HZ.out; omega)) (two_none (by have := HZ.out; omega))) (fun _ _ _ _ h _ => h)
    ⟨-1, none, 0, 0, B1.out, B2.out, by omega, by omega, fun _ _ h => (by cases h), fun _ => by omega⟩ (fun v => { tmps := #[.pointer (some ⟨g, 0, none⟩), .pointer (some ⟨w.heap.size, 0, none⟩), .pointer (some ⟨w.heap.size + 1, 0, none⟩), .pointer (some ⟨w.heap.size + 1 + 1, 0, none⟩), v, undef, undef, undef, .pointer (some ⟨g, 0, none⟩), .func (.func 76) #[.pointer (some ⟨g, 0, none⟩)] #[], v, undef, undef, undef, undef, undef, undef, undef, undef, undef, undef, undef, undef, undef, undef, undef, undef, undef, undef, undef, undef, undef, undef, undef, undef, undef, undef, undef, undef, undef, undef, undef, undef, undef], defers := [] }) ?assign ?body ?done ?stop
  case assign =>
    intro l m v W K hK
    gi_wp2
    exact hK
  case body =>
    rintro l m pre x v W hpre hI hl hk hs
    obtain ⟨A1, c1, rfl, hS1, hlo1⟩ := hl
    obtain ⟨hx1, hx2⟩ := crews_mem (s := s) (hpre.subset (show x ∈ pre ++ [x] by simp))
    obtain ⟨n, A, m0, c0, b1, b2, n1, n2, hn⟩ := hI
    have qA : AtSea B g r s W := HA0.out.kep hk (by have := HZ.out; rintro b ((h | h) | h | h) <;> omega)
    have q0 := B0.out.kep hk (by have := HZ.out; rintro ((h | h) | h | h) <;> omega)
    have z0 := q0.cell (i := 0) rfl
    have i0 := q0.lt
    have d1 := b1.cell (i := 0) rfl
    have d2 := b2.cell (i := 0) rfl
    have f1 := b1.free 0
    have f2 := b2.free 0
    have i1 := b1.lt
    have i2 := b2.lt
    have hcall := holds_c r s HV.out x hx1 hx2 A1 c1 B g W qA hS1
    have QA := Lib.hid qA
    have HB1 := Lib.hid b1
    have HB2 := Lib.hid b2
    have HNN := Lib.hid hn
    have HS1 := Lib.hid hS1
    have HX1 := Lib.hid hx1
    have HX2 := Lib.hid hx2
    clear b1 b2 hn qA q0 hk hpre hs hS1 hlo1 hx1 hx2
    rcases hh : holdsL s x with _ | _
    · rw [hh] at hcall
      have HH := Lib.hid hh
      clear hh
      gi_wp2
      refine round_call hcall ?_
      rintro e w2 ⟨rfl, δ2, rfl⟩
      clear hcall
      gi_wp2
      refine ⟨Kep.lat _ _ _, n, A, m0, c0, HB1.out.lat _, HB2.out.lat _, n1, n2, ?_⟩
      rw [HNN.out]
      constructor
      · intro h y hy
        rcases List.mem_append.1 hy with hy | hy
        · exact h y hy
        · simp at hy; subst hy; exact HH.out
      · exact fun h y hy => h y (List.mem_append_left _ hy)
    · rw [hh] at hcall
      have HH := Lib.hid hh
      clear hh
      gi_wp2
      refine round_call hcall ?_
      rintro e w2 ⟨rfl, δ2, rfl⟩
      clear hcall
      gi_wp2
      gi_loopw [5, 7, 17] (fun s5 s7 i wr => ∃ (k : Nat) (δ : World), k ≤ x.length ∧ i = .int .i64 k ∧ s5 = .int .i64 (costTo s x k) ∧ wr = lat (lat W δ2) δ) (fun _ _ i _ => x.length - (intOf i).toNat)
      case atStart => exact ⟨0, _, Nat.zero_le _, rfl, rfl, (lat_refl _).symm⟩
      case round =>
        obtain ⟨k, δ, hk, rfl, rfl, rfl⟩ := hrel
        by_cases hlt : k < x.length
        · obtain ⟨b, o, rfl, hb, t1⟩ := HS1.out.int hlt
          have ib : Lt b W := ⟨hb⟩
          obtain ⟨x1, x2⟩ := HX2.out _ (nth_mem x hlt)
          obtain ⟨j, hj⟩ : ∃ j : Nat, nth x k = j := ⟨(nth x k).toNat, by omega⟩
          have hjl : j < s.boats.length := by omega
          have c3 := QA.out.1.cell (seaC_lo r s s.places.length).2.2.2
          obtain ⟨bb, ob, hbA, hbb, e0, e1⟩ := QA.out.2.1.2.boat hjl
          have igl := QA.out.1.lt_
          have ig : Lt g W := QA.out.1.lt
          have hBW : B ≤ W.heap.size := by have := QA.out.2.2; omega
          have ib2 : Lt bb W := ⟨by omega⟩
          rw [hbA] at c3
          rw [hj] at t1
          have hki : (k : Int) < (x.length : Int) := by omega
          have hk0 : ¬ (k : Int) < 0 := by omega
          have hji : (j : Int) < (s.boats.length : Int) := by omega
          have hj0 : ¬ (j : Int) < 0 := by omega
          have hbo := okBoat_iff.1 (okBoats_nth (seaOk_iff.1 HV.out).2.2.2.2.2.2 hjl)
          have hcb := costTo_bd HV.out HX2.out k hk
          have HSU := Lib.hid (costTo_succ s x k)
          rw [hj, Int.toNat_natCast] at HSU
          obtain ⟨q, hq⟩ : ∃ q, (nth s.boats j).pence = q := ⟨_, rfl⟩
          obtain ⟨ck, hck⟩ : ∃ q, costTo s x k = q := ⟨_, rfl⟩
          rw [hq] at e1 HSU hbo
          rw [hck] at HSU hcb ⊢
          have hk4 : k ≤ 4 := by have := HX1.out; have := (seaOk_iff.1 HV.out).2.1; omega
          have wr1 : IntKind.i64.wrap (ck + q) = ck + q := IntWalk.i64_in _ (by omega)
          clear hj hq hck hbo hcb e0 hbA hbb
          gi_wp2
          exact ⟨⟨k + 1, _, hlt, by go_num, int_eq HSU.out.symm, lat_def⟩, by simp [intOf]; omega⟩
        · obtain rfl : k = x.length := by omega
          obtain ⟨hc0, hc1⟩ := costTo_bd HV.out HX2.out x.length (Nat.le_refl _)
          obtain ⟨ck, hck⟩ : ∃ q, costTo s x x.length = q := ⟨_, rfl⟩
          rw [hck] at hc0 hc1 ⊢
          have hx4 : x.length ≤ 4 := by have := HX1.out; have := (seaOk_iff.1 HV.out).2.1; omega
          clear hck
          have hc2 : ck ≤ 100000 := by omega
          have HNO : Hid (¬ ∀ l ∈ pre ++ [x], holdsL s l = false) := Lib.hid fun h => by have := h x (by simp); rw [HH.out] at this; cases this
          have fin : ∀ (W' : World), Kep (fun b => b = w.heap.size + 1 ∨ b = w.heap.size + 1 + 1) (lat (lat W δ2) δ) W' → Box W' (w.heap.size + 1) 34 #[.slice A1 x.length c1] → Box W' (w.heap.size + 1 + 1) 3 #[.int .i64 ck] → Kep (fun b => b = w.heap.size + 1 ∨ b = w.heap.size + 1 + 1) W W' ∧ CheapI s w.heap.size (pre ++ [x]) W' := fun W' k1 k2 k3 =>
            ⟨((Kep.lat _ _ _).trans (Kep.lat _ _ _)).trans k1, ck, A1, x.length, c1, k2, k3, by omega, hc2, ⟨fun h => absurd h (by omega), fun h => absurd h HNO.out⟩⟩
          have HF := Lib.hid fin
          have HC0 := Lib.hid hc0
          have HE1 : Hid (Box (lat (lat W δ2) δ) (w.heap.size + 1) 34 #[.slice A m0 c0]) := Lib.hid ((HB1.out.lat _).lat _)
          have HE2 : Hid (Box (lat (lat W δ2) δ) (w.heap.size + 1 + 1) 3 #[.int .i64 n]) := Lib.hid ((HB2.out.lat _).lat _)
          clear fin hc1 hc2 hlt hk
          by_cases hn0 : n < 0
          · gi_wp2
            exact HF.out _ (((Kep.refl _ _).set (.inl rfl) _ _).set (.inr rfl) _ _) ((HE1.out.set 0 _).far (by simp) _) ((HE2.out.far (by simp) _).set 0 _)
          · by_cases hlt2 : ck < n
            · gi_wp2
              exact HF.out _ (((Kep.refl _ _).set (.inl rfl) _ _).set (.inr rfl) _ _) ((HE1.out.set 0 _).far (by simp) _) ((HE2.out.far (by simp) _).set 0 _)
            · gi_wp2
              exact ⟨(Kep.lat _ _ _).trans (Kep.lat _ _ _), n, A, m0, c0, HE1.out, HE2.out, n1, n2, ⟨fun h => absurd h (by omega), fun h => absurd h HNO.out⟩⟩
  case done =>
    rintro W hI hk hD
    obtain ⟨n, A, m, c, b1, b2, n1, n2, hn⟩ := hI
    have d1 := b1.cell (i := 0) rfl
    have d2 := b2.cell (i := 0) rfl
    have f1 := b1.free 0
    have f2 := b2.free 0
    have i1 := b1.lt
    have i2 := b2.lt
    have HD := Lib.hid hD
    have HK := Lib.hid hk
    have HNN := Lib.hid hn
    have HB1 := Lib.hid b1
    have HB2 := Lib.hid b2
    clear b1 b2 hn hD hk
    go_wp2_with (fail)
    go_region
    go_wp2_with (fail)
    have K2 : Kep (fun b => b = w.heap.size + 1 ∨ b = w.heap.size + 1 + 1) W ((W.setCell ⟨w.heap.size + 1, 0, none⟩ (.slice A m c)).setCell ⟨w.heap.size + 1 + 1, 0, none⟩ (.int .i64 n)).drew := (((Kep.refl _ W).set (.inl rfl) _ _).set (.inr rfl) _ _).drew
    have hD2 := (K2.block W0.heap.size (by have := HK.out.size; have := HD.out; rcases Nat.lt_or_ge W0.heap.size W.heap.size with h | h; exact h; rw [Array.getElem?_eq_none h] at this; cases this) (by have := HZ.out; omega)).trans HD.out
    refine over_ret (v := .tuple #[.slice A m c, .int .i64 n]) hD2 ?_ ⟨A, m, c, n, rfl, ?_, n1, n2, over_lat (w := w) (((HK.out.trans (K2.mono fun b h => .inl h))).putObj (b := W0.heap.size) (.inr (.inl rfl)) (.deferred none)) (by have := HZ.out; rintro b ((h | h) | h | h) <;> omega)⟩
    · have r1 := ((((HB1.out.set 0 (.slice A m c)).far (p := ⟨w.heap.size + 1 + 1, 0, none⟩) (by simp) (.int .i64 n)).drew).put (D := W0.heap.size) (by have := HZ.out; omega) (.deferred none)).cell (i := 0) rfl
      have r2 := ((((HB2.out.far (p := ⟨w.heap.size + 1, 0, none⟩) (by simp) (.slice A m c)).set 0 (.int .i64 n)).drew).put (D := W0.heap.size) (by have := HZ.out; omega) (.deferred none)).cell (i := 0) rfl
      simp only [results, Try.results68]
      go_simp
    · rw [HNN.out]
      unfold canHold
      rw [List.any_eq_false]
      simp
  case stop => exact fun _ _ _ _ _ h => h.elim
end
set_option maxRecDepth 100000 in
set_option maxHeartbeats 4000000 in
theorem cheap_c (r : SeaR) (s : Sea) (hv : seaOk s = true) (k : Int) (hk : (if canHold s = true then 0 else 3 : Int) = k) (B : Nat) (w : World) [hB : Le B w] (h : SeaIs B w r s) :
    Calls Try.prog 48 #[seaV r s] w fun e w' => ∃ n : Int, e = .returned (.tuple #[.int .i64 n, .int .i64 k]) ∧ ∃ δ, w' = lat w δ := by
  have HV := Lib.hid hv
  have H := Lib.hid h
  have HK := Lib.hid hk
  clear hv h hk
  go_enter Try.func48, Try.ntmps48
  go_wp2_with (go_at_call 67; refine (lOpen_c r s HV.out B _ H.out.up).mono ?_; rintro e w1 ⟨g, δ1, rfl, rfl, _, hA⟩; have HA := Lib.hid hA; clear hA)
  refine (cheapest_c s r HV.out B g _ HA.out.out).mono ?_
  rintro e w1 ⟨A, m, c, n, rfl, hn, n1, n2, δ2, rfl⟩
  have HN := Lib.hid hn
  clear hn
  by_cases h0 : n < 0
  · have hk3 : k = 3 := by rw [← HK.out, if_neg (by rw [HN.out.1 h0]; decide)]
    subst hk3
    go_wp2_with (fail)
    go_ret2
    exact ⟨0, rfl, lat_ex⟩
  · have hk0 : k = 0 := by rw [← HK.out, if_pos (by cases hc : canHold s with | true => rfl | false => exact absurd (HN.out.2 hc) h0)]
    subst hk0
    go_wp2_with (fail)
    go_ret2
    exact ⟨n, rfl, lat_ex⟩
end Go.Proofs.Ytnddiloeikaleaa
