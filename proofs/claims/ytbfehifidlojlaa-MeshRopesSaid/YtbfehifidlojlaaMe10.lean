/- Layer 4: the first order of which a number is the least, as the program finds it. -/
import Derived.Test.YtbfehifidlojlaaMe9
import Derived.Deep.QuietTactic
namespace Go.Proofs.Ytbfehifidlojlaa
open Go.RowKit
open Me

/-- The cells of a choice after one more was looked at. -/
def lookV (b : Bool) (v0 v : Value) (k0 k : Int) : Array Value := if b = false ∨ k < k0 then #[v, .int .i64 k, .bool true] else #[v0, .int .i64 k0, .bool b]
theorem look_c (c : Nat) (T : TypeId) (b : Bool) (A0 A : Option Addr) (n0 c0 n1 c1 : Nat) (k0 k : Int) (w : World) (hx : Box w c T #[.slice A0 n0 c0, .int .i64 k0, .bool b]) :
    Calls Try.prog 101 #[.pointer (some ⟨c, 0, none⟩), .slice A n1 c1, .int .i64 k] w fun e w' => (∃ v, e = .returned v) ∧ Box w' c T (lookV b (.slice A0 n0 c0) (.slice A n1 c1) k0 k) ∧ Kep (fun x => x = c) w w' := by
  have c0' := hx.cell (i := 0) rfl
  have c1' := hx.cell (i := 1) rfl
  have c2' := hx.cell (i := 2) rfl
  have f0 := hx.free 0
  have f1 := hx.free 1
  have f2 := hx.free 2
  have hlt := hx.lt
  have HX := Lib.hid hx
  clear hx
  cases b with
  | false =>
    go_enter Try.func101, Try.ntmps101
    go_wp2
    go_end0
    exact ⟨⟨_, rfl⟩, ((HX.out.set 0 _).set 1 _).set 2 _, (((Kep.refl _ _).set (S := fun x => x = c) rfl _ _).set rfl _ _).set rfl _ _⟩
  | true =>
    by_cases hk : k < k0
    · have e : lookV true (.slice A0 n0 c0) (.slice A n1 c1) k0 k = #[.slice A n1 c1, .int .i64 k, .bool true] := by unfold lookV; rw [if_pos (.inr hk)]
      rw [e]
      go_enter Try.func101, Try.ntmps101
      go_wp2
      go_end0
      exact ⟨⟨_, rfl⟩, ((HX.out.set 0 _).set 1 _).set 2 _, (((Kep.refl _ _).set (S := fun x => x = c) rfl _ _).set rfl _ _).set rfl _ _⟩
    · have e : lookV true (.slice A0 n0 c0) (.slice A n1 c1) k0 k = #[.slice A0 n0 c0, .int .i64 k0, .bool true] := by unfold lookV; rw [if_neg (by simp; omega)]
      rw [e]
      go_enter Try.func101, Try.ntmps101
      go_wp2
      go_end0
      exact ⟨⟨_, rfl⟩, HX.out, Kep.refl _ _⟩

/-- What the choice holds when some orders have come. -/
def LeastI (f : List Int → Int) (lo cb : Nat) (pre : List (List Int)) (W : World) : Prop :=
  ∃ (b : Bool) (A : Option Addr) (m c : Nat) (k : Int), Box W cb 109 #[.slice A m c, .int .i64 k, .bool b] ∧ (pre = [] → b = false) ∧
    (pre ≠ [] → b = true ∧ m = (least f pre).length ∧ k = f (least f pre) ∧ Sl encI W.heap.size W A c (least f pre) ∧ ∀ p, A = some p → lo ≤ p.block)
theorem LeastI.kep {f : List Int → Int} {lo cb : Nat} {pre : List (List Int)} {S : Nat → Prop} {W W' : World} (h : LeastI f lo cb pre W) (k : Kep S W W') (h1 : ¬ S cb) (h2 : ∀ b, S b → b < lo) : LeastI f lo cb pre W' := by
  obtain ⟨b, A, m, c, x, hb, hn, hs⟩ := h
  refine ⟨b, A, m, c, x, hb.kep k h1, hn, fun hp => ?_⟩
  obtain ⟨a1, a2, a3, a4, a5⟩ := hs hp
  exact ⟨a1, a2, a3, (k.sl a4 (Nat.le_refl _) (fun p hp hc => by have := h2 _ hc; have := a5 p hp; omega)).more k.size, a5⟩
/-- One more order. -/
theorem LeastI.look {f : List Int → Int} {lo cb : Nat} {pre : List (List Int)} {W W' : World} {x : List Int} {A1 : Option Addr} {c1 : Nat} {b : Bool} {A : Option Addr} {m c : Nat} {k : Int}
    (hn : pre = [] → b = false) (hs : pre ≠ [] → b = true ∧ m = (least f pre).length ∧ k = f (least f pre) ∧ Sl encI W.heap.size W A c (least f pre) ∧ ∀ p, A = some p → lo ≤ p.block)
    (hx : Sl encI W.heap.size W A1 c1 x) (hlo : ∀ p, A1 = some p → lo ≤ p.block) (hc : cb < lo) (hk : Kep (fun b => b = cb) W W')
    (hb : Box W' cb 109 (lookV b (.slice A m c) (.slice A1 x.length c1) k (f x))) : LeastI f lo cb (pre ++ [x]) W' := by
  have up : ∀ {A : Option Addr} {c : Nat} {y : List Int}, Sl encI W.heap.size W A c y → (∀ p, A = some p → lo ≤ p.block) → Sl encI W'.heap.size W' A c y := fun h1 h2 => (hk.sl h1 (Nat.le_refl _) (fun p hp e => by have := h2 p hp; have e : p.block = cb := e; omega)).more hk.size
  by_cases hp : pre = []
  · subst hp
    rw [hn rfl] at hb
    unfold lookV at hb
    rw [if_pos (.inl rfl)] at hb
    exact ⟨true, A1, x.length, c1, f x, hb, fun h => by simp at h, fun _ => ⟨rfl, rfl, rfl, up hx hlo, hlo⟩⟩
  · obtain ⟨rfl, rfl, rfl, h4, h5⟩ := hs hp
    unfold lookV at hb
    by_cases hl : f x < f (least f pre)
    · rw [if_pos (.inr hl)] at hb
      have e : least f (pre ++ [x]) = x := by rw [least_snoc f hp, if_pos hl]
      exact ⟨true, A1, x.length, c1, f x, hb, fun h => by simp at h, fun _ => ⟨rfl, by rw [e], by rw [e], by rw [e]; exact up hx hlo, hlo⟩⟩
    · rw [if_neg (by simp; omega)] at hb
      have e : least f (pre ++ [x]) = least f pre := by rw [least_snoc f hp, if_neg hl]
      exact ⟨true, A, _, c, _, hb, fun h => by simp at h, fun _ => ⟨rfl, by rw [e], by rw [e], by rw [e]; exact up h4 h5, h5⟩⟩

/-- A function that tells a number of each order of a net. -/
def Tells (fid : Nat) (r : NetR) (n : Net) (B : Nat) (w : World) (f : List Int → Int) : Prop := ∀ (l : List Int) (A : Option Addr) (c : Nat) (W : World), isOrd n l = true → NetIs B W r n → B ≤ W.heap.size → Sl encI W.heap.size W A c l →
  Calls Try.prog fid #[netV r n, .slice A l.length c] W fun e w' => e = .returned (.int .i64 (f l)) ∧ ∃ δ, w' = lat W δ

theorem round_call {P : Program} {fid : Nat} {args : Array Value} {W : World} {R R' : Ending → World → Prop} {m l : Nat} (h : Calls P fid args W R') (hm : ∀ e w, R' e w → R e w) :
    Fence.wide.fn fid ∧ (Fence.wide.depth.isSome = true → 1 ≤ m) ∧ CallsIn (Fence.wide.inRound l) (m - 1) P fid args W R :=
  ⟨trivial, fun h => by simp [Fence.wide] at h, (CallsIn.inRound l (callsIn_wide.2 (h.mono hm)))⟩

section
attribute [local go_sem] Oper.semAt_some
set_option maxRecDepth 100000 in
set_option maxHeartbeats 2000000 in
theorem least_c (fid : Nat) (hent : ∀ args w, (callFunc fid args).run Try.prog w = .ok (.enter fid args) w) (f : List Int → Int) (r : NetR) (n : Net) (hv : valid n = true) (B : Nat) (w : World) (hN : NetIs B w r n) [hB : Le B w] (hf : Tells fid r n B w f) :
    Calls Try.prog 87 #[netV r n, .func (.func fid) #[netV r n] #[]] w fun e w' => ∃ (A : Option Addr) (c : Nat) (δ : World), e = .returned (.tuple #[.slice A n.hs.length c, .int .i64 (f (least f (allO n)))]) ∧ w' = lat w δ ∧ Hid (Sl encI (lat w δ).heap.size (lat w δ) A c (least f (allO n))) := by
  have HN := Lib.hid hN
  have HV := Lib.hid hv
  have HF := Lib.hid hf
  have h6 := (ok_of hv).2.1
  clear hN hv hf
  refine calls_over Try.func87 rfl ?_
  simp only [Try.ntmps87, List.size_toArray, List.length_cons, List.length_nil, Nat.reduceAdd, Nat.reduceSub, Array.replicate_succ, Array.replicate_zero, List.push_toArray, List.append_toArray, List.nil_append, List.cons_append]
  go_wp2_with (go_at_call 88; refine (orders_c n r _).mono ?_; rintro e w1 ⟨rfl, rfl⟩)
  refine wp_name fun W0 hW0 => ?_
  have iw1 : Le B W0 := by rw [hW0.out]; infer_instance
  have iw2 : Grew B w W0 := by rw [hW0.out]; infer_instance
  have iw3 : Le w.heap.size W0 := by rw [hW0.out]; infer_instance
  have iw4 : Grew w.heap.size w W0 := by rw [hW0.out]; infer_instance
  have iw5 : Lt (w.heap.size) W0 := by rw [hW0.out]; infer_instance
  have iw6 : Lt (w.heap.size + 1) W0 := by rw [hW0.out]; infer_instance
  have iw7 : Lt (w.heap.size + 1 + 1) W0 := by rw [hW0.out]; infer_instance
  have iw8 : Lt (w.heap.size + 1 + 1 + 1) W0 := by rw [hW0.out]; infer_instance
  have cw9 : W0.cell? ⟨w.heap.size + 1 + 1 + 1, 0, none⟩ = some (.int .i64 n.m) := by rw [hW0.out]; go_simp
  have cw10 : W0.cell? ⟨w.heap.size + 1 + 1 + 1, 1, none⟩ = some (.slice r.hA n.hs.length r.hc) := by rw [hW0.out]; go_simp
  have cw11 : W0.cell? ⟨w.heap.size + 1 + 1 + 1, 2, none⟩ = some (.slice r.pA n.ps.length r.pc) := by rw [hW0.out]; go_simp
  have cw12 : W0.cell? ⟨w.heap.size + 1, 0, none⟩ = some (.func (.func fid) #[netV r n] #[]) := by rw [hW0.out]; go_simp
  have hz : W0.heap.size = w.heap.size + 4 := by rw [hW0.out]; simp
  have HX : Hid (Box W0 (w.heap.size + 1 + 1) 109 #[.slice none 0 0, .int .i64 0, .bool false]) := by rw [hW0.out]; exact (Box.new (by simp)).alloc _
  have HN0 : Hid (NetIs B W0 r n) := HN.out.up
  have HZ := Lib.hid hz
  have hBw := hB.out
  have HC : Hid (W0.cell? ⟨w.heap.size + 1, 0, none⟩ = some (.func (.func fid) #[netV r n] #[])) := by assumption
  clear hW0 hz
  refine wp_over n r B (w.heap.size + 1 + 1 + 1) rfl h6 HN0.out (by have := HZ.out; omega) (by have := HZ.out; omega) (by assumption) (by assumption) (by assumption)
    (fun b => b = w.heap.size + 1 + 1) (by rintro b rfl; have := HZ.out; omega)
    (LeastI f (W0.heap.size + 2) (w.heap.size + 1 + 1)) (fun _ _ _ => False)
    (by intro pre W W' h hk; exact h.kep hk (two_none (by have := HZ.out; omega)) (by rintro b (h | h | h); exact h.elim; omega; omega)) (fun _ _ _ _ h _ => h)
    ⟨false, none, 0, 0, 0, HX.out, fun _ => rfl, fun h => absurd rfl h⟩ (fun v => { tmps := #[netV r n, .func (.func fid) #[netV r n] #[], .pointer (some ⟨w.heap.size, 0, none⟩), .pointer (some ⟨w.heap.size + 1, 0, none⟩), .slice none 0 0, .int .i64 0, .pointer (some ⟨w.heap.size + 1 + 1, 0, none⟩), v,
      .agg #[.int .i64 n.m, .slice r.hA n.hs.length r.hc, .slice r.pA n.ps.length r.pc], .func (.func 102) #[] #[.pointer (some ⟨w.heap.size + 1 + 1 + 1, 0, none⟩)], v, undef, undef, undef, undef, undef, undef, undef, undef, undef], defers := [] }) ?assign ?body ?done ?stop
  case assign =>
    intro l m v W K hK
    gi_wp2
    simpa using hK
  case body =>
    rintro l m pre x v W hpre hI hl hk hs
    obtain ⟨A1, c1, rfl, hS1, hlo1⟩ := hl
    obtain ⟨b, A, k0, c0, y, hb, hn, hs2⟩ := hI
    have hx : isOrd n x = true := allO_mem.1 (hpre.subset (by simp))
    have cf := (hk.cell (b := w.heap.size + 1) (o := 0) (by have := HZ.out; omega) (by have := HZ.out; rintro (h | h | h) <;> omega)).trans HC.out
    have hNW := hk.net HN0.out (by have := HZ.out; omega) (by have := HZ.out; rintro b (h | h | h) <;> omega)
    have hcall := HF.out x A1 c1 W hx hNW (by have := hk.size; have := HZ.out; omega) hS1
    have hcb := hb.lt
    have HB := Lib.hid hb
    have HNN := Lib.hid hn
    have HS2 := Lib.hid hs2
    have HS1 := Lib.hid hS1
    have HLO := Lib.hid hlo1
    clear hb hn hs2 hS1 hlo1 hk hNW hx hpre hs
    gi_wp2
    refine round_call hcall ?_
    rintro e w1 ⟨rfl, δ, rfl⟩
    gi_wp2
    refine round_call (look_c (w.heap.size + 1 + 1) _ b A A1 k0 c0 _ c1 y _ _ (HB.out.lat δ)) ?_
    rintro e w2 ⟨⟨v', rfl⟩, hb2, hk2⟩
    gi_wp2
    refine ⟨(Kep.lat _ _ _).trans hk2, ?_⟩
    exact LeastI.look (W := lat W δ) HNN.out (fun hp => by
      obtain ⟨a1, a2, a3, a4, a5⟩ := HS2.out hp
      exact ⟨a1, a2, a3, a4.wide, a5⟩) HS1.out.wide HLO.out (by have := HZ.out; omega) hk2 hb2
  case done =>
    rintro W hI hk hD
    obtain ⟨b, A, k0, c0, y, hb, hn, hs2⟩ := hI
    obtain ⟨rfl, rfl, rfl, h4, h5⟩ := hs2 (hasO_ne (valid_iff.1 HV.out).2.2.2.2.2)
    have hlen : (least f (allO n)).length = n.hs.length := ord_len (allO_mem.1 (least_mem f (hasO_ne (valid_iff.1 HV.out).2.2.2.2.2)))
    rw [hlen] at hb
    have d0 := hb.cell (i := 0) rfl
    have d1 := hb.cell (i := 1) rfl
    have HD := Lib.hid hD
    have HK := Lib.hid hk
    have H4 := Lib.hid h4
    have H5 := Lib.hid h5
    clear hb hn hs2 hD hk h4 h5 hlen
    go_wp2_with (fail)
    go_region
    go_wp2_with (fail)
    obtain ⟨δ, hδ⟩ := over_lat (w := w) ((HK.out.drew).putObj (b := W0.heap.size) (.inr (.inl rfl)) (.deferred none)) (by have := HZ.out; rintro b (h | h | h) <;> omega)
    refine over_ret (v := .tuple #[.slice A n.hs.length c0, .int .i64 (f (least f (allO n)))]) HD.out ?_ ⟨A, c0, δ, rfl, hδ, ?_⟩
    · simp only [results, Try.results87]
      go_simp
    · rw [← hδ]
      refine ((((Kep.refl (fun b => b = W0.heap.size) W).drew).putObj rfl _).sl H4.out (Nat.le_refl _) (fun p hp e => ?_)).more ?_
      · have := H5.out p hp
        have e : p.block = W0.heap.size := e
        omega
      · rw [World.putObj_size]; exact Nat.le_refl _
  case stop => exact fun _ _ _ _ _ h => h.elim
end

end Go.Proofs.Ytbfehifidlojlaa
