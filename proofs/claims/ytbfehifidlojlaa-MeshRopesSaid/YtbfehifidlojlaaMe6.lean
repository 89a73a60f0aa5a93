/- Layer 4: the program's functions that go over all orders: has, least, First, regret. -/
import Derived.Test.YtbfehifidlojlaaMe5
namespace Go.Proofs.Ytbfehifidlojlaa
open Go.RowKit
open Me

theorem Box.kep {S : Nat → Prop} {W W' : World} {b : Nat} {T : TypeId} {cs : Array Value} (h : Box W b T cs) (k : Kep S W W') (hs : ¬ S b) : Box W' b T cs := (k.block b h.lt_ hs).trans h
theorem Box.put {W : World} {b D : Nat} {T : TypeId} {cs : Array Value} (h : Box W b T cs) (hne : b ≠ D) (o : Obj) : Box (W.putObj D o) b T cs := (World.putObj_heap_other hne).trans h
theorem two_none {D b : Nat} (h : b < D) : ¬ Two (fun _ => False) D b := by rintro (h | h | h); exact h; omega; omega

/-- A function with a loop over orders: its contract out of its body's walk. -/
theorem calls_over {f : FuncId} {fn : Func} {c : Code} {args : Array Value} {w : World} {R : Ending → World → Prop} (hf : Try.prog.funcs[f]? = some fn) (hb : fn.body = some c)
    (h : c.wp Try.prog (bodyPostM Fence.wide 3 Try.prog fn R) { tmps := args ++ Array.replicate (fn.ntmps - args.size) undef, defers := [] } w) : Calls Try.prog f args w R :=
  (callsIn_wide (n := 3)).1 (callsIn_of_wp_marks hf hb trivial (wpIn_wide.2 h) rfl)

theorem over_ret {fn : Func} {R : Ending → World → Prop} {t : Array Value} {D : Nat} {W : World} {v : Value} (hD : W.heap[D]? = some (.deferred (some [])))
    (hr : (results fn t).run Try.prog (W.putObj D (.deferred none)) = .ok v (W.putObj D (.deferred none))) (h : R (.returned v) (W.putObj D (.deferred none))) :
    bodyPostM Fence.wide 3 Try.prog fn R .ret { tmps := t, defers := [{ target := .collected D, args := #[] }] } W :=
  ⟨by simp, .inl ⟨_, _, rfl, run_takeDeferred hD, _, hr, h⟩⟩
theorem over_below {w W0 W : World} {S : Nat → Prop} [g : Grew w.heap.size w W0] [l : Le w.heap.size W0] (k : Kep S W0 W) (hs : ∀ b, S b → w.heap.size ≤ b) : Below w.heap.size w W := (grew_below (w := w) (W := W0)).trans (k.below l.out hs)
theorem over_lat {w W0 W : World} {S : Nat → Prop} [g : Grew w.heap.size w W0] [l : Le w.heap.size W0] (k : Kep S W0 W) (hs : ∀ b, S b → w.heap.size ≤ b) : ∃ δ, W = lat w δ := ⟨W, (lat_of (over_below k hs)).symm⟩

section
attribute [local go_sem] Oper.semAt_some
set_option maxHeartbeats 1000000 in
theorem has_c (r : NetR) (n : Net) (h6 : n.hs.length ≤ 6) (B : Nat) (w : World) (hN : NetIs B w r n) [hB : Le B w] :
    Calls Try.prog 76 #[netV r n] w fun e w' => e = .returned (.bool (hasO n)) ∧ ∃ δ, w' = lat w δ := by
  have HN := Lib.hid hN
  clear hN
  refine calls_over Try.func76 rfl ?_
  simp only [Try.ntmps76, List.size_toArray, List.length_cons, List.length_nil, Nat.reduceAdd, Nat.reduceSub, Array.replicate_succ, Array.replicate_zero, List.push_toArray, List.append_toArray, List.nil_append, List.cons_append]
  go_wp2_with (go_at_call 88; refine (orders_c n r _).mono ?_; rintro e w1 ⟨rfl, rfl⟩)
  refine wp_name fun W0 hW0 => ?_
  have iw1 : Le B W0 := by rw [hW0.out]; infer_instance
  have iw2 : Grew B w W0 := by rw [hW0.out]; infer_instance
  have iw3 : Le w.heap.size W0 := by rw [hW0.out]; infer_instance
  have iw4 : Grew w.heap.size w W0 := by rw [hW0.out]; infer_instance
  have iw5 : Lt (w.heap.size) W0 := by rw [hW0.out]; infer_instance
  have iw6 : Lt (w.heap.size + 1) W0 := by rw [hW0.out]; infer_instance
  have iw7 : Lt (w.heap.size + 1 + 1) W0 := by rw [hW0.out]; infer_instance
  have cw8 : W0.cell? ⟨w.heap.size + 1 + 1, 0, none⟩ = some (.int .i64 n.m) := by rw [hW0.out]; go_simp
  have cw9 : W0.cell? ⟨w.heap.size + 1 + 1, 1, none⟩ = some (.slice r.hA n.hs.length r.hc) := by rw [hW0.out]; go_simp
  have cw10 : W0.cell? ⟨w.heap.size + 1 + 1, 2, none⟩ = some (.slice r.pA n.ps.length r.pc) := by rw [hW0.out]; go_simp
  have X0 : Box W0 (w.heap.size + 1) 4 #[.bool false] := by rw [hW0.out]; exact (Box.new (by simp)).alloc _
  have hz : W0.heap.size = w.heap.size + 3 := by rw [hW0.out]; simp
  have HZ := Lib.hid hz
  have HX := Lib.hid X0
  have hBw := hB.out
  clear hW0 hz X0
  refine wp_over n r B (w.heap.size + 1 + 1) rfl h6 HN.out.up (by have := HZ.out; omega) (by have := HZ.out; omega) (by assumption) (by assumption) (by assumption)
    (fun b => b = w.heap.size + 1) (by rintro b rfl; have := HZ.out; omega)
    (fun pre W => pre = [] ∧ Box W (w.heap.size + 1) 4 #[.bool false]) (fun c pre W => c = .ret ∧ Box W (w.heap.size + 1) 4 #[.bool true])
    (by rintro pre W W' ⟨h1, h2⟩ hk; exact ⟨h1, h2.kep hk (two_none (by have := HZ.out; omega))⟩) (by rintro c pre W W' ⟨h1, h2⟩ hk; exact ⟨h1, h2.kep hk (two_none (by have := HZ.out; omega))⟩)
    ⟨rfl, HX.out⟩ (fun v => { tmps := #[netV r n, .pointer (some ⟨w.heap.size, 0, none⟩), .pointer (some ⟨w.heap.size + 1, 0, none⟩), .agg #[.int .i64 n.m, .slice r.hA n.hs.length r.hc, .slice r.pA n.ps.length r.pc], .func (.func 102) #[] #[.pointer (some ⟨w.heap.size + 1 + 1, 0, none⟩)], v], defers := [] }) ?assign ?body ?done ?stop
  case assign =>
    intro l m v W K hK
    gi_wp2
    simpa using hK
  case body =>
    rintro l m pre x v W hpre ⟨hp, hx⟩ hl hk hs
    have h1 := hx.cell (i := 0) rfl
    have h2 := hx.free 0
    gi_wp2
    exact ⟨(Kep.refl _ _).set (S := fun b => b = w.heap.size + 1) rfl _ _, rfl, hx.set 0 _⟩
  case done =>
    rintro W ⟨hp, hx⟩ hk hD
    have h1 := hx.cell (i := 0) rfl
    have h2 := hx.free 0
    have hlt := hx.lt
    have HK := Lib.hid hk
    have HD := Lib.hid hD
    have HP := Lib.hid hp
    clear hk hD hp
    go_wp2_with (fail)
    have hx2 : Box ((W.setCell ⟨w.heap.size + 1, 0, none⟩ (.bool false)).putObj W0.heap.size (.deferred none)) (w.heap.size + 1) 4 #[.bool false] := (hx.set 0 (.bool false)).put (by have := HZ.out; omega) _
    have h3 := hx2.cell (i := 0) rfl
    have e : hasO n = false := by unfold hasO; rw [HP.out]; rfl
    rw [e]
    refine over_ret (v := .bool false) ?_ ?_ ⟨rfl, over_lat ((HK.out.set (b := w.heap.size + 1) (.inl rfl) _ _).putObj (.inr (.inl rfl)) _) ?_⟩
    · exact (Below.heap_setCell W ⟨w.heap.size + 1, 0, none⟩ _ _ (by have := HZ.out; show W0.heap.size ≠ w.heap.size + 1; omega)).trans HD.out
    · simp only [results, Try.results76]
      go_simp
    · rintro b (h | h | h) <;> (have := HZ.out; omega)
  case stop =>
    rintro c pre W hpre hp0 ⟨rfl, hx⟩ hk hD
    have h1 := hx.cell (i := 0) rfl
    have HK := Lib.hid hk
    have HD := Lib.hid hD
    clear hk hD
    go_wp2_with (fail)
    have hx2 : Box (W.putObj W0.heap.size (.deferred none)) (w.heap.size + 1) 4 #[.bool true] := hx.put (by have := HZ.out; omega) _
    have h3 := hx2.cell (i := 0) rfl
    have e : hasO n = true := by
      unfold hasO
      cases hl : allO n with
      | nil => rw [hl] at hpre; exact absurd (List.prefix_nil.1 hpre) hp0
      | cons => rfl
    rw [e]
    refine over_ret (v := .bool true) HD.out ?_ ⟨rfl, over_lat (HK.out.putObj (.inr (.inl rfl)) _) ?_⟩
    · simp only [results, Try.results76]
      go_simp
    · rintro b (h | h | h) <;> (have := HZ.out; omega)
end

end Go.Proofs.Ytbfehifidlojlaa
