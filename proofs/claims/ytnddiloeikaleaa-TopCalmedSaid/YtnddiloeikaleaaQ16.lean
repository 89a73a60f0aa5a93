/- Towards the claim of XLawCalmed: Layer 13, for the calm sky: the reference's copy of a season. Layer 13, for the calm sky: the laws' Huge and Far. Layer 13, for the calm sky: the law's Far. Layers 5 and 13, for the calm sky: the laws' examples. Layer 13, for the calm sky: the law's example. Layer 13, for the calm sky: the examples that are checked. -/
import Derived.Test.YtnddiloeikaleaaQ15
import Derived.Test.YtnddiloeikaleaaQ1
import Derived.Test.YtnddiloeikaleaaQ2
import Derived.Test.YtnddiloeikaleaaQ5
import Derived.Test.YtnddiloeikaleaaQ7
import Derived.Test.YtnddiloeikaleaaQ8
namespace Go.Proofs.Ytnddiloeikaleaa
open Go.RowKit
open An
open Tc

/-! A region that draws its order, by a condition that each operation keeps. -/
section
variable {P : Program} {md : Region.Mode} {ops : Array Oper} {Q : Exit → Act → World → Prop} {S : World → Prop}
theorem left_none {l : Array Bool} (h : l.toList.count false = 0) : Region.ready md ops l = [] := by
  rw [List.eq_nil_iff_forall_not_mem]
  intro j hj
  have h1 := (mem_ready.1 hj).1
  have h2 := List.count_eq_zero.1 h
  rcases Nat.lt_or_ge j l.size with hl | hl
  · rw [Array.getD_eq_getD_getElem?, Array.getElem?_eq_getElem hl] at h1
    exact h2 (by rw [Array.mem_toList_iff]; exact h1 ▸ Array.getElem_mem hl)
  · rw [Array.getD_eq_getD_getElem?, Array.getElem?_eq_none hl] at h1
    cases h1
theorem left_set {l : Array Bool} {i : Nat} (h : l.getD i true = false) : (l.setIfInBounds i true).toList.count false + 1 = l.toList.count false := by
  have hl : i < l.size := by
    rcases Nat.lt_or_ge i l.size with hl | hl
    · exact hl
    · rw [Array.getD_eq_getD_getElem?, Array.getElem?_eq_none hl] at h; cases h
  rw [Array.getD_eq_getD_getElem?, Array.getElem?_eq_getElem hl] at h
  have h1 : l.toList[i]'(by simpa using hl) = false := by simpa using h
  have h2 : 0 < l.toList.count false := List.count_pos_iff.2 (h1 ▸ List.getElem_mem _)
  have h3 : (l.setIfInBounds i true).toList = l.toList.set i true := by simp
  rw [h3, List.count_set (by simpa using hl), h1, show (if (false == false) = true then 1 else 0) = 1 from rfl, show (if (true == false) = true then 1 else 0) = 0 from rfl]
  omega
theorem wpAnyH_inv (Inv : Array Bool → Act → World → Prop)
    (hstep : ∀ l a w i, Inv l a w → i ∈ Region.ready md ops l → wpOp P ops Q i (fun a' w' => S w' ∧ Inv (l.setIfInBounds i true) a' w') a w)
    (hend : ∀ l a w, Inv l a w → Region.ready md ops l = [] → Q .normal a w) :
    ∀ f l a w, l.toList.count false ≤ f → Inv l a w → wpAnyH P md ops Q S f l a w := by
  intro f
  induction f with
  | zero => intro l a w hf h; exact ⟨left_none (by omega), hend l a w h (left_none (by omega))⟩
  | succ f ih =>
    intro l a w hf h
    refine ⟨hend l a w h, fun i hi => wpOp_mono (fun a' w' k => ⟨k.1, ih _ a' w' ?_ k.2⟩) (hstep l a w i h hi)⟩
    have := left_set (mem_ready.1 hi).1
    omega
end

def zeroSR : SeasonR := ⟨⟨none, 0, none, 0, none, 0⟩, ⟨none, 0, none, 0⟩, none, 0, none, 0, none, 0, none, 0⟩
def zeroS : Season := ⟨⟨⟨0, 0⟩, ⟨0, 0⟩, [], [], []⟩, ⟨⟨0, 0⟩, [], []⟩, [], [], [], []⟩
theorem slSky : SlT Try.prog 32 59 (.agg #[.int .i64 0, .int .i64 0, .int .i64 0, .int .i64 0]) 4 32 := SlT.mk Try.underlying32 (by kernel_rfl) rfl (by omega)
theorem one_sky : ∀ x, ∀ u ∈ encSky x, u.oneCell' = true := by intro x u hu; simp [encSky] at hu; rcases hu with rfl | rfl | rfl | rfl <;> rfl
theorem one_int' : ∀ x : Int, ∀ u ∈ encI x, u.oneCell' = true := by intro x u hu; simp [encI] at hu; subst hu; rfl
theorem grownBy_of {W W' : World} (ob : Option Nat) [hg : Grew W.heap.size W W'] [hl : Le W.heap.size W'] : W.grownBy W' ob := ⟨hg.out.1, hg.out.2.1, hg.out.2.2.1, hl.out, fun k hk _ => hg.out.2.2.2 k hk⟩
theorem own_kp {w w' : World} {base n size g T n' c' size' base' : Nat} {e : TypeId} {v : Value} {xs xs' : List Value} (h : w.ownsRow base e size v n xs) (h' : w.ownsRow base' T size' (.slice (some ⟨g, 0, none⟩) n' c') n' xs') (hg : w.grownBy w' (some g)) (hne : e ≠ T ∨ v.ownBlock ≠ some g) : w'.ownsRow base e size v n xs :=
  h.kept hg (.inr (hne.elim (fun k => own_ne h h' k) id))
/-- What a region that copies a season has made so far. -/
structure CpF (base : Nat) (s : Season) (v7 v10 v11 v14 v15 v18 v19 v22 v3 : Value) (W : World) (p2 p5 q6 p9 q10 p13 q14 p17 p19 : Prop) : Prop where
  f7 : p2 → ∃ r', v7 = netV r' s.net ∧ NetOwn base W r' s.net ∧ (q14 → (Value.slice r'.gA s.net.grips.length r'.gc).ownBlock ≠ v19.ownBlock)
  f10 : p5 → ∃ r', v10 = seaV r' s.sea ∧ SeaOwn base W r' s.sea ∧ (q14 → (Value.slice r'.pA s.sea.places.length r'.pc).ownBlock ≠ v19.ownBlock)
  f11 : q6 → ∃ g, v11 = .slice (some ⟨g, 0, none⟩) 0 0 ∧ W.ownsRow base 59 4 (.slice (some ⟨g, 0, none⟩) 0 0) 0 []
  f14 : p9 → ∃ A c, v14 = .slice A s.skies.length c ∧ W.ownsRow base 59 4 (.slice A s.skies.length c) s.skies.length (s.skies.flatMap encSky)
  f15 : q10 → ∃ g, v15 = .slice (some ⟨g, 0, none⟩) 0 0 ∧ W.ownsRow base 3 1 (.slice (some ⟨g, 0, none⟩) 0 0) 0 []
  f18 : p13 → ∃ A c, v18 = .slice A s.first.length c ∧ W.ownsRow base 3 1 (.slice A s.first.length c) s.first.length (s.first.flatMap encI)
  f19 : q14 → ∃ g, v19 = .slice (some ⟨g, 0, none⟩) 0 0 ∧ W.ownsRow base 23 2 (.slice (some ⟨g, 0, none⟩) 0 0) 0 []
  f22 : p17 → ∃ A c, v22 = .slice A s.days.length c ∧ W.ownsRow base 23 2 (.slice A s.days.length c) s.days.length (s.days.flatMap encSp)
  f3 : p19 → ∃ g, v3 = .pointer (some ⟨g, 0, none⟩) ∧ base ≤ g ∧ Box W g 36 (seasonA zeroSR zeroS)
section
variable {base : Nat} {s : Season} {v7 v10 v11 v14 v15 v18 v19 v22 v3 : Value} {W W' : World} {p2 p5 q6 p9 q10 p13 q14 p17 p19 P2 P5 Q6 P9 Q10 P13 Q14 P17 P19 : Prop}
theorem CpF.weak (h : CpF base s v7 v10 v11 v14 v15 v18 v19 v22 v3 W p2 p5 q6 p9 q10 p13 q14 p17 p19) (h2 : P2 → p2) (h5 : P5 → p5) (h6 : Q6 → q6) (h9 : P9 → p9) (h10 : Q10 → q10) (h13 : P13 → p13) (h14 : Q14 → q14) (h17 : P17 → p17) (h19 : P19 → p19) :
    CpF base s v7 v10 v11 v14 v15 v18 v19 v22 v3 W P2 P5 Q6 P9 Q10 P13 Q14 P17 P19 :=
  ⟨fun k => (h.f7 (h2 k)).imp fun _ x => ⟨x.1, x.2.1, fun k => x.2.2 (h14 k)⟩, fun k => (h.f10 (h5 k)).imp fun _ x => ⟨x.1, x.2.1, fun k => x.2.2 (h14 k)⟩, fun k => h.f11 (h6 k), fun k => h.f14 (h9 k), fun k => h.f15 (h10 k), fun k => h.f18 (h13 k), fun k => h.f19 (h14 k), fun k => h.f22 (h17 k), fun k => h.f3 (h19 k)⟩
/-- Where memory only grows, all of it stands. -/
theorem CpF.grow (h : CpF base s v7 v10 v11 v14 v15 v18 v19 v22 v3 W p2 p5 q6 p9 q10 p13 q14 p17 p19) (hg : W.grownBy W' none) :
    CpF base s v7 v10 v11 v14 v15 v18 v19 v22 v3 W' p2 p5 q6 p9 q10 p13 q14 p17 p19 := by
  have kp : ∀ {e n size v xs}, W.ownsRow base e size v n xs → W'.ownsRow base e size v n xs := fun {e n size v xs} h => h.kept hg (by cases v.ownBlock <;> simp)
  refine ⟨fun k => (h.f7 k).imp fun _ x => ⟨x.1, ⟨kp x.2.1.1, kp x.2.1.2.1, kp x.2.1.2.2⟩, x.2.2⟩, fun k => (h.f10 k).imp fun _ x => ⟨x.1, ⟨kp x.2.1.1, kp x.2.1.2⟩, x.2.2⟩, fun k => (h.f11 k).imp fun _ x => ⟨x.1, kp x.2⟩, fun k => (h.f14 k).imp fun _ x => x.imp fun _ x => ⟨x.1, kp x.2⟩,
    fun k => (h.f15 k).imp fun _ x => ⟨x.1, kp x.2⟩, fun k => (h.f18 k).imp fun _ x => x.imp fun _ x => ⟨x.1, kp x.2⟩, fun k => (h.f19 k).imp fun _ x => ⟨x.1, kp x.2⟩, fun k => (h.f22 k).imp fun _ x => x.imp fun _ x => ⟨x.1, kp x.2⟩, fun k => (h.f3 k).imp fun g x => ⟨x.1, x.2.1, (hg.block g x.2.2.lt_ (by simp)).trans x.2.2⟩⟩
/-- An append to a literal of type T. -/
theorem CpF.past (h : CpF base s v7 v10 v11 v14 v15 v18 v19 v22 v3 W p2 p5 q6 p9 q10 p13 q14 p17 p19) {T g size' n' c' base' : Nat} {xs' : List Value} (h' : W.ownsRow base' T size' (.slice (some ⟨g, 0, none⟩) n' c') n' xs') (hg : W.grownBy W' (some g)) (hT : T ≠ 36)
    (hT1 : T = 59 ∧ ¬ q6 ∧ ¬ p9 ∨ T = 3 ∧ ¬ q10 ∧ ¬ p13 ∨ T = 23 ∧ ¬ q14 ∧ ¬ p17 ∧ (∀ r', v7 = netV r' s.net → NetOwn base W r' s.net → p2 → (Value.slice r'.gA s.net.grips.length r'.gc).ownBlock ≠ some g) ∧ (∀ r', v10 = seaV r' s.sea → SeaOwn base W r' s.sea → p5 → (Value.slice r'.pA s.sea.places.length r'.pc).ownBlock ≠ some g)) :
    CpF base s v7 v10 v11 v14 v15 v18 v19 v22 v3 W' p2 p5 q6 p9 q10 p13 q14 p17 p19 := by
  have kp : ∀ {e n size v xs}, W.ownsRow base e size v n xs → e ≠ T ∨ v.ownBlock ≠ some g → W'.ownsRow base e size v n xs := fun {e n size v xs} h hn => own_kp h h' hg hn
  have kb : ∀ b, Box W b 36 (seasonA zeroSR zeroS) → Box W' b 36 (seasonA zeroSR zeroS) := fun b hb => (hg.block b hb.lt_ (fun e => by
    rcases h'.2 with ⟨hv, _⟩ | ⟨g2, cap, cur, hv, _, hh, _⟩
    · cases hv
    · injection hv with hA; injection hA with hA; injection hA with hA
      subst hA
      injection e with e
      subst e
      unfold Box at hb
      rw [hb] at hh
      injection hh with hh
      injection hh with _ ht
      exact hT ht.symm)).trans hb
  rcases hT1 with ⟨rfl, a, b⟩ | ⟨rfl, a, b⟩ | ⟨rfl, a, b, c, d⟩
  · exact ⟨fun k => (h.f7 k).imp fun _ x => ⟨x.1, ⟨kp x.2.1.1 (.inl (by decide)), kp x.2.1.2.1 (.inl (by decide)), kp x.2.1.2.2 (.inl (by decide))⟩, x.2.2⟩, fun k => (h.f10 k).imp fun _ x => ⟨x.1, ⟨kp x.2.1.1 (.inl (by decide)), kp x.2.1.2 (.inl (by decide))⟩, x.2.2⟩, fun k => absurd k a, fun k => absurd k b,
      fun k => (h.f15 k).imp fun _ x => ⟨x.1, kp x.2 (.inl (by decide))⟩, fun k => (h.f18 k).imp fun _ x => x.imp fun _ x => ⟨x.1, kp x.2 (.inl (by decide))⟩, fun k => (h.f19 k).imp fun _ x => ⟨x.1, kp x.2 (.inl (by decide))⟩, fun k => (h.f22 k).imp fun _ x => x.imp fun _ x => ⟨x.1, kp x.2 (.inl (by decide))⟩, fun k => (h.f3 k).imp fun g x => ⟨x.1, x.2.1, kb g x.2.2⟩⟩
  · exact ⟨fun k => (h.f7 k).imp fun _ x => ⟨x.1, ⟨kp x.2.1.1 (.inl (by decide)), kp x.2.1.2.1 (.inl (by decide)), kp x.2.1.2.2 (.inl (by decide))⟩, x.2.2⟩, fun k => (h.f10 k).imp fun _ x => ⟨x.1, ⟨kp x.2.1.1 (.inl (by decide)), kp x.2.1.2 (.inl (by decide))⟩, x.2.2⟩, fun k => (h.f11 k).imp fun _ x => ⟨x.1, kp x.2 (.inl (by decide))⟩, fun k => (h.f14 k).imp fun _ x => x.imp fun _ x => ⟨x.1, kp x.2 (.inl (by decide))⟩,
      fun k => absurd k a, fun k => absurd k b, fun k => (h.f19 k).imp fun _ x => ⟨x.1, kp x.2 (.inl (by decide))⟩, fun k => (h.f22 k).imp fun _ x => x.imp fun _ x => ⟨x.1, kp x.2 (.inl (by decide))⟩, fun k => (h.f3 k).imp fun g x => ⟨x.1, x.2.1, kb g x.2.2⟩⟩
  · exact ⟨fun k => (h.f7 k).imp fun r' x => ⟨x.1, ⟨kp x.2.1.1 (.inr (c r' x.1 x.2.1 k)), kp x.2.1.2.1 (.inl (by decide)), kp x.2.1.2.2 (.inl (by decide))⟩, x.2.2⟩, fun k => (h.f10 k).imp fun r' x => ⟨x.1, ⟨kp x.2.1.1 (.inr (d r' x.1 x.2.1 k)), kp x.2.1.2 (.inl (by decide))⟩, x.2.2⟩, fun k => (h.f11 k).imp fun _ x => ⟨x.1, kp x.2 (.inl (by decide))⟩, fun k => (h.f14 k).imp fun _ x => x.imp fun _ x => ⟨x.1, kp x.2 (.inl (by decide))⟩,
      fun k => (h.f15 k).imp fun _ x => ⟨x.1, kp x.2 (.inl (by decide))⟩, fun k => (h.f18 k).imp fun _ x => x.imp fun _ x => ⟨x.1, kp x.2 (.inl (by decide))⟩, fun k => absurd k a, fun k => absurd k b, fun k => (h.f3 k).imp fun g x => ⟨x.1, x.2.1, kb g x.2.2⟩⟩
end
/-- Where no operation waits for a later one, none is left when none is ready. -/
def fallsB (ops : Array Oper) : Bool := (List.range ops.size).all fun i => ((ops[i]?).map fun o => o.after.all fun e => decide (e.on < i)).getD true
theorem all_listed {md : Region.Mode} {ops : Array Oper} {l : Array Bool} (hf : fallsB ops = true) (hs : l.size = ops.size) (hr : Region.ready md ops l = []) : ∀ k, k < ops.size → l.getD k true = true := by
  intro k
  induction k using Nat.strongRecOn with
  | ind k ih =>
    intro hk
    rcases hq : l.getD k true with _ | _
    · exfalso
      have : k ∈ Region.ready md ops l := mem_ready.2 ⟨hq, ops[k], Array.getElem?_eq_getElem hk, fun e he _ => by
        have h1 := List.all_eq_true.1 hf k (List.mem_range.2 hk)
        rw [Array.getElem?_eq_getElem hk] at h1
        simp only [Option.map_some, Option.getD_some, Array.all_eq_true', decide_eq_true_eq] at h1
        have h2 := h1 e he
        have h3 := ih e.on h2 (by omega)
        rw [Array.getD_eq_getD_getElem?, Array.getElem?_eq_getElem (by omega : e.on < l.size)] at h3 ⊢
        exact h3⟩
      rw [hr] at this
      cases this
    · rfl
theorem ready_dep {md : Region.Mode} {ops : Array Oper} {l : Array Bool} {i : Nat} (hi : i ∈ Region.ready md ops l) (d : Nat) (hl : d < l.size) (hd : ((ops[i]?).map fun o => o.after.any fun e => Region.binds md e && e.on == d) = some true) : l.getD d true = true := by
  obtain ⟨_, o, ho, h⟩ := mem_ready.1 hi
  rw [ho] at hd
  simp only [Option.map_some, Option.some.injEq, Array.any_eq_true', Bool.and_eq_true, beq_iff_eq] at hd
  obtain ⟨e, he, hb, rfl⟩ := hd
  have := h e he hb
  rw [Array.getD_eq_getD_getElem?, Array.getElem?_eq_getElem hl] at this ⊢
  exact this
theorem ready_all {md : Region.Mode} {ops : Array Oper} {l : Array Bool} {i : Nat} (hi : i ∈ Region.ready md ops l) (n : Nat) (hl : n ≤ l.size) (hd : ((List.range n).all fun d => ((ops[i]?).map fun o => o.after.any fun e => Region.binds md e && e.on == d) == some true) = true) : ∀ d, d < n → l.getD d true = true :=
  fun d h => ready_dep hi d (by omega) (by simpa using List.all_eq_true.1 hd d (List.mem_range.2 h))
theorem getD_set' {l : Array Bool} {i : Nat} (k : Nat) (hi : i < l.size) : (l.setIfInBounds i true).getD k true = if k = i then true else l.getD k true := by
  by_cases h : k = i
  · subst h; simp [Array.getD_eq_getD_getElem?, hi]
  · rw [if_neg h, getD_set_ne true (Ne.symm h)]

theorem own_bx {w : World} {base n size b : Nat} {e T : TypeId} {v : Value} {xs : List Value} {cs : Array Value} (h : w.ownsRow base e size v n xs) (hb : Box w b T cs) (hne : T ≠ e) : v.ownBlock ≠ some b := by
  intro hv
  rcases h.2 with ⟨rfl, _⟩ | ⟨g, cap, cur, rfl, _, hh, _⟩
  · cases hv
  · have : g = b := by simpa [Value.ownBlock] using hv
    subst this
    unfold Box at hb
    rw [hb] at hh
    injection hh with hh
    injection hh with _ ht
    exact hne ht
theorem grown_kep {w w' : World} {g : Nat} (k : Kep (fun x => x = g) w w') : w.grownBy w' (some g) := ⟨k.2, k.3, k.4, k.1, fun j hj hne => k.5 j hj fun e => hne (by rw [e])⟩
theorem own_kpb {w w' : World} {base n size g : Nat} {e T : TypeId} {v : Value} {xs : List Value} {cs : Array Value} (h : w.ownsRow base e size v n xs) (hb : Box w g T cs) (hne : T ≠ e) (k : Kep (fun x => x = g) w w') : w'.ownsRow base e size v n xs :=
  h.kept (grown_kep k) (.inr (own_bx h hb hne))
theorem op_storeB {P : Program} {W : World} {b : Nat} {T ty : TypeId} {cs cs' : Array Value} {o : Oper} {a : Act} {n : Nat} {K : Act → World → Prop} {Q : Exit → Act → World → Prop} (hT : RowT P ty n) (x y : Operand) (ho : o.op = .store ty x y) (hx : a.eval x = .pointer (some ⟨b, 0, none⟩)) (hy : a.eval y = .agg cs') (hb : Box W b T cs) (hn : cs.size = n) (hn' : cs'.size = n) (h1 : cs'.all (·.oneCell') = true)
    (h : ∀ W', Box W' b T cs' → Kep (fun x => x = b) W W' → K (a.put o.dst undef) W') : o.wp P a W K Q := by
  obtain ⟨_, h3⟩ := hT
  subst hn
  exact wp_store_row ty x y ho b cs' hx hy T cs hb (by rw [hn']; exact h3) hn'.symm h1 (h _ (hb.setRow cs') (Kep.setRow _ _ _))
theorem op_build {P : Program} {W : World} {o : Oper} {a : Act} {K : Act → World → Prop} {Q : Exit → Act → World → Prop} (t : TypeId) (parts : Array (Nat × Operand)) (ho : o.op = .build t parts) {cells : Array Value} {ps : List (Nat × Value)}
    (hp : parts.toList.map (fun p => (p.1, a.eval p.2)) = ps) (hc : P.built t ps = some cells) (h : K (a.put o.dst (.agg cells)) W) : o.wp P a W K Q := by
  have hp' : (parts.map fun (i, x) => (i, a.eval x)).toList = ps := by rw [← hp, Array.toList_map]
  rw [← hp'] at hc
  unfold Oper.wp execOp
  simp only [ho, Sem.run_bind, run_build W t _ cells hc, Result.andThen_ok]
  exact h
/-- A season's rows but those of what follows, all of them one's own. -/
def PartOwn (base : Nat) (w : World) (r : SeasonR) (s : Season) : Prop :=
  NetOwn base w r.net s.net ∧ SeaOwn base w r.sea s.sea ∧ w.ownsRow base 59 4 (.slice r.kA s.skies.length r.kc) s.skies.length (s.skies.flatMap encSky) ∧ w.ownsRow base 3 1 (.slice r.iA s.first.length r.ic) s.first.length (s.first.flatMap encI) ∧ w.ownsRow base 23 2 (.slice r.dA s.days.length r.dc) s.days.length (s.days.flatMap encSp)
theorem PartOwn.kepB {base g : Nat} {w w' : World} {r : SeasonR} {s : Season} {cs : Array Value} (h : PartOwn base w r s) (hb : Box w g 36 cs) (k : Kep (fun x => x = g) w w') : PartOwn base w' r s :=
  ⟨⟨own_kpb h.1.1 hb (by decide) k, own_kpb h.1.2.1 hb (by decide) k, own_kpb h.1.2.2 hb (by decide) k⟩, ⟨own_kpb h.2.1.1 hb (by decide) k, own_kpb h.2.1.2 hb (by decide) k⟩, own_kpb h.2.2.1 hb (by decide) k, own_kpb h.2.2.2.1 hb (by decide) k, own_kpb h.2.2.2.2 hb (by decide) k⟩
theorem grew_kpb {base g : Nat} {W1 W W' : World} (h : Grew base W1 W) (k : Kep (fun x => x = g) W W') (hb : base ≤ g) (hl : base ≤ W.heap.size) : Grew base W1 W' :=
  ⟨⟨k.2.trans h.out.1, k.3.trans h.out.2.1, k.4.trans h.out.2.2.1, fun b hb' => (k.5 b (by omega) (fun e => by have e' : b = g := e; omega)).trans (h.out.2.2.2 b hb')⟩⟩
theorem avoid_new {W W' : World} {base' e size n g e' size' n' c' m cc : Nat} {v : Value} {xs xs' : List Value} (h : W'.ownsRow W.heap.size e size v n xs) (h' : W.ownsRow base' e' size' (.slice (some ⟨g, 0, none⟩) n' c') n' xs') : v.ownBlock ≠ (Value.slice (some ⟨g, 0, none⟩) m cc).ownBlock := fun he => by
  have h1 := (h.lt g he).1
  have h2 := (h'.lt g rfl).2
  omega
theorem avoid_lit {W : World} {base e size n m cc : Nat} {v : Value} {xs : List Value} (h : W.ownsRow base e size v n xs) : v.ownBlock ≠ (Value.slice (some ⟨W.heap.size, 0, none⟩) m cc).ownBlock := fun he => by
  have h2 := (h.lt _ he).2
  exact absurd h2 (Nat.lt_irrefl _)
theorem net_gA {r r' : NetR} {n : Net} (h : netV r n = netV r' n) : r.gA = r'.gA ∧ r.gc = r'.gc := by
  simp only [netV, Value.agg.injEq, Array.mk.injEq, List.cons.injEq, Value.slice.injEq] at h
  exact ⟨h.2.2.2.2.1.1, h.2.2.2.2.1.2.2⟩
theorem sea_pA {r r' : SeaR} {n : Sea} (h : seaV r n = seaV r' n) : r.pA = r'.pA ∧ r.pc = r'.pc := by
  simp only [seaV, Value.agg.injEq, Array.mk.injEq, List.cons.injEq, Value.slice.injEq] at h
  exact ⟨h.2.2.1.1, h.2.2.1.2.2⟩
theorem PartOwn.up {base : Nat} {w w' : World} {r : SeasonR} {s : Season} (h : PartOwn base w r s) [Grew w.heap.size w w'] : PartOwn base w' r s :=
  ⟨⟨owns_up h.1.1, owns_up h.1.2.1, owns_up h.1.2.2⟩, ⟨owns_up h.2.1.1, owns_up h.2.1.2⟩, owns_up h.2.2.1, owns_up h.2.2.2.1, owns_up h.2.2.2.2⟩
theorem own_pst {w w' : World} {base base' n n' size size' : Nat} {e e' : TypeId} {v v' : Value} {xs xs' : List Value} (h : w.ownsRow base e size v n xs) (h' : w.ownsRow base' e' size' v' n' xs') (hne : e ≠ e') (hg : w.grownBy w' v'.ownBlock) : w'.ownsRow base e size v n xs := by
  rcases h'.2 with ⟨rfl, _⟩ | ⟨g, cap, cur, rfl, _⟩
  · by_cases hv : v.ownBlock = none
    · exact h.kept hg (.inl hv)
    · exact h.kept hg (.inr hv)
  · exact h.kept hg (.inr (own_ne h h' hne))
theorem box_pst {w w' : World} {base n size b : Nat} {e T : TypeId} {v : Value} {xs : List Value} {cs : Array Value} (hb : Box w b T cs) (h : w.ownsRow base e size v n xs) (hne : T ≠ e) (hg : w.grownBy w' v.ownBlock) : Box w' b T cs :=
  (hg.block b hb.lt_ (fun e' => own_bx h hb hne e'.symm)).trans hb
theorem PartOwn.pst {base base' n' : Nat} {w w' : World} {r : SeasonR} {s : Season} {v' : Value} {xs' : List Value} (h : PartOwn base w r s) (h' : w.ownsRow base' 34 1 v' n' xs') (hg : w.grownBy w' v'.ownBlock) : PartOwn base w' r s :=
  ⟨⟨own_pst h.1.1 h' (by decide) hg, own_pst h.1.2.1 h' (by decide) hg, own_pst h.1.2.2 h' (by decide) hg⟩, ⟨own_pst h.2.1.1 h' (by decide) hg, own_pst h.2.1.2 h' (by decide) hg⟩, own_pst h.2.2.1 h' (by decide) hg, own_pst h.2.2.2.1 h' (by decide) hg, own_pst h.2.2.2.2 h' (by decide) hg⟩
theorem PartOwn.mono {base base' : Nat} {w : World} {r : SeasonR} {s : Season} (h : PartOwn base w r s) (hb : base' ≤ base) : PartOwn base' w r s :=
  ⟨NetOwn.mono h.1 hb, SeaOwn.mono h.2.1 hb, owns_mono h.2.2.1 hb, owns_mono h.2.2.2.1 hb, owns_mono h.2.2.2.2 hb⟩
theorem Subs.kpb {T : TypeId} {enc : Int → List Value} {w w' : World} {cs : List Value} {xss : List (List Int)} {g : Nat} {TT : TypeId} {bs : Array Value} (h : Subs T enc w cs xss) (hb : Box w g TT bs) (hne : TT ≠ T) (k : Kep (fun x => x = g) w w') : Subs T enc w' cs xss :=
  h.keep k.size fun b cur fr hbl hh => k.block b hbl fun e => by
    have e' : b = g := e
    subst e'
    unfold Box at hb
    rw [hb] at hh
    injection hh with hh
    injection hh with _ ht
    exact hne ht
/-- A season whose rows are all one's own. -/
def SeasonOwn (base : Nat) (w : World) (r : SeasonR) (s : Season) : Prop :=
  PartOwn base w r s ∧ ∃ cs, w.ownsRow base 34 1 (.slice r.fA s.follows.length r.fc) s.follows.length cs ∧ Subs 3 encI w cs s.follows
/-- The frame of the region. -/
def cpA (b1 : Nat) (r : SeasonR) (s : Season) (v3 v7 v10 v11 v14 v15 v18 v19 v22 v23 : Value) : Act :=
  { tmps := #[seasonV r s, .pointer (some ⟨b1, 0, none⟩), .pointer (some ⟨b1 + 1, 0, none⟩), v3, undef, .pointer (some ⟨b1, 0, none⟩), netV r.net s.net, v7, .pointer (some ⟨b1, 7, none⟩), seaV r.sea s.sea, v10, v11, .pointer (some ⟨b1, 11, none⟩), .slice r.kA s.skies.length r.kc, v14, v15, .pointer (some ⟨b1, 13, none⟩), .slice r.iA s.first.length r.ic, v18, v19, .pointer (some ⟨b1, 14, none⟩), .slice r.dA s.days.length r.dc, v22, v23,
      undef, undef, undef, undef, undef, undef, undef, undef, undef, undef, undef, undef, undef, undef, undef, undef, undef, undef, undef, undef], defers := [] }
def CpI (b1 : Nat) (W1 : World) (r : SeasonR) (s : Season) (l : Array Bool) (a : Act) (W : World) : Prop :=
  l.size = 21 ∧ (∀ k, k ∈ [0, 1, 3, 4, 7, 8, 11, 12, 15, 16] → l.getD k true = true) ∧ Grew W1.heap.size W1 W ∧ Le W1.heap.size W ∧
  ((l.getD 20 true = false ∧ ∃ v3 v7 v10 v11 v14 v15 v18 v19 v22 v23, a = cpA b1 r s v3 v7 v10 v11 v14 v15 v18 v19 v22 v23 ∧
      CpF W1.heap.size s v7 v10 v11 v14 v15 v18 v19 v22 v3 W (l.getD 2 true = true) (l.getD 5 true = true) (l.getD 6 true = true ∧ l.getD 9 true = false) (l.getD 9 true = true) (l.getD 10 true = true ∧ l.getD 13 true = false) (l.getD 13 true = true) (l.getD 14 true = true ∧ l.getD 17 true = false) (l.getD 17 true = true) (l.getD 19 true = true) ∧
      (l.getD 18 true = true → (l.getD 2 true = true ∧ l.getD 5 true = true ∧ l.getD 9 true = true ∧ l.getD 13 true = true ∧ l.getD 17 true = true) ∧ ∃ c, v23 = .agg c ∧ Try.prog.built 36 [(0, v7), (1, v10), (2, v14), (4, v18), (5, v22)] = some c)) ∨
   ((∀ k, k < 21 → l.getD k true = true) ∧ ∃ g v7 v10 v11 v14 v15 v18 v19 v22 v23 r', a = cpA b1 r s (.pointer (some ⟨g, 0, none⟩)) v7 v10 v11 v14 v15 v18 v19 v22 v23 ∧ W1.heap.size ≤ g ∧ r'.fA = none ∧ r'.fc = 0 ∧ PartOwn W1.heap.size W r' s ∧ Box W g 36 (seasonA r' { s with follows := [] })))
theorem season_built' (r : SeasonR) (s : Season) : Try.prog.built 36 [(0, netV r.net s.net), (1, seaV r.sea s.sea), (2, .slice r.kA s.skies.length r.kc), (4, .slice r.iA s.first.length r.ic), (5, .slice r.dA s.days.length r.dc)] = some (seasonA { r with fA := none, fc := 0 } { s with follows := [] }) := by kernel_rfl
set_option maxRecDepth 100000 in
set_option maxHeartbeats 4000000 in
theorem sCopy_c (r : SeasonR) (s : Season) (q1 : (s.net.grips.length ≤ 40 ∧ s.net.ancs.length ≤ 40 ∧ s.net.wals.length ≤ 40) ∧ (s.sea.places.length ≤ 40 ∧ s.sea.boats.length ≤ 40) ∧ s.skies.length ≤ 40 ∧ s.follows.length ≤ 40 ∧ s.first.length ≤ 40 ∧ s.days.length ≤ 40 ∧ ∀ l ∈ s.follows, l.length ≤ 40) (B : Nat) (w : World) [hB : Le B w] (h : SeasonIs B w r s) :
    Calls Try.prog 13 #[seasonV r s] w fun e w' => ∃ (r' : SeasonR) (δ : World), e = .returned (seasonV r' s) ∧ w' = lat w δ ∧ SeasonOwn w.heap.size (lat w δ) r' s := by
  have H := Lib.hid h
  clear h
  go_enter Try.func13, Try.ntmps13
  go_upto_region 1 with fail
  obtain ⟨b1, hb1⟩ : ∃ b, w.heap.size = b := ⟨_, rfl⟩
  refine wp_name fun W1 hW1 => ?_
  have iw1 : Le B W1 := by rw [hW1.out]; infer_instance
  have iw2 : Grew B w W1 := by rw [hW1.out]; infer_instance
  have iw3 : Le w.heap.size W1 := by rw [hW1.out]; infer_instance
  have iw4 : Grew w.heap.size w W1 := by rw [hW1.out]; infer_instance
  have X1 : Hid (Box W1 w.heap.size 36 (seasonA r s)) := by rw [hW1.out]; exact Lib.hid ((Box.new rfl).alloc _)
  have Z1 : Hid (Box W1 (w.heap.size + 1) 36 (seasonA zeroSR zeroS)) := by rw [hW1.out]; exact Lib.hid (Box.new (by simp))
  clear hW1
  rw [hb1] at X1 Z1 ⊢
  have HB1 : Hid (w.heap.size = b1) := Lib.hid hb1
  clear hb1
  have lw1 : Le w.heap.size W1 := inferInstance
  refine wp_region_any (by kernel_rfl) ?_
  refine wpAny_of_held (S := fun W => Box W b1 36 (seasonA r s)) _ _ _ _ ?_
  change wpAnyH _ _ _ _ _ _ _ _ (World.drew _)
  refine wpH_t 0 (.pointer (some ⟨b1, 0, none⟩)) rfl (by kernel_rfl) (Or.inl ⟨by rfl, by intro w5 h5; go_simp⟩) X1.out.drew ?_
  try simp only [Act.put, List.getElem_toArray, List.getElem_cons_zero, List.setIfInBounds_toArray, List.set_cons_zero, List.set_cons_succ]
  refine wpH_t 1 (netV r.net s.net) rfl (by kernel_rfl) (Or.inl ⟨by rfl, by intro w5 h5; obtain ⟨c0, c1, c2, c3, c4, c5, c6, c7, c8, c9, c10, c11, c12, c13, c14⟩ := Box.season h5; go_simp⟩) X1.out.drew ?_
  try simp only [Act.put, List.getElem_toArray, List.getElem_cons_succ, List.getElem_cons_zero, List.setIfInBounds_toArray, List.set_cons_zero, List.set_cons_succ]
  refine wpH_t 3 (.pointer (some ⟨b1, 7, none⟩)) rfl (by kernel_rfl) (Or.inl ⟨by rfl, by intro w5 h5; go_simp⟩) X1.out.drew ?_
  try simp only [Act.put, List.getElem_toArray, List.getElem_cons_succ, List.getElem_cons_zero, List.setIfInBounds_toArray, List.set_cons_zero, List.set_cons_succ]
  refine wpH_t 4 (seaV r.sea s.sea) rfl (by kernel_rfl) (Or.inl ⟨by rfl, by intro w5 h5; obtain ⟨c0, c1, c2, c3, c4, c5, c6, c7, c8, c9, c10, c11, c12, c13, c14⟩ := Box.season h5; go_simp⟩) X1.out.drew ?_
  try simp only [Act.put, List.getElem_toArray, List.getElem_cons_succ, List.getElem_cons_zero, List.setIfInBounds_toArray, List.set_cons_zero, List.set_cons_succ]
  refine wpH_t 7 (.pointer (some ⟨b1, 11, none⟩)) rfl (by kernel_rfl) (Or.inl ⟨by rfl, by intro w5 h5; go_simp⟩) X1.out.drew ?_
  try simp only [Act.put, List.getElem_toArray, List.getElem_cons_succ, List.getElem_cons_zero, List.setIfInBounds_toArray, List.set_cons_zero, List.set_cons_succ]
  refine wpH_t 8 (.slice r.kA s.skies.length r.kc) rfl (by kernel_rfl) (Or.inl ⟨by rfl, by intro w5 h5; obtain ⟨c0, c1, c2, c3, c4, c5, c6, c7, c8, c9, c10, c11, c12, c13, c14⟩ := Box.season h5; go_simp⟩) X1.out.drew ?_
  try simp only [Act.put, List.getElem_toArray, List.getElem_cons_succ, List.getElem_cons_zero, List.setIfInBounds_toArray, List.set_cons_zero, List.set_cons_succ]
  refine wpH_t 11 (.pointer (some ⟨b1, 13, none⟩)) rfl (by kernel_rfl) (Or.inl ⟨by rfl, by intro w5 h5; go_simp⟩) X1.out.drew ?_
  try simp only [Act.put, List.getElem_toArray, List.getElem_cons_succ, List.getElem_cons_zero, List.setIfInBounds_toArray, List.set_cons_zero, List.set_cons_succ]
  refine wpH_t 12 (.slice r.iA s.first.length r.ic) rfl (by kernel_rfl) (Or.inl ⟨by rfl, by intro w5 h5; obtain ⟨c0, c1, c2, c3, c4, c5, c6, c7, c8, c9, c10, c11, c12, c13, c14⟩ := Box.season h5; go_simp⟩) X1.out.drew ?_
  try simp only [Act.put, List.getElem_toArray, List.getElem_cons_succ, List.getElem_cons_zero, List.setIfInBounds_toArray, List.set_cons_zero, List.set_cons_succ]
  refine wpH_t 15 (.pointer (some ⟨b1, 14, none⟩)) rfl (by kernel_rfl) (Or.inl ⟨by rfl, by intro w5 h5; go_simp⟩) X1.out.drew ?_
  try simp only [Act.put, List.getElem_toArray, List.getElem_cons_succ, List.getElem_cons_zero, List.setIfInBounds_toArray, List.set_cons_zero, List.set_cons_succ]
  refine wpH_t 16 (.slice r.dA s.days.length r.dc) rfl (by kernel_rfl) (Or.inl ⟨by rfl, by intro w5 h5; obtain ⟨c0, c1, c2, c3, c4, c5, c6, c7, c8, c9, c10, c11, c12, c13, c14⟩ := Box.season h5; go_simp⟩) X1.out.drew ?_
  try simp only [Act.put, List.getElem_toArray, List.getElem_cons_succ, List.getElem_cons_zero, List.setIfInBounds_toArray, List.set_cons_zero, List.set_cons_succ]
  have HN := Lib.hid q1
  clear q1
  refine wpAnyH_inv (CpI b1 W1 r s) ?_ ?_ _ _ _ _ ?_ ?_
  · intro l a W i hI hi
    obtain ⟨hsz, htk, hgr, hle, hI⟩ := hI
    have h0 := (mem_ready.1 hi).1
    have hlt : i < 21 := by
      rcases Nat.lt_or_ge i 21 with hl | hl
      · exact hl
      · rw [Array.getD_eq_getD_getElem?, Array.getElem?_eq_none (by omega)] at h0; cases h0
    rcases hI.symm with ⟨hall, _⟩ | ⟨h20, v3, v7, v10, v11, v14, v15, v18, v19, v22, v23, rfl, hF, hB⟩
    · rw [hall i hlt] at h0; cases h0
    have gW : Grew B w W := grew_tr iw2 hgr iw1.out
    have lW : Le B W := ⟨Nat.le_trans iw1.out hle.out⟩
    have XW : Box W b1 36 (seasonA r s) := Box.upg X1.out
    have htk' : ∀ k, k ∈ [0, 1, 3, 4, 7, 8, 11, 12, 15, 16] → (l.setIfInBounds i true).getD k true = true := fun k hk => by
      rw [getD_set' k (by omega), htk k hk]; simp
    have hsz' : (l.setIfInBounds i true).size = 21 := by rw [Array.size_setIfInBounds]; exact hsz
    have hgd : ∀ k, (l.setIfInBounds i true).getD k true = if k = i then true else l.getD k true := fun k => getD_set' k (by omega)
    have cs : i ∈ [0, 1, 3, 4, 7, 8, 11, 12, 15, 16] ∨ i = 2 ∨ i = 5 ∨ i = 6 ∨ i = 9 ∨ i = 10 ∨ i = 13 ∨ i = 14 ∨ i = 17 ∨ i = 18 ∨ i = 19 ∨ i = 20 := by
      simp only [List.mem_cons, List.not_mem_nil, or_false]; omega
    have nxt : ∀ v3 v7 v10 v11 v14 v15 v18 v19 v22 v23 W', i ≠ 20 → Grew W1.heap.size W1 W' → Le W1.heap.size W' →
        CpF W1.heap.size s v7 v10 v11 v14 v15 v18 v19 v22 v3 W' ((if 2 = i then true else l.getD 2 true) = true) ((if 5 = i then true else l.getD 5 true) = true) ((if 6 = i then true else l.getD 6 true) = true ∧ (if 9 = i then true else l.getD 9 true) = false) ((if 9 = i then true else l.getD 9 true) = true) ((if 10 = i then true else l.getD 10 true) = true ∧ (if 13 = i then true else l.getD 13 true) = false) ((if 13 = i then true else l.getD 13 true) = true) ((if 14 = i then true else l.getD 14 true) = true ∧ (if 17 = i then true else l.getD 17 true) = false) ((if 17 = i then true else l.getD 17 true) = true) ((if 19 = i then true else l.getD 19 true) = true) →
        ((if 18 = i then true else l.getD 18 true) = true → ((if 2 = i then true else l.getD 2 true) = true ∧ (if 5 = i then true else l.getD 5 true) = true ∧ (if 9 = i then true else l.getD 9 true) = true ∧ (if 13 = i then true else l.getD 13 true) = true ∧ (if 17 = i then true else l.getD 17 true) = true) ∧ ∃ c, v23 = .agg c ∧ Try.prog.built 36 [(0, v7), (1, v10), (2, v14), (4, v18), (5, v22)] = some c) →
        Box W' b1 36 (seasonA r s) ∧ CpI b1 W1 r s (l.setIfInBounds i true) (cpA b1 r s v3 v7 v10 v11 v14 v15 v18 v19 v22 v23) W' := fun _ _ _ _ _ _ _ _ _ _ _ hne hg hl hF hB =>
      ⟨Box.upg X1.out, hsz', htk', hg, hl, Or.inl ⟨by rw [hgd, if_neg (Ne.symm hne)]; exact h20, _, _, _, _, _, _, _, _, _, _, rfl, by simpa only [hgd] using hF, by simpa only [hgd] using hB⟩⟩
    have no18 : ∀ (P : Prop), i = 2 ∨ i = 5 ∨ i = 9 ∨ i = 13 ∨ i = 17 → l.getD 18 true = true → P := fun _ hq hk => by
      have hh := (hB hk).1
      rcases hq with rfl | rfl | rfl | rfl | rfl
      · rw [hh.1] at h0; cases h0
      · rw [hh.2.1] at h0; cases h0
      · rw [hh.2.2.1] at h0; cases h0
      · rw [hh.2.2.2.1] at h0; cases h0
      · rw [hh.2.2.2.2] at h0; cases h0
    have NXT := Lib.hid nxt
    have HIR := Lib.hid hi
    have HGD := Lib.hid hgd
    have HTK := Lib.hid htk'
    have HB0 := Lib.hid hB
    have HFF := Lib.hid hF
    have HNO := Lib.hid no18
    clear hI nxt hi hgd htk' hF hB no18
    rcases cs with hc | rfl | rfl | rfl | rfl | rfl | rfl | rfl | rfl | rfl | rfl | rfl
    · rw [htk i hc] at h0; cases h0
    · unfold wpOp
      show if Region.wanted _ _ = true then _ else _
      rw [if_pos (by rfl)]
      left
      unfold Oper.wp cpA
      go_simp
      have nxt := NXT.out
      have hF := HFF.out
      have hB := HB0.out
      have no18 := HNO.out
      refine (copy_c r.net s.net B _ H.out.net.up (by have := HN.out.1.1; omega) (by have := HN.out.1.2.1; omega) (by have := HN.out.1.2.2; omega)).mono ?_
      rintro e w1 ⟨r', δ, rfl, rfl, ho⟩
      have G := hF.grow (grownBy_of (W' := lat W δ) none)
      exact nxt v3 (netV r' s.net) v10 v11 v14 v15 v18 v19 v22 v23 _ (by decide) inferInstance inferInstance
        ⟨fun _ => ⟨r', rfl, NetOwn.mono ho hle.out, fun k => by obtain ⟨g, rfl, o19⟩ := hF.f19 k; exact avoid_new ho.1 o19⟩, G.f10, G.f11, G.f14, G.f15, G.f18, G.f19, G.f22, G.f3⟩ (no18 _ (.inl rfl))
    · unfold wpOp
      show if Region.wanted _ _ = true then _ else _
      rw [if_pos (by rfl)]
      left
      unfold Oper.wp cpA
      go_simp
      have nxt := NXT.out
      have hF := HFF.out
      have hB := HB0.out
      have no18 := HNO.out
      refine (seaCopy_c r.sea s.sea B _ H.out.sea.up (by have := HN.out.2.1.1; omega) (by have := HN.out.2.1.2; omega)).mono ?_
      rintro e w1 ⟨r', δ, rfl, rfl, ho⟩
      have G := hF.grow (grownBy_of (W' := lat W δ) none)
      exact nxt v3 v7 (seaV r' s.sea) v11 v14 v15 v18 v19 v22 v23 _ (by decide) inferInstance inferInstance
        ⟨G.f7, fun _ => ⟨r', rfl, SeaOwn.mono ho hle.out, fun k => by obtain ⟨g, rfl, o19⟩ := hF.f19 k; exact avoid_new ho.1 o19⟩, G.f11, G.f14, G.f15, G.f18, G.f19, G.f22, G.f3⟩ (no18 _ (.inr (.inl rfl)))
    · unfold wpOp
      show if Region.wanted _ _ = true then _ else _
      rw [if_pos (by rfl)]
      left
      unfold Oper.wp cpA
      go_simp
      have nxt := NXT.out
      have hF := HFF.out
      have hB := HB0.out
      have no18 := HNO.out
      have G := hF.grow (World.grownBy_alloc W (.cells #[] 59) none)
      exact nxt v3 v7 v10 ((.slice (some ⟨W.heap.size, 0, none⟩) 0 0)) v14 v15 v18 v19 v22 v23 _ (by decide) inferInstance inferInstance
        ⟨G.f7, G.f10, fun _ => ⟨W.heap.size, rfl, own_lit0 hle.out rfl⟩, G.f14, G.f15, G.f18, G.f19, G.f22, G.f3⟩ hB
    · unfold wpOp
      show if Region.wanted _ _ = true then _ else _
      rw [if_pos (by rfl)]
      left
      have nxt := NXT.out
      have hF := HFF.out
      have hi := HIR.out
      have no18 := HNO.out
      obtain ⟨g, rfl, og⟩ := hF.f11 ⟨ready_dep hi 6 (by omega) (by kernel_rfl), h0⟩
      refine wp_append_cells W1 slSky (.tmp 11) (.tmp 13) rfl (v := .slice (some ⟨g, 0, none⟩) 0 0) og rfl (B := B) (A := r.kA) (m := s.skies.length) (c := r.kc) (news := s.skies.flatMap encSky) rfl (H.out.skies.up.2.2) (len_enc encSky 4 (fun _ => rfl) _) (one_enc encSky one_sky _) (by have := HN.out; omega) (by omega) ?_
      intro A' c' δ own' hg'
      rw [Nat.zero_add, List.nil_append] at own'
      rw [Nat.zero_add]
      have G := (hF.weak id id False.elim False.elim id id id id id).past og hg' (by decide) (.inl ⟨rfl, id, id⟩)
      exact nxt v3 v7 v10 ((.slice (some ⟨g, 0, none⟩) 0 0)) ((.slice A' s.skies.length c')) v15 v18 v19 v22 v23 _ (by decide) inferInstance inferInstance
        ⟨G.f7, G.f10, fun k => (by cases k.2), fun _ => ⟨A', c', rfl, own'⟩, G.f15, G.f18, G.f19, G.f22, G.f3⟩ (no18 _ (by decide))
    · unfold wpOp
      show if Region.wanted _ _ = true then _ else _
      rw [if_pos (by rfl)]
      left
      unfold Oper.wp cpA
      go_simp
      have nxt := NXT.out
      have hF := HFF.out
      have hB := HB0.out
      have no18 := HNO.out
      have G := hF.grow (World.grownBy_alloc W (.cells #[] 3) none)
      exact nxt v3 v7 v10 v11 v14 ((.slice (some ⟨W.heap.size, 0, none⟩) 0 0)) v18 v19 v22 v23 _ (by decide) inferInstance inferInstance
        ⟨G.f7, G.f10, G.f11, G.f14, fun _ => ⟨W.heap.size, rfl, own_lit0 hle.out rfl⟩, G.f18, G.f19, G.f22, G.f3⟩ hB
    · unfold wpOp
      show if Region.wanted _ _ = true then _ else _
      rw [if_pos (by rfl)]
      left
      have nxt := NXT.out
      have hF := HFF.out
      have hi := HIR.out
      have no18 := HNO.out
      obtain ⟨g, rfl, og⟩ := hF.f15 ⟨ready_dep hi 10 (by omega) (by kernel_rfl), h0⟩
      refine wp_append_cells W1 slI (.tmp 15) (.tmp 17) rfl (v := .slice (some ⟨g, 0, none⟩) 0 0) og rfl (B := B) (A := r.iA) (m := s.first.length) (c := r.ic) (news := s.first.flatMap encI) rfl (H.out.first.up.2.2) (len_enc encI 1 (fun _ => rfl) _) (one_enc encI one_int' _) (by have := HN.out; omega) (by omega) ?_
      intro A' c' δ own' hg'
      rw [Nat.zero_add, List.nil_append] at own'
      rw [Nat.zero_add]
      have G := (hF.weak id id id id False.elim False.elim id id id).past og hg' (by decide) (.inr (.inl ⟨rfl, id, id⟩))
      exact nxt v3 v7 v10 v11 v14 ((.slice (some ⟨g, 0, none⟩) 0 0)) ((.slice A' s.first.length c')) v19 v22 v23 _ (by decide) inferInstance inferInstance
        ⟨G.f7, G.f10, G.f11, G.f14, fun k => (by cases k.2), fun _ => ⟨A', c', rfl, own'⟩, G.f19, G.f22, G.f3⟩ (no18 _ (by decide))
    · unfold wpOp
      show if Region.wanted _ _ = true then _ else _
      rw [if_pos (by rfl)]
      left
      unfold Oper.wp cpA
      go_simp
      have nxt := NXT.out
      have hF := HFF.out
      have hB := HB0.out
      have no18 := HNO.out
      have G := hF.grow (World.grownBy_alloc W (.cells #[] 23) none)
      exact nxt v3 v7 v10 v11 v14 v15 v18 ((.slice (some ⟨W.heap.size, 0, none⟩) 0 0)) v22 v23 _ (by decide) inferInstance inferInstance
        ⟨fun k => (hF.f7 k).imp fun r' x => ⟨x.1, ⟨x.2.1.1.alloc _, x.2.1.2.1.alloc _, x.2.1.2.2.alloc _⟩, fun _ => avoid_lit x.2.1.1⟩, fun k => (hF.f10 k).imp fun r' x => ⟨x.1, ⟨x.2.1.1.alloc _, x.2.1.2.alloc _⟩, fun _ => avoid_lit x.2.1.1⟩, G.f11, G.f14, G.f15, G.f18, fun _ => ⟨W.heap.size, rfl, own_lit0 hle.out rfl⟩, G.f22, G.f3⟩ hB
    · unfold wpOp
      show if Region.wanted _ _ = true then _ else _
      rw [if_pos (by rfl)]
      left
      have nxt := NXT.out
      have hF := HFF.out
      have hi := HIR.out
      have no18 := HNO.out
      obtain ⟨g, rfl, og⟩ := hF.f19 ⟨ready_dep hi 14 (by omega) (by kernel_rfl), h0⟩
      refine wp_append_cells W1 slSp (.tmp 19) (.tmp 21) rfl (v := .slice (some ⟨g, 0, none⟩) 0 0) og rfl (B := B) (A := r.dA) (m := s.days.length) (c := r.dc) (news := s.days.flatMap encSp) rfl (H.out.days.up.2.2) (len_enc encSp 2 (fun _ => rfl) _) (one_enc encSp one_sp _) (by have := HN.out; omega) (by omega) ?_
      intro A' c' δ own' hg'
      rw [Nat.zero_add, List.nil_append] at own'
      rw [Nat.zero_add]
      have G := (hF.weak id id id id id id False.elim False.elim id).past og hg' (by decide) (.inr (.inr ⟨rfl, id, id, fun r' e _ k => by
        obtain ⟨r2, e2, _, av⟩ := hF.f7 k
        obtain ⟨e3, e4⟩ := net_gA (e.symm.trans e2)
        rw [e3, e4]
        exact av ⟨ready_dep hi 14 (by omega) (by kernel_rfl), h0⟩, fun r' e _ k => by
        obtain ⟨r2, e2, _, av⟩ := hF.f10 k
        obtain ⟨e3, e4⟩ := sea_pA (e.symm.trans e2)
        rw [e3, e4]
        exact av ⟨ready_dep hi 14 (by omega) (by kernel_rfl), h0⟩⟩))
      exact nxt v3 v7 v10 v11 v14 v15 v18 ((.slice (some ⟨g, 0, none⟩) 0 0)) ((.slice A' s.days.length c')) v23 _ (by decide) inferInstance inferInstance
        ⟨fun k => (G.f7 k).imp fun _ x => ⟨x.1, x.2.1, fun q => (by cases q.2)⟩, fun k => (G.f10 k).imp fun _ x => ⟨x.1, x.2.1, fun q => (by cases q.2)⟩, G.f11, G.f14, G.f15, G.f18, fun k => (by cases k.2), fun _ => ⟨A', c', rfl, own'⟩, G.f3⟩ (no18 _ (by decide))
    · unfold wpOp
      show if Region.wanted _ _ = true then _ else _
      rw [if_pos (by rfl)]
      left
      have nxt := NXT.out
      have hF := HFF.out
      have hi := HIR.out
      have d2 := ready_dep hi 2 (by omega) (by kernel_rfl)
      have d5 := ready_dep hi 5 (by omega) (by kernel_rfl)
      have d9 := ready_dep hi 9 (by omega) (by kernel_rfl)
      have d13 := ready_dep hi 13 (by omega) (by kernel_rfl)
      have d17 := ready_dep hi 17 (by omega) (by kernel_rfl)
      obtain ⟨rn, rfl, _⟩ := hF.f7 d2
      obtain ⟨rs, rfl, _⟩ := hF.f10 d5
      obtain ⟨kA, kc, rfl, _⟩ := hF.f14 d9
      obtain ⟨iA, ic, rfl, _⟩ := hF.f18 d13
      obtain ⟨dA, dc, rfl, _⟩ := hF.f22 d17
      have hc := season_built' ⟨rn, rs, kA, kc, none, 0, iA, ic, dA, dc⟩ s
      refine op_build _ _ rfl (ps := [(0, netV rn s.net), (1, seaV rs s.sea), (2, .slice kA s.skies.length kc), (4, .slice iA s.first.length ic), (5, .slice dA s.days.length dc)]) rfl hc ?_
      exact nxt v3 (netV rn s.net) (seaV rs s.sea) v11 (.slice kA s.skies.length kc) v15 (.slice iA s.first.length ic) v19 (.slice dA s.days.length dc) (.agg (seasonA ⟨rn, rs, kA, kc, none, 0, iA, ic, dA, dc⟩ { s with follows := [] })) _ (by decide) inferInstance inferInstance
        hF (fun _ => ⟨⟨d2, d5, d9, d13, d17⟩, _, rfl, hc⟩)
    · unfold wpOp
      show if Region.wanted _ _ = true then _ else _
      rw [if_pos (by rfl)]
      left
      unfold Oper.wp cpA
      go_simp
      have nxt := NXT.out
      have hF := HFF.out
      have hB := HB0.out
      have G := hF.grow (World.grownBy_alloc W (.cells (seasonA zeroSR zeroS) 36) none)
      exact nxt (.pointer (some ⟨W.heap.size, 0, none⟩)) v7 v10 v11 v14 v15 v18 v19 v22 v23 _ (by decide) inferInstance inferInstance
        ⟨G.f7, G.f10, G.f11, G.f14, G.f15, G.f18, G.f19, G.f22, fun _ => ⟨W.heap.size, rfl, hle.out, Box.new rfl⟩⟩ hB
    · unfold wpOp
      show if Region.wanted _ _ = true then _ else _
      rw [if_pos (by rfl)]
      left
      have hF := HFF.out
      have hB := HB0.out
      have hi := HIR.out
      have hgd := HGD.out
      have dd := ready_all hi 20 (by omega) (by kernel_rfl)
      obtain ⟨rn, rfl, o1, _⟩ := hF.f7 (dd 2 (by decide))
      obtain ⟨rs, rfl, o2, _⟩ := hF.f10 (dd 5 (by decide))
      obtain ⟨kA, kc, rfl, o3⟩ := hF.f14 (dd 9 (by decide))
      obtain ⟨iA, ic, rfl, o4⟩ := hF.f18 (dd 13 (by decide))
      obtain ⟨dA, dc, rfl, o5⟩ := hF.f22 (dd 17 (by decide))
      obtain ⟨g, rfl, hg, hbx⟩ := hF.f3 (dd 19 (by decide))
      obtain ⟨_, c, rfl, hc⟩ := hB (dd 18 (by decide))
      have hc' := season_built' ⟨rn, rs, kA, kc, none, 0, iA, ic, dA, dc⟩ s
      rw [hc] at hc'
      obtain rfl := Option.some.inj hc'
      refine op_storeB rowSeason (.tmp 3) (.tmp 23) rfl rfl rfl hbx rfl rfl (by simp [seasonA, Value.oneCell']) ?_
      intro W' hb' k
      have hg' := grew_kpb hgr k hg hle.out
      have hP : PartOwn W1.heap.size W ⟨rn, rs, kA, kc, none, 0, iA, ic, dA, dc⟩ s := ⟨o1, o2, o3, o4, o5⟩
      refine ⟨Box.upg X1.out, hsz', HTK.out, hg', ⟨Nat.le_trans hle.out k.1⟩, Or.inr ⟨fun j hj => ?_, g, _, _, v11, _, v15, _, v19, _, _, ⟨rn, rs, kA, kc, none, 0, iA, ic, dA, dc⟩, rfl, hg, rfl, rfl, hP.kepB hbx k, hb'⟩⟩
      rw [hgd]
      by_cases h : j = 20
      · rw [if_pos h]
      · rw [if_neg h]; exact dd j (by omega)
  · intro l a W hI hr
    have hz := all_listed (by kernel_rfl) hI.1 hr
    obtain ⟨hsz, htk, hgr, hle, hI⟩ := hI
    rcases hI with ⟨h20, _⟩ | ⟨_, g, v7, v10, v11, v14, v15, v18, v19, v22, v23, r', rfl, hg, hfA, hfc, hP, hb⟩
    · have := hz 20 (by decide); rw [h20] at this; cases this
    have ZW : Box W (b1 + 1) 36 (seasonA zeroSR zeroS) := Box.upg Z1.out
    have XW : Box W b1 36 (seasonA r s) := Box.upg X1.out
    have GW : Grew B w W := grew_tr iw2 hgr iw1.out
    have GZ : Grew w.heap.size w W := grew_tr iw4 hgr iw3.out
    clear hz htk hsz hr
    obtain ⟨W2, rfl⟩ : ∃ V, V = W := ⟨W, rfl⟩
    have HP := Lib.hid hP
    have HBX := Lib.hid hb
    obtain ⟨rn, rs, kA, kc, fA', fc', iA, ic, dA, dc⟩ := r'
    dsimp only at hfA hfc
    subst hfA hfc
    clear hP hb
    unfold cpA
    go_wp2_with (fail)
    have lb1 : b1 < W1.heap.size := X1.out.lt_
    have iB : LeN B W1.heap.size := ⟨iw1.out⟩
    go_loopg [4] s.follows.length (fun n i wr => ∃ (k : Nat) (fA : Option Addr) (fc : Nat) (L : List (List Int)) (cs : List Value), k ≤ s.follows.length ∧ n = s.follows.length - k ∧ i = .int .i64 k ∧ Hid (L = s.follows.take k) ∧ Hid (L.length = k) ∧ Hid (Box wr g 36 (seasonA ⟨rn, rs, kA, kc, fA, fc, iA, ic, dA, dc⟩ ⟨s.net, s.sea, s.skies, L, s.first, s.days⟩)) ∧ Hid (wr.ownsRow W1.heap.size 34 1 (.slice fA L.length fc) L.length cs) ∧ Hid (Subs 3 encI wr cs L) ∧ Hid (PartOwn W1.heap.size wr ⟨rn, rs, kA, kc, none, 0, iA, ic, dA, dc⟩ s) ∧ Grew W1.heap.size W1 wr ∧ Le W1.heap.size wr)
    case atStart => exact ⟨0, none, 0, [], [], Nat.zero_le _, rfl, rfl, rfl, rfl, HBX, World.ownsRow_nil _ _ _ _, Subs.nil, HP, hgr, hle⟩
    case round =>
      obtain ⟨k, fA, fc, L, cs, hk, rfl, rfl, HL, HLn, HBR, HRO, HSU, HPA, i1, i2⟩ := hrel
      have XR : Box wr b1 36 (seasonA r s) := Box.upg X1.out
      have GR : Grew B w wr := grew_tr iw2 i1 iw1.out
      obtain ⟨c0, c1, c2, c3, c4, c5, c6, c7, c8, c9, c10, c11, c12, c13, c14⟩ := XR.season
      have lt1 : Lt b1 wr := XR.lt
      have lBr : Le B wr := ⟨Nat.le_trans iw1.out i2.out⟩
      by_cases hlt : k < s.follows.length
      · have hki : (k : Int) < (s.follows.length : Int) := by omega
        have hk0 : ¬ (k : Int) < 0 := by omega
        obtain ⟨b, o, A', c', hA, hbb, hcc, hs⟩ := H.out.follows.at_ hlt
        have hl40 := HN.out.2.2.2.2.2.2 _ (List.getElem_mem hlt)
        obtain ⟨l, hl⟩ : ∃ l, s.follows[k] = l := ⟨_, rfl⟩
        rw [hl] at hcc hs hl40
        have HA := Lib.hid hA
        have HCC := Lib.hid hcc
        have HS := Lib.hid hs
        have HLL := Lib.hid hl
        have HL40 := Lib.hid hl40
        have hLk := HLn.out
        have hn40 := HN.out.2.2.2.1
        have HLK := Lib.hid (show L.length ≤ 40 by omega)
        clear hA hcc hs hl hl40 hLk hn40
        go_upto_region 5 with fail
        have ST0 : Box wr.drew b1 36 (seasonA r s) ∧ Box wr.drew g 36 (seasonA ⟨rn, rs, kA, kc, fA, fc, iA, ic, dA, dc⟩ ⟨s.net, s.sea, s.skies, L, s.first, s.days⟩) ∧ Grew B w wr.drew := ⟨XR, HBR.out, inferInstance⟩
        refine wp_region_S (S := fun W => Box W b1 36 (seasonA r s) ∧ Box W g 36 (seasonA ⟨rn, rs, kA, kc, fA, fc, iA, ic, dA, dc⟩ ⟨s.net, s.sea, s.skies, L, s.first, s.days⟩) ∧ Grew B w W) (N := [12]) (by kernel_rfl) ?_
        change wpAnyS _ _ _ _ _ _ _ _ _ (World.drew _)
        refine wpS_p 0 (.pointer (some ⟨g, 12, none⟩)) rfl (by kernel_rfl) (Or.inl ⟨by rfl, by intro w5 h5; go_simp⟩) (fun _ => ST0) ?_
        try simp only [Act.put, List.getElem_toArray, List.getElem_cons_zero, List.setIfInBounds_toArray, List.set_cons_zero, List.set_cons_succ]
        refine wpS_t 1 (.slice fA L.length fc) rfl (by kernel_rfl) (Or.inl ⟨by rfl, by intro w5 h5; obtain ⟨c0, c1, c2, c3, c4, c5, c6, c7, c8, c9, c10, c11, c12, c13, c14⟩ := Box.season h5.2.1; go_simp⟩) (ST0) ?_
        try simp only [Act.put, List.getElem_toArray, List.getElem_cons_succ, List.getElem_cons_zero, List.setIfInBounds_toArray, List.set_cons_zero, List.set_cons_succ]
        refine wpS_p 3 (.pointer (some ⟨b1, 12, none⟩)) rfl (by kernel_rfl) (Or.inl ⟨by rfl, by intro w5 h5; go_simp⟩) (fun _ => ST0) ?_
        try simp only [Act.put, List.getElem_toArray, List.getElem_cons_succ, List.getElem_cons_zero, List.setIfInBounds_toArray, List.set_cons_zero, List.set_cons_succ]
        refine wpS_t 4 (.slice (some ⟨b, o, none⟩) s.follows.length r.fc) rfl (by kernel_rfl) (Or.inl ⟨by rfl, by intro w5 h5; obtain ⟨c0, c1, c2, c3, c4, c5, c6, c7, c8, c9, c10, c11, c12, c13, c14⟩ := Box.season h5.1; rw [HA.out] at c12; go_simp⟩) (ST0) ?_
        try simp only [Act.put, List.getElem_toArray, List.getElem_cons_succ, List.getElem_cons_zero, List.setIfInBounds_toArray, List.set_cons_zero, List.set_cons_succ]
        refine wpS_p 5 (.int .i64 k) rfl (by kernel_rfl) (Or.inl ⟨by rfl, by intro w5 h5; go_simp⟩) (fun _ => ST0) ?_
        try simp only [Act.put, List.getElem_toArray, List.getElem_cons_succ, List.getElem_cons_zero, List.setIfInBounds_toArray, List.set_cons_zero, List.set_cons_succ]
        refine wpS_p 6 (.pointer (some ⟨b, o + k, none⟩)) rfl (by kernel_rfl) (Or.inl ⟨by rfl, by intro w5 h5; go_simp⟩) (fun _ => ST0) ?_
        try simp only [Act.put, List.getElem_toArray, List.getElem_cons_succ, List.getElem_cons_zero, List.setIfInBounds_toArray, List.set_cons_zero, List.set_cons_succ]
        refine wpS_t 7 (.slice A' l.length c') rfl (by kernel_rfl) (Or.inl ⟨by rfl, by intro w5 h5; have hx := (cells_same h5.2.2.out _ (o + k) hbb).trans HCC.out; have lx : Lt b w5 := ⟨World.block_lt_of_cell? w5 _ hx⟩; go_simp⟩) (ST0) ?_
        try simp only [Act.put, List.getElem_toArray, List.getElem_cons_succ, List.getElem_cons_zero, List.setIfInBounds_toArray, List.set_cons_zero, List.set_cons_succ]
        refine wpAnyS_all (rs := [2]) (by kernel_rfl) (by simp) ?_
        intro i hi
        obtain rfl := List.mem_singleton.1 hi
        unfold wpOp
        show if Region.wanted _ _ = true then _ else _
        rw [if_pos (by rfl)]
        left
        unfold Oper.wp
        go_simp
        refine ⟨fun _ => ⟨Box.upg XR, Box.upg HBR.out, inferInstance⟩, ?_⟩
        try simp only [Act.put, List.getElem_toArray, List.getElem_cons_succ, List.getElem_cons_zero, List.setIfInBounds_toArray, List.set_cons_zero, List.set_cons_succ]
        refine wpAnyS_all (rs := [8]) (by kernel_rfl) (by simp) ?_
        intro i hi
        obtain rfl := List.mem_singleton.1 hi
        unfold wpOp
        show if Region.wanted _ _ = true then _ else _
        rw [if_pos (by rfl)]
        left
        refine wp_append_cells wr slI (.tmp 33) (.tmp 38) rfl (v := .slice (some ⟨wr.heap.size, 0, none⟩) 0 0) (own_lit0 (Nat.le_refl _) rfl) rfl (B := B) (A := A') (m := l.length) (c := c') (news := l.flatMap encI) rfl (HS.out.up.2.2) (len_enc encI 1 (fun _ => rfl) _) (one_enc encI one_int' _) (by have := HL40.out; omega) (by omega) ?_
        intro A1 c1 δ1 own1 hg1
        rw [Nat.zero_add, List.nil_append] at own1
        rw [Nat.zero_add]
        refine ⟨fun _ => ⟨Box.upg XR, Box.upg HBR.out, inferInstance⟩, ?_⟩
        try simp only [Act.put, List.getElem_toArray, List.getElem_cons_succ, List.getElem_cons_zero, List.setIfInBounds_toArray, List.set_cons_zero, List.set_cons_succ]
        refine wpAnyS_all (rs := [9]) (by kernel_rfl) (by simp) ?_
        intro i hi
        obtain rfl := List.mem_singleton.1 hi
        unfold wpOp
        show if Region.wanted _ _ = true then _ else _
        rw [if_pos (by rfl)]
        left
        unfold Oper.wp
        go_simp
        refine ⟨fun _ => ⟨Box.upg XR, Box.upg HBR.out, inferInstance⟩, ?_⟩
        try simp only [Act.put, List.getElem_toArray, List.getElem_cons_succ, List.getElem_cons_zero, List.setIfInBounds_toArray, List.set_cons_zero, List.set_cons_succ]
        have OW1 := Lib.hid own1
        clear own1 hg1
        generalize hV2 : latB wr.heap.size (wr.alloc (.cells #[] 3)).drew δ1 = V2 at OW1 ⊢
        have i3 : Grew wr.heap.size wr V2 := by rw [← hV2]; infer_instance
        have i4 : Le wr.heap.size V2 := by rw [← hV2]; infer_instance
        have i5 : Grew B w V2 := by rw [← hV2]; infer_instance
        have i6 : Grew W1.heap.size W1 V2 := grew_tr i1 i3 i2.out
        have i7 : Le W1.heap.size V2 := ⟨Nat.le_trans i2.out i4.out⟩
        have i8 : Le B V2 := ⟨Nat.le_trans iw1.out i7.out⟩
        have HB3 : Hid (Box V2 g 36 (seasonA ⟨rn, rs, kA, kc, fA, fc, iA, ic, dA, dc⟩ ⟨s.net, s.sea, s.skies, L, s.first, s.days⟩)) := Lib.hid (Box.upg HBR.out)
        have RO2 : Hid (V2.ownsRow W1.heap.size 34 1 (.slice fA L.length fc) L.length cs) := Lib.hid (owns_up HRO.out)
        have SU2 : Hid (Subs 3 encI V2 cs L) := Lib.hid HSU.out.up
        have PA2 : Hid (PartOwn W1.heap.size V2 ⟨rn, rs, kA, kc, none, 0, iA, ic, dA, dc⟩ s) := Lib.hid HPA.out.up
        clear hV2
        refine wpAnyS_all (rs := [10]) (by kernel_rfl) (by simp) ?_
        intro i hi
        obtain rfl := List.mem_singleton.1 hi
        unfold wpOp
        show if Region.wanted _ _ = true then _ else _
        rw [if_pos (by rfl)]
        left
        refine wp_append_cells W1 slLL (.tmp 32) (.tmp 40) rfl (v := .slice fA L.length fc) (n := L.length) (xs := cs) (RO2.out.alloc _) rfl (B := V2.heap.size + 1) (A := some ⟨V2.heap.size, 0, none⟩) (m := 1) (c := 1) (news := [.slice A1 l.length c1]) rfl (cells_lit rfl) rfl (by simp [Value.oneCell']) (by have := HLK.out; omega) (by omega) ?_
        intro A2 c2 δ2 own2 hg2
        have OW2 := Lib.hid own2
        have HG2 := Lib.hid hg2
        clear own2 hg2
        generalize hV3 : latB W1.heap.size (V2.alloc (.cells #[.slice A1 l.length c1] 34)) δ2 = V3 at OW2 HG2 ⊢
        have j1 : Grew W1.heap.size W1 V3 := by rw [← hV3]; infer_instance
        have j2 : Le W1.heap.size V3 := by rw [← hV3]; infer_instance
        have j3 : Grew B w V3 := grew_tr iw2 j1 iw1.out
        have HB4 : Hid (Box V3 g 36 (seasonA ⟨rn, rs, kA, kc, fA, fc, iA, ic, dA, dc⟩ ⟨s.net, s.sea, s.skies, L, s.first, s.days⟩)) := Lib.hid (box_pst (HB3.out.alloc _) (RO2.out.alloc _) (by decide) HG2.out)
        have PA3 : Hid (PartOwn W1.heap.size V3 ⟨rn, rs, kA, kc, none, 0, iA, ic, dA, dc⟩ s) := Lib.hid (PartOwn.pst (PartOwn.up PA2.out) (RO2.out.alloc _) HG2.out)
        have SU3 : Hid (Subs 3 encI V3 (cs ++ [.slice A1 l.length c1]) (L ++ [l])) := Lib.hid ((SU2.out.append (Subs.one (Slt.of_own OW1.out rfl))).up.grown (RO2.out.alloc _) HG2.out (by decide))
        clear hV3 HG2
        refine ⟨fun _ => ⟨Box.upg X1.out, HB4.out, j3⟩, ?_⟩
        try simp only [Act.put, List.getElem_toArray, List.getElem_cons_succ, List.getElem_cons_zero, List.setIfInBounds_toArray, List.set_cons_zero, List.set_cons_succ]
        refine wpS_p 11 (.pointer (some ⟨g, 12, none⟩)) rfl (by kernel_rfl) (Or.inl ⟨by rfl, by intro w5 _; go_simp⟩) (fun _ => ⟨Box.upg X1.out, HB4.out, j3⟩) ?_
        try simp only [Act.put, List.getElem_toArray, List.getElem_cons_succ, List.getElem_cons_zero, List.setIfInBounds_toArray, List.set_cons_zero, List.set_cons_succ]
        have l4 := HB4.out.lt
        have f4 := HB4.out.free 12
        have e4 := HB4.out.cell (i := 12) (v := .slice fA L.length fc) rfl
        refine wpAnyS_all (rs := [12]) (by kernel_rfl) (by simp) ?_
        intro i hi
        obtain rfl := List.mem_singleton.1 hi
        unfold wpOp
        show if Region.wanted _ _ = true then _ else _
        rw [if_pos (by rfl)]
        left
        unfold Oper.wp
        go_simp
        refine ⟨fun h => absurd h (by decide), ?_⟩
        try simp only [Act.put, List.getElem_toArray, List.getElem_cons_succ, List.getElem_cons_zero, List.setIfInBounds_toArray, List.set_cons_zero, List.set_cons_succ]
        refine wpAnyS_done (by kernel_rfl) ?_ _
        have kk : Kep (fun x => x = g) V3 (V3.setCell ⟨g, 12, none⟩ (.slice A2 (L.length + 1) c2)) := Kep.set (Kep.refl (fun x => x = g) _) rfl 12 _
        have HB5 : Hid (Box (V3.setCell ⟨g, 12, none⟩ (.slice A2 (L.length + 1) c2)) g 36 (seasonA ⟨rn, rs, kA, kc, A2, c2, iA, ic, dA, dc⟩ ⟨s.net, s.sea, s.skies, L ++ [l], s.first, s.days⟩)) := Lib.hid (by have := HB4.out.set 12 (.slice A2 (L.length + 1) c2); simpa [seasonA] using this)
        have PA5 := Lib.hid (PA3.out.kepB HB4.out kk)
        have SU5 := Lib.hid (SU3.out.kpb HB4.out (by decide) kk)
        have RO5 := Lib.hid (own_kpb OW2.out HB4.out (by decide) kk)
        have k1 := grew_kpb j1 kk hg j2.out
        have k2 : Le W1.heap.size (V3.setCell ⟨g, 12, none⟩ (.slice A2 (L.length + 1) c2)) := ⟨Nat.le_trans j2.out kk.1⟩
        clear kk
        generalize V3.setCell ⟨g, 12, none⟩ (.slice A2 (L.length + 1) c2) = V4 at HB5 PA5 SU5 RO5 k1 k2 ⊢
        have hn40 := HN.out.2.2.2.1
        go_wp2_with (fail)
        go_roundg (s.follows.length - (k + 1))
        case measure => omega
        case rel =>
          refine ⟨k + 1, A2, c2, L ++ [l], cs ++ [.slice A1 l.length c1], Nat.succ_le_of_lt hlt, rfl, by go_num, ?_, ?_, HB5, ?_, SU5, PA5, k1, k2⟩
          · unfold Hid; rw [HL.out, ← HLL.out, List.take_succ_eq_append_getElem hlt]
          · unfold Hid; rw [List.length_append, HLn.out]; rfl
          · unfold Hid; have := RO5.out; rw [List.length_append]; exact this
      · obtain rfl : k = s.follows.length := by omega
        have hLs : L = s.follows := by rw [HL.out, List.take_length]
        clear HL HLn
        subst hLs
        go_upto_region 6 with fail
        have ZR : Box wr (b1 + 1) 36 (seasonA zeroSR zeroS) := Box.upg Z1.out
        have lw : w.heap.size ≤ b1 + 1 := by rw [HB1.out]; exact Nat.le_succ _
        have gww : Grew w.heap.size w wr := grew_tr iw4 i1 iw3.out
        have lww : w.heap.size ≤ wr.heap.size := Nat.le_trans iw3.out i2.out
        apply wp_region_lit
        refine wpList_loadB rowSeason rfl _ rfl rfl HBR.out rfl ?_
        refine wpList_storeB rowSeason rfl _ _ rfl rfl rfl ZR rfl rfl (by simp [seasonA, Value.oneCell']) ?_
        intro W' hb' kk
        have g1 : Grew w.heap.size w W' := grew_kpb gww kk lw lww
        have g2 : Le w.heap.size W' := ⟨Nat.le_trans lww kk.1⟩
        have PA := (HPA.out.kepB ZR kk).mono iw3.out
        have RO := owns_mono (own_kpb HRO.out ZR (by decide) kk) iw3.out
        have SU := HSU.out.kpb ZR (by decide) kk
        refine wpList_nil ?_
        go_wp2_with (fail)
        refine ret_box rowSeason rfl rfl hb' rfl ?_
        refine ⟨⟨rn, rs, kA, kc, fA, fc, iA, ic, dA, dc⟩, W', rfl, lat_def, ?_⟩
        rw [← lat_def (w := w) (W := W')]
        exact ⟨PA, cs, RO, SU⟩
  · exact Nat.le_of_ble_eq_true (by kernel_rfl)
  · refine ⟨by kernel_rfl, ?_, inferInstance, inferInstance, .inl ⟨by kernel_rfl, undef, undef, undef, undef, undef, undef, undef, undef, undef, undef, rfl, ?_, ?_⟩⟩
    · intro k hk
      simp only [List.mem_cons, List.not_mem_nil, or_false] at hk
      rcases hk with rfl | rfl | rfl | rfl | rfl | rfl | rfl | rfl | rfl | rfl <;> kernel_rfl
    · exact ⟨fun h => absurd (show false = true from h) (by decide), fun h => absurd (show false = true from h) (by decide), fun h => absurd (show false = true from h.1) (by decide), fun h => absurd (show false = true from h) (by decide), fun h => absurd (show false = true from h.1) (by decide), fun h => absurd (show false = true from h) (by decide), fun h => absurd (show false = true from h.1) (by decide), fun h => absurd (show false = true from h) (by decide), fun h => absurd (show false = true from h) (by decide)⟩
    · exact fun h => absurd (show false = true from h) (by decide)
end Go.Proofs.Ytnddiloeikaleaa
namespace Go.Proofs.Ytnddiloeikaleaa
open Go.RowKit
open An
open Tc

def farSeaV (n : Sea) : Bool := decide (40 < n.places.length) || decide (40 < n.boats.length)
set_option maxHeartbeats 1000000 in
theorem far05_c (r : SeaR) (n : Sea) (w : World) :
    Calls Try.prog 38 #[seaV r n] w fun e w' => e = .returned (.bool (farSeaV n)) ∧ ∃ δ, w' = lat w δ := by
  go_enter Try.func38, Try.ntmps38
  go_wp2_with (fail)
  all_goals
    go_ret
    refine ⟨ret_bool ?_, lat_ex⟩
    go_light
    grind [farSeaV]
theorem far05_is {r : SeaR} {n : Sea} {b : Bool} (hb : farSeaV n = b) (w : World) :
    Calls Try.prog 38 #[seaV r n] w fun e w' => e = .returned (.bool b) ∧ ∃ δ, w' = lat w δ := by subst hb; exact far05_c r n w
theorem huge_is {r : NetR} {n : Net} {b : Bool} (hb : hugeV n ⟨0, 0, []⟩ = b) (w : World) :
    Calls Try.prog 37 #[netV r n, truV ⟨none, 0⟩ ⟨0, 0, []⟩] w fun e w' => e = .returned (.bool b) ∧ ∃ δ, w' = lat w δ := by subst hb; exact huge_c r n _ _ w
/-- A season of which there is not far too much. -/
def SmallS (s : Season) : Prop := (s.net.grips.length ≤ 40 ∧ s.net.ancs.length ≤ 40 ∧ s.net.wals.length ≤ 40) ∧ (s.sea.places.length ≤ 40 ∧ s.sea.boats.length ≤ 40) ∧ s.skies.length ≤ 40 ∧ s.follows.length ≤ 40 ∧ s.first.length ≤ 40 ∧ s.days.length ≤ 40 ∧ ∀ l ∈ s.follows, l.length ≤ 40
def FarSPost (s : Season) (w : World) (e : Ending) (w' : World) : Prop := ∃ b, e = .returned (.bool b) ∧ (b = false → SmallS s) ∧ ∃ δ, w' = lat w δ
set_option maxRecDepth 100000 in
set_option maxHeartbeats 4000000 in
theorem huge13_c (r : SeasonR) (s : Season) (B : Nat) (w : World) [hB : Le B w] (h : SeasonIs B w r s) :
    Calls Try.prog 16 #[seasonV r s] w fun e w' => FarSPost s w e w' := by
  have hf := h.follows
  by_cases g1 : hugeV s.net ⟨0, 0, []⟩ = true
  · have G1 := Lib.hid g1
    clear g1
    go_enter Try.func16, Try.ntmps16
    go_wp2_with (first
      | (go_at_call 37; refine (huge_is (r := r.net) G1.out _).mono ?_; rintro e w1 ⟨rfl, δ, rfl⟩))
    go_ret
    unfold FarSPost
    exact ⟨true, rfl, fun hf => absurd hf (by simp), lat_ex⟩
  rw [Bool.not_eq_true] at g1
  have G1 := Lib.hid g1
  by_cases g2 : farSeaV s.sea = true
  · have G2 := Lib.hid g2
    clear g1 g2
    go_enter Try.func16, Try.ntmps16
    go_wp2_with (first
      | (go_at_call 37; refine (huge_is (r := r.net) G1.out _).mono ?_; rintro e w1 ⟨rfl, δ, rfl⟩)
      | (go_at_call 38; refine (far05_is (r := r.sea) G2.out _).mono ?_; rintro e w1 ⟨rfl, δ2, rfl⟩))
    go_ret
    unfold FarSPost
    exact ⟨true, rfl, fun hf => absurd hf (by simp), lat_ex⟩
  rw [Bool.not_eq_true] at g2
  have G2 := Lib.hid g2
  have n1 : (s.net.grips.length ≤ 40 ∧ s.net.ancs.length ≤ 40 ∧ s.net.wals.length ≤ 40) ∧ (s.sea.places.length ≤ 40 ∧ s.sea.boats.length ≤ 40) := by
    simp only [hugeV, farSeaV, Bool.or_eq_false_iff, decide_eq_false_iff_not] at g1 g2
    omega
  have N1 := Lib.hid n1
  clear g1 g2 n1
  by_cases g3 : s.skies.length ≤ 40 ∧ s.follows.length ≤ 40 ∧ s.first.length ≤ 40 ∧ s.days.length ≤ 40
  · obtain ⟨m1, m2, m3, m4⟩ := g3
    have p1 : ¬ (40 : Int) < (s.skies.length : Int) := by omega
    have p2 : ¬ (40 : Int) < (s.follows.length : Int) := by omega
    have p3 : ¬ (40 : Int) < (s.first.length : Int) := by omega
    have p4 : ¬ (40 : Int) < (s.days.length : Int) := by omega
    obtain ⟨nr, sr, kA, kc, fA, fc, iA, ic, dA, dc⟩ := r
    have HF := Lib.hid hf
    clear hf h
    go_enter Try.func16, Try.ntmps16
    go_wp2_with (first
      | (go_at_call 37; refine (huge_is (r := nr) G1.out _).mono ?_; rintro e w1 ⟨rfl, δ, rfl⟩)
      | (go_at_call 38; refine (far05_is (r := sr) G2.out _).mono ?_; rintro e w1 ⟨rfl, δ2, rfl⟩))
    refine wp_name fun W1 hW1 => ?_
    have iw1 : Le B W1 := by rw [hW1.out]; infer_instance
    have iw2 : Grew B w W1 := by rw [hW1.out]; infer_instance
    have iw3 : Le w.heap.size W1 := by rw [hW1.out]; infer_instance
    have iw4 : Grew w.heap.size w W1 := by rw [hW1.out]; infer_instance
    have iw5 : Lt (w.heap.size) W1 := by rw [hW1.out]; infer_instance
    have X1 : Hid (W1.cell? ⟨w.heap.size, 12, none⟩ = some (.slice fA s.follows.length fc)) := by rw [hW1.out]; unfold Hid; go_simp
    clear hW1
    have x1 := X1.out
    go_loopg [3] s.follows.length (fun g i wr => ∃ (k : Nat) (δ : World), k ≤ s.follows.length ∧ g = s.follows.length - k ∧ i = .int .i64 k ∧ wr = lat W1 δ ∧ Hid (∀ i, i < k → (nth s.follows i).length ≤ 40))
    case atStart => exact ⟨0, W1, Nat.zero_le _, rfl, rfl, (lat_refl W1).symm, fun i hi => absurd hi (by omega)⟩
    case round =>
      obtain ⟨k, δ, hk, rfl, rfl, rfl, HR⟩ := hrel
      by_cases hlt : k < s.follows.length
      · obtain ⟨b, o, A', c', rfl, hb, hc, hs⟩ := HF.out.at_ hlt
        have ib : Lt b W1 := ⟨Nat.lt_of_lt_of_le hb iw1.out⟩
        have hc1 : W1.cell? ⟨b, o + k, none⟩ = some (.slice A' s.follows[k].length c') := (cells_same iw2.out _ _ hb).trans hc
        have hki : (k : Int) < (s.follows.length : Int) := by omega
        have hk0 : ¬ (k : Int) < 0 := by omega
        have hn : nth s.follows k = s.follows[k] := nth_get _ hlt
        obtain ⟨l, hl⟩ : ∃ l, s.follows[k] = l := ⟨_, rfl⟩
        rw [hl] at hc1 hn
        have HL := Lib.hid hn
        clear hc hs hl hn
        by_cases h4 : l.length ≤ 40
        · have p5 : ¬ (40 : Int) < (l.length : Int) := by omega
          go_wp2_with (fail)
          go_roundg (s.follows.length - (k + 1))
          case measure => omega
          case rel =>
            refine ⟨k + 1, _, by omega, rfl, by go_num, lat_def, fun i hi => ?_⟩
            rcases Nat.lt_or_ge i k with h | h
            · exact HR.out i h
            · obtain rfl : i = k := by omega
              rw [HL.out]; exact h4
        · have p5 : (40 : Int) < (l.length : Int) := by omega
          go_wp2_with (fail)
          go_ret
          unfold FarSPost
          exact ⟨true, rfl, fun hf => absurd hf (by simp), lat_ex⟩
      · obtain rfl : k = s.follows.length := by omega
        have HQ : Hid (SmallS s) := Lib.hid ⟨N1.out.1, N1.out.2, m1, m2, m3, m4, fun l hl => by
          obtain ⟨i, hi, rfl⟩ := List.getElem_of_mem hl
          rw [← nth_get _ hi]
          exact HR.out i hi⟩
        go_wp2_with (fail)
        go_ret
        unfold FarSPost
        exact ⟨false, rfl, fun _ => HQ.out, lat_ex⟩
  · have g4 : ¬ ((¬ (40 : Int) < (s.skies.length : Int)) ∧ (¬ (40 : Int) < (s.follows.length : Int)) ∧ (¬ (40 : Int) < (s.first.length : Int)) ∧ ¬ (40 : Int) < (s.days.length : Int)) := by omega
    have G4 := Lib.hid g4
    clear g3 g4 hf h
    go_enter Try.func16, Try.ntmps16
    by_cases q1 : (40 : Int) < (s.skies.length : Int)
    rotate_left
    by_cases q2 : (40 : Int) < (s.follows.length : Int)
    rotate_left
    by_cases q3 : (40 : Int) < (s.first.length : Int)
    rotate_left
    by_cases q4 : (40 : Int) < (s.days.length : Int)
    rotate_left
    · exact absurd ⟨q1, q2, q3, q4⟩ G4.out
    all_goals
      go_wp2_with (first
        | (go_at_call 37; refine (huge_is (r := r.net) G1.out _).mono ?_; rintro e w1 ⟨rfl, δ, rfl⟩)
        | (go_at_call 38; refine (far05_is (r := r.sea) G2.out _).mono ?_; rintro e w1 ⟨rfl, δ2, rfl⟩))
      go_ret
      unfold FarSPost
      exact ⟨true, rfl, fun hf => absurd hf (by simp), lat_ex⟩
end Go.Proofs.Ytnddiloeikaleaa
namespace Go.Proofs.Ytnddiloeikaleaa
open Go.RowKit
open An
open Tc

theorem rSeason_is {r : SeasonR} {s : Season} {x : Int} (hx : errOf (seasonOk s) 130 = x) {B : Nat} {w : World} [hB : Le B w] (h : SeasonIs B w r s) (h40 : s.skies.length ≤ 40 ∧ s.sea.places.length ≤ 40) :
    Calls Try.prog 5 #[seasonV r s] w fun e w' => e = .returned (.int .i64 x) ∧ ∃ δ, w' = lat w δ := by subst hx; exact rSeason_c r s B w h h40
set_option maxRecDepth 100000 in
set_option maxHeartbeats 4000000 in
theorem far13_c (r : SeasonR) (s : Season) (B : Nat) (w : World) [hB : Le B w] (h : SeasonIs B w r s) :
    Calls Try.prog 4 #[seasonV r s] w fun e w' => FarSPost s w e w' := by
  have H := Lib.hid h
  clear h
  go_enter Try.func4, Try.ntmps4
  go_upto_region 1 with fail
  refine wp_name fun W1 hW1 => ?_
  have iw1 : Le B W1 := by rw [hW1.out]; infer_instance
  have iw2 : Grew B w W1 := by rw [hW1.out]; infer_instance
  have iw3 : Le w.heap.size W1 := by rw [hW1.out]; infer_instance
  have iw4 : Grew w.heap.size w W1 := by rw [hW1.out]; infer_instance
  have iw5 : Lt (w.heap.size) W1 := by rw [hW1.out]; infer_instance
  have X1 : Hid (Box W1 w.heap.size 36 (seasonA r s)) := by rw [hW1.out]; exact Lib.hid (Box.new rfl)
  clear hW1
  apply wp_region_lit
  refine wpList_loadB rowSeason rfl _ rfl rfl X1.out rfl ?_
  go_wp2_with (fail)
  refine (huge13_c r s B _ H.out.up).mono ?_
  unfold FarSPost
  rintro e w1 ⟨b, rfl, hs, δ, rfl⟩
  cases b
  · have HS := Lib.hid (hs rfl)
    clear hs
    rcases hk : seasonOk s with _ | _
    · have HK := Lib.hid (show errOf (seasonOk s) 130 = 130 by rw [hk]; rfl)
      clear hk
      go_wp2_with (first
        | (refine wpList_loadB rowSeason rfl _ rfl rfl (Box.upg X1.out) rfl ?_)
        | (go_at_call 5; refine (rSeason_is HK.out H.out.up ⟨HS.out.2.2.1, HS.out.2.1.1⟩).mono ?_; rintro e w1 ⟨rfl, δ2, rfl⟩))
      go_ret
      exact ⟨false, rfl, fun _ => HS.out, lat_ex⟩
    · have HK := Lib.hid (show errOf (seasonOk s) 130 = 0 by rw [hk]; rfl)
      obtain ⟨_, _, k3, _, _, k6, _⟩ := seasonOk_iff.1 hk
      have K3 := Lib.hid k3
      clear hk k3 k6
      go_upto_region 5 with (first
        | (refine wpList_loadB rowSeason rfl _ rfl rfl (Box.upg X1.out) rfl ?_)
        | (go_at_call 5; refine (rSeason_is HK.out H.out.up ⟨HS.out.2.2.1, HS.out.2.1.1⟩).mono ?_; rintro e w1 ⟨rfl, δ2, rfl⟩))
      have B1 : Hid (Box (lat (lat W1 δ) δ2) w.heap.size 36 (seasonA r s)) := Lib.hid (Box.upg X1.out)
      refine wp_name fun W2 hW2 => ?_
      have iw6 : Le B W2 := by rw [hW2.out]; infer_instance
      have iw7 : Grew B w W2 := by rw [hW2.out]; infer_instance
      have iw8 : Le w.heap.size W2 := by rw [hW2.out]; infer_instance
      have iw9 : Grew w.heap.size w W2 := by rw [hW2.out]; infer_instance
      have iw10 : Lt (w.heap.size) W2 := by rw [hW2.out]; infer_instance
      have X2 : Hid (Box W2 w.heap.size 36 (seasonA r s)) := by rw [hW2.out]; exact B1
      clear hW2 B1
      obtain ⟨c0, c1, c2, c3, c4, c5, c6, c7, c8, c9, c10, c11, c12, c13, c14⟩ := X2.out.season
      have i5 : Lt w.heap.size W2 := X2.out.lt
      by_cases q1 : (3 : Int) < (s.skies.length : Int)
      rotate_left
      by_cases q2 : (4 : Int) < (s.days.length : Int)
      all_goals
        go_wp2_with (fail)
        go_loopg [3, 4] s.skies.length (fun g v i wr => ∃ (k : Nat) (far : Bool) (δ : World), k ≤ s.skies.length ∧ g = s.skies.length - k ∧ v = .bool far ∧ i = .int .i64 k ∧ wr = lat W2 δ)
        case atStart => exact ⟨0, _, W2, Nat.zero_le _, rfl, rfl, rfl, (lat_refl W2).symm⟩
        case round =>
          obtain ⟨k, far, δ3, hk, rfl, rfl, rfl, rfl⟩ := hrel
          by_cases hlt : k < s.skies.length
          · have hki : (k : Int) < (s.skies.length : Int) := by omega
            have hk4 : k < 4 := by have := K3.out; omega
            cases far
            · go_wp2_with (first
                | (refine wpList_loadBw rowSeason rfl _ rfl rfl (Box.upg X2.out) rfl ?_)
                | (go_at_call 8; refine (rNetOf_c r s k hlt (by have := HS.out.1; omega) (by have := HS.out.1; omega) (by have := HS.out.1; omega) HS.out.2.2.1 B _ H.out.up).mono ?_; rintro e w1 ⟨r', δ4, rfl, rfl, ho⟩; have HO := Lib.hid ho.is; clear ho))
              refine (far_c r' (netOf s k) _ _ HO.out.wide).mono ?_
              unfold FarPost
              rintro e w1 ⟨b, rfl, _, δ5, rfl⟩
              go_wp2_with (fail)
              go_roundg (s.skies.length - (k + 1))
              case measure => omega
              case rel => exact ⟨k + 1, b, _, by omega, rfl, rfl, by go_num, lat_def⟩
            · go_wp2_with (fail)
              go_roundg (s.skies.length - (k + 1))
              case measure => omega
              case rel => exact ⟨k + 1, true, _, by omega, rfl, rfl, by go_num, lat_def⟩
          · obtain rfl : k = s.skies.length := by omega
            go_wp2_with (fail)
            go_ret
            exact ⟨far, rfl, fun _ => HS.out, lat_ex⟩
  · go_wp2_with (fail)
    go_ret
    exact ⟨true, rfl, fun hf => absurd hf (by simp), lat_ex⟩
end Go.Proofs.Ytnddiloeikaleaa
namespace Go.Proofs.Ytnddiloeikaleaa
open Go.RowKit
open An
open Tc

def exSea : Sea := ⟨⟨100, 120⟩, [⟨2, 6⟩, ⟨3, 5⟩, ⟨4, 6⟩], [⟨50, 4⟩, ⟨60, 7⟩, ⟨45, 2⟩, ⟨70, 9⟩]⟩
def exSea2 : Sea := ⟨⟨100, 120⟩, [⟨2, 6⟩, ⟨3, 5⟩, ⟨4, 6⟩], [⟨50, 4⟩, ⟨45, 2⟩]⟩
set_option maxRecDepth 100000 in
set_option maxHeartbeats 4000000 in
theorem example05_c (w : World) :
    Calls Try.prog 45 #[] w fun e w' => ∃ (r2 : SeaR) (δ : World), e = .returned (.tuple #[seaV ⟨some ⟨w.heap.size + 1 + 1, 0, none⟩, 3, some ⟨w.heap.size + 1 + 1 + 1, 0, none⟩, 4⟩ exSea, seaV r2 exSea2]) ∧ w' = lat w δ ∧ Box (lat w δ) (w.heap.size + 1 + 1) 23 #[.int .i64 2, .int .i64 6, .int .i64 3, .int .i64 5, .int .i64 4, .int .i64 6] ∧ Box (lat w δ) (w.heap.size + 1 + 1 + 1) 88 #[.int .i64 50, .int .i64 4, .int .i64 60, .int .i64 7, .int .i64 45, .int .i64 2, .int .i64 70, .int .i64 9] := by
  go_enter Try.func45, Try.ntmps45
  go_upto_region 2 with fail
  have z0 : Le 0 w := ⟨Nat.zero_le _⟩
  refine wp_name fun W1 hW1 => ?_
  have iw1 : Le 0 W1 := by rw [hW1.out]; infer_instance
  have iw2 : Grew 0 w W1 := by rw [hW1.out]; infer_instance
  have iw3 : Le w.heap.size W1 := by rw [hW1.out]; infer_instance
  have iw4 : Grew w.heap.size w W1 := by rw [hW1.out]; infer_instance
  have iw5 : Lt (w.heap.size) W1 := by rw [hW1.out]; infer_instance
  have iw6 : Lt (w.heap.size + 1) W1 := by rw [hW1.out]; infer_instance
  have iw7 : Lt (w.heap.size + 1 + 1) W1 := by rw [hW1.out]; infer_instance
  have iw8 : Lt (w.heap.size + 1 + 1 + 1) W1 := by rw [hW1.out]; infer_instance
  have cw9 : W1.cell? ⟨w.heap.size, 0, none⟩ = some (.int .i64 100) := by rw [hW1.out]; go_simp
  have cw10 : W1.cell? ⟨w.heap.size, 1, none⟩ = some (.int .i64 120) := by rw [hW1.out]; go_simp
  have cw11 : W1.cell? ⟨w.heap.size, 2, none⟩ = some (.slice (some ⟨w.heap.size + 1 + 1, 0, none⟩) 3 3) := by rw [hW1.out]; go_simp
  have cw12 : W1.cell? ⟨w.heap.size, 3, none⟩ = some (.slice (some ⟨w.heap.size + 1 + 1 + 1, 0, none⟩) 4 4) := by rw [hW1.out]; go_simp
  have fw13 : W1.frozen? ⟨w.heap.size, 0, none⟩ = false := by rw [hW1.out]; go_simp
  have fw14 : W1.frozen? ⟨w.heap.size, 1, none⟩ = false := by rw [hW1.out]; go_simp
  have fw15 : W1.frozen? ⟨w.heap.size, 2, none⟩ = false := by rw [hW1.out]; go_simp
  have fw16 : W1.frozen? ⟨w.heap.size, 3, none⟩ = false := by rw [hW1.out]; go_simp
  have cw17 : W1.cell? ⟨w.heap.size + 1, 0, none⟩ = some (.int .i64 0) := by rw [hW1.out]; go_simp
  have cw18 : W1.cell? ⟨w.heap.size + 1, 1, none⟩ = some (.int .i64 0) := by rw [hW1.out]; go_simp
  have cw19 : W1.cell? ⟨w.heap.size + 1, 2, none⟩ = some (.slice none 0 0) := by rw [hW1.out]; go_simp
  have cw20 : W1.cell? ⟨w.heap.size + 1, 3, none⟩ = some (.slice none 0 0) := by rw [hW1.out]; go_simp
  have fw21 : W1.frozen? ⟨w.heap.size + 1, 0, none⟩ = false := by rw [hW1.out]; go_simp
  have fw22 : W1.frozen? ⟨w.heap.size + 1, 1, none⟩ = false := by rw [hW1.out]; go_simp
  have fw23 : W1.frozen? ⟨w.heap.size + 1, 2, none⟩ = false := by rw [hW1.out]; go_simp
  have fw24 : W1.frozen? ⟨w.heap.size + 1, 3, none⟩ = false := by rw [hW1.out]; go_simp
  have cw25 : W1.cell? ⟨w.heap.size + 1 + 1 + 1, 0, none⟩ = some (.int .i64 50) := by rw [hW1.out]; go_simp
  have cw26 : W1.cell? ⟨w.heap.size + 1 + 1 + 1, 1, none⟩ = some (.int .i64 4) := by rw [hW1.out]; go_simp
  have cw27 : W1.cell? ⟨w.heap.size + 1 + 1 + 1, 2, none⟩ = some (.int .i64 60) := by rw [hW1.out]; go_simp
  have cw28 : W1.cell? ⟨w.heap.size + 1 + 1 + 1, 3, none⟩ = some (.int .i64 7) := by rw [hW1.out]; go_simp
  have cw29 : W1.cell? ⟨w.heap.size + 1 + 1 + 1, 4, none⟩ = some (.int .i64 45) := by rw [hW1.out]; go_simp
  have cw30 : W1.cell? ⟨w.heap.size + 1 + 1 + 1, 5, none⟩ = some (.int .i64 2) := by rw [hW1.out]; go_simp
  have cw31 : W1.cell? ⟨w.heap.size + 1 + 1 + 1, 6, none⟩ = some (.int .i64 70) := by rw [hW1.out]; go_simp
  have cw32 : W1.cell? ⟨w.heap.size + 1 + 1 + 1, 7, none⟩ = some (.int .i64 9) := by rw [hW1.out]; go_simp
  have HL : Hid (Box W1 (w.heap.size + 1) 31 #[.int .i64 0, .int .i64 0, .slice none 0 0, .slice none 0 0]) := by
    rw [hW1.out]
    repeat (first | exact Box.new (by go_simp) | refine Box.alloc ?_ _)
  have HP : Hid (Box W1 (w.heap.size + 1 + 1) 23 #[.int .i64 2, .int .i64 6, .int .i64 3, .int .i64 5, .int .i64 4, .int .i64 6]) := by
    rw [hW1.out]
    repeat (first | exact Box.new (by go_simp) | refine Box.alloc ?_ _)
  have HQ : Hid (Box W1 (w.heap.size + 1 + 1 + 1) 88 #[.int .i64 50, .int .i64 4, .int .i64 60, .int .i64 7, .int .i64 45, .int .i64 2, .int .i64 70, .int .i64 9]) := by
    rw [hW1.out]
    repeat (first | exact Box.new (by go_simp) | refine Box.alloc ?_ _)
  have hS : Hid (SeaIs W1.heap.size W1 ⟨some ⟨w.heap.size + 1 + 1, 0, none⟩, 3, some ⟨w.heap.size + 1 + 1 + 1, 0, none⟩, 4⟩ exSea) := Lib.hid ⟨Sl_box exSea.places (T := 23) (cs := #[.int .i64 2, .int .i64 6, .int .i64 3, .int .i64 5, .int .i64 4, .int .i64 6]) HP.out (Nat.le_of_ble_eq_true rfl) (Nat.le_of_ble_eq_true rfl) rfl, Sl_box exSea.boats (T := 88) (cs := #[.int .i64 50, .int .i64 4, .int .i64 60, .int .i64 7, .int .i64 45, .int .i64 2, .int .i64 70, .int .i64 9]) HQ.out (Nat.le_of_ble_eq_true rfl) (Nat.le_of_ble_eq_true rfl) rfl⟩
  clear hW1
  go_wp2_with (fail)
  refine (seaCopy_c ⟨some ⟨w.heap.size + 1 + 1, 0, none⟩, 3, some ⟨w.heap.size + 1 + 1 + 1, 0, none⟩, 4⟩ exSea W1.heap.size W1 (hB := ⟨Nat.le_refl _⟩) hS.out (by decide) (by decide)).mono ?_
  rintro e w1 ⟨⟨pA, pc, bA, bc⟩, δ, rfl, rfl, _⟩
  go_wp2_with (fail)
  go_region
  go_wp2_with (fail)
  refine wp_name fun W2 hW2 => ?_
  have iw33 : Le 0 W2 := by rw [hW2.out]; infer_instance
  have iw34 : Grew 0 w W2 := by rw [hW2.out]; infer_instance
  have iw35 : Le w.heap.size W2 := by rw [hW2.out]; infer_instance
  have iw36 : Grew w.heap.size w W2 := by rw [hW2.out]; infer_instance
  have iw37 : Lt (w.heap.size) W2 := by rw [hW2.out]; infer_instance
  have iw38 : Lt (w.heap.size + 1) W2 := by rw [hW2.out]; infer_instance
  have cw39 : W2.cell? ⟨w.heap.size, 0, none⟩ = some (.int .i64 100) := by rw [hW2.out]; go_simp
  have cw40 : W2.cell? ⟨w.heap.size, 1, none⟩ = some (.int .i64 120) := by rw [hW2.out]; go_simp
  have cw41 : W2.cell? ⟨w.heap.size, 2, none⟩ = some (.slice (some ⟨w.heap.size + 1 + 1, 0, none⟩) 3 3) := by rw [hW2.out]; go_simp
  have cw42 : W2.cell? ⟨w.heap.size, 3, none⟩ = some (.slice (some ⟨w.heap.size + 1 + 1 + 1, 0, none⟩) 4 4) := by rw [hW2.out]; go_simp
  have fw43 : W2.frozen? ⟨w.heap.size, 0, none⟩ = false := by rw [hW2.out]; go_simp
  have fw44 : W2.frozen? ⟨w.heap.size, 1, none⟩ = false := by rw [hW2.out]; go_simp
  have fw45 : W2.frozen? ⟨w.heap.size, 2, none⟩ = false := by rw [hW2.out]; go_simp
  have fw46 : W2.frozen? ⟨w.heap.size, 3, none⟩ = false := by rw [hW2.out]; go_simp
  have L2 : Hid (Box W2 (w.heap.size + 1) 31 #[.int .i64 100, .int .i64 120, .slice pA 3 pc, .slice (some ⟨(lat W1 δ).heap.size, 0, none⟩) 2 2]) := by
    rw [hW2.out]
    exact (((((((HL.out.lat δ).set 0 (.int .i64 100)).set 1 (.int .i64 120)).set 2 (.slice pA 3 pc)).set 3 (.slice bA 4 bc)).set 3 (.slice (some ⟨(lat W1 δ).heap.size, 0, none⟩) 2 2)).alloc _).drew
  have d0 := L2.out.cell (i := 0) (v := .int .i64 100) rfl
  have d1 := L2.out.cell (i := 1) (v := .int .i64 120) rfl
  have d2 := L2.out.cell (i := 2) (v := .slice pA 3 pc) rfl
  have d3 := L2.out.cell (i := 3) (v := .slice (some ⟨(lat W1 δ).heap.size, 0, none⟩) 2 2) rfl
  have f0 := L2.out.free 0
  have f1 := L2.out.free 1
  have f2 := L2.out.free 2
  have f3 := L2.out.free 3
  have KP : Hid (Box W2 (w.heap.size + 1 + 1) 23 #[.int .i64 2, .int .i64 6, .int .i64 3, .int .i64 5, .int .i64 4, .int .i64 6]) := by
    rw [hW2.out]
    unfold Hid
    refine Box.drew (Box.alloc ?_ _)
    iterate 5 (refine Box.far ?_ (by show w.heap.size + 1 + 1 ≠ w.heap.size + 1; omega) _)
    exact HP.out.lat δ
  have KQ : Hid (Box W2 (w.heap.size + 1 + 1 + 1) 88 #[.int .i64 50, .int .i64 4, .int .i64 60, .int .i64 7, .int .i64 45, .int .i64 2, .int .i64 70, .int .i64 9]) := by
    rw [hW2.out]
    unfold Hid
    refine Box.drew (Box.alloc ?_ _)
    iterate 5 (refine Box.far ?_ (by show w.heap.size + 1 + 1 + 1 ≠ w.heap.size + 1; omega) _)
    exact HQ.out.lat δ
  clear hW2
  go_region
  go_wp2_with (fail)
  refine bodyPost_ret (v := .tuple #[seaV ⟨some ⟨w.heap.size + 1 + 1, 0, none⟩, 3, some ⟨w.heap.size + 1 + 1 + 1, 0, none⟩, 4⟩ exSea, seaV ⟨pA, pc, some ⟨(lat W1 δ).heap.size, 0, none⟩, 2⟩ exSea2]) ?_ rfl ?_
  · simp only [results, Try.results45]
    go_simp
    simp [exSea, exSea2]
  · refine ⟨⟨pA, pc, some ⟨(lat W1 δ).heap.size, 0, none⟩, 2⟩, _, rfl, lat_def, ?_⟩
    rw [← lat_def (w := w)]
    refine ⟨?_, ?_⟩
    · refine Box.drew ?_
      iterate 4 (refine Box.far ?_ (by show w.heap.size + 1 + 1 ≠ w.heap.size + 1; omega) _)
      iterate 4 (refine Box.far ?_ (by show w.heap.size + 1 + 1 ≠ w.heap.size; omega) _)
      exact KP.out
    · refine Box.drew ?_
      iterate 4 (refine Box.far ?_ (by show w.heap.size + 1 + 1 + 1 ≠ w.heap.size + 1; omega) _)
      iterate 4 (refine Box.far ?_ (by show w.heap.size + 1 + 1 + 1 ≠ w.heap.size; omega) _)
      exact KQ.out
end Go.Proofs.Ytnddiloeikaleaa
namespace Go.Proofs.Ytnddiloeikaleaa
open Go.RowKit
open An
open Tc

theorem span13_c (a b : Int) (w : World) :
    Calls Try.prog 44 #[.int .i64 a, .int .i64 b] w fun e w' => e = .returned (.agg #[.int .i64 a, .int .i64 b]) ∧ ∃ δ, w' = lat w δ := by
  go_enter Try.func44, Try.ntmps44
  go_wp2_with (fail)
  refine bodyPost_ret (v := .agg #[.int .i64 a, .int .i64 b]) ?_ rfl ?_
  · simp only [results, Try.results44]
    go_simp
  · exact ⟨rfl, lat_ex⟩
def exSeason : Season := ⟨exN, exSea, [⟨⟨0, 1⟩, ⟨0, 0⟩⟩, ⟨⟨2, 4⟩, ⟨1, 3⟩⟩], [[0, 1], [0]], [0, 1], [⟨60, 80⟩, ⟨90, 120⟩, ⟨100, 121⟩]⟩
/-- What the example's region has made so far. -/
structure ExF (base : Nat) (x23 x24 x25 x26 x27 x28 x29 x30 x31 x32 x33 x34 x35 x36 x37 : Value) (W : World) (q2 q3 q4 q5 q6 q7 q8 q9 q10 q11 q12 q13 q14 q15 q16 : Prop) : Prop where
  f2 : q2 → x23 = .agg #[.int .i64 0, .int .i64 1]
  f3 : q3 → x24 = .agg #[.int .i64 0, .int .i64 0]
  f4 : q4 → x25 = .agg #[.int .i64 0, .int .i64 1, .int .i64 0, .int .i64 0]
  f5 : q5 → x26 = .agg #[.int .i64 2, .int .i64 4]
  f6 : q6 → x27 = .agg #[.int .i64 1, .int .i64 3]
  f7 : q7 → x28 = .agg #[.int .i64 2, .int .i64 4, .int .i64 1, .int .i64 3]
  f8 : q8 → ∃ g, x29 = .slice (some ⟨g, 0, none⟩) 2 2 ∧ base ≤ g ∧ Box W g 59 #[.int .i64 0, .int .i64 1, .int .i64 0, .int .i64 0, .int .i64 2, .int .i64 4, .int .i64 1, .int .i64 3]
  f9 : q9 → ∃ g, x30 = .slice (some ⟨g, 0, none⟩) 2 2 ∧ base ≤ g ∧ Box W g 3 #[.int .i64 0, .int .i64 1]
  f10 : q10 → ∃ g, x31 = .slice (some ⟨g, 0, none⟩) 1 1 ∧ base ≤ g ∧ Box W g 3 #[.int .i64 0]
  f11 : q11 → (q9 ∧ q10) ∧ ∃ g, x32 = .slice (some ⟨g, 0, none⟩) 2 2 ∧ base ≤ g ∧ Box W g 34 #[x30, x31]
  f12 : q12 → ∃ g, x33 = .slice (some ⟨g, 0, none⟩) 2 2 ∧ base ≤ g ∧ Box W g 3 #[.int .i64 0, .int .i64 1]
  f13 : q13 → x34 = .agg #[.int .i64 60, .int .i64 80]
  f14 : q14 → x35 = .agg #[.int .i64 90, .int .i64 120]
  f15 : q15 → x36 = .agg #[.int .i64 100, .int .i64 121]
  f16 : q16 → ∃ g, x37 = .slice (some ⟨g, 0, none⟩) 3 3 ∧ base ≤ g ∧ Box W g 23 #[.int .i64 60, .int .i64 80, .int .i64 90, .int .i64 120, .int .i64 100, .int .i64 121]
theorem ExF.grow {base : Nat} {x23 x24 x25 x26 x27 x28 x29 x30 x31 x32 x33 x34 x35 x36 x37 : Value} {W W' : World} {q2 q3 q4 q5 q6 q7 q8 q9 q10 q11 q12 q13 q14 q15 q16 : Prop} (h : ExF base x23 x24 x25 x26 x27 x28 x29 x30 x31 x32 x33 x34 x35 x36 x37 W q2 q3 q4 q5 q6 q7 q8 q9 q10 q11 q12 q13 q14 q15 q16) [Grew W.heap.size W W'] : ExF base x23 x24 x25 x26 x27 x28 x29 x30 x31 x32 x33 x34 x35 x36 x37 W' q2 q3 q4 q5 q6 q7 q8 q9 q10 q11 q12 q13 q14 q15 q16 :=
  ⟨h.f2, h.f3, h.f4, h.f5, h.f6, h.f7, fun k => (h.f8 k).imp fun _ x => ⟨x.1, x.2.1, Box.upg x.2.2⟩, fun k => (h.f9 k).imp fun _ x => ⟨x.1, x.2.1, Box.upg x.2.2⟩, fun k => (h.f10 k).imp fun _ x => ⟨x.1, x.2.1, Box.upg x.2.2⟩, fun k => ⟨(h.f11 k).1, (h.f11 k).2.imp fun _ x => ⟨x.1, x.2.1, Box.upg x.2.2⟩⟩, fun k => (h.f12 k).imp fun _ x => ⟨x.1, x.2.1, Box.upg x.2.2⟩, h.f13, h.f14, h.f15, fun k => (h.f16 k).imp fun _ x => ⟨x.1, x.2.1, Box.upg x.2.2⟩⟩
def exFr (b0 a0 c0 d0 : Nat) (r2 : SeaR) (x23 x24 x25 x26 x27 x28 x29 x30 x31 x32 x33 x34 x35 x36 x37 x38 : Value) : Act :=
  { tmps := #[.pointer (some ⟨b0, 0, none⟩), .pointer (some ⟨a0 + 1 + 1 + 1, 0, none⟩), .pointer (some ⟨d0, 0, none⟩), .pointer (some ⟨d0 + 1, 0, none⟩), .agg #[.int .i64 2, .int .i64 4], .agg #[.int .i64 1, .int .i64 3], .agg #[.int .i64 2, .int .i64 3], .agg #[.int .i64 1, .int .i64 4], .slice (some ⟨a0, 0, none⟩) 2 2, .agg #[.int .i64 6, .int .i64 0], .agg #[.int .i64 5, .int .i64 1], .agg #[.int .i64 4, .int .i64 0], .slice (some ⟨a0 + 1, 0, none⟩) 3 3, .agg #[.int .i64 2, .int .i64 1, .int .i64 3, .int .i64 8, .int .i64 9], .agg #[.int .i64 1, .int .i64 2, .int .i64 2, .int .i64 6, .int .i64 6], .slice (some ⟨a0 + 1 + 1, 0, none⟩) 2 2, netV ⟨some ⟨a0, 0, none⟩, 2, some ⟨a0 + 1, 0, none⟩, 3, some ⟨a0 + 1 + 1, 0, none⟩, 2⟩ exN, .tuple #[seaV ⟨some ⟨c0 + 1 + 1, 0, none⟩, 3, some ⟨c0 + 1 + 1 + 1, 0, none⟩, 4⟩ exSea, seaV r2 exSea2], .tuple #[seaV ⟨some ⟨c0 + 1 + 1, 0, none⟩, 3, some ⟨c0 + 1 + 1 + 1, 0, none⟩, 4⟩ exSea, seaV r2 exSea2], seaV ⟨some ⟨c0 + 1 + 1, 0, none⟩, 3, some ⟨c0 + 1 + 1 + 1, 0, none⟩, 4⟩ exSea, seaV r2 exSea2, netV ⟨some ⟨a0, 0, none⟩, 2, some ⟨a0 + 1, 0, none⟩, 3, some ⟨a0 + 1 + 1, 0, none⟩, 2⟩ exN, seaV ⟨some ⟨c0 + 1 + 1, 0, none⟩, 3, some ⟨c0 + 1 + 1 + 1, 0, none⟩, 4⟩ exSea, x23, x24, x25, x26, x27, x28, x29, x30, x31, x32, x33, x34, x35, x36, x37, x38], defers := [] }
structure ExE (w : World) (b0 a0 c0 g29 g30 g31 g32 g33 g37 : Nat) (W : World) : Prop where
  b0 : Box W b0 36 (seasonA ⟨⟨some ⟨a0, 0, none⟩, 2, some ⟨a0 + 1, 0, none⟩, 3, some ⟨a0 + 1 + 1, 0, none⟩, 2⟩, ⟨some ⟨c0 + 1 + 1, 0, none⟩, 3, some ⟨c0 + 1 + 1 + 1, 0, none⟩, 4⟩, some ⟨g29, 0, none⟩, 2, some ⟨g32, 0, none⟩, 2, some ⟨g33, 0, none⟩, 2, some ⟨g37, 0, none⟩, 3⟩ exSeason)
  o29 : Box W g29 59 #[.int .i64 0, .int .i64 1, .int .i64 0, .int .i64 0, .int .i64 2, .int .i64 4, .int .i64 1, .int .i64 3]
  o30 : Box W g30 3 #[.int .i64 0, .int .i64 1]
  o31 : Box W g31 3 #[.int .i64 0]
  o32 : Box W g32 34 #[.slice (some ⟨g30, 0, none⟩) 2 2, .slice (some ⟨g31, 0, none⟩) 1 1]
  o33 : Box W g33 3 #[.int .i64 0, .int .i64 1]
  o37 : Box W g37 23 #[.int .i64 60, .int .i64 80, .int .i64 90, .int .i64 120, .int .i64 100, .int .i64 121]
  h0 : Box W a0 23 #[.int .i64 2, .int .i64 3, .int .i64 1, .int .i64 4]
  h1 : Box W (a0 + 1) 51 #[.int .i64 6, .int .i64 0, .int .i64 5, .int .i64 1, .int .i64 4, .int .i64 0]
  h2 : Box W (a0 + 1 + 1) 86 #[.int .i64 2, .int .i64 1, .int .i64 3, .int .i64 8, .int .i64 9, .int .i64 1, .int .i64 2, .int .i64 2, .int .i64 6, .int .i64 6]
  h3 : Box W (c0 + 1 + 1) 23 #[.int .i64 2, .int .i64 6, .int .i64 3, .int .i64 5, .int .i64 4, .int .i64 6]
  h4 : Box W (c0 + 1 + 1 + 1) 88 #[.int .i64 50, .int .i64 4, .int .i64 60, .int .i64 7, .int .i64 45, .int .i64 2, .int .i64 70, .int .i64 9]
  gr : Grew w.heap.size w W
  le : Le w.heap.size W
theorem exSeason_built (a0 c0 g29 g32 g33 g37 : Nat) : Try.prog.built 36 [(0, netV ⟨some ⟨a0, 0, none⟩, 2, some ⟨a0 + 1, 0, none⟩, 3, some ⟨a0 + 1 + 1, 0, none⟩, 2⟩ exN), (1, seaV ⟨some ⟨c0 + 1 + 1, 0, none⟩, 3, some ⟨c0 + 1 + 1 + 1, 0, none⟩, 4⟩ exSea), (2, .slice (some ⟨g29, 0, none⟩) 2 2), (3, .slice (some ⟨g32, 0, none⟩) 2 2), (4, .slice (some ⟨g33, 0, none⟩) 2 2), (5, .slice (some ⟨g37, 0, none⟩) 3 3)] = some (seasonA ⟨⟨some ⟨a0, 0, none⟩, 2, some ⟨a0 + 1, 0, none⟩, 3, some ⟨a0 + 1 + 1, 0, none⟩, 2⟩, ⟨some ⟨c0 + 1 + 1, 0, none⟩, 3, some ⟨c0 + 1 + 1 + 1, 0, none⟩, 4⟩, some ⟨g29, 0, none⟩, 2, some ⟨g32, 0, none⟩, 2, some ⟨g33, 0, none⟩, 2, some ⟨g37, 0, none⟩, 3⟩ exSeason) := by kernel_rfl
def ExI (b0 a0 c0 d0 : Nat) (r2 : SeaR) (w W2 : World) (l : Array Bool) (a : Act) (W : World) : Prop :=
  l.size = 19 ∧ l.getD 0 true = true ∧ l.getD 1 true = true ∧
  ((l.getD 18 true = false ∧ Grew W2.heap.size W2 W ∧ Le W2.heap.size W ∧ ∃ x23 x24 x25 x26 x27 x28 x29 x30 x31 x32 x33 x34 x35 x36 x37 x38, a = exFr b0 a0 c0 d0 r2 x23 x24 x25 x26 x27 x28 x29 x30 x31 x32 x33 x34 x35 x36 x37 x38 ∧ ExF W2.heap.size x23 x24 x25 x26 x27 x28 x29 x30 x31 x32 x33 x34 x35 x36 x37 W (l.getD 2 true = true) (l.getD 3 true = true) (l.getD 4 true = true) (l.getD 5 true = true) (l.getD 6 true = true) (l.getD 7 true = true) (l.getD 8 true = true) (l.getD 9 true = true) (l.getD 10 true = true) (l.getD 11 true = true) (l.getD 12 true = true) (l.getD 13 true = true) (l.getD 14 true = true) (l.getD 15 true = true) (l.getD 16 true = true) ∧ (l.getD 17 true = true → (l.getD 8 true = true ∧ l.getD 11 true = true ∧ l.getD 12 true = true ∧ l.getD 16 true = true) ∧ ∃ c, x38 = .agg c ∧ Try.prog.built 36 [(0, netV ⟨some ⟨a0, 0, none⟩, 2, some ⟨a0 + 1, 0, none⟩, 3, some ⟨a0 + 1 + 1, 0, none⟩, 2⟩ exN), (1, seaV ⟨some ⟨c0 + 1 + 1, 0, none⟩, 3, some ⟨c0 + 1 + 1 + 1, 0, none⟩, 4⟩ exSea), (2, x29), (3, x32), (4, x33), (5, x37)] = some c)) ∨
   ((∀ k, k < 19 → l.getD k true = true) ∧ ∃ x23 x24 x25 x26 x27 x28 x29 x30 x31 x32 x33 x34 x35 x36 x37 x38, a = exFr b0 a0 c0 d0 r2 x23 x24 x25 x26 x27 x28 x29 x30 x31 x32 x33 x34 x35 x36 x37 x38 ∧ ∃ g29 g30 g31 g32 g33 g37, ExE w b0 a0 c0 g29 g30 g31 g32 g33 g37 W))
set_option maxRecDepth 100000 in
set_option maxHeartbeats 4000000 in
theorem example13_c (w : World) :
    Calls Try.prog 24 #[] w fun e w' => ∃ (r : SeasonR) (δ : World), e = .returned (seasonV r exSeason) ∧ w' = lat w δ ∧ SeasonIs (lat w δ).heap.size (lat w δ) r exSeason := by
  go_enter Try.func24, Try.ntmps24
  go_upto_region 1 with fail
  obtain ⟨b0, hb0⟩ : ∃ b, w.heap.size = b := ⟨_, rfl⟩
  refine wp_name fun W0 hW0 => ?_
  have gk : Grew w.heap.size w W0 := by rw [hW0.out]; infer_instance
  have lk : Le w.heap.size W0 := by rw [hW0.out]; infer_instance
  have bz : Hid (Box W0 b0 36 (seasonA zeroSR zeroS)) := by rw [hW0.out]; exact Box.new hb0.symm
  clear hW0
  have HB0 := Lib.hid hb0
  rw [hb0]
  clear hb0
  go_upto_region 2 with (go_at_call 44; refine (span13_c _ _ _).mono ?_; rintro e wk ⟨rfl, δs, hw⟩; have gk : Grew w.heap.size w wk := (by rw [hw]; infer_instance); have lk : Le w.heap.size wk := (by rw [hw]; infer_instance); have bz : Hid (Box wk b0 36 (seasonA zeroSR zeroS)) := (by rw [hw]; exact bz.out.lat δs); clear hw)
  obtain ⟨a0, ha0⟩ : ∃ b, wk.heap.size = b := ⟨_, rfl⟩
  have q0 : b0 < a0 := by rw [← ha0]; exact bz.out.lt_
  refine wp_name fun W1 hW1 => ?_
  have g1 : Grew w.heap.size w W1 := by rw [hW1.out]; infer_instance
  have l1 : Le w.heap.size W1 := by rw [hW1.out]; infer_instance
  have B0 : Hid (Box W1 b0 36 (seasonA zeroSR zeroS)) := by rw [hW1.out]; exact (((bz.out.alloc _).alloc _).alloc _).alloc _
  have Ba : Hid (Box W1 a0 23 #[.int .i64 2, .int .i64 3, .int .i64 1, .int .i64 4]) := by rw [hW1.out]; exact (((Box.new ha0.symm).alloc _).alloc _).alloc _
  have Bb : Hid (Box W1 (a0 + 1) 51 #[.int .i64 6, .int .i64 0, .int .i64 5, .int .i64 1, .int .i64 4, .int .i64 0]) := by rw [hW1.out]; exact ((Box.new (by rw [← ha0]; go_simp)).alloc _).alloc _
  have Bc : Hid (Box W1 (a0 + 1 + 1) 86 #[.int .i64 2, .int .i64 1, .int .i64 3, .int .i64 8, .int .i64 9, .int .i64 1, .int .i64 2, .int .i64 2, .int .i64 6, .int .i64 6]) := by rw [hW1.out]; exact (Box.new (by rw [← ha0]; go_simp)).alloc _
  have Bn : Hid (Box W1 (a0 + 1 + 1 + 1) 28 #[.int .i64 2, .int .i64 4, .int .i64 1, .int .i64 3, .slice (some ⟨a0, 0, none⟩) 2 2, .slice (some ⟨a0 + 1, 0, none⟩) 3 3, .slice (some ⟨a0 + 1 + 1, 0, none⟩) 2 2]) := by rw [hW1.out, ← ha0]; exact Box.new (by go_simp)
  clear hW1
  rw [ha0]
  clear ha0 bz
  clear gk lk
  go_wp2_with (fail)
  refine (example05_c _).mono ?_
  obtain ⟨c0, hc0⟩ : ∃ b, W1.heap.size = b := ⟨_, rfl⟩
  have q1 : a0 + 1 + 1 + 1 < c0 := by rw [← hc0]; exact Bn.out.lt_
  rw [hc0]
  rintro e w1 ⟨r2, δ, rfl, hw, hP, hQ⟩
  rw [← hw] at hP hQ
  have g2 : Grew w.heap.size w w1 := by rw [hw]; infer_instance
  have l2 : Le w.heap.size w1 := by rw [hw]; infer_instance
  have B0 : Hid (Box w1 b0 36 (seasonA zeroSR zeroS)) := by rw [hw]; exact B0.out.lat δ
  have Ba : Hid (Box w1 a0 23 #[.int .i64 2, .int .i64 3, .int .i64 1, .int .i64 4]) := by rw [hw]; exact Ba.out.lat δ
  have Bb : Hid (Box w1 (a0 + 1) 51 #[.int .i64 6, .int .i64 0, .int .i64 5, .int .i64 1, .int .i64 4, .int .i64 0]) := by rw [hw]; exact Bb.out.lat δ
  have Bc : Hid (Box w1 (a0 + 1 + 1) 86 #[.int .i64 2, .int .i64 1, .int .i64 3, .int .i64 8, .int .i64 9, .int .i64 1, .int .i64 2, .int .i64 2, .int .i64 6, .int .i64 6]) := by rw [hw]; exact Bc.out.lat δ
  have Bn : Hid (Box w1 (a0 + 1 + 1 + 1) 28 #[.int .i64 2, .int .i64 4, .int .i64 1, .int .i64 3, .slice (some ⟨a0, 0, none⟩) 2 2, .slice (some ⟨a0 + 1, 0, none⟩) 3 3, .slice (some ⟨a0 + 1 + 1, 0, none⟩) 2 2]) := by rw [hw]; exact Bn.out.lat δ
  have BP := Lib.hid hP
  have BQ := Lib.hid hQ
  clear hw hP hQ hc0 g1 l1
  obtain ⟨d0, hd0⟩ : ∃ b, w1.heap.size = b := ⟨_, rfl⟩
  have q2 : c0 + 1 + 1 + 1 < d0 := by rw [← hd0]; exact BQ.out.lt_
  go_upto_region 3 with fail
  refine wp_name fun W2 hW2 => ?_
  have g3 : Grew w.heap.size w W2 := by rw [hW2.out]; infer_instance
  have l3 : Le w.heap.size W2 := by rw [hW2.out]; infer_instance
  have B0 : Hid (Box W2 b0 36 (seasonA zeroSR zeroS)) := by rw [hW2.out]; exact (B0.out.alloc _).alloc _
  have Ba : Hid (Box W2 a0 23 #[.int .i64 2, .int .i64 3, .int .i64 1, .int .i64 4]) := by rw [hW2.out]; exact (Ba.out.alloc _).alloc _
  have Bb : Hid (Box W2 (a0 + 1) 51 #[.int .i64 6, .int .i64 0, .int .i64 5, .int .i64 1, .int .i64 4, .int .i64 0]) := by rw [hW2.out]; exact (Bb.out.alloc _).alloc _
  have Bc : Hid (Box W2 (a0 + 1 + 1) 86 #[.int .i64 2, .int .i64 1, .int .i64 3, .int .i64 8, .int .i64 9, .int .i64 1, .int .i64 2, .int .i64 2, .int .i64 6, .int .i64 6]) := by rw [hW2.out]; exact (Bc.out.alloc _).alloc _
  have BP : Hid (Box W2 (c0 + 1 + 1) 23 #[.int .i64 2, .int .i64 6, .int .i64 3, .int .i64 5, .int .i64 4, .int .i64 6]) := by rw [hW2.out]; exact (BP.out.alloc _).alloc _
  have BQ : Hid (Box W2 (c0 + 1 + 1 + 1) 88 #[.int .i64 50, .int .i64 4, .int .i64 60, .int .i64 7, .int .i64 45, .int .i64 2, .int .i64 70, .int .i64 9]) := by rw [hW2.out]; exact (BQ.out.alloc _).alloc _
  have Bn : Hid (Box W2 (a0 + 1 + 1 + 1) 28 #[.int .i64 2, .int .i64 4, .int .i64 1, .int .i64 3, .slice (some ⟨a0, 0, none⟩) 2 2, .slice (some ⟨a0 + 1, 0, none⟩) 3 3, .slice (some ⟨a0 + 1 + 1, 0, none⟩) 2 2]) := by rw [hW2.out]; exact (Bn.out.alloc _).alloc _
  have Bs : Hid (Box W2 d0 31 #[.int .i64 100, .int .i64 120, .slice (some ⟨c0 + 1 + 1, 0, none⟩) 3 3, .slice (some ⟨c0 + 1 + 1 + 1, 0, none⟩) 4 4]) := by rw [hW2.out]; exact (Box.new hd0.symm).alloc _
  clear hW2 hd0 g2 l2
  have q3 : d0 < W2.heap.size := Bs.out.lt_
  have HB := HB0.out
  refine wp_region_any (by kernel_rfl) ?_
  refine wpAny_of_held (S := fun W => Box W (a0 + 1 + 1 + 1) 28 #[.int .i64 2, .int .i64 4, .int .i64 1, .int .i64 3, .slice (some ⟨a0, 0, none⟩) 2 2, .slice (some ⟨a0 + 1, 0, none⟩) 3 3, .slice (some ⟨a0 + 1 + 1, 0, none⟩) 2 2] ∧ Box W d0 31 #[.int .i64 100, .int .i64 120, .slice (some ⟨c0 + 1 + 1, 0, none⟩) 3 3, .slice (some ⟨c0 + 1 + 1 + 1, 0, none⟩) 4 4]) _ _ _ _ ?_
  change wpAnyH _ _ _ _ _ _ _ _ (World.drew _)
  have S0 : Box W2.drew (a0 + 1 + 1 + 1) 28 #[.int .i64 2, .int .i64 4, .int .i64 1, .int .i64 3, .slice (some ⟨a0, 0, none⟩) 2 2, .slice (some ⟨a0 + 1, 0, none⟩) 3 3, .slice (some ⟨a0 + 1 + 1, 0, none⟩) 2 2] ∧ Box W2.drew d0 31 #[.int .i64 100, .int .i64 120, .slice (some ⟨c0 + 1 + 1, 0, none⟩) 3 3, .slice (some ⟨c0 + 1 + 1 + 1, 0, none⟩) 4 4] := ⟨Bn.out, Bs.out⟩
  refine wpH_t 0 (netV ⟨some ⟨a0, 0, none⟩, 2, some ⟨a0 + 1, 0, none⟩, 3, some ⟨a0 + 1 + 1, 0, none⟩, 2⟩ exN) rfl (by kernel_rfl) (Or.inl ⟨by rfl, by intro w5 h5; have e0 := Box.cell h5.1 (i := 0) rfl; have e1 := Box.cell h5.1 (i := 1) rfl; have e2 := Box.cell h5.1 (i := 2) rfl; have e3 := Box.cell h5.1 (i := 3) rfl; have e4 := Box.cell h5.1 (i := 4) rfl; have e5 := Box.cell h5.1 (i := 5) rfl; have e6 := Box.cell h5.1 (i := 6) rfl; go_simp; decide⟩) S0 ?_
  try simp only [Act.put, List.getElem_toArray, List.getElem_cons_zero, List.setIfInBounds_toArray, List.set_cons_zero, List.set_cons_succ]
  refine wpH_t 1 (seaV ⟨some ⟨c0 + 1 + 1, 0, none⟩, 3, some ⟨c0 + 1 + 1 + 1, 0, none⟩, 4⟩ exSea) rfl (by kernel_rfl) (Or.inl ⟨by rfl, by intro w5 h5; have e0 := Box.cell h5.2 (i := 0) rfl; have e1 := Box.cell h5.2 (i := 1) rfl; have e2 := Box.cell h5.2 (i := 2) rfl; have e3 := Box.cell h5.2 (i := 3) rfl; go_simp; decide⟩) S0 ?_
  try simp only [Act.put, List.getElem_toArray, List.getElem_cons_succ, List.getElem_cons_zero, List.setIfInBounds_toArray, List.set_cons_zero, List.set_cons_succ]
  refine wpAnyH_inv (ExI b0 a0 c0 d0 r2 w W2) ?_ ?_ _ _ _ _ ?_ ?_
  · intro l a W i hI hi
    obtain ⟨hsz, ht0, ht1, hI⟩ := hI
    have h0 := (mem_ready.1 hi).1
    have hlt : i < 19 := by
      rcases Nat.lt_or_ge i 19 with hl | hl
      · exact hl
      · rw [Array.getD_eq_getD_getElem?, Array.getElem?_eq_none (by omega)] at h0; cases h0
    rcases hI.symm with ⟨hall, _⟩ | ⟨h18, hgr, hle, x23, x24, x25, x26, x27, x28, x29, x30, x31, x32, x33, x34, x35, x36, x37, x38, rfl, hF, hB⟩
    · rw [hall i hlt] at h0; cases h0
    have hsz' : (l.setIfInBounds i true).size = 19 := by rw [Array.size_setIfInBounds]; exact hsz
    have hgd : ∀ k, (l.setIfInBounds i true).getD k true = if k = i then true else l.getD k true := fun k => getD_set' k (by omega)
    have t0 : (l.setIfInBounds i true).getD 0 true = true := by rw [hgd, ht0]; simp
    have t1 : (l.setIfInBounds i true).getD 1 true = true := by rw [hgd, ht1]; simp
    have cs : i = 0 ∨ i = 1 ∨ i = 2 ∨ i = 3 ∨ i = 4 ∨ i = 5 ∨ i = 6 ∨ i = 7 ∨ i = 8 ∨ i = 9 ∨ i = 10 ∨ i = 11 ∨ i = 12 ∨ i = 13 ∨ i = 14 ∨ i = 15 ∨ i = 16 ∨ i = 17 ∨ i = 18 := by omega
    have nxt : ∀ x23 x24 x25 x26 x27 x28 x29 x30 x31 x32 x33 x34 x35 x36 x37 x38 W', i ≠ 18 → Grew W2.heap.size W2 W' → Le W2.heap.size W' → ExF W2.heap.size x23 x24 x25 x26 x27 x28 x29 x30 x31 x32 x33 x34 x35 x36 x37 W' ((if 2 = i then true else l.getD 2 true) = true) ((if 3 = i then true else l.getD 3 true) = true) ((if 4 = i then true else l.getD 4 true) = true) ((if 5 = i then true else l.getD 5 true) = true) ((if 6 = i then true else l.getD 6 true) = true) ((if 7 = i then true else l.getD 7 true) = true) ((if 8 = i then true else l.getD 8 true) = true) ((if 9 = i then true else l.getD 9 true) = true) ((if 10 = i then true else l.getD 10 true) = true) ((if 11 = i then true else l.getD 11 true) = true) ((if 12 = i then true else l.getD 12 true) = true) ((if 13 = i then true else l.getD 13 true) = true) ((if 14 = i then true else l.getD 14 true) = true) ((if 15 = i then true else l.getD 15 true) = true) ((if 16 = i then true else l.getD 16 true) = true) → ((if 17 = i then true else l.getD 17 true) = true → (((if 8 = i then true else l.getD 8 true) = true) ∧ ((if 11 = i then true else l.getD 11 true) = true) ∧ ((if 12 = i then true else l.getD 12 true) = true) ∧ ((if 16 = i then true else l.getD 16 true) = true)) ∧ ∃ c, x38 = .agg c ∧ Try.prog.built 36 [(0, netV ⟨some ⟨a0, 0, none⟩, 2, some ⟨a0 + 1, 0, none⟩, 3, some ⟨a0 + 1 + 1, 0, none⟩, 2⟩ exN), (1, seaV ⟨some ⟨c0 + 1 + 1, 0, none⟩, 3, some ⟨c0 + 1 + 1 + 1, 0, none⟩, 4⟩ exSea), (2, x29), (3, x32), (4, x33), (5, x37)] = some c) →
        (Box W' (a0 + 1 + 1 + 1) 28 #[.int .i64 2, .int .i64 4, .int .i64 1, .int .i64 3, .slice (some ⟨a0, 0, none⟩) 2 2, .slice (some ⟨a0 + 1, 0, none⟩) 3 3, .slice (some ⟨a0 + 1 + 1, 0, none⟩) 2 2] ∧ Box W' d0 31 #[.int .i64 100, .int .i64 120, .slice (some ⟨c0 + 1 + 1, 0, none⟩) 3 3, .slice (some ⟨c0 + 1 + 1 + 1, 0, none⟩) 4 4]) ∧ ExI b0 a0 c0 d0 r2 w W2 (l.setIfInBounds i true) (exFr b0 a0 c0 d0 r2 x23 x24 x25 x26 x27 x28 x29 x30 x31 x32 x33 x34 x35 x36 x37 x38) W' := fun _ _ _ _ _ _ _ _ _ _ _ _ _ _ _ _ _ hne hg hl hF hB =>
      ⟨⟨Box.upg Bn.out, Box.upg Bs.out⟩, hsz', t0, t1, Or.inl ⟨by rw [hgd, if_neg (Ne.symm hne)]; exact h18, hg, hl, _, _, _, _, _, _, _, _, _, _, _, _, _, _, _, _, rfl, by simpa only [hgd] using hF, by simpa only [hgd] using hB⟩⟩
    have no17 : ∀ (P : Prop), i = 8 ∨ i = 11 ∨ i = 12 ∨ i = 16 → l.getD 17 true = true → P := fun _ hq hk => by
      have hh := (hB hk).1
      rcases hq with rfl | rfl | rfl | rfl
      · rw [hh.1] at h0; cases h0
      · rw [hh.2.1] at h0; cases h0
      · rw [hh.2.2.1] at h0; cases h0
      · rw [hh.2.2.2] at h0; cases h0
    have NXT := Lib.hid nxt
    have HIR := Lib.hid hi
    have HGD := Lib.hid hgd
    have HB1 := Lib.hid hB
    have HFF := Lib.hid hF
    have HNO := Lib.hid no17
    clear hI nxt hi hgd hF hB no17
    rcases cs with rfl | rfl | rfl | rfl | rfl | rfl | rfl | rfl | rfl | rfl | rfl | rfl | rfl | rfl | rfl | rfl | rfl | rfl | rfl
    · rw [ht0] at h0; cases h0
    · rw [ht1] at h0; cases h0
    · unfold wpOp
      show if Region.wanted _ _ = true then _ else _
      rw [if_pos (by rfl)]
      left
      have nxt := NXT.out
      have hF := HFF.out
      have hB := HB1.out
      have no17 := HNO.out
      have hi := HIR.out
      clear nxt hF hB no17 hi
      unfold Oper.wp exFr
      go_simp
      refine (span13_c _ _ _).mono ?_
      rintro e w1 ⟨rfl, δ, rfl⟩
      have nxt := NXT.out
      have hB := HB1.out
      have G := HFF.out.grow (W' := lat W δ)
      exact nxt (.agg #[.int .i64 0, .int .i64 1]) x24 x25 x26 x27 x28 x29 x30 x31 x32 x33 x34 x35 x36 x37 x38 _ (by decide) inferInstance inferInstance
        ⟨fun _ => rfl, G.f3, G.f4, G.f5, G.f6, G.f7, G.f8, G.f9, G.f10, G.f11, G.f12, G.f13, G.f14, G.f15, G.f16⟩ hB
    · unfold wpOp
      show if Region.wanted _ _ = true then _ else _
      rw [if_pos (by rfl)]
      left
      have nxt := NXT.out
      have hF := HFF.out
      have hB := HB1.out
      have no17 := HNO.out
      have hi := HIR.out
      clear nxt hF hB no17 hi
      unfold Oper.wp exFr
      go_simp
      refine (span13_c _ _ _).mono ?_
      rintro e w1 ⟨rfl, δ, rfl⟩
      have nxt := NXT.out
      have hB := HB1.out
      have G := HFF.out.grow (W' := lat W δ)
      exact nxt x23 (.agg #[.int .i64 0, .int .i64 0]) x25 x26 x27 x28 x29 x30 x31 x32 x33 x34 x35 x36 x37 x38 _ (by decide) inferInstance inferInstance
        ⟨G.f2, fun _ => rfl, G.f4, G.f5, G.f6, G.f7, G.f8, G.f9, G.f10, G.f11, G.f12, G.f13, G.f14, G.f15, G.f16⟩ hB
    · unfold wpOp
      show if Region.wanted _ _ = true then _ else _
      rw [if_pos (by rfl)]
      left
      have nxt := NXT.out
      have hF := HFF.out
      have hB := HB1.out
      have no17 := HNO.out
      have hi := HIR.out
      have y2 := hF.f2 (ready_dep hi 2 (by omega) (by kernel_rfl))
      subst y2
      have y3 := hF.f3 (ready_dep hi 3 (by omega) (by kernel_rfl))
      subst y3
      refine op_build _ _ rfl (ps := [(0, .agg #[.int .i64 0, .int .i64 1]), (1, .agg #[.int .i64 0, .int .i64 0])]) (cells := #[.int .i64 0, .int .i64 1, .int .i64 0, .int .i64 0]) rfl (by kernel_rfl) ?_
      have G := hF
      exact nxt (.agg #[.int .i64 0, .int .i64 1]) (.agg #[.int .i64 0, .int .i64 0]) (.agg #[.int .i64 0, .int .i64 1, .int .i64 0, .int .i64 0]) x26 x27 x28 x29 x30 x31 x32 x33 x34 x35 x36 x37 x38 _ (by decide) inferInstance inferInstance
        ⟨G.f2, G.f3, fun _ => rfl, G.f5, G.f6, G.f7, G.f8, G.f9, G.f10, G.f11, G.f12, G.f13, G.f14, G.f15, G.f16⟩ hB
    · unfold wpOp
      show if Region.wanted _ _ = true then _ else _
      rw [if_pos (by rfl)]
      left
      have nxt := NXT.out
      have hF := HFF.out
      have hB := HB1.out
      have no17 := HNO.out
      have hi := HIR.out
      clear nxt hF hB no17 hi
      unfold Oper.wp exFr
      go_simp
      refine (span13_c _ _ _).mono ?_
      rintro e w1 ⟨rfl, δ, rfl⟩
      have nxt := NXT.out
      have hB := HB1.out
      have G := HFF.out.grow (W' := lat W δ)
      exact nxt x23 x24 x25 (.agg #[.int .i64 2, .int .i64 4]) x27 x28 x29 x30 x31 x32 x33 x34 x35 x36 x37 x38 _ (by decide) inferInstance inferInstance
        ⟨G.f2, G.f3, G.f4, fun _ => rfl, G.f6, G.f7, G.f8, G.f9, G.f10, G.f11, G.f12, G.f13, G.f14, G.f15, G.f16⟩ hB
    · unfold wpOp
      show if Region.wanted _ _ = true then _ else _
      rw [if_pos (by rfl)]
      left
      have nxt := NXT.out
      have hF := HFF.out
      have hB := HB1.out
      have no17 := HNO.out
      have hi := HIR.out
      clear nxt hF hB no17 hi
      unfold Oper.wp exFr
      go_simp
      refine (span13_c _ _ _).mono ?_
      rintro e w1 ⟨rfl, δ, rfl⟩
      have nxt := NXT.out
      have hB := HB1.out
      have G := HFF.out.grow (W' := lat W δ)
      exact nxt x23 x24 x25 x26 (.agg #[.int .i64 1, .int .i64 3]) x28 x29 x30 x31 x32 x33 x34 x35 x36 x37 x38 _ (by decide) inferInstance inferInstance
        ⟨G.f2, G.f3, G.f4, G.f5, fun _ => rfl, G.f7, G.f8, G.f9, G.f10, G.f11, G.f12, G.f13, G.f14, G.f15, G.f16⟩ hB
    · unfold wpOp
      show if Region.wanted _ _ = true then _ else _
      rw [if_pos (by rfl)]
      left
      have nxt := NXT.out
      have hF := HFF.out
      have hB := HB1.out
      have no17 := HNO.out
      have hi := HIR.out
      have y5 := hF.f5 (ready_dep hi 5 (by omega) (by kernel_rfl))
      subst y5
      have y6 := hF.f6 (ready_dep hi 6 (by omega) (by kernel_rfl))
      subst y6
      refine op_build _ _ rfl (ps := [(0, .agg #[.int .i64 2, .int .i64 4]), (1, .agg #[.int .i64 1, .int .i64 3])]) (cells := #[.int .i64 2, .int .i64 4, .int .i64 1, .int .i64 3]) rfl (by kernel_rfl) ?_
      have G := hF
      exact nxt x23 x24 x25 (.agg #[.int .i64 2, .int .i64 4]) (.agg #[.int .i64 1, .int .i64 3]) (.agg #[.int .i64 2, .int .i64 4, .int .i64 1, .int .i64 3]) x29 x30 x31 x32 x33 x34 x35 x36 x37 x38 _ (by decide) inferInstance inferInstance
        ⟨G.f2, G.f3, G.f4, G.f5, G.f6, fun _ => rfl, G.f8, G.f9, G.f10, G.f11, G.f12, G.f13, G.f14, G.f15, G.f16⟩ hB
    · unfold wpOp
      show if Region.wanted _ _ = true then _ else _
      rw [if_pos (by rfl)]
      left
      have nxt := NXT.out
      have hF := HFF.out
      have hB := HB1.out
      have no17 := HNO.out
      have hi := HIR.out
      have y4 := hF.f4 (ready_dep hi 4 (by omega) (by kernel_rfl))
      subst y4
      have y7 := hF.f7 (ready_dep hi 7 (by omega) (by kernel_rfl))
      subst y7
      have KN := Lib.hid nxt
      have KB := Lib.hid hB
      have KF := Lib.hid hF
      have KO := Lib.hid no17
      clear nxt hF hB no17 hi NXT HFF HB1 HNO HIR
      unfold Oper.wp exFr
      go_simp
      have nxt := KN.out
      have hB := KB.out
      have no17 := KO.out
      have G := KF.out.grow (W' := W.alloc (.cells #[.int .i64 0, .int .i64 1, .int .i64 0, .int .i64 0, .int .i64 2, .int .i64 4, .int .i64 1, .int .i64 3] 59))
      exact nxt x23 x24 (.agg #[.int .i64 0, .int .i64 1, .int .i64 0, .int .i64 0]) x26 x27 (.agg #[.int .i64 2, .int .i64 4, .int .i64 1, .int .i64 3]) (.slice (some ⟨W.heap.size, 0, none⟩) 2 2) x30 x31 x32 x33 x34 x35 x36 x37 x38 _ (by decide) inferInstance inferInstance
        ⟨G.f2, G.f3, G.f4, G.f5, G.f6, G.f7, fun _ => ⟨W.heap.size, rfl, hle.out, Box.new rfl⟩, G.f9, G.f10, G.f11, G.f12, G.f13, G.f14, G.f15, G.f16⟩ (no17 _ (by decide))
    · unfold wpOp
      show if Region.wanted _ _ = true then _ else _
      rw [if_pos (by rfl)]
      left
      have nxt := NXT.out
      have hF := HFF.out
      have hB := HB1.out
      have no17 := HNO.out
      have hi := HIR.out
      have KN := Lib.hid nxt
      have KB := Lib.hid hB
      have KF := Lib.hid hF
      have KO := Lib.hid no17
      clear nxt hF hB no17 hi NXT HFF HB1 HNO HIR
      unfold Oper.wp exFr
      go_simp
      have nxt := KN.out
      have hB := KB.out
      have no17 := KO.out
      have G := KF.out.grow (W' := W.alloc (.cells #[.int .i64 0, .int .i64 1] 3))
      exact nxt x23 x24 x25 x26 x27 x28 x29 (.slice (some ⟨W.heap.size, 0, none⟩) 2 2) x31 x32 x33 x34 x35 x36 x37 x38 _ (by decide) inferInstance inferInstance
        ⟨G.f2, G.f3, G.f4, G.f5, G.f6, G.f7, G.f8, fun _ => ⟨W.heap.size, rfl, hle.out, Box.new rfl⟩, G.f10, fun k => absurd (G.f11 k).1.1 (by rw [h0]; decide), G.f12, G.f13, G.f14, G.f15, G.f16⟩ hB
    · unfold wpOp
      show if Region.wanted _ _ = true then _ else _
      rw [if_pos (by rfl)]
      left
      have nxt := NXT.out
      have hF := HFF.out
      have hB := HB1.out
      have no17 := HNO.out
      have hi := HIR.out
      have KN := Lib.hid nxt
      have KB := Lib.hid hB
      have KF := Lib.hid hF
      have KO := Lib.hid no17
      clear nxt hF hB no17 hi NXT HFF HB1 HNO HIR
      unfold Oper.wp exFr
      go_simp
      have nxt := KN.out
      have hB := KB.out
      have no17 := KO.out
      have G := KF.out.grow (W' := W.alloc (.cells #[.int .i64 0] 3))
      exact nxt x23 x24 x25 x26 x27 x28 x29 x30 (.slice (some ⟨W.heap.size, 0, none⟩) 1 1) x32 x33 x34 x35 x36 x37 x38 _ (by decide) inferInstance inferInstance
        ⟨G.f2, G.f3, G.f4, G.f5, G.f6, G.f7, G.f8, G.f9, fun _ => ⟨W.heap.size, rfl, hle.out, Box.new rfl⟩, fun k => absurd (G.f11 k).1.2 (by rw [h0]; decide), G.f12, G.f13, G.f14, G.f15, G.f16⟩ hB
    · unfold wpOp
      show if Region.wanted _ _ = true then _ else _
      rw [if_pos (by rfl)]
      left
      have nxt := NXT.out
      have hF := HFF.out
      have hB := HB1.out
      have no17 := HNO.out
      have hi := HIR.out
      have r9 := ready_dep hi 9 (by omega) (by kernel_rfl)
      have r10 := ready_dep hi 10 (by omega) (by kernel_rfl)
      obtain ⟨g30, y9, b9, c9⟩ := hF.f9 r9
      obtain ⟨g31, y10, b10, c10⟩ := hF.f10 r10
      subst y9 y10
      have KN := Lib.hid nxt
      have KB := Lib.hid hB
      have KF := Lib.hid hF
      have KO := Lib.hid no17
      clear nxt hF hB no17 hi NXT HFF HB1 HNO HIR
      unfold Oper.wp exFr
      go_simp
      have nxt := KN.out
      have hB := KB.out
      have no17 := KO.out
      have G := KF.out.grow (W' := W.alloc (.cells #[.slice (some ⟨g30, 0, none⟩) 2 2, .slice (some ⟨g31, 0, none⟩) 1 1] 34))
      exact nxt x23 x24 x25 x26 x27 x28 x29 (.slice (some ⟨g30, 0, none⟩) 2 2) (.slice (some ⟨g31, 0, none⟩) 1 1) (.slice (some ⟨W.heap.size, 0, none⟩) 2 2) x33 x34 x35 x36 x37 x38 _ (by decide) inferInstance inferInstance
        ⟨G.f2, G.f3, G.f4, G.f5, G.f6, G.f7, G.f8, G.f9, G.f10, fun _ => ⟨⟨r9, r10⟩, W.heap.size, rfl, hle.out, Box.new rfl⟩, G.f12, G.f13, G.f14, G.f15, G.f16⟩ (no17 _ (by decide))
    · unfold wpOp
      show if Region.wanted _ _ = true then _ else _
      rw [if_pos (by rfl)]
      left
      have nxt := NXT.out
      have hF := HFF.out
      have hB := HB1.out
      have no17 := HNO.out
      have hi := HIR.out
      have KN := Lib.hid nxt
      have KB := Lib.hid hB
      have KF := Lib.hid hF
      have KO := Lib.hid no17
      clear nxt hF hB no17 hi NXT HFF HB1 HNO HIR
      unfold Oper.wp exFr
      go_simp
      have nxt := KN.out
      have hB := KB.out
      have no17 := KO.out
      have G := KF.out.grow (W' := W.alloc (.cells #[.int .i64 0, .int .i64 1] 3))
      exact nxt x23 x24 x25 x26 x27 x28 x29 x30 x31 x32 (.slice (some ⟨W.heap.size, 0, none⟩) 2 2) x34 x35 x36 x37 x38 _ (by decide) inferInstance inferInstance
        ⟨G.f2, G.f3, G.f4, G.f5, G.f6, G.f7, G.f8, G.f9, G.f10, G.f11, fun _ => ⟨W.heap.size, rfl, hle.out, Box.new rfl⟩, G.f13, G.f14, G.f15, G.f16⟩ (no17 _ (by decide))
    · unfold wpOp
      show if Region.wanted _ _ = true then _ else _
      rw [if_pos (by rfl)]
      left
      have nxt := NXT.out
      have hF := HFF.out
      have hB := HB1.out
      have no17 := HNO.out
      have hi := HIR.out
      clear nxt hF hB no17 hi
      unfold Oper.wp exFr
      go_simp
      refine (span13_c _ _ _).mono ?_
      rintro e w1 ⟨rfl, δ, rfl⟩
      have nxt := NXT.out
      have hB := HB1.out
      have G := HFF.out.grow (W' := lat W δ)
      exact nxt x23 x24 x25 x26 x27 x28 x29 x30 x31 x32 x33 (.agg #[.int .i64 60, .int .i64 80]) x35 x36 x37 x38 _ (by decide) inferInstance inferInstance
        ⟨G.f2, G.f3, G.f4, G.f5, G.f6, G.f7, G.f8, G.f9, G.f10, G.f11, G.f12, fun _ => rfl, G.f14, G.f15, G.f16⟩ hB
    · unfold wpOp
      show if Region.wanted _ _ = true then _ else _
      rw [if_pos (by rfl)]
      left
      have nxt := NXT.out
      have hF := HFF.out
      have hB := HB1.out
      have no17 := HNO.out
      have hi := HIR.out
      clear nxt hF hB no17 hi
      unfold Oper.wp exFr
      go_simp
      refine (span13_c _ _ _).mono ?_
      rintro e w1 ⟨rfl, δ, rfl⟩
      have nxt := NXT.out
      have hB := HB1.out
      have G := HFF.out.grow (W' := lat W δ)
      exact nxt x23 x24 x25 x26 x27 x28 x29 x30 x31 x32 x33 x34 (.agg #[.int .i64 90, .int .i64 120]) x36 x37 x38 _ (by decide) inferInstance inferInstance
        ⟨G.f2, G.f3, G.f4, G.f5, G.f6, G.f7, G.f8, G.f9, G.f10, G.f11, G.f12, G.f13, fun _ => rfl, G.f15, G.f16⟩ hB
    · unfold wpOp
      show if Region.wanted _ _ = true then _ else _
      rw [if_pos (by rfl)]
      left
      have nxt := NXT.out
      have hF := HFF.out
      have hB := HB1.out
      have no17 := HNO.out
      have hi := HIR.out
      clear nxt hF hB no17 hi
      unfold Oper.wp exFr
      go_simp
      refine (span13_c _ _ _).mono ?_
      rintro e w1 ⟨rfl, δ, rfl⟩
      have nxt := NXT.out
      have hB := HB1.out
      have G := HFF.out.grow (W' := lat W δ)
      exact nxt x23 x24 x25 x26 x27 x28 x29 x30 x31 x32 x33 x34 x35 (.agg #[.int .i64 100, .int .i64 121]) x37 x38 _ (by decide) inferInstance inferInstance
        ⟨G.f2, G.f3, G.f4, G.f5, G.f6, G.f7, G.f8, G.f9, G.f10, G.f11, G.f12, G.f13, G.f14, fun _ => rfl, G.f16⟩ hB
    · unfold wpOp
      show if Region.wanted _ _ = true then _ else _
      rw [if_pos (by rfl)]
      left
      have nxt := NXT.out
      have hF := HFF.out
      have hB := HB1.out
      have no17 := HNO.out
      have hi := HIR.out
      have y13 := hF.f13 (ready_dep hi 13 (by omega) (by kernel_rfl))
      subst y13
      have y14 := hF.f14 (ready_dep hi 14 (by omega) (by kernel_rfl))
      subst y14
      have y15 := hF.f15 (ready_dep hi 15 (by omega) (by kernel_rfl))
      subst y15
      have KN := Lib.hid nxt
      have KB := Lib.hid hB
      have KF := Lib.hid hF
      have KO := Lib.hid no17
      clear nxt hF hB no17 hi NXT HFF HB1 HNO HIR
      unfold Oper.wp exFr
      go_simp
      have nxt := KN.out
      have hB := KB.out
      have no17 := KO.out
      have G := KF.out.grow (W' := W.alloc (.cells #[.int .i64 60, .int .i64 80, .int .i64 90, .int .i64 120, .int .i64 100, .int .i64 121] 23))
      exact nxt x23 x24 x25 x26 x27 x28 x29 x30 x31 x32 x33 (.agg #[.int .i64 60, .int .i64 80]) (.agg #[.int .i64 90, .int .i64 120]) (.agg #[.int .i64 100, .int .i64 121]) (.slice (some ⟨W.heap.size, 0, none⟩) 3 3) x38 _ (by decide) inferInstance inferInstance
        ⟨G.f2, G.f3, G.f4, G.f5, G.f6, G.f7, G.f8, G.f9, G.f10, G.f11, G.f12, G.f13, G.f14, G.f15, fun _ => ⟨W.heap.size, rfl, hle.out, Box.new rfl⟩⟩ (no17 _ (by decide))
    · unfold wpOp
      show if Region.wanted _ _ = true then _ else _
      rw [if_pos (by rfl)]
      left
      have nxt := NXT.out
      have hF := HFF.out
      have hB := HB1.out
      have no17 := HNO.out
      have hi := HIR.out
      have d8 := ready_dep hi 8 (by omega) (by kernel_rfl)
      have d11 := ready_dep hi 11 (by omega) (by kernel_rfl)
      have d12 := ready_dep hi 12 (by omega) (by kernel_rfl)
      have d16 := ready_dep hi 16 (by omega) (by kernel_rfl)
      obtain ⟨g29, y8, _⟩ := hF.f8 d8
      obtain ⟨_, g32, y11, _⟩ := hF.f11 d11
      obtain ⟨g33, y12, _⟩ := hF.f12 d12
      obtain ⟨g37, y16, _⟩ := hF.f16 d16
      subst y8 y11 y12 y16
      have hc := exSeason_built a0 c0 g29 g32 g33 g37
      refine op_build _ _ rfl (ps := [(0, netV ⟨some ⟨a0, 0, none⟩, 2, some ⟨a0 + 1, 0, none⟩, 3, some ⟨a0 + 1 + 1, 0, none⟩, 2⟩ exN), (1, seaV ⟨some ⟨c0 + 1 + 1, 0, none⟩, 3, some ⟨c0 + 1 + 1 + 1, 0, none⟩, 4⟩ exSea), (2, .slice (some ⟨g29, 0, none⟩) 2 2), (3, .slice (some ⟨g32, 0, none⟩) 2 2), (4, .slice (some ⟨g33, 0, none⟩) 2 2), (5, .slice (some ⟨g37, 0, none⟩) 3 3)]) rfl hc ?_
      exact nxt _ _ _ _ _ _ _ _ _ _ _ _ _ _ _ (.agg (seasonA ⟨⟨some ⟨a0, 0, none⟩, 2, some ⟨a0 + 1, 0, none⟩, 3, some ⟨a0 + 1 + 1, 0, none⟩, 2⟩, ⟨some ⟨c0 + 1 + 1, 0, none⟩, 3, some ⟨c0 + 1 + 1 + 1, 0, none⟩, 4⟩, some ⟨g29, 0, none⟩, 2, some ⟨g32, 0, none⟩, 2, some ⟨g33, 0, none⟩, 2, some ⟨g37, 0, none⟩, 3⟩ exSeason)) _ (by decide) inferInstance inferInstance hF (fun _ => ⟨⟨d8, d11, d12, d16⟩, _, rfl, hc⟩)
    · unfold wpOp
      show if Region.wanted _ _ = true then _ else _
      rw [if_pos (by rfl)]
      left
      have nxt := NXT.out
      have hF := HFF.out
      have hB := HB1.out
      have no17 := HNO.out
      have hi := HIR.out
      have hgd := HGD.out
      have dd := ready_all hi 18 (by omega) (by kernel_rfl)
      obtain ⟨g29, y8, u8, v8⟩ := hF.f8 (dd 8 (by decide))
      obtain ⟨g30, y9, u9, v9⟩ := hF.f9 (dd 9 (by decide))
      obtain ⟨g31, y10, u10, v10⟩ := hF.f10 (dd 10 (by decide))
      obtain ⟨_, g32, y11, u11, v11⟩ := hF.f11 (dd 11 (by decide))
      obtain ⟨g33, y12, u12, v12⟩ := hF.f12 (dd 12 (by decide))
      obtain ⟨g37, y16, u16, v16⟩ := hF.f16 (dd 16 (by decide))
      obtain ⟨_, c, y17, hc⟩ := hB (dd 17 (by decide))
      subst y8 y9 y10 y11 y12 y16 y17
      have hc' := exSeason_built a0 c0 g29 g32 g33 g37
      rw [hc] at hc'
      obtain rfl := Option.some.inj hc'
      have BZ : Box W b0 36 (seasonA zeroSR zeroS) := Box.upg B0.out
      refine op_storeB rowSeason (.tmp 0) (.tmp 38) rfl rfl rfl BZ rfl rfl (by simp [seasonA, Value.oneCell']) ?_
      intro W' hb' k
      have gw : Grew w.heap.size w W := grew_tr g3 hgr l3.out
      have lw : w.heap.size ≤ W.heap.size := Nat.le_trans l3.out hle.out
      have S1 : Box W' (a0 + 1 + 1 + 1) 28 #[.int .i64 2, .int .i64 4, .int .i64 1, .int .i64 3, .slice (some ⟨a0, 0, none⟩) 2 2, .slice (some ⟨a0 + 1, 0, none⟩) 3 3, .slice (some ⟨a0 + 1 + 1, 0, none⟩) 2 2] ∧ Box W' d0 31 #[.int .i64 100, .int .i64 120, .slice (some ⟨c0 + 1 + 1, 0, none⟩) 3 3, .slice (some ⟨c0 + 1 + 1 + 1, 0, none⟩) 4 4] := ⟨Box.kep (Box.upg Bn.out) k (fun e => by have e' : a0 + 1 + 1 + 1 = b0 := e; omega), Box.kep (Box.upg Bs.out) k (fun e => by have e' : d0 = b0 := e; omega)⟩
      refine ⟨S1, hsz', t0, t1, Or.inr ⟨fun j hj => ?_, _, _, _, _, _, _, _, _, _, _, _, _, _, _, _, _, rfl, g29, g30, g31, g32, g33, g37, ?_⟩⟩
      · rw [hgd]
        by_cases h : j = 18
        · rw [if_pos h]
        · rw [if_neg h]; exact dd j (by omega)
      · exact ⟨hb', Box.kep v8 k (fun e => by have e' : g29 = b0 := e; omega), Box.kep v9 k (fun e => by have e' : g30 = b0 := e; omega), Box.kep v10 k (fun e => by have e' : g31 = b0 := e; omega), Box.kep v11 k (fun e => by have e' : g32 = b0 := e; omega), Box.kep v12 k (fun e => by have e' : g33 = b0 := e; omega), Box.kep v16 k (fun e => by have e' : g37 = b0 := e; omega), Box.kep (Box.upg Ba.out) k (fun e => by have e' : a0 = b0 := e; omega), Box.kep (Box.upg Bb.out) k (fun e => by have e' : (a0 + 1) = b0 := e; omega), Box.kep (Box.upg Bc.out) k (fun e => by have e' : (a0 + 1 + 1) = b0 := e; omega), Box.kep (Box.upg BP.out) k (fun e => by have e' : (c0 + 1 + 1) = b0 := e; omega), Box.kep (Box.upg BQ.out) k (fun e => by have e' : (c0 + 1 + 1 + 1) = b0 := e; omega), grew_kpb gw k (Nat.le_of_eq HB) lw, ⟨Nat.le_trans lw k.1⟩⟩
  · intro l a W hI hr
    have hz := all_listed (by kernel_rfl) hI.1 hr
    obtain ⟨hsz, ht0, ht1, hI⟩ := hI
    rcases hI with ⟨h18, _⟩ | ⟨_, x23, x24, x25, x26, x27, x28, x29, x30, x31, x32, x33, x34, x35, x36, x37, x38, rfl, g29, g30, g31, g32, g33, g37, hE⟩
    · have := hz 18 (by decide); rw [h18] at this; cases this
    clear hz hr
    unfold exFr
    have ge := hE.gr
    have le := hE.le
    go_wp2_with (fail)
    refine ret_box rowSeason rfl rfl hE.b0 rfl ?_
    refine ⟨⟨⟨some ⟨a0, 0, none⟩, 2, some ⟨a0 + 1, 0, none⟩, 3, some ⟨a0 + 1 + 1, 0, none⟩, 2⟩, ⟨some ⟨c0 + 1 + 1, 0, none⟩, 3, some ⟨c0 + 1 + 1 + 1, 0, none⟩, 4⟩, some ⟨g29, 0, none⟩, 2, some ⟨g32, 0, none⟩, 2, some ⟨g33, 0, none⟩, 2, some ⟨g37, 0, none⟩, 3⟩, W, rfl, lat_def, ?_⟩
    rw [← lat_def (w := w) (W := W)]
    have K {b c : Nat} {α : Type} {enc : α → List Value} (xs : List α) {T : TypeId} {cs : Array Value} (h : Box W b T cs) (hn : xs.length ≤ c) (hc : c ≤ 9223372036854775807) (hcs : cs.toList = xs.flatMap enc) : Sl enc W.heap.size W (some ⟨b, 0, none⟩) c xs := Sl_box xs h hn hc hcs
    refine ⟨⟨K exN.grips hE.h0 (Nat.le_of_ble_eq_true rfl) (Nat.le_of_ble_eq_true rfl) rfl, K exN.ancs hE.h1 (Nat.le_of_ble_eq_true rfl) (Nat.le_of_ble_eq_true rfl) rfl, K exN.wals hE.h2 (Nat.le_of_ble_eq_true rfl) (Nat.le_of_ble_eq_true rfl) rfl⟩, ⟨K exSea.places hE.h3 (Nat.le_of_ble_eq_true rfl) (Nat.le_of_ble_eq_true rfl) rfl, K exSea.boats hE.h4 (Nat.le_of_ble_eq_true rfl) (Nat.le_of_ble_eq_true rfl) rfl⟩, K exSeason.skies hE.o29 (Nat.le_of_ble_eq_true rfl) (Nat.le_of_ble_eq_true rfl) rfl, ?_, K exSeason.first hE.o33 (Nat.le_of_ble_eq_true rfl) (Nat.le_of_ble_eq_true rfl) rfl, K exSeason.days hE.o37 (Nat.le_of_ble_eq_true rfl) (Nat.le_of_ble_eq_true rfl) rfl⟩
    refine ⟨Nat.le_of_ble_eq_true rfl, Nat.le_of_ble_eq_true rfl, [.slice (some ⟨g30, 0, none⟩) 2 2, .slice (some ⟨g31, 0, none⟩) 1 1], ?_, rfl, ?_⟩
    · refine fun _ => ⟨_, _, rfl, hE.o32.lt_, fun j v hj => ?_⟩
      rw [Nat.zero_add]
      exact hE.o32.cell (by rw [← Array.getElem?_toList]; exact hj)
    · intro i hi
      have hi' : i = 0 ∨ i = 1 := by have : exSeason.follows.length = 2 := rfl; omega
      rcases hi' with rfl | rfl
      · exact ⟨_, _, rfl, K [0, 1] hE.o30 (Nat.le_of_ble_eq_true rfl) (Nat.le_of_ble_eq_true rfl) rfl⟩
      · exact ⟨_, _, rfl, K [0] hE.o31 (Nat.le_of_ble_eq_true rfl) (Nat.le_of_ble_eq_true rfl) rfl⟩
  · exact Nat.le_of_ble_eq_true (by kernel_rfl)
  · refine ⟨by kernel_rfl, by kernel_rfl, by kernel_rfl, .inl ⟨by kernel_rfl, inferInstance, inferInstance, undef, undef, undef, undef, undef, undef, undef, undef, undef, undef, undef, undef, undef, undef, undef, undef, rfl, ⟨fun h => absurd (show false = true from h) (by decide), fun h => absurd (show false = true from h) (by decide), fun h => absurd (show false = true from h) (by decide), fun h => absurd (show false = true from h) (by decide), fun h => absurd (show false = true from h) (by decide), fun h => absurd (show false = true from h) (by decide), fun h => absurd (show false = true from h) (by decide), fun h => absurd (show false = true from h) (by decide), fun h => absurd (show false = true from h) (by decide), fun h => absurd (show false = true from h) (by decide), fun h => absurd (show false = true from h) (by decide), fun h => absurd (show false = true from h) (by decide), fun h => absurd (show false = true from h) (by decide), fun h => absurd (show false = true from h) (by decide), fun h => absurd (show false = true from h) (by decide)⟩, fun h => absurd (show false = true from h) (by decide)⟩⟩
end Go.Proofs.Ytnddiloeikaleaa
namespace Go.Proofs.Ytnddiloeikaleaa
open Go.RowKit
open An
open Tc

theorem exSeason_ok : seasonOk exSeason = true := by decide +kernel
theorem exSeason_calm : calmB exSeason 1 = 3 := by decide +kernel
theorem SeasonIs.wide {B : Nat} {w w' : World} {r : SeasonR} {s : Season} (h : SeasonIs B w r s) [hg : Grew B w w'] [hB : Le B w'] : SeasonIs w'.heap.size w' r s :=
  ⟨h.net.wide, ⟨Sl.wide h.sea.1, Sl.wide h.sea.2⟩, Sl.wide h.skies, h.follows.keep hB.out (cells_same hg.out), Sl.wide h.first, Sl.wide h.days⟩
set_option maxRecDepth 100000 in
set_option maxHeartbeats 4000000 in
theorem calmed_c (w : World) :
    Calls Try.prog 7 #[] w fun e w' => e = .returned (.bool true) ∧ ∃ δ, w' = lat w δ := by
  go_enter Try.func7, Try.ntmps7
  go_wp2_with (first
    | (go_at_call 23; refine (example_c _).mono ?_; rintro e w1 ⟨r, ra, rb, δ, rfl, rfl, hN, hA, hB⟩)
    | (go_at_call 11; refine (storm_c r exN _ _ hN.wide).mono ?_; rw [ex_storm.1, ex_storm.2]; rintro e w1 ⟨rfl, δ4, rfl⟩)
    | (go_at_call 24; refine (example13_c _).mono ?_; rintro e w1 ⟨rs, δ5, rfl, rfl, hS⟩)
    | (go_at_call 9; refine (sCalm_c rs exSeason exSeason_ok 1 (by decide) _ _ hS.wide).mono ?_; rw [exSeason_calm]; rintro e w1 ⟨rfl, δ6, rfl⟩))
  go_ret
  exact ⟨rfl, lat_ex⟩
/-- The season with other anchors. -/
def wth (s : Season) (al : List Anc) : Season := ⟨setA s.net al, s.sea, s.skies, s.follows, s.first, s.days⟩
theorem wth_self (s : Season) : wth s s.net.ancs = s := rfl
theorem subs_far {T e : TypeId} {enc : Int → List Value} {w : World} {cs : List Value} {xss : List (List Int)} {base n size g i c : Nat} {xs : List Value} {u : Value} (h : Subs T enc w cs xss) (h' : w.ownsRow base e size (.slice (some ⟨g, 0, none⟩) n c) n xs) (hne : e ≠ T) : Subs T enc (w.setCell ⟨g, i, none⟩ u) cs xss :=
  h.keep (by simp [World.setCell]) fun b cur fr _ hh => Below.heap_setCell w ⟨g, i, none⟩ u b fun e' => by
    have e2 : b = g := e'
    subst e2
    rcases h'.2 with ⟨hv, _⟩ | ⟨g2, cap, cur2, hv, _, hh2, _⟩
    · cases hv
    · injection hv with hA; injection hA with hA; injection hA with hA
      subst hA
      rw [hh] at hh2
      injection hh2 with hh2
      injection hh2 with _ ht
      exact hne ht.symm
theorem SeasonOwn.put {base j ga : Nat} {W : World} {r : SeasonR} {s : Season} {al : List Anc} (a : Anc) (h : SeasonOwn base W r (wth s al)) (hA : r.net.aA = some ⟨ga, 0, none⟩) (hj : j < al.length) :
    SeasonOwn base ((W.setCell ⟨ga, j * 2, none⟩ (.int .i64 a.wt)).setCell ⟨ga, j * 2 + 1, none⟩ (.int .i64 a.bt)) r (wth s (al.set j a)) := by
  obtain ⟨⟨⟨p1, p2, p3⟩, ⟨p4, p5⟩, p6, p7, p8⟩, cs, p9, p10⟩ := h
  rw [hA] at p2
  have p2' : W.ownsRow base 51 2 (.slice (some ⟨ga, 0, none⟩) al.length r.net.ac) al.length (al.flatMap encAnc) := p2
  have far : ∀ {base' e size v n xs}, W.ownsRow base' e size v n xs → e ≠ 51 → ((W.setCell ⟨ga, j * 2, none⟩ (.int .i64 a.wt)).setCell ⟨ga, j * 2 + 1, none⟩ (.int .i64 a.bt)).ownsRow base' e size v n xs := fun h hne =>
    own_far (own_far h (p := ⟨ga, j * 2, none⟩) (own_ne h p2' hne)) (p := ⟨ga, j * 2 + 1, none⟩) (own_ne h p2' hne)
  have o1 := own_set (u := .int .i64 a.wt) (i := j * 2) p2' (by rw [len_enc encAnc 2 (fun _ => rfl)]; omega)
  have o2 := own_set (u := .int .i64 a.bt) (i := j * 2 + 1) o1 (by rw [List.length_set, len_enc encAnc 2 (fun _ => rfl)]; omega)
  have q1 := subs_far (i := j * 2) (u := .int .i64 a.wt) p10 p2' (by decide)
  have q2 := subs_far (i := j * 2 + 1) (u := .int .i64 a.bt) q1 o1 (by decide)
  have e1 := flatMap_set encAnc 2 (fun _ => rfl) al j 0 (.int .i64 a.wt) ⟨a.wt, (nth al j).bt⟩ hj (by omega) rfl
  rw [Nat.add_zero] at e1
  have e2 := flatMap_set encAnc 2 (fun _ => rfl) (al.set j ⟨a.wt, (nth al j).bt⟩) j 1 (.int .i64 a.bt) a (by rw [List.length_set]; exact hj) (by omega) (by rw [nth_set _ _ _ hj, if_pos rfl]; rfl)
  rw [List.set_set] at e2
  rw [e1, e2] at o2
  refine ⟨⟨⟨far p1 (by decide), ?_, far p3 (by decide)⟩, ⟨far p4 (by decide), far p5 (by decide)⟩, far p6 (by decide), far p7 (by decide), far p8 (by decide)⟩, cs, far p9 (by decide), q2⟩
  rw [hA]
  show World.ownsRow _ base 51 2 (.slice (some ⟨ga, 0, none⟩) (al.set j a).length r.net.ac) (al.set j a).length ((al.set j a).flatMap encAnc)
  rw [List.length_set]
  exact o2
theorem SeasonOwn.up {base : Nat} {w w' : World} {r : SeasonR} {s : Season} (h : SeasonOwn base w r s) [Grew w.heap.size w w'] [Le w.heap.size w'] : SeasonOwn base w' r s :=
  ⟨PartOwn.up h.1, h.2.imp fun _ x => ⟨owns_up x.1, x.2.up⟩⟩
theorem SeasonOwn.is {base : Nat} {w : World} {r : SeasonR} {s : Season} (h : SeasonOwn base w r s) : SeasonIs w.heap.size w r s := by
  obtain ⟨⟨p1, p2, p3, p4, p5⟩, cs, p6, p7⟩ := h
  refine ⟨p1.is, p2.is, Sl.of_own p3, ?_, Sl.of_own p4, Sl.of_own p5⟩
  have k := SlS.of_own p6 p7 rfl
  obtain ⟨k1, k2, cs', k3, k4, k5⟩ := k
  exact ⟨k1, k2, cs', k3, k4, fun i hi => by obtain ⟨A', c', e, t⟩ := k5 i hi; exact ⟨A', c', e, t.plain⟩⟩
/-- The anchors, the first of which are as heavy as the sky needs. -/
theorem upAncs_succ {n : Net} {j : Nat} (hj : j < n.ancs.length) : (upN n j).ancs.set j ⟨(nth n.ancs j).wt + needN n j, (nth n.ancs j).bt⟩ = (upN n (j + 1)).ancs := by
  have h := congrArg Net.ancs (upN_succ n hj)
  rw [← h]
  show (upN n j).ancs.set j ⟨(nth n.ancs j).wt + needN n j, (nth n.ancs j).bt⟩ = (upN n j).ancs.set j (heavA (nth (upN n j).ancs j) (needN n j))
  rw [upN_nth n j hj, show amt n j 0 j = 0 by simp [amt], show ((0 : Nat) : Int) = 0 from rfl, heavA_zero]
  rfl
theorem upAncs_at {n : Net} {j : Nat} (hj : j < n.ancs.length) : nth (upN n j).ancs j = nth n.ancs j := by
  rw [upN_nth n j hj, show amt n j 0 j = 0 by simp [amt], show ((0 : Nat) : Int) = 0 from rfl, heavA_zero]
end Go.Proofs.Ytnddiloeikaleaa
