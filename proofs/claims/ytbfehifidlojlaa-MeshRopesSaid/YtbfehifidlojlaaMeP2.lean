/- The plain laws of layer 4: what is mended earlier if there are more menders, fewer pairs, or fewer holes. -/
import Derived.Test.YtbfehifidlojlaaMeP1
namespace Go.Proofs.Ytbfehifidlojlaa
namespace Me

/-- How many of some numbers are at most x. -/
def cnt (F : List Int) (x : Int) : Nat := F.countP (fun a => decide (a ≤ x))
def bit (p : Prop) [Decidable p] : Nat := if p then 1 else 0
theorem cnt_set (F : List Int) (k : Nat) (hk : k < F.length) (v x : Int) : cnt (F.set k v) x + bit (nth F k ≤ x) = cnt F x + bit (v ≤ x) := by
  induction F generalizing k with
  | nil => simp at hk
  | cons a F ih =>
    cases k with
    | zero =>
      simp only [List.set_cons_zero, cnt, List.countP_cons, nth, List.getD, List.getElem?_cons_zero, Option.getD_some, bit, decide_eq_true_eq]
      by_cases h1 : a ≤ x <;> by_cases h2 : v ≤ x <;> simp only [h1, h2, if_true, if_false] <;> omega
    | succ k =>
      have := ih k (by simpa using hk)
      have e : nth (a :: F) (k + 1) = nth F k := by simp [nth]
      rw [e]
      simp only [List.set_cons_succ, cnt, List.countP_cons] at this ⊢
      omega
theorem cnt_pos (F : List Int) (x : Int) : 0 < cnt F x ↔ ∃ k, k < F.length ∧ nth F k ≤ x := by
  unfold cnt
  rw [List.countP_pos_iff]
  constructor
  · rintro ⟨a, ha, h⟩
    obtain ⟨k, hk, rfl⟩ := List.getElem_of_mem ha
    exact ⟨k, hk, by rw [nth_get _ hk]; simpa using h⟩
  · rintro ⟨k, hk, h⟩
    exact ⟨_, nth_mem F hk, by simpa using h⟩
theorem cnt_min {F : List Int} (hF : 0 < F.length) (x : Int) : 0 < cnt F x ↔ nth F (own F) ≤ x := by
  rw [cnt_pos]
  constructor
  · rintro ⟨k, hk, h⟩; have := own_le hk; omega
  · intro h; exact ⟨_, own_lt hF, h⟩
theorem cnt_own {F : List Int} (hF : 0 < F.length) (c x : Int) : cnt (F.set (own F) c) x + bit (nth F (own F) ≤ x) = cnt F x + bit (c ≤ x) := cnt_set F _ (own_lt hF) c x
/-- The menders F are free no later than the menders F'. -/
def Dom (F F' : List Int) : Prop := ∀ x, cnt F' x ≤ cnt F x
theorem dom_min {F F' : List Int} (h : Dom F F') (hF : 0 < F.length) (hF' : 0 < F'.length) : nth F (own F) ≤ nth F' (own F') := by
  have h1 := (cnt_min hF' (nth F' (own F'))).2 (Int.le_refl _)
  exact (cnt_min hF _).1 (Nat.lt_of_lt_of_le h1 (h _))
theorem bit_pos {p : Prop} [Decidable p] (h : p) : bit p = 1 := if_pos h
theorem bit_neg {p : Prop} [Decidable p] (h : ¬ p) : bit p = 0 := if_neg h
theorem dom_step {F F' : List Int} (h : Dom F F') (hF : 0 < F.length) (hF' : 0 < F'.length) {c c' : Int} (h1 : nth F (own F) ≤ c) (h2 : nth F' (own F') ≤ c') (h3 : c ≤ c') : Dom (F.set (own F) c) (F'.set (own F') c') := by
  intro x
  have a := cnt_own hF c x
  have b := cnt_own hF' c' x
  have d := h x
  have e := cnt_min hF x
  have e' := cnt_min hF' x
  by_cases k1 : c' ≤ x
  · rw [bit_pos k1, bit_pos (show nth F' (own F') ≤ x by omega)] at b
    rw [bit_pos (show c ≤ x by omega), bit_pos (show nth F (own F) ≤ x by omega)] at a
    omega
  · rw [bit_neg k1] at b
    by_cases k2 : nth F (own F) ≤ x
    · rw [bit_pos k2] at a
      by_cases k3 : nth F' (own F') ≤ x
      · rw [bit_pos k3] at b; omega
      · have : ¬ 0 < cnt F' x := fun hc => k3 (e'.1 hc)
        rw [bit_neg k3] at b; omega
    · have : ¬ 0 < cnt F x := fun hc => k2 (e.1 hc)
      have k3 : ¬ nth F' (own F') ≤ x := fun hc => by have := e'.2 hc; omega
      rw [bit_neg k3] at b
      omega
theorem dom_skip {F F' : List Int} (h : Dom F F') (hF' : 0 < F'.length) {c' : Int} (h2 : nth F' (own F') ≤ c') : Dom F (F'.set (own F') c') := by
  intro x
  have b := cnt_own hF' c' x
  have d := h x
  by_cases k1 : c' ≤ x
  · rw [bit_pos k1, bit_pos (show nth F' (own F') ≤ x by omega)] at b; omega
  · rw [bit_neg k1] at b; omega
theorem dom_refl (F : List Int) : Dom F F := fun _ => Nat.le_refl _
theorem dom_rep {a b : Nat} (h : b ≤ a) : Dom (List.replicate a 0) (List.replicate b 0) := by
  intro x
  unfold cnt
  rw [List.countP_replicate, List.countP_replicate]
  split
  · exact h
  · exact Nat.le_refl _

theorem begK_le {ps : List Pr} {out : List Int} {h b M : Int} (k : Nat) : begK ps out h b k ≤ M ↔ b ≤ M ∧ ∀ j, j < k → (nth ps j).b = h → nth out (nth ps j).a.toNat ≤ M := by
  induction k with
  | zero => exact ⟨fun hb => ⟨hb, fun j hj => by omega⟩, fun hb => hb.1⟩
  | succ k ih =>
    unfold begK
    by_cases hk : (nth ps k).b = h
    · rw [if_pos hk, Int.max_le, ih]
      constructor
      · rintro ⟨⟨h1, h2⟩, h3⟩
        refine ⟨h1, fun j hj hb => ?_⟩
        by_cases e : j = k
        · subst e; exact h3
        · exact h2 j (by omega) hb
      · rintro ⟨h1, h2⟩
        exact ⟨⟨h1, fun j hj => h2 j (by omega)⟩, h2 k (by omega) hk⟩
    · rw [if_neg hk, ih]
      refine and_congr_right fun _ => ⟨fun h2 j hj hb => ?_, fun h2 j hj => h2 j (by omega)⟩
      by_cases e : j = k
      · subst e; exact absurd hb hk
      · exact h2 j (by omega) hb
theorem mendAt_ge {n : Net} {s : List Int × List Int} {h : Int} : nth s.1 (own s.1) + (nth n.hs h.toNat).hr ≤ mendAt n s h ∧ (nth n.hs h.toNat).fr + (nth n.hs h.toNat).hr ≤ mendAt n s h := by
  have := ((begK_le (ps := n.ps) (out := s.2) (h := h) (b := max (nth s.1 (own s.1)) (nth n.hs h.toNat).fr) n.ps.length).1 (Int.le_refl _)).1
  unfold mendAt
  omega
/-- A hole is mended no later if the menders are free no later, and all holes that come before are mended no later. -/
theorem mendAt_le {n n' : Net} {s s' : List Int × List Int} {h h' : Int} (e1 : (nth n.hs h.toNat).fr = (nth n'.hs h'.toNat).fr) (e2 : (nth n.hs h.toNat).hr = (nth n'.hs h'.toNat).hr)
    (hm : nth s.1 (own s.1) ≤ nth s'.1 (own s'.1)) (hp : ∀ p ∈ n.ps, p.b = h → ∃ p' ∈ n'.ps, p'.b = h' ∧ nth s.2 p.a.toNat ≤ nth s'.2 p'.a.toNat) : mendAt n s h ≤ mendAt n' s' h' := by
  unfold mendAt
  rw [e1, e2]
  refine Int.add_le_add_right ?_ _
  obtain ⟨h1, h2⟩ := (begK_le (ps := n'.ps) (out := s'.2) (h := h') (b := max (nth s'.1 (own s'.1)) (nth n'.hs h'.toNat).fr) n'.ps.length).1 (Int.le_refl _)
  rw [begK_le]
  refine ⟨by omega, fun j hj hb => ?_⟩
  obtain ⟨p', hp', hb', ho⟩ := hp _ (nth_mem _ hj) hb
  obtain ⟨k, hk, rfl⟩ := List.getElem_of_mem hp'
  have := h2 k hk (by rw [nth_get _ hk]; exact hb')
  rw [nth_get _ hk] at this
  omega

/-- The same holes, as many menders or more, all pairs of one among those of the other: everything is mended no later. -/
structure Easier (n n' : Net) : Prop where
  hs : n.hs = n'.hs
  m : n'.m.toNat ≤ n.m.toNat
  m0 : 0 < n'.m.toNat
  ps : ∀ p ∈ n.ps, p ∈ n'.ps
theorem run_easier {n n' : Net} (h : Easier n n') (hv : okHoles n.hs = true) (l : List Int) (hl : holesL n l) : Dom (run n l).1 (run n' l).1 ∧ ∀ j, nth (run n l).2 j ≤ nth (run n' l).2 j := by
  have key : ∀ k, k ≤ l.length → Dom (run n (l.take k)).1 (run n' (l.take k)).1 ∧ ∀ j, nth (run n (l.take k)).2 j ≤ nth (run n' (l.take k)).2 j := by
    intro k
    induction k with
    | zero => exact fun _ => ⟨dom_rep h.m, fun j => by show nth (List.replicate _ 0) j ≤ nth (List.replicate _ 0) j; rw [nth_rep, nth_rep]; exact Int.le_refl _⟩
    | succ k ih =>
      intro hk
      obtain ⟨i1, i2⟩ := ih (by omega)
      rw [take_snoc l (by omega), run_snoc, run_snoc]
      obtain ⟨a1, a2⟩ := run_lens n (l.take k)
      obtain ⟨b1, b2⟩ := run_lens n' (l.take k)
      have hm := h.m
      have hm0 := h.m0
      have hF : 0 < (run n (l.take k)).1.length := by omega
      have hF' : 0 < (run n' (l.take k)).1.length := by omega
      have hmin := dom_min i1 hF hF'
      have hle : mendAt n (run n (l.take k)) (nth l k) ≤ mendAt n' (run n' (l.take k)) (nth l k) :=
        mendAt_le (by rw [h.hs]) (by rw [h.hs]) hmin (fun p hp hb => ⟨p, h.ps p hp, hb, i2 _⟩)
      have hx := hl (nth l k) (nth_mem _ (by omega))
      have hr := okHole_iff.1 (okHoles_at hv (k := (nth l k).toNat) (by have := hx.1; have := hx.2; omega))
      have g1 := (mendAt_ge (n := n) (s := run n (l.take k)) (h := nth l k)).1
      have g2 := (mendAt_ge (n := n') (s := run n' (l.take k)) (h := nth l k)).1
      rw [← h.hs] at g2
      refine ⟨dom_step i1 hF hF' (by omega) (by omega) hle, fun j => ?_⟩
      show nth (List.set _ _ _) j ≤ nth (List.set _ _ _) j
      by_cases hj : (nth l k).toNat = j
      · subst hj
        have e : n'.hs.length = n.hs.length := by rw [h.hs]
        rw [nth_set_same _ (by have := hx.1; have := hx.2; omega), nth_set_same _ (by have := hx.1; have := hx.2; omega)]
        exact hle
      · rw [nth_set_ne _ hj, nth_set_ne _ hj]; exact i2 j
  have := key l.length (Nat.le_refl _)
  rwa [List.take_length] at this
theorem times_easier {n n' : Net} (h : Easier n n') (hv : okHoles n.hs = true) {l : List Int} (hl : holesL n l) (j : Nat) : nth (times n l) j ≤ nth (times n' l) j := (run_easier h hv l hl).2 j

/-- What is lost is not more if everything is mended no later, of holes that lose no more. -/
theorem lossK_le {hs : List Hole} {ts ts' rt : List Int} (k : Nat) (ht : ∀ j, nth ts j ≤ nth ts' j) (hr : ∀ j, j < k → 0 ≤ nth rt j) : lossK hs ts rt k ≤ lossK hs ts' rt k := by
  induction k with
  | zero => exact Int.le_refl _
  | succ k ih =>
    unfold lossK
    have h1 := ih (fun j hj => hr j (by omega))
    have h2 : nth rt k * (nth ts k - (nth hs k).fr) ≤ nth rt k * (nth ts' k - (nth hs k).fr) := Int.mul_le_mul_of_nonneg_left (by have := ht k; omega) (hr k (by omega))
    omega
theorem maxK_le {ts ts' : List Int} (k : Nat) (ht : ∀ j, nth ts j ≤ nth ts' j) : maxK ts k ≤ maxK ts' k := by
  induction k with
  | zero => exact Int.le_refl _
  | succ k ih => unfold maxK; have := ht k; omega
theorem nth_highs {n : Net} {j : Nat} (hj : j < n.hs.length) : nth (highs n) j = (nth n.hs j).hi := by
  unfold highs nth List.getD
  rw [List.getElem?_map, List.getElem?_eq_getElem hj]; rfl
theorem nth_lows {n : Net} {j : Nat} (hj : j < n.hs.length) : nth (lows n) j = (nth n.hs j).lo := by
  unfold lows nth List.getD
  rw [List.getElem?_map, List.getElem?_eq_getElem hj]; rfl
theorem worst_easier {n n' : Net} (h : Easier n n') (hv : okHoles n.hs = true) {l : List Int} (hl : holesL n l) : worst n l ≤ worst n' l ∧ lastOf n l ≤ lastOf n' l := by
  have ht := times_easier h hv hl
  have e : highs n' = highs n := by unfold highs; rw [h.hs]
  unfold worst loss lastOf
  rw [e, ← h.hs]
  exact ⟨lossK_le _ ht (fun j hj => by rw [nth_highs hj]; have := okHole_iff.1 (okHoles_at hv hj); omega), maxK_le _ ht⟩
theorem goes_easier {n n' : Net} (h : Easier n n') {pre l : List Int} (hg : goes n' pre l = true) : goes n pre l = true := by
  induction l generalizing pre with
  | nil => rfl
  | cons x l ih =>
    unfold goes at hg ⊢
    rw [Bool.and_eq_true, Bool.and_eq_true] at hg ⊢
    rw [h.hs]
    refine ⟨⟨hg.1.1, ?_⟩, ih hg.2⟩
    rw [may_iff]
    obtain ⟨a, b⟩ := may_iff.1 hg.1.2
    exact ⟨a, fun p hp => b p (h.ps p hp)⟩
theorem ord_easier {n n' : Net} (h : Easier n n') {l : List Int} (hl : isOrd n' l = true) : isOrd n l = true := by
  unfold isOrd at hl ⊢
  rw [Bool.and_eq_true] at hl ⊢
  rw [h.hs]
  exact ⟨hl.1, goes_easier h hl.2⟩
theorem hasO_of {n : Net} {l : List Int} (h : isOrd n l = true) : hasO n = true := by
  unfold hasO
  have := allO_mem.2 h
  cases hl : allO n with
  | nil => rw [hl] at this; cases this
  | cons => rfl
theorem least_easier {n n' : Net} (h : Easier n n') (hv : okHoles n.hs = true) (ho : hasO n' = true) : hasO n = true ∧ leastN n ≤ leastN n' ∧ doneN n ≤ doneN n' := by
  have hb := bestO_ord ho
  have hb2 := ord_easier h hb
  have hd : isOrd n' (least (lastOf n') (allO n')) = true := allO_mem.1 (least_mem _ (hasO_ne ho))
  have hd2 := ord_easier h hd
  refine ⟨hasO_of hb2, ?_, ?_⟩
  · have := leastN_le hb2
    have := (worst_easier h hv (ord_holes hb2)).1
    unfold leastN at *
    omega
  · have := doneN_le hd2
    have := (worst_easier h hv (ord_holes hd2)).2
    unfold doneN at *
    omega

end Me
end Go.Proofs.Ytbfehifidlojlaa
