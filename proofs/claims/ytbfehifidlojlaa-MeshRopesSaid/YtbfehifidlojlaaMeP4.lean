/- The plain laws of layer 4: a net without one of its holes; fewer fish; regret. -/
import Derived.Test.YtbfehifidlojlaaMeP3
namespace Go.Proofs.Ytbfehifidlojlaa
namespace Me

/-! ### A net without hole d -/
def ren (d : Nat) (x : Int) : Int := if (d : Int) < x then x - 1 else x
def cut (n : Net) (d : Nat) : Net := ⟨n.m, n.hs.take d ++ n.hs.drop (d + 1), n.ps.map fun p => ⟨ren d p.a, ren d p.b⟩⟩
def red (d : Nat) (l : List Int) : List Int := (l.filter fun (x : Int) => decide (x ≠ (d : Int))).map (ren d)
/-- No pair has hole d. -/
def loose (n : Net) (d : Nat) : Prop := ∀ p ∈ n.ps, p.a ≠ d ∧ p.b ≠ d
theorem red_snoc (d : Nat) (l : List Int) (x : Int) : red d (l ++ [x]) = red d l ++ if x = d then [] else [ren d x] := by
  unfold red
  rw [List.filter_append, List.map_append]
  by_cases h : x = d <;> simp [h]
theorem cut_len {n : Net} {d : Nat} (hd : d < n.hs.length) : (cut n d).hs.length = n.hs.length - 1 := by
  show (n.hs.take d ++ n.hs.drop (d + 1)).length = _
  rw [List.length_append, List.length_take, List.length_drop]; omega
theorem nth_append_l {α : Type} [Inhabited α] (a b : List α) {k : Nat} (h : k < a.length) : nth (a ++ b) k = nth a k := by
  unfold nth List.getD; rw [List.getElem?_append_left h]
theorem nth_append_r {α : Type} [Inhabited α] (a b : List α) {k : Nat} (h : a.length ≤ k) : nth (a ++ b) k = nth b (k - a.length) := by
  unfold nth List.getD; rw [List.getElem?_append_right h]
theorem cut_nth {n : Net} {d : Nat} (hd : d < n.hs.length) (j : Nat) : nth (cut n d).hs j = nth n.hs (if j < d then j else j + 1) := by
  show nth (n.hs.take d ++ n.hs.drop (d + 1)) j = _
  have e : (n.hs.take d).length = d := by rw [List.length_take]; omega
  by_cases h : j < d
  · rw [nth_append_l _ _ (by omega), if_pos h]
    unfold nth List.getD
    rw [List.getElem?_take_of_lt h]
  · rw [nth_append_r _ _ (by omega), if_neg h, e]
    unfold nth List.getD
    rw [List.getElem?_drop, show d + 1 + (j - d) = j + 1 by omega]
theorem ren_nat {d : Nat} {x : Int} (h0 : 0 ≤ x) (hx : x ≠ d) : 0 ≤ ren d x ∧ (if (ren d x).toNat < d then (ren d x).toNat else (ren d x).toNat + 1) = x.toNat := by
  unfold ren
  split
  · refine ⟨by omega, ?_⟩; rw [if_neg (by omega)]; omega
  · refine ⟨h0, ?_⟩; rw [if_pos (by omega)]
theorem cut_hole {n : Net} {d : Nat} (hd : d < n.hs.length) {x : Int} (hx : isHole n x) (hne : x ≠ d) : isHole (cut n d) (ren d x) ∧ nth (cut n d).hs (ren d x).toNat = nth n.hs x.toNat := by
  obtain ⟨a, b⟩ := ren_nat hx.1 hne
  refine ⟨⟨a, ?_⟩, by rw [cut_nth hd, b]⟩
  rw [cut_len hd]
  have := hx.2
  unfold ren; split <;> omega
theorem ren_inj {d : Nat} {x y : Int} (hx : x ≠ d) (hy : y ≠ d) (h : ren d x = ren d y) : x = y := by
  unfold ren at h; split at h <;> split at h <;> omega
theorem mem_red {d : Nat} {l : List Int} {x : Int} (hx : x ≠ d) : ren d x ∈ red d l ↔ x ∈ l := by
  unfold red
  rw [List.mem_map]
  constructor
  · rintro ⟨y, hy, he⟩
    rw [List.mem_filter] at hy
    rw [← ren_inj (by simpa using hy.2) hx he]; exact hy.1
  · intro h; exact ⟨x, by rw [List.mem_filter]; exact ⟨h, by simpa using hx⟩, rfl⟩
theorem cut_ok {n : Net} {d : Nat} (hv : okHoles n.hs = true) : okHoles (cut n d).hs = true := by
  unfold okHoles at *
  rw [List.all_eq_true] at *
  intro h hm
  rcases List.mem_append.1 (show h ∈ n.hs.take d ++ n.hs.drop (d + 1) from hm) with hm | hm
  · exact hv h (List.mem_of_mem_take hm)
  · exact hv h (List.mem_of_mem_drop hm)
/-- What goes on as an order goes on as one without the hole. -/
theorem goes_cut {n : Net} {d : Nat} (hd : d < n.hs.length) (hps : loose n d) (hpk : okPrs n.hs.length n.ps = true) {pre l : List Int} (h : goes n pre l = true) : goes (cut n d) (red d pre) (red d l) = true := by
  induction l generalizing pre with
  | nil => rfl
  | cons x l ih =>
    unfold goes at h
    rw [Bool.and_eq_true, Bool.and_eq_true] at h
    have i := ih h.2
    rw [red_snoc] at i
    have hx : isHole n x := by have := inB_iff.1 h.1.1; exact ⟨this.1, by omega⟩
    by_cases hxd : x = d
    · rw [if_pos hxd, List.append_nil] at i
      have : red d (x :: l) = red d l := by unfold red; simp [hxd]
      rw [this]; exact i
    · rw [if_neg hxd] at i
      have : red d (x :: l) = ren d x :: red d l := by unfold red; simp [hxd]
      rw [this]
      unfold goes
      rw [i, Bool.and_true, Bool.and_eq_true]
      obtain ⟨a1, a2⟩ := (cut_hole hd hx hxd).1
      refine ⟨inB_iff.2 ⟨a1, by omega⟩, may_iff.2 ⟨fun hc => (may_iff.1 h.1.2).1 ((mem_red hxd).1 hc), ?_⟩⟩
      intro p hp hb
      obtain ⟨q, hq, rfl⟩ := List.mem_map.1 hp
      obtain ⟨q1, q2⟩ := hps q hq
      exact (mem_red q1).2 ((may_iff.1 h.1.2).2 q hq (ren_inj q2 hxd hb))
theorem filter_len {l : List Int} {d : Int} (hn : l.Nodup) (hd : d ∈ l) : (l.filter fun x => decide (x ≠ d)).length = l.length - 1 := by
  induction l with
  | nil => cases hd
  | cons x l ih =>
    rw [List.nodup_cons] at hn
    by_cases hx : x = d
    · subst hx
      have : l.filter (fun y => decide (y ≠ x)) = l := by
        rw [List.filter_eq_self]
        intro y hy
        simp only [decide_eq_true_eq]
        rintro rfl; exact hn.1 hy
      rw [List.filter_cons_of_neg (by simp), this]; simp
    · have hd2 : d ∈ l := by
        rcases List.mem_cons.1 hd with h | h
        · exact absurd h.symm hx
        · exact h
      have := ih hn.2 hd2
      have hl := List.length_pos_of_mem hd2
      rw [List.filter_cons_of_pos (by simpa using hx)]
      simp only [List.length_cons]; omega
theorem ord_cut {n : Net} {d : Nat} (hd : d < n.hs.length) (hps : loose n d) (hpk : okPrs n.hs.length n.ps = true) {l : List Int} (h : isOrd n l = true) : isOrd (cut n d) (red d l) = true := by
  unfold isOrd
  rw [show goes (cut n d) [] (red d l) = true from goes_cut hd hps hpk (pre := []) (ord_goes h), Bool.and_true, decide_eq_true_eq, cut_len hd]
  unfold red
  rw [List.length_map, filter_len (ord_nodup h) ((ord_mem h).2 ⟨by omega, by omega⟩), ord_len h]
theorem run_cut {n : Net} {d : Nat} (hm : 1 ≤ n.m) (hd : d < n.hs.length) (hps : loose n d) (hpk : okPrs n.hs.length n.ps = true) (hv : okHoles n.hs = true) (l : List Int) (hl : holesL n l) :
    Dom (run (cut n d) (red d l)).1 (run n l).1 ∧ ∀ x, isHole n x → x ≠ d → nth (run (cut n d) (red d l)).2 (ren d x).toNat ≤ nth (run n l).2 x.toNat := by
  have key : ∀ k, k ≤ l.length → Dom (run (cut n d) (red d (l.take k))).1 (run n (l.take k)).1 ∧ ∀ x, isHole n x → x ≠ d → nth (run (cut n d) (red d (l.take k))).2 (ren d x).toNat ≤ nth (run n (l.take k)).2 x.toNat := by
    intro k
    induction k with
    | zero =>
      refine fun _ => ⟨dom_rep (Nat.le_refl _), fun x _ _ => ?_⟩
      show nth (List.replicate _ 0) _ ≤ nth (List.replicate _ 0) _
      rw [nth_rep, nth_rep]; exact Int.le_refl _
    | succ k ih =>
      intro hk
      obtain ⟨i1, i2⟩ := ih (by omega)
      rw [take_snoc l (by omega), run_snoc, red_snoc]
      generalize hx' : nth l k = x
      have hx : isHole n x := by rw [← hx']; exact hl _ (nth_mem _ (by omega))
      obtain ⟨a1, a2⟩ := run_lens n (l.take k)
      obtain ⟨b1, b2⟩ := run_lens (cut n d) (red d (l.take k))
      have hmm : (cut n d).m = n.m := rfl
      have hF' : 0 < (run n (l.take k)).1.length := by omega
      have hF : 0 < (run (cut n d) (red d (l.take k))).1.length := by rw [b1, hmm]; omega
      have hr := okHole_iff.1 (okHoles_at hv (k := x.toNat) (by have := hx.1; have := hx.2; omega))
      have g2 := (mendAt_ge (n := n) (s := run n (l.take k)) (h := x)).1
      by_cases hxd : x = d
      · rw [if_pos hxd, List.append_nil]
        refine ⟨dom_skip i1 hF' (by omega), fun y hy hyd => ?_⟩
        show _ ≤ nth (List.set _ _ _) _
        rw [nth_set_ne _ (by have := hy.1; have := hx.1; omega)]
        exact i2 y hy hyd
      · rw [if_neg hxd, run_snoc]
        obtain ⟨c1, c2⟩ := cut_hole hd hx hxd
        have hmin := dom_min i1 hF hF'
        have hle : mendAt (cut n d) (run (cut n d) (red d (l.take k))) (ren d x) ≤ mendAt n (run n (l.take k)) x := by
          refine mendAt_le (by rw [c2]) (by rw [c2]) hmin ?_
          intro p hp hb
          obtain ⟨q, hq, rfl⟩ := List.mem_map.1 hp
          obtain ⟨q1, q2⟩ := hps q hq
          refine ⟨q, hq, ren_inj q2 hxd hb, i2 q.a ?_ q1⟩
          have := okPr_iff.1 (List.all_eq_true.1 hpk q hq)
          exact ⟨this.1, this.2.1⟩
        have g1 := (mendAt_ge (n := cut n d) (s := run (cut n d) (red d (l.take k))) (h := ren d x)).1
        rw [c2] at g1
        refine ⟨dom_step i1 hF hF' (by omega) (by omega) hle, fun y hy hyd => ?_⟩
        show nth (List.set _ _ _) _ ≤ nth (List.set _ _ _) _
        obtain ⟨e1, e2⟩ := cut_hole hd hy hyd
        by_cases hj : x = y
        · subst hj
          rw [nth_set_same _ (by have := c1.1; have := c1.2; omega), nth_set_same _ (by have := hx.1; have := hx.2; omega)]
          exact hle
        · rw [nth_set_ne _ (fun hc => hj (by have := hx.1; have := hy.1; omega)) (j := x.toNat), nth_set_ne _ (fun hc => hj (ren_inj hxd hyd (by have := c1.1; have := e1.1; omega)))]
          exact i2 y hy hyd
  have := key l.length (Nat.le_refl _)
  rwa [List.take_length] at this
theorem ren_sk (d j : Nat) : ren d ((if j < d then j else j + 1 : Nat) : Int) = j := by
  unfold ren; split <;> split <;> omega
theorem run_mended {n : Net} (hv : okHoles n.hs = true) (l : List Int) (hl : holesL n l) (hn : l.Nodup) : ∀ x ∈ l, (nth n.hs x.toNat).fr + (nth n.hs x.toNat).hr ≤ nth (run n l).2 x.toNat := by
  refine run_ind (fun l s => ∀ x ∈ l, (nth n.hs x.toNat).fr + (nth n.hs x.toNat).hr ≤ nth s.2 x.toNat) l (fun x hx => by cases hx) ?_
  rintro pre y hp ih x hx
  have hy : isHole n y := hl y (hp.subset (by simp))
  show _ ≤ nth (List.set _ _ _) _
  by_cases hxy : x = y
  · subst hxy
    rw [nth_set_same _ (by rw [(run_lens n pre).2]; have := hy.1; have := hy.2; omega)]
    exact mendAt_ge.2
  · have hxp : x ∈ pre := by
      rcases List.mem_append.1 hx with h | h
      · exact h
      · exact absurd (by simpa using h) hxy
    have hxh : isHole n x := hl x (hp.subset (by simp [hxp]))
    rw [nth_set_ne _ (by have := hy.1; have := hxh.1; omega)]
    exact ih x hxp
theorem times_mended {n : Net} (hv : okHoles n.hs = true) {l : List Int} (h : isOrd n l = true) {j : Nat} (hj : j < n.hs.length) : (nth n.hs j).fr + (nth n.hs j).hr ≤ nth (times n l) j := by
  have := run_mended hv l (ord_holes h) (ord_nodup h) (j : Int) ((ord_mem h).2 ⟨by omega, by omega⟩)
  simpa [times] using this
/-- Sums over fewer holes. -/
theorem lossK_cut {n : Net} {d : Nat} (hd : d < n.hs.length) (hv : okHoles n.hs = true) {ts ts' : List Int} (ht : ∀ j : Nat, j + 1 < n.hs.length → nth ts' j ≤ nth ts (if j < d then j else j + 1)) (hdn : (nth n.hs d).fr ≤ nth ts d) (k : Nat) (hk : k ≤ n.hs.length) :
    (k ≤ d → lossK (cut n d).hs ts' (highs (cut n d)) k ≤ lossK n.hs ts (highs n) k) ∧ (d < k → lossK (cut n d).hs ts' (highs (cut n d)) (k - 1) ≤ lossK n.hs ts (highs n) k) := by
  induction k with
  | zero => exact ⟨fun _ => Int.le_refl _, fun h => by omega⟩
  | succ k ih =>
    obtain ⟨i1, i2⟩ := ih (by omega)
    have hmul : ∀ (a x y : Int), 0 ≤ a → x ≤ y → a * x ≤ a * y := fun a x y h0 h => Int.mul_le_mul_of_nonneg_left h h0
    refine ⟨fun h => ?_, fun h => ?_⟩
    · unfold lossK
      have := i1 (by omega)
      have c := cut_nth hd k
      rw [if_pos (by omega)] at c
      have t := ht k (by omega)
      rw [if_pos (by omega)] at t
      have hh := okHole_iff.1 (okHoles_at hv (k := k) (by omega))
      rw [nth_highs (by rw [cut_len hd]; omega), nth_highs (by omega), c]
      have := hmul (nth n.hs k).hi (nth ts' k - (nth n.hs k).fr) (nth ts k - (nth n.hs k).fr) (by omega) (by omega)
      omega
    · by_cases hkd : d < k
      · have := i2 hkd
        obtain ⟨j, rfl⟩ : ∃ j, k = j + 1 := ⟨k - 1, by omega⟩
        simp only [Nat.add_sub_cancel] at this ⊢
        rw [lossK, lossK]
        have c := cut_nth hd j
        rw [if_neg (by omega)] at c
        have t := ht j (by omega)
        rw [if_neg (by omega)] at t
        have hh := okHole_iff.1 (okHoles_at hv (k := j + 1) (by omega))
        rw [nth_highs (by rw [cut_len hd]; omega), nth_highs (by omega), c]
        have := hmul (nth n.hs (j + 1)).hi (nth ts' j - (nth n.hs (j + 1)).fr) (nth ts (j + 1) - (nth n.hs (j + 1)).fr) (by omega) (by omega)
        omega
      · have e : k = d := by omega
        subst e
        rw [Nat.add_sub_cancel, lossK]
        have := i1 (Nat.le_refl _)
        have hh := okHole_iff.1 (okHoles_at hv (k := k) (by omega))
        rw [nth_highs (by omega) (n := n)]
        have := Int.mul_nonneg (show 0 ≤ (nth n.hs k).hi by omega) (show 0 ≤ nth ts k - (nth n.hs k).fr by omega)
        omega
theorem maxK_ge {ts : List Int} (k : Nat) : 0 ≤ maxK ts k ∧ ∀ j, j < k → nth ts j ≤ maxK ts k := by
  induction k with
  | zero => exact ⟨Int.le_refl _, fun j hj => by omega⟩
  | succ k ih =>
    obtain ⟨i1, i2⟩ := ih
    unfold maxK
    refine ⟨by omega, fun j hj => ?_⟩
    by_cases e : j = k
    · subst e; omega
    · have := i2 j (by omega); omega
theorem maxK_le_iff {ts : List Int} {M : Int} (k : Nat) : maxK ts k ≤ M ↔ 0 ≤ M ∧ ∀ j, j < k → nth ts j ≤ M := by
  constructor
  · intro h
    obtain ⟨a, b⟩ := maxK_ge (ts := ts) k
    exact ⟨by omega, fun j hj => by have := b j hj; omega⟩
  · rintro ⟨h0, h⟩
    induction k with
    | zero => exact h0
    | succ k ih => unfold maxK; have := ih (fun j hj => h j (by omega)); have := h k (by omega); omega
theorem worst_cut {n : Net} {d : Nat} (hm : 1 ≤ n.m) (hd : d < n.hs.length) (hps : loose n d) (hpk : okPrs n.hs.length n.ps = true) (hv : okHoles n.hs = true) {l : List Int} (h : isOrd n l = true) :
    worst (cut n d) (red d l) ≤ worst n l ∧ lastOf (cut n d) (red d l) ≤ lastOf n l := by
  have hr := (run_cut hm hd hps hpk hv l (ord_holes h)).2
  have ht : ∀ j : Nat, j + 1 < n.hs.length → nth (times (cut n d) (red d l)) j ≤ nth (times n l) (if j < d then j else j + 1) := by
    intro j hj
    have hne : (((if j < d then j else j + 1 : Nat) : Int)) ≠ d := by split <;> omega
    have := hr ((if j < d then j else j + 1 : Nat) : Int) ⟨by omega, by split <;> omega⟩ hne
    rw [ren_sk] at this
    simpa [times] using this
  have hdn : (nth n.hs d).fr ≤ nth (times n l) d := by
    have := times_mended hv h hd
    have := okHole_iff.1 (okHoles_at hv hd)
    omega
  unfold worst loss lastOf
  rw [cut_len hd]
  refine ⟨(lossK_cut hd hv ht hdn n.hs.length (Nat.le_refl _)).2 hd, ?_⟩
  obtain ⟨a, b⟩ := maxK_ge (ts := times n l) n.hs.length
  rw [maxK_le_iff]
  refine ⟨a, fun j hj => ?_⟩
  have := ht j (by omega)
  have := b (if j < d then j else j + 1) (by split <;> omega)
  omega
theorem least_cut {n : Net} {d : Nat} (hv : valid n = true) (hd : d < n.hs.length) (hps : loose n d) : valid (cut n d) = true ∧ leastN (cut n d) ≤ leastN n ∧ doneN (cut n d) ≤ doneN n := by
  obtain ⟨h1, h2, h3, h4, h5, h6⟩ := valid_iff.1 hv
  have hb := bestO_ord h6
  have hdo : isOrd n (least (lastOf n) (allO n)) = true := allO_mem.1 (least_mem _ (hasO_ne h6))
  have hb2 := ord_cut hd hps h5 hb
  have hd2 := ord_cut hd hps h5 hdo
  have w1 := (worst_cut h1.1 hd hps h5 h4 hb).1
  have w2 := (worst_cut h1.1 hd hps h5 h4 hdo).2
  have l1 := leastN_le hb2
  have l2 := doneN_le hd2
  refine ⟨?_, by unfold leastN at *; omega, by unfold doneN at *; omega⟩
  rw [valid_iff]
  refine ⟨h1, by rw [cut_len hd]; omega, by show (List.map _ _).length ≤ 8; rw [List.length_map]; exact h3, cut_ok h4, ?_, hasO_of hb2⟩
  unfold okPrs
  rw [List.all_eq_true]
  intro p hp
  obtain ⟨q, hq, rfl⟩ := List.mem_map.1 hp
  have hq2 := okPr_iff.1 (List.all_eq_true.1 h5 q hq)
  obtain ⟨q1, q2⟩ := hps q hq
  obtain ⟨a1, a2⟩ := (cut_hole hd (x := q.a) ⟨hq2.1, hq2.2.1⟩ q1).1
  obtain ⟨b1, b2⟩ := (cut_hole hd (x := q.b) ⟨hq2.2.2.1, hq2.2.2.2⟩ q2).1
  exact okPr_iff.2 ⟨a1, a2, b1, b2⟩

/-! ### Fewer fish -/
/-- The same net but for what is lost in an hour: no more, and at least as much. -/
structure Narrower (o n : Net) : Prop where
  m : o.m = n.m
  ps : o.ps = n.ps
  len : o.hs.length = n.hs.length
  at_ : ∀ k, k < n.hs.length → (nth o.hs k).fr = (nth n.hs k).fr ∧ (nth o.hs k).hr = (nth n.hs k).hr ∧ (nth n.hs k).lo ≤ (nth o.hs k).lo ∧ (nth o.hs k).hi ≤ (nth n.hs k).hi
theorem narrow_run {o n : Net} (h : Narrower o n) (l : List Int) (hl : holesL n l) : run o l = run n l := by
  have key : ∀ k, k ≤ l.length → Me.run o (l.take k) = Me.run n (l.take k) := by
    intro k
    induction k with
    | zero => intro _; show start o = start n; unfold start; rw [h.m, h.len]
    | succ k ih =>
      intro hk
      rw [take_snoc l (by omega), run_snoc, run_snoc, ih (by omega)]
      have hx := hl (nth l k) (nth_mem _ (by omega))
      obtain ⟨e1, e2, _⟩ := h.at_ (nth l k).toNat (by have := hx.1; have := hx.2; omega)
      have : mendAt o (Me.run n (l.take k)) (nth l k) = mendAt n (Me.run n (l.take k)) (nth l k) := by unfold mendAt; rw [h.ps, e1, e2]
      unfold step
      rw [this]
  have := key l.length (Nat.le_refl _)
  rwa [List.take_length] at this
theorem narrow_goes {o n : Net} (h : Narrower o n) {pre l : List Int} : goes o pre l = goes n pre l := by
  induction l generalizing pre with
  | nil => rfl
  | cons x l ih => unfold Me.goes; rw [ih, h.len]; unfold may; rw [h.ps]
theorem narrow_ords {o n : Net} (h : Narrower o n) (k : Nat) (l : List Int) : ords o k l = ords n k l := by
  induction k generalizing l with
  | zero => rfl
  | succ k ih =>
    unfold Me.ords
    rw [h.len]
    have : ∀ i : Int, may o l i = may n l i := fun i => by unfold may; rw [h.ps]
    simp only [this, ih]
theorem narrow_allO {o n : Net} (h : Narrower o n) : allO o = allO n := by unfold Me.allO; rw [h.len, (narrow_ords h)]
theorem narrow_isOrd {o n : Net} (h : Narrower o n) (l : List Int) : isOrd o l = isOrd n l := by unfold Me.isOrd; rw [h.len, (narrow_goes h)]
theorem narrow_worst {o n : Net} (h : Narrower o n) (hv : okHoles n.hs = true) {l : List Int} (hl : isOrd n l = true) : worst o l ≤ worst n l := by
  unfold Me.worst loss times
  rw [narrow_run h l (ord_holes hl), h.len]
  have key : ∀ k, k ≤ n.hs.length → lossK o.hs (Me.run n l).2 (highs o) k ≤ lossK n.hs (Me.run n l).2 (highs n) k := by
    intro k
    induction k with
    | zero => intro _; exact Int.le_refl _
    | succ k ih =>
      intro hk
      have i := ih (by omega)
      obtain ⟨e1, e2, e3, e4⟩ := h.at_ k (by omega)
      have ht := times_mended hv hl (j := k) (by omega)
      have hh := okHole_iff.1 (okHoles_at hv (k := k) (by omega))
      unfold lossK
      rw [nth_highs (by rw [h.len]; omega), nth_highs (by omega), e1]
      unfold times at ht
      have := Int.mul_le_mul_of_nonneg_right e4 (show 0 ≤ nth (Me.run n l).2 k - (nth n.hs k).fr by omega)
      omega
  exact key _ (Nat.le_refl _)
theorem narrow_least {o n : Net} (h : Narrower o n) (hv : okHoles n.hs = true) (ho : hasO n = true) : leastN o ≤ leastN n := by
  have hb := bestO_ord ho
  have := leastN_le (n := o) (l := bestO n) (by rw [(narrow_isOrd h)]; exact hb)
  have := (narrow_worst h) hv hb
  unfold leastN at *
  omega
theorem rateD_le {h h' : Hole} (d : Int) (h0 : h.lo ≤ h.hi) (h1 : h'.lo ≤ h.lo) (h2 : h.hi ≤ h'.hi) : rateD h d ≤ rateD h' d := by
  unfold rateD
  rcases Int.le_total 0 d with hd | hd
  · have a := Int.mul_le_mul_of_nonneg_right h2 hd
    have b := Int.mul_le_mul_of_nonneg_right h0 hd
    omega
  · have a := Int.mul_le_mul_of_nonpos_right h1 hd
    have b := Int.mul_le_mul_of_nonpos_right h0 hd
    omega
theorem rateD_ge {h : Hole} {x : Int} (d : Int) (h0 : h.lo ≤ x) (h1 : x ≤ h.hi) : x * d ≤ rateD h d := by
  have := rateD_le (h := ⟨0, x, x, 0⟩) (h' := h) d (Int.le_refl _) h0 h1
  unfold rateD at this ⊢
  simp only [Int.max_self] at this
  exact this
theorem regK_le {hs hs' : List Hole} {own other : List Int} (k : Nat) (h : ∀ j, j < k → (nth hs j).lo ≤ (nth hs j).hi ∧ (nth hs' j).lo ≤ (nth hs j).lo ∧ (nth hs j).hi ≤ (nth hs' j).hi) : regK hs own other k ≤ regK hs' own other k := by
  induction k with
  | zero => exact Int.le_refl _
  | succ k ih =>
    unfold regK
    obtain ⟨a, b, c⟩ := h k (by omega)
    have := rateD_le (nth own k - nth other k) a b c
    have := ih (fun j hj => h j (by omega))
    omega
theorem maxL_from {α : Type} (f : α → Int) (xs : List α) (m : Int) : m ≤ xs.foldl (fun m x => max m (f x)) m ∧ (∀ x ∈ xs, f x ≤ xs.foldl (fun m x => max m (f x)) m) ∧ ∀ M, m ≤ M → (∀ x ∈ xs, f x ≤ M) → xs.foldl (fun m x => max m (f x)) m ≤ M := by
  induction xs generalizing m with
  | nil => exact ⟨Int.le_refl _, (fun x hx => by cases hx), fun M hM _ => hM⟩
  | cons y ys ih =>
    obtain ⟨i1, i2, i3⟩ := ih (max m (f y))
    rw [List.foldl_cons]
    refine ⟨by omega, fun x hx => ?_, fun M hM h => i3 M (by have := h y (by simp); omega) (fun x hx => h x (by simp [hx]))⟩
    rcases List.mem_cons.1 hx with rfl | hx
    · omega
    · exact i2 x hx
theorem maxL_ge {α : Type} (f : α → Int) (xs : List α) : 0 ≤ maxL f xs ∧ ∀ x ∈ xs, f x ≤ maxL f xs := ⟨(maxL_from f xs 0).1, (maxL_from f xs 0).2.1⟩
theorem maxL_le {α : Type} (f : α → Int) (xs : List α) {M : Int} (h0 : 0 ≤ M) (h : ∀ x ∈ xs, f x ≤ M) : maxL f xs ≤ M := (maxL_from f xs 0).2.2 M h0 h
theorem maxL_snoc {α : Type} (f : α → Int) (xs : List α) (x : α) : maxL f (xs ++ [x]) = max (maxL f xs) (f x) := by simp [maxL, List.foldl_append]
theorem reg_ge {n : Net} {l o : List Int} (ho : isOrd n o = true) : reg2 n l o ≤ regret n l := (maxL_ge _ _).2 o (allO_mem.2 ho)
theorem regret_nn (n : Net) (l : List Int) : 0 ≤ regret n l := (maxL_ge _ _).1
theorem narrow_regret {o n : Net} (h : Narrower o n) (hv : okHoles o.hs = true) {l : List Int} (hl : isOrd n l = true) : regret o l ≤ regret n l := by
  unfold Me.regret
  rw [(narrow_allO h)]
  refine maxL_le _ _ (maxL_ge _ _).1 fun x hx => ?_
  have hxo := allO_mem.1 hx
  refine Int.le_trans ?_ ((maxL_ge (reg2 n l) (Me.allO n)).2 x hx)
  unfold reg2 times
  rw [narrow_run h l (ord_holes hl), (narrow_run h) x (ord_holes hxo), h.len]
  refine regK_le _ fun j hj => ?_
  obtain ⟨_, _, e3, e4⟩ := h.at_ j hj
  have := okHole_iff.1 (okHoles_at hv (k := j) (by rw [h.len]; exact hj))
  exact ⟨by omega, e3, e4⟩

/-! ### Regret -/
/-- Numbers of fish that can go. -/
def truthB (n : Net) (t : List Int) : Prop := t.length = n.hs.length ∧ ∀ k, k < n.hs.length → (nth n.hs k).lo ≤ nth t k ∧ nth t k ≤ (nth n.hs k).hi
theorem loss_reg {n : Net} {l o t : List Int} (ht : truthB n t) : loss n l t - loss n o t ≤ reg2 n l o := by
  unfold loss reg2
  have key : ∀ k, k ≤ n.hs.length → lossK n.hs (times n l) t k - lossK n.hs (times n o) t k ≤ regK n.hs (times n l) (times n o) k := by
    intro k
    induction k with
    | zero => intro _; simp [lossK, regK]
    | succ k ih =>
      intro hk
      have i := ih (by omega)
      obtain ⟨a, b⟩ := ht.2 k (by omega)
      have := rateD_ge (nth (times n l) k - nth (times n o) k) a b
      unfold lossK regK
      have e : nth t k * (nth (times n l) k - (nth n.hs k).fr) - nth t k * (nth (times n o) k - (nth n.hs k).fr) = nth t k * (nth (times n l) k - nth (times n o) k) := by rw [← Int.mul_sub]; congr 1; omega
      omega
  exact key _ (Nat.le_refl _)
theorem truth_highs {n : Net} (hv : okHoles n.hs = true) : truthB n (highs n) := by
  refine ⟨by simp [highs], fun k hk => ?_⟩
  rw [nth_highs hk]
  have := okHole_iff.1 (okHoles_at hv hk)
  omega
theorem loss_regret {n : Net} {l o t : List Int} (ht : truthB n t) (ho : isOrd n o = true) : loss n l t - loss n o t ≤ regret n l := Int.le_trans (loss_reg ht) (reg_ge ho)
theorem regret_zero {n : Net} (hv : okHoles n.hs = true) {l : List Int} (hl : isOrd n l = true) (h0 : regret n l = 0) : worst n l = leastN n := by
  have hb := bestO_ord (hasO_of hl)
  have h1 := loss_regret (l := l) (truth_highs hv) hb
  have h2 := leastN_le hl
  unfold leastN worst at *
  omega
theorem regret_none {n : Net} (hv : okHoles n.hs = true) (hz : ∀ k, k < n.hs.length → (nth n.hs k).hi = 0) (l : List Int) : regret n l = 0 := by
  have h1 := regret_nn n l
  have : regret n l ≤ 0 := by
    refine maxL_le _ _ (Int.le_refl _) fun o _ => ?_
    unfold reg2
    have key : ∀ k, k ≤ n.hs.length → regK n.hs (times n l) (times n o) k = 0 := by
      intro k
      induction k with
      | zero => intro _; rfl
      | succ k ih =>
        intro hk
        unfold regK
        have hh := okHole_iff.1 (okHoles_at hv (k := k) (by omega))
        have hi := hz k (by omega)
        have hlo : (nth n.hs k).lo = 0 := by omega
        rw [ih (by omega)]
        unfold rateD
        rw [hi, hlo]; simp
    rw [key _ (Nat.le_refl _)]; exact Int.le_refl _
  omega
theorem calm_ord {n : Net} (h : hasO n = true) : isOrd n (calm n) = true := allO_mem.1 (least_mem _ (hasO_ne h))
theorem calm_le {n : Net} {l : List Int} (hl : isOrd n l = true) : regret n (calm n) ≤ regret n l := least_le _ (allO_mem.2 hl)

/-! ### Bounds -/
theorem lossK_bd {n : Net} (hv : okHoles n.hs = true) {ts rt : List Int} {M : Int} (ht : allLe M ts) (hr : allLe 20 rt) (k : Nat) (hk : k ≤ n.hs.length) (hM : 20 ≤ M) : -(20 * M * k) ≤ lossK n.hs ts rt k ∧ lossK n.hs ts rt k ≤ 20 * M * k := by
  induction k with
  | zero => simp [lossK]
  | succ k ih =>
    obtain ⟨i1, i2⟩ := ih (by omega)
    have a := ht k
    have b := hr k
    have c := okHole_iff.1 (okHoles_at hv (k := k) (by omega))
    unfold lossK
    have d : nth rt k * (nth ts k - (nth n.hs k).fr) ≤ 20 * M := by
      have e1 := Int.mul_le_mul_of_nonneg_left (show nth ts k - (nth n.hs k).fr ≤ M by omega) b.1
      have e2 := Int.mul_le_mul_of_nonneg_right b.2 (show 0 ≤ M by omega)
      omega
    have d2 : -(20 * M) ≤ nth rt k * (nth ts k - (nth n.hs k).fr) := by
      have e1 := Int.mul_le_mul_of_nonneg_left (show -M ≤ nth ts k - (nth n.hs k).fr by omega) b.1
      have e2 := Int.mul_le_mul_of_nonneg_right b.2 (show 0 ≤ M by omega)
      rw [Int.mul_neg] at e1
      omega
    have e : (20 * M * ((k + 1 : Nat) : Int)) = 20 * M * k + 20 * M := by rw [Int.natCast_add, Int.mul_add]; simp
    omega

end Me
end Go.Proofs.Ytbfehifidlojlaa
