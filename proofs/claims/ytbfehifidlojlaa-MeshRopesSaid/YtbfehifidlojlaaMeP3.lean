/- The plain laws of layer 4: what an order holds, and the order that is made hole by hole. -/
import Derived.Test.YtbfehifidlojlaaMeP2
namespace Go.Proofs.Ytbfehifidlojlaa
namespace Me

theorem goes_nodup {n : Net} {pre l : List Int} (h : goes n pre l = true) : l.Nodup ∧ ∀ x ∈ l, x ∉ pre := by
  induction l generalizing pre with
  | nil => exact ⟨List.nodup_nil, fun x hx => by cases hx⟩
  | cons y l ih =>
    unfold goes at h
    rw [Bool.and_eq_true, Bool.and_eq_true] at h
    obtain ⟨i1, i2⟩ := ih h.2
    have hy := (may_iff.1 h.1.2).1
    refine ⟨List.nodup_cons.2 ⟨fun hm => i2 y hm (by simp), i1⟩, fun x hx hp => ?_⟩
    rcases List.mem_cons.1 hx with rfl | hx
    · exact hy hp
    · exact i2 x hx (by simp [hp])
theorem ord_goes {n : Net} {l : List Int} (h : isOrd n l = true) : goes n [] l = true := by
  unfold isOrd at h; rw [Bool.and_eq_true] at h; exact h.2
theorem ord_nodup {n : Net} {l : List Int} (h : isOrd n l = true) : l.Nodup := (goes_nodup (ord_goes h)).1
theorem sub_len : ∀ (l1 l2 : List Int), l1.Nodup → (∀ x ∈ l1, x ∈ l2) → l1.length ≤ l2.length
  | [], _, _, _ => Nat.zero_le _
  | a :: l1, l2, hn, hs => by
    rw [List.nodup_cons] at hn
    have ha := hs a (by simp)
    have := sub_len l1 (l2.erase a) hn.2 (fun x hx => by
      rw [List.mem_erase_of_ne (by rintro rfl; exact hn.1 hx)]
      exact hs x (by simp [hx]))
    rw [List.length_erase_of_mem ha] at this
    have : 0 < l2.length := List.length_pos_of_mem ha
    simp; omega
/-- The numbers of all holes. -/
def nums (k : Nat) : List Int := (List.range k).map fun (i : Nat) => (i : Int)
theorem mem_nums {k : Nat} {x : Int} : x ∈ nums k ↔ 0 ≤ x ∧ x < k := by
  unfold nums
  rw [List.mem_map]
  constructor
  · rintro ⟨i, hi, rfl⟩; rw [List.mem_range] at hi; omega
  · intro h; exact ⟨x.toNat, by rw [List.mem_range]; omega, by omega⟩
theorem nums_len (k : Nat) : (nums k).length = k := by simp [nums]
theorem nums_succ (k : Nat) : nums (k + 1) = nums k ++ [(k : Int)] := by simp [nums, List.range_succ]
/-- A list of numbers of holes, each once, as many as there are holes, holds all. -/
theorem all_in {l : List Int} {k : Nat} (hn : l.Nodup) (hh : ∀ x ∈ l, 0 ≤ x ∧ x < k) (hl : l.length = k) {x : Int} (hx : 0 ≤ x ∧ x < k) : x ∈ l := by
  rcases Classical.em (x ∈ l) with h | h
  · exact h
  · have := sub_len (x :: l) (nums k) (List.nodup_cons.2 ⟨h, hn⟩) (fun y hy => by
      rw [mem_nums]
      rcases List.mem_cons.1 hy with rfl | hy
      · exact hx
      · exact hh y hy)
    rw [nums_len] at this
    simp at this
    omega
theorem ord_mem {n : Net} {l : List Int} (h : isOrd n l = true) {x : Int} : x ∈ l ↔ isHole n x :=
  ⟨fun hx => ord_holes h x hx, fun hx => all_in (ord_nodup h) (ord_holes h) (ord_len h) hx⟩

theorem goes_append {n : Net} {pre a b : List Int} : goes n pre (a ++ b) = (goes n pre a && goes n (pre ++ a) b) := by
  induction a generalizing pre with
  | nil => simp [goes]
  | cons x a ih =>
    rw [List.cons_append, goes, ih, goes, Bool.and_assoc, List.append_assoc, List.singleton_append, Bool.and_assoc, Bool.and_assoc]

/-! ### The order that is made hole by hole is one -/
/-- As long as an order is not whole, some hole may come next. -/
theorem some_may {n : Net} {done o : List Int} (ho : isOrd n o = true) (hd : done.length < n.hs.length) : ∃ x, isHole n x ∧ may n done x = true := by
  have hex : ∃ x ∈ o, x ∉ done := by
    rcases Classical.em (∃ x ∈ o, x ∉ done) with h | h
    · exact h
    · have := sub_len o done (ord_nodup ho) (fun x hx => Classical.byContradiction fun hc => h ⟨x, hx, hc⟩)
      rw [ord_len ho] at this; omega
  have key : ∀ (l pre : List Int), goes n pre l = true → (∀ x ∈ pre, x ∈ done) → (∃ x ∈ l, x ∉ done) → ∃ x ∈ l, may n done x = true := by
    intro l
    induction l with
    | nil => rintro pre _ _ ⟨x, hx, _⟩; cases hx
    | cons y l ih =>
      intro pre hg hp hx
      unfold goes at hg
      rw [Bool.and_eq_true, Bool.and_eq_true] at hg
      by_cases hy : y ∈ done
      · obtain ⟨x, hx, hm⟩ := ih (pre ++ [y]) hg.2 (fun x hx => by
          rcases List.mem_append.1 hx with h | h
          · exact hp x h
          · simp at h; subst h; exact hy) (by
          obtain ⟨x, hx, hm⟩ := hx
          rcases List.mem_cons.1 hx with rfl | hx
          · exact absurd hy hm
          · exact ⟨x, hx, hm⟩)
        exact ⟨x, by simp [hx], hm⟩
      · refine ⟨y, by simp, may_iff.2 ⟨hy, fun p hp' hb => hp _ ((may_iff.1 hg.1.2).2 p hp' hb)⟩⟩
  obtain ⟨x, hx, hm⟩ := key o [] (ord_goes ho) (fun x hx => by cases hx) hex
  exact ⟨x, ord_holes ho x hx, hm⟩
/-- x has at least y's ratio. -/
def better (n : Net) (x y : Int) : Prop := (nth n.hs y.toNat).hi * (nth n.hs x.toNat).hr ≤ (nth n.hs x.toNat).hi * (nth n.hs y.toNat).hr
theorem better_refl {n : Net} (x : Int) : better n x x := Int.le_refl _
theorem ratio_tr {a p b q c r : Int} (hq : 0 < q) (hp : 0 < p) (hr : 0 < r) (h1 : a * q ≤ b * p) (h2 : b * r ≤ c * q) : a * r ≤ c * p := by
  have e1 : a * q * r ≤ b * p * r := Int.mul_le_mul_of_nonneg_right h1 (by omega)
  have e2 : b * r * p ≤ c * q * p := Int.mul_le_mul_of_nonneg_right h2 (by omega)
  have e3 : q * (a * r) ≤ q * (c * p) := by
    have x1 : q * (a * r) = a * q * r := by rw [Int.mul_comm a q, Int.mul_assoc]
    have x2 : b * p * r = b * r * p := by rw [Int.mul_assoc, Int.mul_comm p r, ← Int.mul_assoc]
    have x3 : c * q * p = q * (c * p) := by rw [Int.mul_comm c q, Int.mul_assoc]
    omega
  exact Int.le_of_mul_le_mul_left e3 hq
theorem better_tr {n : Net} (hv : okHoles n.hs = true) {x y z : Int} (hx : isHole n x) (hy : isHole n y) (hz : isHole n z) (h1 : better n x y) (h2 : better n y z) : better n x z := by
  have e : ∀ x, isHole n x → 0 < (nth n.hs x.toNat).hr := fun x hx => by
    have := okHole_iff.1 (okHoles_at hv (k := x.toNat) (by have := hx.1; have := hx.2; omega)); omega
  exact ratio_tr (e y hy) (e z hz) (e x hx) h2 h1
theorem nextK_spec {n : Net} (hv : okHoles n.hs = true) (done : List Int) (k : Nat) (hk : k ≤ n.hs.length) :
    (nextK n done k = -1 ∧ ∀ j : Nat, j < k → may n done (j : Int) = false) ∨ (0 ≤ nextK n done k ∧ nextK n done k < k ∧ may n done (nextK n done k) = true ∧ ∀ j : Nat, j < k → may n done (j : Int) = true → better n (nextK n done k) (j : Int)) := by
  induction k with
  | zero => exact .inl ⟨rfl, fun j hj => by omega⟩
  | succ k ih =>
    have ih := ih (by omega)
    unfold nextK
    by_cases hm : may n done (k : Int) = true
    · rw [if_pos hm]
      rcases ih with ⟨e, h0⟩ | ⟨b1, b2, b3, b4⟩
      · rw [if_pos (.inl (by omega))]
        refine .inr ⟨by omega, by omega, hm, fun j hj hmj => ?_⟩
        by_cases hjk : j = k
        · subst hjk; exact better_refl _
        · rw [h0 j (by omega)] at hmj; cases hmj
      · by_cases hc : (nth n.hs k).hi * (nth n.hs (nextK n done k).toNat).hr > (nth n.hs (nextK n done k).toNat).hi * (nth n.hs k).hr
        · rw [if_pos (.inr hc)]
          refine .inr ⟨by omega, by omega, hm, fun j hj hmj => ?_⟩
          by_cases hjk : j = k
          · subst hjk; exact better_refl _
          · have h1 : better n (k : Int) (nextK n done k) := by unfold better; simp only [Int.toNat_natCast]; omega
            exact better_tr hv ⟨by omega, by omega⟩ ⟨b1, by omega⟩ ⟨by omega, by omega⟩ h1 (b4 j (by omega) hmj)
        · rw [if_neg (by omega)]
          refine .inr ⟨b1, by omega, b3, fun j hj hmj => ?_⟩
          by_cases hjk : j = k
          · subst hjk; unfold better; simp only [Int.toNat_natCast]; omega
          · exact b4 j (by omega) hmj
    · rw [if_neg hm]
      rw [Bool.not_eq_true] at hm
      rcases ih with ⟨e, h0⟩ | ⟨b1, b2, b3, b4⟩
      · refine .inl ⟨e, fun j hj => ?_⟩
        by_cases hjk : j = k
        · subst hjk; exact hm
        · exact h0 j (by omega)
      · refine .inr ⟨b1, by omega, b3, fun j hj hmj => ?_⟩
        by_cases hjk : j = k
        · subst hjk; rw [hm] at hmj; cases hmj
        · exact b4 j (by omega) hmj
theorem nextH_spec {n : Net} (hv : okHoles n.hs = true) {done o : List Int} (ho : isOrd n o = true) (hd : done.length < n.hs.length) :
    isHole n (nextH n done) ∧ may n done (nextH n done) = true ∧ ∀ x, isHole n x → may n done x = true → better n (nextH n done) x := by
  obtain ⟨x, hx, hm⟩ := some_may ho hd
  rcases nextK_spec hv done n.hs.length (Nat.le_refl _) with ⟨_, h0⟩ | ⟨b1, b2, b3, b4⟩
  · have := h0 x.toNat (by have := hx.1; have := hx.2; omega)
    rw [show (x.toNat : Int) = x by have := hx.1; omega, hm] at this
    cases this
  · refine ⟨⟨b1, b2⟩, b3, fun y hy hmy => ?_⟩
    have hyn : (y.toNat : Int) = y := by have := hy.1; omega
    have := b4 y.toNat (by have := hy.1; have := hy.2; omega) (by rw [hyn]; exact hmy)
    rwa [hyn] at this
theorem ruleK_spec {n : Net} (hv : okHoles n.hs = true) {o : List Int} (ho : isOrd n o = true) (k : Nat) (hk : k ≤ n.hs.length) : (ruleK n k).length = k ∧ goes n [] (ruleK n k) = true := by
  induction k with
  | zero => exact ⟨rfl, rfl⟩
  | succ k ih =>
    obtain ⟨i1, i2⟩ := ih (by omega)
    obtain ⟨h1, h2, _⟩ := nextH_spec hv ho (done := ruleK n k) (by omega)
    unfold ruleK
    refine ⟨by simp [i1], ?_⟩
    rw [goes_append, i2, List.nil_append, Bool.true_and]
    unfold goes
    rw [h2, inB_iff.2 ⟨h1.1, by have := h1.2; omega⟩]
    rfl
theorem rule_ord {n : Net} (hv : okHoles n.hs = true) (ho : hasO n = true) : isOrd n (rule n) = true := by
  obtain ⟨a, b⟩ := ruleK_spec hv (bestO_ord ho) n.hs.length (Nat.le_refl _)
  unfold isOrd rule
  rw [a, b]; simp

/-! ### With one mender, without pairs, the rule loses least -/
def tot (n : Net) (l : List Int) : Int := (l.map fun x => (nth n.hs x.toNat).hr).sum
def cost (n : Net) : Int → List Int → Int
  | _, [] => 0
  | T, x :: l => (nth n.hs x.toNat).hi * (T + (nth n.hs x.toNat).hr) + cost n (T + (nth n.hs x.toNat).hr) l
theorem tot_cons {n : Net} {x : Int} {l : List Int} : tot n (x :: l) = (nth n.hs x.toNat).hr + tot n l := by simp [tot]
theorem tot_append {n : Net} {a b : List Int} : tot n (a ++ b) = tot n a + tot n b := by simp [tot]
theorem cost_snoc {n : Net} {T x : Int} {l : List Int} : cost n T (l ++ [x]) = cost n T l + (nth n.hs x.toNat).hi * (T + tot n l + (nth n.hs x.toNat).hr) := by
  induction l generalizing T with
  | nil => simp [cost, tot]
  | cons y l ih =>
    rw [List.cons_append, cost, ih, cost, tot_cons, Int.add_assoc]
    rw [show T + (nth n.hs y.toNat).hr + (tot n l + (nth n.hs x.toNat).hr) = T + ((nth n.hs y.toNat).hr + tot n l) + (nth n.hs x.toNat).hr by omega]
    omega
theorem cost_front {n : Net} {T x : Int} {l1 l2 : List Int} (h : ∀ y ∈ l1, better n x y) : cost n T (x :: (l1 ++ l2)) ≤ cost n T (l1 ++ x :: l2) := by
  induction l1 generalizing T with
  | nil => exact Int.le_refl _
  | cons y l1 ih =>
    have h1 := ih (T := T + (nth n.hs y.toNat).hr) (fun z hz => h z (by simp [hz]))
    have h2 : (nth n.hs y.toNat).hi * (nth n.hs x.toNat).hr ≤ (nth n.hs x.toNat).hi * (nth n.hs y.toNat).hr := h y (by simp)
    simp only [List.cons_append, cost] at h1 ⊢
    rw [show T + (nth n.hs x.toNat).hr + (nth n.hs y.toNat).hr = T + (nth n.hs y.toNat).hr + (nth n.hs x.toNat).hr by omega]
    simp only [Int.mul_add] at h1 ⊢
    omega
theorem cost_best {n : Net} {s l : List Int} {T : Int} (hs : s.Pairwise (better n)) (hn : l.Nodup) (hsn : s.Nodup) (hm : ∀ x, x ∈ l ↔ x ∈ s) : cost n T s ≤ cost n T l ∧ tot n s = tot n l := by
  induction s generalizing l T with
  | nil =>
    have : l = [] := by
      cases l with
      | nil => rfl
      | cons y l => exact absurd ((hm y).1 (by simp)) (by simp)
    subst this; exact ⟨Int.le_refl _, rfl⟩
  | cons x s ih =>
    rw [List.pairwise_cons] at hs
    rw [List.nodup_cons] at hsn
    obtain ⟨l1, l2, rfl⟩ := List.append_of_mem ((hm x).2 (by simp))
    have hx1 : x ∉ l1 := fun h => by
      rw [List.nodup_append] at hn
      exact hn.2.2 x h x (by simp) rfl
    have hx2 : x ∉ l2 := fun h => by
      rw [List.nodup_append, List.nodup_cons] at hn
      exact hn.2.1.1 h
    have hn2 : (l1 ++ l2).Nodup := by
      refine hn.sublist ?_
      exact List.Sublist.append_left (List.sublist_cons_self _ _) _
    have hm2 : ∀ y, y ∈ l1 ++ l2 ↔ y ∈ s := by
      intro y
      have := hm y
      simp only [List.mem_append, List.mem_cons] at this ⊢
      by_cases hy : y = x
      · subst hy; simp [hx1, hx2, hsn.1]
      · simp only [hy, false_or] at this; exact this
    have hf := cost_front (n := n) (T := T) (x := x) (l1 := l1) (l2 := l2) (fun y hy => by
      exact hs.1 y ((hm2 y).1 (by simp [hy])))
    obtain ⟨i1, i2⟩ := ih (T := T + (nth n.hs x.toNat).hr) hs.2 hn2 hsn.2 hm2
    refine ⟨?_, ?_⟩
    · rw [cost] at hf ⊢; omega
    · rw [tot_cons, i2, tot_append, tot_append, tot_cons]; omega

/-- One mender, all holes torn at the hour 0, no pairs. -/
structure Plain (n : Net) : Prop where
  m : n.m = 1
  ps : n.ps = []
  fr : ∀ h ∈ n.hs, h.fr = 0
  ok : okHoles n.hs = true
theorem Plain.fr0 {n : Net} (h : Plain n) {x : Int} (hx : isHole n x) : (nth n.hs x.toNat).fr = 0 := h.fr _ (nth_mem _ (by have := hx.1; have := hx.2; omega))
theorem own_one (T : Int) : own [T] = 0 := by simp [own, ownK, nth]
theorem lossK_set {hs : List Hole} {ts rt : List Int} {j : Nat} {v : Int} (k : Nat) (hj : j < ts.length) : lossK hs (ts.set j v) rt k = lossK hs ts rt k + if j < k then nth rt j * (v - nth ts j) else 0 := by
  induction k with
  | zero => simp [lossK]
  | succ k ih =>
    unfold lossK
    rw [ih]
    by_cases hjk : j = k
    · subst hjk
      rw [nth_set_same _ hj, if_neg (by omega), if_pos (by omega)]
      simp only [Int.mul_sub]; omega
    · rw [nth_set_ne _ hjk]
      by_cases h : j < k
      · rw [if_pos h, if_pos (by omega)]; omega
      · rw [if_neg h, if_neg (by omega)]; omega
theorem lossK_zero {hs : List Hole} (h0 : ∀ h ∈ hs, h.fr = 0) {rt : List Int} {m : Nat} (k : Nat) (hk : k ≤ hs.length) : lossK hs (List.replicate m 0) rt k = 0 := by
  induction k with
  | zero => rfl
  | succ k ih =>
    unfold lossK
    rw [ih (by omega), nth_rep, h0 _ (nth_mem hs (by omega))]; simp
theorem Plain.run {n : Net} (h : Plain n) {l : List Int} (hl : holesL n l) (hn : l.Nodup) : (run n l).1 = [tot n l] ∧ lossK n.hs (run n l).2 (highs n) n.hs.length = cost n 0 l ∧ (∀ x, isHole n x → x ∉ l → nth (run n l).2 x.toNat = 0) ∧ maxK (run n l).2 n.hs.length = tot n l ∧ 0 ≤ tot n l := by
  refine run_ind (fun l s => s.1 = [tot n l] ∧ lossK n.hs s.2 (highs n) n.hs.length = cost n 0 l ∧ (∀ x, isHole n x → x ∉ l → nth s.2 x.toNat = 0) ∧ maxK s.2 n.hs.length = tot n l ∧ 0 ≤ tot n l) l ?_ ?_
  · refine ⟨by simp [start, h.m, tot], lossK_zero h.fr _ (Nat.le_refl _), fun x _ _ => nth_rep, ?_, Int.le_refl _⟩
    show maxK (List.replicate _ 0) _ = 0
    have : ∀ k, maxK (List.replicate n.hs.length 0) k = 0 := by
      intro k
      induction k with
      | zero => rfl
      | succ k ih => unfold maxK; rw [ih, nth_rep]; rfl
    exact this _
  · rintro pre x hp ⟨i1, i2, i3, i4, i5⟩
    have hx : isHole n x := hl x (hp.subset (by simp))
    have hxp : x ∉ pre := fun hc => by
      have := hn.sublist hp.sublist
      rw [List.nodup_append] at this
      exact this.2.2 x hc x (by simp) rfl
    have hr := okHole_iff.1 (okHoles_at h.ok (k := x.toNat) (by have := hx.1; have := hx.2; omega))
    have hm : mendAt n (Me.run n pre) x = tot n pre + (nth n.hs x.toNat).hr := by
      unfold mendAt
      rw [h.ps, h.fr0 hx, i1, own_one]
      show max (nth [tot n pre] 0) 0 + _ = _
      have : nth [tot n pre] 0 = tot n pre := rfl
      rw [this]; omega
    have hln := (run_lens n pre).2
    have hlt : x.toNat < n.hs.length := by have := hx.1; have := hx.2; omega
    have ht : tot n (pre ++ [x]) = tot n pre + (nth n.hs x.toNat).hr := by rw [tot_append, tot_cons]; simp [tot]
    unfold step
    rw [hm, ht]
    refine ⟨?_, ?_, ?_, ?_, by omega⟩
    · show List.set _ _ _ = _
      rw [i1, own_one]; rfl
    · show lossK _ (List.set _ _ _) _ _ = _
      rw [lossK_set _ (by omega), if_pos hlt, i2, cost_snoc, i3 x hx hxp, nth_highs hlt, Int.zero_add, Int.sub_zero]
    · intro y hy hym
      have hyx : x.toNat ≠ y.toNat := fun hc => hym (by
        have : y = x := by have := hy.1; have := hx.1; omega
        rw [this]; simp)
      show nth (List.set _ _ _) _ = _
      rw [nth_set_ne _ hyx]
      exact i3 y hy (fun hc => hym (by simp [hc]))
    · show maxK (List.set _ _ _) _ = _
      have key : ∀ k, k ≤ n.hs.length → maxK ((Me.run n pre).2.set x.toNat (tot n pre + (nth n.hs x.toNat).hr)) k = if x.toNat < k then tot n pre + (nth n.hs x.toNat).hr else maxK (Me.run n pre).2 k := by
        have hle : ∀ k, k ≤ n.hs.length → maxK (Me.run n pre).2 k ≤ tot n pre ∧ ∀ j, j < k → nth (Me.run n pre).2 j ≤ tot n pre := by
          have mono : ∀ d k, maxK (Me.run n pre).2 k ≤ maxK (Me.run n pre).2 (k + d) ∧ ∀ j, j < k + d → nth (Me.run n pre).2 j ≤ maxK (Me.run n pre).2 (k + d) := by
            intro d k
            have a : ∀ k, ∀ j, j < k → nth (Me.run n pre).2 j ≤ maxK (Me.run n pre).2 k := by
              intro k
              induction k with
              | zero => intro j hj; omega
              | succ k ih => intro j hj; unfold maxK; by_cases e : j = k; · subst e; omega
                             · have := ih j (by omega); omega
            refine ⟨?_, a _⟩
            induction d with
            | zero => exact Int.le_refl _
            | succ d ih => rw [← Nat.add_assoc]; show _ ≤ max (maxK (Me.run n pre).2 (k + d)) _; omega
          intro k hk
          have := mono (n.hs.length - k) k
          rw [show k + (n.hs.length - k) = n.hs.length by omega, i4] at this
          exact ⟨this.1, fun j hj => this.2 j (by omega)⟩
        intro k
        induction k with
        | zero => intro _; simp [maxK]
        | succ k ih =>
          intro hk
          obtain ⟨b1, b2⟩ := hle (k + 1) hk
          unfold maxK at b1 ⊢
          rw [ih (by omega)]
          by_cases e : x.toNat = k
          · subst e
            rw [nth_set_same _ (by omega), if_neg (by omega), if_pos (by omega)]; omega
          · rw [nth_set_ne _ e]
            by_cases h : x.toNat < k
            · rw [if_pos h, if_pos (by omega)]
              have := b2 k (by omega); omega
            · rw [if_neg h, if_neg (by omega)]
      rw [key _ (Nat.le_refl _), if_pos hlt]
theorem rule_sorted {n : Net} (h : Plain n) (ho : hasO n = true) : (rule n).Pairwise (better n) := by
  have key : ∀ k, k ≤ n.hs.length → (ruleK n k).Pairwise (better n) ∧ ∀ a ∈ ruleK n k, ∀ y, isHole n y → y ∉ ruleK n k → better n a y := by
    intro k
    induction k with
    | zero => intro _; exact ⟨List.Pairwise.nil, fun a ha => by cases ha⟩
    | succ k ih =>
      intro hk
      obtain ⟨i1, i2⟩ := ih (by omega)
      have hlen := (ruleK_spec h.ok (bestO_ord ho) k (by omega)).1
      obtain ⟨h1, h2, h3⟩ := nextH_spec h.ok (bestO_ord ho) (done := ruleK n k) (by omega)
      unfold ruleK
      refine ⟨?_, ?_⟩
      · rw [List.pairwise_append]
        refine ⟨i1, List.pairwise_singleton _ _, fun a ha b hb => ?_⟩
        rw [List.mem_singleton] at hb
        subst hb
        exact i2 a ha _ h1 (may_iff.1 h2).1
      · intro a ha y hy hym
        have hy2 : y ∉ ruleK n k := fun hc => hym (by simp [hc])
        rcases List.mem_append.1 ha with ha | ha
        · exact i2 a ha y hy hy2
        · rw [List.mem_singleton] at ha
          subst ha
          exact h3 y hy (may_iff.2 ⟨hy2, fun p hp => by rw [h.ps] at hp; cases hp⟩)
  exact (key _ (Nat.le_refl _)).1
theorem Plain.over {n : Net} (h : Plain n) (ho : hasO n = true) : overN n = 0 ∧ doneN n = tot n (nums n.hs.length) := by
  have hr := rule_ord h.ok ho
  have hb := bestO_ord ho
  have hd : isOrd n (least (lastOf n) (allO n)) = true := allO_mem.1 (least_mem _ (hasO_ne ho))
  have e1 : worst n (rule n) = cost n 0 (rule n) := (h.run (ord_holes hr) (ord_nodup hr)).2.1
  have e2 : worst n (bestO n) = cost n 0 (bestO n) := (h.run (ord_holes hb) (ord_nodup hb)).2.1
  have c := (cost_best (T := 0) (rule_sorted h ho) (ord_nodup hb) (ord_nodup hr) (fun x => by rw [ord_mem hb, ord_mem hr])).1
  have l := leastN_le hr
  have e3 : lastOf n (least (lastOf n) (allO n)) = tot n (least (lastOf n) (allO n)) := (h.run (ord_holes hd) (ord_nodup hd)).2.2.2.1
  have hnn : (nums n.hs.length).Nodup := by
    unfold nums
    rw [List.nodup_iff_pairwise_ne, List.pairwise_map]
    exact (List.nodup_range.imp (fun hab => by omega))
  have e4 := (cost_best (T := 0) (rule_sorted h ho) hnn (ord_nodup hr) (fun x => by rw [mem_nums, ord_mem hr]; rfl)).2
  have e5 := (cost_best (T := 0) (rule_sorted h ho) (ord_nodup hd) (ord_nodup hr) (fun x => by rw [ord_mem hd, ord_mem hr])).2
  unfold overN doneN
  unfold leastN at *
  constructor <;> omega

end Me
end Go.Proofs.Ytbfehifidlojlaa
