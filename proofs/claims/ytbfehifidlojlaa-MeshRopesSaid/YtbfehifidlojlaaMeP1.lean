/- The plain words of layer 4 (mesh): nets, orders, when holes are mended, what is lost. No program in sight. -/
import Derived.Test.YtbfehifidlojlaaBase
namespace Go.Proofs.Ytbfehifidlojlaa
namespace Me

structure Hole where
  fr : Int
  lo : Int
  hi : Int
  hr : Int
structure Pr where
  a : Int
  b : Int
structure Net where
  m : Int
  hs : List Hole
  ps : List Pr
instance : Inhabited Hole := ⟨⟨0, 0, 0, 0⟩⟩
instance : Inhabited Pr := ⟨⟨0, 0⟩⟩

/-- Does a list hold a number? (closed to simp) -/
def isIn (xs : List Int) (x : Int) : Bool := decide (x ∈ xs)
theorem isIn_iff {xs : List Int} {x : Int} : isIn xs x = true ↔ x ∈ xs := by simp [isIn]
theorem isIn_not {xs : List Int} {x : Int} : isIn xs x = false ↔ x ∉ xs := by simp [isIn]

/-- Is a pair kept, if hole h comes behind the holes of a list? -/
def prOk (done : List Int) (h : Int) (p : Pr) : Bool := !decide (p.b = h) || isIn done p.a
def rdy (ps : List Pr) (done : List Int) (h : Int) : Bool := ps.all (prOk done h)
def may (n : Net) (done : List Int) (h : Int) : Bool := !isIn done h && rdy n.ps done h
theorem may_iff {n : Net} {done : List Int} {h : Int} : may n done h = true ↔ h ∉ done ∧ ∀ p ∈ n.ps, p.b = h → p.a ∈ done := by
  unfold may rdy prOk
  rw [Bool.and_eq_true, Bool.not_eq_true', isIn_not, List.all_eq_true]
  refine and_congr_right fun _ => forall_congr' fun p => forall_congr' fun _ => ?_
  rw [Bool.or_eq_true, Bool.not_eq_true', decide_eq_false_iff_not, isIn_iff]
  constructor
  · intro h1 h2; exact h1.resolve_left (fun h3 => h3 h2)
  · intro h1; by_cases h2 : p.b = h
    · exact .inr (h1 h2)
    · exact .inl h2

/-- All orders that begin with some holes, if k more come. -/
def ords (n : Net) : Nat → List Int → List (List Int)
  | 0, l => [l]
  | k + 1, l => (List.range n.hs.length).flatMap fun (i : Nat) => if may n l (i : Int) = true then ords n k (l ++ [(i : Int)]) else []
def allO (n : Net) : List (List Int) := ords n n.hs.length []

/-- Does a list go on as an order does? -/
def goes (n : Net) : List Int → List Int → Bool
  | _, [] => true
  | pre, x :: xs => (inB 0 ((n.hs.length : Int) - 1) x && may n pre x) && goes n (pre ++ [x]) xs
def isOrd (n : Net) (l : List Int) : Bool := decide (l.length = n.hs.length) && goes n [] l

theorem ords_mem {n : Net} {k : Nat} {l o : List Int} : o ∈ ords n k l ↔ ∃ r, o = l ++ r ∧ r.length = k ∧ goes n l r = true := by
  induction k generalizing l with
  | zero =>
    unfold ords
    rw [List.mem_singleton]
    constructor
    · rintro rfl; exact ⟨[], by simp, rfl, rfl⟩
    · rintro ⟨r, rfl, hr, _⟩
      rw [List.eq_nil_of_length_eq_zero hr, List.append_nil]
  | succ k ih =>
    unfold ords
    rw [List.mem_flatMap]
    constructor
    · rintro ⟨i, hi, ho⟩
      rw [List.mem_range] at hi
      by_cases hm : may n l (i : Int) = true
      · rw [if_pos hm, ih] at ho
        obtain ⟨r, rfl, hr, hg⟩ := ho
        refine ⟨(i : Int) :: r, by simp, by simp [hr], ?_⟩
        unfold goes
        rw [hm, hg, Bool.and_true, Bool.and_true, inB_iff]
        omega
      · rw [if_neg hm] at ho; cases ho
    · rintro ⟨r, rfl, hr, hg⟩
      cases r with
      | nil => cases hr
      | cons x r =>
        unfold goes at hg
        rw [Bool.and_eq_true, Bool.and_eq_true, inB_iff] at hg
        obtain ⟨⟨⟨h1, h2⟩, hm⟩, hg⟩ := hg
        refine ⟨x.toNat, by rw [List.mem_range]; omega, ?_⟩
        have hx : (x.toNat : Int) = x := by omega
        rw [hx, if_pos hm, ih]
        exact ⟨r, by simp, by simpa using hr, hg⟩
theorem allO_mem {n : Net} {o : List Int} : o ∈ allO n ↔ isOrd n o = true := by
  unfold allO isOrd
  rw [ords_mem, Bool.and_eq_true, decide_eq_true_eq]
  constructor
  · rintro ⟨r, rfl, hr, hg⟩; exact ⟨by simpa using hr, by simpa using hg⟩
  · rintro ⟨hl, hg⟩; exact ⟨o, by simp, hl, hg⟩

def okHole (h : Hole) : Bool := decide (0 ≤ h.fr ∧ h.fr ≤ 20 ∧ 0 ≤ h.lo ∧ h.lo ≤ h.hi ∧ h.hi ≤ 20 ∧ 1 ≤ h.hr ∧ h.hr ≤ 9)
def okHoles (hs : List Hole) : Bool := hs.all okHole
def okPr (k : Nat) (p : Pr) : Bool := decide (0 ≤ p.a ∧ p.a < k ∧ 0 ≤ p.b ∧ p.b < k)
def okPrs (k : Nat) (ps : List Pr) : Bool := ps.all (okPr k)
def hasO (n : Net) : Bool := !(allO n).isEmpty
def valid (n : Net) : Bool := (decide (1 ≤ n.m ∧ n.m ≤ 3) && decide (n.hs.length ≤ 6) && decide (n.ps.length ≤ 8) && okHoles n.hs && okPrs n.hs.length n.ps) && hasO n
theorem valid_iff {n : Net} : valid n = true ↔ (1 ≤ n.m ∧ n.m ≤ 3) ∧ n.hs.length ≤ 6 ∧ n.ps.length ≤ 8 ∧ okHoles n.hs = true ∧ okPrs n.hs.length n.ps = true ∧ hasO n = true := by
  simp [valid, and_assoc]
theorem okHoles_at {hs : List Hole} (h : okHoles hs = true) {k : Nat} (hk : k < hs.length) : okHole (nth hs k) = true := List.all_eq_true.1 h _ (nth_mem hs hk)
theorem okPrs_at {m : Nat} {ps : List Pr} (h : okPrs m ps = true) {k : Nat} (hk : k < ps.length) : okPr m (nth ps k) = true := List.all_eq_true.1 h _ (nth_mem ps hk)

/-! ### When the holes are mended -/

/-- Of the first k menders, the one who is free first. -/
def ownK (free : List Int) : Nat → Nat
  | 0 => 0
  | k + 1 => if nth free k < nth free (ownK free k) then k else ownK free k
def own (free : List Int) : Nat := ownK free free.length
/-- When a hole is begun, as the first k pairs go. -/
def begK (ps : List Pr) (out : List Int) (h : Int) (b : Int) : Nat → Int
  | 0 => b
  | k + 1 => if (nth ps k).b = h then max (begK ps out h b k) (nth out (nth ps k).a.toNat) else begK ps out h b k
/-- When a hole is mended that comes next. -/
def mendAt (n : Net) (s : List Int × List Int) (h : Int) : Int :=
  begK n.ps s.2 h (max (nth s.1 (own s.1)) (nth n.hs h.toNat).fr) n.ps.length + (nth n.hs h.toNat).hr
def step (n : Net) (s : List Int × List Int) (h : Int) : List Int × List Int := (s.1.set (own s.1) (mendAt n s h), s.2.set h.toNat (mendAt n s h))
def start (n : Net) : List Int × List Int := (List.replicate n.m.toNat 0, List.replicate n.hs.length 0)
def run (n : Net) (l : List Int) : List Int × List Int := l.foldl (step n) (start n)
def times (n : Net) (l : List Int) : List Int := (run n l).2

theorem run_snoc (n : Net) (l : List Int) (h : Int) : run n (l ++ [h]) = step n (run n l) h := by simp [run, List.foldl_append]
/-- What each step keeps is so at last. -/
theorem run_ind {n : Net} (p : List Int → List Int × List Int → Prop) (l : List Int) (h0 : p [] (start n)) (h1 : ∀ pre x, pre ++ [x] <+: l → p pre (run n pre) → p (pre ++ [x]) (step n (run n pre) x)) : p l (run n l) := by
  have key : ∀ k, k ≤ l.length → p (l.take k) (run n (l.take k)) := by
    intro k
    induction k with
    | zero => intro _; rw [List.take_zero]; exact h0
    | succ k ih =>
      intro hk
      rw [take_snoc l (by omega), run_snoc]
      refine h1 _ _ ?_ (ih (by omega))
      rw [← take_snoc l (by omega)]
      exact List.take_prefix _ _
  have := key l.length (Nat.le_refl _)
  rwa [List.take_length] at this
theorem run_lens (n : Net) (l : List Int) : (run n l).1.length = n.m.toNat ∧ (run n l).2.length = n.hs.length :=
  run_ind (fun _ s => s.1.length = n.m.toNat ∧ s.2.length = n.hs.length) l (by simp [start]) (fun pre x _ ih => by simp [step, ih])
theorem times_len (n : Net) (l : List Int) : (times n l).length = n.hs.length := (run_lens n l).2

theorem nth_set_same {α : Type} [Inhabited α] (xs : List α) {k : Nat} (h : k < xs.length) (v : α) : nth (xs.set k v) k = v := by simp [nth, h]
theorem nth_set_ne {α : Type} [Inhabited α] (xs : List α) {j k : Nat} (h : j ≠ k) (v : α) : nth (xs.set j v) k = nth xs k := by simp [nth, List.getElem?_set_ne h]
theorem nth_set_cases {α : Type} [Inhabited α] (xs : List α) (j k : Nat) (v : α) : nth (xs.set j v) k = v ∨ nth (xs.set j v) k = nth xs k := by
  by_cases h : j = k
  · subst h
    rcases Nat.lt_or_ge j xs.length with hl | hl
    · exact .inl (nth_set_same xs hl v)
    · exact .inr (by rw [List.set_eq_of_length_le hl])
  · exact .inr (nth_set_ne xs h v)
theorem nth_rep {m k : Nat} : nth (List.replicate m (0 : Int)) k = 0 := by
  unfold nth List.getD
  rw [List.getElem?_replicate]
  split <;> rfl

theorem ownK_lt {free : List Int} {k : Nat} (h : 0 < k) : ownK free k < k := by
  induction k with
  | zero => omega
  | succ k ih =>
    unfold ownK
    split
    · omega
    · cases k with
      | zero => simp [ownK]
      | succ k => have := ih (by omega); omega
theorem ownK_le {free : List Int} {k : Nat} (j : Nat) (h : j < k) : nth free (ownK free k) ≤ nth free j := by
  induction k with
  | zero => omega
  | succ k ih =>
    unfold ownK
    by_cases hj : j < k
    · have := ih hj
      split <;> omega
    · have : j = k := by omega
      subst this
      split <;> omega
theorem own_lt {free : List Int} (h : 0 < free.length) : own free < free.length := ownK_lt h
theorem own_le {free : List Int} {j : Nat} (h : j < free.length) : nth free (own free) ≤ nth free j := ownK_le j h

theorem begK_bd {ps : List Pr} {out : List Int} {h b M : Int} (k : Nat) (hb : b ≤ M) (ho : ∀ j, nth out j ≤ M) : b ≤ begK ps out h b k ∧ begK ps out h b k ≤ M := by
  induction k with
  | zero => exact ⟨Int.le_refl _, hb⟩
  | succ k ih =>
    unfold begK
    split
    · have := ho (nth ps k).a.toNat; omega
    · exact ih
theorem okHole_iff {h : Hole} : okHole h = true ↔ 0 ≤ h.fr ∧ h.fr ≤ 20 ∧ 0 ≤ h.lo ∧ h.lo ≤ h.hi ∧ h.hi ≤ 20 ∧ 1 ≤ h.hr ∧ h.hr ≤ 9 := by simp [okHole]
theorem okPr_iff {k : Nat} {p : Pr} : okPr k p = true ↔ 0 ≤ p.a ∧ p.a < k ∧ 0 ≤ p.b ∧ p.b < k := by simp [okPr]
/-- All numbers are from 0 to M. -/
def allLe (M : Int) (xs : List Int) : Prop := ∀ j, 0 ≤ nth xs j ∧ nth xs j ≤ M
theorem allLe_set {M : Int} {xs : List Int} {v : Int} (h : allLe M xs) (h0 : 0 ≤ v) (h1 : v ≤ M) (k : Nat) : allLe M (xs.set k v) := fun j => by
  rcases nth_set_cases xs k j v with e | e <;> rw [e]
  · exact ⟨h0, h1⟩
  · exact h j
theorem allLe_mono {M M' : Int} {xs : List Int} (h : allLe M xs) (hM : M ≤ M') : allLe M' xs := fun j => ⟨(h j).1, Int.le_trans (h j).2 hM⟩
/-- A hole of the net. -/
def isHole (n : Net) (h : Int) : Prop := 0 ≤ h ∧ h < n.hs.length
theorem mendAt_bd {n : Net} {s : List Int × List Int} {h M : Int} (hv : okHoles n.hs = true) (hh : isHole n h) (h1 : allLe M s.1) (h2 : allLe M s.2) (hM : 20 ≤ M) : 0 ≤ mendAt n s h ∧ mendAt n s h ≤ M + 9 ∧ (nth n.hs h.toNat).fr + (nth n.hs h.toNat).hr ≤ mendAt n s h ∧ nth s.1 (own s.1) ≤ mendAt n s h ∧ begK n.ps s.2 h (max (nth s.1 (own s.1)) (nth n.hs h.toNat).fr) n.ps.length ≤ M := by
  have a := okHole_iff.1 (okHoles_at hv (k := h.toNat) (by have := hh.1; have := hh.2; omega))
  have b := h1 (own s.1)
  have c := begK_bd (ps := n.ps) (out := s.2) (h := h) (b := max (nth s.1 (own s.1)) (nth n.hs h.toNat).fr) (M := M) n.ps.length (by omega) (fun j => (h2 j).2)
  unfold mendAt
  omega
/-- All of a list are holes of the net. -/
def holesL (n : Net) (l : List Int) : Prop := ∀ x ∈ l, isHole n x
theorem run_bd {n : Net} (hv : okHoles n.hs = true) (l : List Int) (hl : holesL n l) : allLe (20 + 9 * l.length) (run n l).1 ∧ allLe (20 + 9 * l.length) (run n l).2 := by
  have z : ∀ m, allLe 20 (List.replicate m 0) := fun m j => by rw [nth_rep]; omega
  refine run_ind (fun l s => allLe (20 + 9 * (l.length : Int)) s.1 ∧ allLe (20 + 9 * (l.length : Int)) s.2) l ⟨z _, z _⟩ ?_
  rintro pre x hp ⟨i1, i2⟩
  have hx : isHole n x := hl x (hp.subset (by simp))
  obtain ⟨b1, b2, _⟩ := mendAt_bd hv hx i1 i2 (by omega)
  have e : (20 + 9 * ((pre ++ [x]).length : Int)) = 20 + 9 * (pre.length : Int) + 9 := by simp; omega
  rw [e]
  exact ⟨allLe_set (allLe_mono i1 (by omega)) b1 b2 _, allLe_set (allLe_mono i2 (by omega)) b1 b2 _⟩
theorem goes_holes {n : Net} {pre l : List Int} (h : goes n pre l = true) : holesL n l := by
  induction l generalizing pre with
  | nil => intro x hx; cases hx
  | cons y l ih =>
    unfold goes at h
    rw [Bool.and_eq_true, Bool.and_eq_true, inB_iff] at h
    intro x hx
    rcases List.mem_cons.1 hx with rfl | hx
    · exact ⟨h.1.1.1, by omega⟩
    · exact ih h.2 x hx
theorem ord_holes {n : Net} {l : List Int} (h : isOrd n l = true) : holesL n l := by
  unfold isOrd at h
  rw [Bool.and_eq_true] at h
  exact goes_holes h.2
theorem ord_len {n : Net} {l : List Int} (h : isOrd n l = true) : l.length = n.hs.length := by
  unfold isOrd at h
  rw [Bool.and_eq_true, decide_eq_true_eq] at h
  exact h.1
theorem times_bd {n : Net} (hv : valid n = true) {l : List Int} (hl : isOrd n l = true) : allLe 74 (times n l) := by
  obtain ⟨_, h6, _, ho, _⟩ := valid_iff.1 hv
  have := (run_bd ho l (ord_holes hl)).2
  refine allLe_mono this ?_
  rw [ord_len hl]; omega

/-! ### What is lost -/

/-- By the first k holes, of which numbers are lost in an hour. -/
def lossK (hs : List Hole) (ts rt : List Int) : Nat → Int
  | 0 => 0
  | k + 1 => lossK hs ts rt k + nth rt k * (nth ts k - (nth hs k).fr)
def loss (n : Net) (l rt : List Int) : Int := lossK n.hs (times n l) rt n.hs.length
def lows (n : Net) : List Int := n.hs.map Hole.lo
def highs (n : Net) : List Int := n.hs.map Hole.hi
def worst (n : Net) (l : List Int) : Int := loss n l (highs n)
/-- The greatest of the first k numbers, or 0. -/
def maxK (ts : List Int) : Nat → Int
  | 0 => 0
  | k + 1 => max (maxK ts k) (nth ts k)
def lastOf (n : Net) (l : List Int) : Int := maxK (times n l) n.hs.length

/-! ### The first of which a number is the least -/
def bst {α : Type} (f : α → Int) : α → List α → α
  | b, [] => b
  | b, x :: xs => if f x < f b then bst f x xs else bst f b xs
theorem bst_le {α : Type} (f : α → Int) (b : α) (xs : List α) : f (bst f b xs) ≤ f b ∧ ∀ x ∈ xs, f (bst f b xs) ≤ f x := by
  induction xs generalizing b with
  | nil => exact ⟨Int.le_refl _, fun x hx => by cases hx⟩
  | cons y ys ih =>
    unfold bst
    split
    · obtain ⟨h1, h2⟩ := ih y
      refine ⟨by omega, fun x hx => ?_⟩
      rcases List.mem_cons.1 hx with rfl | hx
      · exact h1
      · exact h2 x hx
    · obtain ⟨h1, h2⟩ := ih b
      refine ⟨h1, fun x hx => ?_⟩
      rcases List.mem_cons.1 hx with rfl | hx
      · omega
      · exact h2 x hx
theorem bst_mem {α : Type} (f : α → Int) (b : α) (xs : List α) : bst f b xs = b ∨ bst f b xs ∈ xs := by
  induction xs generalizing b with
  | nil => exact .inl rfl
  | cons y ys ih =>
    unfold bst
    split
    · rcases ih y with h | h
      · rw [h]; exact .inr (by simp)
      · exact .inr (by simp [h])
    · rcases ih b with h | h
      · exact .inl h
      · exact .inr (by simp [h])
theorem bst_snoc {α : Type} (f : α → Int) (b : α) (xs : List α) (x : α) : bst f b (xs ++ [x]) = if f x < f (bst f b xs) then x else bst f b xs := by
  induction xs generalizing b with
  | nil => rfl
  | cons y ys ih =>
    rw [List.cons_append]
    unfold bst
    split
    · exact ih y
    · exact ih b
/-- The first element of a list of which a number is the least. -/
def least {α : Type} [Inhabited α] (f : α → Int) : List α → α
  | [] => default
  | x :: xs => bst f x xs
theorem least_snoc {α : Type} [Inhabited α] (f : α → Int) {xs : List α} (h : xs ≠ []) (x : α) : least f (xs ++ [x]) = if f x < f (least f xs) then x else least f xs := by
  cases xs with
  | nil => exact absurd rfl h
  | cons y ys => exact bst_snoc f y ys x
theorem least_le {α : Type} [Inhabited α] (f : α → Int) {xs : List α} {x : α} (h : x ∈ xs) : f (least f xs) ≤ f x := by
  cases xs with
  | nil => cases h
  | cons y ys =>
    rcases List.mem_cons.1 h with rfl | h
    · exact (bst_le f x ys).1
    · exact (bst_le f y ys).2 x h
theorem least_mem {α : Type} [Inhabited α] (f : α → Int) {xs : List α} (h : xs ≠ []) : least f xs ∈ xs := by
  cases xs with
  | nil => exact absurd rfl h
  | cons y ys =>
    rcases bst_mem f y ys with e | e
    · show bst f y ys ∈ _; rw [e]; simp
    · exact List.mem_cons_of_mem _ e

/-- An order, and what is lost by a best one. -/
def bestO (n : Net) : List Int := least (worst n) (allO n)
def leastN (n : Net) : Int := worst n (bestO n)
def doneN (n : Net) : Int := lastOf n (least (lastOf n) (allO n))
theorem hasO_ne {n : Net} (h : hasO n = true) : allO n ≠ [] := by
  intro e; unfold hasO at h; rw [e] at h; cases h
theorem leastN_le {n : Net} {l : List Int} (h : isOrd n l = true) : leastN n ≤ worst n l := least_le _ (allO_mem.2 h)
theorem doneN_le {n : Net} {l : List Int} (h : isOrd n l = true) : doneN n ≤ lastOf n l := least_le (lastOf n) (allO_mem.2 h)
theorem bestO_ord {n : Net} (h : hasO n = true) : isOrd n (bestO n) = true := allO_mem.1 (least_mem _ (hasO_ne h))

/-! ### The order that is made hole by hole -/
/-- Of the first k holes, the one that comes next; -1: none. -/
def nextK (n : Net) (done : List Int) : Nat → Int
  | 0 => -1
  | k + 1 => if may n done (k : Int) = true then
      (if nextK n done k < 0 ∨ (nth n.hs k).hi * (nth n.hs (nextK n done k).toNat).hr > (nth n.hs (nextK n done k).toNat).hi * (nth n.hs k).hr then (k : Int) else nextK n done k)
      else nextK n done k
def nextH (n : Net) (done : List Int) : Int := nextK n done n.hs.length
def ruleK (n : Net) : Nat → List Int
  | 0 => []
  | k + 1 => ruleK n k ++ [nextH n (ruleK n k)]
def rule (n : Net) : List Int := ruleK n n.hs.length
def overN (n : Net) : Int := worst n (rule n) - leastN n

/-! ### By how much an order can lose more than another one -/
def rateD (h : Hole) (d : Int) : Int := max (h.lo * d) (h.hi * d)
def regK (hs : List Hole) (own other : List Int) : Nat → Int
  | 0 => 0
  | k + 1 => regK hs own other k + rateD (nth hs k) (nth own k - nth other k)
def reg2 (n : Net) (l o : List Int) : Int := regK n.hs (times n l) (times n o) n.hs.length
/-- The greatest of a number of some, or 0. -/
def maxL {α : Type} (f : α → Int) (xs : List α) : Int := xs.foldl (fun m x => max m (f x)) 0
def regret (n : Net) (l : List Int) : Int := maxL (reg2 n l) (allO n)
def calm (n : Net) : List Int := least (regret n) (allO n)

end Me
end Go.Proofs.Ytbfehifidlojlaa
