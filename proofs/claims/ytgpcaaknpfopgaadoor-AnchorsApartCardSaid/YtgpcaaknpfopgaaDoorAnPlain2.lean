/- The plain words of layer 2: sets of anchors as bits, who drags, and who at last. -/
import Derived.Test.YtgpcaaknpfopgaaDoorAnPlain
namespace Go.Proofs.YtgpcaaknpfopgaaDoor
namespace An

/-- Those that have dragged when those have that bear too much, looked at up to anchor k. -/
def stepTo (n : Net) (t : Tru) (m : Nat) : Nat → Nat
  | 0 => m
  | k + 1 => if m.testBit k = false ∧ spare n t k (fun i => m.testBit i) < 0 then stepTo n t m k ||| 2 ^ k else stepTo n t m k
def stepM (n : Net) (t : Tru) (m : Nat) : Nat := stepTo n t m n.ancs.length
/-- .. as a set. -/
def stepB (n : Net) (t : Tru) (d : Nat → Bool) (i : Nat) : Bool := d i || (decide (i < n.ancs.length) && decide (spare n t i d < 0))

theorem stepTo_bit (n : Net) (t : Tru) (m k i : Nat) : (stepTo n t m k).testBit i = (m.testBit i || (decide (i < k) && decide (spare n t i (fun i => m.testBit i) < 0))) := by
  induction k with
  | zero => simp [stepTo]
  | succ k ih =>
    unfold stepTo
    split
    · rename_i h
      rw [Nat.testBit_or, ih, Nat.testBit_two_pow]
      by_cases hik : k = i
      · subst hik; simp [h.2]
      · have e : decide (i < k + 1) = decide (i < k) := by rw [decide_eq_decide]; omega
        simp [hik, e]
    · rename_i h
      rw [ih]
      by_cases hik : i = k
      · subst hik
        by_cases hb : m.testBit i = true
        · simp [hb]
        · have : ¬ spare n t i (fun i => m.testBit i) < 0 := fun hs => h ⟨by simpa using hb, hs⟩
          simp [this]
      · have e : decide (i < k + 1) = decide (i < k) := by rw [decide_eq_decide]; omega
        simp [e]
theorem stepM_bit (n : Net) (t : Tru) (m i : Nat) : (stepM n t m).testBit i = stepB n t (fun i => m.testBit i) i := stepTo_bit n t m _ i
theorem stepTo_lt (n : Net) (t : Tru) (m k : Nat) (hm : m < 64) (hk : k ≤ 6) : stepTo n t m k < 64 := by
  induction k with
  | zero => simpa [stepTo] using hm
  | succ k ih =>
    have h1 := ih (by omega)
    unfold stepTo
    split
    · exact Nat.or_lt_two_pow (n := 6) h1 (Nat.pow_lt_pow_right (by omega) (by omega))
    · exact h1
theorem le_of_sub {a b : Nat} (h : ∀ i, a.testBit i = true → b.testBit i = true) : a ≤ b := by
  have : a ||| b = b := by
    apply Nat.eq_of_testBit_eq
    intro i
    rw [Nat.testBit_or]
    cases ha : a.testBit i with
    | false => simp
    | true => simp [h i ha]
  rw [← this]
  exact Nat.left_le_or
theorem stepM_ge (n : Net) (t : Tru) (m : Nat) : m ≤ stepM n t m := le_of_sub fun i h => by rw [stepM_bit, stepB, h]; rfl

/-- A set that holds all that drag if it has dragged. -/
def Closed (n : Net) (t : Tru) (S : Nat → Bool) : Prop := ∀ i, stepB n t S i = true → S i = true
/-- Those that have dragged at last: all that are in each closed set that holds the first ones. -/
def lastP (n : Net) (t : Tru) (d : Nat → Bool) (i : Nat) : Prop := ∀ S, Closed n t S → (∀ k, d k = true → S k = true) → S i = true

theorem bears_mono {n : Net} {t : Tru} (h : okTru n t) {d e : Nat → Bool} (hde : ∀ k, d k = true → e k = true) {i : Nat} (hi : i < n.ancs.length) : bears n t i d ≤ bears n t i e := by
  have hw := (valid_iff.1 h.1).2.2.2.2.1
  have hs : ∀ k o, k < n.wals.length → side n t d k o ≤ side n t e k o := by
    intro k o hk
    have := ld_bd h hk
    unfold side
    by_cases hd : d o = true
    · rw [hd, hde o hd]; omega
    · rw [Bool.not_eq_true] at hd; rw [hd]; simp only [Bool.false_eq_true, if_false]; split <;> omega
  unfold bears
  by_cases h1 : 0 < i
  · have a := hs (i - 1) (i - 1) (by omega)
    by_cases h2 : i < n.wals.length
    · have b := hs i (i + 1) h2
      simp only [h1, h2, if_true]; omega
    · simp only [h1, h2, if_true, if_false]; omega
  · by_cases h2 : i < n.wals.length
    · have b := hs i (i + 1) h2
      simp only [h1, h2, if_true, if_false]; omega
    · simp only [h1, h2, if_false]; omega
theorem stepB_mono {n : Net} {t : Tru} (h : okTru n t) {d e : Nat → Bool} (hde : ∀ k, d k = true → e k = true) {i : Nat} (hi : stepB n t d i = true) : stepB n t e i = true := by
  unfold stepB at *
  rw [Bool.or_eq_true] at *
  rcases hi with hi | hi
  · exact .inl (hde i hi)
  · right
    simp only [Bool.and_eq_true, decide_eq_true_eq] at *
    have := bears_mono h hde hi.1
    refine ⟨hi.1, ?_⟩
    unfold spare at *
    omega
/-- A set on the way to the last one. -/
def OnWay (n : Net) (t : Tru) (m0 m : Nat) : Prop := (∀ i, m0.testBit i = true → m.testBit i = true) ∧ ∀ S, Closed n t S → (∀ k, m0.testBit k = true → S k = true) → ∀ i, m.testBit i = true → S i = true
theorem OnWay.start (n : Net) (t : Tru) (m : Nat) : OnWay n t m m := ⟨fun _ h => h, fun _ _ h i hi => h i hi⟩
theorem OnWay.step {n : Net} {t : Tru} {m0 m : Nat} (ht : okTru n t) (h : OnWay n t m0 m) : OnWay n t m0 (stepM n t m) :=
  ⟨fun i hi => by rw [stepM_bit, stepB, h.1 i hi]; rfl, fun S hS hm i hi => hS i (stepB_mono ht (fun k hk => h.2 S hS hm k hk) (by rw [stepM_bit] at hi; exact hi))⟩
theorem OnWay.last {n : Net} {t : Tru} {m0 m : Nat} (h : OnWay n t m0 m) (hf : stepM n t m = m) (i : Nat) : m.testBit i = true ↔ lastP n t (fun i => m0.testBit i) i :=
  ⟨fun hi S hS hm => h.2 S hS hm i hi, fun hl => hl (fun i => m.testBit i) (fun k hk => by rw [← stepM_bit, hf] at hk; exact hk) h.1⟩

/-- The lowest anchor of a set that is not empty. -/
def tzN (s : Nat) : Nat := if s.testBit 0 then 0 else if s.testBit 1 then 1 else if s.testBit 2 then 2 else if s.testBit 3 then 3 else if s.testBit 4 then 4 else 5
/-- All anchors of a set. -/
def listM (s : Nat) : List Int := ((List.range 6).filter fun i => s.testBit i).map fun (i : Nat) => (i : Int)
theorem listM_zero : listM 0 = [] := by decide
theorem listM_step : ∀ s : Fin 64, s.val ≠ 0 → listM s.val = (tzN s.val : Int) :: listM (s.val &&& (s.val - 1)) ∧ s.val &&& (s.val - 1) < s.val ∧ tzN s.val < 6 := by decide +kernel
theorem listM_mem {s i : Nat} (hs : s < 64) : (i : Int) ∈ listM s ↔ s.testBit i = true := by
  unfold listM
  simp only [List.mem_map, List.mem_filter, List.mem_range]
  constructor
  · rintro ⟨k, ⟨_, h⟩, hk⟩
    have : k = i := by omega
    rwa [← this]
  · intro h
    refine ⟨i, ⟨?_, h⟩, rfl⟩
    rcases Nat.lt_or_ge i 6 with h6 | h6
    · exact h6
    · have := Nat.testBit_lt_two_pow (Nat.lt_of_lt_of_le hs (show 64 ≤ 2 ^ i from Nat.pow_le_pow_right (n := 2) (by omega) h6))
      rw [this] at h; cases h

end An

/-! The plain words of layer 2: sets of anchors as ascending lists. -/
namespace An

/-- All numbers below m of a set, as a list. -/
def rangeL (m : Nat) (d : Nat → Bool) : List Int := ((List.range m).filter d).map fun (i : Nat) => (i : Int)
theorem rangeL_zero (d : Nat → Bool) : rangeL 0 d = [] := rfl
theorem rangeL_succ (m : Nat) (d : Nat → Bool) : rangeL (m + 1) d = rangeL m d ++ (if d m = true then [(m : Int)] else []) := by
  unfold rangeL
  rw [List.range_succ, List.filter_append, List.map_append]
  congr 1
  by_cases h : d m = true <;> simp [h]
theorem mem_rangeL {m : Nat} {d : Nat → Bool} {k : Nat} : (k : Int) ∈ rangeL m d ↔ k < m ∧ d k = true := by
  unfold rangeL
  simp only [List.mem_map, List.mem_filter, List.mem_range]
  constructor
  · rintro ⟨j, h, hj⟩
    have : j = k := by omega
    rwa [← this]
  · intro h; exact ⟨k, h, rfl⟩
theorem rangeL_len (m : Nat) (d : Nat → Bool) : (rangeL m d).length ≤ m := by
  unfold rangeL
  rw [List.length_map]
  have := List.length_filter_le d (List.range m)
  simpa using this
theorem rangeL_congr {m : Nat} {d e : Nat → Bool} (h : ∀ k, k < m → d k = e k) : rangeL m d = rangeL m e := by
  unfold rangeL
  rw [List.filter_congr (fun k hk => h k (by simpa using hk))]
theorem rangeL_mono {m : Nat} {d e : Nat → Bool} (h : ∀ k, k < m → d k = true → e k = true) : (rangeL m d).length ≤ (rangeL m e).length ∧ ((rangeL m d).length = (rangeL m e).length → ∀ k, k < m → d k = e k) := by
  induction m with
  | zero => exact ⟨by simp [rangeL], fun _ k hk => by omega⟩
  | succ m ih =>
    obtain ⟨i1, i2⟩ := ih (fun k hk => h k (by omega))
    rw [rangeL_succ, rangeL_succ, List.length_append, List.length_append]
    have hm := h m (by omega)
    by_cases hd : d m = true
    · rw [if_pos hd, if_pos (hm hd)]
      refine ⟨by simpa using i1, fun he k hk => ?_⟩
      by_cases hkm : k = m
      · subst hkm; rw [hd, hm hd]
      · exact i2 (by simpa using he) k (by omega)
    · rw [if_neg hd]
      by_cases he : e m = true
      · rw [if_pos he]
        refine ⟨by simp; omega, fun hq => ?_⟩
        simp at hq; omega
      · rw [if_neg he]
        refine ⟨by simpa using i1, fun hq k hk => ?_⟩
        by_cases hkm : k = m
        · subst hkm; rw [Bool.not_eq_true] at hd he; rw [hd, he]
        · exact i2 (by simpa using hq) k (by omega)

theorem lastP_step {n : Net} {t : Tru} (ht : okTru n t) (d : Nat → Bool) (i : Nat) : lastP n t (stepB n t d) i ↔ lastP n t d i := by
  constructor
  · intro h S hS hd
    exact h S hS fun k hk => hS k (stepB_mono ht hd hk)
  · intro h S hS hd
    exact h S hS fun k hk => hd k (by unfold stepB; rw [hk]; rfl)
theorem lastP_fix {n : Net} {t : Tru} {d : Nat → Bool} (h : ∀ i, stepB n t d i = d i) (i : Nat) : lastP n t d i ↔ d i = true :=
  ⟨fun hl => hl d (fun k hk => by rw [h] at hk; exact hk) fun _ hk => hk, fun hd _ _ hs => hs i hd⟩

theorem bears_congr {n : Net} {t : Tru} {d e : Nat → Bool} (hw : n.wals.length = n.ancs.length - 1) (h : ∀ k, k < n.ancs.length → d k = e k) {i : Nat} (hi : i < n.ancs.length) : bears n t i d = bears n t i e := by
  unfold bears side
  congr 1
  · by_cases h0 : 0 < i
    · rw [if_pos h0, if_pos h0, h (i - 1) (by omega)]
    · rw [if_neg h0, if_neg h0]
  · by_cases h0 : i < n.wals.length
    · rw [if_pos h0, if_pos h0, h (i + 1) (by omega)]
    · rw [if_neg h0, if_neg h0]
theorem stepB_congr {n : Net} {t : Tru} {d e : Nat → Bool} (hw : n.wals.length = n.ancs.length - 1) (h : ∀ k, k < n.ancs.length → d k = e k) {i : Nat} (hi : i < n.ancs.length) : stepB n t d i = stepB n t e i := by
  unfold stepB spare
  rw [h i hi, bears_congr hw h hi]

end An
end Go.Proofs.YtgpcaaknpfopgaaDoor
