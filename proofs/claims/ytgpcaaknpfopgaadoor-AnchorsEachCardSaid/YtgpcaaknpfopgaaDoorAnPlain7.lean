/- The plain words of layer 2: what is pulled, and the key. -/
import Derived.Test.YtgpcaaknpfopgaaDoorAn32
namespace Go.Proofs.YtgpcaaknpfopgaaDoor
namespace An

def single (i : Nat) (k : Nat) : Bool := decide (k = i)
noncomputable def pulL (n : Net) (t : Tru) (i : Nat) : List Int := atL n t (single i)
noncomputable def pulledV (n : Net) (t : Tru) (i : Int) : List Int := if valid n && (truB n t && inB 0 ((n.ancs.length : Int) - 1) i) then pulL n t i.toNat else []
theorem range_six {m : Nat} (h6 : m ≤ 6) {d : Nat → Bool} (hd : ∀ k, d k = true → k < m) : rangeL 6 d = rangeL m d := by
  have key : ∀ j, rangeL (m + j) d = rangeL m d := by
    intro j
    induction j with
    | zero => rfl
    | succ j ih =>
      rw [← Nat.add_assoc, rangeL_succ, ih, if_neg (fun h => by have := hd _ h; omega), List.append_nil]
  have := key (6 - m)
  rwa [show m + (6 - m) = 6 by omega] at this
theorem single_lt {i m : Nat} (hi : i < m) : ∀ k, single i k = true → k < m := fun k hk => by simp [single] at hk; omega
theorem single_range {i m : Nat} (hi : i < m) : rangeL m (single i) = [(i : Int)] := by
  induction m with
  | zero => omega
  | succ m ih =>
    rw [rangeL_succ]
    by_cases h : i = m
    · subst h
      have : rangeL i (single i) = [] := by
        unfold rangeL
        rw [List.map_eq_nil_iff, List.filter_eq_nil_iff]
        intro k hk
        have : k < i := by simpa using hk
        simp [single]; omega
      rw [this, if_pos (by simp [single])]; rfl
    · rw [ih (by omega), if_neg (by simp [single]; omega), List.append_nil]
theorem bit_single (i : Nat) : (fun k => (2 ^ i : Nat).testBit k) = single i := by
  funext k
  rw [Nat.testBit_two_pow, single, decide_eq_decide]
  exact eq_comm
theorem listM_last {n : Net} {t : Tru} {d : Nat → Bool} (h6 : n.ancs.length ≤ 6) (hd : ∀ k, d k = true → k < n.ancs.length) {m : Nat} (hl : ∀ i, m.testBit i = true ↔ lastP n t d i) : listM m = atL n t d := by
  have e : (fun i => m.testBit i) = lastB n t d := funext fun i => bit_last (hl i)
  show rangeL 6 (fun i => m.testBit i) = rangeL n.ancs.length (lastB n t d)
  rw [e]
  exact range_six h6 fun k hk => last_lt hd hk
theorem firstV_eq {n : Net} {t : Tru} (hv : valid n = true) (ht : truB n t = true) : firstV n t = moreV n t [] n.ancs.length := by
  unfold firstV
  rw [if_pos (by rw [hv, ht]; rfl)]
  have h6 := (valid_iff.1 hv).2.2.2.1
  have e0 : inL [] = fun _ => false := by funext k; simp [inL, isIn]
  have e : (fun i => (stepM n t 0).testBit i) = stepB n t (inL []) := by
    funext i
    rw [stepM_bit, e0]
    congr 1
    exact funext fun i => Nat.zero_testBit i
  show rangeL 6 (fun i => (stepM n t 0).testBit i) = rangeL n.ancs.length (stepB n t (inL []))
  rw [e]
  exact range_six h6 (stepB_lt (by rw [e0]; intro k hk; cases hk))
theorem dragsV_at {n : Net} {t : Tru} (hv : valid n = true) (ht : truB n t = true) : dragsV n t = atL n t (fun _ => false) := by
  rw [dragsV_eq hv ht]
  show rangeL 6 (dragB n t) = rangeL n.ancs.length (dragB n t)
  exact range_six (valid_iff.1 hv).2.2.2.1 fun k hk => drag_lt hk
theorem pulL_pos {n : Net} {t : Tru} {i : Nat} (hi : i < n.ancs.length) : 0 < (pulL n t i).length := by
  have : (i : Int) ∈ pulL n t i := by
    unfold pulL atL
    rw [mem_rangeL]
    exact ⟨hi, last_sub (by simp [single])⟩
  exact List.length_pos_of_mem this
theorem pulL_le (n : Net) (t : Tru) (i : Nat) : (pulL n t i).length ≤ n.ancs.length := rangeL_len _ _
/-- The anchor that pulls the most, of the first k. -/
noncomputable def keyTo (n : Net) (t : Tru) : Nat → Nat
  | 0 => 0
  | k + 1 => if (pulL n t (keyTo n t k)).length < (pulL n t k).length then k else keyTo n t k
theorem keyTo_lt (n : Net) (t : Tru) {k m : Nat} (h : k ≤ m) (h0 : 0 < m) : keyTo n t k < m := by
  induction k with
  | zero => exact h0
  | succ k ih => unfold keyTo; split <;> first | omega | exact ih (by omega)
noncomputable def keyV (n : Net) (t : Tru) : Int := if valid n && truB n t then keyTo n t n.ancs.length else 0
def keyE (n : Net) (t : Tru) : Int := if valid n then (if truB n t then (if n.ancs.length = 0 then 3 else 0) else 1) else 20
/-- How many the key of the first k pulls; 0 of none. -/
noncomputable def mostTo (n : Net) (t : Tru) : Nat → Nat
  | 0 => 0
  | k + 1 => (pulL n t (keyTo n t (k + 1))).length
theorem key_step {n : Net} {t : Tru} {k : Nat} (hk : k < n.ancs.length) : (mostTo n t k < (pulL n t k).length → keyTo n t (k + 1) = k ∧ mostTo n t (k + 1) = (pulL n t k).length) ∧ (¬ mostTo n t k < (pulL n t k).length → keyTo n t (k + 1) = keyTo n t k ∧ mostTo n t (k + 1) = mostTo n t k) := by
  cases k with
  | zero =>
    have hp := pulL_pos (t := t) hk
    have e : keyTo n t 1 = 0 := by unfold keyTo; split <;> rfl
    refine ⟨fun _ => ⟨e, by show (pulL n t (keyTo n t 1)).length = _; rw [e]⟩, fun h => absurd hp h⟩
  | succ k =>
    constructor
    · intro h
      have h' : (pulL n t (keyTo n t (k + 1))).length < (pulL n t (k + 1)).length := h
      have e : keyTo n t (k + 1 + 1) = k + 1 := by rw [keyTo]; exact if_pos h'
      exact ⟨e, by show (pulL n t (keyTo n t (k + 1 + 1))).length = _; rw [e]⟩
    · intro h
      have h' : ¬ (pulL n t (keyTo n t (k + 1))).length < (pulL n t (k + 1)).length := h
      have e : keyTo n t (k + 1 + 1) = keyTo n t (k + 1) := by rw [keyTo]; exact if_neg h'
      exact ⟨e, by show (pulL n t (keyTo n t (k + 1 + 1))).length = _; rw [e]; rfl⟩

end An
end Go.Proofs.YtgpcaaknpfopgaaDoor
