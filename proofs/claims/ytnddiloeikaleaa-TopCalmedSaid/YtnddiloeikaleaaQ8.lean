/- Towards the claim of XLawCalmed: Layer 2: walks of what the laws ask: Rising, isPart, CopyTruth, IsTruth, ready, given, drags. The plain words of layer 2: lists of those that drag; calmer and harder truths. Layer 2: small walks of the reference: IsAnchor, IsWall, IsForce, ask, SpareOf; of the program: Load. Layer 2: the walk of AtLast of the reference. The plain words of layer 2: what is pulled, and the key. The plain words of layer 2: a net in which an anchor is heavier. The plain words of layer 2: what Help chooses; nets with the weights of Need. The plain law of the calm sky: when a sky is calm, what heavier anchors do, wh -/
import Derived.Test.YtnddiloeikaleaaQ7
import Derived.Outline
import Derived.Test.YtnddiloeikaleaaQ5
import Derived.Test.YtnddiloeikaleaaQ2
namespace Go.Proofs.Ytnddiloeikaleaa
open Go.RowKit
open An

/-- Numbers strictly ascending, each from low to high. -/
def Rises (xs : List Int) (lo hi : Int) : Prop := ∀ k, k < xs.length → (lo ≤ nth xs k ∧ nth xs k ≤ hi) ∧ (0 < k → nth xs (k - 1) < nth xs k)

theorem within_is {n low high : Int} {b : Bool} (hb : inB low high n = b) (w : World) :
    Calls Try.prog 14 #[.int .i64 n, .int .i64 low, .int .i64 high] w fun e w' => e = .returned (.bool b) ∧ w = w' := by
  subst hb; exact within_c n low high w

theorem within2_is {n low high : Int} {b : Bool} (hb : inB low high n = b) (w : World) :
    Calls Try.prog 40 #[.int .i64 n, .int .i64 low, .int .i64 high] w fun e w' => e = .returned (.bool b) ∧ w = w' := by
  subst hb; exact within2_c n low high w

set_option maxRecDepth 100000 in
set_option maxHeartbeats 4000000 in
theorem rising_c (A : Option Addr) (c : Nat) (xs : List Int) (lo hi : Int) (B : Nat) (w : World) [hB : Le B w] (h : Sl encI B w A c xs) (hr : Rises xs lo hi) (ln : Nat) (hn : xs.length = ln) :
    Calls Try.prog 43 #[.slice A ln c, .int .i64 lo, .int .i64 hi] w fun e w' => e = .returned (.bool true) ∧ ∃ δ, w' = lat w δ := by
  subst hn
  have hl := h.len
  have HR := Lib.hid hr
  clear hr
  go_enter Try.func43, Try.ntmps43
  go_wp2_with (fail)
  go_loopg [7] xs.length (fun g i wr => ∃ (k : Nat) (δ : World), k ≤ xs.length ∧ g = xs.length - k ∧ i = .int .i64 k ∧ wr = lat w δ)
  case atStart => exact ⟨0, w, Nat.zero_le _, rfl, rfl, (lat_refl w).symm⟩
  case round =>
    obtain ⟨k, δ, hk, rfl, rfl, rfl⟩ := hrel
    by_cases hlt : k < xs.length
    · obtain ⟨b, o, rfl, hb, d0⟩ := h.int hlt
      have ib : Lt b w := ⟨Nat.lt_of_lt_of_le hb hB.out⟩
      have hq := HR.out k hlt
      have HW := Lib.hid (show inB lo hi (nth xs k) = true from inB_iff.2 hq.1)
      have HL := Lib.hid hq.2
      clear hq
      have hki : (k : Int) < (xs.length : Int) := by omega
      have hk0 : ¬ (k : Int) < 0 := by omega
      rcases Nat.eq_zero_or_pos k with h0 | h0
      · subst h0
        rw [Nat.add_zero] at d0
        go_wp2_with (fail)
        refine wp_region_lat (by kernel_rfl) (by kernel_rfl) ?_
        repeat (go_big_quiet_step ((first | (go_at_call 14; exact Calls.lat_same (within_is HW.out _)))))
        refine wpQuiet_nil ?_
        rintro _ ⟨δq, rfl⟩
        go_wp2_with (fail)
        go_roundg (xs.length - 1)
        case measure => omega
        case rel => exact ⟨1, _, by omega, rfl, by go_num, lat_def⟩
      · obtain ⟨j, rfl⟩ : ∃ j, k = j + 1 := ⟨k - 1, by omega⟩
        obtain ⟨b', o', hA', hb', d1⟩ := h.int (show j < xs.length by omega)
        injection hA' with hA'
        injection hA' with hA1 hA2
        subst hA1 hA2
        have hlt2 : ¬ nth xs (j + 1) ≤ nth xs j := by have := HL.out (by omega); rw [Nat.add_sub_cancel] at this; omega
        have hdn : decide (nth xs (j + 1) ≤ nth xs j) = false := by simpa using hlt2
        have hj0 : ¬ ((j : Int) < 0) := by omega
        have hj1 : (j : Int) < (xs.length : Int) := by omega
        go_wp2_with (fail)
        refine wp_region_lat (by kernel_rfl) (by kernel_rfl) ?_
        repeat (go_big_quiet_step ((first | (go_at_call 14; exact Calls.lat_same (within_is HW.out _)))))
        refine wpQuiet_nil ?_
        rintro _ ⟨δq, rfl⟩
        go_wp2_with (fail)
        go_roundg (xs.length - (j + 1 + 1))
        case measure => omega
        case rel => exact ⟨j + 1 + 1, _, by omega, rfl, by go_num, lat_def⟩
    · obtain rfl : k = xs.length := by omega
      go_wp2_with (fail)
      go_ret
      exact ⟨rfl, lat_ex⟩

/-- All numbers of a list are in another one. -/
def Part (xs ys : List Int) : Prop := ∀ k, k < xs.length → isIn ys (nth xs k) = true

def ReadyPost (n : Net) (w : World) (e : Ending) (w' : World) : Prop := ∃ b, e = .returned (.bool b) ∧ (b = true → valid n = true ∧ hugeV n ⟨0, 0, []⟩ = false) ∧ ∃ δ, w' = lat w δ

def GivenPost (n : Net) (t : Tru) (w : World) (e : Ending) (w' : World) : Prop := ∃ b, e = .returned (.bool b) ∧ (b = true → valid n = true ∧ hugeV n ⟨0, 0, []⟩ = false ∧ truB n t = true) ∧ ∃ δ, w' = lat w δ

end Go.Proofs.Ytnddiloeikaleaa
namespace Go.Proofs.Ytnddiloeikaleaa
namespace An

theorem rises_of {xs : List Int} {lo hi : Int} (hp : xs.Pairwise (· < ·)) (hb : ∀ x ∈ xs, lo ≤ x ∧ x ≤ hi) : Rises xs lo hi := by
  intro k hk
  refine ⟨hb _ (nth_mem _ hk), fun h0 => ?_⟩
  rw [nth_get _ hk, nth_get _ (show k - 1 < xs.length by omega)]
  exact List.pairwise_iff_getElem.1 hp _ _ _ _ (by omega)
theorem listB_pw (d : Nat → Bool) : (listB d).Pairwise (· < ·) := by
  unfold listB
  rw [List.pairwise_map]
  refine List.Pairwise.filter _ ?_
  exact List.Pairwise.imp (fun h => by omega) List.pairwise_lt_range
theorem mem_listB {d : Nat → Bool} {x : Int} : x ∈ listB d ↔ ∃ i : Nat, i < 6 ∧ d i = true ∧ x = i := by
  unfold listB
  simp only [List.mem_map, List.mem_filter, List.mem_range]
  constructor
  · rintro ⟨i, ⟨h1, h2⟩, rfl⟩; exact ⟨i, h1, h2, rfl⟩
  · rintro ⟨i, h1, h2, rfl⟩; exact ⟨i, ⟨h1, h2⟩, rfl⟩
theorem isIn_iff {xs : List Int} {x : Int} : isIn xs x = true ↔ x ∈ xs := by simp [isIn]
theorem part_of {xs ys : List Int} (h : ∀ x ∈ xs, x ∈ ys) : Part xs ys := fun _ hk => isIn_iff.2 (h _ (nth_mem _ hk))

theorem lastB_iff {n : Net} {t : Tru} {d : Nat → Bool} {i : Nat} : lastB n t d i = true ↔ lastP n t d i := by simp [lastB]
theorem last_lt {n : Net} {t : Tru} {d : Nat → Bool} (hd : ∀ k, d k = true → k < n.ancs.length) {i : Nat} (h : lastB n t d i = true) : i < n.ancs.length := by
  have := lastB_iff.1 h (fun k => decide (k < n.ancs.length)) (fun k hk => by
    unfold stepB at hk
    simp only [Bool.or_eq_true, Bool.and_eq_true, decide_eq_true_eq] at hk ⊢
    rcases hk with h1 | h1
    · exact h1
    · exact h1.1) (fun k hk => by simpa using hd k hk)
  simpa using this
theorem last_sub {n : Net} {t : Tru} {d : Nat → Bool} {i : Nat} (h : d i = true) : lastB n t d i = true := lastB_iff.2 fun _ _ hs => hs i h
theorem last_closed {n : Net} {t : Tru} (ht : okTru n t) (d : Nat → Bool) {i : Nat} (h : stepB n t (lastB n t d) i = true) : lastB n t d i = true := by
  refine lastB_iff.2 fun S hS hd => hS i (stepB_mono ht (fun k hk => lastB_iff.1 hk S hS hd) h)
theorem last_mono {n : Net} {t : Tru} {d e : Nat → Bool} (h : ∀ k, d k = true → e k = true) {i : Nat} (hi : lastB n t d i = true) : lastB n t e i = true :=
  lastB_iff.2 fun S hS he => lastB_iff.1 hi S hS fun k hk => he k (h k hk)
theorem step_harder {n : Net} {t t' : Tru} (hv : valid n = true) (h : Harder n t t') {d : Nat → Bool} {i : Nat} (hi : stepB n t d i = true) : stepB n t' d i = true := by
  unfold stepB at *
  simp only [Bool.or_eq_true, Bool.and_eq_true, decide_eq_true_eq] at hi ⊢
  rcases hi with h1 | ⟨h1, h2⟩
  · exact .inl h1
  · exact .inr ⟨h1, Int.lt_of_le_of_lt (spare_harder hv h h1) h2⟩
theorem last_harder {n : Net} {t t' : Tru} (hv : valid n = true) (h : Harder n t t') {d : Nat → Bool} {i : Nat} (hi : lastB n t d i = true) : lastB n t' d i = true :=
  lastB_iff.2 fun S hS hd => lastB_iff.1 hi S (fun k hk => hS k (step_harder hv h hk)) hd

/-- Those that drag at last in a truth. -/
noncomputable def dragB (n : Net) (t : Tru) : Nat → Bool := lastB n t fun _ => false
theorem dragsV_eq {n : Net} {t : Tru} (hv : valid n = true) (ht : truB n t = true) : dragsV n t = listB (dragB n t) := by
  unfold dragsV; rw [if_pos (by rw [hv, ht]; rfl)]; rfl
theorem drag_lt {n : Net} {t : Tru} {i : Nat} (h : dragB n t i = true) : i < n.ancs.length := last_lt (fun _ hk => by cases hk) h
theorem drags_rises {n : Net} {t : Tru} (hv : valid n = true) (ht : truB n t = true) : Rises (dragsV n t) 0 ((n.ancs.length : Int) - 1) := by
  rw [dragsV_eq hv ht]
  refine rises_of (listB_pw _) fun x hx => ?_
  obtain ⟨i, _, h2, rfl⟩ := mem_listB.1 hx
  have := drag_lt h2
  omega
theorem drags_part {n : Net} {t t' : Tru} (hv : valid n = true) (ht : truB n t = true) (ht' : truB n t' = true) (h : Harder n t t') : Part (dragsV n t) (dragsV n t') := by
  rw [dragsV_eq hv ht, dragsV_eq hv ht']
  refine part_of fun x hx => ?_
  obtain ⟨i, h1, h2, rfl⟩ := mem_listB.1 hx
  exact mem_listB.2 ⟨i, h1, last_harder hv h h2, rfl⟩
theorem drag_calm {n : Net} {t : Tru} (h : calmP n t) (i : Nat) : dragB n t i = false := by
  rw [← Bool.not_eq_true]
  intro hd
  have := lastB_iff.1 hd (fun _ => false) (fun k hk => by
    unfold stepB at hk
    simp only [Bool.false_or, Bool.and_eq_true, decide_eq_true_eq] at hk
    have := h k hk.1
    omega) (fun _ hk => by cases hk)
  cases this
theorem drag_first {n : Net} {t : Tru} (ht : okTru n t) {i : Nat} (hi : i < n.ancs.length) (h : spare n t i (fun _ => false) < 0) : dragB n t i = true :=
  last_closed ht _ (stepB_mono ht (d := fun _ => false) (fun k hk => by cases hk) (by unfold stepB; simp [hi, h]))
theorem drags_nil {n : Net} {t : Tru} (hv : valid n = true) (ht : truB n t = true) : dragsV n t = [] ↔ calmP n t := by
  rw [dragsV_eq hv ht]
  constructor
  · intro h i hi
    by_cases hs : 0 ≤ spare n t i (fun _ => false)
    · exact hs
    · exfalso
      have h6 := (valid_iff.1 hv).2.2.2.1
      have : (i : Int) ∈ listB (dragB n t) := mem_listB.2 ⟨i, by omega, drag_first (okTru_of hv ht) hi (by omega), rfl⟩
      rw [h] at this
      simp at this
  · intro h
    apply List.eq_nil_iff_forall_not_mem.2
    intro x hx
    obtain ⟨i, _, h2, _⟩ := mem_listB.1 hx
    rw [drag_calm h] at h2
    cases h2

/-! ### The calmer day -/
/-- A truth in the wind of another net of the same kind. -/
theorem hitW_iff {n : Net} {x : Nat} : hitW n x = true ↔ ¬ calmP (inW n x) (worstT (inW n x)) := by unfold hitW; rw [decide_eq_true_eq, Ne, step0_iff]
theorem hitS_iff {n : Net} {x : Nat} : hitS n x = true ↔ ¬ calmP (inW n x) (bestT (inW n x)) := by unfold hitS; rw [decide_eq_true_eq, Ne, step0_iff]
theorem spare_inW (n : Net) (x : Int) (t : Tru) (i : Nat) (d : Nat → Bool) : spare (inW n x) t i d = spare n t i d := rfl
theorem calm_inW (n : Net) (x : Int) (t : Tru) : calmP (inW n x) t ↔ calmP n t := Iff.rfl
theorem harder_ww {n : Net} (_hv : valid n = true) {x y : Int} (h : x ≤ y) : Harder n (worstT (inW n x)) (worstT (inW n y)) := ⟨h, Int.le_refl _, fun _ _ => Int.le_refl _⟩
theorem harder_bw {n : Net} (hv : valid n = true) (x : Int) : Harder n (bestT (inW n x)) (worstT (inW n x)) := by
  obtain ⟨h1, h2, _, _, _, h6, _, _⟩ := valid_iff.1 hv
  simp only [okSp, decide_eq_true_eq] at h1 h2
  refine ⟨Int.le_refl _, by simp only [bestT, worstT, inW]; omega, fun b hb => ?_⟩
  have hg := (List.all_eq_true.1 (by unfold okSps at h6; exact h6)) _ (nth_mem n.grips hb)
  simp only [okSp, decide_eq_true_eq] at hg
  simp only [bestT, worstT, inW]
  rw [nth_map _ _ hb, nth_map _ _ hb]
  omega
/-- A truth of a net is between the best and the worst one in a wind that is below, or above, its own. -/
theorem harder_to {n : Net} {t : Tru} (ht : truB n t = true) {x : Int} (h : t.wind ≤ x) : Harder n t (worstT (inW n x)) := by
  simp only [truB, Bool.and_eq_true, decide_eq_true_eq, inSp, inB_iff] at ht
  refine ⟨h, by simp only [worstT, inW]; omega, fun b hb => ?_⟩
  have hg := gripsIn_le ht.2 (k := b) (by omega)
  rw [inSp, inB_iff] at hg
  simp only [worstT, inW]
  rw [nth_map _ _ hb]
  omega
theorem harder_from {n : Net} {t : Tru} (ht : truB n t = true) {x : Int} (h : x ≤ t.wind) : Harder n (bestT (inW n x)) t := by
  simp only [truB, Bool.and_eq_true, decide_eq_true_eq, inSp, inB_iff] at ht
  refine ⟨h, by simp only [bestT, inW]; omega, fun b hb => ?_⟩
  have hg := gripsIn_le ht.2 (k := b) (by omega)
  rw [inSp, inB_iff] at hg
  simp only [bestT, inW]
  rw [nth_map _ _ hb]
  omega
theorem hitS_W {n : Net} (hv : valid n = true) {x : Nat} (h : hitS n x = true) : hitW n x = true := by
  rw [hitW_iff]
  rw [hitS_iff] at h
  exact fun hc => h ((calm_inW _ _ _).2 (calmP_mono hv (harder_bw hv x) ((calm_inW _ _ _).1 hc)))
/-- The least wind in which something may drag, and in which something must; 21: there is none. -/
def wN (n : Net) : Nat := firstHit (hitW n) 21 0
def sN (n : Net) : Nat := firstHit (hitS n) 21 0
theorem wN_le (n : Net) : wN n ≤ 21 := firstHit_le _ _
theorem sN_le (n : Net) : sN n ≤ 21 := firstHit_le _ _
theorem wN_sN {n : Net} (hv : valid n = true) : wN n ≤ sN n := by
  obtain ⟨_, b, _, d⟩ := firstHit_spec (hitS n) 21 0
  obtain ⟨_, b', c', _⟩ := firstHit_spec (hitW n) 21 0
  unfold wN sN
  rcases Nat.lt_or_ge (firstHit (hitS n) 21 0) (firstHit (hitW n) 21 0) with h | h
  · have h1 := hitS_W hv (d (by omega))
    rw [c' _ (Nat.zero_le _) h] at h1
    cases h1
  · exact h
/-- In a wind that is less than Wind nothing drags. -/
theorem calm_below {n : Net} (hv : valid n = true) {t : Tru} (ht : truB n t = true) (h : t.wind < wN n) : calmP n t := by
  have ht' := ht
  simp only [truB, Bool.and_eq_true, decide_eq_true_eq, inSp, inB_iff] at ht'
  obtain ⟨h1, _⟩ := valid_iff.1 hv
  simp only [okSp, decide_eq_true_eq] at h1
  obtain ⟨k, hk⟩ := Int.eq_ofNat_of_zero_le (show 0 ≤ t.wind by omega)
  obtain ⟨_, _, c, _⟩ := firstHit_spec (hitW n) 21 0
  have := c k (Nat.zero_le _) (by unfold wN at h; omega)
  rw [← Bool.not_eq_true, hitW_iff] at this
  have hc : calmP (inW n k) (worstT (inW n k)) := Classical.not_not.1 this
  exact calmP_mono hv (harder_to ht (show t.wind ≤ (k : Int) by omega)) hc
/-- In a wind that is at least Storm something does. -/
theorem drag_above {n : Net} (hv : valid n = true) {t : Tru} (ht : truB n t = true) (hs : sN n < 21) (h : (sN n : Int) ≤ t.wind) : ¬ calmP n t := by
  obtain ⟨_, _, _, d⟩ := firstHit_spec (hitS n) 21 0
  have := d (by unfold sN at hs; omega)
  rw [hitS_iff] at this
  intro hc
  exact this ((calm_inW _ _ _).2 (calmP_mono hv (harder_from ht h) hc))
end An
end Go.Proofs.Ytnddiloeikaleaa
namespace Go.Proofs.Ytnddiloeikaleaa
open Go.RowKit
open An

/-! ### Load -/
def loadV (n : Net) (wall wi cu : Int) : Int := if valid n && (inB 0 (n.wals.length - 1) wall && inB 0 20 wi && inB 0 20 cu) then ldW (nth n.wals wall.toNat) wi cu else 0

theorem allB2 (a b : Int) : allB 20 [a, b] = (inB 0 20 a && inB 0 20 b) := by simp [allB]
theorem insideF_c {wi cu : Int} {b2 : Bool} (h : (inB 0 20 wi && inB 0 20 cu) = b2) {g : Nat} {W : World} {T : TypeId} (hg : g = W.heap.size) :
    Calls Try.prog 56 #[.int .i64 20, .slice (some ⟨g, 0, none⟩) 2 2] (W.alloc (.cells #[.int .i64 wi, .int .i64 cu] T)) fun e w' => e = .returned (.bool b2) ∧ ∃ δ, w' = lat (W.alloc (.cells #[.int .i64 wi, .int .i64 cu] T)) δ := by
  have := insideL_c 20 g 2 #[.int .i64 wi, .int .i64 cu] T W hg rfl (by omega) rfl
  rw [show (#[Value.int .i64 wi, Value.int .i64 cu] : Array Value).toList.map intOf = [wi, cu] from rfl, allB2, h] at this
  exact this

end Go.Proofs.Ytnddiloeikaleaa
namespace Go.Proofs.Ytnddiloeikaleaa
open Go.RowKit
open An

namespace An
theorem inL_range {m : Nat} {d : Nat → Bool} (hd : ∀ k, d k = true → k < m) : inL (rangeL m d) = d := by
  funext k
  unfold inL
  rw [Bool.eq_iff_iff, isIn_iff, mem_rangeL]
  exact ⟨fun h => h.2, fun h => ⟨hd k h, h⟩⟩
theorem stepB_lt {n : Net} {t : Tru} {d : Nat → Bool} (hd : ∀ k, d k = true → k < n.ancs.length) : ∀ k, stepB n t d k = true → k < n.ancs.length := by
  intro k hk
  unfold stepB at hk
  simp only [Bool.or_eq_true, Bool.and_eq_true, decide_eq_true_eq] at hk
  rcases hk with h | h
  · exact hd k h
  · exact h.1
/-- What AtLast returns. -/
noncomputable def atL (n : Net) (t : Tru) (d : Nat → Bool) : List Int := rangeL n.ancs.length (lastB n t d)
theorem atL_step {n : Net} {t : Tru} (ht : okTru n t) (d : Nat → Bool) : atL n t (stepB n t d) = atL n t d := by
  unfold atL
  refine rangeL_congr fun k _ => ?_
  rw [Bool.eq_iff_iff, lastB_iff, lastB_iff]
  exact lastP_step ht d k
theorem atL_fix {n : Net} {t : Tru} {d : Nat → Bool} (hd : ∀ k, d k = true → k < n.ancs.length) (h : (rangeL n.ancs.length (stepB n t d)).length = (rangeL n.ancs.length d).length) : atL n t d = rangeL n.ancs.length (stepB n t d) := by
  have he := (rangeL_mono (m := n.ancs.length) (d := d) (e := stepB n t d) (fun k _ hk => stepB_in hk)).2 h.symm
  have hf : ∀ i, stepB n t d i = d i := by
    intro i
    by_cases hi : i < n.ancs.length
    · exact (he i hi).symm
    · have h1 : d i = false := by rw [← Bool.not_eq_true]; exact fun hk => hi (hd i hk)
      have h2 : stepB n t d i = false := by rw [← Bool.not_eq_true]; exact fun hk => hi (stepB_lt hd i hk)
      rw [h1, h2]
  unfold atL
  refine rangeL_congr fun k _ => ?_
  rw [hf, Bool.eq_iff_iff, lastB_iff]
  exact lastP_fix hf k
end An

def AtLastPost (n : Net) (t : Tru) (d : Nat → Bool) (w : World) (e : Ending) (w' : World) : Prop := ∃ (A : Option Addr) (c : Nat) (δ : World), e = .returned (.slice A (atL n t d).length c) ∧ w' = lat w δ ∧ Sl encI (lat w δ).heap.size (lat w δ) A c (atL n t d)
end Go.Proofs.Ytnddiloeikaleaa
namespace Go.Proofs.Ytnddiloeikaleaa
namespace An

def single (i : Nat) (k : Nat) : Bool := decide (k = i)
noncomputable def pulL (n : Net) (t : Tru) (i : Nat) : List Int := atL n t (single i)
noncomputable def pulledV (n : Net) (t : Tru) (i : Int) : List Int := if valid n && (truB n t && inB 0 ((n.ancs.length : Int) - 1) i) then pulL n t i.toNat else []
theorem range_six {m : Nat} (h6 : m ≤ 6) {d : Nat → Bool} (hd : ∀ k, d k = true → k < m) : rangeL 6 d = rangeL m d := by
  have key : ∀ j, rangeL (m + j) d = rangeL m d := by
    intro j
    induction j with
    | zero => rfl
    | succ j ih =>
      rw [← Nat.add_assoc, rangeL_succ, ih, if_neg (fun h => by have := hd _ h; omega), List.append_nil]
  have := key (6 - m)
  rwa [show m + (6 - m) = 6 by omega] at this
theorem single_lt {i m : Nat} (hi : i < m) : ∀ k, single i k = true → k < m := fun k hk => by simp [single] at hk; omega
theorem single_range {i m : Nat} (hi : i < m) : rangeL m (single i) = [(i : Int)] := by
  induction m with
  | zero => omega
  | succ m ih =>
    rw [rangeL_succ]
    by_cases h : i = m
    · subst h
      have : rangeL i (single i) = [] := by
        unfold rangeL
        rw [List.map_eq_nil_iff, List.filter_eq_nil_iff]
        intro k hk
        have : k < i := by simpa using hk
        simp [single]; omega
      rw [this, if_pos (by simp [single])]; rfl
    · rw [ih (by omega), if_neg (by simp [single]; omega), List.append_nil]
theorem bit_single (i : Nat) : (fun k => (2 ^ i : Nat).testBit k) = single i := by
  funext k
  rw [Nat.testBit_two_pow, single, decide_eq_decide]
  exact eq_comm
theorem listM_last {n : Net} {t : Tru} {d : Nat → Bool} (h6 : n.ancs.length ≤ 6) (hd : ∀ k, d k = true → k < n.ancs.length) {m : Nat} (hl : ∀ i, m.testBit i = true ↔ lastP n t d i) : listM m = atL n t d := by
  have e : (fun i => m.testBit i) = lastB n t d := funext fun i => bit_last (hl i)
  show rangeL 6 (fun i => m.testBit i) = rangeL n.ancs.length (lastB n t d)
  rw [e]
  exact range_six h6 fun k hk => last_lt hd hk
theorem firstV_eq {n : Net} {t : Tru} (hv : valid n = true) (ht : truB n t = true) : firstV n t = moreV n t [] n.ancs.length := by
  unfold firstV
  rw [if_pos (by rw [hv, ht]; rfl)]
  have h6 := (valid_iff.1 hv).2.2.2.1
  have e0 : inL [] = fun _ => false := by funext k; simp [inL, isIn]
  have e : (fun i => (stepM n t 0).testBit i) = stepB n t (inL []) := by
    funext i
    rw [stepM_bit, e0]
    congr 1
    exact funext fun i => Nat.zero_testBit i
  show rangeL 6 (fun i => (stepM n t 0).testBit i) = rangeL n.ancs.length (stepB n t (inL []))
  rw [e]
  exact range_six h6 (stepB_lt (by rw [e0]; intro k hk; cases hk))
theorem dragsV_at {n : Net} {t : Tru} (hv : valid n = true) (ht : truB n t = true) : dragsV n t = atL n t (fun _ => false) := by
  rw [dragsV_eq hv ht]
  show rangeL 6 (dragB n t) = rangeL n.ancs.length (dragB n t)
  exact range_six (valid_iff.1 hv).2.2.2.1 fun k hk => drag_lt hk
theorem pulL_pos {n : Net} {t : Tru} {i : Nat} (hi : i < n.ancs.length) : 0 < (pulL n t i).length := by
  have : (i : Int) ∈ pulL n t i := by
    unfold pulL atL
    rw [mem_rangeL]
    exact ⟨hi, last_sub (by simp [single])⟩
  exact List.length_pos_of_mem this
theorem pulL_le (n : Net) (t : Tru) (i : Nat) : (pulL n t i).length ≤ n.ancs.length := rangeL_len _ _
/-- The anchor that pulls the most, of the first k. -/
noncomputable def keyTo (n : Net) (t : Tru) : Nat → Nat
  | 0 => 0
  | k + 1 => if (pulL n t (keyTo n t k)).length < (pulL n t k).length then k else keyTo n t k
theorem keyTo_lt (n : Net) (t : Tru) {k m : Nat} (h : k ≤ m) (h0 : 0 < m) : keyTo n t k < m := by
  induction k with
  | zero => exact h0
  | succ k ih => unfold keyTo; split <;> first | omega | exact ih (by omega)
noncomputable def keyV (n : Net) (t : Tru) : Int := if valid n && truB n t then keyTo n t n.ancs.length else 0
def keyE (n : Net) (t : Tru) : Int := if valid n then (if truB n t then (if n.ancs.length = 0 then 3 else 0) else 1) else 20
/-- How many the key of the first k pulls; 0 of none. -/
noncomputable def mostTo (n : Net) (t : Tru) : Nat → Nat
  | 0 => 0
  | k + 1 => (pulL n t (keyTo n t (k + 1))).length
theorem key_step {n : Net} {t : Tru} {k : Nat} (hk : k < n.ancs.length) : (mostTo n t k < (pulL n t k).length → keyTo n t (k + 1) = k ∧ mostTo n t (k + 1) = (pulL n t k).length) ∧ (¬ mostTo n t k < (pulL n t k).length → keyTo n t (k + 1) = keyTo n t k ∧ mostTo n t (k + 1) = mostTo n t k) := by
  cases k with
  | zero =>
    have hp := pulL_pos (t := t) hk
    have e : keyTo n t 1 = 0 := by unfold keyTo; split <;> rfl
    refine ⟨fun _ => ⟨e, by show (pulL n t (keyTo n t 1)).length = _; rw [e]⟩, fun h => absurd hp h⟩
  | succ k =>
    constructor
    · intro h
      have h' : (pulL n t (keyTo n t (k + 1))).length < (pulL n t (k + 1)).length := h
      have e : keyTo n t (k + 1 + 1) = k + 1 := by rw [keyTo]; exact if_pos h'
      exact ⟨e, by show (pulL n t (keyTo n t (k + 1 + 1))).length = _; rw [e]⟩
    · intro h
      have h' : ¬ (pulL n t (keyTo n t (k + 1))).length < (pulL n t (k + 1)).length := h
      have e : keyTo n t (k + 1 + 1) = keyTo n t (k + 1) := by rw [keyTo]; exact if_neg h'
      exact ⟨e, by show (pulL n t (keyTo n t (k + 1 + 1))).length = _; rw [e]; rfl⟩

end An

/-! The plain words of layer 2: laws of what is pulled, and of the key. -/
namespace An

theorem rangeL_pw (m : Nat) (d : Nat → Bool) : (rangeL m d).Pairwise (· < ·) := by
  unfold rangeL
  rw [List.pairwise_map]
  refine List.Pairwise.filter _ ?_
  exact List.Pairwise.imp (fun h => by omega) List.pairwise_lt_range
theorem mem_rangeL' {m : Nat} {d : Nat → Bool} {x : Int} (h : x ∈ rangeL m d) : ∃ k : Nat, x = k ∧ k < m ∧ d k = true := by
  have h' := h
  unfold rangeL at h
  simp only [List.mem_map] at h
  obtain ⟨k, _, rfl⟩ := h
  exact ⟨k, rfl, mem_rangeL.1 h'⟩
theorem rangeL_rises (m : Nat) (d : Nat → Bool) : Rises (rangeL m d) 0 ((m : Int) - 1) := by
  refine rises_of (rangeL_pw _ _) fun x hx => ?_
  obtain ⟨k, rfl, hk, _⟩ := mem_rangeL' hx
  omega
theorem pul_in {n : Net} {t : Tru} {i : Nat} (hi : i < n.ancs.length) : isIn (pulL n t i) i = true := isIn_iff.2 (by
  unfold pulL atL
  rw [mem_rangeL]
  exact ⟨hi, last_sub (by simp [single])⟩)
theorem drags_pul {n : Net} {t : Tru} (hv : valid n = true) (ht : truB n t = true) (i : Nat) : Part (dragsV n t) (pulL n t i) := by
  rw [dragsV_at hv ht]
  refine part_of fun x hx => ?_
  obtain ⟨k, rfl, hk, hd⟩ := mem_rangeL' hx
  unfold pulL atL
  rw [mem_rangeL]
  exact ⟨hk, last_mono (fun _ h => by cases h) hd⟩
/-- If the anchor drags of itself, no more are pulled than drag. -/
theorem pul_drags {n : Net} {t : Tru} (hv : valid n = true) (ht : truB n t = true) {i : Nat} (h : isIn (dragsV n t) i = true) : (pulL n t i).length = (dragsV n t).length := by
  rw [isIn_iff, dragsV_at hv ht] at h
  unfold atL at h
  rw [mem_rangeL] at h
  rw [dragsV_at hv ht]
  have : pulL n t i = atL n t (fun _ => false) := by
    unfold pulL atL
    refine rangeL_congr fun k _ => ?_
    rw [Bool.eq_iff_iff]
    constructor
    · intro hk
      refine lastB_iff.2 fun S hS hd => lastB_iff.1 hk S hS fun j hj => ?_
      have : j = i := by simpa [single] using hj
      subst this
      exact lastB_iff.1 h.2 S hS hd
    · exact last_mono (fun _ h => by cases h)
  rw [this]
theorem key_max (n : Net) (t : Tru) : ∀ k j, j < k → (pulL n t j).length ≤ (pulL n t (keyTo n t k)).length ∧ ((pulL n t j).length = (pulL n t (keyTo n t k)).length → keyTo n t k ≤ j) := by
  intro k
  induction k with
  | zero => intro j hj; omega
  | succ k ih =>
    intro j hj
    have hs : keyTo n t (k + 1) = if (pulL n t (keyTo n t k)).length < (pulL n t k).length then k else keyTo n t k := rfl
    by_cases hc : (pulL n t (keyTo n t k)).length < (pulL n t k).length
    · rw [if_pos hc] at hs
      rw [hs]
      by_cases hjk : j = k
      · subst hjk; exact ⟨Nat.le_refl _, fun _ => Nat.le_refl _⟩
      · have := (ih j (by omega)).1
        exact ⟨by omega, fun h => by omega⟩
    · rw [if_neg hc] at hs
      rw [hs]
      by_cases hjk : j = k
      · subst hjk
        refine ⟨by omega, fun _ => ?_⟩
        rcases Nat.eq_zero_or_pos j with h0 | h0
        · subst h0; exact Nat.le_refl _
        · exact Nat.le_of_lt (keyTo_lt n t (Nat.le_refl j) h0)
      · exact ih j (by omega)
end An

/-! The plain words of layer 2: the law of each anchor. -/
open Go.RowKit
namespace An

theorem firstV_st {n : Net} {t : Tru} (hv : valid n = true) (ht : truB n t = true) : firstV n t = rangeL n.ancs.length (stepB n t fun _ => false) := by
  unfold firstV
  rw [if_pos (by rw [hv, ht]; rfl)]
  have e : (fun i => (stepM n t 0).testBit i) = stepB n t (fun _ => false) := by
    funext i
    rw [stepM_bit]
    congr 1
    exact funext fun i => Nat.zero_testBit i
  show rangeL 6 (fun i => (stepM n t 0).testBit i) = rangeL n.ancs.length (stepB n t fun _ => false)
  rw [e]
  exact range_six (valid_iff.1 hv).2.2.2.1 (stepB_lt (by intro k hk; cases hk))
theorem first_in {n : Net} {t : Tru} (hv : valid n = true) (ht : truB n t = true) {i : Nat} (hi : i < n.ancs.length) : isIn (firstV n t) i = decide (spare n t i (fun _ => false) < 0) := by
  rw [Bool.eq_iff_iff, isIn_iff, firstV_st hv ht, mem_rangeL, decide_eq_true_eq]
  unfold stepB
  simp [hi]
theorem drags_in {n : Net} {t : Tru} (hv : valid n = true) (ht : truB n t = true) {i : Nat} (hi : i < n.ancs.length) : isIn (dragsV n t) i = dragB n t i := by
  rw [Bool.eq_iff_iff, isIn_iff, dragsV_at hv ht]
  unfold atL
  rw [mem_rangeL]
  exact ⟨fun h => h.2, fun h => ⟨hi, h⟩⟩
theorem first_rises {n : Net} {t : Tru} (hv : valid n = true) (ht : truB n t = true) : Rises (firstV n t) 0 ((n.ancs.length : Int) - 1) := by
  rw [firstV_st hv ht]; exact rangeL_rises _ _
theorem first_part {n : Net} {t : Tru} (hv : valid n = true) (ht : truB n t = true) : Part (firstV n t) (dragsV n t) := by
  rw [firstV_st hv ht, dragsV_at hv ht]
  refine part_of fun x hx => ?_
  obtain ⟨k, rfl, hk, hd⟩ := mem_rangeL' hx
  unfold atL
  rw [mem_rangeL]
  exact ⟨hk, lastB_iff.2 fun S hS _ => hS k (stepB_mono (okTru_of hv ht) (fun _ h => by cases h) hd)⟩
theorem first_nil {n : Net} {t : Tru} (hv : valid n = true) (ht : truB n t = true) : 0 < (firstV n t).length ↔ ¬ calmP n t := by
  constructor
  · intro h hc
    have hm := nth_mem _ h
    generalize nth (firstV n t) 0 = x at hm
    rw [firstV_st hv ht] at hm
    obtain ⟨k, _, hk, hd⟩ := mem_rangeL' hm
    unfold stepB at hd
    simp only [Bool.false_or, Bool.and_eq_true, decide_eq_true_eq] at hd
    have := hc k hk
    omega
  · intro hc
    rcases Nat.eq_zero_or_pos (firstV n t).length with h0 | h0
    · refine absurd (fun i hi => ?_) hc
      have : isIn (firstV n t) i = false := by rw [List.length_eq_zero_iff.1 h0]; simp [isIn]
      rw [first_in hv ht hi, decide_eq_false_iff_not] at this
      omega
    · exact h0
def safeX (n : Net) : Int := onOk (valid n) (knownB (decide (stepM n (worstT n) 0 = 0)) (decide (stepM n (bestT n) 0 = 0)))
theorem safe_cases {n : Net} {t : Tru} (hv : valid n = true) (ht : truB n t = true) :
    (Hid (safeX n = 1) ∧ decide (0 < (firstV n t).length) = false) ∨ Hid (safeX n = 3) ∨ (Hid (safeX n = 2) ∧ ((((firstV n t).length : Int) == 0) = false)) := by
  have h1 := harder_worst ht
  have h2 := harder_best ht
  unfold safeX
  rw [hv]
  by_cases ha : stepM n (worstT n) 0 = 0
  · refine .inl ⟨Lib.hid (by simp [onOk, knownB, ha]), decide_eq_false fun h => (first_nil hv ht).1 h (calmP_mono hv h1 (step0_iff.1 ha))⟩
  · by_cases hb : stepM n (bestT n) 0 = 0
    · exact .inr (.inl (Lib.hid (by simp [onOk, knownB, ha, hb])))
    · exact .inr (.inr ⟨Lib.hid (by simp [onOk, knownB, ha, hb]), by have := (first_nil hv ht).2 fun h => hb (step0_iff.2 (calmP_mono hv h2 h)); rw [beq_eq_false_iff_ne]; omega⟩)
theorem drag_cases {n : Net} {t : Tru} (hv : valid n = true) (ht : truB n t = true) {i : Nat} (hi : i < n.ancs.length) :
    (Hid (dragV n i = 1) ∧ Hid (isIn (dragsV n t) i = true)) ∨ (Hid (dragV n i = 3) ∧ Hid (isIn (dragsV n t) i = true)) ∨ (Hid (dragV n i = 3) ∧ Hid (isIn (dragsV n t) i = false)) ∨ (Hid (dragV n i = 2) ∧ Hid (isIn (dragsV n t) i = false)) := by
  have e : dragV n i = knownB (dragB n (bestT n) i) (dragB n (worstT n) i) := by
    unfold dragV
    rw [hv, show inB 0 ((n.ancs.length : Int) - 1) (i : Int) = true by rw [inB_iff]; omega]
    rfl
  rw [drags_in hv ht hi, e]
  have h1 : dragB n (bestT n) i = true → dragB n t i = true := last_harder hv (harder_best ht)
  have h2 : dragB n t i = true → dragB n (worstT n) i = true := last_harder hv (harder_worst ht)
  unfold Hid knownB
  cases ha : dragB n (bestT n) i <;> cases hb : dragB n t i <;> cases hc : dragB n (worstT n) i <;> simp_all
theorem spareV_lo {n : Net} {t : Tru} (hv : valid n = true) (ht : truB n t = true) {i : Nat} (hi : i < n.ancs.length) :
    (spareV n i).lo ≤ spare n t i (fun _ => false) ∧ spare n t i (fun _ => false) ≤ (spareV n i).hi := by
  have e : spareV n i = ⟨spare n (worstT n) i (fun _ => false), spare n (bestT n) i (fun _ => false)⟩ := by
    unfold spareV
    rw [hv, show inB 0 ((n.ancs.length : Int) - 1) (i : Int) = true by rw [inB_iff]; omega]
    rfl
  rw [e]
  exact ⟨spare_harder hv (harder_worst ht) hi, spare_harder hv (harder_best ht) hi⟩
end An
end Go.Proofs.Ytnddiloeikaleaa
namespace Go.Proofs.Ytnddiloeikaleaa
open Go.RowKit
namespace An

/-- The net in which anchor i is heavier by x. -/
def heav (n : Net) (i : Nat) (x : Int) : Net := setA n (n.ancs.set i (heavA (nth n.ancs i) x))
theorem heav_len (n : Net) (i : Nat) (x : Int) : (heav n i x).ancs.length = n.ancs.length := List.length_set
theorem heav_nth (n : Net) (i : Nat) (x : Int) {j : Nat} (hj : j < n.ancs.length) : nth (heav n i x).ancs j = if i = j then heavA (nth n.ancs i) x else nth n.ancs j := nth_set _ _ _ hj
theorem heav_valid {n : Net} (hv : valid n = true) {i : Nat} {x : Int} (_hi : i < n.ancs.length) (h0 : 0 ≤ (nth n.ancs i).wt + x) (h1 : (nth n.ancs i).wt + x ≤ 20) : valid (heav n i x) = true := by
  have hv0 := hv
  rw [valid_iff] at hv ⊢
  obtain ⟨a1, a2, a3, a4, a5, a6, a7, a8⟩ := hv
  refine ⟨a1, a2, a3, by rw [heav_len]; exact a4, by rw [heav_len]; exact a5, a6, ?_, a8⟩
  show okAncl n.grips.length (heav n i x).ancs = true
  unfold okAncl
  rw [List.all_eq_true]
  intro y hy
  obtain ⟨j, hj, rfl⟩ := List.getElem_of_mem hy
  have hj' : j < n.ancs.length := by rwa [heav_len] at hj
  rw [← nth_get _ hj, heav_nth _ _ _ hj']
  have ha := okAnc_nth hv0 hj'
  by_cases hij : i = j
  · subst hij
    rw [if_pos rfl]
    simp only [okAnc, decide_eq_true_eq] at ha
    refine decide_eq_true ?_
    show 0 ≤ (nth n.ancs i).wt + x ∧ (nth n.ancs i).wt + x ≤ 20 ∧ 0 ≤ (nth n.ancs i).bt ∧ (nth n.ancs i).bt < (n.grips.length : Int)
    exact ⟨h0, h1, ha.2.2.1, ha.2.2.2⟩
  · rw [if_neg hij]; exact ha
theorem can_heav {n : Net} {t : Tru} (ht : okTru n t) {i : Nat} {x : Int} (hx : 0 ≤ x) {j : Nat} (hj : j < n.ancs.length) : can n t j ≤ can (heav n i x) t j := by
  unfold can
  rw [heav_nth _ _ _ hj]
  by_cases hij : i = j
  · subst hij
    rw [if_pos rfl]
    simp only [heavA]
    have ha := okAnc_nth ht.1 hj
    simp only [okAnc, decide_eq_true_eq] at ha
    have hg := ht.2.2.2.2 _ (nth_mem t.grips (show (nth n.ancs i).bt.toNat < t.grips.length by rw [ht.2.2.2.1]; omega))
    rw [inB_iff] at hg
    exact Int.mul_le_mul_of_nonneg_right (by omega) hg.1
  · rw [if_neg hij]; exact Int.le_refl _
theorem spare_heav {n : Net} {t : Tru} (ht : okTru n t) {i : Nat} {x : Int} (hx : 0 ≤ x) {j : Nat} (hj : j < n.ancs.length) (d : Nat → Bool) : spare n t j d ≤ spare (heav n i x) t j d := by
  have h1 := can_heav (i := i) ht hx hj
  have h2 : bears (heav n i x) t j d = bears n t j d := rfl
  unfold spare
  rw [h2]
  omega
theorem step_heav {n : Net} {t : Tru} (ht : okTru n t) {i : Nat} {x : Int} (hx : 0 ≤ x) {d : Nat → Bool} {j : Nat} (h : stepB (heav n i x) t d j = true) : stepB n t d j = true := by
  unfold stepB at *
  simp only [Bool.or_eq_true, Bool.and_eq_true, decide_eq_true_eq] at h ⊢
  rcases h with h1 | ⟨h1, h2⟩
  · exact .inl h1
  · rw [heav_len] at h1
    exact .inr ⟨h1, Int.lt_of_le_of_lt (spare_heav ht hx h1 d) h2⟩
theorem last_heav {n : Net} {t : Tru} (ht : okTru n t) {i : Nat} {x : Int} (hx : 0 ≤ x) {d : Nat → Bool} {j : Nat} (h : lastB (heav n i x) t d j = true) : lastB n t d j = true :=
  lastB_iff.2 fun S hS hd => lastB_iff.1 h S (fun k hk => hS k (step_heav ht hx hk)) hd
theorem drags_heav {n : Net} {t : Tru} (hv : valid n = true) (ht : truB n t = true) {i : Nat} {x : Int} (hv' : valid (heav n i x) = true) (hx : 0 ≤ x) : Part (dragsV (heav n i x) t) (dragsV n t) := by
  rw [dragsV_eq hv' (show truB (heav n i x) t = true from ht), dragsV_eq hv ht]
  refine part_of fun y hy => ?_
  obtain ⟨j, h1, h2, rfl⟩ := mem_listB.1 hy
  exact mem_listB.2 ⟨j, h1, last_heav (okTru_of hv ht) hx h2, rfl⟩
theorem calm_heav {n : Net} {t : Tru} (ht : okTru n t) {i : Nat} {x : Int} (hx : 0 ≤ x) (h : calmP n t) : calmP (heav n i x) t := by
  intro j hj
  rw [heav_len] at hj
  exact Int.le_trans (h j hj) (spare_heav ht hx hj _)
theorem firstHit_mono {f g : Nat → Bool} (m : Nat) (h : ∀ k, k < m → g k = true → f k = true) : firstHit f m 0 ≤ firstHit g m 0 := by
  obtain ⟨_, b, c, _⟩ := firstHit_spec f m 0
  obtain ⟨_, b', _, d'⟩ := firstHit_spec g m 0
  rcases Nat.lt_or_ge (firstHit g m 0) (firstHit f m 0) with hlt | hge
  · have h1 := h _ (by omega) (d' (by omega))
    rw [c _ (Nat.zero_le _) hlt] at h1
    cases h1
  · exact hge
theorem hitW_heav {n : Net} (hv : valid n = true) {i : Nat} {x : Int} (hx : 0 ≤ x) {k : Nat} (hk : k < 21) (h : hitW (heav n i x) k = true) : hitW n k = true :=
  hitW_iff.2 fun hc => hitW_iff.1 h (show calmP (heav (inW n k) i x) (worstT (inW n k)) from calm_heav (okTru_worst (valid_inW hv (show k ≤ 20 by omega))) hx hc)
theorem hitS_heav {n : Net} (hv : valid n = true) {i : Nat} {x : Int} (hx : 0 ≤ x) {k : Nat} (hk : k < 21) (h : hitS (heav n i x) k = true) : hitS n k = true :=
  hitS_iff.2 fun hc => hitS_iff.1 h (show calmP (heav (inW n k) i x) (bestT (inW n k)) from calm_heav (okTru_best (valid_inW hv (show k ≤ 20 by omega))) hx hc)
theorem wN_heav {n : Net} (hv : valid n = true) {i : Nat} {x : Int} (hx : 0 ≤ x) : wN n ≤ wN (heav n i x) := firstHit_mono 21 fun _ hk h => hitW_heav hv hx hk h
theorem sN_heav {n : Net} (hv : valid n = true) {i : Nat} {x : Int} (hx : 0 ≤ x) : sN n ≤ sN (heav n i x) := firstHit_mono 21 fun _ hk h => hitS_heav hv hx hk h
theorem drag_heav {n : Net} (hv : valid n = true) {i : Nat} {x : Int} (hv' : valid (heav n i x) = true) (hx : 0 ≤ x) {j : Nat} (hj : j < n.ancs.length) :
    (dragV (heav n i x) j = 1 → dragV n j = 1) ∧ (dragV n j = 2 → dragV (heav n i x) j = 2) := by
  have e : ∀ m : Net, valid m = true → m.ancs.length = n.ancs.length → dragV m j = knownB (dragB m (bestT m) j) (dragB m (worstT m) j) := by
    intro m hm hl
    unfold dragV
    rw [hm, show inB 0 ((m.ancs.length : Int) - 1) (j : Int) = true by rw [inB_iff]; omega]
    rfl
  rw [e n hv rfl, e _ hv' (heav_len _ _ _)]
  have h1 : dragB (heav n i x) (bestT n) j = true → dragB n (bestT n) j = true := last_heav (okTru_best hv) hx
  have h2 : dragB (heav n i x) (worstT n) j = true → dragB n (worstT n) j = true := last_heav (okTru_worst hv) hx
  show (knownB (dragB (heav n i x) (bestT n) j) (dragB (heav n i x) (worstT n) j) = 1 → _) ∧ (_ → knownB (dragB (heav n i x) (bestT n) j) (dragB (heav n i x) (worstT n) j) = 2)
  unfold knownB
  cases ha : dragB (heav n i x) (bestT n) j <;> cases hb : dragB n (bestT n) j <;> cases hc : dragB (heav n i x) (worstT n) j <;> cases hd : dragB n (worstT n) j <;> simp_all
end An
end Go.Proofs.Ytnddiloeikaleaa
namespace Go.Proofs.Ytnddiloeikaleaa
open Go.RowKit
namespace An

/-- The anchor that should be heavier, of the first k, and the wind of that net (-1: none yet). -/
def helpTo (n : Net) : Nat → Int × Int
  | 0 => (-1, -1)
  | k + 1 => if (nth n.ancs k).wt = 20 then helpTo n k else if (helpTo n k).2 < (wN (heav n k 1) : Int) then ((k : Int), (wN (heav n k 1) : Int)) else helpTo n k
theorem helpTo_inv (n : Net) (k : Nat) : ((helpTo n k).1 = -1 ∧ (helpTo n k).2 = -1) ∨ (0 ≤ (helpTo n k).1 ∧ (helpTo n k).1 < k ∧ 0 ≤ (helpTo n k).2 ∧ (helpTo n k).2 ≤ 21) := by
  induction k with
  | zero => exact .inl ⟨rfl, rfl⟩
  | succ k ih =>
    have hw := wN_le (heav n k 1)
    unfold helpTo
    split
    · omega
    · split
      · right; simp only; omega
      · omega
theorem helpTo_skip {n : Net} {k : Nat} (h : (nth n.ancs k).wt = 20) : helpTo n (k + 1) = helpTo n k := by conv => lhs; unfold helpTo; rw [if_pos h]
theorem helpTo_take {n : Net} {k : Nat} (h : ¬ (nth n.ancs k).wt = 20) (h2 : (helpTo n k).2 < (wN (heav n k 1) : Int)) : helpTo n (k + 1) = ((k : Int), (wN (heav n k 1) : Int)) := by conv => lhs; unfold helpTo; rw [if_neg h, if_pos h2]
theorem helpTo_keep {n : Net} {k : Nat} (h : ¬ (nth n.ancs k).wt = 20) (h2 : ¬ (helpTo n k).2 < (wN (heav n k 1) : Int)) : helpTo n (k + 1) = helpTo n k := by conv => lhs; unfold helpTo; rw [if_neg h, if_neg h2]
def helpN (n : Net) : Int := (helpTo n n.ancs.length).1
def helpV (n : Net) : Int := if valid n && decide (wN n < 21) then (if helpN n < 0 then 0 else helpN n) else 0
def helpE (n : Net) : Int := if valid n then (if wN n = 21 then 3 else if helpN n < 0 then 2 else 0) else 20

/-- The net with the first j anchors as heavy as Need says. -/
def upN (n : Net) (j : Nat) : Net := setA n (ancsAt n j 0)
theorem upN_zero (n : Net) : upN n 0 = n := by unfold upN; rw [ancsAt_start]; rfl
theorem upN_len (n : Net) (j : Nat) : (upN n j).ancs.length = n.ancs.length := ancsAt_len _ _ _
theorem upN_nth (n : Net) (j : Nat) {i : Nat} (hi : i < n.ancs.length) : nth (upN n j).ancs i = heavA (nth n.ancs i) (amt n j 0 i) := ancsAt_nth _ _ _ hi
theorem heavA_add (a : Anc) (x y : Int) : heavA (heavA a x) y = heavA a (x + y) := by simp [heavA, Int.add_assoc]
theorem heavA_zero (a : Anc) : heavA a 0 = a := by simp [heavA]
theorem upN_succ (n : Net) {j : Nat} (hj : j < n.ancs.length) : heav (upN n j) j (needN n j) = upN n (j + 1) := by
  show setA n ((ancsAt n j 0).set j (heavA (nth (ancsAt n j 0) j) (needN n j))) = setA n (ancsAt n (j + 1) 0)
  congr 1
  refine list_ext_nth (by rw [List.length_set, ancsAt_len, ancsAt_len]) fun k hk => ?_
  rw [List.length_set, ancsAt_len] at hk
  rw [nth_set _ _ _ (by rw [ancsAt_len]; exact hk), ancsAt_nth _ _ _ hk, ancsAt_nth _ _ _ hk, ancsAt_nth _ _ _ hj, amt_next, amt_self]
  by_cases h : j = k
  · subst h
    rw [if_pos rfl, heavA_add, amt_self]
    simp
  · rw [if_neg h]
    congr 1
    unfold amt
    have : k ≠ j := fun e => h e.symm
    simp [this]
theorem topK_pos {n : Net} (hv : valid n = true) {i : Nat} (hi : i < n.ancs.length) : 0 < topK n i := by
  have ha := okAnc_nth hv hi
  simp only [okAnc, decide_eq_true_eq] at ha
  unfold topK
  omega
theorem topK_int {n : Net} (hv : valid n = true) {i : Nat} (hi : i < n.ancs.length) : (topK n i : Int) = 21 - (nth n.ancs i).wt := by
  have ha := okAnc_nth hv hi
  simp only [okAnc, decide_eq_true_eq] at ha
  unfold topK
  omega
theorem needOk_iff {n : Net} : needOk n = true ↔ ∀ i, i < n.ancs.length → needN n i < topK n i := by
  unfold needOk
  rw [List.all_eq_true]
  constructor
  · intro h i hi; simpa using h i (by simpa using hi)
  · intro h i hi; exact decide_eq_true (h i (by simpa using hi))
theorem needN_hit {n : Net} {i : Nat} (h : needN n i < topK n i) : 0 ≤ spareK n i (needN n i) := by
  have := (firstHit_spec (fun k => decide (0 ≤ spareK n i k)) (topK n i) 0).2.2.2 (by unfold needN at h; omega)
  exact of_decide_eq_true this
theorem needN_miss {n : Net} {i k : Nat} (h : k < needN n i) : spareK n i k < 0 := by
  have := (firstHit_spec (fun k => decide (0 ≤ spareK n i k)) (topK n i) 0).2.2.1 k (Nat.zero_le _) h
  exact Int.not_le.1 (of_decide_eq_false this)
theorem needN_le (n : Net) (i : Nat) : needN n i ≤ topK n i := firstHit_le _ _
theorem valid_up {n : Net} (hv : valid n = true) (hok : needOk n = true) {j : Nat} (_hj : j ≤ n.ancs.length) : valid (upN n j) = true := by
  refine valid_at hv ?_ fun i _ hi => needOk_iff.1 hok i hi
  rcases Nat.lt_or_ge j n.ancs.length with h | h
  · exact topK_pos hv h
  · unfold topK nth
    rw [List.getD_eq_getElem?_getD, List.getElem?_eq_none h]
    decide
theorem spareK_zero (n : Net) (i : Nat) : spareK n i 0 = spare n (worstT n) i (fun _ => false) := by
  unfold spareK spare can
  simp
theorem spare_up {n : Net} {i : Nat} (hi : i < n.ancs.length) : spare (upN n n.ancs.length) (worstT (upN n n.ancs.length)) i (fun _ => false) = spareK n i (needN n i) := by
  unfold spare can
  rw [upN_nth _ _ hi]
  simp only [heavA, amt, hi, if_true]
  rfl
theorem safeX_one {n : Net} (hv : valid n = true) : safeX n = 1 ↔ calmP n (worstT n) := by
  unfold safeX
  rw [hv, ← step0_iff]
  unfold onOk knownB
  by_cases h : stepM n (worstT n) 0 = 0
  · simp [h]
  · simp only [h, decide_false, if_true]
    by_cases h2 : stepM n (bestT n) 0 = 0 <;> simp [h2]
theorem safe_up {n : Net} (hv : valid n = true) (hok : needOk n = true) : safeX (upN n n.ancs.length) = 1 := by
  rw [safeX_one (valid_up hv hok (Nat.le_refl _))]
  intro i hi
  rw [upN_len] at hi
  rw [spare_up hi]
  exact needN_hit (needOk_iff.1 hok i hi)
theorem safe_miss {n : Net} (hv : valid n = true) (hok : needOk n = false) : safeX n ≠ 1 := by
  intro h
  rw [safeX_one hv] at h
  have : ¬ ∀ i, i < n.ancs.length → needN n i < topK n i := fun hh => by rw [needOk_iff.2 hh] at hok; cases hok
  apply this
  intro i hi
  have h0 := h i hi
  rw [← spareK_zero] at h0
  have h1 := topK_pos hv hi
  rcases Nat.eq_zero_or_pos (needN n i) with e | e
  · omega
  · have := needN_miss e; omega
def sumN (n : Net) : Nat → Int
  | 0 => 0
  | k + 1 => sumN n k + needN n k
theorem sumN_bd (n : Net) (k : Nat) : 0 ≤ sumN n k := by
  induction k with
  | zero => exact Int.le_refl _
  | succ k ih => unfold sumN; omega
theorem sumN_zero (n : Net) (k : Nat) : sumN n k = 0 ↔ ∀ i, i < k → needN n i = 0 := by
  induction k with
  | zero => exact ⟨fun _ i hi => by omega, fun _ => rfl⟩
  | succ k ih =>
    have hb := sumN_bd n k
    unfold sumN
    constructor
    · intro h i hi
      by_cases e : i = k
      · subst e; omega
      · exact ih.1 (by omega) i (by omega)
    · intro h
      have h1 := ih.2 fun i hi => h i (by omega)
      have h2 := h k (by omega)
      omega
theorem sum_safe {n : Net} (hv : valid n = true) : sumN n n.ancs.length = 0 ↔ safeX n = 1 := by
  rw [sumN_zero, safeX_one hv]
  constructor
  · intro h i hi
    rw [← spareK_zero]
    have h0 := h i hi
    have := needN_hit (n := n) (i := i) (by rw [h0]; exact topK_pos hv hi)
    rwa [h0] at this
  · intro h i hi
    have h0 := h i hi
    rw [← spareK_zero] at h0
    rcases Nat.eq_zero_or_pos (needN n i) with e | e
    · exact e
    · have := needN_miss e; omega
theorem valid_less {n : Net} (hv : valid n = true) (hok : needOk n = true) {i : Nat} (hi : i < n.ancs.length) (h : 0 < needN n i) : valid (heav (upN n n.ancs.length) i (-1)) = true := by
  have ha := okAnc_nth hv hi
  simp only [okAnc, decide_eq_true_eq] at ha
  have hk := needOk_iff.1 hok i hi
  have ht := topK_int hv hi
  have e : (nth (upN n n.ancs.length).ancs i).wt = (nth n.ancs i).wt + needN n i := by rw [upN_nth _ _ hi]; simp [heavA, amt, hi]
  refine heav_valid (valid_up hv hok (Nat.le_refl _)) (by rw [upN_len]; exact hi) (by rw [e]; omega) (by rw [e]; omega)
theorem safe_less {n : Net} (hv : valid n = true) (hok : needOk n = true) {i : Nat} (hi : i < n.ancs.length) (h : 0 < needN n i) : safeX (heav (upN n n.ancs.length) i (-1)) ≠ 1 := by
  rw [Ne, safeX_one (valid_less hv hok hi h)]
  intro hc
  have h0 := hc i (by rw [heav_len, upN_len]; exact hi)
  have h1 := needN_miss (n := n) (i := i) (k := needN n i - 1) (by omega)
  have e : spare (heav (upN n n.ancs.length) i (-1)) (worstT (heav (upN n n.ancs.length) i (-1))) i (fun _ => false) = spareK n i (needN n i - 1) := by
    unfold spare can
    rw [heav_nth _ _ _ (by rw [upN_len]; exact hi), if_pos rfl, upN_nth _ _ hi, heavA_add]
    simp only [heavA, amt, hi, if_true]
    unfold spareK
    rw [show ((needN n i : Nat) : Int) + -1 = ((needN n i - 1 : Nat) : Int) by omega]
    rfl
  rw [e] at h0
  omega
end An
end Go.Proofs.Ytnddiloeikaleaa
namespace Go.Proofs.Ytnddiloeikaleaa
open An
namespace Tc

/-! ### When a net is calm -/
theorem wind_bd {n : Net} (hv : valid n = true) : 0 ≤ n.wind.lo ∧ n.wind.lo ≤ n.wind.hi ∧ n.wind.hi ≤ 20 := by
  have h := (valid_iff.1 hv).1
  simpa only [okSp, decide_eq_true_eq] using h
/-- Surely: just if the greatest wind is less than Wind (21: there is none). -/
theorem surely_iff {n : Net} (hv : valid n = true) : safeX n = 1 ↔ n.wind.hi < (wN n : Int) := by
  have hb := wind_bd hv
  rw [safeX_one hv]
  constructor
  · intro hc
    rcases Int.lt_or_le n.wind.hi (wN n : Int) with h | h
    · exact h
    · exfalso
      have hw : wN n < 21 := by omega
      obtain ⟨_, _, _, d⟩ := firstHit_spec (hitW n) 21 0
      have := d (by unfold wN at hw; omega)
      rw [hitW_iff] at this
      have hh : Harder n (worstT (inW n (wN n : Int))) (worstT n) := ⟨h, Int.le_refl _, fun _ _ => Int.le_refl _⟩
      exact this ((calm_inW _ _ _).2 (calmP_mono hv hh hc))
  · intro h
    exact calm_below hv (worst_tru hv) h
theorem worst_best {n : Net} (hv : valid n = true) : Harder n (bestT n) (worstT n) := harder_worst (best_tru hv)
/-- Never: just if the least wind is at least Storm. -/
theorem never_iff {n : Net} (hv : valid n = true) : safeX n = 2 ↔ (sN n : Int) ≤ n.wind.lo := by
  have hb := wind_bd hv
  have h2 : safeX n = 2 ↔ ¬ calmP n (bestT n) := by
    have hi : calmP n (worstT n) → calmP n (bestT n) := calmP_mono hv (worst_best hv)
    rw [← step0_iff, ← step0_iff] at hi
    rw [← step0_iff]
    unfold safeX
    rw [hv]
    unfold onOk knownB
    by_cases h : stepM n (worstT n) 0 = 0
    · simp [h, hi h]
    · by_cases h' : stepM n (bestT n) 0 = 0 <;> simp [h, h']
  rw [h2]
  constructor
  · intro hc
    rcases Int.lt_or_le n.wind.lo (sN n : Int) with h | h
    · exfalso
      obtain ⟨k, hk⟩ := Int.eq_ofNat_of_zero_le hb.1
      obtain ⟨_, _, c, _⟩ := firstHit_spec (hitS n) 21 0
      have := c k (Nat.zero_le _) (by unfold sN at h; omega)
      rw [← Bool.not_eq_true, hitS_iff] at this
      have hcc : calmP (inW n k) (bestT (inW n k)) := Classical.not_not.1 this
      have hh : Harder n (bestT n) (bestT (inW n k)) := ⟨by show n.wind.lo ≤ (k : Int); omega, Int.le_refl _, fun _ _ => Int.le_refl _⟩
      exact hc (calmP_mono hv hh ((calm_inW _ _ _).1 hcc))
    · exact h
  · intro h
    exact drag_above hv (best_tru hv) (by omega) h
/-- Anchors that are as heavy or heavier, on the same bottoms. -/
def Heavier (xs ys : List Anc) : Prop := xs.length = ys.length ∧ ∀ i, i < xs.length → (nth xs i).wt ≤ (nth ys i).wt ∧ (nth xs i).bt = (nth ys i).bt
theorem calm_heavier {n : Net} {t : Tru} (ht : okTru n t) {al : List Anc} (h : Heavier n.ancs al) (hc : calmP n t) : calmP (setA n al) t := by
  intro i hi
  have hi' : i < n.ancs.length := by rw [h.1]; exact hi
  have h0 := hc i hi'
  obtain ⟨h1, h2⟩ := h.2 i hi'
  unfold spare at h0 ⊢
  have hb : bears (setA n al) t i (fun _ => false) = bears n t i (fun _ => false) := rfl
  rw [hb]
  have hcan : can n t i ≤ can (setA n al) t i := by
    unfold can
    show 2 * (nth n.ancs i).wt * nth t.grips (nth n.ancs i).bt.toNat ≤ 2 * (nth al i).wt * nth t.grips (nth al i).bt.toNat
    rw [← h2]
    have ho := okAnc_nth ht.1 hi'
    simp only [okAnc, decide_eq_true_eq] at ho
    have hg : 0 ≤ nth t.grips (nth n.ancs i).bt.toNat := by
      have := ht.2.2.2.2 _ (nth_mem t.grips (k := (nth n.ancs i).bt.toNat) (by rw [ht.2.2.2.1]; omega))
      rw [inB_iff] at this
      exact this.1
    exact Int.mul_le_mul_of_nonneg_right (by omega) hg
  omega
theorem safe_heavier {n : Net} (hv : valid n = true) {al : List Anc} (hv' : valid (setA n al) = true) (h : Heavier n.ancs al) (hs : safeX n = 1) : safeX (setA n al) = 1 := by
  rw [safeX_one hv'] 
  rw [safeX_one hv] at hs
  exact calm_heavier (n := n) (okTru_of hv (worst_tru hv)) h hs

/-! ### What a day and a sky are worth -/
structure Sky where
  wind : Sp
  cur : Sp
instance : Inhabited Sky := ⟨⟨⟨0, 0⟩, ⟨0, 0⟩⟩⟩
structure Season where
  net : Net
  sea : Sea
  skies : List Sky
  follows : List (List Int)
  first : List Int
  days : List Sp
/-- Rising numbers between two bounds, as far as k. -/
def risesTo (l : List Int) (lo hi : Int) (k : Nat) : Bool := (List.range k).all fun i => inB lo hi (nth l i) && (decide (i = 0) || decide (nth l (i - 1) < nth l i))
def risesB (l : List Int) (lo hi : Int) : Bool := risesTo l lo hi l.length
theorem risesTo_succ (l : List Int) (lo hi : Int) (k : Nat) : risesTo l lo hi (k + 1) = (risesTo l lo hi k && (inB lo hi (nth l k) && (decide (k = 0) || decide (nth l (k - 1) < nth l k)))) := by
  unfold risesTo; rw [List.range_succ, List.all_append]; simp
theorem risesB_no {l : List Int} {lo hi : Int} {k : Nat} (hk : k < l.length) (h : (inB lo hi (nth l k) && (decide (k = 0) || decide (nth l (k - 1) < nth l k))) = false) : risesB l lo hi = false := by
  unfold risesB risesTo
  rw [List.all_eq_false]
  exact ⟨k, List.mem_range.2 hk, by rw [h]; decide⟩
theorem rises_mem {l : List Int} {lo hi : Int} (h : risesB l lo hi = true) : ∀ x ∈ l, lo ≤ x ∧ x ≤ hi := by
  intro x hx
  obtain ⟨i, hi, rfl⟩ := List.getElem_of_mem hx
  have := List.all_eq_true.1 h i (List.mem_range.2 hi)
  simp only [Bool.and_eq_true] at this
  have := inB_iff.1 this.1
  rwa [nth_get _ hi] at this
/-- At least one sky, rising. -/
def areSk (m : Nat) (l : List Int) : Bool := decide (0 < l.length) && risesB l 0 ((m : Int) - 1)
def okSky (s : Sky) : Bool := okSp 20 s.wind && okSp 20 s.cur
def okFol (m : Nat) (f : List (List Int)) (k : Nat) : Bool := (List.range k).all fun i => areSk m (nth f i)
def okSkies (l : List Sky) (k : Nat) : Bool := (List.range k).all fun i => okSky (nth l i)
def okDays (l : List Sp) (k : Nat) : Bool := (List.range k).all fun i => okSp 2000 (nth l i)
def seasonOk (s : Season) : Bool := valid s.net && seaOk s.sea && decide (1 ≤ s.skies.length ∧ s.skies.length ≤ 4) && decide (s.follows.length = s.skies.length) && areSk s.skies.length s.first && decide (s.days.length ≤ 5) && okSkies s.skies s.skies.length && okFol s.skies.length s.follows s.skies.length && okDays s.days s.days.length
theorem seasonOk_iff {s : Season} : seasonOk s = true ↔ valid s.net = true ∧ seaOk s.sea = true ∧ (1 ≤ s.skies.length ∧ s.skies.length ≤ 4) ∧ s.follows.length = s.skies.length ∧ areSk s.skies.length s.first = true ∧ s.days.length ≤ 5 ∧ okSkies s.skies s.skies.length = true ∧ okFol s.skies.length s.follows s.skies.length = true ∧ okDays s.days s.days.length = true := by
  simp [seasonOk, and_assoc]
theorem okSkies_succ (l : List Sky) (k : Nat) : okSkies l (k + 1) = (okSkies l k && okSky (nth l k)) := by unfold okSkies; rw [List.range_succ, List.all_append]; simp
theorem okFol_succ (m : Nat) (f : List (List Int)) (k : Nat) : okFol m f (k + 1) = (okFol m f k && areSk m (nth f k)) := by unfold okFol; rw [List.range_succ, List.all_append]; simp
theorem okDays_succ (l : List Sp) (k : Nat) : okDays l (k + 1) = (okDays l k && okSp 2000 (nth l k)) := by unfold okDays; rw [List.range_succ, List.all_append]; simp
theorem okSkies_at {l : List Sky} {k i : Nat} (h : okSkies l k = true) (hi : i < k) : okSky (nth l i) = true := List.all_eq_true.1 h i (List.mem_range.2 hi)
theorem okFol_at {m : Nat} {f : List (List Int)} {k i : Nat} (h : okFol m f k = true) (hi : i < k) : areSk m (nth f i) = true := List.all_eq_true.1 h i (List.mem_range.2 hi)
theorem okDays_at {l : List Sp} {k i : Nat} (h : okDays l k = true) (hi : i < k) : okSp 2000 (nth l i) = true := List.all_eq_true.1 h i (List.mem_range.2 hi)
def netOf (s : Season) (i : Nat) : Net := ⟨(nth s.skies i).wind, (nth s.skies i).cur, s.net.grips, s.net.ancs, s.net.wals⟩
def seaOf (s : Season) (d : Nat) : Sea := ⟨nth s.days d, s.sea.places, s.sea.boats⟩
def calmB (s : Season) (i : Nat) : Int := safeX (netOf s i)
def mayB (s : Season) (d i : Nat) : Bool := decide (calmB s i = 1) && canHold (seaOf s d)
/-- The least of some numbers, 2000 if there are none. -/
def minL (f : Nat → Int) : List Int → Int
  | [] => 2000
  | x :: r => min (f x.toNat) (minL f r)
/-- The same, from the front. -/
def minTo (f : Nat → Int) (l : List Int) (k : Nat) : Int := (l.take k).foldl (fun n x => min n (f x.toNat)) 2000
theorem foldl_min (f : Nat → Int) (l : List Int) : ∀ a, a ≤ 2000 → l.foldl (fun n x => min n (f x.toNat)) a = min a (minL f l) := by
  induction l with
  | nil => intro a h; simp only [List.foldl_nil, minL]; omega
  | cons x r ih =>
    intro a h
    rw [List.foldl_cons, ih _ (by omega), minL]
    omega
theorem minTo_all (f : Nat → Int) (l : List Int) : minTo f l l.length = minL f l := by
  have h : minL f l ≤ 2000 := by
    induction l with
    | nil => exact Int.le_refl _
    | cons x r ih => rw [minL]; omega
  unfold minTo
  rw [List.take_length, foldl_min f l 2000 (Int.le_refl _)]
  omega
theorem minTo_succ (f : Nat → Int) (l : List Int) {k : Nat} (h : k < l.length) : minTo f l (k + 1) = min (minTo f l k) (f (nth l k).toNat) := by
  unfold minTo
  rw [take_snoc _ h, List.foldl_append]
  rfl
/-- The worth of a day, k days ahead of the end, and a sky. -/
def worthN (s : Season) : Nat → Nat → Int
  | 0, _ => 0
  | k + 1, i => if mayB s (s.days.length - (k + 1)) i = true then max (minL (worthN s k) (nth s.follows i)) (nth s.days (s.days.length - (k + 1))).lo else minL (worthN s k) (nth s.follows i)
theorem minL_nn {f : Nat → Int} (h : ∀ i, 0 ≤ f i ∧ f i ≤ 2000) : ∀ l, 0 ≤ minL f l ∧ minL f l ≤ 2000
  | [] => by simp [minL]
  | x :: r => by have := minL_nn h r; have := h x.toNat; rw [minL]; omega
theorem minL_mono {f g : Nat → Int} (h : ∀ i, f i ≤ g i) : ∀ l, minL f l ≤ minL g l
  | [] => Int.le_refl _
  | x :: r => by have := minL_mono h r; have := h x.toNat; rw [minL, minL]; omega
theorem worth_nn {s : Season} (hd : ∀ p ∈ s.days, okSp 2000 p = true) : ∀ k, k ≤ s.days.length → ∀ i, 0 ≤ worthN s k i ∧ worthN s k i ≤ 2000
  | 0, _, i => by simp [worthN]
  | k + 1, hk, i => by
    have h1 := minL_nn (worth_nn hd k (by omega)) (nth s.follows i)
    have h2 := okSp_iff.1 (hd _ (nth_mem s.days (k := s.days.length - (k + 1)) (by omega)))
    rw [worthN]
    split <;> omega
/-- With heavier anchors the worth of no day and sky is less. -/
theorem worth_heavier {s o : Season} (h1 : o.follows = s.follows) (h2 : o.days = s.days) (hm : ∀ d i, mayB s d i = true → mayB o d i = true) : ∀ k i, worthN s k i ≤ worthN o k i
  | 0, i => Int.le_refl _
  | k + 1, i => by
    have ih := minL_mono (worth_heavier h1 h2 hm k) (nth s.follows i)
    rw [worthN, worthN, h1, h2]
    by_cases hs : mayB s (s.days.length - (k + 1)) i = true
    · rw [if_pos hs, if_pos (hm _ _ hs)]; omega
    · rw [if_neg hs]
      split <;> omega

/-! ### The season with the anchors that its sky needs -/
theorem sky_ok {s : Season} (h : seasonOk s = true) (i : Nat) : okSky (nth s.skies i) = true := by
  obtain ⟨_, _, _, _, _, _, h7, _, _⟩ := seasonOk_iff.1 h
  rcases Nat.lt_or_ge i s.skies.length with hi | hi
  · exact okSkies_at h7 hi
  · have : nth s.skies i = default := by unfold nth; rw [List.getD_eq_getElem?_getD, List.getElem?_eq_none hi]; rfl
    rw [this]; decide
theorem valid_netOf {s : Season} (h : seasonOk s = true) (i : Nat) : valid (netOf s i) = true := by
  have hk := sky_ok h i
  obtain ⟨h1, _⟩ := seasonOk_iff.1 h
  obtain ⟨_, _, a3, a4, a5, a6, a7, a8⟩ := valid_iff.1 h1
  simp only [okSky, Bool.and_eq_true] at hk
  exact valid_iff.2 ⟨hk.1, hk.2, a3, a4, a5, a6, a7, a8⟩
/-- The anchors of a sky's net with what it needs. -/
def upA (s : Season) (k : Nat) : List Anc := (upN (netOf s k) s.net.ancs.length).ancs
def upS (s : Season) (k : Nat) : Season := ⟨setA s.net (upA s k), s.sea, s.skies, s.follows, s.first, s.days⟩
theorem netOf_up (s : Season) (k i : Nat) : netOf (upS s k) i = setA (netOf s i) (upA s k) := rfl
theorem netOf_upk (s : Season) (k : Nat) : netOf (upS s k) k = upN (netOf s k) (netOf s k).ancs.length := rfl
theorem upA_len (s : Season) (k : Nat) : (upA s k).length = s.net.ancs.length := upN_len (netOf s k) _
theorem upA_nth {s : Season} (k : Nat) {i : Nat} (hi : i < s.net.ancs.length) : nth (upA s k) i = heavA (nth s.net.ancs i) (needN (netOf s k) i) := by
  unfold upA
  rw [upN_nth (netOf s k) _ hi]
  show heavA (nth s.net.ancs i) (amt (netOf s k) s.net.ancs.length 0 i : Nat) = _
  unfold amt
  rw [if_pos hi]
theorem upA_heavier (s : Season) (k : Nat) : Heavier s.net.ancs (upA s k) := by
  refine ⟨(upA_len s k).symm, fun i hi => ?_⟩
  rw [upA_nth k hi]
  exact ⟨by show _ ≤ (nth s.net.ancs i).wt + _; omega, rfl⟩
theorem valid_upS {s : Season} (h : seasonOk s = true) {k : Nat} (hok : needOk (netOf s k) = true) : seasonOk (upS s k) = true := by
  have hv := valid_up (n := netOf s k) (j := (netOf s k).ancs.length) (valid_netOf h k) hok (Nat.le_refl _)
  rw [← netOf_upk] at hv
  obtain ⟨h1, h2⟩ := seasonOk_iff.1 h
  obtain ⟨b1, b2, _⟩ := valid_iff.1 h1
  obtain ⟨_, _, a3, a4, a5, a6, a7, a8⟩ := valid_iff.1 hv
  exact seasonOk_iff.2 ⟨valid_iff.2 ⟨b1, b2, a3, a4, a5, a6, a7, a8⟩, h2⟩
theorem calm_up {s : Season} (h : seasonOk s = true) {k : Nat} (hok : needOk (netOf s k) = true) : calmB (upS s k) k = 1 := by
  unfold calmB
  rw [netOf_upk]
  exact safe_up (valid_netOf h k) hok
theorem may_up {s : Season} (h : seasonOk s = true) {k : Nat} (hok : needOk (netOf s k) = true) (d i : Nat) (hm : mayB s d i = true) : mayB (upS s k) d i = true := by
  unfold mayB at hm ⊢
  simp only [Bool.and_eq_true, decide_eq_true_eq] at hm ⊢
  refine ⟨?_, hm.2⟩
  have hv := valid_netOf (valid_upS h hok) i
  rw [netOf_up] at hv
  have h1 := hm.1
  unfold calmB at h1 ⊢
  rw [netOf_up]
  exact safe_heavier (n := netOf s i) (al := upA s k) (valid_netOf h i) hv (upA_heavier s k) h1
theorem worth_up {s : Season} (h : seasonOk s = true) {k : Nat} (hok : needOk (netOf s k) = true) (j i : Nat) : worthN s j i ≤ worthN (upS s k) j i :=
  worth_heavier (s := s) (o := upS s k) rfl rfl (fun d i hm => may_up h hok d i hm) j i
theorem need_bd {s : Season} (h : seasonOk s = true) {k : Nat} (hok : needOk (netOf s k) = true) {i : Nat} (hi : i < s.net.ancs.length) : (needN (netOf s k) i : Int) ≤ 20 - (nth s.net.ancs i).wt := by
  have hv := valid_netOf h k
  have h1 := needOk_iff.1 hok i hi
  have h2 := topK_int hv (i := i) hi
  have e : (nth (netOf s k).ancs i).wt = (nth s.net.ancs i).wt := rfl
  rw [e] at h2
  omega
end Tc
end Go.Proofs.Ytnddiloeikaleaa
namespace Go.Proofs.Ytnddiloeikaleaa
open Go.RowKit
open An

theorem own_ne {w : World} {base base' g n n' c' size size' : Nat} {e e' : TypeId} {v : Value} {xs xs' : List Value} (h : w.ownsRow base e size v n xs) (h' : w.ownsRow base' e' size' (.slice (some ⟨g, 0, none⟩) n' c') n' xs') (hne : e ≠ e') : v.ownBlock ≠ some g := by
  intro hv
  rcases h.2 with h2 | ⟨g1, cap1, cur1, hv1, _, h2, _⟩
  · rw [h2.1] at hv; cases hv
  · rw [hv1] at hv
    injection hv with hv
    rcases h'.2 with ⟨h3, _⟩ | ⟨g2, _, cur2, hv2, _, h4, _⟩
    · cases h3
    · injection hv2 with hA
      injection hA with hA
      injection hA with hg
      subst hg
      subst hv
      rw [h2] at h4
      injection h4 with h4
      injection h4 with _ he
      exact hne he

end Go.Proofs.Ytnddiloeikaleaa
