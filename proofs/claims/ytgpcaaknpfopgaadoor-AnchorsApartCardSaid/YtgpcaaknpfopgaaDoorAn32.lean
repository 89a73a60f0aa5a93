/- Layer 2: the walk of AtLast of the reference. -/
import Derived.Test.YtgpcaaknpfopgaaDoorAnPlain6
import Derived.Test.YtgpcaaknpfopgaaDoorAn28
import Derived.Outline
namespace Go.Proofs.YtgpcaaknpfopgaaDoor
open Go.RowKit
open An

namespace An
theorem inL_range {m : Nat} {d : Nat → Bool} (hd : ∀ k, d k = true → k < m) : inL (rangeL m d) = d := by
  funext k
  unfold inL
  rw [Bool.eq_iff_iff, isIn_iff, mem_rangeL]
  exact ⟨fun h => h.2, fun h => ⟨hd k h, h⟩⟩
theorem stepB_lt {n : Net} {t : Tru} {d : Nat → Bool} (hd : ∀ k, d k = true → k < n.ancs.length) : ∀ k, stepB n t d k = true → k < n.ancs.length := by
  intro k hk
  unfold stepB at hk
  simp only [Bool.or_eq_true, Bool.and_eq_true, decide_eq_true_eq] at hk
  rcases hk with h | h
  · exact hd k h
  · exact h.1
/-- What AtLast returns. -/
noncomputable def atL (n : Net) (t : Tru) (d : Nat → Bool) : List Int := rangeL n.ancs.length (lastB n t d)
theorem atL_step {n : Net} {t : Tru} (ht : okTru n t) (d : Nat → Bool) : atL n t (stepB n t d) = atL n t d := by
  unfold atL
  refine rangeL_congr fun k _ => ?_
  rw [Bool.eq_iff_iff, lastB_iff, lastB_iff]
  exact lastP_step ht d k
theorem atL_fix {n : Net} {t : Tru} {d : Nat → Bool} (hd : ∀ k, d k = true → k < n.ancs.length) (h : (rangeL n.ancs.length (stepB n t d)).length = (rangeL n.ancs.length d).length) : atL n t d = rangeL n.ancs.length (stepB n t d) := by
  have he := (rangeL_mono (m := n.ancs.length) (d := d) (e := stepB n t d) (fun k _ hk => stepB_in hk)).2 h.symm
  have hf : ∀ i, stepB n t d i = d i := by
    intro i
    by_cases hi : i < n.ancs.length
    · exact (he i hi).symm
    · have h1 : d i = false := by rw [← Bool.not_eq_true]; exact fun hk => hi (hd i hk)
      have h2 : stepB n t d i = false := by rw [← Bool.not_eq_true]; exact fun hk => hi (stepB_lt hd i hk)
      rw [h1, h2]
  unfold atL
  refine rangeL_congr fun k _ => ?_
  rw [hf, Bool.eq_iff_iff, lastB_iff]
  exact lastP_fix hf k
end An

def AtLastPost (n : Net) (t : Tru) (d : Nat → Bool) (w : World) (e : Ending) (w' : World) : Prop := ∃ (A : Option Addr) (c : Nat) (δ : World), e = .returned (.slice A (atL n t d).length c) ∧ w' = lat w δ ∧ Sl encI (lat w δ).heap.size (lat w δ) A c (atL n t d)
def AtLastC (n : Net) (t : Tru) (m : Nat) : Prop := ∀ (r : NetR) (rt : TruR) (d : Nat → Bool) (A : Option Addr) (c : Nat) (B : Nat) (w : World), Le B w → NetIs B w r n → TruIs B w rt t → Sl encI B w A c (rangeL n.ancs.length d) → (∀ k, d k = true → k < n.ancs.length) → n.ancs.length ≤ (rangeL n.ancs.length d).length + m → ∀ ln : Nat, (rangeL n.ancs.length d).length = ln →
  Calls Tryd.prog 98 #[netV r n, truV rt t, .slice A ln c] w (AtLastPost n t d w)

set_option maxRecDepth 100000 in
set_option maxHeartbeats 4000000 in
theorem atLastS_c (n : Net) (t : Tru) (ht : okTru n t) (m : Nat) (IH : ∀ m', m = m' + 1 → AtLastC n t m') : AtLastC n t m := by
  intro r rt d A c B w hB h h' hL hd hm ln hln
  subst hln
  have HM := Lib.hid (show moreV n t (rangeL n.ancs.length d) n.ancs.length = rangeL n.ancs.length (stepB n t d) by unfold moreV; rw [inL_range hd])
  have H := Lib.hid h
  have H' := Lib.hid h'
  have HL := Lib.hid hL
  have HD := Lib.hid hd
  have HT := Lib.hid ht
  have hl0 := rangeL_len n.ancs.length d
  have hl1 := rangeL_len n.ancs.length (stepB n t d)
  have h6 := (valid_iff.1 ht.1).2.2.2.1
  have hge := (rangeL_mono (m := n.ancs.length) (d := d) (e := stepB n t d) (fun k _ hk => stepB_in hk)).1
  clear h h' hL hd ht
  by_cases heq : (rangeL n.ancs.length (stepB n t d)).length = (rangeL n.ancs.length d).length
  · have HE := Lib.hid heq
    have HF := Lib.hid (atL_fix HD.out heq)
    have hz : (((rangeL n.ancs.length (stepB n t d)).length : Int) == ((rangeL n.ancs.length d).length : Int)) = true := by simp; omega
    clear heq IH
    go_enter Tryd.func98, Tryd.ntmps98
    go_wp2_with (go_at_call 108; refine (more_c r n rt t A c (rangeL n.ancs.length d) B _ H.out.up H'.out.up HL.out.up HT.out).mono ?_; rw [HM.out]; rintro e w1 ⟨A', c', δ, rfl, rfl, hS⟩)
    go_ret
    unfold AtLastPost
    rw [HF.out]
    exact ⟨A', c', _, rfl, lat_def, sl_def hS⟩
  · have hz : (((rangeL n.ancs.length (stepB n t d)).length : Int) == ((rangeL n.ancs.length d).length : Int)) = false := by simp; omega
    obtain ⟨m', hm'⟩ : ∃ m', m = m' + 1 := ⟨m - 1, by omega⟩
    have HI := Lib.hid (IH m' hm')
    have hm2 : n.ancs.length ≤ (rangeL n.ancs.length (stepB n t d)).length + m' := by omega
    have HF := Lib.hid (atL_step HT.out d)
    clear hm' IH heq
    go_enter Tryd.func98, Tryd.ntmps98
    go_wp2_with (first
      | (go_at_call 108; refine (more_c r n rt t A c (rangeL n.ancs.length d) B _ H.out.up H'.out.up HL.out.up HT.out).mono ?_; rw [HM.out]; rintro e w1 ⟨A', c', δ, rfl, rfl, hS⟩)
      | (go_at_call 98; refine (HI.out r rt (stepB n t d) A' c' _ _ inferInstance H.out.wide H'.out.wide hS.wide (stepB_lt HD.out) hm2 _ rfl).mono ?_; unfold AtLastPost; rw [HF.out]; rintro e w1 ⟨A2, c2, δ2, rfl, rfl, hS2⟩))
    go_ret
    unfold AtLastPost
    exact ⟨A2, c2, _, rfl, lat_def, sl_def hS2⟩
theorem atLast_all (n : Net) (t : Tru) (ht : okTru n t) : ∀ m, AtLastC n t m
  | 0 => atLastS_c n t ht 0 fun _ h => by cases h
  | m + 1 => atLastS_c n t ht (m + 1) fun m' h => by
    have : m' = m := by omega
    subst this
    exact atLast_all n t ht m'

/-- .. when all lie at first. -/
theorem atLast0_c (r : NetR) (n : Net) (rt : TruR) (t : Tru) (B : Nat) (w : World) [hB : Le B w] (h : NetIs B w r n) (h' : TruIs B w rt t) (ht : okTru n t) :
    Calls Tryd.prog 98 #[netV r n, truV rt t, .slice none 0 0] w (AtLastPost n t (fun _ => false) w) := by
  have e : rangeL n.ancs.length (fun _ => false) = [] := by simp [rangeL]
  exact atLast_all n t ht n.ancs.length r rt (fun _ => false) none 0 B w hB h h' (by rw [e]; exact Sl.none_) (fun _ hk => by cases hk) (by omega) 0 (by rw [e]; rfl)

end Go.Proofs.YtgpcaaknpfopgaaDoor
