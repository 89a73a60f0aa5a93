/- Towards the claim of XLawCalmed: Layer 2: the walk of Need of the program. Layer 2: the walk of works of the law. -/
import Derived.Test.YtnddiloeikaleaaQ5
import Derived.Test.YtnddiloeikaleaaQ4
namespace Go.Proofs.Ytnddiloeikaleaa
open Go.RowKit
open An

/-- The cells of a net in its worst truth. -/
abbrev rowC (n : Net) (gA : Option Addr) (gc : Nat) (aA : Option Addr) (ac : Nat) (wA : Option Addr) (wc : Nat) (rt : TruR) : Array Value := #[.int .i64 n.wind.lo, .int .i64 n.wind.hi, .int .i64 n.cur.lo, .int .i64 n.cur.hi, .slice gA n.grips.length gc, .slice aA n.ancs.length ac, .slice wA n.wals.length wc, .int .i64 (worstT n).wind, .int .i64 (worstT n).cur, .slice rt.tA (worstT n).grips.length rt.tc]

/-- What the walk of Need knows of memory when the anchors below i have been made as heavy as they must be, and anchor i heavier by k, with the numbers written down up to k'. -/
structure NeedI (n : Net) (w : World) (r : NetR) (rt : TruR) (g2 b2 br b3 : Nat) (A1 : Option Addr) (c1 i k k' : Nat) (wr : World) : Prop where
  grew : Grew w.heap.size w wr
  le : Le w.heap.size wr
  bx : Box wr br 76 (rowC n r.gA r.gc A1 c1 r.wA r.wc rt)
  o2 : wr.ownsRow g2 3 1 (.slice (some ⟨g2, 0, none⟩) n.ancs.length n.ancs.length) n.ancs.length ((outAt n i k').flatMap encI)
  ot : wr.ownsRow b2 3 1 (.slice rt.tA (worstT n).grips.length rt.tc) (worstT n).grips.length ((worstT n).grips.flatMap encI)
  o1 : wr.ownsRow b3 51 2 (.slice A1 n.ancs.length c1) n.ancs.length ((ancsAt n i k).flatMap encAnc)
  h2 : w.heap.size ≤ g2
  h3 : g2 < b2
  h4 : b2 ≤ br
  h5 : br < b3
  ht : ∀ g, (Value.slice rt.tA (worstT n).grips.length rt.tc).ownBlock = some g → b2 ≤ g ∧ g < br
section
variable {n : Net} {w : World} {r : NetR} {rt : TruR} {g2 b2 br b3 : Nat} {A1 : Option Addr} {c1 i k k' : Nat} {wr : World}
theorem NeedI.lat (h : NeedI n w r rt g2 b2 br b3 A1 c1 i k k' wr) (δ : World) : NeedI n w r rt g2 b2 br b3 A1 c1 i k k' (lat wr δ) := by
  have := h.grew
  have := h.le
  exact ⟨inferInstance, inferInstance, h.bx.lat δ, owns_lat δ h.o2, owns_lat δ h.ot, owns_lat δ h.o1, h.h2, h.h3, h.h4, h.h5, h.ht⟩
theorem NeedI.at1 (h : NeedI n w r rt g2 b2 br b3 A1 c1 i k k' wr) (hi : i < n.ancs.length) : ∃ g, A1 = some ⟨g, 0, none⟩ ∧ b3 ≤ g ∧ Lt g wr ∧ wr.cell? ⟨g, i * 2, none⟩ = some (.int .i64 ((nth n.ancs i).wt + k)) ∧ wr.frozen? ⟨g, i * 2, none⟩ = false := by
  obtain ⟨g, hA, hb, hl, hc, hf⟩ := own_at h.o1 (by omega)
  refine ⟨g, hA, hb, hl, hc _ _ ?_, hf _⟩
  have := flatMap_nth encAnc 2 (fun _ => rfl) (ancsAt n i k) i 0 (by rw [ancsAt_len]; exact hi) (by omega)
  rw [Nat.add_zero] at this
  rw [this, ancsAt_nth _ _ _ hi, amt_self]
  rfl
theorem NeedI.at2 (h : NeedI n w r rt g2 b2 br b3 A1 c1 i k k' wr) (hi : i < n.ancs.length) : Lt g2 wr ∧ wr.cell? ⟨g2, i, none⟩ = some (.int .i64 k') ∧ wr.frozen? ⟨g2, i, none⟩ = false := by
  obtain ⟨g, hA, hb, hl, hc, hf⟩ := own_at h.o2 (by omega)
  injection hA with hA
  injection hA with hA
  subst hA
  refine ⟨hl, hc _ _ ?_, hf _⟩
  have := flatMap_nth encI 1 (fun _ => rfl) (outAt n i k') i 0 (by rw [outAt_len]; exact hi) (by omega)
  rw [Nat.add_zero, Nat.mul_one] at this
  rw [this, outAt_nth _ _ _ hi, amt_self]
  rfl
theorem NeedI.set1 {g : Nat} (h : NeedI n w r rt g2 b2 br b3 (some ⟨g, 0, none⟩) c1 i k k' wr) (hi : i < n.ancs.length) (hg : b3 ≤ g) : NeedI n w r rt g2 b2 br b3 (some ⟨g, 0, none⟩) c1 i (k + 1) k' (wr.setCell ⟨g, i * 2, none⟩ (.int .i64 ((nth n.ancs i).wt + k + 1))) := by
  have i1 := h.grew
  have i2 := h.le
  have i3 : LeN w.heap.size g := ⟨by have := h.h2; have := h.h3; have := h.h4; have := h.h5; omega⟩
  refine ⟨inferInstance, inferInstance, h.bx.far (p := ⟨g, i * 2, none⟩) (by have := h.h5; show br ≠ g; omega) _, own_far h.o2 (by have := h.h3; have := h.h4; have := h.h5; intro e; injection e with e; simp at e; omega), own_far h.ot ?_, ?_, h.h2, h.h3, h.h4, h.h5, h.ht⟩
  · intro e
    have h1 : g < br := (h.ht _ e).2
    have := h.h5
    omega
  · have := own_set (u := .int .i64 ((nth n.ancs i).wt + k + 1)) (i := i * 2) h.o1 (by rw [len_enc encAnc 2 (fun _ => rfl), ancsAt_len]; omega)
    have e := flatMap_set encAnc 2 (fun _ => rfl) (ancsAt n i k) i 0 (.int .i64 ((nth n.ancs i).wt + k + 1)) (heavA (nth n.ancs i) ((k + 1 : Nat) : Int)) (by rw [ancsAt_len]; exact hi) (by omega) (by
      rw [ancsAt_nth _ _ _ hi, amt_self]
      simp [encAnc, heavA, Int.add_assoc])
    rw [Nat.add_zero] at e
    rw [e, ancsAt_set _ _ hi] at this
    exact this
theorem NeedI.set2 (h : NeedI n w r rt g2 b2 br b3 A1 c1 i k k' wr) (hi : i < n.ancs.length) : NeedI n w r rt g2 b2 br b3 A1 c1 i k (k' + 1) (wr.setCell ⟨g2, i, none⟩ (.int .i64 (k' + 1))) := by
  have i1 := h.grew
  have i2 := h.le
  have i3 : LeN w.heap.size g2 := ⟨h.h2⟩
  refine ⟨inferInstance, inferInstance, h.bx.far (p := ⟨g2, i, none⟩) (by have := h.h3; have := h.h4; show br ≠ g2; omega) _, ?_, own_far h.ot ?_, own_far h.o1 ?_, h.h2, h.h3, h.h4, h.h5, h.ht⟩
  · have := own_set (u := .int .i64 ((k' : Int) + 1)) (i := i) h.o2 (by rw [len_enc encI 1 (fun _ => rfl), outAt_len]; omega)
    have e := flatMap_set encI 1 (fun _ => rfl) (outAt n i k') i 0 (.int .i64 ((k' : Int) + 1)) ((k' + 1 : Nat) : Int) (by rw [outAt_len]; exact hi) (by omega) (by simp [encI])
    rw [Nat.add_zero, Nat.mul_one] at e
    rw [e, outAt_set _ _ hi] at this
    exact this
  · intro e
    have h1 : b2 ≤ g2 := (h.ht _ e).1
    have := h.h3
    omega
  · intro e
    have h1 : b3 ≤ g2 := (own_block h.o1 _ e).1
    have := h.h3; have := h.h4; have := h.h5
    omega
theorem NeedI.next (h : NeedI n w r rt g2 b2 br b3 A1 c1 i (needN n i) (needN n i) wr) : NeedI n w r rt g2 b2 br b3 A1 c1 (i + 1) 0 0 wr :=
  ⟨h.grew, h.le, h.bx, by rw [outAt_next]; exact h.o2, h.ot, by rw [ancsAt_next]; exact h.o1, h.h2, h.h3, h.h4, h.h5, h.ht⟩
theorem NeedI.spare (h : NeedI n w r rt g2 b2 br b3 A1 c1 i k k' wr) {B : Nat} (hB : Le B w) (H : NetIs B w r n) (hv : valid n = true) (hi : i < n.ancs.length) (hk : k < topK n i) (hj : ∀ j, j < i → j < n.ancs.length → needN n j < topK n j) :
    Calls Try.prog 33 #[.agg (rowC n r.gA r.gc A1 c1 r.wA r.wc rt), .int .i64 i, .int .u64 0] wr fun e w' => e = .returned (.int .i64 (spareK n i k)) ∧ ∃ δ, w' = Go.Proofs.Ytnddiloeikaleaa.lat wr δ := by
  have i1 := h.grew
  have i2 := h.le
  have el : (setA n (ancsAt n i k)).ancs.length = n.ancs.length := ancsAt_len _ _ _
  have H' : NetIs w.heap.size w r n := H.more hB.out
  have a1 : Sl encSp wr.heap.size wr r.gA r.gc n.grips := (H'.1.up (w' := wr)).more i2.out
  have a3 : Sl encWal wr.heap.size wr r.wA r.wc n.wals := (H'.2.2.up (w' := wr)).more i2.out
  have a2 : Sl encAnc wr.heap.size wr A1 c1 (ancsAt n i k) := Sl.of_own (by rw [ancsAt_len]; exact h.o1)
  have a4 : TruIs wr.heap.size wr rt (worstT n) := Sl.of_own h.ot
  have := spare0_c ⟨r.gA, r.gc, A1, c1, r.wA, r.wc⟩ (setA n (ancsAt n i k)) rt (worstT n) i wr.heap.size wr ⟨a1, a2, a3⟩ a4 (okTru_at hv hk hj) (by rw [el]; exact hi)
  rw [spare_at _ hi] at this
  simp only [rowV, el] at this
  exact this
end

theorem encI_rep (n : Nat) (x : Int) : (List.replicate n x).flatMap encI = List.replicate n (Value.int .i64 x) := by
  induction n with
  | zero => rfl
  | succ n ih => rw [List.replicate_succ, List.replicate_succ, List.flatMap_cons, ih]; rfl

set_option maxRecDepth 100000 in
set_option maxHeartbeats 4000000 in
theorem need_c (r : NetR) (n : Net) (B : Nat) (w : World) [hB : Le B w] (h : NetIs B w r n) :
    Calls Try.prog 12 #[netV r n] w fun e w' => ∃ (A : Option Addr) (c : Nat) (δ : World), e = .returned (.tuple #[.slice A (needV n).length c, .int .i64 (needE n)]) ∧ w' = lat w δ ∧ Sl encI (lat w δ).heap.size (lat w δ) A c (needV n) := by
  by_cases hv : valid n = true
  all_goals try rw [Bool.not_eq_true] at hv
  case neg =>
    have HF := Lib.hid (show needV n = [] by simp [needV, hv])
    have HE := Lib.hid (show needE n = 20 by simp [needE, hv])
    have HV := Lib.hid hv
    clear hv
    go_enter Try.func12, Try.ntmps12
    go_wp2_with (go_at_call 31; refine (check_no r n B _ h.up HV.out).mono ?_; rintro e w1 ⟨rfl, δ, rfl⟩)
    go_ret2
    rw [HF.out, HE.out]
    exact ⟨none, 0, _, rfl, lat_def, Sl.none_⟩
  case pos =>
    have h3 := (valid_iff.1 hv).2.2.1
    have h6 := (valid_iff.1 hv).2.2.2.1
    have HV := Lib.hid hv
    have H := Lib.hid h
    have hmk := run_mk slI n.ancs.length (by omega) (by omega)
    clear hv h
    go_enter Try.func12, Try.ntmps12
    go_upto_region 4 with (go_at_call 31; refine (check_ok r n B _ H.out.up HV.out).mono ?_; rintro e w1 ⟨rfl, δ, rfl⟩)
    refine wp_name fun W1 hW1 => ?_
    have iw1 : Le B W1 := by rw [hW1.out]; infer_instance
    have iw2 : Grew B w W1 := by rw [hW1.out]; infer_instance
    have iw3 : Le w.heap.size W1 := by rw [hW1.out]; infer_instance
    have iw4 : Grew w.heap.size w W1 := by rw [hW1.out]; infer_instance
    have iw5 : Lt (w.heap.size) W1 := by rw [hW1.out]; infer_instance
    have cw6 : W1.cell? ⟨w.heap.size, 0, none⟩ = some (.int .i64 n.wind.lo) := by rw [hW1.out]; go_simp
    have cw7 : W1.cell? ⟨w.heap.size, 1, none⟩ = some (.int .i64 n.wind.hi) := by rw [hW1.out]; go_simp
    have cw8 : W1.cell? ⟨w.heap.size, 2, none⟩ = some (.int .i64 n.cur.lo) := by rw [hW1.out]; go_simp
    have cw9 : W1.cell? ⟨w.heap.size, 3, none⟩ = some (.int .i64 n.cur.hi) := by rw [hW1.out]; go_simp
    have cw10 : W1.cell? ⟨w.heap.size, 4, none⟩ = some (.slice r.gA n.grips.length r.gc) := by rw [hW1.out]; go_simp
    have cw11 : W1.cell? ⟨w.heap.size, 5, none⟩ = some (.slice r.aA n.ancs.length r.ac) := by rw [hW1.out]; go_simp
    have cw12 : W1.cell? ⟨w.heap.size, 6, none⟩ = some (.slice r.wA n.wals.length r.wc) := by rw [hW1.out]; go_simp
    go_upto_region 5 with fail
    refine wp_name fun W2 hW2 => ?_
    have iw13 : Le B W2 := by rw [hW2.out]; infer_instance
    have iw14 : Grew B w W2 := by rw [hW2.out]; infer_instance
    have iw15 : Le w.heap.size W2 := by rw [hW2.out]; infer_instance
    have iw16 : Grew w.heap.size w W2 := by rw [hW2.out]; infer_instance
    have iw17 : Lt (w.heap.size) W2 := by rw [hW2.out]; infer_instance
    have iw18 : Lt (W1.heap.size) W2 := by rw [hW2.out]; infer_instance
    have iw19 : Le w.heap.size W2 := by rw [hW2.out]; infer_instance
    have iw20 : Grew w.heap.size W1 W2 := by rw [hW2.out]; infer_instance
    have iw21 : Le W1.heap.size W2 := by rw [hW2.out]; infer_instance
    have iw22 : Grew W1.heap.size W1 W2 := by rw [hW2.out]; infer_instance
    have cw23 : W2.cell? ⟨w.heap.size, 0, none⟩ = some (.int .i64 n.wind.lo) := by rw [hW2.out]; go_simp
    have cw24 : W2.cell? ⟨w.heap.size, 1, none⟩ = some (.int .i64 n.wind.hi) := by rw [hW2.out]; go_simp
    have cw25 : W2.cell? ⟨w.heap.size, 2, none⟩ = some (.int .i64 n.cur.lo) := by rw [hW2.out]; go_simp
    have cw26 : W2.cell? ⟨w.heap.size, 3, none⟩ = some (.int .i64 n.cur.hi) := by rw [hW2.out]; go_simp
    have cw27 : W2.cell? ⟨w.heap.size, 4, none⟩ = some (.slice r.gA n.grips.length r.gc) := by rw [hW2.out]; go_simp
    have cw28 : W2.cell? ⟨w.heap.size, 5, none⟩ = some (.slice r.aA n.ancs.length r.ac) := by rw [hW2.out]; go_simp
    have cw29 : W2.cell? ⟨w.heap.size, 6, none⟩ = some (.slice r.wA n.wals.length r.wc) := by rw [hW2.out]; go_simp
    have o2 : W2.ownsRow W1.heap.size 3 1 (.slice (some ⟨W1.heap.size, 0, none⟩) n.ancs.length n.ancs.length) n.ancs.length ((outAt n 0 0).flatMap encI) := by
      rw [hW2.out]
      have := own_make (w := W1) (base := W1.heap.size) (g := W1.heap.size) (n := n.ancs.length) (size := 1) (e := 3) (cs := newCells (.int .i64 0) 1 n.ancs.length) (Nat.le_refl _) rfl (by omega) (newCells_size _ _ _)
      rw [newCells_int _ (.int .i64 0)] at this ⊢
      rw [outAt_start]
      rw [show (List.replicate n.ancs.length (0 : Int)).flatMap encI = (Array.replicate n.ancs.length (Value.int .i64 0)).toList by rw [Array.toList_replicate]; exact encI_rep _ _]
      exact this
    have O2 := Lib.hid o2
    clear o2
    go_upto_region 6 with (go_at_call 29; go_loud (refine (worstO_c r n B _ H.out.up h3).mono ?_; rintro e w1 ⟨rt, δ, rfl, rfl, own1⟩; have O1 := Lib.hid own1; clear own1))
    refine wp_name fun W3 hW3 => ?_
    have iw30 : Le B W3 := by rw [hW3.out]; infer_instance
    have iw31 : Grew B w W3 := by rw [hW3.out]; infer_instance
    have iw32 : Le w.heap.size W3 := by rw [hW3.out]; infer_instance
    have iw33 : Grew w.heap.size w W3 := by rw [hW3.out]; infer_instance
    have iw34 : Lt (w.heap.size) W3 := by rw [hW3.out]; infer_instance
    have iw35 : Lt (W1.heap.size) W3 := by rw [hW3.out]; infer_instance
    have iw36 : Lt ((lat W2 δ).heap.size) W3 := by rw [hW3.out]; infer_instance
    have iw37 : Le w.heap.size W3 := by rw [hW3.out]; infer_instance
    have iw38 : Grew w.heap.size W2 W3 := by rw [hW3.out]; infer_instance
    have iw39 : Le W1.heap.size W3 := by rw [hW3.out]; infer_instance
    have iw40 : Grew W1.heap.size W2 W3 := by rw [hW3.out]; infer_instance
    have iw41 : Le W2.heap.size W3 := by rw [hW3.out]; infer_instance
    have iw42 : Grew W2.heap.size W2 W3 := by rw [hW3.out]; infer_instance
    have bx3 : Box W3 (lat W2 δ).heap.size 76 (rowC n r.gA r.gc r.aA r.ac r.wA r.wc rt) := by
      rw [hW3.out]
      exact Box.new rfl
    have ot3 : W3.ownsRow W2.heap.size 3 1 (.slice rt.tA (worstT n).grips.length rt.tc) (worstT n).grips.length ((worstT n).grips.flatMap encI) := by
      rw [hW3.out]
      exact O1.out.alloc _
    have hgt := Lib.hid (own_block O1.out)
    have cw43 : W3.cell? ⟨w.heap.size, 5, none⟩ = some (.slice r.aA n.ancs.length r.ac) := by rw [hW3.out]; go_simp
    have q5 := bx3.cell (i := 5) rfl
    have f5 := bx3.free 5
    clear O1
    go_upto_region 7 with (go_at_call 32; refine (cloneA_c r.aA r.ac n.ancs _ rfl B _ H.out.up.2.1 (by omega)).mono ?_; rintro e w1 ⟨A1, c1, δ1, rfl, rfl, own1⟩; have O1 := Lib.hid own1; clear own1)
    refine wp_name fun W4 hW4 => ?_
    have hsz : W2.heap.size ≤ (lat W2 δ).heap.size := lat_size _ _
    have hsz3 : (lat W2 δ).heap.size < W3.heap.size := by rw [hW3.out]; simp
    have hsz2 : W1.heap.size < W2.heap.size := by rw [hW2.out]; simp
    obtain ⟨br, hbr⟩ : ∃ b, (lat W2 δ).heap.size = b := ⟨_, rfl⟩
    rw [hbr] at hW4 hsz hsz3 hgt bx3
    rw [hbr]
    clear hbr
    have I4 : NeedI n w r rt W1.heap.size W2.heap.size br W3.heap.size A1 c1 0 0 0 W4 := by
      rw [hW4.out]
      have hw1 : w.heap.size ≤ W1.heap.size := iw3.out
      have i1 : LeN w.heap.size br := ⟨by omega⟩
      have o1' := O1.out
      have o2' : (lat W3 δ1).ownsRow _ _ _ _ _ _ := owns_up O2.out
      refine ⟨inferInstance, inferInstance, (bx3.lat δ1).set 5 _, own_far o2' (by intro e; injection e with e; have e : W1.heap.size = br := e; omega), own_far (owns_lat δ1 ot3) ?_, own_far (by rw [ancsAt_start]; exact o1') ?_, hw1, hsz2, hsz, hsz3, hgt.out⟩
      · intro e
        have h1 : br < br := (hgt.out _ e).2
        omega
      · intro e
        have h1 : W3.heap.size ≤ br := (own_block o1' _ e).1
        omega
    have hc5 := I4.bx.cell (i := 5) rfl
    go_wp2_with (fail)
    obtain ⟨g2, hg2⟩ : ∃ b, b = W1.heap.size := ⟨_, rfl⟩
    obtain ⟨b2, hb2⟩ : ∃ b, b = W2.heap.size := ⟨_, rfl⟩
    obtain ⟨b3, hb3⟩ : ∃ b, b = W3.heap.size := ⟨_, rfl⟩
    rw [← hg2, ← hb2, ← hb3] at I4
    rw [← hg2]
    clear hg2 hb2 hb3
    go_loopg [28] n.ancs.length (fun g v wr => ∃ i : Nat, i ≤ n.ancs.length ∧ g = n.ancs.length - i ∧ v = .int .i64 i ∧ NeedI n w r rt g2 b2 br b3 A1 c1 i 0 0 wr ∧ Hid (∀ j, j < i → j < n.ancs.length → needN n j < topK n j))
    case atStart => exact ⟨0, Nat.zero_le _, rfl, rfl, I4, fun j hj => by omega⟩
    case round =>
      clear I4
      obtain ⟨i, hi, rfl, rfl, I, hj⟩ := hrel
      by_cases hlt : i < n.ancs.length
      · have ha := okAnc_nth HV.out hlt
        simp only [okAnc, decide_eq_true_eq] at ha
        have htop : (topK n i : Int) = 21 - (nth n.ancs i).wt := by unfold topK; rw [Int.toNat_of_nonneg (by omega)]
        have HT := Lib.hid htop
        have h0 : 0 < topK n i := by omega
        clear htop
        go_wp2_with (fail)
        go_loopg [] (topK n i) (fun g wr => ∃ k : Nat, k < topK n i ∧ g = topK n i - k ∧ NeedI n w r rt g2 b2 br b3 A1 c1 i k k wr ∧ Hid (∀ j, 0 ≤ j → j < k → (fun k => decide (0 ≤ spareK n i k)) j = false))
        case atStart => exact ⟨0, h0, rfl, I, fun j _ hj => by omega⟩
        case round =>
          clear I
          obtain ⟨k, hk, rfl, I, hn⟩ := hrel
          have i1 := I.grew
          have i2 := I.le
          have hc := Lib.hid (I.spare hB H.out HV.out hlt hk hj.out)
          have hbx := I.bx
          have ilt : Lt br wr := hbx.lt
          have b0 := hbx.cell (i := 0) rfl
          have b1 := hbx.cell (i := 1) rfl
          have b2' := hbx.cell (i := 2) rfl
          have b3' := hbx.cell (i := 3) rfl
          have b4 := hbx.cell (i := 4) rfl
          have b5 := hbx.cell (i := 5) rfl
          have b6 := hbx.cell (i := 6) rfl
          have b7 := hbx.cell (i := 7) rfl
          have b8 := hbx.cell (i := 8) rfl
          have b9 := hbx.cell (i := 9) rfl
          clear hbx
          by_cases hs : spareK n i k < 0
          · obtain ⟨g1, hA, hg1, j1, d1, f1⟩ := I.at1 hlt
            obtain ⟨j2, d2, f2⟩ := I.at2 hlt
            subst hA
            have ne : NeN g2 g1 := ⟨by have := I.h3; have := I.h4; have := I.h5; omega⟩
            have hk20 : (nth n.ancs i).wt + (k : Int) ≤ 20 := by have := HT.out; omega
            have hk0 : 0 ≤ (nth n.ancs i).wt + (k : Int) := by omega
            have hk1 : (k : Int) ≤ 20 := by omega
            have HS := Lib.hid (show decide (0 ≤ spareK n i k) = false by simpa using hs)
            by_cases hend : k + 1 = topK n i
            · have hz : ((nth n.ancs i).wt + k == 20) = true := by have := HT.out; simp; omega
              have HN := Lib.hid (show needE n = 3 ∧ needV n = [] by
                have e1 : needN n i = topK n i := firstHit_none _ fun j hj => by
                  by_cases e : j = k
                  · subst e; exact HS.out
                  · exact hn.out j (Nat.zero_le _) (by omega)
                have e2 : needOk n = false := by
                  unfold needOk
                  rw [List.all_eq_false]
                  exact ⟨i, by simpa using hlt, by rw [e1]; simp⟩
                exact ⟨by simp [needE, HV.out, e2], by simp [needV, e2]⟩)
              clear hend
              go_wp2_with (go_at_call 33; refine hc.out.mono ?_; rintro e w1 ⟨rfl, δ, rfl⟩)
              go_ret2
              refine ⟨none, 0, _, ?_, lat_def, ?_⟩
              · rw [HN.out.1, HN.out.2]; rfl
              · rw [HN.out.2]; exact Sl.none_
            · have hz : ((nth n.ancs i).wt + k == 20) = false := by have := HT.out; simp; omega
              have hk19 : (nth n.ancs i).wt + (k : Int) ≤ 19 := by have := HT.out; omega
              go_wp2_with (go_at_call 33; refine hc.out.mono ?_; rintro e w1 ⟨rfl, δ, rfl⟩)
              go_roundg (topK n i - (k + 1))
              case measure => omega
              case rel =>
                refine ⟨k + 1, by omega, rfl, ((I.lat δ).set1 hlt hg1).set2 hlt, fun j h0 hj => ?_⟩
                by_cases e : j = k
                · subst e; exact HS.out
                · exact hn.out j h0 (by omega)
          · have hkn : k = needN n i := by
              have h1 := firstHit_spec (fun k => decide (0 ≤ spareK n i k)) (topK n i) 0
              refine (firstHit_at _ hk (fun j hj => hn.out j (Nat.zero_le _) hj) ?_).symm
              exact decide_eq_true (by omega)
            have HK := Lib.hid hkn
            clear hkn
            go_wp2_with (go_at_call 33; refine hc.out.mono ?_; rintro e w1 ⟨rfl, δ, rfl⟩)
            go_roundg (n.ancs.length - (i + 1))
            case measure => omega
            case rel =>
              have I' := I.lat δ
              rw [HK.out] at I'
              refine ⟨i + 1, by omega, rfl, by go_num, I'.next, fun j h1 h2 => ?_⟩
              by_cases e : j = i
              · subst e; rw [← HK.out]; exact hk
              · exact hj.out j (by omega) h2
      · obtain rfl : i = n.ancs.length := by omega
        have i1 := I.grew
        have i2 := I.le
        have HE := Lib.hid (show needE n = 0 ∧ needV n = outAt n n.ancs.length 0 by
          have hok : needOk n = true := by
            unfold needOk
            rw [List.all_eq_true]
            intro j hj'
            have hj' : j < n.ancs.length := by simpa using hj'
            exact decide_eq_true (hj.out j hj' hj')
          refine ⟨by simp [needE, HV.out, hok], ?_⟩
          unfold needV
          rw [if_pos (by rw [HV.out, hok]; rfl)]
          refine list_ext_nth (by rw [outAt_len]; simp) fun j hj' => ?_
          have hj' : j < n.ancs.length := by simpa using hj'
          rw [outAt_nth _ _ _ hj', nth_range_map _ hj']
          simp [amt, hj'])
        go_wp2_with (fail)
        go_ret2
        refine ⟨some ⟨g2, 0, none⟩, n.ancs.length, wr, ?_, lat_def, ?_⟩
        · rw [HE.out.1, HE.out.2, outAt_len]; rfl
        · rw [HE.out.2, ← lat_def (w := w) (W := wr)]
          exact Sl.of_own (by rw [outAt_len]; exact I.o2)

end Go.Proofs.Ytnddiloeikaleaa
namespace Go.Proofs.Ytnddiloeikaleaa
open Go.RowKit
open An

namespace An
theorem ex_valid : valid exN = true := by decide
theorem ex_tru : truB exN exA = true := by decide
theorem ex_last (i : Nat) : lastB exN exA (fun _ => false) i = (6 : Nat).testBit i := by
  have ht : okTru exN exA := okTru_of ex_valid ex_tru
  have s1 : stepM exN exA 0 = 2 := by decide
  have s2 : stepM exN exA 2 = 6 := by decide
  have s3 : stepM exN exA 6 = 6 := by decide
  have o1 := (OnWay.start exN exA 0).step ht
  rw [s1] at o1
  have o2 := o1.step ht
  rw [s2] at o2
  have := o2.last s3 i
  have e : (fun k => Nat.testBit 0 k) = fun _ => false := funext fun i => Nat.zero_testBit i
  rw [e] at this
  exact (bit_last this).symm
theorem ex_drags : dragsV exN exA = [1, 2] := by
  unfold dragsV
  rw [if_pos (by rw [ex_valid, ex_tru]; rfl)]
  rw [show (lastB exN exA fun _ => false) = fun i => (6 : Nat).testBit i from funext ex_last]
  decide
theorem ex_spare : spareV exN 1 = ⟨-11, 31⟩ := by
  have : (spareV exN 1).lo = -11 ∧ (spareV exN 1).hi = 31 := by decide
  obtain ⟨a, b⟩ := this
  cases h : spareV exN 1
  rw [h] at a b
  simp at a b
  rw [a, b]
theorem ex_wind : windV (valid exN) (firstHit (hitW exN) 21 0) = 1 ∧ windE (valid exN) (firstHit (hitW exN) 21 0) = 0 := by decide
theorem ex_storm : windV (valid exN) (firstHit (hitS exN) 21 0) = 13 ∧ windE (valid exN) (firstHit (hitS exN) 21 0) = 0 := by decide
theorem ex_need : needV exN = [0, 6, 0] ∧ needE exN = 0 := by decide
theorem ex_ask1 : askE (valid exN) (truB exN exA) = 0 := by decide
theorem ex_ask2 : askE (valid exN) (inB 0 (exN.ancs.length - 1) 1) = 0 := by decide
end An

end Go.Proofs.Ytnddiloeikaleaa
