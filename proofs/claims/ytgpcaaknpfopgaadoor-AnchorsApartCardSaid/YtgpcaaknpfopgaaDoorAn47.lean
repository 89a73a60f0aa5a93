/- Layer 2: the walk of Heavier of the reference. -/
import Derived.Test.YtgpcaaknpfopgaaDoorAnPlain10
import Derived.Test.YtgpcaaknpfopgaaDoorAn22
namespace Go.Proofs.YtgpcaaknpfopgaaDoor
open Go.RowKit
open An

theorem own_ne {w : World} {base base' g n n' c' size size' : Nat} {e e' : TypeId} {v : Value} {xs xs' : List Value} (h : w.ownsRow base e size v n xs) (h' : w.ownsRow base' e' size' (.slice (some ⟨g, 0, none⟩) n' c') n' xs') (hne : e ≠ e') : v.ownBlock ≠ some g := by
  intro hv
  rcases h.2 with h2 | ⟨g1, cap1, cur1, hv1, _, h2, _⟩
  · rw [h2.1] at hv; cases hv
  · rw [hv1] at hv
    injection hv with hv
    rcases h'.2 with ⟨h3, _⟩ | ⟨g2, _, cur2, hv2, _, h4, _⟩
    · cases h3
    · injection hv2 with hA
      injection hA with hA
      injection hA with hg
      subst hg
      subst hv
      rw [h2] at h4
      injection h4 with h4
      injection h4 with _ he
      exact hne he

set_option maxRecDepth 100000 in
set_option maxHeartbeats 4000000 in
theorem heavierO_c (r : NetR) (n : Net) (i : Nat) (x : Int) (hi : i < n.ancs.length) (hx : -100 ≤ (nth n.ancs i).wt + x ∧ (nth n.ancs i).wt + x ≤ 100) (B : Nat) (w : World) [hB : Le B w] (h : NetIs B w r n) (q1 : n.grips.length ≤ 1000) (q2 : n.ancs.length ≤ 1000) (q3 : n.wals.length ≤ 1000) :
    Calls Tryd.prog 29 #[netV r n, .int .i64 i, .int .i64 x] w fun e w' => ∃ (r' : NetR) (δ : World), e = .returned (netV r' (heav n i x)) ∧ w' = lat w δ ∧ NetOwn w.heap.size (lat w δ) r' (heav n i x) := by
  have H := Lib.hid h
  clear h
  go_enter Tryd.func29, Tryd.ntmps29
  go_wp2_with (fail)
  refine (copy_c r n B _ H.out.up q1 q2 q3).mono ?_
  rintro e w1 ⟨r', δ, rfl, rfl, ho⟩
  obtain ⟨gA, gc, aA, ac, wA, wc⟩ := r'
  obtain ⟨g, rfl, hb, hl, hc, hf⟩ := own_at ho.2.1 (by omega)
  rw [show netV ⟨gA, gc, some ⟨g, 0, none⟩, ac, wA, wc⟩ n = Value.agg #[.int .i64 n.wind.lo, .int .i64 n.wind.hi, .int .i64 n.cur.lo, .int .i64 n.cur.hi, .slice gA n.grips.length gc, .slice (some ⟨g, 0, none⟩) n.ancs.length ac, .slice wA n.wals.length wc] from rfl]
  have c0 := hc (i * 2) (.int .i64 (nth n.ancs i).wt) (by have := flatMap_nth encAnc 2 (fun _ => rfl) n.ancs i 0 hi (by omega); rw [Nat.add_zero] at this; rw [this]; rfl)
  have c1 := hc (i * 2 + 1) (.int .i64 (nth n.ancs i).bt) (by have := flatMap_nth encAnc 2 (fun _ => rfl) n.ancs i 1 hi (by omega); rw [this]; rfl)
  have f0 := hf (i * 2)
  have f1 := hf (i * 2 + 1)
  have HO := Lib.hid ho
  clear ho hc hf
  have hb1 : w.heap.size + 1 < g := by
    refine Nat.lt_of_lt_of_le ?_ hb
    go_simp
  have hki : (i : Int) < (n.ancs.length : Int) := by omega
  have hk0 : ¬ (i : Int) < 0 := by omega
  have i1 : NeN (w.heap.size + 1) g := ⟨by omega⟩
  have i2 : NeN g (w.heap.size + 1) := ⟨by omega⟩
  have i3 : NeN w.heap.size g := ⟨by omega⟩
  have i4 : NeN g w.heap.size := ⟨by omega⟩
  have i5 : LeN w.heap.size g := ⟨by omega⟩
  clear hb hb1
  have b1 : w.heap.size + 1 < (w.alloc (Obj.cells #[.int .i64 n.wind.lo, .int .i64 n.wind.hi, .int .i64 n.cur.lo, .int .i64 n.cur.hi, .slice r.gA n.grips.length r.gc, .slice r.aA n.ancs.length r.ac, .slice r.wA n.wals.length r.wc] 28)).heap.size + 1 := by go_simp
  have k1 := own_ne HO.out.1 HO.out.2.1 (by decide)
  have k3 := own_ne HO.out.2.2 HO.out.2.1 (by decide)
  have o1 := own_set (u := .int .i64 ((nth n.ancs i).wt + x)) (i := i * 2) HO.out.2.1 (by rw [len_enc encAnc 2 (fun _ => rfl)]; omega)
  have o2 := own_set (u := .int .i64 (nth n.ancs i).bt) (i := i * 2 + 1) o1 (by rw [List.length_set, len_enc encAnc 2 (fun _ => rfl)]; omega)
  have e1 := flatMap_set encAnc 2 (fun _ => rfl) n.ancs i 0 (.int .i64 ((nth n.ancs i).wt + x)) (heavA (nth n.ancs i) x) hi (by omega) rfl
  rw [Nat.add_zero] at e1
  have e2 := flatMap_set encAnc 2 (fun _ => rfl) (n.ancs.set i (heavA (nth n.ancs i) x)) i 1 (.int .i64 (nth n.ancs i).bt) (heavA (nth n.ancs i) x) (by rw [List.length_set]; exact hi) (by omega) (by rw [nth_set _ _ _ hi, if_pos rfl]; rfl)
  rw [List.set_set] at e2
  rw [e1, e2] at o2
  have HA := Lib.hid (And.intro (own_far (own_far HO.out.1 (p := ⟨g, i * 2, none⟩) k1 (u := .int .i64 ((nth n.ancs i).wt + x))) (p := ⟨g, i * 2 + 1, none⟩) k1 (u := .int .i64 (nth n.ancs i).bt)) (And.intro o2 (own_far (own_far HO.out.2.2 (p := ⟨g, i * 2, none⟩) k3 (u := .int .i64 ((nth n.ancs i).wt + x))) (p := ⟨g, i * 2 + 1, none⟩) k3 (u := .int .i64 (nth n.ancs i).bt))))
  clear o1 o2 e1 e2 k1 k3
  go_wp2_with (fail)
  refine bodyPost_ret (v := netV ⟨gA, gc, some ⟨g, 0, none⟩, ac, wA, wc⟩ (heav n i x)) ?_ rfl ?_
  · simp only [results, Tryd.results29]
    go_simp
    simp [heav, setA, netV]
  · refine ⟨⟨gA, gc, some ⟨g, 0, none⟩, ac, wA, wc⟩, _, rfl, lat_def, ?_⟩
    rw [← lat_def (w := w)]
    refine NetOwn.mono (base := (w.alloc (Obj.cells #[.int .i64 n.wind.lo, .int .i64 n.wind.hi, .int .i64 n.cur.lo, .int .i64 n.cur.hi, .slice r.gA n.grips.length r.gc, .slice r.aA n.ancs.length r.ac, .slice r.wA n.wals.length r.wc] 28)).heap.size + 1) ?_ (by go_simp; omega)
    refine NetOwn.alloc (NetOwn.alloc ?_ _) _
    iterate 7 (refine NetOwn.set ?_ b1 _)
    unfold NetOwn
    rw [heav_len]
    exact ⟨owns_mono HA.out.1 (by go_simp), owns_mono HA.out.2.1 (by go_simp), owns_mono HA.out.2.2 (by go_simp)⟩

theorem heavier_c (r : NetR) (n : Net) (i : Nat) (x : Int) (hi : i < n.ancs.length) (hx : -100 ≤ (nth n.ancs i).wt + x ∧ (nth n.ancs i).wt + x ≤ 100) (B : Nat) (w : World) [hB : Le B w] (h : NetIs B w r n) (q1 : n.grips.length ≤ 1000) (q2 : n.ancs.length ≤ 1000) (q3 : n.wals.length ≤ 1000) :
    Calls Tryd.prog 29 #[netV r n, .int .i64 i, .int .i64 x] w fun e w' => ∃ (r' : NetR) (δ : World), e = .returned (netV r' (heav n i x)) ∧ w' = lat w δ ∧ NetIs (lat w δ).heap.size (lat w δ) r' (heav n i x) := by
  refine (heavierO_c r n i x hi hx B w h q1 q2 q3).mono ?_
  rintro e w1 ⟨r', δ, rfl, rfl, ho⟩
  exact ⟨r', δ, rfl, rfl, ho.is⟩

end Go.Proofs.YtgpcaaknpfopgaaDoor
