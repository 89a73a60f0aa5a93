/- Layer 2: rows that a call made, kept through stores elsewhere; a copied truth whose row is fresh. -/
import Derived.Test.YtgpcaaknpfopgaaDoorAn26
import Derived.Test.YtgpcaaknpfopgaaDoorBase6
namespace Go.Proofs.YtgpcaaknpfopgaaDoor
open Go.RowKit
open An

/-- Block b lies below base, or from hi on. -/
class Out (base hi b : Nat) : Prop where
  out : b < base ∨ hi ≤ b
instance {hi b : Nat} {w : World} [h : Lt b w] : Out w.heap.size hi b := ⟨.inl h.out⟩
instance {base hi b : Nat} [h : LeN hi b] : Out base hi b := ⟨.inr h.out⟩
instance {b : Nat} {w : World} [h : Lt b w] : NeN b w.heap.size := ⟨Nat.ne_of_lt h.out⟩
instance {b : Nat} {w : World} [h : Lt b w] : NeN w.heap.size b := ⟨Nat.ne_of_gt h.out⟩
/-- A row of the call's own, from block base on, below block hi. -/
def OwnR (base hi : Nat) (e : TypeId) (size n : Nat) (v : Value) (xs : List Value) (w : World) : Prop := w.ownsRow base e size v n xs ∧ ∀ g, v.ownBlock = some g → g < hi
section
variable {base hi : Nat} {e : TypeId} {size n : Nat} {v : Value} {xs : List Value} {w : World}
theorem OwnR.of (h : w.ownsRow base e size v n xs) : OwnR base w.heap.size e size n v xs w := ⟨h, fun g hg => (h.lt g hg).2⟩
theorem OwnR.alloc (h : OwnR base hi e size n v xs w) (o : Obj) : OwnR base hi e size n v xs (w.alloc o) := ⟨h.1.alloc o, h.2⟩
theorem OwnR.drew (h : OwnR base hi e size n v xs w) : OwnR base hi e size n v xs w.drew := h
theorem OwnR.lat (h : OwnR base hi e size n v xs w) (δ : World) : OwnR base hi e size n v xs (lat w δ) := ⟨owns_lat δ h.1, h.2⟩
theorem OwnR.set (h : OwnR base hi e size n v xs w) {b i : Nat} (u : Value) [ho : Out base hi b] : OwnR base hi e size n v xs (w.setCell ⟨b, i, none⟩ u) := by
  refine ⟨own_far h.1 ?_, h.2⟩
  intro hg
  have hg : v.ownBlock = some b := hg
  have h1 := h.2 _ hg
  have h2 := (h.1.lt _ hg).1
  have := ho.out
  omega
end
def NetR2 (base hi : Nat) (r : NetR) (n : Net) (w : World) : Prop :=
  OwnR base hi 23 2 n.grips.length (.slice r.gA n.grips.length r.gc) (n.grips.flatMap encSp) w ∧
  OwnR base hi 52 2 n.ancs.length (.slice r.aA n.ancs.length r.ac) (n.ancs.flatMap encAnc) w ∧
  OwnR base hi 46 5 n.wals.length (.slice r.wA n.wals.length r.wc) (n.wals.flatMap encWal) w
section
variable {base hi : Nat} {r : NetR} {n : Net} {w : World}
theorem NetR2.of (h : NetOwn base w r n) : NetR2 base w.heap.size r n w := ⟨OwnR.of h.1, OwnR.of h.2.1, OwnR.of h.2.2⟩
theorem NetR2.own (h : NetR2 base hi r n w) : NetOwn base w r n := ⟨h.1.1, h.2.1.1, h.2.2.1⟩
theorem NetR2.alloc (h : NetR2 base hi r n w) (o : Obj) : NetR2 base hi r n (w.alloc o) := ⟨h.1.alloc o, h.2.1.alloc o, h.2.2.alloc o⟩
theorem NetR2.drew (h : NetR2 base hi r n w) : NetR2 base hi r n w.drew := h
theorem NetR2.lat (h : NetR2 base hi r n w) (δ : World) : NetR2 base hi r n (lat w δ) := ⟨h.1.lat δ, h.2.1.lat δ, h.2.2.lat δ⟩
theorem NetR2.set (h : NetR2 base hi r n w) {b i : Nat} (u : Value) [ho : Out base hi b] : NetR2 base hi r n (w.setCell ⟨b, i, none⟩ u) := ⟨h.1.set u, h.2.1.set u, h.2.2.set u⟩
end
theorem net_go {base hi : Nat} {r : NetR} {n : Net} {w W : World} (h : NetR2 base hi r n w) (k : NetR2 base hi r n w → NetR2 base hi r n W) : NetIs W.heap.size W r n := (k h).own.is
theorem row_go {base hi : Nat} {e : TypeId} {A : Option Addr} {c : Nat} {xs : List Int} {w W : World} (h : OwnR base hi e 1 xs.length (.slice A xs.length c) (xs.flatMap encI) w) (k : OwnR base hi e 1 xs.length (.slice A xs.length c) (xs.flatMap encI) w → OwnR base hi e 1 xs.length (.slice A xs.length c) (xs.flatMap encI) W) : Sl encI W.heap.size W A c xs := Sl.of_own (k h).1
def TruR2 (base hi : Nat) (rt : TruR) (t : Tru) (w : World) : Prop := OwnR base hi 3 1 t.grips.length (.slice rt.tA t.grips.length rt.tc) (t.grips.flatMap encI) w

set_option maxRecDepth 100000 in
set_option maxHeartbeats 4000000 in
theorem copyTruthO_c (rt : TruR) (t : Tru) (B : Nat) (w : World) [hB : Le B w] (h : TruIs B w rt t) (q : t.grips.length ≤ 1000) :
    Calls Tryd.prog 52 #[truV rt t] w fun e w' => ∃ (rt' : TruR) (δ : World), e = .returned (truV rt' t) ∧ w' = lat w δ ∧ (lat w δ).ownsRow w.heap.size 3 1 (.slice rt'.tA t.grips.length rt'.tc) t.grips.length (t.grips.flatMap encI) := by
  have H := Lib.hid h
  clear h
  go_enter Tryd.func52, Tryd.ntmps52
  go_wp2_with (fail)
  refine wp_name fun W1 hW1 => ?_
  have iw1 : Le B W1 := by rw [hW1.out]; infer_instance
  have iw2 : Grew B w W1 := by rw [hW1.out]; infer_instance
  have iw3 : Le w.heap.size W1 := by rw [hW1.out]; infer_instance
  have iw4 : Grew w.heap.size w W1 := by rw [hW1.out]; infer_instance
  have iw5 : Lt (w.heap.size) W1 := by rw [hW1.out]; infer_instance
  have iw6 : Lt (w.heap.size + 1) W1 := by rw [hW1.out]; infer_instance
  have cw7 : W1.cell? ⟨w.heap.size, 0, none⟩ = some (.int .i64 t.wind) := by rw [hW1.out]; go_simp
  have cw8 : W1.cell? ⟨w.heap.size, 1, none⟩ = some (.int .i64 t.cur) := by rw [hW1.out]; go_simp
  have cw9 : W1.cell? ⟨w.heap.size, 2, none⟩ = some (.slice rt.tA t.grips.length rt.tc) := by rw [hW1.out]; go_simp
  have cw10 : W1.cell? ⟨w.heap.size + 1, 0, none⟩ = some (.int .i64 0) := by rw [hW1.out]; go_simp
  have cw11 : W1.cell? ⟨w.heap.size + 1, 1, none⟩ = some (.int .i64 0) := by rw [hW1.out]; go_simp
  have cw12 : W1.cell? ⟨w.heap.size + 1, 2, none⟩ = some (.slice none 0 0) := by rw [hW1.out]; go_simp
  have fw13 : W1.frozen? ⟨w.heap.size + 1, 0, none⟩ = false := by rw [hW1.out]; go_simp
  have fw14 : W1.frozen? ⟨w.heap.size + 1, 1, none⟩ = false := by rw [hW1.out]; go_simp
  have fw15 : W1.frozen? ⟨w.heap.size + 1, 2, none⟩ = false := by rw [hW1.out]; go_simp
  go_region_held3 (fun W => W.cell? ⟨w.heap.size, 0, none⟩ = some (.int .i64 t.wind) ∧ W.cell? ⟨w.heap.size, 1, none⟩ = some (.int .i64 t.cur) ∧ W.cell? ⟨w.heap.size, 2, none⟩ = some (.slice rt.tA t.grips.length rt.tc))
    (refine ⟨?_, ?_, ?_⟩ <;> go_simp)
    ((refine step_append_lit W1 slI (.tmp 7) (.tmp 9) rfl rfl (v := .slice (some ⟨_, 0, none⟩) 0 0) (by first | exact own_lit0 (by go_simp) (by go_simp) | exact (own_lit0 (by go_simp) (by go_simp)).alloc _) rfl (B := B) (A := rt.tA) (m := t.grips.length) (c := rt.tc) (news := t.grips.flatMap encI) rfl (H.out.up.2.2) (len_encI t.grips) (one_encI t.grips) (by omega) (by omega) ?_; intro A1 c1 δ1 own1 hg1))
  go_wp2_with (fail)
  refine bodyPost_ret (v := truV ⟨A1, c1⟩ t) ?_ rfl ?_
  · simp only [results, Tryd.results52]
    go_simp
  · refine ⟨⟨A1, c1⟩, _, rfl, lat_def, ?_⟩
    rw [← lat_def (w := w)]
    refine owns_mono (base := W1.heap.size) ?_ iw3.out
    iterate 3 (refine ownsRow_setCell_below (a := ⟨_, _, _⟩) ?_ iw6.out _)
    exact own1

end Go.Proofs.YtgpcaaknpfopgaaDoor
