/- Layer 2: an anchor or a wall of an own net is written. -/
import Derived.Test.YtgpcaaknpfopgaaDoorAn47
import Derived.Test.YtgpcaaknpfopgaaDoorAnPlain13
namespace Go.Proofs.YtgpcaaknpfopgaaDoor
open Go.RowKit
open An

section
variable {base g i ac wc gc : Nat} {gA aA wA : Option Addr} {n : Net} {w : World}
/-- One cell of an anchor is written. -/
theorem NetOwn.cellA (h : NetOwn base w ⟨gA, gc, some ⟨g, 0, none⟩, ac, wA, wc⟩ n) (hi : i < n.ancs.length) {j : Nat} (hj : j < 2) {y : Anc} {u : Value} (hy : encAnc y = (encAnc (nth n.ancs i)).set j u) :
    NetOwn base (w.setCell ⟨g, i * 2 + j, none⟩ u) ⟨gA, gc, some ⟨g, 0, none⟩, ac, wA, wc⟩ ⟨n.wind, n.cur, n.grips, n.ancs.set i y, n.wals⟩ := by
  have k1 := own_ne h.1 h.2.1 (by decide)
  have k3 := own_ne h.2.2 h.2.1 (by decide)
  have o1 := own_set (u := u) (i := i * 2 + j) h.2.1 (by rw [len_enc encAnc 2 (fun _ => rfl)]; omega)
  rw [flatMap_set encAnc 2 (fun _ => rfl) n.ancs i j u y hi hj hy] at o1
  refine ⟨own_far h.1 (p := ⟨g, i * 2 + j, none⟩) k1, ?_, own_far h.2.2 (p := ⟨g, i * 2 + j, none⟩) k3⟩
  show World.ownsRow _ base _ 2 (.slice _ (n.ancs.set i y).length ac) (n.ancs.set i y).length _
  rw [List.length_set]
  exact o1
/-- One cell of a wall is written. -/
theorem NetOwn.cellW (h : NetOwn base w ⟨gA, gc, aA, ac, some ⟨g, 0, none⟩, wc⟩ n) (hi : i < n.wals.length) {j : Nat} (hj : j < 5) {y : Wal} {u : Value} (hy : encWal y = (encWal (nth n.wals i)).set j u) :
    NetOwn base (w.setCell ⟨g, i * 5 + j, none⟩ u) ⟨gA, gc, aA, ac, some ⟨g, 0, none⟩, wc⟩ ⟨n.wind, n.cur, n.grips, n.ancs, n.wals.set i y⟩ := by
  have k1 := own_ne h.1 h.2.2 (by decide)
  have k3 := own_ne h.2.1 h.2.2 (by decide)
  have o1 := own_set (u := u) (i := i * 5 + j) h.2.2 (by rw [len_enc encWal 5 (fun _ => rfl)]; omega)
  rw [flatMap_set encWal 5 (fun _ => rfl) n.wals i j u y hi hj hy] at o1
  refine ⟨own_far h.1 (p := ⟨g, i * 5 + j, none⟩) k1, own_far h.2.1 (p := ⟨g, i * 5 + j, none⟩) k3, ?_⟩
  show World.ownsRow _ base _ 5 (.slice _ (n.wals.set i y).length wc) (n.wals.set i y).length _
  rw [List.length_set]
  exact o1
theorem NetOwn.setA (h : NetOwn base w ⟨gA, gc, some ⟨g, 0, none⟩, ac, wA, wc⟩ n) (hi : i < n.ancs.length) (y : Anc) :
    NetOwn base ((w.setCell ⟨g, i * 2, none⟩ (.int .i64 y.wt)).setCell ⟨g, i * 2 + 1, none⟩ (.int .i64 y.bt)) ⟨gA, gc, some ⟨g, 0, none⟩, ac, wA, wc⟩ ⟨n.wind, n.cur, n.grips, n.ancs.set i y, n.wals⟩ := by
  have o1 := h.cellA hi (j := 0) (by omega) (y := ⟨y.wt, (nth n.ancs i).bt⟩) (u := .int .i64 y.wt) rfl
  have o2 := o1.cellA (i := i) (by simpa using hi) (j := 1) (by omega) (y := y) (u := .int .i64 y.bt) (by simp only [nth_set _ _ _ hi, if_pos]; rfl)
  simp only [List.set_set] at o2
  exact o2
theorem NetOwn.setW (h : NetOwn base w ⟨gA, gc, aA, ac, some ⟨g, 0, none⟩, wc⟩ n) (hi : i < n.wals.length) (y : Wal) :
    NetOwn base (((((w.setCell ⟨g, i * 5, none⟩ (.int .i64 y.sail)).setCell ⟨g, i * 5 + 1, none⟩ (.int .i64 y.drag)).setCell ⟨g, i * 5 + 2, none⟩ (.int .i64 y.lean)).setCell ⟨g, i * 5 + 3, none⟩ (.int .i64 y.corks)).setCell ⟨g, i * 5 + 4, none⟩ (.int .i64 y.stones))
      ⟨gA, gc, aA, ac, some ⟨g, 0, none⟩, wc⟩ ⟨n.wind, n.cur, n.grips, n.ancs, n.wals.set i y⟩ := by
  have e := nth_set n.wals i
  have o1 := h.cellW hi (j := 0) (by omega) (y := ⟨y.sail, (nth n.wals i).drag, (nth n.wals i).lean, (nth n.wals i).corks, (nth n.wals i).stones⟩) (u := .int .i64 y.sail) rfl
  have o2 := o1.cellW (i := i) (by simpa using hi) (j := 1) (by omega) (y := ⟨y.sail, y.drag, (nth n.wals i).lean, (nth n.wals i).corks, (nth n.wals i).stones⟩) (u := .int .i64 y.drag) (by simp only [nth_set _ _ _ hi, if_pos]; rfl)
  simp only [List.set_set] at o2
  have o3 := o2.cellW (i := i) (by simpa using hi) (j := 2) (by omega) (y := ⟨y.sail, y.drag, y.lean, (nth n.wals i).corks, (nth n.wals i).stones⟩) (u := .int .i64 y.lean) (by simp only [nth_set _ _ _ hi, if_pos]; rfl)
  simp only [List.set_set] at o3
  have o4 := o3.cellW (i := i) (by simpa using hi) (j := 3) (by omega) (y := ⟨y.sail, y.drag, y.lean, y.corks, (nth n.wals i).stones⟩) (u := .int .i64 y.corks) (by simp only [nth_set _ _ _ hi, if_pos]; rfl)
  simp only [List.set_set] at o4
  have o5 := o4.cellW (i := i) (by simpa using hi) (j := 4) (by omega) (y := y) (u := .int .i64 y.stones) (by simp only [nth_set _ _ _ hi, if_pos]; rfl)
  simp only [List.set_set] at o5
  exact o5
theorem NetOwn.lat {r : NetR} (h : NetOwn base w r n) (δ : World) : NetOwn base (lat w δ) r n := ⟨owns_lat δ h.1, owns_lat δ h.2.1, owns_lat δ h.2.2⟩
end

end Go.Proofs.YtgpcaaknpfopgaaDoor
