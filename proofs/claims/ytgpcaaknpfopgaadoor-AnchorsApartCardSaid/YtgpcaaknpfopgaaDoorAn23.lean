/- Layer 2: the walk of Example of the law. -/
import Derived.Test.YtgpcaaknpfopgaaDoorAn21
namespace Go.Proofs.YtgpcaaknpfopgaaDoor
open Go.RowKit
open An

def exN : Net := ⟨⟨2, 4⟩, ⟨1, 3⟩, [⟨2, 3⟩, ⟨1, 4⟩], [⟨6, 0⟩, ⟨5, 1⟩, ⟨4, 0⟩], [⟨2, 1, 3, 8, 9⟩, ⟨1, 2, 2, 6, 6⟩]⟩
def exA : Tru := ⟨4, 3, [2, 1]⟩
def exB : Tru := ⟨2, 1, [3, 4]⟩

theorem Sl_box {α : Type} {enc : α → List Value} {W : World} (xs : List α) {T : TypeId} {b c : Nat} {cs : Array Value} (h : Box W b T cs) (hn : xs.length ≤ c) (hc : c ≤ 9223372036854775807) (hcs : cs.toList = xs.flatMap enc) : Sl enc W.heap.size W (some ⟨b, 0, none⟩) c xs := by
  refine ⟨hn, hc, fun _ => ⟨_, _, rfl, h.lt_, fun j v hj => ?_⟩⟩
  rw [Nat.zero_add]
  refine h.cell ?_
  rw [← Array.getElem?_toList, hcs]
  exact hj

set_option maxRecDepth 100000 in
set_option maxHeartbeats 4000000 in
theorem example_c (w : World) :
    Calls Tryd.prog 64 #[] w fun e w' => ∃ (r : NetR) (ra rb : TruR) (δ : World), e = .returned (.tuple #[netV r exN, truV ra exA, truV rb exB]) ∧ w' = lat w δ ∧ NetIs (lat w δ).heap.size (lat w δ) r exN ∧ TruIs (lat w δ).heap.size (lat w δ) ra exA ∧ TruIs (lat w δ).heap.size (lat w δ) rb exB := by
  go_enter Tryd.func64, Tryd.ntmps64
  go_wp2_with (fail)
  refine bodyPost_ret (v := .tuple #[netV ⟨some ⟨w.heap.size + 1 + 1 + 1, 0, none⟩, 2, some ⟨w.heap.size + 1 + 1 + 1 + 1, 0, none⟩, 3, some ⟨w.heap.size + 1 + 1 + 1 + 1 + 1, 0, none⟩, 2⟩ exN, truV ⟨some ⟨w.heap.size + 1 + 1 + 1 + 1 + 1 + 1, 0, none⟩, 2⟩ exA, truV ⟨some ⟨w.heap.size + 1 + 1 + 1 + 1 + 1 + 1 + 1, 0, none⟩, 2⟩ exB]) ?_ rfl ?_
  · simp only [results, Tryd.results64]
    go_simp
    simp [exN, exA, exB]
  · refine ⟨⟨some ⟨w.heap.size + 1 + 1 + 1, 0, none⟩, 2, some ⟨w.heap.size + 1 + 1 + 1 + 1, 0, none⟩, 3, some ⟨w.heap.size + 1 + 1 + 1 + 1 + 1, 0, none⟩, 2⟩, ⟨some ⟨w.heap.size + 1 + 1 + 1 + 1 + 1 + 1, 0, none⟩, 2⟩, ⟨some ⟨w.heap.size + 1 + 1 + 1 + 1 + 1 + 1 + 1, 0, none⟩, 2⟩, _, rfl, lat_def, ?_⟩
    rw [← lat_def (w := w)]
    refine ⟨⟨Sl_box exN.grips (T := 23) (cs := #[.int .i64 2, .int .i64 3, .int .i64 1, .int .i64 4]) ?_ (Nat.le_of_ble_eq_true rfl) (Nat.le_of_ble_eq_true rfl) rfl, Sl_box exN.ancs (T := 52) (cs := #[.int .i64 6, .int .i64 0, .int .i64 5, .int .i64 1, .int .i64 4, .int .i64 0]) ?_ (Nat.le_of_ble_eq_true rfl) (Nat.le_of_ble_eq_true rfl) rfl, Sl_box exN.wals (T := 46) (cs := #[.int .i64 2, .int .i64 1, .int .i64 3, .int .i64 8, .int .i64 9, .int .i64 1, .int .i64 2, .int .i64 2, .int .i64 6, .int .i64 6]) ?_ (Nat.le_of_ble_eq_true rfl) (Nat.le_of_ble_eq_true rfl) rfl⟩, Sl_box exA.grips (T := 3) (cs := #[.int .i64 2, .int .i64 1]) ?_ (Nat.le_of_ble_eq_true rfl) (Nat.le_of_ble_eq_true rfl) rfl, Sl_box exB.grips (T := 3) (cs := #[.int .i64 3, .int .i64 4]) ?_ (Nat.le_of_ble_eq_true rfl) (Nat.le_of_ble_eq_true rfl) rfl⟩
    all_goals repeat (first | exact Box.new (by go_simp) | refine Box.alloc ?_ _)

end Go.Proofs.YtgpcaaknpfopgaaDoor
