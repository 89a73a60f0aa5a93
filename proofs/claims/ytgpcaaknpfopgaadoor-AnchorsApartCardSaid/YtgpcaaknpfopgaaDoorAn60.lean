/- Layer 2: what the law AnchorsBack asks of a turned net. -/
import Derived.Test.YtgpcaaknpfopgaaDoorAn27
import Derived.Test.YtgpcaaknpfopgaaDoorAn42
import Derived.Test.YtgpcaaknpfopgaaDoorAn22
import Derived.Test.YtgpcaaknpfopgaaDoorAn48
import Derived.Test.YtgpcaaknpfopgaaDoorAnPlain12
namespace Go.Proofs.YtgpcaaknpfopgaaDoor
open Go.RowKit
open An

theorem givenV_is {n : Net} {t : Tru} {b : Bool} (hb : givenV n t = b) {r : NetR} {rt : TruR} {B : Nat} {w : World} [hB : Le B w] (h : NetIs B w r n) (h' : TruIs B w rt t) :
    Calls Tryd.prog 23 #[netV r n, truV rt t] w fun e w' => e = .returned (.bool b) ∧ ∃ δ, w' = lat w δ := by
  subst hb; exact givenV_c r n rt t B w h h'

namespace An
/-- What Wind, Storm say of a first hit m: the wind, and the error. -/
def hitX (m : Nat) : Int := if m = 21 then 0 else m
def hitE (m : Nat) : Int := if m = 21 then 3 else 0
theorem givenV_of {n : Net} {t : Tru} (h : givenV n t = true) : valid n = true ∧ truB n t = true ∧ farV n = false := by
  unfold givenV readyV at h
  simp only [Bool.and_eq_true, Bool.not_eq_true'] at h
  exact ⟨h.1.2, h.2.2, h.1.1⟩
end An
theorem wind_h (r : NetR) (n : Net) (m : Nat) (hm : wN n = m) (B : Nat) (w : World) [hB : Le B w] (h : NetIs B w r n) (hv : valid n = true) :
    Calls Tryd.prog 18 #[netV r n] w fun e w' => e = .returned (.tuple #[.int .i64 (hitX m), .int .i64 (hitE m)]) ∧ ∃ δ, w' = lat w δ := by
  subst hm
  by_cases hx : wN n = 21
  · have := wind_none r n B w h hv hx
    unfold hitX hitE
    rw [if_pos hx, if_pos hx]
    exact this
  · have l := wN_le n
    have := wind_some r n B w h hv (by omega)
    unfold hitX hitE
    rw [if_neg hx, if_neg hx]
    exact this
theorem storm_h (r : NetR) (n : Net) (m : Nat) (hm : sN n = m) (B : Nat) (w : World) [hB : Le B w] (h : NetIs B w r n) (hv : valid n = true) :
    Calls Tryd.prog 20 #[netV r n] w fun e w' => e = .returned (.tuple #[.int .i64 (hitX m), .int .i64 (hitE m)]) ∧ ∃ δ, w' = lat w δ := by
  subst hm
  by_cases hx : sN n = 21
  · have := storm_none r n B w h hv hx
    unfold hitX hitE
    rw [if_pos hx, if_pos hx]
    exact this
  · have l := sN_le n
    have := storm_some r n B w h hv (by omega)
    unfold hitX hitE
    rw [if_neg hx, if_neg hx]
    exact this
/-- Drag and Spare of a turned net, the anchor counted from the end. -/
theorem drag_t (r : NetR) (n : Net) (j : Nat) (i : Int) (hi : i = (n.ancs.length : Int) - 1 - j) (hv : valid n = true) (hj : j < n.ancs.length) (B : Nat) (w : World) [hB : Le B w] (h : NetIs B w r (turnN n)) :
    Calls Tryd.prog 30 #[netV r (turnN n), .int .i64 i] w fun e w' => e = .returned (.tuple #[.int .i64 (dragV n j), .int .i64 0]) ∧ ∃ δ, w' = lat w δ := by
  obtain rfl : i = ((n.ancs.length - 1 - j : Nat) : Int) := by omega
  exact drag_k r (turnN n) _ _ (dragV_turn hv hj rfl) (turn_valid hv) (by rw [turn_len]; omega) B w h
theorem spare_t (r : NetR) (n : Net) (j : Nat) (i : Int) (hi : i = (n.ancs.length : Int) - 1 - j) (hv : valid n = true) (hj : j < n.ancs.length) (B : Nat) (w : World) [hB : Le B w] (h : NetIs B w r (turnN n)) :
    Calls Tryd.prog 33 #[netV r (turnN n), .int .i64 i] w fun e w' => e = .returned (.tuple #[.agg #[.int .i64 (spareV n j).lo, .int .i64 (spareV n j).hi], .int .i64 0]) ∧ ∃ δ, w' = lat w δ := by
  obtain rfl : i = ((n.ancs.length - 1 - j : Nat) : Int) := by omega
  have := spare_k r (turnN n) _ (turn_valid hv) (show n.ancs.length - 1 - j < (turnN n).ancs.length by rw [turn_len]; omega) B w h
  rw [spareV_turn hv hj rfl] at this
  exact this

set_option maxRecDepth 100000 in
set_option maxHeartbeats 4000000 in
theorem mirrored_c (r : NetR) (n : Net) (A A' : Option Addr) (c c' : Nat) (xs ys : List Int) (B : Nat) (w : World) [hB : Le B w] (h : Sl encI B w A c xs) (h' : Sl encI B w A' c' ys) (hm : Mir n.ancs.length xs ys) (h6 : n.ancs.length ≤ 6) (hr : ∀ k, k < ys.length → 0 ≤ nth ys k ∧ nth ys k ≤ 100) :
    Calls Tryd.prog 32 #[netV r n, .slice A xs.length c, .slice A' ys.length c'] w fun e w' => e = .returned (.bool true) ∧ ∃ δ, w' = lat w δ := by
  have hl := h.len
  have hl' := h'.len
  have HM := Lib.hid hm
  have HR := Lib.hid hr
  have hb : ((xs.length : Int) != (ys.length : Int)) = false := by rw [hm.1]; exact bne_self_eq_false _
  have HL := Lib.hid hm.1
  clear hm hr
  go_enter Tryd.func32, Tryd.ntmps32
  go_upto_region 3 with fail
  refine wp_name fun W1 hW1 => ?_
  have iw1 : Le B W1 := by rw [hW1.out]; infer_instance
  have iw2 : Grew B w W1 := by rw [hW1.out]; infer_instance
  have iw3 : Le w.heap.size W1 := by rw [hW1.out]; infer_instance
  have iw4 : Grew w.heap.size w W1 := by rw [hW1.out]; infer_instance
  have iw5 : Lt (w.heap.size) W1 := by rw [hW1.out]; infer_instance
  have cw6 : W1.cell? ⟨w.heap.size, 0, none⟩ = some (.int .i64 n.wind.lo) := by rw [hW1.out]; go_simp
  have cw7 : W1.cell? ⟨w.heap.size, 1, none⟩ = some (.int .i64 n.wind.hi) := by rw [hW1.out]; go_simp
  have cw8 : W1.cell? ⟨w.heap.size, 2, none⟩ = some (.int .i64 n.cur.lo) := by rw [hW1.out]; go_simp
  have cw9 : W1.cell? ⟨w.heap.size, 3, none⟩ = some (.int .i64 n.cur.hi) := by rw [hW1.out]; go_simp
  have cw10 : W1.cell? ⟨w.heap.size, 4, none⟩ = some (.slice r.gA n.grips.length r.gc) := by rw [hW1.out]; go_simp
  have cw11 : W1.cell? ⟨w.heap.size, 5, none⟩ = some (.slice r.aA n.ancs.length r.ac) := by rw [hW1.out]; go_simp
  have cw12 : W1.cell? ⟨w.heap.size, 6, none⟩ = some (.slice r.wA n.wals.length r.wc) := by rw [hW1.out]; go_simp
  have h1 : Sl encI B W1 A c xs := h.up
  have h1' : Sl encI B W1 A' c' ys := h'.up
  go_wp2_with (fail)
  go_loopg [7] xs.length (fun g i wr => ∃ (k : Nat) (δ : World), k ≤ xs.length ∧ g = xs.length - k ∧ i = .int .i64 k ∧ wr = lat W1 δ)
  case atStart => exact ⟨0, W1, Nat.zero_le _, rfl, rfl, (lat_refl W1).symm⟩
  case round =>
    obtain ⟨k, δ, hk, rfl, rfl, rfl⟩ := hrel
    by_cases hlt : k < xs.length
    · obtain ⟨b, o, rfl, hb1, d0⟩ := h1.int hlt
      have hkk := HL.out
      obtain ⟨m, hm⟩ : ∃ m, ys.length = k + 1 + m := ⟨ys.length - 1 - k, by omega⟩
      obtain ⟨b', o', rfl, hb2, d1⟩ := h1'.int (show m < ys.length by omega)
      have ib : Lt b W1 := ⟨Nat.lt_of_lt_of_le hb1 (inferInstance : Le B W1).out⟩
      have ib' : Lt b' W1 := ⟨Nat.lt_of_lt_of_le hb2 (inferInstance : Le B W1).out⟩
      have hz : (ys.length : Int) - 1 - (k : Int) = (m : Int) := by omega
      have hq : (nth xs k != (n.ancs.length : Int) - 1 - nth ys m) = false := by
        rw [HM.out.2 k hlt, show ys.length - 1 - k = m by omega]
        exact bne_self_eq_false _
      have hr := HR.out m (by omega)
      have hr0 : 0 ≤ nth ys m := hr.1
      have hr1 : nth ys m ≤ 100 := hr.2
      have hki : (k : Int) < (xs.length : Int) := by omega
      have hk0 : ¬ (k : Int) < 0 := by omega
      have hmi : (m : Int) < (ys.length : Int) := by omega
      have hm0 : ¬ (m : Int) < 0 := by omega
      have HK := Lib.hid (And.intro hlt hm)
      clear hkk hm hr hlt
      go_wp2_with (fail)
      refine wp_region_lat (by kernel_rfl) (by kernel_rfl) ?_
      repeat (go_big_quiet_step ((first | (fail))))
      refine wpQuiet_nil ?_
      rintro _ ⟨δq, rfl⟩
      go_wp2_with (fail)
      go_roundg (xs.length - (k + 1))
      case measure => have := HK.out.1; omega
      case rel => exact ⟨k + 1, _, HK.out.1, rfl, by go_num, lat_def⟩
    · obtain rfl : k = xs.length := by omega
      go_wp2_with (fail)
      go_ret
      exact ⟨rfl, lat_ex⟩

end Go.Proofs.YtgpcaaknpfopgaaDoor
