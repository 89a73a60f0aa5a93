/- Layer 4: what the laws share: equal lists, the chapter's example, works. -/
import Derived.Test.YtbfehifidlojlaaMe14
namespace Go.Proofs.Ytbfehifidlojlaa
open Go.RowKit
open Me

def sameL (xs ys : List Int) : Bool := decide (xs = ys)
theorem same_iff {xs ys : List Int} : sameL xs ys = true ↔ xs.length = ys.length ∧ ∀ k, k < xs.length → nth xs k = nth ys k := by
  unfold sameL
  rw [decide_eq_true_eq]
  constructor
  · rintro rfl; exact ⟨rfl, fun _ _ => rfl⟩
  · rintro ⟨h1, h2⟩
    apply List.ext_getElem h1
    intro k a b
    have := h2 k a
    rwa [nth_get _ a, nth_get _ b] at this
set_option maxRecDepth 100000 in
set_option maxHeartbeats 1000000 in
theorem sameInts_c (A A' : Option Addr) (c c' m m' : Nat) (xs ys : List Int) (hm : xs.length = m) (hm' : ys.length = m') (b : Bool) (hb : sameL xs ys = b) (B B' : Nat) (w : World) [hB : Le B w] [hB' : Le B' w] (h : Sl encI B w A c xs) (h' : Sl encI B' w A' c' ys) :
    Calls Try.prog 26 #[.slice A m c, .slice A' m' c'] w fun e w' => e = .returned (.bool b) ∧ ∃ δ, w' = lat w δ := by
  subst hm hm' hb
  have l1 := h.len
  have l2 := h'.len
  by_cases hlen : xs.length = ys.length
  · have h0 : ((xs.length : Int) != (ys.length : Int)) = false := by simp [hlen]
    have HL := Lib.hid hlen
    clear hlen
    go_enter Try.func26, Try.ntmps26
    go_wp2_with (fail)
    go_loopw [5] (fun i wr => ∃ (k : Nat) (δ : World), k ≤ xs.length ∧ i = .int .i64 k ∧ Hid (∀ j, j < k → nth xs j = nth ys j) ∧ wr = lat w δ) (fun i _ => xs.length - (intOf i).toNat)
    case atStart => exact ⟨0, w, Nat.zero_le _, rfl, fun j hj => by omega, (lat_refl w).symm⟩
    case round =>
      obtain ⟨k, δ, hk, rfl, hn, rfl⟩ := hrel
      by_cases hlt : k < xs.length
      · obtain ⟨b, o, rfl, hb, hc⟩ := h.int hlt
        have hlt' : k < ys.length := by have := HL.out; omega
        obtain ⟨b', o', rfl, hb', hc'⟩ := h'.int hlt'
        have i1 : Lt b w := ⟨Nat.lt_of_lt_of_le hb hB.out⟩
        have i2 : Lt b' w := ⟨Nat.lt_of_lt_of_le hb' hB'.out⟩
        have hki : (k : Int) < (xs.length : Int) := by omega
        have hki' : (k : Int) < (ys.length : Int) := by omega
        have hk0 : ¬ (k : Int) < 0 := by omega
        by_cases he : nth xs k = nth ys k
        · have he' : (nth xs k != nth ys k) = false := by simp [he]
          have HE := Lib.hid he
          clear he
          go_wp2_with (fail)
          refine wp_region_lat (by kernel_rfl) (by kernel_rfl) ?_
          repeat (go_big_quiet_step ((first | (fail))))
          refine wpQuiet_nil ?_
          rintro _ ⟨δq, rfl⟩
          go_wp2_with (fail)
          go_roundw
          case rel =>
            refine ⟨k + 1, _, by omega, by go_num, fun j hj => ?_, lat_def⟩
            by_cases hjk : j = k
            · subst hjk; exact HE.out
            · exact hn.out j (by omega)
          case measure => simp [intOf]; omega
        · have he' : (nth xs k != nth ys k) = true := by simpa using he
          have HE := Lib.hid he
          clear he
          go_wp2_with (fail)
          refine wp_region_lat (by kernel_rfl) (by kernel_rfl) ?_
          repeat (go_big_quiet_step ((first | (fail))))
          refine wpQuiet_nil ?_
          rintro _ ⟨δq, rfl⟩
          go_wp2_with (fail)
          go_ret
          refine ⟨ret_bool ?_, lat_ex⟩
          have : sameL xs ys = false := by
            cases hs : sameL xs ys with
            | false => rfl
            | true => exact absurd ((same_iff.1 hs).2 k hlt) HE.out
          rw [this]
      · obtain rfl : k = xs.length := by omega
        go_wp2
        go_ret
        exact ⟨ret_bool (same_iff.2 ⟨HL.out, hn.out⟩).symm, lat_ex⟩
  · have h0 : ((xs.length : Int) != (ys.length : Int)) = true := by simp; omega
    have HL := Lib.hid hlen
    clear hlen
    go_enter Try.func26, Try.ntmps26
    go_wp2_with (fail)
    go_ret
    refine ⟨ret_bool ?_, lat_ex⟩
    cases hs : sameL xs ys with
    | false => rfl
    | true => exact absurd (same_iff.1 hs).1 HL.out

def exN : Net := ⟨1, [⟨0, 2, 3, 2⟩, ⟨0, 5, 6, 3⟩, ⟨1, 4, 8, 1⟩], [⟨0, 2⟩]⟩
def exM : Net := ⟨2, [⟨0, 2, 3, 2⟩, ⟨0, 5, 6, 3⟩, ⟨1, 4, 8, 1⟩], [⟨0, 2⟩]⟩

theorem hole_c (a b c d : Int) (w : World) : Calls Try.prog 93 #[.int .i64 a, .int .i64 b, .int .i64 c, .int .i64 d] w fun e w' => e = .returned (.agg #[.int .i64 a, .int .i64 b, .int .i64 c, .int .i64 d]) ∧ ∃ δ, w' = lat w δ := by
  go_enter Try.func93, Try.ntmps93
  go_wp2_with (fail)
  refine bodyPost_ret (v := .agg #[.int .i64 a, .int .i64 b, .int .i64 c, .int .i64 d]) ?_ rfl ⟨rfl, lat_ex⟩
  simp only [results, Try.results93]
  go_simp

theorem Sl_box {α : Type} {enc : α → List Value} {W : World} (xs : List α) {T : TypeId} {b c : Nat} {cs : Array Value} (h : Box W b T cs) (hn : xs.length ≤ c) (hc : c ≤ 9223372036854775807) (hcs : cs.toList = xs.flatMap enc) : Sl enc W.heap.size W (some ⟨b, 0, none⟩) c xs := by
  refine ⟨hn, hc, fun _ => ⟨_, _, rfl, h.lt_, fun j v hj => ?_⟩⟩
  rw [Nat.zero_add]
  refine h.cell ?_
  rw [← Array.getElem?_toList, hcs]
  exact hj

set_option maxRecDepth 100000 in
set_option maxHeartbeats 4000000 in
theorem example_c (w : World) :
    Calls Try.prog 59 #[] w fun e w' => ∃ (r : NetR) (δ : World), e = .returned (.tuple #[netV r exN, netV r exM]) ∧ w' = lat w δ ∧ Hid (NetIs (lat w δ).heap.size (lat w δ) r exN) := by
  go_enter Try.func59, Try.ntmps59
  go_wp2_with (go_at_call 93; refine (hole_c _ _ _ _ _).mono ?_; rintro e w1 ⟨rfl, δ, hw⟩; have b0 : Box w1 w.heap.size 25 #[.int .i64 0, .slice none 0 0, .slice none 0 0] := (by rw [hw]; first | exact b0.lat _ | exact ((Box.new rfl).alloc _).lat _); have b1 : Box w1 (w.heap.size + 1) 25 #[.int .i64 0, .slice none 0 0, .slice none 0 0] := (by rw [hw]; first | exact b1.lat _ | exact (Box.new (by simp)).lat _); have c00 := b0.cell (i := 0) rfl; have c01 := b0.cell (i := 1) rfl; have c02 := b0.cell (i := 2) rfl; have c10 := b1.cell (i := 0) rfl; have c11 := b1.cell (i := 1) rfl; have c12 := b1.cell (i := 2) rfl; have f00 := b0.free 0; have f01 := b0.free 1; have f02 := b0.free 2; have f10 := b1.free 0; have f11 := b1.free 1; have f12 := b1.free 2; have l0 := b0.lt; have l1 := b1.lt; have g3 : Grew w.heap.size w w1 := (by rw [hw]; infer_instance); have g4 : Le w.heap.size w1 := (by rw [hw]; infer_instance); clear hw)
  have B0 := Lib.hid b0
  have B1 := Lib.hid b1
  clear b0 b1
  refine wp_name fun W0 hW0 => ?_
  have q0 : Box W0 w.heap.size 25 #[.int .i64 1, .slice (some ⟨w1.heap.size, 0, none⟩) 3 3, .slice (some ⟨w1.heap.size + 1, 0, none⟩) 1 1] := by
    rw [hW0.out]
    refine Box.alloc (Box.alloc ?_ _) _
    refine Box.far (Box.far (Box.far (Box.far ?_ ?_ _) ?_ _) ?_ _) ?_ _
    · exact ((B0.out.set 0 _).set 1 _).set 2 _
    all_goals (show w.heap.size ≠ w.heap.size + 1; omega)
  have q1 : Box W0 (w.heap.size + 1) 25 #[.int .i64 2, .slice (some ⟨w1.heap.size, 0, none⟩) 3 3, .slice (some ⟨w1.heap.size + 1, 0, none⟩) 1 1] := by
    rw [hW0.out]
    refine Box.alloc (Box.alloc ?_ _) _
    refine Box.set (cs := #[.int .i64 1, .slice (some ⟨w1.heap.size, 0, none⟩) 3 3, .slice (some ⟨w1.heap.size + 1, 0, none⟩) 1 1]) ?_ 0 _
    refine Box.set (cs := #[.int .i64 1, .slice (some ⟨w1.heap.size, 0, none⟩) 3 3, .slice none 0 0]) ?_ 2 _
    refine Box.set (cs := #[.int .i64 1, .slice none 0 0, .slice none 0 0]) ?_ 1 _
    refine Box.set (cs := #[.int .i64 0, .slice none 0 0, .slice none 0 0]) ?_ 0 _
    refine Box.far (Box.far (Box.far B1.out ?_ _) ?_ _) ?_ _
    all_goals (show w.heap.size + 1 ≠ w.heap.size; omega)
  have q2 : Box W0 w1.heap.size 33 #[.int .i64 0, .int .i64 2, .int .i64 3, .int .i64 2, .int .i64 0, .int .i64 5, .int .i64 6, .int .i64 3, .int .i64 1, .int .i64 4, .int .i64 8, .int .i64 1] := by
    rw [hW0.out]; exact (Box.new (by simp)).alloc _
  have q3 : Box W0 (w1.heap.size + 1) 63 #[.int .i64 0, .int .i64 2] := by
    rw [hW0.out]; exact Box.new (by simp)
  have g1 : Grew w.heap.size w W0 := by rw [hW0.out]; infer_instance
  have g2 : Le w.heap.size W0 := by rw [hW0.out]; infer_instance
  have c0 := q0.cell (i := 0) rfl
  have c1 := q0.cell (i := 1) rfl
  have c2 := q0.cell (i := 2) rfl
  have d0 := q1.cell (i := 0) rfl
  have d1 := q1.cell (i := 1) rfl
  have d2 := q1.cell (i := 2) rfl
  have k0 := q0.free 0
  have k1 := q0.free 1
  have k2 := q0.free 2
  have k3 := q1.free 0
  have k4 := q1.free 1
  have k5 := q1.free 2
  have j0 := q0.lt
  have j1 := q1.lt
  have Q2 := Lib.hid q2
  have Q3 := Lib.hid q3
  have HLT := Lib.hid (show w.heap.size + 1 < w1.heap.size from l1.out)
  clear hW0 q2 q3 q0 q1 c00 c01 c02 c10 c11 c12 f00 f01 f02 f10 f11 f12 l0 l1
  go_region
  all_goals
    go_wp2_with (fail)
    refine bodyPost_ret (v := .tuple #[netV ⟨some ⟨w1.heap.size, 0, none⟩, 3, some ⟨w1.heap.size + 1, 0, none⟩, 1⟩ exN, netV ⟨some ⟨w1.heap.size, 0, none⟩, 3, some ⟨w1.heap.size + 1, 0, none⟩, 1⟩ exM]) ?_ rfl ?_
    · simp only [results, Try.results59]
      go_simp
      simp [exN, exM]
    · refine ⟨⟨some ⟨w1.heap.size, 0, none⟩, 3, some ⟨w1.heap.size + 1, 0, none⟩, 1⟩, _, rfl, lat_def, ?_⟩
      rw [← lat_def (w := w)]
      refine ⟨Sl_box exN.hs (T := 33) (cs := #[.int .i64 0, .int .i64 2, .int .i64 3, .int .i64 2, .int .i64 0, .int .i64 5, .int .i64 6, .int .i64 3, .int .i64 1, .int .i64 4, .int .i64 8, .int .i64 1]) ?_ (Nat.le_of_ble_eq_true rfl) (Nat.le_of_ble_eq_true rfl) rfl, Sl_box exN.ps (T := 63) (cs := #[.int .i64 0, .int .i64 2]) ?_ (Nat.le_of_ble_eq_true rfl) (Nat.le_of_ble_eq_true rfl) rfl⟩
      · refine Box.drew ?_
        iterate 6 (refine Box.far ?_ (by have := HLT.out; first | (show w1.heap.size ≠ w.heap.size; omega) | (show w1.heap.size ≠ w.heap.size + 1; omega)) _)
        exact Q2.out
      · refine Box.drew ?_
        iterate 6 (refine Box.far ?_ (by have := HLT.out; first | (show w1.heap.size + 1 ≠ w.heap.size; omega) | (show w1.heap.size + 1 ≠ w.heap.size + 1; omega)) _)
        exact Q3.out

namespace Me
theorem exN_valid : valid exN = true := by decide +kernel
theorem exM_valid : valid exM = true := by decide +kernel
theorem ex_ord1 : isOrd exN [1, 0, 2] = true := by decide +kernel
theorem ex_ord2 : isOrd exN [0, 2, 1] = true := by decide +kernel
theorem ex_times : times exN [1, 0, 2] = [5, 3, 6] := by decide +kernel
theorem ex_lost : loss exN [0, 2, 1] (lows exN) = 42 ∧ worst exN [0, 2, 1] = 58 := by decide +kernel
theorem ex_least : leastN exM = 40 := by decide +kernel
theorem ex_rule : rule exN = [1, 0, 2] := by decide +kernel
theorem ex_regret : regret exN [1, 0, 2] = 18 := by decide +kernel
theorem ex_done : doneN exM = 3 := by decide +kernel
end Me

end Go.Proofs.Ytbfehifidlojlaa
