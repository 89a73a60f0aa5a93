/- Layer 2: the walk of works of the law. -/
import Derived.Test.YtgpcaaknpfopgaaDoorAn22
import Derived.Test.YtgpcaaknpfopgaaDoorAn23
import Derived.Test.YtgpcaaknpfopgaaDoorAn19
namespace Go.Proofs.YtgpcaaknpfopgaaDoor
open Go.RowKit
open An

theorem sameEq_c (A A' : Option Addr) (c c' : Nat) (xs : List Int) (ln : Nat) (hn : xs.length = ln) (B B' : Nat) (w : World) [hB : Le B w] [hB' : Le B' w] (h : Sl encI B w A c xs) (h' : Sl encI B' w A' c' xs) :
    Calls Tryd.prog 50 #[.slice A ln c, .slice A' ln c'] w fun e w' => e = .returned (.bool true) ∧ ∃ δ, w' = lat w δ := by
  subst hn
  refine (sameInts_c A A' c c' xs xs w.heap.size w (h.more hB.out) (h'.more hB'.out)).mono ?_
  rintro e w' ⟨b, rfl, hb, hd⟩
  exact ⟨by rw [hb.2 ⟨rfl, fun _ _ => rfl⟩], hd⟩

namespace An
theorem ex_valid : valid exN = true := by decide
theorem ex_tru : truB exN exA = true := by decide
theorem ex_last (i : Nat) : lastB exN exA (fun _ => false) i = (6 : Nat).testBit i := by
  have ht : okTru exN exA := okTru_of ex_valid ex_tru
  have s1 : stepM exN exA 0 = 2 := by decide
  have s2 : stepM exN exA 2 = 6 := by decide
  have s3 : stepM exN exA 6 = 6 := by decide
  have o1 := (OnWay.start exN exA 0).step ht
  rw [s1] at o1
  have o2 := o1.step ht
  rw [s2] at o2
  have := o2.last s3 i
  have e : (fun k => Nat.testBit 0 k) = fun _ => false := funext fun i => Nat.zero_testBit i
  rw [e] at this
  exact (bit_last this).symm
theorem ex_drags : dragsV exN exA = [1, 2] := by
  unfold dragsV
  rw [if_pos (by rw [ex_valid, ex_tru]; rfl)]
  rw [show (lastB exN exA fun _ => false) = fun i => (6 : Nat).testBit i from funext ex_last]
  decide
theorem ex_spare : spareV exN 1 = ⟨-11, 31⟩ := by
  have : (spareV exN 1).lo = -11 ∧ (spareV exN 1).hi = 31 := by decide
  obtain ⟨a, b⟩ := this
  cases h : spareV exN 1
  rw [h] at a b
  simp at a b
  rw [a, b]
theorem ex_wind : windV (valid exN) (firstHit (hitW exN) 21 0) = 1 ∧ windE (valid exN) (firstHit (hitW exN) 21 0) = 0 := by decide
theorem ex_storm : windV (valid exN) (firstHit (hitS exN) 21 0) = 13 ∧ windE (valid exN) (firstHit (hitS exN) 21 0) = 0 := by decide
theorem ex_need : needV exN = [0, 6, 0] ∧ needE exN = 0 := by decide
theorem ex_ask1 : askE (valid exN) (truB exN exA) = 0 := by decide
theorem ex_ask2 : askE (valid exN) (inB 0 (exN.ancs.length - 1) 1) = 0 := by decide
end An

set_option maxRecDepth 100000 in
set_option maxHeartbeats 4000000 in
theorem works_c (w : World) [h2 : Le 2 w] (hT : TabIs w) :
    Calls Tryd.prog 16 #[] w fun e w' => e = .returned (.bool true) ∧ ∃ δ, w' = lat w δ := by
  have HT := Lib.hid hT
  clear hT
  go_enter Tryd.func16, Tryd.ntmps16
  go_wp2_with (first
    | (go_at_call 64; refine (example_c _).mono ?_; rintro e w1 ⟨r, ra, rb, δ, rfl, rfl, hN, hA, hB⟩)
    | (go_at_call 59; refine (drags_c r exN ra exA _ _ hN.wide hA.wide (HT.out.up Grew.out)).mono ?_; rw [ex_drags, ex_ask1]; rintro e w1 ⟨A1, c1, δ1, rfl, rfl, hS1⟩)
    | (go_at_call 33; refine (spareN_c r exN 1 _ _ hN.wide).mono ?_; rw [ex_spare, ex_ask2]; rintro e w1 ⟨rfl, δ2, rfl⟩)
    | (go_at_call 18; refine (wind_c r exN _ _ hN.wide).mono ?_; rw [ex_wind.1, ex_wind.2]; rintro e w1 ⟨rfl, δ3, rfl⟩)
    | (go_at_call 20; refine (storm_c r exN _ _ hN.wide).mono ?_; rw [ex_storm.1, ex_storm.2]; rintro e w1 ⟨rfl, δ4, rfl⟩)
    | (go_at_call 34; refine (need_c r exN _ _ hN.wide).mono ?_; rw [ex_need.1, ex_need.2]; rintro e w1 ⟨A5, c5, δ5, rfl, rfl, hS5⟩))
  refine (sameEq_c A1 _ c1 _ [1, 2] 2 rfl _ _ _ hS1.wide (Sl_lit [1, 2] (by go_simp) (by decide) (by decide) rfl)).mono ?_
  rintro e w1 ⟨rfl, δ6, rfl⟩
  go_wp2_with (fail)
  refine (sameEq_c A5 _ c5 _ [0, 6, 0] 3 rfl _ _ _ hS5.wide (Sl_lit [0, 6, 0] (by go_simp) (by decide) (by decide) rfl)).mono ?_
  rintro e w1 ⟨rfl, δ7, rfl⟩
  go_wp2_with (fail)
  go_ret
  exact ⟨rfl, lat_ex⟩

end Go.Proofs.YtgpcaaknpfopgaaDoor
