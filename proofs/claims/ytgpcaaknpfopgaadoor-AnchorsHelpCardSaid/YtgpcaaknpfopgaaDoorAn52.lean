/- Layer 2: the walks of the reference's Help, holds and Need. -/
import Derived.Test.YtgpcaaknpfopgaaDoorAn51
import Derived.Test.YtgpcaaknpfopgaaDoorAn33
namespace Go.Proofs.YtgpcaaknpfopgaaDoor
open Go.RowKit
open An

set_option maxRecDepth 100000 in
set_option maxHeartbeats 4000000 in
theorem rHelp_c (r : NetR) (n : Net) (B : Nat) (w : World) [hB : Le B w] (h : NetIs B w r n) :
    Calls Tryd.prog 48 #[netV r n] w fun e w' => e = .returned (.tuple #[.int .i64 (helpV n), .int .i64 (helpE n)]) ∧ ∃ δ, w' = lat w δ := by
  have H := Lib.hid h
  clear h
  by_cases hv : valid n = true
  all_goals try rw [Bool.not_eq_true] at hv
  case neg =>
    have HV := Lib.hid hv
    have HE := Lib.hid (show helpV n = 0 ∧ helpE n = 20 by unfold helpV helpE; rw [hv]; exact ⟨rfl, rfl⟩)
    clear hv
    go_enter Tryd.func48, Tryd.ntmps48
    go_wp2_with (go_at_call 19; refine (rwind_bad r n B _ H.out.up HV.out).mono ?_; rintro e w1 ⟨rfl, δ, rfl⟩)
    go_ret2
    rw [HE.out.1, HE.out.2]
    exact ⟨rfl, lat_ex⟩
  have HV := Lib.hid hv
  clear hv
  by_cases hw : wN n = 21
  · have HW := Lib.hid hw
    have HE := Lib.hid (show helpV n = 0 ∧ helpE n = 3 by unfold helpV helpE; rw [HV.out, hw]; exact ⟨rfl, rfl⟩)
    clear hw
    go_enter Tryd.func48, Tryd.ntmps48
    go_wp2_with (go_at_call 19; refine (rwind_none r n B _ H.out.up HV.out HW.out).mono ?_; rintro e w1 ⟨rfl, δ, rfl⟩)
    go_ret2
    rw [HE.out.1, HE.out.2]
    exact ⟨rfl, lat_ex⟩
  have hw2 : wN n < 21 := by have := wN_le n; omega
  have HW := Lib.hid hw2
  have HE := Lib.hid (show helpV n = (if helpN n < 0 then 0 else helpN n) ∧ helpE n = (if helpN n < 0 then 2 else 0) by
    unfold helpV helpE
    rw [HV.out, if_pos rfl, if_neg hw, decide_eq_true hw2]
    exact ⟨rfl, rfl⟩)
  have h6 := (valid_iff.1 HV.out).2.2.2.1
  have HL := Lib.hid (valid_iff.1 HV.out)
  clear hw hw2
  obtain ⟨gA, gc, aA, ac, wA, wc⟩ := r
  obtain ⟨b, o, hA, hb, hall⟩ := H.out.2.1.ancs (wN_pos HW.out)
  have hA : aA = some ⟨b, o, none⟩ := hA
  subst hA
  have ib : Lt b w := ⟨Nat.lt_of_lt_of_le hb hB.out⟩
  have HA := Lib.hid hall
  clear hall hb
  go_enter Tryd.func48, Tryd.ntmps48
  rw [show netV ⟨gA, gc, some ⟨b, o, none⟩, ac, wA, wc⟩ n = Value.agg #[.int .i64 n.wind.lo, .int .i64 n.wind.hi, .int .i64 n.cur.lo, .int .i64 n.cur.hi, .slice gA n.grips.length gc, .slice (some ⟨b, o, none⟩) n.ancs.length ac, .slice wA n.wals.length wc] from rfl]
  go_upto_region 2 with (go_at_call 19; refine (rwind_some ⟨gA, gc, some ⟨b, o, none⟩, ac, wA, wc⟩ n B _ H.out.up HV.out HW.out).mono ?_; rintro e w1 ⟨rfl, δ, rfl⟩)
  refine wp_name fun W1 hW1 => ?_
  have iw1 : Le B W1 := by rw [hW1.out]; infer_instance
  have iw2 : Grew B w W1 := by rw [hW1.out]; infer_instance
  have iw3 : Le w.heap.size W1 := by rw [hW1.out]; infer_instance
  have iw4 : Grew w.heap.size w W1 := by rw [hW1.out]; infer_instance
  have iw5 : Lt (w.heap.size) W1 := by rw [hW1.out]; infer_instance
  have iw6 : Lt (b) W1 := by rw [hW1.out]; infer_instance
  have cw7 : W1.cell? ⟨w.heap.size, 0, none⟩ = some (.int .i64 n.wind.lo) := by rw [hW1.out]; go_simp
  have cw8 : W1.cell? ⟨w.heap.size, 1, none⟩ = some (.int .i64 n.wind.hi) := by rw [hW1.out]; go_simp
  have cw9 : W1.cell? ⟨w.heap.size, 2, none⟩ = some (.int .i64 n.cur.lo) := by rw [hW1.out]; go_simp
  have cw10 : W1.cell? ⟨w.heap.size, 3, none⟩ = some (.int .i64 n.cur.hi) := by rw [hW1.out]; go_simp
  have cw11 : W1.cell? ⟨w.heap.size, 4, none⟩ = some (.slice gA n.grips.length gc) := by rw [hW1.out]; go_simp
  have cw12 : W1.cell? ⟨w.heap.size, 5, none⟩ = some (.slice (some ⟨b, o, none⟩) n.ancs.length ac) := by rw [hW1.out]; go_simp
  have cw13 : W1.cell? ⟨w.heap.size, 6, none⟩ = some (.slice wA n.wals.length wc) := by rw [hW1.out]; go_simp
  have HA1 : Hid (∀ k, k < n.ancs.length → W1.cell? ⟨b, o + k * 2, none⟩ = some (.int .i64 (nth n.ancs k).wt) ∧ W1.cell? ⟨b, o + k * 2 + 1, none⟩ = some (.int .i64 (nth n.ancs k).bt)) := by
    intro k hk
    have d := HA.out k hk
    rw [hW1.out]
    exact ⟨by have d := d.1; go_simp, by have d := d.2; go_simp⟩
  go_wp2_with (fail)
  go_loopg [6, 7, 8] n.ancs.length (fun g h m i wr => ∃ (k : Nat) (x y z : Int) (δ : World), k ≤ n.ancs.length ∧ g = n.ancs.length - k ∧ h = .int .i64 z ∧ m = .int .i64 y ∧ i = .int .i64 k ∧ Hid ((x, y) = helpTo n k ∧ z = if x < 0 then 0 else x) ∧ wr = lat W1 δ)
  case atStart => exact ⟨0, -1, -1, 0, W1, Nat.zero_le _, rfl, rfl, rfl, rfl, ⟨rfl, rfl⟩, (lat_refl W1).symm⟩
  case round =>
    obtain ⟨k, x, y, z, δ, hk, rfl, rfl, rfl, rfl, hxy, rfl⟩ := hrel
    by_cases hlt : k < n.ancs.length
    · obtain ⟨d0, d1⟩ := HA1.out k hlt
      have hki : (k : Int) < (n.ancs.length : Int) := by omega
      have hk0 : ¬ (k : Int) < 0 := by omega
      have ha := okAnc_nth HV.out hlt
      simp only [okAnc, decide_eq_true_eq] at ha
      have ha0 : 0 ≤ (nth n.ancs k).wt := ha.1
      have ha1 : (nth n.ancs k).wt ≤ 20 := ha.2.1
      have HK := Lib.hid hlt
      clear ha
      by_cases hz : (nth n.ancs k).wt = 20
      · have hz' : ((nth n.ancs k).wt == 20) = true := by simp [hz]
        have HZ := Lib.hid hz
        clear hz
        go_wp2_with (fail)
        go_roundg (n.ancs.length - (k + 1))
        case measure => omega
        case rel => exact ⟨k + 1, x, y, z, _, by omega, rfl, rfl, rfl, by go_num, by rw [helpTo_skip HZ.out]; exact hxy, lat_def⟩
      · have hz' : ((nth n.ancs k).wt == 20) = false := by simp [hz]
        have HZ := Lib.hid hz
        clear hz
        have HO' := Lib.hid (heav_valid HV.out (x := 1) hlt (by omega) (by have := HZ.out; omega))
        have HW1 := Lib.hid (show -100 ≤ (nth n.ancs k).wt + 1 ∧ (nth n.ancs k).wt + 1 ≤ 100 by omega)
        go_wp2_with (fail)
        refine (heavier_c ⟨gA, gc, some ⟨b, o, none⟩, ac, wA, wc⟩ n k 1 HK.out HW1.out B _ H.out.up (by have := HL.out; omega) (by have := HL.out; omega) (by have := HL.out; omega)).mono ?_
        rintro e w1 ⟨r', δ1, rfl, rfl, ho⟩
        have HO := Lib.hid ho
        clear ho
        go_wp2_with (fail)
        refine (windOf_c r' (heav n k 1) _ _ HO.out.wide HO'.out).mono ?_
        rw [windR_eq HO'.out, show firstHit (hitW (heav n k 1)) 21 0 = wN (heav n k 1) from rfl]
        rintro e w1 ⟨rfl, δ2, rfl⟩
        by_cases hq : y < (wN (heav n k 1) : Int)
        · have HQ := Lib.hid (show helpTo n (k + 1) = ((k : Int), (wN (heav n k 1) : Int)) by rw [helpTo_take HZ.out (by rw [← hxy.out.1]; exact hq)])
          go_wp2_with (fail)
          go_roundg (n.ancs.length - (k + 1))
          case measure => omega
          case rel => exact ⟨k + 1, _, _, k, _, by omega, rfl, rfl, rfl, by go_num, ⟨HQ.out.symm, by rw [if_neg (by omega)]⟩, lat_def⟩
        · have HQ := Lib.hid (show helpTo n (k + 1) = (x, y) by rw [helpTo_keep HZ.out (by rw [← hxy.out.1]; exact hq), hxy.out.1])
          go_wp2_with (fail)
          go_roundg (n.ancs.length - (k + 1))
          case measure => omega
          case rel => exact ⟨k + 1, x, y, z, _, by omega, rfl, rfl, rfl, by go_num, ⟨HQ.out.symm, hxy.out.2⟩, lat_def⟩
    · obtain rfl : k = n.ancs.length := by omega
      have HN := Lib.hid (show helpN n = x by unfold helpN; rw [← hxy.out.1])
      have hi := helpTo_inv n n.ancs.length
      rw [← hxy.out.1] at hi
      simp only at hi
      by_cases hx : y < 0
      · have hx0 : x < 0 := by omega
        have HX := Lib.hid hx0
        clear hi hx0
        go_wp2_with (fail)
        go_ret2
        rw [HE.out.1, HE.out.2, HN.out, if_pos HX.out, if_pos HX.out]
        exact ⟨rfl, lat_ex⟩
      · have hx0 : ¬ x < 0 := by omega
        have HX := Lib.hid hx0
        clear hi hx0
        go_wp2_with (fail)
        go_ret2
        rw [HE.out.1, HE.out.2, HN.out, if_neg (by have := HX.out; omega), if_neg (by have := HX.out; omega)]
        exact ⟨ret2 (int_eq (by rw [hxy.out.2, if_neg (by have := HX.out; omega)])) rfl, lat_ex⟩

namespace An
def holdB (n : Net) (i : Nat) : Bool := decide (0 ≤ spare n (worstT n) i (fun _ => false))
end An

set_option maxRecDepth 100000 in
set_option maxHeartbeats 4000000 in
theorem holds_c (r : NetR) (n : Net) (i : Nat) (B : Nat) (w : World) [hB : Le B w] (h : NetIs B w r n) (hv : valid n = true) (hi : i < n.ancs.length) :
    Calls Tryd.prog 100 #[netV r n, .int .i64 i] w fun e w' => e = .returned (.bool (holdB n i)) ∧ ∃ δ, w' = lat w δ := by
  have HV := Lib.hid hv
  have HI := Lib.hid hi
  have hlen := truthsV_len hv
  clear hv hi
  go_enter Tryd.func100, Tryd.ntmps100
  go_wp2_with (go_at_call 97; refine (truths_c r n B _ h.up HV.out).mono ?_; rintro e w1 ⟨Al, cl, δ, rfl, rfl, hSl⟩)
  refine wp_name fun W1 hW1 => ?_
  have iw1 : Le B W1 := by rw [hW1.out]; infer_instance
  have iw2 : Grew B w W1 := by rw [hW1.out]; infer_instance
  have iw3 : Le w.heap.size W1 := by rw [hW1.out]; infer_instance
  have iw4 : Grew w.heap.size w W1 := by rw [hW1.out]; infer_instance
  have iw5 : Lt (w.heap.size) W1 := by rw [hW1.out]; infer_instance
  have cw6 : W1.cell? ⟨w.heap.size, 0, none⟩ = some (.int .i64 n.wind.lo) := by rw [hW1.out]; go_simp
  have cw7 : W1.cell? ⟨w.heap.size, 1, none⟩ = some (.int .i64 n.wind.hi) := by rw [hW1.out]; go_simp
  have cw8 : W1.cell? ⟨w.heap.size, 2, none⟩ = some (.int .i64 n.cur.lo) := by rw [hW1.out]; go_simp
  have cw9 : W1.cell? ⟨w.heap.size, 3, none⟩ = some (.int .i64 n.cur.hi) := by rw [hW1.out]; go_simp
  have cw10 : W1.cell? ⟨w.heap.size, 4, none⟩ = some (.slice r.gA n.grips.length r.gc) := by rw [hW1.out]; go_simp
  have cw11 : W1.cell? ⟨w.heap.size, 5, none⟩ = some (.slice r.aA n.ancs.length r.ac) := by rw [hW1.out]; go_simp
  have cw12 : W1.cell? ⟨w.heap.size, 6, none⟩ = some (.slice r.wA n.wals.length r.wc) := by rw [hW1.out]; go_simp
  have hS1 : SlTru W1 Al cl (truthsV n) := by rw [hW1.out]; exact hSl
  have HS := Lib.hid hS1
  have g1 : NetIs W1.heap.size W1 r n := (h.up (w' := W1)).wide
  clear hS1 hSl
  obtain ⟨b, o, hA, hb, hall⟩ := HS.out.all_ (truthsV_pos HV.out)
  subst hA
  have HA := Lib.hid hall
  have ib : Lt b W1 := ⟨hb⟩
  clear hall hb
  go_loopg [6] (truthsV n).length (fun g i' wr => ∃ (k : Nat) (δ : World), k ≤ (truthsV n).length ∧ g = (truthsV n).length - k ∧ i' = .int .i64 k ∧ Hid (∀ j, j < k → 0 ≤ spare n (nth (truthsV n) j) i (fun _ => false)) ∧ wr = lat W1 δ)
  case atStart => exact ⟨0, W1, Nat.zero_le _, rfl, rfl, fun j hj => by omega, (lat_refl W1).symm⟩
  case round =>
    obtain ⟨k, δ, hk, rfl, rfl, hn, rfl⟩ := hrel
    by_cases hlt : k < (truthsV n).length
    · obtain ⟨A', c', d0, d1, d2, hgs⟩ := HA.out k hlt
      have htm : truB n (nth (truthsV n) k) = true := mem_truthsV.1 (nth_mem _ hlt)
      have HOK := Lib.hid (okTru_of HV.out htm)
      have hki : (k : Int) < ((truthsV n).length : Int) := by omega
      have hk0 : ¬ (k : Int) < 0 := by omega
      have HH := Lib.hid (spare_harder HV.out (harder_worst htm) (d := fun _ => false) HI.out)
      clear htm
      by_cases hs : spare n (nth (truthsV n) k) i (fun _ => false) < 0
      · have HSN := Lib.hid hs
        go_wp2_with (fail)
        refine wp_region_lat (by kernel_rfl) (by kernel_rfl) ?_
        repeat (go_big_quiet_step ((first | (go_at_call 54; exact Calls.lat_of (spareOf_c r n ⟨A', c'⟩ (nth (truthsV n) k) i W1.heap.size _ g1.up hgs.up HOK.out HI.out)))))
        refine wpQuiet_nil ?_
        rintro _ ⟨δq, rfl⟩
        go_wp2_with (fail)
        go_ret
        exact ⟨ret_bool (by unfold holdB; have := HSN.out; have := HH.out; simp; omega), lat_ex⟩
      · have HSN := Lib.hid hs
        go_wp2_with (fail)
        refine wp_region_lat (by kernel_rfl) (by kernel_rfl) ?_
        repeat (go_big_quiet_step ((first | (go_at_call 54; exact Calls.lat_of (spareOf_c r n ⟨A', c'⟩ (nth (truthsV n) k) i W1.heap.size _ g1.up hgs.up HOK.out HI.out)))))
        refine wpQuiet_nil ?_
        rintro _ ⟨δq, rfl⟩
        go_wp2_with (fail)
        go_roundg ((truthsV n).length - (k + 1))
        case measure => omega
        case rel =>
          refine ⟨k + 1, _, by omega, rfl, by go_num, fun j hj => ?_, lat_def⟩
          by_cases hjk : j = k
          · subst hjk; have := HSN.out; omega
          · exact hn.out j (by omega)
    · obtain rfl : k = (truthsV n).length := by omega
      have HF := Lib.hid (show holdB n i = true by
        unfold holdB
        have hm := mem_truthsV.2 (worst_tru HV.out)
        obtain ⟨j, hj, hje⟩ := List.getElem_of_mem hm
        have := hn.out j hj
        rw [nth_get _ hj, hje] at this
        exact decide_eq_true this)
      go_wp2_with (fail)
      go_ret
      exact ⟨ret_bool HF.out.symm, lat_ex⟩
theorem holds_is {n : Net} {i : Nat} {b : Bool} (hb : holdB n i = b) {r : NetR} {B : Nat} {w : World} [hB : Le B w] (h : NetIs B w r n) (hv : valid n = true) (hi : i < n.ancs.length) :
    Calls Tryd.prog 100 #[netV r n, .int .i64 i] w fun e w' => e = .returned (.bool b) ∧ ∃ δ, w' = lat w δ := by
  subst hb; exact holds_c r n i B w h hv hi
namespace An
theorem spare_heavK (n : Net) {i k : Nat} (hi : i < n.ancs.length) : spare (heav n i k) (worstT (heav n i k)) i (fun _ => false) = spareK n i k := by
  unfold spare can
  rw [heav_nth _ _ _ hi, if_pos rfl]
  rfl
theorem holdB_heav (n : Net) {i k : Nat} (hi : i < n.ancs.length) : holdB (heav n i k) i = decide (0 ≤ spareK n i k) := by unfold holdB; rw [spare_heavK _ hi]
end An

end Go.Proofs.YtgpcaaknpfopgaaDoor
