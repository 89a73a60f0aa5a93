/- Layer 2: the walk of the reference's Need. -/
import Derived.Test.YtgpcaaknpfopgaaDoorAn52
import Derived.Test.YtgpcaaknpfopgaaDoorAnPlain12
namespace Go.Proofs.YtgpcaaknpfopgaaDoor
open Go.RowKit
open An

namespace An
def needTo (n : Net) (k : Nat) : List Int := (List.range k).map fun j => (needN n j : Int)
theorem needTo_succ (n : Net) (k : Nat) : needTo n (k + 1) = needTo n k ++ [(needN n k : Int)] := by simp [needTo, List.range_succ]
theorem needTo_len (n : Net) (k : Nat) : (needTo n k).length = k := by simp [needTo]
end An

set_option maxRecDepth 100000 in
set_option maxHeartbeats 8000000 in
theorem rNeed_c (r : NetR) (n : Net) (B : Nat) (w : World) [hB : Le B w] (h : NetIs B w r n) :
    Calls Tryd.prog 49 #[netV r n] w fun e w' => ∃ (A : Option Addr) (c : Nat) (δ : World), e = .returned (.tuple #[.slice A (needV n).length c, .int .i64 (needE n)]) ∧ w' = lat w δ ∧ Sl encI (lat w δ).heap.size (lat w δ) A c (needV n) := by
  have H := Lib.hid h
  clear h
  by_cases hv : valid n = true
  all_goals try rw [Bool.not_eq_true] at hv
  case neg =>
    have HF := Lib.hid (show needV n = [] by simp [needV, hv])
    have HE := Lib.hid (show needE n = 20 by simp [needE, hv])
    have HV := Lib.hid hv
    clear hv
    go_enter Tryd.func49, Tryd.ntmps49
    go_wp2_with (go_at_call 39; refine (rCheck_c r n B _ H.out.up).mono ?_; rw [HV.out]; rintro e w1 ⟨rfl, δ, rfl⟩)
    go_ret2
    rw [HF.out, HE.out]
    exact ⟨none, 0, _, rfl, lat_def, Sl.none_⟩
  have HV := Lib.hid hv
  have h6 := (valid_iff.1 hv).2.2.2.1
  have HL := Lib.hid (valid_iff.1 hv)
  clear hv
  obtain ⟨gA, gc, aA, ac, wA, wc⟩ := r
  go_enter Tryd.func49, Tryd.ntmps49
  rw [show netV ⟨gA, gc, aA, ac, wA, wc⟩ n = Value.agg #[.int .i64 n.wind.lo, .int .i64 n.wind.hi, .int .i64 n.cur.lo, .int .i64 n.cur.hi, .slice gA n.grips.length gc, .slice aA n.ancs.length ac, .slice wA n.wals.length wc] from rfl]
  go_upto_region 4 with (go_at_call 39; refine (rCheck_c ⟨gA, gc, aA, ac, wA, wc⟩ n B _ H.out.up).mono ?_; rw [HV.out]; rintro e w1 ⟨rfl, δ, rfl⟩)
  refine wp_name fun W1 hW1 => ?_
  have iw1 : Le B W1 := by rw [hW1.out]; infer_instance
  have iw2 : Grew B w W1 := by rw [hW1.out]; infer_instance
  have iw3 : Le w.heap.size W1 := by rw [hW1.out]; infer_instance
  have iw4 : Grew w.heap.size w W1 := by rw [hW1.out]; infer_instance
  have iw5 : Lt (w.heap.size) W1 := by rw [hW1.out]; infer_instance
  have cw6 : W1.cell? ⟨w.heap.size, 0, none⟩ = some (.int .i64 n.wind.lo) := by rw [hW1.out]; go_simp
  have cw7 : W1.cell? ⟨w.heap.size, 1, none⟩ = some (.int .i64 n.wind.hi) := by rw [hW1.out]; go_simp
  have cw8 : W1.cell? ⟨w.heap.size, 2, none⟩ = some (.int .i64 n.cur.lo) := by rw [hW1.out]; go_simp
  have cw9 : W1.cell? ⟨w.heap.size, 3, none⟩ = some (.int .i64 n.cur.hi) := by rw [hW1.out]; go_simp
  have cw10 : W1.cell? ⟨w.heap.size, 4, none⟩ = some (.slice gA n.grips.length gc) := by rw [hW1.out]; go_simp
  have cw11 : W1.cell? ⟨w.heap.size, 5, none⟩ = some (.slice aA n.ancs.length ac) := by rw [hW1.out]; go_simp
  have cw12 : W1.cell? ⟨w.heap.size, 6, none⟩ = some (.slice wA n.wals.length wc) := by rw [hW1.out]; go_simp
  have G1 := Lib.hid (show NetIs B W1 ⟨gA, gc, aA, ac, wA, wc⟩ n from H.out.up)
  clear H
  go_wp2_with (fail)
  go_loopg [5, 6] n.ancs.length (fun g o i wr => ∃ (k c : Nat) (A : Option Addr) (δ : World), k ≤ n.ancs.length ∧ g = n.ancs.length - k ∧ o = .slice A k c ∧ i = .int .i64 k ∧ Hid (wr.ownsRow W1.heap.size 3 1 (.slice A k c) k ((needTo n k).flatMap encI)) ∧ Hid (∀ j, j < k → needN n j < topK n j) ∧ wr = lat W1 δ)
  case atStart => exact ⟨0, 0, none, W1, Nat.zero_le _, rfl, rfl, rfl, World.ownsRow_nil _ _ _ _, fun j hj => by omega, (lat_refl W1).symm⟩
  case round =>
    obtain ⟨k, c, A, δ, hk, rfl, rfl, rfl, HO, hn, rfl⟩ := hrel
    by_cases hlt : k < n.ancs.length
    · obtain ⟨b, o, hA, hb, d0, d1⟩ := G1.out.2.1.anc hlt
      have hA : aA = some ⟨b, o, none⟩ := hA
      subst hA
      have ib : Lt b W1 := ⟨Nat.lt_of_lt_of_le hb iw1.out⟩
      have hki : (k : Int) < (n.ancs.length : Int) := by omega
      have hk0 : ¬ (k : Int) < 0 := by omega
      have ha := okAnc_nth HV.out hlt
      simp only [okAnc, decide_eq_true_eq] at ha
      have ha0 : 0 ≤ (nth n.ancs k).wt := ha.1
      have ha1 : (nth n.ancs k).wt ≤ 20 := ha.2.1
      have HK := Lib.hid hlt
      have htk := topK_int HV.out hlt
      have HT := Lib.hid htk
      have hle := needN_le n k
      clear ha htk
      go_wp2_with (fail)
      go_loopg [7] (needN n k + 1) (fun g m wr => ∃ (j : Nat) (δ' : World), j ≤ needN n k ∧ g = needN n k + 1 - j ∧ m = .int .i64 j ∧ wr = lat (lat W1 δ) δ')
      case atStart => exact ⟨0, lat W1 δ, Nat.zero_le _, rfl, rfl, (lat_refl _).symm⟩
      case round =>
        obtain ⟨j, δ', hj, rfl, rfl, rfl⟩ := hrel
        have hj1 : (j : Int) ≤ 21 := by have := HT.out; omega
        by_cases hlt2 : j < needN n k
        · have h20 : (nth n.ancs k).wt + (j : Int) ≤ 20 := by have := HT.out; omega
          have HHB := Lib.hid (show holdB (heav n k j) k = false by rw [holdB_heav n HK.out]; exact decide_eq_false (Int.not_le.2 (needN_miss hlt2)))
          have HO' := Lib.hid (heav_valid HV.out (x := j) HK.out (by omega) (by omega))
          have HW1 := Lib.hid (show -100 ≤ (nth n.ancs k).wt + (j : Int) ∧ (nth n.ancs k).wt + (j : Int) ≤ 100 by omega)
          go_wp2_with (fail)
          refine (heavier_c ⟨gA, gc, some ⟨b, o, none⟩, ac, wA, wc⟩ n k j HK.out HW1.out B _ G1.out.up (by have := HL.out; omega) (by have := HL.out; omega) (by have := HL.out; omega)).mono ?_
          rintro e w1 ⟨r', δ1, rfl, rfl, ho⟩
          have HOo := Lib.hid ho
          clear ho
          go_wp2_with (fail)
          refine (holds_is HHB.out HOo.out.wide HO'.out (by rw [heav_len]; exact HK.out)).mono ?_
          rintro e w1 ⟨rfl, δ2, rfl⟩
          go_wp2_with (fail)
          go_roundg (needN n k + 1 - (j + 1))
          case measure => omega
          case rel => exact ⟨j + 1, _, by omega, rfl, by go_num, lat_def⟩
        · obtain rfl : j = needN n k := by omega
          by_cases ht : needN n k < topK n k
          · have h20 : (nth n.ancs k).wt + (needN n k : Int) ≤ 20 := by have := HT.out; omega
            have HHB := Lib.hid (show holdB (heav n k (needN n k)) k = true by rw [holdB_heav n HK.out]; exact decide_eq_true (needN_hit ht))
            have HO' := Lib.hid (heav_valid HV.out (x := needN n k) HK.out (by omega) (by omega))
            have HW1 := Lib.hid (show -100 ≤ (nth n.ancs k).wt + (needN n k : Int) ∧ (nth n.ancs k).wt + (needN n k : Int) ≤ 100 by omega)
            have HTT := Lib.hid ht
            clear ht
            go_wp2_with (fail)
            refine (heavier_c ⟨gA, gc, some ⟨b, o, none⟩, ac, wA, wc⟩ n k (needN n k) HK.out HW1.out B _ G1.out.up (by have := HL.out; omega) (by have := HL.out; omega) (by have := HL.out; omega)).mono ?_
            rintro e w1 ⟨r', δ1, rfl, rfl, ho⟩
            have HOo := Lib.hid ho
            clear ho
            go_wp2_with (fail)
            refine (holds_is HHB.out HOo.out.wide HO'.out (by rw [heav_len]; exact HK.out)).mono ?_
            rintro e w1 ⟨rfl, δ2, rfl⟩
            go_wp2_with (at_builtin; (refine wpList_append_new W1 slI (.tmp 49) (.tmp 51) rfl rfl (owns_up HO.out) rfl rfl (by go_simp) rfl (by simp [Value.oneCell']) (by omega) (by omega) ?_); intro A'' c'' δ'' hown')
            go_roundg (n.ancs.length - (k + 1))
            case measure => omega
            case rel =>
              refine ⟨k + 1, c'', A'', _, by omega, rfl, rfl, by go_num, ?_, fun i hi => ?_, lat_def⟩
              · rw [needTo_succ, List.flatMap_append]
                exact hown'
              · by_cases hik : i = k
                · subst hik; exact HTT.out
                · exact hn.out i (by omega)
          · have h21 : (nth n.ancs k).wt + (needN n k : Int) = 21 := by have := HT.out; omega
            have HN := Lib.hid (show needE n = 3 ∧ needV n = [] by
              have hno : needOk n = false := by
                rw [Bool.eq_false_iff]
                intro hh
                exact ht (needOk_iff.1 hh k HK.out)
              exact ⟨needE_no HV.out hno, needV_no hno⟩)
            have h22 : ¬ ((nth n.ancs k).wt + (needN n k : Int) ≤ 20) := by omega
            have h23 : 20 < (nth n.ancs k).wt + (needN n k : Int) := by omega
            clear h21 ht
            go_wp2_with (fail)
            go_ret2
            refine ⟨none, 0, ?_, lat (lat W1 δ) δ', lat_def, ?_⟩
            · rw [HN.out.1, HN.out.2]; rfl
            · rw [HN.out.2]; exact Sl.none_
    · obtain rfl : k = n.ancs.length := by omega
      have HE := Lib.hid (show needE n = 0 ∧ needV n = needTo n n.ancs.length by
        have hok : needOk n = true := needOk_iff.2 hn.out
        exact ⟨needE_ok HV.out hok, needV_is HV.out hok⟩)
      go_wp2_with (fail)
      go_ret2
      refine ⟨A, c, lat W1 δ, ?_, lat_def, ?_⟩
      · rw [HE.out.1, HE.out.2, needTo_len]; rfl
      · rw [HE.out.2, ← lat_def (w := w) (W := lat W1 δ)]
        exact Sl.of_own (by rw [needTo_len]; exact HO.out)

end Go.Proofs.YtgpcaaknpfopgaaDoor
