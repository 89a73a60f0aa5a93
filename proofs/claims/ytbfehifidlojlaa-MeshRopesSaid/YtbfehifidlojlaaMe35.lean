/- Layer 4: the reference's best and leastOf. -/
import Derived.Test.YtbfehifidlojlaaMe24
import Derived.Test.YtbfehifidlojlaaMeP5
namespace Go.Proofs.Ytbfehifidlojlaa
open Go.RowKit
open Me

namespace Me
/-- The least of v and of a number of the first k elements. -/
def minK {α : Type} [Inhabited α] (f : α → Int) (v : Int) (xs : List α) : Nat → Int
  | 0 => v
  | k + 1 => min (minK f v xs k) (f (nth xs k))
theorem minK_le {α : Type} [Inhabited α] {f : α → Int} {v : Int} {xs : List α} (k : Nat) : minK f v xs k ≤ v ∧ (∀ j, j < k → minK f v xs k ≤ f (nth xs j)) ∧ (minK f v xs k = v ∨ ∃ j, j < k ∧ minK f v xs k = f (nth xs j)) := by
  induction k with
  | zero => exact ⟨Int.le_refl _, fun j hj => absurd hj (Nat.not_lt_zero _), .inl rfl⟩
  | succ k ih =>
    obtain ⟨i1, i2, i3⟩ := ih
    show min _ _ ≤ v ∧ (∀ j, j < k + 1 → min _ _ ≤ _) ∧ (min _ _ = v ∨ ∃ j, j < k + 1 ∧ min _ _ = _)
    refine ⟨by omega, fun j hj => ?_, ?_⟩
    · rcases Nat.lt_or_ge j k with h | h
      · have := i2 j h; omega
      · obtain rfl : j = k := by omega
        omega
    · by_cases h : f (nth xs k) < minK f v xs k
      · exact .inr ⟨k, Nat.lt_succ_self _, by omega⟩
      · rcases i3 with h3 | ⟨j, hj, h3⟩
        · exact .inl (by omega)
        · exact .inr ⟨j, by omega, by omega⟩
theorem mem_nth {α : Type} [Inhabited α] {xs : List α} {x : α} (h : x ∈ xs) : ∃ k, k < xs.length ∧ nth xs k = x := by
  obtain ⟨i, hi, rfl⟩ := List.getElem_of_mem h
  exact ⟨i, hi, by simp [nth, hi]⟩
/-- The least number by far is that of the first least element. -/
theorem minK_all {α : Type} [Inhabited α] {f : α → Int} {xs : List α} (hne : xs ≠ []) : minK f (f (nth xs 0)) xs xs.length = f (least f xs) := by
  obtain ⟨i1, i2, i3⟩ := minK_le (f := f) (v := f (nth xs 0)) (xs := xs) xs.length
  have h0 : 0 < xs.length := List.length_pos_iff.2 hne
  obtain ⟨k, hk, he⟩ := mem_nth (least_mem f hne)
  have a1 := i2 k hk
  rw [he] at a1
  have a2 : ∃ j, j < xs.length ∧ minK f (f (nth xs 0)) xs xs.length = f (nth xs j) := by
    rcases i3 with h | h
    · exact ⟨0, h0, h⟩
    · exact h
  obtain ⟨j, hj, h3⟩ := a2
  have := least_le f (nth_mem xs hj)
  omega
theorem bestK_snoc {n : Net} {k : Nat} (hk : k < (allO n).length) : sameAs (worst n) (leastN n) ((allO n).take (k + 1)) = sameAs (worst n) (leastN n) ((allO n).take k) ++ (if worst n (nth (allO n) k) = leastN n then [nth (allO n) k] else []) := by
  rw [take_snoc _ hk]
  unfold sameAs
  rw [List.filter_append]
  congr 1
  by_cases h : worst n (nth (allO n) k) = leastN n
  · rw [if_pos h, List.filter_cons_of_pos (by simpa using h)]; rfl
  · rw [if_neg h, List.filter_cons_of_neg (by simpa using h)]; rfl
theorem allO_at {n : Net} {k : Nat} (hk : k < (allO n).length) : isOrd n (nth (allO n) k) = true ∧ (nth (allO n) k).length = n.hs.length := by
  have h := allO_mem.1 (nth_mem _ hk)
  exact ⟨h, ord_len h⟩
theorem allO_len {n : Net} (hv : valid n = true) : 0 < (allO n).length ∧ (allO n).length ≤ 50000 := by
  refine ⟨List.length_pos_iff.2 (hasO_ne (hasO_v hv)), ?_⟩
  have h6 := (ok_of hv).2.1
  have := ords_len h6 n.hs.length []
  have h2 : 6 ^ n.hs.length ≤ 6 ^ 6 := Nat.pow_le_pow_right (by omega) h6
  unfold allO
  omega
end Me

/-- What a slice of lists holds at a place. -/
theorem SlS.nth {T : TypeId} {w : World} {A : Option Addr} {c : Nat} {xss : List (List Int)} (h : SlS T encI w A c xss) {k m : Nat} (hk : k < xss.length) (hm : (nth xss k).length = m) : ∃ b o A' c', A = some ⟨b, o, none⟩ ∧ b < w.heap.size ∧ w.cell? ⟨b, o + k, none⟩ = some (.slice A' m c') ∧ Slt T encI w.heap.size w A' c' (nth xss k) := by
  have e : Go.Proofs.Ytbfehifidlojlaa.nth xss k = xss[k] := by simp [Go.Proofs.Ytbfehifidlojlaa.nth, hk]
  obtain ⟨b, o, A', c', h1, h2, h3, h4⟩ := h.at_ hk
  rw [← e] at h3 h4
  exact ⟨b, o, A', c', h1, h2, by rw [← hm]; exact h3, h4⟩

set_option maxRecDepth 100000 in
set_option maxHeartbeats 8000000 in
theorem rBest_c (r : NetR) (n : Net) (hv : valid n = true) (B : Nat) (w : World) [hB : Le B w] (hN : NetIs B w r n) :
    Calls Try.prog 86 #[netV r n] w (OrdPost w (bestL n)) := by
  have h6 := (ok_of hv).2.1
  obtain ⟨l0, l1⟩ := allO_len hv
  have HN := Lib.hid hN
  have HV := Lib.hid hv
  have H6 := Lib.hid h6
  have HLB := Lib.hid (minK_all (f := worst n) (hasO_ne (hasO_v hv)))
  clear hN hv h6
  obtain ⟨L, hL⟩ : ∃ L, allO n = L := ⟨_, rfl⟩
  have HL := Lib.hid hL
  rw [hL] at l0 l1
  clear hL
  go_enter Try.func86, Try.ntmps86
  go_wp2_with (go_at_call 67; refine (rOrders_c r n B _ HN.out.up H6.out).mono ?_; rw [HL.out]; rintro e w1 ⟨A, c, δ, rfl, rfl, hS⟩)
  refine wp_name fun W1 hW1 => ?_
  have iw1 : Le B W1 := by rw [hW1.out]; infer_instance
  have iw2 : Grew B w W1 := by rw [hW1.out]; infer_instance
  have iw3 : Le w.heap.size W1 := by rw [hW1.out]; infer_instance
  have iw4 : Grew w.heap.size w W1 := by rw [hW1.out]; infer_instance
  have iw5 : Lt (w.heap.size) W1 := by rw [hW1.out]; infer_instance
  have cw6 : W1.cell? ⟨w.heap.size, 0, none⟩ = some (.int .i64 n.m) := by rw [hW1.out]; go_simp
  have cw7 : W1.cell? ⟨w.heap.size, 1, none⟩ = some (.slice r.hA n.hs.length r.hc) := by rw [hW1.out]; go_simp
  have cw8 : W1.cell? ⟨w.heap.size, 2, none⟩ = some (.slice r.pA n.ps.length r.pc) := by rw [hW1.out]; go_simp
  have S1 : Hid (SlS 3 encI W1 A c L) := by rw [hW1.out]; exact hS
  have N1 := Lib.hid (HN.out.up : NetIs B W1 r n)
  clear hW1 hS
  have HAT : ∀ k, k < L.length → isOrd n (nth L k) = true ∧ (nth L k).length = n.hs.length := by rw [← HL.out]; exact fun k hk => allO_at hk
  have HA := Lib.hid HAT
  clear HAT
  obtain ⟨b, o, A0, c0, rfl, hb, hc, hs0⟩ := S1.out.nth l0 (HA.out 0 l0).2
  rw [Nat.add_zero] at hc
  have ib : Lt b W1 := ⟨hb⟩
  have H0 := Lib.hid hs0.plain
  clear hs0
  have hl0 : (0 : Int) < (L.length : Int) := by omega
  refine wp_region_lat (by kernel_rfl) (by kernel_rfl) ?_
  repeat (go_big_quiet_step ((first | (go_at_call 30; exact Calls.lat_of (rWorstOf_c r n A0 c0 _ (nth L 0) _ _ H0.out.up N1.out.wide.up HV.out (HA.out 0 l0).1 (HA.out 0 l0).2)))))
  refine wpQuiet_nil ?_
  rintro _ ⟨δq, rfl⟩
  obtain ⟨v, hv0⟩ : ∃ v, worst n (nth L 0) = v := ⟨_, rfl⟩
  rw [hv0]
  have HLB : Hid (minK (worst n) v L L.length = leastN n) := by
    have := HLB.out
    rw [HL.out, hv0] at this
    exact this.trans (by unfold leastN bestO; rw [HL.out])
  clear hv0
  go_wp2_with (fail)
  go_loopg [4, 5] L.length (fun g s4 s5 wr => ∃ (k : Nat) (δ : World), k ≤ L.length ∧ g = L.length - k ∧ s5 = .int .i64 k ∧ s4 = .int .i64 (minK (worst n) v L k) ∧ wr = lat W1 δ)
  case atStart => exact ⟨0, _, Nat.zero_le _, rfl, rfl, rfl, rfl⟩
  case round =>
    obtain ⟨k, δ, hk, rfl, rfl, rfl, rfl⟩ := hrel
    by_cases hlt : k < L.length
    · obtain ⟨b', o', Ak, ck, hA', hbk, hck, hsk⟩ := S1.out.nth hlt (HA.out k hlt).2
      obtain ⟨rfl, rfl⟩ : b = b' ∧ o = o' := by simpa using hA'
      have HK := Lib.hid hsk.plain
      have hki : (k : Int) < (L.length : Int) := by omega
      have hk0 : ¬ (k : Int) < 0 := by omega
      have HLT := Lib.hid hlt
      clear hlt hk hsk hbk hc
      by_cases hmn : worst n (nth L k) < minK (worst n) v L k
      · have HE := Lib.hid (show minK (worst n) v L (k + 1) = worst n (nth L k) by rw [minK]; omega)
        go_wp2_with (fail)
        refine wp_region_lat (by kernel_rfl) (by kernel_rfl) ?_
        repeat (go_big_quiet_step ((first | (go_at_call 30; exact Calls.lat_of (rWorstOf_c r n Ak ck _ (nth L k) _ _ HK.out.up N1.out.wide.up HV.out (HA.out k HLT.out).1 (HA.out k HLT.out).2)))))
        refine wpQuiet_nil ?_
        rintro _ ⟨δq2, rfl⟩
        go_wp2_with (fail)
        go_roundg (L.length - (k + 1))
        case measure => have := HLT.out; omega
        case rel => exact ⟨k + 1, _, HLT.out, rfl, by go_num, by rw [HE.out], lat_def⟩
      · have HE := Lib.hid (show minK (worst n) v L (k + 1) = minK (worst n) v L k by rw [minK]; omega)
        go_wp2_with (fail)
        refine wp_region_lat (by kernel_rfl) (by kernel_rfl) ?_
        repeat (go_big_quiet_step ((first | (go_at_call 30; exact Calls.lat_of (rWorstOf_c r n Ak ck _ (nth L k) _ _ HK.out.up N1.out.wide.up HV.out (HA.out k HLT.out).1 (HA.out k HLT.out).2)))))
        refine wpQuiet_nil ?_
        rintro _ ⟨δq2, rfl⟩
        go_wp2_with (fail)
        go_roundg (L.length - (k + 1))
        case measure => have := HLT.out; omega
        case rel => exact ⟨k + 1, _, HLT.out, rfl, by go_num, by rw [HE.out], lat_def⟩
    · obtain rfl : k = L.length := by omega
      rw [HLB.out]
      refine wp_name fun W2 hW2 => ?_
      have iw9 : Le B W2 := by rw [hW2.out]; infer_instance
      have iw10 : Grew B W1 W2 := by rw [hW2.out]; infer_instance
      have iw11 : Le W1.heap.size W2 := by rw [hW2.out]; infer_instance
      have iw12 : Grew W1.heap.size W1 W2 := by rw [hW2.out]; infer_instance
      have iw13 : Lt (w.heap.size) W2 := by rw [hW2.out]; infer_instance
      have iw14 : Lt (b) W2 := by rw [hW2.out]; infer_instance
      have cw15 : W2.cell? ⟨w.heap.size, 0, none⟩ = some (.int .i64 n.m) := by rw [hW2.out]; go_simp
      have cw16 : W2.cell? ⟨w.heap.size, 1, none⟩ = some (.slice r.hA n.hs.length r.hc) := by rw [hW2.out]; go_simp
      have cw17 : W2.cell? ⟨w.heap.size, 2, none⟩ = some (.slice r.pA n.ps.length r.pc) := by rw [hW2.out]; go_simp
      have S2 : Hid (SlS 3 encI W2 (some ⟨b, o, none⟩) c L) := by rw [hW2.out]; exact S1.out.up
      have N2 := Lib.hid (N1.out.up : NetIs B W2 r n)
      have j1 : Grew w.heap.size w W2 := grew_tr iw4 (inferInstance : Grew W1.heap.size W1 W2)
      have j2 : Le w.heap.size W2 := ⟨Nat.le_trans iw3.out (inferInstance : Le W1.heap.size W2).out⟩
      clear hW2 S1 N1 H0 hc
      go_wp2_with (fail)
      go_loopg [6, 7] L.length (fun g s6 s7 wr => ∃ (k c' : Nat) (A' : Option Addr) (cs : List Value), k ≤ L.length ∧ g = L.length - k ∧ s7 = .int .i64 k ∧ s6 = .slice A' (sameAs (worst n) (leastN n) (L.take k)).length c' ∧
        wr.ownsRow W2.heap.size 30 1 (.slice A' (sameAs (worst n) (leastN n) (L.take k)).length c') (sameAs (worst n) (leastN n) (L.take k)).length cs ∧ Hid (Subs 3 encI W2 cs (sameAs (worst n) (leastN n) (L.take k))) ∧ Grew W2.heap.size W2 wr ∧ Le W2.heap.size wr)
      case atStart => exact ⟨0, 0, none, [], Nat.zero_le _, rfl, rfl, rfl, World.ownsRow_nil _ _ _ _, Subs.nil, inferInstance, inferInstance⟩
      case round =>
        obtain ⟨k, c', A', cs, hk, rfl, rfl, rfl, hown, hsub, i1, i2⟩ := hrel
        have hle : (sameAs (worst n) (leastN n) (L.take k)).length ≤ 50000 := by
          refine Nat.le_trans (List.length_filter_le _ _) ?_
          rw [List.length_take]; omega
        obtain ⟨R, hR⟩ : ∃ R, sameAs (worst n) (leastN n) (L.take k) = R := ⟨_, rfl⟩
        rw [hR] at hown hsub hle ⊢
        have HR := Lib.hid hR
        have HO := Lib.hid hown
        have hwl : w.heap.size < W2.heap.size := (inferInstance : Lt w.heap.size W2).out
        have q0 : wr.cell? ⟨w.heap.size, 0, none⟩ = some (.int .i64 n.m) := (cells_same i1.out w.heap.size 0 hwl).trans (by assumption)
        have q1 : wr.cell? ⟨w.heap.size, 1, none⟩ = some (.slice r.hA n.hs.length r.hc) := (cells_same i1.out w.heap.size 1 hwl).trans (by assumption)
        have q2 : wr.cell? ⟨w.heap.size, 2, none⟩ = some (.slice r.pA n.ps.length r.pc) := (cells_same i1.out w.heap.size 2 hwl).trans (by assumption)
        have iw : Lt w.heap.size wr := ⟨Nat.lt_of_lt_of_le hwl i2.out⟩
        clear hown hR
        by_cases hlt : k < L.length
        · obtain ⟨b', o', Ak, ck, hA', hbk, hck, hsk⟩ := S2.out.nth hlt (HA.out k hlt).2
          obtain ⟨rfl, rfl⟩ : b = b' ∧ o = o' := by simpa using hA'
          have hck' := (cells_same i1.out b _ hbk).trans hck
          have ibr : Lt b wr := ⟨Nat.lt_of_lt_of_le hbk i2.out⟩
          have HSK := Lib.hid hsk
          have HK := Lib.hid ((hsk.plain.up (hg := i1)).more i2.out)
          have HN3 := Lib.hid ((N2.out.wide : NetIs W2.heap.size W2 r n).up (hg := i1))
          have HN4 := Lib.hid (HN3.out.more i2.out)
          have hki : (k : Int) < (L.length : Int) := by omega
          have hk0 : ¬ (k : Int) < 0 := by omega
          have HLT := Lib.hid hlt
          have hsn : sameAs (worst n) (leastN n) (L.take (k + 1)) = R ++ (if worst n (nth L k) = leastN n then [nth L k] else []) := by
            have := bestK_snoc (n := n) (k := k) (by rw [HL.out]; exact hlt)
            rw [HL.out] at this
            rw [this, HR.out]
          have HSN := Lib.hid hsn
          clear hlt hk hsk hbk hsn
          by_cases hE : worst n (nth L k) = leastN n
          · have hEb : (worst n (nth L k) == leastN n) = true := by simpa using hE
            have HSR := Lib.hid (show sameAs (worst n) (leastN n) (L.take (k + 1)) = R ++ [nth L k] by rw [HSN.out, if_pos hE])
            clear hE
            go_wp2_with (fail)
            refine wp_region_lat (by kernel_rfl) (by kernel_rfl) ?_
            repeat (go_big_quiet_step ((first | (go_at_call 30; exact Calls.lat_of (rWorstOf_c r n Ak ck _ (nth L k) _ _ HK.out.up HN4.out.up HV.out (HA.out k HLT.out).1 (HA.out k HLT.out).2)))))
            refine wpQuiet_nil ?_
            rintro _ ⟨δq2, rfl⟩
            go_wp2_with (at_builtin; (refine wpList_append_new W2 slLL (.tmp 43) (.tmp 48) rfl rfl (owns_lat _ HO.out) rfl rfl (by go_simp) rfl (by simp [Value.oneCell']) (by omega) (by omega) ?_); intro A2 c2 δ2 hown2)
            go_roundg (L.length - (k + 1))
            case measure => have := HLT.out; omega
            case rel =>
              refine ⟨k + 1, c2, A2, cs ++ [.slice Ak n.hs.length ck], HLT.out, rfl, by go_num, ?_, ?_, ?_, inferInstance, inferInstance⟩
              · rw [HSR.out, List.length_append]; rfl
              · rw [HSR.out, List.length_append]; exact hown2
              · rw [HSR.out]
                have h1 := Subs.one HSK.out
                rw [(HA.out k HLT.out).2] at h1
                exact hsub.out.append h1
          · have hEb : (worst n (nth L k) == leastN n) = false := by simpa using hE
            have HSR := Lib.hid (show sameAs (worst n) (leastN n) (L.take (k + 1)) = R by rw [HSN.out, if_neg hE, List.append_nil])
            clear hE
            go_wp2_with (fail)
            refine wp_region_lat (by kernel_rfl) (by kernel_rfl) ?_
            repeat (go_big_quiet_step ((first | (go_at_call 30; exact Calls.lat_of (rWorstOf_c r n Ak ck _ (nth L k) _ _ HK.out.up HN4.out.up HV.out (HA.out k HLT.out).1 (HA.out k HLT.out).2)))))
            refine wpQuiet_nil ?_
            rintro _ ⟨δq2, rfl⟩
            go_wp2_with (fail)
            go_roundg (L.length - (k + 1))
            case measure => have := HLT.out; omega
            case rel =>
              exact ⟨k + 1, c', A', cs, HLT.out, rfl, by go_num, by rw [HSR.out], by rw [HSR.out]; exact owns_lat _ HO.out, by rw [HSR.out]; exact hsub, inferInstance, inferInstance⟩
        · obtain rfl : k = L.length := by omega
          have HB := Lib.hid (show bestL n = R by unfold bestL; rw [HL.out, ← HR.out, List.take_length])
          go_wp2_with (fail)
          go_ret
          rw [HB.out]
          have i8 : Grew w.heap.size w wr := grew_tr j1 i1
          have i9 : Le w.heap.size wr := ⟨Nat.le_trans j2.out i2.out⟩
          refine ⟨A', c', wr, rfl, lat_def, ?_⟩
          rw [← lat_def (w := w) (W := wr)]
          exact SlS.of_own HO.out (hsub.out.up (hg := i1) (hs := i2)) rfl

end Go.Proofs.Ytbfehifidlojlaa
