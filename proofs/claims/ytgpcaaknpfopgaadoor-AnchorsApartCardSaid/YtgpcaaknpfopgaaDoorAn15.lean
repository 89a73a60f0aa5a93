/- Layer 2: the walk of Truths of the reference. -/
import Derived.Test.YtgpcaaknpfopgaaDoorAn14
namespace Go.Proofs.YtgpcaaknpfopgaaDoor
open Go.RowKit
open An

theorem grips_all (n : Net) (hg : okSps n.grips = true) (h3 : n.grips.length ≤ 3) : ∀ m, GripsC n m
  | 0 => fun r f A c B w hB h hf hl ln hln => by subst hln; exact grips0_c r n f A c B w h hf (by omega)
  | m + 1 => gripsS_c n m hg h3 (grips_all n hg h3 m)

theorem slT : SlT Tryd.prog 103 38 (.agg #[.int .i64 0, .int .i64 0, .slice none 0 0]) 3 40 := SlT.mk Tryd.underlying103 (by kernel_rfl) rfl (by omega)

instance : Inhabited Tru := ⟨⟨0, 0, []⟩⟩
/-- Cells that are truths. -/
def TSubs (w : World) (cs : List Value) (L : List Tru) : Prop :=
  cs.length = L.length * 3 ∧ ∀ i, i < L.length → cs[i * 3]? = some (.int .i64 (nth L i).wind) ∧ cs[i * 3 + 1]? = some (.int .i64 (nth L i).cur) ∧ ∃ A' c', cs[i * 3 + 2]? = some (.slice A' (nth L i).grips.length c') ∧ Slt 3 encI w.heap.size w A' c' (nth L i).grips
section
variable {w w' : World} {cs : List Value} {L : List Tru}
theorem TSubs.nil : TSubs w [] [] := ⟨rfl, fun i h => absurd h (by simp)⟩
theorem TSubs.up (h : TSubs w cs L) [hg : Grew w.heap.size w w'] [hs : Le w.heap.size w'] : TSubs w' cs L :=
  ⟨h.1, fun i hi => by obtain ⟨a, b, A', c', e, s⟩ := h.2 i hi; exact ⟨a, b, A', c', e, s.wide⟩⟩
theorem TSubs.grown (h : TSubs w cs L) {v : Value} {base : Nat} {e : TypeId} {size n : Nat} {ys : List Value} (hown : w.ownsRow base e size v n ys) (hg : w.grownBy w' v.ownBlock) (hne : e ≠ 3) : TSubs w' cs L :=
  ⟨h.1, fun i hi => by obtain ⟨a, b, A', c', e', s⟩ := h.2 i hi; exact ⟨a, b, A', c', e', s.grown hown hg hne⟩⟩
theorem nth_append_left {α : Type} [Inhabited α] (xs ys : List α) {k : Nat} (h : k < xs.length) : nth (xs ++ ys) k = nth xs k := by
  rw [nth_get _ (by simp; omega), nth_get _ h, List.getElem_append_left h]
theorem nth_append_last {α : Type} [Inhabited α] (xs : List α) (x : α) : nth (xs ++ [x]) xs.length = x := by
  rw [nth_get _ (by simp), List.getElem_append_right (by omega)]; simp
theorem TSubs.snoc (h : TSubs w cs L) {t : Tru} {A' : Option Addr} {c' : Nat} (hs : Slt 3 encI w.heap.size w A' c' t.grips) : TSubs w (cs ++ [.int .i64 t.wind, .int .i64 t.cur, .slice A' t.grips.length c']) (L ++ [t]) := by
  refine ⟨by simp [h.1]; omega, fun i hi => ?_⟩
  rw [List.length_append, List.length_singleton] at hi
  by_cases hlt : i < L.length
  · obtain ⟨a, b, A'', c'', e, s⟩ := h.2 i hlt
    rw [nth_append_left _ _ hlt]
    refine ⟨?_, ?_, A'', c'', ?_, s⟩
    · rw [List.getElem?_append_left (by rw [h.1]; omega)]; exact a
    · rw [List.getElem?_append_left (by rw [h.1]; omega)]; exact b
    · rw [List.getElem?_append_left (by rw [h.1]; omega)]; exact e
  · obtain rfl : i = L.length := by omega
    rw [nth_append_last]
    refine ⟨?_, ?_, A', c', ?_, hs⟩
    · rw [List.getElem?_append_right (by rw [h.1]; omega), h.1, show L.length * 3 - L.length * 3 = 0 by omega]; rfl
    · rw [List.getElem?_append_right (by rw [h.1]; omega), h.1, show L.length * 3 + 1 - L.length * 3 = 1 by omega]; rfl
    · rw [List.getElem?_append_right (by rw [h.1]; omega), h.1, show L.length * 3 + 2 - L.length * 3 = 2 by omega]; rfl
end
/-- A slice of truths. -/
def SlTru (w : World) (A : Option Addr) (c : Nat) (L : List Tru) : Prop := L.length ≤ c ∧ c ≤ 9223372036854775807 ∧ ∃ cs, Cells w w.heap.size A cs ∧ TSubs w cs L
section
variable {w w' : World} {A : Option Addr} {c : Nat} {L : List Tru}
theorem SlTru.up (h : SlTru w A c L) [hg : Grew w.heap.size w w'] [hs : Le w.heap.size w'] : SlTru w' A c L := by
  obtain ⟨h1, h2, cs, h3, h4⟩ := h
  exact ⟨h1, h2, cs, h3.keep hs.out (cells_same hg.out), h4.up⟩
theorem SlTru.at_ (h : SlTru w A c L) {k : Nat} (hk : k < L.length) : ∃ b o A' c', A = some ⟨b, o, none⟩ ∧ b < w.heap.size ∧ w.cell? ⟨b, o + k * 3, none⟩ = some (.int .i64 (nth L k).wind) ∧ w.cell? ⟨b, o + k * 3 + 1, none⟩ = some (.int .i64 (nth L k).cur) ∧
    w.cell? ⟨b, o + k * 3 + 2, none⟩ = some (.slice A' (nth L k).grips.length c') ∧ Sl encI w.heap.size w A' c' (nth L k).grips := by
  obtain ⟨h1, h2, cs, h3, h4, h5⟩ := h
  obtain ⟨a, b', A', c', e, s⟩ := h5 k hk
  obtain ⟨b, o, hA, hb, hc⟩ := h3 (by rintro rfl; simp at e)
  exact ⟨b, o, A', c', hA, hb, hc _ _ a, by have := hc _ _ b'; rwa [← Nat.add_assoc] at this, by have := hc _ _ e; rwa [← Nat.add_assoc] at this, s.plain⟩
theorem SlTru.of_own {base : Nat} {e : TypeId} {n : Nat} {cs : List Value} (h : w.ownsRow base e 3 (.slice A n c) n cs) (hs : TSubs w cs L) (hn : L.length = n) : SlTru w A c L := by
  refine ⟨?_, ?_, cs, Cells.of_own h, hs⟩
  · rcases h.2 with ⟨hv, h0⟩ | ⟨g, cap, cur, hv, _, hh, hnc, _⟩
    · omega
    · injection hv with _ _ hc; omega
  · rcases h.2 with ⟨hv, h0⟩ | ⟨g, cap, cur, hv, _, hh, hnc, hm, _⟩
    · injection hv with _ _ hc; omega
    · injection hv with _ _ hc; unfold maxLen at hm; omega
end

/-- All truths of a net. -/
def gripsV (n : Net) : List (List Int) := gripsF n.grips.length n.grips []
def truI (w c : Int) (ls : List (List Int)) : List Tru := ls.map fun l => ⟨w, c, l⟩
def truC (w : Int) (cs : List Int) (ls : List (List Int)) : List Tru := cs.flatMap fun c => truI w c ls
def truW (ws cs : List Int) (ls : List (List Int)) : List Tru := ws.flatMap fun w => truC w cs ls
def spanL (s : Sp) : List Int := upto s.lo (s.hi + 1 - s.lo).toNat
def truthsV (n : Net) : List Tru := truW (spanL n.wind) (spanL n.cur) (gripsV n)

theorem SlS.all_ {α : Type} [Inhabited α] {enc : α → List Value} {T : TypeId} {w : World} {A : Option Addr} {c : Nat} {xss : List (List α)} (h : SlS T enc w A c xss) (h0 : 0 < xss.length) : ∃ b o, A = some ⟨b, o, none⟩ ∧ b < w.heap.size ∧ ∀ k, k < xss.length → ∃ A' c', w.cell? ⟨b, o + k, none⟩ = some (.slice A' (nth xss k).length c') ∧ Slt T enc w.heap.size w A' c' (nth xss k) := by
  obtain ⟨b, o, _, _, hA, hb, _⟩ := h.at_ h0
  refine ⟨b, o, hA, hb, fun k hk => ?_⟩
  obtain ⟨b', o', A', c', hA', _, e, s⟩ := h.at_ hk
  rw [hA] at hA'
  injection hA' with q
  injection q with q1 q2
  subst q1 q2
  rw [nth_get _ hk]
  exact ⟨A', c', e, s⟩
theorem truI_len (w c : Int) (ls : List (List Int)) : (truI w c ls).length = ls.length := by simp [truI]
theorem truI_snoc (w c : Int) (ls : List (List Int)) {k : Nat} (h : k < ls.length) : truI w c (ls.take (k + 1)) = truI w c (ls.take k) ++ [⟨w, c, nth ls k⟩] := by
  rw [take_snoc ls h]; simp [truI]
theorem truC_snoc (w lo : Int) (k : Nat) (ls : List (List Int)) : truC w (upto lo (k + 1)) ls = truC w (upto lo k) ls ++ truI w (lo + k) ls := by
  rw [upto_succ]; simp [truC]
theorem truC_len (w lo : Int) (k : Nat) (ls : List (List Int)) : (truC w (upto lo k) ls).length = k * ls.length := by
  induction k with
  | zero => simp [truC, upto]
  | succ k ih => rw [truC_snoc, List.length_append, ih, truI_len, Nat.succ_mul]
theorem truW_snoc (lo clo : Int) (k ck : Nat) (ls : List (List Int)) : truW (upto lo (k + 1)) (upto clo ck) ls = truW (upto lo k) (upto clo ck) ls ++ truC (lo + k) (upto clo ck) ls := by
  rw [upto_succ lo k]; simp [truW]
theorem truW_len (lo clo : Int) (k ck : Nat) (ls : List (List Int)) : (truW (upto lo k) (upto clo ck) ls).length = k * (ck * ls.length) := by
  induction k with
  | zero => simp [truW, upto]
  | succ k ih => rw [truW_snoc, List.length_append, ih, truC_len, Nat.succ_mul]

/-- What 'Truths' returns. -/
def TruthsPost (w : World) (n : Net) (e : Ending) (w' : World) : Prop := ∃ (A : Option Addr) (c : Nat) (δ : World), e = .returned (.slice A (truthsV n).length c) ∧ w' = lat w δ ∧ SlTru (lat w δ) A c (truthsV n)

set_option maxRecDepth 100000 in
set_option maxHeartbeats 8000000 in
theorem truths_c (r : NetR) (n : Net) (B : Nat) (w : World) [hB : Le B w] (h : NetIs B w r n) (hv : valid n = true) :
    Calls Tryd.prog 97 #[netV r n] w (TruthsPost w n) := by
  have v1 := (valid_iff.1 hv).1
  have v2 := (valid_iff.1 hv).2.1
  have v3 := (valid_iff.1 hv).2.2.1
  have v6 := (valid_iff.1 hv).2.2.2.2.2.1
  have HGR := Lib.hid (grips_all n v6 v3 n.grips.length)
  have hgl := gripsF_len v6 n.grips.length [] (by simp)
  have hpw : 10 ^ n.grips.length ≤ 10 ^ 3 := Nat.pow_le_pow_right (by omega) v3
  simp only [okSp, decide_eq_true_eq] at v1 v2
  obtain ⟨LS, hLS⟩ : ∃ x, x = gripsF n.grips.length n.grips [] := ⟨_, rfl⟩
  rw [← hLS] at hgl
  have hLl : LS.length ≤ 1000 := by omega
  have hL0 := hgl.2
  obtain ⟨kw, hkw⟩ : ∃ x, x = (n.wind.hi + 1 - n.wind.lo).toNat := ⟨_, rfl⟩
  obtain ⟨kc, hkc⟩ : ∃ x, x = (n.cur.hi + 1 - n.cur.lo).toNat := ⟨_, rfl⟩
  have hkw' : (kw : Int) = n.wind.hi + 1 - n.wind.lo := by omega
  have hkc' : (kc : Int) = n.cur.hi + 1 - n.cur.lo := by omega
  have hb1 : kw ≤ 21 := by omega
  have hb2 : kc ≤ 21 := by omega
  have HF := Lib.hid (show truthsV n = truW (upto n.wind.lo kw) (upto n.cur.lo kc) LS by rw [hLS, hkw, hkc]; rfl)
  have HLS := Lib.hid hLS
  have HW := Lib.hid hkw'
  have HC := Lib.hid hkc'
  clear hLS hkw hkc hkw' hkc' hgl hpw v6
  go_enter Tryd.func97, Tryd.ntmps97
  have hc := HGR.out r [] none 0 B (w.alloc (.cells #[.int .i64 n.wind.lo, .int .i64 n.wind.hi, .int .i64 n.cur.lo, .int .i64 n.cur.hi, .slice r.gA n.grips.length r.gc, .slice r.aA n.ancs.length r.ac, .slice r.wA n.wals.length r.wc] 28)) inferInstance h.up Slt.none_ (by simp) 0 rfl
  rw [← HLS.out] at hc
  have HCC := Lib.hid hc
  clear hc
  go_wp2_with (fail)
  refine HCC.out.mono ?_
  rintro e w1 ⟨Al, cl, δ, rfl, rfl, hSl⟩
  go_wp2_with (fail)
  refine wp_name fun W1 hW1 => ?_
  have iw1 : Le B W1 := by rw [hW1.out]; infer_instance
  have iw2 : Grew B w W1 := by rw [hW1.out]; infer_instance
  have iw3 : Le w.heap.size W1 := by rw [hW1.out]; infer_instance
  have iw4 : Grew w.heap.size w W1 := by rw [hW1.out]; infer_instance
  have iw5 : Lt (w.heap.size) W1 := by rw [hW1.out]; infer_instance
  have cw6 : W1.cell? ⟨w.heap.size, 0, none⟩ = some (.int .i64 n.wind.lo) := by rw [hW1.out]; go_simp
  have cw7 : W1.cell? ⟨w.heap.size, 1, none⟩ = some (.int .i64 n.wind.hi) := by rw [hW1.out]; go_simp
  have cw8 : W1.cell? ⟨w.heap.size, 2, none⟩ = some (.int .i64 n.cur.lo) := by rw [hW1.out]; go_simp
  have cw9 : W1.cell? ⟨w.heap.size, 3, none⟩ = some (.int .i64 n.cur.hi) := by rw [hW1.out]; go_simp
  have hS1 : SlS 3 encI W1 Al cl LS := by rw [hW1.out]; exact hSl
  obtain ⟨bl, ol, rfl, hbl, hkl⟩ := hS1.all_ hL0
  have il : Lt bl W1 := ⟨hbl⟩
  have HK := Lib.hid hkl
  clear hS1 hSl hkl
  go_loopw [3, 5] (fun o g wr => ∃ (k c' : Nat) (A' : Option Addr) (cs : List Value) (L : List Tru), k ≤ kw ∧ g = .int .i64 (n.wind.lo + k) ∧ Hid (L = truW (upto n.wind.lo k) (upto n.cur.lo kc) LS) ∧ o = .slice A' L.length c' ∧ wr.ownsRow W1.heap.size 38 3 (.slice A' L.length c') L.length cs ∧ TSubs wr cs L ∧ Grew W1.heap.size W1 wr ∧ Le W1.heap.size wr) (fun _ g _ => (n.wind.lo + kw - intOf g).toNat)
  case atStart => exact ⟨0, 0, none, [], [], Nat.zero_le _, by simp, by simp [upto, truW, Hid], rfl, World.ownsRow_nil _ _ _ _, TSubs.nil, inferInstance, inferInstance⟩
  case round =>
    obtain ⟨k, c', A', cs, L, hk, rfl, hL, rfl, hown, hsub, i1, i2⟩ := hrel
    have hcell : ∀ b o, b < W1.heap.size → wr.cell? ⟨b, o, none⟩ = W1.cell? ⟨b, o, none⟩ := cells_same i1.out
    have i3 : Lt w.heap.size wr := ⟨Nat.lt_of_lt_of_le iw5.out i2.out⟩
    have HO := Lib.hid hown
    have HS := Lib.hid hsub
    clear hown hsub
    by_cases hlt : k < kw
    · have hle : n.wind.lo + (k : Int) ≤ n.wind.hi := by have := HW.out; omega
      go_wp2_with (fail)
      go_loopw [3, 6] (fun o g wr => ∃ (k2 c' : Nat) (A' : Option Addr) (cs : List Value) (L2 : List Tru), k2 ≤ kc ∧ g = .int .i64 (n.cur.lo + k2) ∧ Hid (L2 = L ++ truC (n.wind.lo + k) (upto n.cur.lo k2) LS) ∧ o = .slice A' L2.length c' ∧ wr.ownsRow W1.heap.size 38 3 (.slice A' L2.length c') L2.length cs ∧ TSubs wr cs L2 ∧ Grew W1.heap.size W1 wr ∧ Le W1.heap.size wr) (fun _ g _ => (n.cur.lo + kc - intOf g).toNat)
      case atStart => exact ⟨0, c', A', cs, L, Nat.zero_le _, by simp, by simp [upto, truC, Hid], rfl, HO.out, HS.out, i1, i2⟩
      case round =>
        clear HO HS hcell i1 i2 i3
        obtain ⟨k2, c', A', cs, L2, hk2, rfl, hL2, rfl, hown, hsub, i1, i2⟩ := hrel
        have hcell : ∀ b o, b < W1.heap.size → wr.cell? ⟨b, o, none⟩ = W1.cell? ⟨b, o, none⟩ := cells_same i1.out
        have i3 : Lt w.heap.size wr := ⟨Nat.lt_of_lt_of_le iw5.out i2.out⟩
        have HO := Lib.hid hown
        have HS := Lib.hid hsub
        clear hown hsub
        by_cases hlt2 : k2 < kc
        · have hle2 : n.cur.lo + (k2 : Int) ≤ n.cur.hi := by have := HC.out; omega
          go_wp2_with (fail)
          go_loopw [3, 7] (fun o g wr => ∃ (k3 c' : Nat) (A' : Option Addr) (cs : List Value) (L3 : List Tru), k3 ≤ LS.length ∧ g = .int .i64 k3 ∧ Hid (L3 = L2 ++ truI (n.wind.lo + k) (n.cur.lo + k2) (LS.take k3)) ∧ o = .slice A' L3.length c' ∧ wr.ownsRow W1.heap.size 38 3 (.slice A' L3.length c') L3.length cs ∧ TSubs wr cs L3 ∧ Grew W1.heap.size W1 wr ∧ Le W1.heap.size wr) (fun _ g _ => (LS.length - intOf g).toNat)
          case atStart => exact ⟨0, c', A', cs, L2, Nat.zero_le _, by simp, by simp [truI, Hid], rfl, HO.out, HS.out, i1, i2⟩
          case round =>
            clear HO HS hcell i1 i2 i3
            obtain ⟨k3, c', A', cs, L3, hk3, rfl, hL3, rfl, hown, hsub, i1, i2⟩ := hrel
            have hcell : ∀ b o, b < W1.heap.size → wr.cell? ⟨b, o, none⟩ = W1.cell? ⟨b, o, none⟩ := cells_same i1.out
            have i3 : Lt w.heap.size wr := ⟨Nat.lt_of_lt_of_le iw5.out i2.out⟩
            have i4 : Lt bl wr := ⟨Nat.lt_of_lt_of_le hbl i2.out⟩
            have HO := Lib.hid hown
            have HS := Lib.hid hsub
            clear hown hsub
            by_cases hlt3 : k3 < LS.length
            · obtain ⟨A3, c3, hc3, hs3⟩ := HK.out k3 hlt3
              have hki : (k3 : Int) < (LS.length : Int) := by omega
              have hk0 : ¬ (k3 : Int) < 0 := by omega
              have hbig : L3.length ≤ 900000 := by
                rw [hL3.out, hL2.out, hL.out, List.length_append, List.length_append, truW_len, truC_len, truI_len, List.length_take]
                have q1 := Nat.mul_le_mul hb2 hLl
                have q2 := Nat.mul_le_mul (show k ≤ 21 by omega) q1
                have q3 := Nat.mul_le_mul (show k2 ≤ 21 by omega) hLl
                omega
              go_wp2_with (at_builtin; (refine wpList_append_newg W1 slT (.tmp 36) (.tmp 44) rfl rfl (v := .slice A' L3.length c') (n := L3.length) (xs := cs) HO.out rfl rfl (by go_simp) rfl (by simp [Value.oneCell']) (by omega) (by omega) ?_); intro A4 c4 δ4 own4 hg4)
              go_roundw
              case rel =>
                refine ⟨k3 + 1, c4, A4, _, L3 ++ [⟨n.wind.lo + k, n.cur.lo + k2, nth LS k3⟩], by omega, by go_num, ?_, by rw [List.length_append]; rfl, by rw [List.length_append]; exact own4, ((HS.out.up (w' := wr.alloc (.cells #[.int .i64 (n.wind.lo + k), .int .i64 (n.cur.lo + k2), .slice A3 (nth LS k3).length c3] 38))).snoc (t := ⟨n.wind.lo + k, n.cur.lo + k2, nth LS k3⟩) hs3.wide).grown (HO.out.alloc _) hg4 (by decide), inferInstance, inferInstance⟩
                unfold Hid
                rw [truI_snoc _ _ _ hlt3, ← List.append_assoc, ← hL3.out]
              case measure => simp [intOf]; omega
            · obtain rfl : k3 = LS.length := by omega
              have HQ := Lib.hid (show L3 = L ++ truC (n.wind.lo + k) (upto n.cur.lo (k2 + 1)) LS by rw [hL3.out, List.take_length, hL2.out, truC_snoc, List.append_assoc])
              go_wp2_with (fail)
              go_roundw
              case rel =>
                refine ⟨k2 + 1, c', A', cs, L3, by omega, ?_, HQ.out, rfl, HO.out, HS.out, i1, i2⟩
                first | (congr 1; omega) | (congr 1; push_cast; omega)
              case measure => simp [intOf]; omega
        · obtain rfl : k2 = kc := by omega
          have hgt2 : ¬ n.cur.lo + (k2 : Int) ≤ n.cur.hi := by have := HC.out; omega
          have HQ := Lib.hid (show L2 = truW (upto n.wind.lo (k + 1)) (upto n.cur.lo k2) LS by rw [hL2.out, hL.out, truW_snoc])
          go_wp2_with (fail)
          go_roundw
          case rel =>
            refine ⟨k + 1, c', A', cs, L2, by omega, ?_, HQ.out, rfl, HO.out, HS.out, i1, i2⟩
            first | (congr 1; omega) | (congr 1; push_cast; omega)
          case measure => simp [intOf]; omega
    · obtain rfl : k = kw := by omega
      have hgt : ¬ n.wind.lo + (k : Int) ≤ n.wind.hi := by have := HW.out; omega
      have HQ := Lib.hid (show truthsV n = L by rw [HF.out, hL.out])
      go_wp2_with (fail)
      go_ret
      rw [TruthsPost, HQ.out]
      have i8 : Grew w.heap.size w wr := ⟨⟨i1.out.1.trans iw4.out.1, i1.out.2.1.trans iw4.out.2.1, i1.out.2.2.1.trans iw4.out.2.2.1, fun b hb => (i1.out.2.2.2 b (Nat.lt_of_lt_of_le hb iw3.out)).trans (iw4.out.2.2.2 b hb)⟩⟩
      have i9 : Le w.heap.size wr := ⟨Nat.le_trans iw3.out i2.out⟩
      refine ⟨A', c', wr, rfl, lat_def, ?_⟩
      rw [← lat_def (w := w) (W := wr)]
      exact SlTru.of_own HO.out HS.out rfl

end Go.Proofs.YtgpcaaknpfopgaaDoor
