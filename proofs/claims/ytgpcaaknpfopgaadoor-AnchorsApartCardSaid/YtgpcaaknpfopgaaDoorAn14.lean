/- Layer 2: the walks of the reference's lists of truths. -/
import Derived.Test.YtgpcaaknpfopgaaDoorAn13
import Derived.Test.YtgpcaaknpfopgaaDoorBase5
namespace Go.Proofs.YtgpcaaknpfopgaaDoor
open Go.RowKit
open An

theorem slLL : SlT Tryd.prog 113 36 (.slice none 0 0) 1 24 := SlT.mk Tryd.underlying113 (by kernel_rfl) rfl (by omega)

theorem owns_up {w W : World} {b e s n : Nat} {v : Value} {xs : List Value} (h : w.ownsRow b e s v n xs) [hg : Grew w.heap.size w W] : W.ownsRow b e s v n xs := by
  refine ⟨h.1, ?_⟩
  rcases h.2 with h2 | ⟨g, cap, cur, hv, hb, hh, r⟩
  · exact .inl h2
  · refine .inr ⟨g, cap, cur, hv, hb, ?_, r⟩
    rw [hg.out.2.2.2 g, hh]
    rcases Nat.lt_or_ge g w.heap.size with hlt | hge
    · exact hlt
    · rw [Array.getElem?_eq_none hge] at hh; cases hh
theorem own_lit0 {W : World} {base e size g : Nat} (hb : base ≤ W.heap.size) (hg : g = W.heap.size) : (W.alloc (.cells #[] e)).ownsRow base e size (.slice (some ⟨g, 0, none⟩) 0 0) 0 [] := by
  subst hg
  have := World.ownsRow_lit (base := base) (e := e) (size := size) W #[] 0 hb (by unfold maxLen; omega) (by simp)
  simpa using this
theorem len_encI (f : List Int) : (f.flatMap encI).length = f.length * 1 := by induction f with
  | nil => rfl
  | cons x f ih => simp only [List.flatMap_cons, List.length_append, ih, encI, List.length_cons, List.length_nil]; omega
theorem one_encI (f : List Int) : ∀ u ∈ f.flatMap encI, u.oneCell' = true := by
  intro u hu
  simp [encI] at hu
  obtain ⟨x, _, rfl⟩ := hu
  rfl
theorem cells_one {W : World} {g B : Nat} {v : Value} (h : W.cell? ⟨g, 0, none⟩ = some v) (hg : g < B) : Cells W B (some ⟨g, 0, none⟩) [v] := fun _ => ⟨g, 0, rfl, hg, fun j u hj => by
  cases j with
  | zero => simp at hj; subst hj; exact h
  | succ j => simp at hj⟩

theorem step_append_lit {P : Program} (W1 : World) {W : World} {ops : Array Oper} {o : Oper} {a : Act} {K : Act → World → Prop} {Q : Exit → Act → World → Prop} {E : Prop} {t e : TypeId} {z : Value} {size bytes : Nat} (hT : SlT P t e z size bytes)
    (s x : Operand) (hgd : o.guard = none) (ho : o.op = .call { callee := .builtin .append, args := #[s, x], argTypes := #[t, t] })
    {v : Value} (hown : W.ownsRow W1.heap.size e size v 0 []) (hs : a.eval s = v)
    {B m c : Nat} {A : Option Addr} {news : List Value} (hx : a.eval x = .slice A m c) (hr : Cells W B A news) (hl : news.length = m * size) (h1 : ∀ u ∈ news, u.oneCell' = true)
    (h63 : m ≤ 1000000) (hbytes : bytes ≤ 1000) [hbase : Le W1.heap.size W]
    (h : ∀ A' c' δ, (latB W1.heap.size W δ).ownsRow W1.heap.size e size (.slice A' m c') m news → W.grownBy (latB W1.heap.size W δ) v.ownBlock → K (a.put o.dst (.slice A' m c')) (latB W1.heap.size W δ)) :
    if Region.wanted o (yielded ops a.tmps) = true then Oper.wp P o a W K Q else E :=
  step_append_cells W1 hT s x hgd ho hown hs hx hr hl h1 (by omega) hbytes fun A' c' δ h2 h3 => by
    rw [Nat.zero_add, List.nil_append] at h2
    rw [Nat.zero_add]
    exact h A' c' δ h2 h3

/-- k numbers from lo on. -/
def upto (lo : Int) (k : Nat) : List Int := (List.range k).map fun (j : Nat) => lo + j
theorem upto_succ (lo : Int) (k : Nat) : upto lo (k + 1) = upto lo k ++ [lo + k] := by simp [upto, List.range_succ]
/-- All lists of grips that begin with f, m more to come. -/
def gripsF : Nat → List Sp → List Int → List (List Int)
  | 0, _, f => [f]
  | m + 1, gs, f => (upto (nth gs f.length).lo ((nth gs f.length).hi + 1 - (nth gs f.length).lo).toNat).flatMap fun g => gripsF m gs (f ++ [g])
theorem gripsF_len {gs : List Sp} (h : okSps gs = true) : ∀ (m : Nat) (f : List Int), f.length + m = gs.length → (gripsF m gs f).length ≤ 10 ^ m ∧ 0 < (gripsF m gs f).length := by
  intro m
  induction m with
  | zero => intro f _; simp [gripsF]
  | succ m ih =>
    intro f hf
    have hs := (List.all_eq_true.1 h) _ (nth_mem gs (k := f.length) (by omega))
    simp only [okSp, decide_eq_true_eq] at hs
    have key : ∀ k : Nat, (((upto (nth gs f.length).lo k).flatMap fun g => gripsF m gs (f ++ [g])).length ≤ k * 10 ^ m) ∧ (0 < k → 0 < ((upto (nth gs f.length).lo k).flatMap fun g => gripsF m gs (f ++ [g])).length) := by
      intro k
      induction k with
      | zero => simp [upto]
      | succ k ihk =>
        rw [upto_succ, List.flatMap_append, List.length_append]
        have := ih (f ++ [(nth gs f.length).lo + k]) (by simp; omega)
        simp only [List.flatMap_cons, List.flatMap_nil, List.append_nil]
        rw [Nat.succ_mul]
        omega
    unfold gripsF
    have h1 := key ((nth gs f.length).hi + 1 - (nth gs f.length).lo).toNat
    refine ⟨Nat.le_trans h1.1 ?_, h1.2 (by omega)⟩
    rw [Nat.pow_succ, Nat.mul_comm]
    exact Nat.mul_le_mul_left _ (by omega)

/-- What 'grips' returns. -/
def GripsPost (w : World) (L : List (List Int)) (e : Ending) (w' : World) : Prop := ∃ (A : Option Addr) (c : Nat) (δ : World), e = .returned (.slice A L.length c) ∧ w' = lat w δ ∧ SlS 3 encI (lat w δ) A c L

set_option maxHeartbeats 4000000 in
theorem grips0_c (r : NetR) (n : Net) (f : List Int) (A : Option Addr) (c : Nat) (B : Nat) (w : World) [hB : Le B w] (h : NetIs B w r n) (hf : Slt 3 encI w.heap.size w A c f) (hl : f.length = n.grips.length) :
    Calls Tryd.prog 112 #[netV r n, .slice A f.length c] w (GripsPost w (gripsF 0 n.grips f)) := by
  have hE : ((f.length : Int) == (n.grips.length : Int)) = true := by simp; omega
  have l1 := hf.plain.len
  clear hl
  go_enter Tryd.func112, Tryd.ntmps112
  go_wp2_with (fail)
  go_ret
  have hsub : Slt 3 encI ((w.alloc (.cells #[.int .i64 n.wind.lo, .int .i64 n.wind.hi, .int .i64 n.cur.lo, .int .i64 n.cur.hi, .slice r.gA n.grips.length r.gc, .slice r.aA n.ancs.length r.ac, .slice r.wA n.wals.length r.wc] 28)).alloc (.cells #[.slice A f.length c] 36)).heap.size ((w.alloc (.cells #[.int .i64 n.wind.lo, .int .i64 n.wind.hi, .int .i64 n.cur.lo, .int .i64 n.cur.hi, .slice r.gA n.grips.length r.gc, .slice r.aA n.ancs.length r.ac, .slice r.wA n.wals.length r.wc] 28)).alloc (.cells #[.slice A f.length c] 36)) A c f := hf.wide
  refine ⟨some ⟨w.heap.size + 1, 0, none⟩, 1, _, rfl, lat_def, ?_⟩
  rw [← lat_def (w := w) (W := (w.alloc (.cells #[.int .i64 n.wind.lo, .int .i64 n.wind.hi, .int .i64 n.cur.lo, .int .i64 n.cur.hi, .slice r.gA n.grips.length r.gc, .slice r.aA n.ancs.length r.ac, .slice r.wA n.wals.length r.wc] 28)).alloc (.cells #[.slice A f.length c] 36))]
  exact ⟨Nat.le_refl _, by omega, [.slice A f.length c], cells_one (by go_simp) (by go_simp), Subs.one hsub⟩

/-- The contract of 'grips' where m more are to come. -/
def GripsC (n : Net) (m : Nat) : Prop := ∀ (r : NetR) (f : List Int) (A : Option Addr) (c : Nat) (B : Nat) (w : World), Le B w → NetIs B w r n → Slt 3 encI w.heap.size w A c f → f.length + m = n.grips.length → ∀ ln : Nat, f.length = ln →
  Calls Tryd.prog 112 #[netV r n, .slice A ln c] w (GripsPost w (gripsF m n.grips f))

set_option maxRecDepth 100000 in
set_option maxHeartbeats 8000000 in
theorem gripsS_c (n : Net) (m : Nat) (hg : okSps n.grips = true) (h3 : n.grips.length ≤ 3) (IH : GripsC n m) : GripsC n (m + 1) := by
  intro r f A c B w hB h hf hfl ln hln
  subst hln
  have l1 := hf.plain.len
  have hlt : f.length < n.grips.length := by omega
  have hne : ((f.length : Int) == (n.grips.length : Int)) = false := by simp; omega
  obtain ⟨bs, os, hA, hb, d0, d1⟩ := h.1.sp hlt
  have ib : Lt bs w := ⟨Nat.lt_of_lt_of_le hb hB.out⟩
  have hki : (f.length : Int) < (n.grips.length : Int) := by omega
  have hk0 : ¬ (f.length : Int) < 0 := by omega
  have hsp := (List.all_eq_true.1 hg) _ (nth_mem n.grips hlt)
  simp only [okSp, decide_eq_true_eq] at hsp
  obtain ⟨lo, hlo⟩ : ∃ x, x = (nth n.grips f.length).lo := ⟨_, rfl⟩
  obtain ⟨hi, hhi⟩ : ∃ x, x = (nth n.grips f.length).hi := ⟨_, rfl⟩
  rw [← hlo] at hsp d0
  rw [← hhi] at hsp d1
  obtain ⟨cnt, hcnt⟩ : ∃ x, x = (hi + 1 - lo).toNat := ⟨_, rfl⟩
  have hF := Lib.hid (show gripsF (m + 1) n.grips f = (upto lo cnt).flatMap fun g => gripsF m n.grips (f ++ [g]) by rw [hcnt, hlo, hhi]; rfl)
  have hch : (cnt : Int) = hi + 1 - lo := by omega
  have HC := Lib.hid hch
  have HLO := Lib.hid hlo
  have HHI := Lib.hid hhi
  have HCN := Lib.hid hcnt
  have HFL := Lib.hid hfl
  have HIH := Lib.hid IH
  have HG := Lib.hid hg
  have H := Lib.hid h
  have H3 := Lib.hid h3
  have hc10 : cnt ≤ 10 := by omega
  clear hlo hhi hcnt hch hfl IH hg h h3
  rw [show netV r n = Value.agg #[.int .i64 n.wind.lo, .int .i64 n.wind.hi, .int .i64 n.cur.lo, .int .i64 n.cur.hi, .slice r.gA n.grips.length r.gc, .slice r.aA n.ancs.length r.ac, .slice r.wA n.wals.length r.wc] from rfl, hA]
  have HA := Lib.hid hA
  clear hA
  go_enter Tryd.func112, Tryd.ntmps112
  go_wp2_with (fail)
  rw [← HA.out]
  refine wp_name fun W1 hW1 => ?_
  have iw1 : Le B W1 := by rw [hW1.out]; infer_instance
  have iw2 : Grew B w W1 := by rw [hW1.out]; infer_instance
  have iw3 : Le w.heap.size W1 := by rw [hW1.out]; infer_instance
  have iw4 : Grew w.heap.size w W1 := by rw [hW1.out]; infer_instance
  have iw5 : Lt (w.heap.size) W1 := by rw [hW1.out]; infer_instance
  have iw6 : Lt (w.heap.size + 1) W1 := by rw [hW1.out]; infer_instance
  have cw7 : W1.cell? ⟨w.heap.size, 0, none⟩ = some (.int .i64 n.wind.lo) := by rw [hW1.out]; go_simp
  have cw8 : W1.cell? ⟨w.heap.size, 1, none⟩ = some (.int .i64 n.wind.hi) := by rw [hW1.out]; go_simp
  have cw9 : W1.cell? ⟨w.heap.size, 2, none⟩ = some (.int .i64 n.cur.lo) := by rw [hW1.out]; go_simp
  have cw10 : W1.cell? ⟨w.heap.size, 3, none⟩ = some (.int .i64 n.cur.hi) := by rw [hW1.out]; go_simp
  have cw11 : W1.cell? ⟨w.heap.size, 4, none⟩ = some (.slice r.gA n.grips.length r.gc) := by rw [hW1.out]; go_simp
  have cw12 : W1.cell? ⟨w.heap.size, 5, none⟩ = some (.slice r.aA n.ancs.length r.ac) := by rw [hW1.out]; go_simp
  have cw13 : W1.cell? ⟨w.heap.size, 6, none⟩ = some (.slice r.wA n.wals.length r.wc) := by rw [hW1.out]; go_simp
  have cw14 : W1.cell? ⟨w.heap.size + 1, 0, none⟩ = some (.int .i64 lo) := by rw [hW1.out]; go_simp
  have cw15 : W1.cell? ⟨w.heap.size + 1, 1, none⟩ = some (.int .i64 hi) := by rw [hW1.out]; go_simp
  have g1 : NetIs B W1 r n := H.out.up
  have g2 : Slt 3 encI W1.heap.size W1 A c f := hf.wide
  have G1 := Lib.hid g1
  have G2 := Lib.hid g2
  clear g1 g2 hf d0 d1
  go_loopw [5, 7] (fun o g wr => ∃ (k c' : Nat) (A' : Option Addr) (cs : List Value) (L : List (List Int)), k ≤ cnt ∧ g = .int .i64 (lo + k) ∧ Hid (L = (upto lo k).flatMap fun g => gripsF m n.grips (f ++ [g])) ∧ L.length ≤ k * 10 ^ m ∧ o = .slice A' L.length c' ∧ wr.ownsRow W1.heap.size 36 1 (.slice A' L.length c') L.length cs ∧ Subs 3 encI wr cs L ∧ Grew W1.heap.size W1 wr ∧ Le W1.heap.size wr) (fun _ g _ => (lo + cnt - intOf g).toNat)
  case atStart => exact ⟨0, 0, none, [], [], Nat.zero_le _, by simp, by simp [upto, Hid], by simp, rfl, World.ownsRow_nil _ _ _ _, Subs.nil, inferInstance, inferInstance⟩
  case round =>
    obtain ⟨k, c', A', cs, L, hk, rfl, hL, hLl, rfl, hown, hsub, i1, i2⟩ := hrel
    have hcell : ∀ b o, b < W1.heap.size → wr.cell? ⟨b, o, none⟩ = W1.cell? ⟨b, o, none⟩ := cells_same i1.out
    have i3 : Lt w.heap.size wr := ⟨Nat.lt_of_lt_of_le iw5.out i2.out⟩
    have i4 : Lt (w.heap.size + 1) wr := ⟨Nat.lt_of_lt_of_le iw6.out i2.out⟩
    have i5 : Le B wr := ⟨Nat.le_trans iw1.out i2.out⟩
    have i6 : Grew B w wr := ⟨⟨i1.out.1.trans iw2.out.1, i1.out.2.1.trans iw2.out.2.1, i1.out.2.2.1.trans iw2.out.2.2.1, fun b hb => (i1.out.2.2.2 b (Nat.lt_of_lt_of_le hb iw1.out)).trans (iw2.out.2.2.2 b hb)⟩⟩
    have i7 : Grew B W1 wr := ⟨⟨i1.out.1, i1.out.2.1, i1.out.2.2.1, fun b hb => i1.out.2.2.2 b (Nat.lt_of_lt_of_le hb iw1.out)⟩⟩
    have HO := Lib.hid hown
    have HS := Lib.hid hsub
    clear hown hsub
    by_cases hlt' : k < cnt
    · have hle : lo + (k : Int) ≤ hi := by have := HC.out; omega
      have hbd : k * 10 ^ m ≤ 100000 := by
        have : 10 ^ m ≤ 10 ^ 2 := Nat.pow_le_pow_right (by omega) (by have := HFL.out; have := H3.out; omega)
        have := Nat.mul_le_mul (show k ≤ 10 by omega) this
        omega
      have hgl := (gripsF_len HG.out m (f ++ [lo + k]) (by have := HFL.out; simp; omega))
      have hpw : 10 ^ m ≤ 1000 := by
        have : 10 ^ m ≤ 10 ^ 2 := Nat.pow_le_pow_right (by omega) (by have := HFL.out; have := H3.out; omega)
        omega
      have hfl3 : f.length ≤ 3 := by have := HFL.out; have := H3.out; omega
      go_wp2_with (fail)
      go_goals
      go_region_held3 (fun W => W.cell? ⟨w.heap.size, 0, none⟩ = some (.int .i64 n.wind.lo) ∧ W.cell? ⟨w.heap.size, 1, none⟩ = some (.int .i64 n.wind.hi) ∧ W.cell? ⟨w.heap.size, 2, none⟩ = some (.int .i64 n.cur.lo) ∧ W.cell? ⟨w.heap.size, 3, none⟩ = some (.int .i64 n.cur.hi) ∧
          W.cell? ⟨w.heap.size, 4, none⟩ = some (.slice r.gA n.grips.length r.gc) ∧ W.cell? ⟨w.heap.size, 5, none⟩ = some (.slice r.aA n.ancs.length r.ac) ∧ W.cell? ⟨w.heap.size, 6, none⟩ = some (.slice r.wA n.wals.length r.wc))
        (refine ⟨?_, ?_, ?_, ?_, ?_, ?_, ?_⟩ <;> go_simp)
        (first
          | (refine step_append_lit wr slI (.tmp 32) (.tmp 33) rfl rfl (v := .slice (some ⟨_, 0, none⟩) 0 0) (by first | exact own_lit0 (by go_simp) (by go_simp) | exact (own_lit0 (by go_simp) (by go_simp)).alloc _) rfl (B := W1.heap.size) (A := A) (m := f.length) (c := c) (news := f.flatMap encI) rfl (G2.out.up.plain.2.2) (len_encI f) (one_encI f) (by omega) (by omega) ?_; intro A1 c1 δ1 own1 hg1)
          | ((refine step_append_cells wr slI (.tmp 34) (.tmp 36) rfl rfl (v := .slice A1 f.length c1) (n := f.length) (xs := f.flatMap encI) (by first | exact own1 | exact own1.alloc _ ) rfl (m := 1) (c := 1) (news := [.int .i64 (lo + k)]) rfl (cells_one (by first | (go_simp; done) | (refine hg1.cell (by go_simp) (by simp [Value.ownBlock]))) (Nat.lt_succ_self _)) rfl (by simp [Value.oneCell']) (by omega) (by omega) ?_); intro A2 c2 δ2 own2 hg2)
          | (go_at_call 112; refine (HIH.out r (f ++ [lo + (k : Int)]) A2 c2 B _ inferInstance G1.out.up (Slt.of_own (by rw [List.flatMap_append]; exact own2) (by simp)) (by have := HFL.out; simp; omega) (f.length + 1) (by simp)).mono ?_; rintro e w1 ⟨A3, c3, δ3, rfl, rfl, hq1, hq2, cs3, hc3, hs3⟩)
          | (refine step_append_cells W1 slLL (.tmp 30) (.tmp 38) rfl rfl (v := .slice A' L.length c') (n := L.length) (xs := cs) (owns_up HO.out) rfl (A := A3) (m := (gripsF m n.grips (f ++ [lo + (k : Int)])).length) (c := c3) (news := cs3) rfl hc3 (by have := hs3.1; omega) hs3.oneCell (by omega) (by omega) ?_; intro A4 c4 δ4 own4 hg4))
      all_goals
        go_wp2_with (fail)
        go_roundw
        case rel =>
          refine ⟨k + 1, c4, A4, cs ++ cs3, L ++ gripsF m n.grips (f ++ [lo + (k : Int)]), by omega, ?_, ?_, ?_, by rw [List.length_append], by rw [List.length_append]; exact own4, (HS.out.up.append hs3).grown (owns_up HO.out) hg4 (by decide), inferInstance, inferInstance⟩
          · first | (congr 1; omega) | (congr 1; push_cast; omega)
          · unfold Hid
            rw [upto_succ, List.flatMap_append, ← hL.out]
            simp
          · rw [List.length_append, Nat.succ_mul]; omega
        case measure => simp [intOf]; omega
    · obtain rfl : k = cnt := by omega
      have hgt : ¬ lo + (k : Int) ≤ hi := by have := HC.out; omega
      have HF := Lib.hid (show gripsF (m + 1) n.grips f = L by rw [hF.out, hL.out])
      go_wp2_with (fail)
      go_ret
      rw [HF.out]
      have i8 : Grew w.heap.size w wr := ⟨⟨i1.out.1.trans iw4.out.1, i1.out.2.1.trans iw4.out.2.1, i1.out.2.2.1.trans iw4.out.2.2.1, fun b hb => (i1.out.2.2.2 b (Nat.lt_of_lt_of_le hb iw3.out)).trans (iw4.out.2.2.2 b hb)⟩⟩
      have i9 : Le w.heap.size wr := ⟨Nat.le_trans iw3.out i2.out⟩
      refine ⟨A', c', wr, rfl, lat_def, ?_⟩
      rw [← lat_def (w := w) (W := wr)]
      exact SlS.of_own HO.out HS.out rfl

end Go.Proofs.YtgpcaaknpfopgaaDoor
