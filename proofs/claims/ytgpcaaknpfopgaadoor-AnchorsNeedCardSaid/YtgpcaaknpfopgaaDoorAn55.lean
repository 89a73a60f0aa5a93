/- Layer 2: the walk of the law AnchorsNeed where the net is ready and the anchor is one. -/
import Derived.Test.YtgpcaaknpfopgaaDoorAn47
import Derived.Test.YtgpcaaknpfopgaaDoorAn48
import Derived.Test.YtgpcaaknpfopgaaDoorAn33
import Derived.Test.YtgpcaaknpfopgaaDoorAn42
import Derived.Test.YtgpcaaknpfopgaaDoorAnPlain12
import Derived.Deep.RegionWith
namespace Go.Proofs.YtgpcaaknpfopgaaDoor
open Go.RowKit
open An

theorem readyV_is {n : Net} {b : Bool} (hb : readyV n = b) {r : NetR} {B : Nat} {w : World} [hB : Le B w] (h : NetIs B w r n) :
    Calls Tryd.prog 35 #[netV r n] w fun e w' => e = .returned (.bool b) ∧ ∃ δ, w' = lat w δ := by
  subst hb; exact readyV_c r n B w h
theorem grew_trans {B : Nat} {w W wr : World} (h : Grew B w W) (h2 : Grew W.heap.size W wr) [hB : Le B W] : Grew B w wr :=
  ⟨⟨h2.out.1.trans h.out.1, h2.out.2.1.trans h.out.2.1, h2.out.2.2.1.trans h.out.2.2.1, fun b hb => (h2.out.2.2.2 b (Nat.lt_of_lt_of_le hb hB.out)).trans (h.out.2.2.2 b hb)⟩⟩
theorem Sl.anc_at {B : Nat} {w : World} {b o c : Nat} {xs : List Anc} (h : Sl encAnc B w (some ⟨b, o, none⟩) c xs) {k : Nat} (hk : k < xs.length) : w.cell? ⟨b, o + k * 2, none⟩ = some (.int .i64 (nth xs k).wt) := by
  obtain ⟨b', o', hA', _, r, _⟩ := h.anc hk
  injection hA' with e
  injection e with e1 e2
  subst e1 e2
  exact r
/-- The cells of a net. -/
abbrev netC (r : NetR) (n : Net) : Array Value := #[.int .i64 n.wind.lo, .int .i64 n.wind.hi, .int .i64 n.cur.lo, .int .i64 n.cur.hi, .slice r.gA n.grips.length r.gc, .slice r.aA n.ancs.length r.ac, .slice r.wA n.wals.length r.wc]
namespace An
theorem sumN_le {n : Net} (hv : valid n = true) : ∀ k, k ≤ n.ancs.length → sumN n k ≤ 21 * (k : Int)
  | 0, _ => Int.le_refl _
  | k + 1, h => by
    have h1 := sumN_le hv k (by omega)
    have h2 := needN_le n k
    have h3 := topK_int hv (show k < n.ancs.length by omega)
    have ha := okAnc_nth hv (show k < n.ancs.length by omega)
    simp only [okAnc, decide_eq_true_eq] at ha
    unfold sumN
    omega
end An
theorem heavier_up (r : NetR) (n : Net) (k : Nat) (hv : valid n = true) (hok : needOk n = true) (hk : k < n.ancs.length) (B : Nat) (w : World) [hB : Le B w] (h : NetIs B w r (upN n k)) :
    Calls Tryd.prog 29 #[netV r (upN n k), .int .i64 k, .int .i64 (needN n k)] w fun e w' => ∃ (r' : NetR) (δ : World), e = .returned (netV r' (upN n (k + 1))) ∧ w' = lat w δ ∧ NetOwn w.heap.size (lat w δ) r' (upN n (k + 1)) := by
  have hvu := valid_iff.1 (valid_up hv hok (Nat.le_of_lt hk))
  have ha := okAnc_nth (valid_up hv hok (Nat.le_of_lt hk)) (show k < (upN n k).ancs.length by rw [upN_len]; exact hk)
  simp only [okAnc, decide_eq_true_eq] at ha
  have h1 := needOk_iff.1 hok k hk
  have h2 := topK_int hv hk
  have := okAnc_nth hv hk
  simp only [okAnc, decide_eq_true_eq] at this
  have hc := heavierO_c r (upN n k) k (needN n k) (by rw [upN_len]; exact hk) (by omega) B w h (by omega) (by omega) (by omega)
  rw [upN_succ n hk] at hc
  exact hc
theorem NetIs.setBox {B : Nat} {w : World} {r : NetR} {n : Net} (h : NetIs B w r n) (p : Addr) (u : Value) (hB : B ≤ p.block) : NetIs B (w.setCell p u) r n := ⟨(Sl_setCell p u hB).2 h.1, (Sl_setCell p u hB).2 h.2.1, (Sl_setCell p u hB).2 h.2.2⟩

set_option maxRecDepth 100000 in
set_option maxHeartbeats 8000000 in
theorem lawNeedT_c (r : NetR) (n : Net) (a : Nat) (B : Nat) (w : World) [hB : Le B w] [h2 : Le 2 w] (h : NetIs B w r n) (hT : TabIs w)
    (hg : readyV n = true) (hi : inB 0 (n.ancs.length - 1) (a : Int) = true) :
    Calls Tryd.prog 8 #[netV r n, .int .i64 a] w fun e w' => e = .returned (.bool true) ∧ ∃ δ, w' = lat w δ := by
  have HT := Lib.hid hT
  have H := Lib.hid h
  have HG := Lib.hid hg
  have HI := Lib.hid hi
  have hi' := inB_iff.1 hi
  have hk : a < n.ancs.length := by omega
  have HK := Lib.hid hk
  have hki : (a : Int) < (n.ancs.length : Int) := by omega
  have hk0 : ¬ (a : Int) < 0 := by omega
  have hv : valid n = true := by unfold readyV at hg; simp only [Bool.and_eq_true] at hg; exact hg.2
  have HV := Lib.hid hv
  have h6 := (valid_iff.1 hv).2.2.2.1
  have hL := valid_iff.1 hv
  have HL := Lib.hid hL
  obtain ⟨gA, gc, aA, ac, wA, wc⟩ := r
  obtain ⟨b, o, hA, hb, d0, d1⟩ := h.2.1.anc hk
  have hA : aA = some ⟨b, o, none⟩ := hA
  subst hA
  have ib : Lt b w := ⟨Nat.lt_of_lt_of_le hb hB.out⟩
  clear hT h hg hi hi' hv hk hb d0 d1 hL
  by_cases hok : needOk n = true
  all_goals try rw [Bool.not_eq_true] at hok
  case neg =>
    have HN := Lib.hid (And.intro (needE_no HV.out hok) (needV_no hok))
    have HS := Lib.hid (safe_miss HV.out hok)
    obtain ⟨x, hx⟩ : ∃ x, safeX n = x := ⟨_, rfl⟩
    have HX := Lib.hid hx
    have hx1 : (x != 1) = true := by rw [← hx]; simpa using HS.out
    clear hok hx
    go_enter Tryd.func8, Tryd.ntmps8
    rw [show netV ⟨gA, gc, some ⟨b, o, none⟩, ac, wA, wc⟩ n = Value.agg #[.int .i64 n.wind.lo, .int .i64 n.wind.hi, .int .i64 n.cur.lo, .int .i64 n.cur.hi, .slice gA n.grips.length gc, .slice (some ⟨b, o, none⟩) n.ancs.length ac, .slice wA n.wals.length wc] from rfl]
    go_wp2_with (fail)
    refine (readyV_is (r := ⟨gA, gc, some ⟨b, o, none⟩, ac, wA, wc⟩) HG.out H.out.up).mono ?_
    rintro e w1 ⟨rfl, δ1, rfl⟩
    go_wp2_with (fail)
    refine (rIsAnchor_is (r := ⟨gA, gc, some ⟨b, o, none⟩, ac, wA, wc⟩) HI.out H.out.up).mono ?_
    rintro e w1 ⟨rfl, δ2, rfl⟩
    go_wp2_with (fail)
    refine (need_c ⟨gA, gc, some ⟨b, o, none⟩, ac, wA, wc⟩ n B _ H.out.up).mono ?_
    rw [HN.out.1, HN.out.2]
    rintro e w1 ⟨A, c, δ3, rfl, rfl, _⟩
    go_wp2_with (fail)
    refine (safe_k ⟨gA, gc, some ⟨b, o, none⟩, ac, wA, wc⟩ n _ HX.out HV.out B _ H.out.up).mono ?_
    rintro e w1 ⟨rfl, δ4, rfl⟩
    go_wp2_with (go_at_call 16; refine (works_c _ (HT.out.up Grew.out)).mono ?_; rintro e w1 ⟨rfl, δ6, rfl⟩)
    go_ret
    exact ⟨rfl, lat_ex⟩
  have HOK := Lib.hid hok
  have HN := Lib.hid (And.intro (needE_ok HV.out hok) (needV_len HV.out hok))
  obtain ⟨x, hx⟩ : ∃ x, safeX n = x := ⟨_, rfl⟩
  have HX := Lib.hid hx
  clear hok hx
  go_enter Tryd.func8, Tryd.ntmps8
  rw [show netV ⟨gA, gc, some ⟨b, o, none⟩, ac, wA, wc⟩ n = Value.agg #[.int .i64 n.wind.lo, .int .i64 n.wind.hi, .int .i64 n.cur.lo, .int .i64 n.cur.hi, .slice gA n.grips.length gc, .slice (some ⟨b, o, none⟩) n.ancs.length ac, .slice wA n.wals.length wc] from rfl]
  go_wp2_with (fail)
  refine (readyV_is (r := ⟨gA, gc, some ⟨b, o, none⟩, ac, wA, wc⟩) HG.out H.out.up).mono ?_
  rintro e w1 ⟨rfl, δ1, rfl⟩
  go_wp2_with (fail)
  refine (rIsAnchor_is (r := ⟨gA, gc, some ⟨b, o, none⟩, ac, wA, wc⟩) HI.out H.out.up).mono ?_
  rintro e w1 ⟨rfl, δ2, rfl⟩
  go_wp2_with (fail)
  refine (need_c ⟨gA, gc, some ⟨b, o, none⟩, ac, wA, wc⟩ n B _ H.out.up).mono ?_
  rw [HN.out.1]
  rintro e w1 ⟨A, c, δ3, rfl, rfl, hS⟩
  have HS := Lib.hid hS
  clear hS
  rw [HN.out.2]
  go_wp2_with (fail)
  refine (safe_k ⟨gA, gc, some ⟨b, o, none⟩, ac, wA, wc⟩ n _ HX.out HV.out B _ H.out.up).mono ?_
  rintro e w1 ⟨rfl, δ4, rfl⟩
  go_upto_region 11 with fail
  refine wp_name fun W1 hW1 => ?_
  have iw1 : Le B W1 := by rw [hW1.out]; infer_instance
  have iw2 : Grew B w W1 := by rw [hW1.out]; infer_instance
  have iw3 : Le 2 W1 := by rw [hW1.out]; infer_instance
  have iw4 : Grew 2 w W1 := by rw [hW1.out]; infer_instance
  have iw5 : Le w.heap.size W1 := by rw [hW1.out]; infer_instance
  have iw6 : Grew w.heap.size w W1 := by rw [hW1.out]; infer_instance
  have iw7 : Lt (w.heap.size) W1 := by rw [hW1.out]; infer_instance
  have iw8 : Lt (b) W1 := by rw [hW1.out]; infer_instance
  have cw9 : W1.cell? ⟨w.heap.size, 0, none⟩ = some (.int .i64 n.wind.lo) := by rw [hW1.out]; go_simp
  have cw10 : W1.cell? ⟨w.heap.size, 1, none⟩ = some (.int .i64 n.wind.hi) := by rw [hW1.out]; go_simp
  have cw11 : W1.cell? ⟨w.heap.size, 2, none⟩ = some (.int .i64 n.cur.lo) := by rw [hW1.out]; go_simp
  have cw12 : W1.cell? ⟨w.heap.size, 3, none⟩ = some (.int .i64 n.cur.hi) := by rw [hW1.out]; go_simp
  have cw13 : W1.cell? ⟨w.heap.size, 4, none⟩ = some (.slice gA n.grips.length gc) := by rw [hW1.out]; go_simp
  have cw14 : W1.cell? ⟨w.heap.size, 5, none⟩ = some (.slice (some ⟨b, o, none⟩) n.ancs.length ac) := by rw [hW1.out]; go_simp
  have cw15 : W1.cell? ⟨w.heap.size, 6, none⟩ = some (.slice wA n.wals.length wc) := by rw [hW1.out]; go_simp
  have S1 : Sl encI W1.heap.size W1 A c (needV n) := by rw [hW1.out]; exact HS.out.wide
  have SA : Sl encAnc B W1 (some ⟨b, o, none⟩) ac n.ancs := H.out.up.2.1
  go_wp2_with (fail)
  have i1 : Lt W1.heap.size (W1.alloc (Obj.cells (netC ⟨gA, gc, some ⟨b, o, none⟩, ac, wA, wc⟩ n) 28)) := inferInstance
  have hb1 : b < W1.heap.size := (inferInstance : Lt b W1).out
  have hw1 : w.heap.size < W1.heap.size := (inferInstance : Lt w.heap.size W1).out
  have hb2 : B ≤ W1.heap.size := (inferInstance : Le B W1).out
  go_loopg [10, 11] n.ancs.length (fun g s i wr => ∃ (k : Nat) (r' : NetR), k ≤ n.ancs.length ∧ g = n.ancs.length - k ∧ s = .int .i64 (sumN n k) ∧ i = .int .i64 k ∧ Box wr W1.heap.size 28 (netC r' (upN n k)) ∧ Hid (NetIs wr.heap.size wr r' (upN n k)) ∧ Grew W1.heap.size W1 wr ∧ Grew w.heap.size w wr ∧ Le W1.heap.size wr)
  case atStart =>
    refine ⟨0, ⟨gA, gc, some ⟨b, o, none⟩, ac, wA, wc⟩, Nat.zero_le _, rfl, rfl, rfl, ?_, ?_, inferInstance, inferInstance, inferInstance⟩
    · rw [upN_zero]
      exact Box.new rfl
    · rw [upN_zero]
      exact H.out.wide
  case round =>
    obtain ⟨k, r', hk, rfl, rfl, rfl, hbox, NO, j1, j2, j3⟩ := hrel
    have i3 : Lt w.heap.size wr := ⟨Nat.lt_of_lt_of_le hw1 j3.out⟩
    have i4 : Lt W1.heap.size wr := hbox.lt
    have i5 : Lt b wr := ⟨Nat.lt_of_lt_of_le hb1 j3.out⟩
    have i6 : Le w.heap.size wr := ⟨Nat.le_trans (Nat.le_of_lt hw1) j3.out⟩
    have i7 : Le B wr := ⟨Nat.le_trans hb2 j3.out⟩
    have i8 : Grew B w wr := grew_trans (W := W1) inferInstance j1
    have i10 : Grew 2 w wr := grew_trans (W := W1) inferInstance j1
    have i9 : Le 2 wr := ⟨Nat.le_trans (inferInstance : Le 2 W1).out j3.out⟩
    have cc5 : wr.cell? ⟨w.heap.size, 5, none⟩ = some (.slice (some ⟨b, o, none⟩) n.ancs.length ac) := by rw [cells_same j1.out _ _ hw1]; assumption
    have b0 := hbox.cell (i := 0) rfl
    have b1 := hbox.cell (i := 1) rfl
    have b2 := hbox.cell (i := 2) rfl
    have b3 := hbox.cell (i := 3) rfl
    have b4 := hbox.cell (i := 4) rfl
    have b5 := hbox.cell (i := 5) rfl
    have b6 := hbox.cell (i := 6) rfl
    have f0 := hbox.free 0
    have f1 := hbox.free 1
    have f2 := hbox.free 2
    have f3 := hbox.free 3
    have f4 := hbox.free 4
    have f5 := hbox.free 5
    have f6 := hbox.free 6
    have HB := Lib.hid hbox
    by_cases hlt : k < n.ancs.length
    · obtain ⟨bl, ol, hAl, hbl, l0⟩ := S1.int (k := k) (by rw [HN.out.2]; exact hlt)
      rw [needV_nth HV.out HOK.out hlt] at l0
      have ibl : Lt bl wr := ⟨Nat.lt_of_lt_of_le hbl j3.out⟩
      have l1 : wr.cell? ⟨bl, ol + k, none⟩ = some (.int .i64 (needN n k)) := by rw [cells_same j1.out _ _ hbl]; exact l0
      have e1 : wr.cell? ⟨b, o + k * 2, none⟩ = some (.int .i64 (nth n.ancs k).wt) := by rw [cells_same j1.out _ _ hb1]; exact SA.anc_at hlt
      have hAl : A = some ⟨bl, ol, none⟩ := hAl
      subst hAl
      have hki' : (k : Int) < (n.ancs.length : Int) := by omega
      have hk0' : ¬ (k : Int) < 0 := by omega
      have ha := okAnc_nth HV.out hlt
      simp only [okAnc, decide_eq_true_eq] at ha
      have ha0 : 0 ≤ (nth n.ancs k).wt := ha.1
      have ha1 : (nth n.ancs k).wt ≤ 20 := ha.2.1
      have HLT := Lib.hid hlt
      have hn1 := needOk_iff.1 HOK.out k hlt
      have hn2 := topK_int HV.out hlt
      have HWI := Lib.hid (show inB 0 (20 - (nth n.ancs k).wt) (needN n k : Int) = true by rw [inB_iff]; omega)
      have hnk : (needN n k : Int) ≤ 20 := by omega
      clear ha hn1 hn2 l0 hlt
      go_wp2_with (fail)
      refine wp_region_lat (by kernel_rfl) (by kernel_rfl) ?_
      repeat (go_big_quiet_step ((first | (go_at_call 28; exact Calls.lat_same (within_is HWI.out _)))))
      refine wpQuiet_nil ?_
      rintro _ ⟨δq, rfl⟩
      go_wp2_with (fail)
      go_region_with (first
        | (go_at_call 29; refine (heavier_up r' n k HV.out HOK.out HLT.out _ _ NO.out.wide).mono ?_; rintro e w1 ⟨r2, δ2, rfl, rfl, ho⟩; have HO2 := Lib.hid ho; clear ho))
      all_goals
        go_upto_region 19 with fail
        refine wp_name fun W5 hW5 => ?_
        have bx5 : Box W5 W1.heap.size 28 (netC r2 (upN n (k + 1))) := by
          rw [hW5.out]
          exact (((((((((HB.out.lat δq).drew.lat δ2).set 0 _).set 1 _).set 2 _).set 3 _).set 4 _).set 5 _).set 6 _)
        have k1 : Grew W1.heap.size W1 W5 := by rw [hW5.out]; infer_instance
        have k2 : Grew w.heap.size w W5 := by rw [hW5.out]; infer_instance
        have k3 : Le W1.heap.size W5 := by rw [hW5.out]; infer_instance
        have hlw : W1.heap.size < (lat wr δq).drew.heap.size := (inferInstance : Lt W1.heap.size (lat wr δq).drew).out
        have N5 : Hid (NetIs W5.heap.size W5 r2 (upN n (k + 1))) := by
          rw [hW5.out]
          exact (((((((HO2.out.set hlw _).set hlw _).set hlw _).set hlw _).set hlw _).set hlw _).set hlw _).is
        have l5 : W5.cell? ⟨bl, ol + k, none⟩ = some (.int .i64 (needN n k)) := by rw [cells_same k1.out _ _ hbl, ← cells_same j1.out _ _ hbl]; exact l1
        have i51 : Lt bl W5 := ⟨Nat.lt_of_lt_of_le hbl k3.out⟩
        have i52 : Lt w.heap.size W5 := ⟨Nat.lt_of_lt_of_le hw1 k3.out⟩
        have hs0 := sumN_bd n k
        have hs1 := sumN_le HV.out k (Nat.le_of_lt HLT.out)
        have hs2 : sumN n k ≤ 200 := by omega
        clear hs1 hW5
        go_wp2_with (fail)
        go_roundg (n.ancs.length - (k + 1))
        · exact ⟨k + 1, r2, HLT.out, rfl, by show _ = Value.int .i64 (sumN n k + (needN n k : Int)); go_num, by go_num, bx5, N5, k1, k2, k3⟩
        · have := HLT.out; omega
    · obtain rfl : k = n.ancs.length := by omega
      have HU := Lib.hid (valid_up HV.out HOK.out (Nat.le_refl n.ancs.length))
      have HSU := Lib.hid (safe_up HV.out HOK.out)
      have hss := sum_safe HV.out
      obtain ⟨bl, ol, hAl, hbl, l0⟩ := S1.int (k := a) (by rw [HN.out.2]; exact HK.out)
      rw [needV_nth HV.out HOK.out HK.out] at l0
      have ibl : Lt bl wr := ⟨Nat.lt_of_lt_of_le hbl j3.out⟩
      have l1 : wr.cell? ⟨bl, ol + a, none⟩ = some (.int .i64 (needN n a)) := by rw [cells_same j1.out _ _ hbl]; exact l0
      have hAl : A = some ⟨bl, ol, none⟩ := hAl
      subst hAl
      clear l0
      have hx3 : (sumN n n.ancs.length == 0) = (x == 1) := by
        rw [Bool.eq_iff_iff]
        simp only [beq_iff_eq]
        rw [hss, HX.out]
      clear hss
      by_cases hx1 : x = 1
      · have hx2 : (x == 1) = true := by simp [hx1]
        rw [hx2] at hx3
        clear hx1
        by_cases hz : needN n a = 0
        · have hz' : ((needN n a : Int) == 0) = true := by simp [hz]
          clear hz
          go_wp2_with (fail)
          refine (safe_k r' (upN n n.ancs.length) 1 HSU.out HU.out _ _ NO.out.wide).mono ?_
          rintro e w1 ⟨rfl, δ5, rfl⟩
          go_wp2_with (go_at_call 16; refine (works_c _ (HT.out.up Grew.out)).mono ?_; rintro e w1 ⟨rfl, δ6, rfl⟩)
          go_ret
          exact ⟨rfl, lat_ex⟩
        · have hz' : ((needN n a : Int) == 0) = false := by simp [hz]
          have hp : 0 < needN n a := by omega
          have HVL := Lib.hid (valid_less HV.out HOK.out HK.out hp)
          have HSL := Lib.hid (safe_less HV.out HOK.out HK.out hp)
          obtain ⟨y, hy⟩ : ∃ y, safeX (heav (upN n n.ancs.length) a (-1)) = y := ⟨_, rfl⟩
          have HY := Lib.hid hy
          have hy1 : (y != 1) = true := by rw [← hy]; simpa using HSL.out
          have HLU := Lib.hid (valid_iff.1 HU.out)
          have HWB := Lib.hid (show -100 ≤ (nth (upN n n.ancs.length).ancs a).wt + -1 ∧ (nth (upN n n.ancs.length).ancs a).wt + -1 ≤ 100 by
            have ha := okAnc_nth HU.out (show a < (upN n n.ancs.length).ancs.length by rw [upN_len]; exact HK.out)
            simp only [okAnc, decide_eq_true_eq] at ha
            omega)
          clear hz hy hp
          go_wp2_with (fail)
          refine (safe_k r' (upN n n.ancs.length) 1 HSU.out HU.out _ _ NO.out.wide).mono ?_
          rintro e w1 ⟨rfl, δ5, rfl⟩
          go_wp2_with (fail)
          refine (heavier_c r' (upN n n.ancs.length) a (-1) (by rw [upN_len]; exact HK.out) HWB.out _ _ NO.out.wide (by have := HLU.out; omega) (by have := HLU.out; omega) (by have := HLU.out; omega)).mono ?_
          rintro e w1 ⟨r2, δ7, rfl, rfl, ho⟩
          have HO2 := Lib.hid ho
          clear ho
          go_wp2_with (fail)
          refine (safe_k r2 _ _ HY.out HVL.out _ _ HO2.out.wide).mono ?_
          rintro e w1 ⟨rfl, δ8, rfl⟩
          go_wp2_with (go_at_call 16; refine (works_c _ (HT.out.up Grew.out)).mono ?_; rintro e w1 ⟨rfl, δ6, rfl⟩)
          go_ret
          exact ⟨rfl, lat_ex⟩
      · have hx2 : (x == 1) = false := by simp [hx1]
        rw [hx2] at hx3
        clear hx1
        by_cases hz : needN n a = 0
        · have hz' : ((needN n a : Int) == 0) = true := by simp [hz]
          clear hz
          go_wp2_with (fail)
          refine (safe_k r' (upN n n.ancs.length) 1 HSU.out HU.out _ _ NO.out.wide).mono ?_
          rintro e w1 ⟨rfl, δ5, rfl⟩
          go_wp2_with (go_at_call 16; refine (works_c _ (HT.out.up Grew.out)).mono ?_; rintro e w1 ⟨rfl, δ6, rfl⟩)
          go_ret
          exact ⟨rfl, lat_ex⟩
        · have hz' : ((needN n a : Int) == 0) = false := by simp [hz]
          have hp : 0 < needN n a := by omega
          have HVL := Lib.hid (valid_less HV.out HOK.out HK.out hp)
          have HSL := Lib.hid (safe_less HV.out HOK.out HK.out hp)
          obtain ⟨y, hy⟩ : ∃ y, safeX (heav (upN n n.ancs.length) a (-1)) = y := ⟨_, rfl⟩
          have HY := Lib.hid hy
          have hy1 : (y != 1) = true := by rw [← hy]; simpa using HSL.out
          have HLU := Lib.hid (valid_iff.1 HU.out)
          have HWB := Lib.hid (show -100 ≤ (nth (upN n n.ancs.length).ancs a).wt + -1 ∧ (nth (upN n n.ancs.length).ancs a).wt + -1 ≤ 100 by
            have ha := okAnc_nth HU.out (show a < (upN n n.ancs.length).ancs.length by rw [upN_len]; exact HK.out)
            simp only [okAnc, decide_eq_true_eq] at ha
            omega)
          clear hz hy hp
          go_wp2_with (fail)
          refine (safe_k r' (upN n n.ancs.length) 1 HSU.out HU.out _ _ NO.out.wide).mono ?_
          rintro e w1 ⟨rfl, δ5, rfl⟩
          go_wp2_with (fail)
          refine (heavier_c r' (upN n n.ancs.length) a (-1) (by rw [upN_len]; exact HK.out) HWB.out _ _ NO.out.wide (by have := HLU.out; omega) (by have := HLU.out; omega) (by have := HLU.out; omega)).mono ?_
          rintro e w1 ⟨r2, δ7, rfl, rfl, ho⟩
          have HO2 := Lib.hid ho
          clear ho
          go_wp2_with (fail)
          refine (safe_k r2 _ _ HY.out HVL.out _ _ HO2.out.wide).mono ?_
          rintro e w1 ⟨rfl, δ8, rfl⟩
          go_wp2_with (go_at_call 16; refine (works_c _ (HT.out.up Grew.out)).mono ?_; rintro e w1 ⟨rfl, δ6, rfl⟩)
          go_ret
          exact ⟨rfl, lat_ex⟩

end Go.Proofs.YtgpcaaknpfopgaaDoor
