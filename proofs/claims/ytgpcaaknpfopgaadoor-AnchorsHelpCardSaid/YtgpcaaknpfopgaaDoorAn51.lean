/- Layer 2: the walks of Help, of the program and of the reference. -/
import Derived.Test.YtgpcaaknpfopgaaDoorAnPlain11
import Derived.Test.YtgpcaaknpfopgaaDoorAn47
import Derived.Test.YtgpcaaknpfopgaaDoorAn27
namespace Go.Proofs.YtgpcaaknpfopgaaDoor
open Go.RowKit
open An

theorem Sl.ancs {B : Nat} {w : World} {A : Option Addr} {c : Nat} {xs : List Anc} (h : Sl encAnc B w A c xs) (h0 : 0 < xs.length) : ∃ b o, A = some ⟨b, o, none⟩ ∧ b < B ∧ ∀ k, k < xs.length → w.cell? ⟨b, o + k * 2, none⟩ = some (.int .i64 (nth xs k).wt) ∧ w.cell? ⟨b, o + k * 2 + 1, none⟩ = some (.int .i64 (nth xs k).bt) := by
  obtain ⟨b, o, hA, hb, _⟩ := h.anc h0
  refine ⟨b, o, hA, hb, fun k hk => ?_⟩
  obtain ⟨b', o', hA', _, r⟩ := h.anc hk
  rw [hA] at hA'
  injection hA' with e
  injection e with e1 e2
  subst e1 e2
  exact r
theorem wind_bad (r : NetR) (n : Net) (B : Nat) (w : World) [hB : Le B w] (h : NetIs B w r n) (hv : valid n = false) :
    Calls Tryd.prog 18 #[netV r n] w fun e w' => e = .returned (.tuple #[.int .i64 0, .int .i64 20]) ∧ ∃ δ, w' = lat w δ := by
  have := wind_c r n B w h
  rw [hv] at this
  exact this
theorem rwind_bad (r : NetR) (n : Net) (B : Nat) (w : World) [hB : Le B w] (h : NetIs B w r n) (hv : valid n = false) :
    Calls Tryd.prog 19 #[netV r n] w fun e w' => e = .returned (.tuple #[.int .i64 0, .int .i64 20]) ∧ ∃ δ, w' = lat w δ := by
  have := rWind_c r n B w h
  rw [hv] at this
  exact this
theorem rwind_none (r : NetR) (n : Net) (B : Nat) (w : World) [hB : Le B w] (h : NetIs B w r n) (hv : valid n = true) (hx : wN n = 21) :
    Calls Tryd.prog 19 #[netV r n] w fun e w' => e = .returned (.tuple #[.int .i64 0, .int .i64 3]) ∧ ∃ δ, w' = lat w δ := by
  have := rWind_c r n B w h
  rw [windR_eq hv, show firstHit (hitW n) 21 0 = 21 from hx, hv] at this
  exact this
theorem rwind_some (r : NetR) (n : Net) (B : Nat) (w : World) [hB : Le B w] (h : NetIs B w r n) (hv : valid n = true) (hx : wN n < 21) :
    Calls Tryd.prog 19 #[netV r n] w fun e w' => e = .returned (.tuple #[.int .i64 (wN n), .int .i64 0]) ∧ ∃ δ, w' = lat w δ := by
  have := rWind_c r n B w h
  rw [windR_eq hv, hv, show windV true (firstHit (hitW n) 21 0) = (wN n : Int) by unfold windV wN at *; rw [if_pos rfl, if_neg (by omega)], show windE true (firstHit (hitW n) 21 0) = 0 by unfold windE wN at *; rw [if_pos rfl, if_neg (by omega)]] at this
  exact this
theorem leastW_k (n : Net) (i : Nat) (x : Int) (gA : Option Addr) (gc : Nat) (A : Option Addr) (c : Nat) (wA : Option Addr) (wc : Nat) (B : Nat) (w : World) [hB : Le B w] (h : NetIs B w ⟨gA, gc, A, c, wA, wc⟩ (heav n i x)) (hv : valid (heav n i x) = true) :
    Calls Tryd.prog 99 #[.agg #[.int .i64 n.wind.lo, .int .i64 n.wind.hi, .int .i64 n.cur.lo, .int .i64 n.cur.hi, .slice gA n.grips.length gc, .slice A n.ancs.length c, .slice wA n.wals.length wc], .func (.func 66) #[] #[]] w fun e w' => e = .returned (.int .i64 (wN (heav n i x))) ∧ ∃ δ, w' = lat w δ := by
  have := leastW_c _ _ B w h hv
  simp only [netV, heav_len] at this
  exact this

namespace An
theorem wN_pos {n : Net} (h : wN n < 21) : 0 < n.ancs.length := by
  rcases Nat.eq_zero_or_pos n.ancs.length with h0 | h0
  · exfalso
    have : wN n = 21 := firstHit_none _ fun j _ => by
      rw [Bool.eq_false_iff, Ne, hitW_iff]
      intro hc
      exact hc fun i hi => by
        have : i < n.ancs.length := hi
        omega
    omega
  · exact h0
end An

set_option maxRecDepth 100000 in
set_option maxHeartbeats 4000000 in
theorem pHelp_c (r : NetR) (n : Net) (B : Nat) (w : World) [hB : Le B w] (h : NetIs B w r n) :
    Calls Tryd.prog 47 #[netV r n] w fun e w' => e = .returned (.tuple #[.int .i64 (helpV n), .int .i64 (helpE n)]) ∧ ∃ δ, w' = lat w δ := by
  have H := Lib.hid h
  clear h
  by_cases hv : valid n = true
  all_goals try rw [Bool.not_eq_true] at hv
  case neg =>
    have HV := Lib.hid hv
    have HE := Lib.hid (show helpV n = 0 ∧ helpE n = 20 by unfold helpV helpE; rw [hv]; exact ⟨rfl, rfl⟩)
    clear hv
    go_enter Tryd.func47, Tryd.ntmps47
    go_wp2_with (go_at_call 18; refine (wind_bad r n B _ H.out.up HV.out).mono ?_; rintro e w1 ⟨rfl, δ, rfl⟩)
    go_ret2
    rw [HE.out.1, HE.out.2]
    exact ⟨rfl, lat_ex⟩
  have HV := Lib.hid hv
  clear hv
  by_cases hw : wN n = 21
  · have HW := Lib.hid hw
    have HE := Lib.hid (show helpV n = 0 ∧ helpE n = 3 by unfold helpV helpE; rw [HV.out, hw]; exact ⟨rfl, rfl⟩)
    clear hw
    go_enter Tryd.func47, Tryd.ntmps47
    go_wp2_with (go_at_call 18; refine (wind_none r n B _ H.out.up HV.out HW.out).mono ?_; rintro e w1 ⟨rfl, δ, rfl⟩)
    go_ret2
    rw [HE.out.1, HE.out.2]
    exact ⟨rfl, lat_ex⟩
  have hw2 : wN n < 21 := by have := wN_le n; omega
  have HW := Lib.hid hw2
  have HE := Lib.hid (show helpV n = (if helpN n < 0 then 0 else helpN n) ∧ helpE n = (if helpN n < 0 then 2 else 0) by
    unfold helpV helpE
    rw [HV.out, if_pos rfl, if_neg hw, decide_eq_true hw2]
    exact ⟨rfl, rfl⟩)
  have h6 := (valid_iff.1 HV.out).2.2.2.1
  clear hw hw2
  obtain ⟨gA, gc, aA, ac, wA, wc⟩ := r
  obtain ⟨b, o, hA, hb, hall⟩ := H.out.2.1.ancs (wN_pos HW.out)
  have hA : aA = some ⟨b, o, none⟩ := hA
  subst hA
  have ib : Lt b w := ⟨Nat.lt_of_lt_of_le hb hB.out⟩
  have HA := Lib.hid hall
  clear hall hb
  go_enter Tryd.func47, Tryd.ntmps47
  rw [show netV ⟨gA, gc, some ⟨b, o, none⟩, ac, wA, wc⟩ n = Value.agg #[.int .i64 n.wind.lo, .int .i64 n.wind.hi, .int .i64 n.cur.lo, .int .i64 n.cur.hi, .slice gA n.grips.length gc, .slice (some ⟨b, o, none⟩) n.ancs.length ac, .slice wA n.wals.length wc] from rfl]
  go_upto_region 2 with (go_at_call 18; refine (wind_some ⟨gA, gc, some ⟨b, o, none⟩, ac, wA, wc⟩ n B _ H.out.up HV.out HW.out).mono ?_; rintro e w1 ⟨rfl, δ, rfl⟩)
  refine wp_name fun W1 hW1 => ?_
  have iw1 : Le B W1 := by rw [hW1.out]; infer_instance
  have iw2 : Grew B w W1 := by rw [hW1.out]; infer_instance
  have iw3 : Le w.heap.size W1 := by rw [hW1.out]; infer_instance
  have iw4 : Grew w.heap.size w W1 := by rw [hW1.out]; infer_instance
  have iw5 : Lt (w.heap.size) W1 := by rw [hW1.out]; infer_instance
  have iw6 : Lt (b) W1 := by rw [hW1.out]; infer_instance
  have cw7 : W1.cell? ⟨w.heap.size, 0, none⟩ = some (.int .i64 n.wind.lo) := by rw [hW1.out]; go_simp
  have cw8 : W1.cell? ⟨w.heap.size, 1, none⟩ = some (.int .i64 n.wind.hi) := by rw [hW1.out]; go_simp
  have cw9 : W1.cell? ⟨w.heap.size, 2, none⟩ = some (.int .i64 n.cur.lo) := by rw [hW1.out]; go_simp
  have cw10 : W1.cell? ⟨w.heap.size, 3, none⟩ = some (.int .i64 n.cur.hi) := by rw [hW1.out]; go_simp
  have cw11 : W1.cell? ⟨w.heap.size, 4, none⟩ = some (.slice gA n.grips.length gc) := by rw [hW1.out]; go_simp
  have cw12 : W1.cell? ⟨w.heap.size, 5, none⟩ = some (.slice (some ⟨b, o, none⟩) n.ancs.length ac) := by rw [hW1.out]; go_simp
  have cw13 : W1.cell? ⟨w.heap.size, 6, none⟩ = some (.slice wA n.wals.length wc) := by rw [hW1.out]; go_simp
  have HA1 : Hid (∀ k, k < n.ancs.length → W1.cell? ⟨b, o + k * 2, none⟩ = some (.int .i64 (nth n.ancs k).wt) ∧ W1.cell? ⟨b, o + k * 2 + 1, none⟩ = some (.int .i64 (nth n.ancs k).bt)) := by
    intro k hk
    have d := HA.out k hk
    rw [hW1.out]
    exact ⟨by have d := d.1; go_simp, by have d := d.2; go_simp⟩
  go_wp2_with (fail)
  go_loopg [6, 7, 23] n.ancs.length (fun g h m i wr => ∃ (k : Nat) (x y : Int) (δ : World), k ≤ n.ancs.length ∧ g = n.ancs.length - k ∧ h = .int .i64 x ∧ m = .int .i64 y ∧ i = .int .i64 k ∧ Hid ((x, y) = helpTo n k) ∧ wr = lat W1 δ)
  case atStart => exact ⟨0, -1, -1, W1, Nat.zero_le _, rfl, rfl, rfl, rfl, rfl, (lat_refl W1).symm⟩
  case round =>
    obtain ⟨k, x, y, δ, hk, rfl, rfl, rfl, rfl, hxy, rfl⟩ := hrel
    by_cases hlt : k < n.ancs.length
    · obtain ⟨d0, d1⟩ := HA1.out k hlt
      have hki : (k : Int) < (n.ancs.length : Int) := by omega
      have hk0 : ¬ (k : Int) < 0 := by omega
      have ha := okAnc_nth HV.out hlt
      simp only [okAnc, decide_eq_true_eq] at ha
      have ha0 : 0 ≤ (nth n.ancs k).wt := ha.1
      have ha1 : (nth n.ancs k).wt ≤ 20 := ha.2.1
      clear ha
      by_cases hz : (nth n.ancs k).wt = 20
      · have hz' : ((nth n.ancs k).wt == 20) = true := by simp [hz]
        have HZ := Lib.hid hz
        clear hz
        go_wp2_with (fail)
        go_roundg (n.ancs.length - (k + 1))
        case measure => omega
        case rel => exact ⟨k + 1, x, y, _, by omega, rfl, rfl, rfl, by go_num, by rw [helpTo_skip HZ.out]; exact hxy, lat_def⟩
      · have hz' : ((nth n.ancs k).wt == 20) = false := by simp [hz]
        have HZ := Lib.hid hz
        clear hz
        have HO' := Lib.hid (heav_valid HV.out (x := 1) hlt (by omega) (by have := HZ.out; omega))
        go_upto_region 10 with fail
        refine wp_name fun W2 hW2 => ?_
        have iw14 : Le B W2 := by rw [hW2.out]; infer_instance
        have iw15 : Grew B w W2 := by rw [hW2.out]; infer_instance
        have iw16 : Le w.heap.size W2 := by rw [hW2.out]; infer_instance
        have iw17 : Grew w.heap.size w W2 := by rw [hW2.out]; infer_instance
        have iw18 : Lt (w.heap.size) W2 := by rw [hW2.out]; infer_instance
        have iw19 : Lt (b) W2 := by rw [hW2.out]; infer_instance
        have iw20 : Lt ((lat W1 δ).heap.size + 1) W2 := by rw [hW2.out]; infer_instance
        have iw21 : Le w.heap.size W2 := by rw [hW2.out]; infer_instance
        have iw22 : Grew w.heap.size W1 W2 := by rw [hW2.out]; infer_instance
        have iw23 : Le W1.heap.size W2 := by rw [hW2.out]; infer_instance
        have iw24 : Grew W1.heap.size W1 W2 := by rw [hW2.out]; infer_instance
        have bx2 : Box W2 ((lat W1 δ).heap.size + 1) 28 #[.int .i64 n.wind.lo, .int .i64 n.wind.hi, .int .i64 n.cur.lo, .int .i64 n.cur.hi, .slice gA n.grips.length gc, .slice (some ⟨b, o, none⟩) n.ancs.length ac, .slice wA n.wals.length wc] := by
          rw [hW2.out]
          exact Box.new (by simp)
        have hbr : w.heap.size < (lat W1 δ).heap.size + 1 := Nat.lt_succ_of_le (inferInstance : Le w.heap.size (lat W1 δ)).out
        have hbs : (lat W1 δ).heap.size + 1 < W2.heap.size := bx2.lt_
        obtain ⟨br, hbe⟩ : ∃ b, (lat W1 δ).heap.size + 1 = b := ⟨_, rfl⟩
        rw [hbe] at bx2 hbr hbs
        rw [hbe]
        have ibr : Lt br W2 := ⟨hbs⟩
        have hbW : W1.heap.size < br := by
          have : W1.heap.size ≤ (lat W1 δ).heap.size := lat_size _ _
          omega
        have cc0 : W2.cell? ⟨w.heap.size, 5, none⟩ = some (.slice (some ⟨b, o, none⟩) n.ancs.length ac) := by rw [hW2.out]; go_simp
        have q0 := bx2.cell (i := 0) rfl
        have q1 := bx2.cell (i := 1) rfl
        have q2 := bx2.cell (i := 2) rfl
        have q3 := bx2.cell (i := 3) rfl
        have q4 := bx2.cell (i := 4) rfl
        have q5 := bx2.cell (i := 5) rfl
        have q6 := bx2.cell (i := 6) rfl
        have f5 := bx2.free 5
        clear hbe
        go_upto_region 11 with (go_at_call 79; refine (cloneA_c (some ⟨b, o, none⟩) ac n.ancs _ rfl B _ H.out.up.2.1 (by omega)).mono ?_; rintro e w1 ⟨A1, c1, δ1, rfl, rfl, own1⟩; have O1 := Lib.hid own1; clear own1)
        obtain ⟨g, hA1, hg1, j1, hcl, hfr⟩ := own_at O1.out (by omega)
        subst hA1
        have e1 := hcl (k * 2) (.int .i64 (nth n.ancs k).wt) (by have := flatMap_nth encAnc 2 (fun _ => rfl) n.ancs k 0 hlt (by omega); rw [Nat.add_zero] at this; rw [this]; rfl)
        have e2 := hfr (k * 2)
        clear hcl hfr
        have n1 : NeN br g := ⟨by omega⟩
        have n2 : NeN g br := ⟨by omega⟩
        have n3 : LeN w.heap.size br := ⟨by omega⟩
        have n4 : LeN W1.heap.size br := ⟨by omega⟩
        have n5 : LeN B br := ⟨by have := hB.out; omega⟩
        have n6 : LeN w.heap.size g := ⟨by omega⟩
        have n7 : LeN W1.heap.size g := ⟨by have := n4.out; omega⟩
        have n8 : LeN B g := ⟨by have := hB.out; omega⟩
        have n9 : NeN w.heap.size br := ⟨by omega⟩
        have n10 : NeN w.heap.size g := ⟨by omega⟩
        go_upto_region 12 with fail
        refine wp_name fun W4 hW4 => ?_
        have iw25 : Le B W4 := by rw [hW4.out]; infer_instance
        have iw26 : Grew B w W4 := by rw [hW4.out]; infer_instance
        have iw27 : Le w.heap.size W4 := by rw [hW4.out]; infer_instance
        have iw28 : Grew w.heap.size w W4 := by rw [hW4.out]; infer_instance
        have iw29 : Lt (w.heap.size) W4 := by rw [hW4.out]; infer_instance
        have iw30 : Lt (b) W4 := by rw [hW4.out]; infer_instance
        have iw31 : Lt (br) W4 := by rw [hW4.out]; infer_instance
        have iw32 : Le w.heap.size W4 := by rw [hW4.out]; infer_instance
        have iw33 : Grew w.heap.size W1 W4 := by rw [hW4.out]; infer_instance
        have iw34 : Le W1.heap.size W4 := by rw [hW4.out]; infer_instance
        have iw35 : Grew W1.heap.size W1 W4 := by rw [hW4.out]; infer_instance
        have cw36 : W4.cell? ⟨br, 0, none⟩ = some (.int .i64 n.wind.lo) := by rw [hW4.out]; go_simp
        have cw37 : W4.cell? ⟨br, 1, none⟩ = some (.int .i64 n.wind.hi) := by rw [hW4.out]; go_simp
        have cw38 : W4.cell? ⟨br, 2, none⟩ = some (.int .i64 n.cur.lo) := by rw [hW4.out]; go_simp
        have cw39 : W4.cell? ⟨br, 3, none⟩ = some (.int .i64 n.cur.hi) := by rw [hW4.out]; go_simp
        have cw40 : W4.cell? ⟨br, 4, none⟩ = some (.slice gA n.grips.length gc) := by rw [hW4.out]; go_simp
        have cw41 : W4.cell? ⟨br, 5, none⟩ = some (.slice (some ⟨g, 0, none⟩) n.ancs.length c1) := by rw [hW4.out]; go_simp
        have cw42 : W4.cell? ⟨br, 6, none⟩ = some (.slice wA n.wals.length wc) := by rw [hW4.out]; go_simp
        have o1 := own_set (u := .int .i64 ((nth n.ancs k).wt + 1)) (i := k * 2) (own_far O1.out (p := ⟨br, 5, none⟩) (u := .slice (some ⟨g, 0, none⟩) n.ancs.length c1) (by intro e; injection e with e; exact n2.out e)) (by rw [len_enc encAnc 2 (fun _ => rfl)]; omega)
        have e3 := flatMap_set encAnc 2 (fun _ => rfl) n.ancs k 0 (.int .i64 ((nth n.ancs k).wt + 1)) (heavA (nth n.ancs k) 1) hlt (by omega) rfl
        rw [Nat.add_zero] at e3
        rw [e3, ← hW4.out] at o1
        have s2 : Sl encAnc W4.heap.size W4 (some ⟨g, 0, none⟩) c1 (heav n k 1).ancs := Sl.of_own (by rw [heav_len]; exact o1)
        have NI := Lib.hid (show NetIs W4.heap.size W4 ⟨gA, gc, some ⟨g, 0, none⟩, c1, wA, wc⟩ (heav n k 1) from ⟨H.out.1.wide, s2, H.out.2.2.wide⟩)
        clear o1 e3 s2 e1 e2
        go_upto_region 13 with (go_at_call 99; refine (leastW_k n k 1 gA gc (some ⟨g, 0, none⟩) c1 wA wc _ _ NI.out.up HO'.out).mono ?_; rintro e w1 ⟨rfl, δ2, rfl⟩)
        by_cases hq : y < (wN (heav n k 1) : Int)
        · have HQ := Lib.hid (show helpTo n (k + 1) = ((k : Int), (wN (heav n k 1) : Int)) by rw [helpTo_take HZ.out (by rw [← hxy.out]; exact hq)])
          go_wp2_with (fail)
          go_roundg (n.ancs.length - (k + 1))
          case measure => omega
          case rel => exact ⟨k + 1, _, _, _, by omega, rfl, rfl, rfl, by go_num, HQ.out.symm, lat_def⟩
        · have HQ := Lib.hid (show helpTo n (k + 1) = (x, y) by rw [helpTo_keep HZ.out (by rw [← hxy.out]; exact hq), hxy.out])
          go_wp2_with (fail)
          go_roundg (n.ancs.length - (k + 1))
          case measure => omega
          case rel => exact ⟨k + 1, x, y, _, by omega, rfl, rfl, rfl, by go_num, HQ.out.symm, lat_def⟩
    · obtain rfl : k = n.ancs.length := by omega
      have HN := Lib.hid (show helpN n = x by unfold helpN; rw [← hxy.out])
      by_cases hx : x < 0
      · have HX := Lib.hid hx
        go_wp2_with (fail)
        go_ret2
        rw [HE.out.1, HE.out.2, HN.out, if_pos HX.out, if_pos HX.out]
        exact ⟨rfl, lat_ex⟩
      · have HX := Lib.hid hx
        go_wp2_with (fail)
        go_ret2
        rw [HE.out.1, HE.out.2, HN.out, if_neg (by have := HX.out; omega), if_neg (by have := HX.out; omega)]
        exact ⟨rfl, lat_ex⟩

end Go.Proofs.YtgpcaaknpfopgaaDoor
