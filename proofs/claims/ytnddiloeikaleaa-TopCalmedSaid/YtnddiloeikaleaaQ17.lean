/- Towards the claim of XLawCalmed: Layer 13, for the calm sky: the law. -/
import Derived.Test.YtnddiloeikaleaaQ16
import Derived.Test.YtnddiloeikaleaaQ7
import Derived.Outline
import Derived.Deep.CutRange
namespace Go.Proofs.Ytnddiloeikaleaa
open Go.RowKit
open An
open Tc

theorem needV_is' {n : Net} (hv : valid n = true) (hok : needOk n = true) : needV n = (List.range n.ancs.length).map fun i => (needN n i : Int) := by
  unfold needV; rw [hv, hok]; rfl
/-- Two answers, in the second there is none: the number is 21 then. -/
theorem wind_two (k : Nat) (_hk : k ≤ 21) : (windE true k = 0 ∧ windV true k = (k : Int)) ∨ (windE true k = 3 ∧ k = 21) := by
  unfold windE windV
  by_cases h : k = 21
  · right; simp [h]
  · left; simp [h]
theorem safeX_three (n : Net) (hv : valid n = true) : safeX n = 1 ∨ safeX n = 2 ∨ safeX n = 3 := by
  unfold safeX onOk knownB
  rw [hv, if_pos rfl]
  by_cases h1 : stepM n (worstT n) 0 = 0
  · simp [h1]
  · by_cases h2 : stepM n (bestT n) 0 = 0 <;> simp [h1, h2]
set_option maxRecDepth 100000 in
set_option maxHeartbeats 16000000 in
theorem topCalmed_c (r : SeasonR) (s : Season) (k : Int) (B : Nat) (w : World) [hB : Le B w] (h : SeasonIs B w r s) :
    Calls Try.prog 3 #[seasonV r s, .int .i64 k] w fun e w' => e = .returned (.bool true) ∧ ∃ δ, w' = lat w δ := by
  have H := Lib.hid h
  clear h
  go_enter Try.func3, Try.ntmps3
  go_upto_region 1 with fail
  refine wp_name fun W1 hW1 => ?_
  have iw1 : Le B W1 := by rw [hW1.out]; infer_instance
  have iw2 : Grew B w W1 := by rw [hW1.out]; infer_instance
  have iw3 : Le w.heap.size W1 := by rw [hW1.out]; infer_instance
  have iw4 : Grew w.heap.size w W1 := by rw [hW1.out]; infer_instance
  have iw5 : Lt (w.heap.size) W1 := by rw [hW1.out]; infer_instance
  have X1 : Hid (Box W1 w.heap.size 36 (seasonA r s)) := by rw [hW1.out]; exact Lib.hid (Box.new rfl)
  clear hW1
  go_wp2_with (first
    | (refine wpList_loadB rowSeason rfl _ rfl rfl (Box.upg X1.out) rfl ?_))
  refine (far13_c r s B _ H.out.up).mono ?_
  unfold FarSPost
  rintro e w1 ⟨b, rfl, hs, δ, rfl⟩
  cases b
  rotate_left
  · go_wp2_with (go_at_call 7; refine (calmed_c _).mono ?_; rintro e w1 ⟨rfl, δ2, rfl⟩)
    go_ret
    exact ⟨rfl, lat_ex⟩
  have HS := Lib.hid (hs rfl)
  clear hs
  rcases hk : seasonOk s with _ | _
  · have HK := Lib.hid (show errOf (seasonOk s) 130 = 130 by rw [hk]; rfl)
    clear hk
    go_wp2_with (first
      | (refine wpList_loadBw rowSeason rfl _ rfl rfl (Box.upg X1.out) rfl ?_)
      | (go_at_call 5; refine (rSeason_is HK.out H.out.up ⟨HS.out.2.2.1, HS.out.2.1.1⟩).mono ?_; rintro e w1 ⟨rfl, δ2, rfl⟩)
      | (go_at_call 7; refine (calmed_c _).mono ?_; rintro e w1 ⟨rfl, δ3, rfl⟩))
    go_ret
    exact ⟨rfl, lat_ex⟩
  have HOK := Lib.hid hk
  have HK := Lib.hid (show errOf (seasonOk s) 130 = 0 by rw [hk]; rfl)
  clear hk
  rcases hi : inB 0 ((s.skies.length : Int) - 1) k with _ | _
  · have HI := Lib.hid hi
    clear hi
    go_wp2_with (first
      | (refine wpList_loadBw rowSeason rfl _ rfl rfl (Box.upg X1.out) rfl ?_)
      | (go_at_call 5; refine (rSeason_is HK.out H.out.up ⟨HS.out.2.2.1, HS.out.2.1.1⟩).mono ?_; rintro e w1 ⟨rfl, δ2, rfl⟩)
      | (go_at_call 6; refine (isSky_c r s k false HI.out _ HS.out.2.2.1).mono ?_; rintro e w1 ⟨rfl, δ4, rfl⟩)
      | (go_at_call 7; refine (calmed_c _).mono ?_; rintro e w1 ⟨rfl, δ3, rfl⟩))
    go_ret
    exact ⟨rfl, lat_ex⟩
  obtain ⟨k0, k1⟩ := inB_iff.1 hi
  obtain ⟨m, rfl⟩ := Int.eq_ofNat_of_zero_le k0
  have hm : m < s.skies.length := by omega
  have HI := Lib.hid hi
  clear hi k0 k1
  obtain ⟨n, hn⟩ : ∃ n, netOf s m = n := ⟨_, rfl⟩
  have HV := Lib.hid (show valid n = true by rw [← hn]; exact valid_netOf HOK.out m)
  have HNN := Lib.hid hn
  have HNET : Hid (∀ W, Grew B w W → Le B W → Calls Try.prog 8 #[seasonV r s, .int .i64 (m : Int)] W fun e w' => ∃ (r' : NetR) (δ : World), e = .returned (netV r' n) ∧ w' = lat W δ ∧ NetOwn W.heap.size (lat W δ) r' n) := Lib.hid fun W i1 i2 => by
    have := rNetOf_c r s m hm (by have := HS.out.1; omega) (by have := HS.out.1; omega) (by have := HS.out.1; omega) HS.out.2.2.1 B W H.out.up
    rw [hn] at this
    exact this
  have HCA : Hid (∀ W, Grew B w W → Le B W → Calls Try.prog 9 #[seasonV r s, .int .i64 (m : Int)] W fun e w' => e = .returned (.tuple #[.int .i64 (safeX n), .int .i64 0]) ∧ ∃ δ, w' = lat W δ) := Lib.hid fun W i1 i2 => by
    have := sCalm_c r s HOK.out m hm B W H.out.up
    unfold calmB at this
    rw [hn] at this
    exact this
  clear hn
  obtain ⟨wv, hwv⟩ : ∃ x, windV (valid n) (firstHit (hitW n) 21 0) = x := ⟨_, rfl⟩
  obtain ⟨we, hwe⟩ : ∃ x, windE (valid n) (firstHit (hitW n) 21 0) = x := ⟨_, rfl⟩
  obtain ⟨sv, hsv⟩ : ∃ x, windV (valid n) (firstHit (hitS n) 21 0) = x := ⟨_, rfl⟩
  obtain ⟨se, hse⟩ : ∃ x, windE (valid n) (firstHit (hitS n) 21 0) = x := ⟨_, rfl⟩
  obtain ⟨ne, hne⟩ : ∃ x, needE n = x := ⟨_, rfl⟩
  have HWC : Hid (∀ (r' : NetR) B' W, NetIs B' W r' n → Le B' W → Calls Try.prog 10 #[netV r' n] W fun e w' => e = .returned (.tuple #[.int .i64 wv, .int .i64 we]) ∧ ∃ δ, w' = lat W δ) := Lib.hid fun r' B' W i1 i2 => by
    have := wind_c r' n B' W i1
    rw [hwv, hwe] at this
    exact this
  have HSC : Hid (∀ (r' : NetR) B' W, NetIs B' W r' n → Le B' W → Calls Try.prog 11 #[netV r' n] W fun e w' => e = .returned (.tuple #[.int .i64 sv, .int .i64 se]) ∧ ∃ δ, w' = lat W δ) := Lib.hid fun r' B' W i1 i2 => by
    have := storm_c r' n B' W i1
    rw [hsv, hse] at this
    exact this
  have HW2 : Hid ((we = 0 ∧ wv = (wN n : Int)) ∨ (we = 3 ∧ (wN n : Int) = 21)) := Lib.hid (by
    have := wind_two (wN n) (wN_le n)
    rw [← hwv, ← hwe, HV.out]
    unfold wN at this ⊢
    omega)
  have HS2 : Hid ((se = 0 ∧ sv = (sN n : Int)) ∨ (se = 3 ∧ (sN n : Int) = 21)) := Lib.hid (by
    have := wind_two (sN n) (sN_le n)
    rw [← hsv, ← hse, HV.out]
    unfold sN at this ⊢
    omega)
  clear hwv hwe hsv hse hne
  go_upto_region 3 with (first
    | (refine wpList_loadBw rowSeason rfl _ rfl rfl (Box.upg X1.out) rfl ?_)
    | (go_at_call 5; refine (rSeason_is HK.out H.out.up ⟨HS.out.2.2.1, HS.out.2.1.1⟩).mono ?_; rintro e w1 ⟨rfl, δ2, rfl⟩)
    | (go_at_call 6; refine (isSky_c r s m true HI.out _ HS.out.2.2.1).mono ?_; rintro e w1 ⟨rfl, δ4, rfl⟩))
  go_upto_region 4 with (first
    | (refine wpList_loadB rowSeason rfl _ rfl rfl (Box.upg X1.out) rfl ?_)
    | (go_at_call 8; refine (HNET.out _ inferInstance inferInstance).mono ?_; rintro e wn ⟨⟨gA, gc, aA, ac, vA, vc⟩, δ5, rfl, hwn, ho⟩; rw [← hwn] at ho; have iN1 : Grew B w wn := (by rw [hwn]; infer_instance); have iN2 : Le B wn := (by rw [hwn]; infer_instance); have iN3 : Grew w.heap.size w wn := (by rw [hwn]; infer_instance); have iN4 : Le w.heap.size wn := (by rw [hwn]; infer_instance); have XN : Hid (Box wn w.heap.size 36 (seasonA r s)) := (by rw [hwn]; exact Box.upg X1.out); clear hwn; have HO := Lib.hid ho.is; clear ho; obtain ⟨b5, hb5⟩ : ∃ b, wn.heap.size = b := ⟨_, rfl⟩))
  refine wp_name fun W3 hW3 => ?_
  have j1 : Grew B w W3 := by rw [hW3.out]; infer_instance
  have j2 : Le B W3 := by rw [hW3.out]; infer_instance
  have j3 : Grew w.heap.size w W3 := by rw [hW3.out]; infer_instance
  have j4 : Le w.heap.size W3 := by rw [hW3.out]; infer_instance
  have X3 : Hid (Box W3 w.heap.size 36 (seasonA r s)) := by rw [hW3.out]; exact XN.out.alloc _
  have N3 : Hid (Box W3 b5 28 #[.int .i64 n.wind.lo, .int .i64 n.wind.hi, .int .i64 n.cur.lo, .int .i64 n.cur.hi, .slice gA n.grips.length gc, .slice aA n.ancs.length ac, .slice vA n.wals.length vc]) := by rw [hW3.out]; exact Box.new hb5.symm
  have O3 : Hid (NetIs W3.heap.size W3 ⟨gA, gc, aA, ac, vA, vc⟩ n) := by rw [hW3.out]; exact HO.out.wide
  clear hW3 hb5 HO XN iN1 iN2 iN3 iN4
  have n0 := N3.out.cell (i := 0) rfl
  have n1 := N3.out.cell (i := 1) rfl
  have n2 := N3.out.cell (i := 2) rfl
  have n3 := N3.out.cell (i := 3) rfl
  have n4 := N3.out.cell (i := 4) rfl
  have n5 := N3.out.cell (i := 5) rfl
  have n6 := N3.out.cell (i := 6) rfl
  have lt5 := N3.out.lt
  have lt2 := X3.out.lt
  go_upto_region 8 with (first
    | (refine wpList_loadB rowSeason rfl _ rfl rfl (Box.upg X3.out) rfl ?_)
    | (go_at_call 9; refine (HCA.out _ inferInstance inferInstance).mono ?_; rintro e w1 ⟨rfl, δ6, rfl⟩)
    | (go_at_call 10; refine (HWC.out ⟨gA, gc, aA, ac, vA, vc⟩ _ _ O3.out.wide ⟨Nat.le_refl _⟩).mono ?_; rintro e w1 ⟨rfl, δ7, rfl⟩)
    | (go_at_call 11; refine (HSC.out ⟨gA, gc, aA, ac, vA, vc⟩ _ _ O3.out.wide ⟨Nat.le_refl _⟩).mono ?_; rintro e w1 ⟨rfl, δ8, rfl⟩)
    | (go_at_call 12; refine (need_c ⟨gA, gc, aA, ac, vA, vc⟩ n _ _ O3.out.wide).mono ?_; rintro e w1 ⟨lA, lc, δ9, rfl, rfl, hL⟩))
  refine wp_name fun W4 hW4 => ?_
  have k1 : Grew B w W4 := by rw [hW4.out]; infer_instance
  have k2 : Le B W4 := by rw [hW4.out]; infer_instance
  have k3 : Grew w.heap.size w W4 := by rw [hW4.out]; infer_instance
  have k4 : Le w.heap.size W4 := by rw [hW4.out]; infer_instance
  have X4 : Hid (Box W4 w.heap.size 36 (seasonA r s)) := by rw [hW4.out]; exact Box.upg X3.out
  have N4 : Hid (Box W4 b5 28 #[.int .i64 n.wind.lo, .int .i64 n.wind.hi, .int .i64 n.cur.lo, .int .i64 n.cur.hi, .slice gA n.grips.length gc, .slice aA n.ancs.length ac, .slice vA n.wals.length vc]) := by rw [hW4.out]; exact Box.upg N3.out
  have O4 : Hid (NetIs W4.heap.size W4 ⟨gA, gc, aA, ac, vA, vc⟩ n) := by rw [hW4.out]; exact O3.out.wide
  have L4 : Hid (Sl encI W4.heap.size W4 lA lc (needV n)) := by rw [hW4.out]; exact hL
  clear hW4 n0 n1 n2 n3 n4 n5 n6 lt5 lt2 X3 N3 O3 hL j1 j2 j3 j4
  go_upto_if 63 with fail
  go_cut [8] from 62 to 63 (fun s8 wx => s8 = .int .i64 (wN n : Int) ∧ W4 = wx)
  case first =>
    rcases HW2.out with ⟨rfl, rfl⟩ | ⟨rfl, e2⟩
    · go_wp2_with (fail)
      go_meet
      exact ⟨rfl, rfl⟩
    · have E2 := Lib.hid e2
      clear e2
      go_wp2_with (fail)
      go_meet
      exact ⟨by rw [E2.out], rfl⟩
  case rest =>
    obtain ⟨rfl, rfl⟩ := hcut
    go_upto_if 65 with fail
    go_cut [10] from 64 to 65 (fun s10 wx => s10 = .int .i64 (sN n : Int) ∧ W4 = wx)
    case first =>
      rcases HS2.out with ⟨rfl, rfl⟩ | ⟨rfl, e2⟩
      · go_wp2_with (fail)
        go_meet
        exact ⟨rfl, rfl⟩
      · have E2 := Lib.hid e2
        clear e2
        go_wp2_with (fail)
        go_meet
        exact ⟨by rw [E2.out], rfl⟩
    case rest =>
      obtain ⟨rfl, rfl⟩ := hcut
      have HF : Hid (we = 0 ∨ we = 3) := Lib.hid (HW2.out.imp And.left And.left)
      have HG : Hid (se = 0 ∨ se = 3) := Lib.hid (HS2.out.imp And.left And.left)
      clear HWC HSC HNET HCA HW2 HS2
      have n0 := N4.out.cell (i := 0) rfl
      have n1 := N4.out.cell (i := 1) rfl
      have n5 := N4.out.cell (i := 5) rfl
      have lt5 := N4.out.lt
      have hs1 := surely_iff HV.out
      have hs2 := never_iff HV.out
      have HC3 : Hid ((safeX n = 1 ∧ n.wind.hi < (wN n : Int) ∧ ¬ (sN n : Int) ≤ n.wind.lo) ∨ (safeX n = 2 ∧ ¬ n.wind.hi < (wN n : Int) ∧ (sN n : Int) ≤ n.wind.lo) ∨ (safeX n = 3 ∧ ¬ n.wind.hi < (wN n : Int) ∧ ¬ (sN n : Int) ≤ n.wind.lo)) := Lib.hid (by
        rcases safeX_three n HV.out with h | h | h
        · exact .inl ⟨h, hs1.1 h, fun hc => (by rw [hs2.2 hc] at h; cases h)⟩
        · exact .inr (.inl ⟨h, fun hc => (by rw [hs1.2 hc] at h; cases h), hs2.1 h⟩)
        · exact .inr (.inr ⟨h, fun hc => (by rw [hs1.2 hc] at h; cases h), fun hc => (by rw [hs2.2 hc] at h; cases h)⟩))
      clear hs1 hs2
      obtain ⟨sx, hsx⟩ : ∃ x, safeX n = x := ⟨_, rfl⟩
      rw [hsx] at HC3 ⊢
      have HSX := Lib.hid hsx
      clear hsx
      rcases hok : needOk n with _ | _
      · have HNE := Lib.hid (show needE n = 3 by unfold needE; rw [HV.out, hok]; rfl)
        have HMI := Lib.hid (show sx ≠ 1 by rw [← HSX.out]; exact safe_miss HV.out hok)
        clear hok
        rw [HNE.out]
        go_upto_region 12 with fail
        go_cut [111] from 66 to 111 (fun sx wx => sx = .bool false ∧ W4 = wx)
        case first =>
          rcases HC3.out with ⟨rfl, p1, p2⟩ | ⟨rfl, p1, p2⟩ | ⟨rfl, p1, p2⟩
          all_goals
            rcases HF.out with rfl | rfl
            all_goals
              rcases HG.out with rfl | rfl
              all_goals
                first
                  | exact absurd rfl HMI.out
                  | (go_wp2_with (fail)
                     go_meet
                     exact ⟨rfl, rfl⟩)
        case rest =>
          obtain ⟨rfl, rfl⟩ := hcut
          have hmi : (sx != 1) = true := by simpa using HMI.out
          go_wp2_with (go_at_call 7; refine (calmed_c _).mono ?_; rintro e w1 ⟨rfl, δ3, rfl⟩)
          go_ret
          exact ⟨rfl, lat_ex⟩
      · have HNE := Lib.hid (show needE n = 0 by unfold needE; rw [HV.out, hok]; rfl)
        have HOKN := Lib.hid hok
        clear hok
        rw [HNE.out]
        go_upto_region 12 with fail
        go_cut [111] from 66 to 111 (fun sx wx => sx = .bool false ∧ W4 = wx)
        case first =>
          rcases HC3.out with ⟨rfl, p1, p2⟩ | ⟨rfl, p1, p2⟩ | ⟨rfl, p1, p2⟩
          all_goals
            rcases HF.out with rfl | rfl
            all_goals
              rcases HG.out with rfl | rfl
              all_goals
                go_wp2_with (fail)
                go_meet
                exact ⟨rfl, rfl⟩
        case rest =>
          obtain ⟨rfl, rfl⟩ := hcut
          have hlen : (needV n).length = n.ancs.length := by rw [needV_is' HV.out HOKN.out]; simp
          have HNV : Hid (∀ i, i < n.ancs.length → nth (needV n) i = (needN n i : Int)) := Lib.hid fun i hi => by rw [needV_is' HV.out HOKN.out]; exact nth_range_map _ hi
          have e1 : n.ancs = s.net.ancs := by rw [← HNN.out]; rfl
          have LL := L4.out.len
          rw [hlen] at LL ⊢
          have HLEN := Lib.hid hlen
          clear hlen
          rw [e1] at n5 LL ⊢
          have E1 := Lib.hid e1
          clear e1 HF HG HC3
          go_upto_region 18 with fail
          apply wp_region_lit
          refine wpList_loadB rowSeason rfl _ rfl rfl X4.out rfl ?_
          go_wp2_with (fail)
          refine (sCopy_c r s HS.out B W4 H.out.up).mono ?_
          rintro e w1 ⟨⟨⟨gA', gc', aA', ac', wA', wc'⟩, sr', kA', kc', fA', fc', iA', ic', dA', dc'⟩, δ, rfl, hw, ho⟩
          rw [← hw] at ho
          have XW : Hid (Box w1 w.heap.size 36 (seasonA r s)) := by rw [hw]; exact Box.upg X4.out
          have NW : Hid (Box w1 b5 28 #[.int .i64 n.wind.lo, .int .i64 n.wind.hi, .int .i64 n.cur.lo, .int .i64 n.cur.hi, .slice gA n.grips.length gc, .slice aA n.ancs.length ac, .slice vA n.wals.length vc]) := by rw [hw]; exact Box.upg N4.out
          have g4 : Grew W4.heap.size W4 w1 := by rw [hw]; infer_instance
          have l4 : Le W4.heap.size w1 := by rw [hw]; infer_instance
          have HO := Lib.hid ho
          clear ho hw
          obtain ⟨gg, hgg⟩ : ∃ b, w1.heap.size = b := ⟨_, rfl⟩
          go_upto_region 19 with fail
          refine wp_name fun W5 hW5 => ?_
          have g5 : Grew W4.heap.size W4 W5 := by rw [hW5.out]; infer_instance
          have l5 : Le W4.heap.size W5 := by rw [hW5.out]; infer_instance
          have S5 : Hid (Box W5 gg 36 (seasonA ⟨⟨gA', gc', aA', ac', wA', wc'⟩, sr', kA', kc', fA', fc', iA', ic', dA', dc'⟩ s)) := by rw [hW5.out]; exact Box.new hgg.symm
          have O5 : Hid (SeasonOwn W4.heap.size W5 ⟨⟨gA', gc', aA', ac', wA', wc'⟩, sr', kA', kc', fA', fc', iA', ic', dA', dc'⟩ (wth s (upN n 0).ancs)) := by rw [hW5.out, upN_zero, E1.out]; exact SeasonOwn.up HO.out
          have hq : W4.heap.size ≤ gg := hgg ▸ l4.out
          clear hW5 hgg HO XW NW g4 l4
          have hlb : s.net.ancs.length ≤ 6 := by rw [← E1.out]; exact (valid_iff.1 HV.out).2.2.2.1
          have lt5 : b5 < W4.heap.size := N4.out.lt_
          have lt2 : w.heap.size < W4.heap.size := X4.out.lt_
          have lq2 : LeN w.heap.size W4.heap.size := ⟨Nat.le_of_lt lt2⟩
          have lqB : LeN B W4.heap.size := ⟨k2.out⟩
          clear n0 n1 n5
          go_wp2_with (fail)
          go_loopg [15] s.net.ancs.length (fun g i wr => ∃ (j : Nat), j ≤ s.net.ancs.length ∧ g = s.net.ancs.length - j ∧ i = .int .i64 j ∧ Grew W4.heap.size W4 wr ∧ Le W4.heap.size wr ∧ Hid (Box wr gg 36 (seasonA ⟨⟨gA', gc', aA', ac', wA', wc'⟩, sr', kA', kc', fA', fc', iA', ic', dA', dc'⟩ s)) ∧ Hid (SeasonOwn W4.heap.size wr ⟨⟨gA', gc', aA', ac', wA', wc'⟩, sr', kA', kc', fA', fc', iA', ic', dA', dc'⟩ (wth s (upN n j).ancs)))
          case atStart => exact ⟨0, Nat.zero_le _, rfl, rfl, g5, l5, S5, O5⟩
          case round =>
            obtain ⟨j, hj, rfl, rfl, i1, i2, SB, SO⟩ := hrel
            by_cases hlt : j < s.net.ancs.length
            · have hjn : j < n.ancs.length := by rw [E1.out]; exact hlt
              have hji : (j : Int) < (s.net.ancs.length : Int) := by omega
              have hj0 : ¬ (j : Int) < 0 := by omega
              have hal : (upN n j).ancs.length = s.net.ancs.length := by rw [upN_len, E1.out]
              obtain ⟨bl, ol, rfl, hbl, dl⟩ := L4.out.int (k := j) (by rw [HLEN.out]; exact hjn)
              obtain ⟨ba, oa, rfl, hba, da0, da1⟩ := O4.out.2.1.anc hjn
              obtain ⟨ga, rfl, hga, lga, dg, fg⟩ := own_at SO.out.1.1.2.1 (by show 0 < (upN n j).ancs.length; omega)
              have cg0 := dg (j * 2) (.int .i64 (nth n.ancs j).wt) (by
                have := flatMap_nth encAnc 2 (fun _ => rfl) (upN n j).ancs j 0 (by omega) (by omega)
                rw [Nat.add_zero] at this
                show ((upN n j).ancs.flatMap encAnc)[j * 2]? = _
                rw [this, upAncs_at hjn]; rfl)
              have cg1 := dg (j * 2 + 1) (.int .i64 (nth n.ancs j).bt) (by
                have := flatMap_nth encAnc 2 (fun _ => rfl) (upN n j).ancs j 1 (by omega) (by omega)
                show ((upN n j).ancs.flatMap encAnc)[j * 2 + 1]? = _
                rw [this, upAncs_at hjn]; rfl)
              have fg0 := fg (j * 2)
              have fg1 := fg (j * 2 + 1)
              have hnb := need_bd HOK.out (k := m) (by rw [HNN.out]; exact HOKN.out) hlt
              rw [HNN.out, ← E1.out] at hnb
              rw [HNV.out j hjn] at dl
              have hwt := okAnc_nth HV.out hjn
              simp only [okAnc, decide_eq_true_eq] at hwt
              obtain ⟨nd, hnd⟩ : ∃ x, needN n j = x := ⟨_, rfl⟩
              obtain ⟨an, han⟩ : ∃ x, nth n.ancs j = x := ⟨_, rfl⟩
              rw [hnd] at dl hnb
              rw [han] at da0 da1 cg0 cg1 hnb hwt
              have HWB := Lib.hid (show inB 0 (20 - an.wt) (nd : Int) = true from inB_iff.2 (by omega))
              have HND := Lib.hid hnd
              have HAN := Lib.hid han
              have HAL := Lib.hid hal
              clear hnd han hal dg fg
              have w0 : 0 ≤ an.wt := hwt.1
              have w1' : an.wt ≤ 20 := hwt.2.1
              have w2' : (nd : Int) ≤ 20 := by omega
              have dl' := (cells_same i1.out _ _ hbl).trans dl
              have da0' := (cells_same i1.out _ _ hba).trans da0
              have da1' := (cells_same i1.out _ _ hba).trans da1
              have NW : Hid (Box wr b5 28 #[.int .i64 n.wind.lo, .int .i64 n.wind.hi, .int .i64 n.cur.lo, .int .i64 n.cur.hi, .slice gA n.grips.length gc, .slice (some ⟨ba, oa, none⟩) n.ancs.length ac, .slice vA n.wals.length vc]) := Lib.hid (Box.upg N4.out)
              have m5 : wr.cell? ⟨b5, 5, none⟩ = some (.slice (some ⟨ba, oa, none⟩) s.net.ancs.length ac) := by rw [← E1.out]; exact NW.out.cell (i := 5) rfl
              have c5 := SB.out.cell (i := 5) (v := .slice (some ⟨ga, 0, none⟩) s.net.ancs.length ac') rfl
              have t1 : Lt bl wr := ⟨Nat.lt_of_lt_of_le hbl i2.out⟩
              have t2 : Lt ba wr := ⟨Nat.lt_of_lt_of_le hba i2.out⟩
              have t3 : Lt b5 wr := NW.out.lt
              have t4 : Lt gg wr := SB.out.lt
              have q1 : LeN W4.heap.size ga := ⟨hga⟩
              have q2 : LeN W4.heap.size gg := ⟨hq⟩
              clear dl da0 da1 hwt hnb hga
              go_wp2_with (fail)
              refine wp_region_lat (by kernel_rfl) (by kernel_rfl) ?_
              repeat (go_big_quiet_step ((first | (go_at_call 14; exact Calls.lat_same (within_is HWB.out _)))))
              refine wpQuiet_nil ?_
              rintro _ ⟨δq, rfl⟩
              go_wp2_with (fail)
              obtain ⟨b16, hb16⟩ : ∃ x, (lat wr δq).heap.size = x := ⟨_, rfl⟩
              have hge : wr.heap.size ≤ b16 := by rw [← hb16]; exact (inferInstance : Le wr.heap.size (lat wr δq)).out
              rw [hb16]
              refine wp_name fun W6 hW6 => ?_
              have g6 : Grew wr.heap.size wr W6 := by rw [hW6.out]; infer_instance
              have l6 : Le wr.heap.size W6 := by rw [hW6.out]; infer_instance
              have A6 : Hid (Box W6 b16 51 #[.int .i64 an.wt, .int .i64 an.bt]) := by rw [hW6.out]; exact Box.new hb16.symm
              have SO6 : Hid (SeasonOwn W4.heap.size W6 ⟨⟨gA', gc', some ⟨ga, 0, none⟩, ac', wA', wc'⟩, sr', kA', kc', fA', fc', iA', ic', dA', dc'⟩ (wth s (upN n j).ancs)) := Lib.hid (SeasonOwn.up SO.out)
              have SB6 : Hid (Box W6 gg 36 (seasonA ⟨⟨gA', gc', some ⟨ga, 0, none⟩, ac', wA', wc'⟩, sr', kA', kc', fA', fc', iA', ic', dA', dc'⟩ s)) := Lib.hid (Box.upg SB.out)
              have i16 : Grew W4.heap.size W4 W6 := grew_tr i1 g6 i2.out
              have i26 : Le W4.heap.size W6 := ⟨Nat.le_trans i2.out l6.out⟩
              clear hW6 hb16
              have dl6 := (cells_same g6.out _ _ t1.out).trans dl'
              have c56 := (cells_same g6.out _ _ t4.out).trans c5
              have cg06 := (cells_same g6.out _ _ lga.out).trans cg0
              have cg16 := (cells_same g6.out _ _ lga.out).trans cg1
              obtain ⟨ga2, hgaeq, _, lga6, _, fg6⟩ := own_at SO6.out.1.1.2.1 (by show 0 < (upN n j).ancs.length; rw [HAL.out]; omega)
              injection hgaeq with hgaeq
              injection hgaeq with hgaeq
              subst hgaeq
              have fg06 := fg6 (j * 2)
              have fg16 := fg6 (j * 2 + 1)
              have a60 := A6.out.cell (i := 0) (v := .int .i64 an.wt) rfl
              have a61 := A6.out.cell (i := 1) (v := .int .i64 an.bt) rfl
              have f60 := A6.out.free 0
              have t16 : Lt bl W6 := ⟨Nat.lt_of_lt_of_le t1.out l6.out⟩
              have t46 : Lt gg W6 := SB6.out.lt
              have t66 : Lt b16 W6 := A6.out.lt
              have ne1 : NeN b16 bl := ⟨by have := t1.out; omega⟩
              have ne2 : NeN bl b16 := ⟨by have := t1.out; omega⟩
              have ne3 : NeN b16 gg := ⟨by have := t4.out; omega⟩
              have ne4 : NeN gg b16 := ⟨by have := t4.out; omega⟩
              have ne5 : NeN b16 ga := ⟨by have := lga.out; omega⟩
              have ne6 : NeN ga b16 := ⟨by have := lga.out; omega⟩
              have nq6 : LeN W4.heap.size b16 := ⟨Nat.le_trans i2.out hge⟩
              have lq16 : LeN wr.heap.size b16 := ⟨hge⟩
              have SO7 : Hid (SeasonOwn W4.heap.size (W6.setCell ⟨b16, 0, none⟩ (.int .i64 (an.wt + nd))) ⟨⟨gA', gc', some ⟨ga, 0, none⟩, ac', wA', wc'⟩, sr', kA', kc', fA', fc', iA', ic', dA', dc'⟩ (wth s (upN n j).ancs)) := Lib.hid (SeasonOwn.up SO.out)
              have SB7 : Hid (Box (W6.setCell ⟨b16, 0, none⟩ (.int .i64 (an.wt + nd))) gg 36 (seasonA ⟨⟨gA', gc', some ⟨ga, 0, none⟩, ac', wA', wc'⟩, sr', kA', kc', fA', fc', iA', ic', dA', dc'⟩ s)) := Lib.hid (Box.upg SB.out)
              have hgn : gg ≠ ga := fun e => own_bx SO7.out.1.1.2.1 SB7.out (by decide) (by rw [e]; rfl)
              have SO8 := SeasonOwn.put (j := j) ⟨an.wt + nd, an.bt⟩ SO7.out rfl (by rw [HAL.out]; exact hlt)
              have hse := upAncs_succ hjn
              rw [HAN.out, HND.out] at hse
              rw [hse] at SO8
              have SO9 := Lib.hid SO8
              have SB9 : Hid (Box (((W6.setCell ⟨b16, 0, none⟩ (.int .i64 (an.wt + nd))).setCell ⟨ga, j * 2, none⟩ (.int .i64 (an.wt + nd))).setCell ⟨ga, j * 2 + 1, none⟩ (.int .i64 an.bt)) gg 36 (seasonA ⟨⟨gA', gc', some ⟨ga, 0, none⟩, ac', wA', wc'⟩, sr', kA', kc', fA', fc', iA', ic', dA', dc'⟩ s)) := Lib.hid ((SB7.out.far hgn _).far hgn _)
              clear SO7 SB7 SO8 hse hgn
              clear fg6 cg0 cg1 fg0 fg1 m5 c5 dl' da0' da1' t1 t2 t3 t4 lga g6 l6 hge NW SB SO i1 i2
              go_region
              go_wp2_with (fail)
              go_roundg (s.net.ancs.length - (j + 1))
              case measure => omega
              case rel => exact ⟨j + 1, by omega, rfl, by go_num, inferInstance, inferInstance, SB9, SO9⟩
            · obtain rfl : j = s.net.ancs.length := by omega
              have HUP := valid_upS HOK.out (k := m) (by rw [HNN.out]; exact HOKN.out)
              have hup : wth s (upN n s.net.ancs.length).ancs = upS s m := by rw [← HNN.out]; rfl
              rw [hup] at SO
              have hsA : seasonA ⟨⟨gA', gc', aA', ac', wA', wc'⟩, sr', kA', kc', fA', fc', iA', ic', dA', dc'⟩ s = seasonA ⟨⟨gA', gc', aA', ac', wA', wc'⟩, sr', kA', kc', fA', fc', iA', ic', dA', dc'⟩ (upS s m) := by simp [seasonA, upS, setA, upA_len]
              rw [hsA] at SB
              have hc1 := calm_up HOK.out (k := m) (by rw [HNN.out]; exact HOKN.out)
              have hwu := fun j i => worth_up HOK.out (k := m) (by rw [HNN.out]; exact HOKN.out) j i
              have HSO := Lib.hid SO.out.is
              have HCO : Hid (∀ W, Grew wr.heap.size wr W → Le wr.heap.size W → Calls Try.prog 9 #[.agg (seasonA ⟨⟨gA', gc', aA', ac', wA', wc'⟩, sr', kA', kc', fA', fc', iA', ic', dA', dc'⟩ (upS s m)), .int .i64 (m : Int)] W fun e w' => e = .returned (.tuple #[.int .i64 1, .int .i64 0]) ∧ ∃ δ, w' = lat W δ) := Lib.hid fun W i1 i2 => by
                have := sCalm_c ⟨⟨gA', gc', aA', ac', wA', wc'⟩, sr', kA', kc', fA', fc', iA', ic', dA', dc'⟩ (upS s m) HUP m hm wr.heap.size W HSO.out.up
                rw [hc1] at this
                exact this
              have HWO : Hid (∀ W d i, d < s.days.length → i < s.skies.length → Grew wr.heap.size wr W → Le wr.heap.size W → Calls Try.prog 15 #[.agg (seasonA ⟨⟨gA', gc', aA', ac', wA', wc'⟩, sr', kA', kc', fA', fc', iA', ic', dA', dc'⟩ (upS s m)), .int .i64 (d : Int), .int .i64 (i : Int)] W fun e w' => e = .returned (.tuple #[.int .i64 (worthN (upS s m) (s.days.length - d) i), .int .i64 0]) ∧ ∃ δ, w' = lat W δ) := Lib.hid fun W d i hd hi i1 i2 =>
                sWorth_c ⟨⟨gA', gc', aA', ac', wA', wc'⟩, sr', kA', kc', fA', fc', iA', ic', dA', dc'⟩ (upS s m) HUP d i hd hi wr.heap.size W HSO.out.up
              have HWS : Hid (∀ W d i, d < s.days.length → i < s.skies.length → Grew B w W → Le B W → Calls Try.prog 15 #[.agg (seasonA r s), .int .i64 (d : Int), .int .i64 (i : Int)] W fun e w' => e = .returned (.tuple #[.int .i64 (worthN s (s.days.length - d) i), .int .i64 0]) ∧ ∃ δ, w' = lat W δ) := Lib.hid fun W d i hd hi i1 i2 =>
                sWorth_c r s HOK.out d i hd hi B W H.out.up
              have HPQ : Hid (∀ d i, 0 ≤ worthN s (s.days.length - d) i ∧ worthN s (s.days.length - d) i ≤ worthN (upS s m) (s.days.length - d) i) := Lib.hid fun d i => ⟨(worth_nn (s := s) (fun p hp => by
                obtain ⟨q, hq, rfl⟩ := List.getElem_of_mem hp
                rw [← nth_get _ hq]
                exact okDays_at (seasonOk_iff.1 HOK.out).2.2.2.2.2.2.2.2 hq) _ (Nat.sub_le _ _) i).1, hwu _ i⟩
              have BW : Grew B w wr := grew_tr k1 i1 k2.out
              have BL : Le B wr := ⟨Nat.le_trans k2.out i2.out⟩
              have wW : Grew w.heap.size w wr := grew_tr k3 i1 k4.out
              have wL : Le w.heap.size wr := ⟨Nat.le_trans k4.out i2.out⟩
              have XR : Hid (Box wr w.heap.size 36 (seasonA r s)) := Lib.hid (Box.upg X4.out)
              clear hup hsA hc1 hwu HUP SO S5 O5
              go_upto_region 30 with (first
                | (refine wpList_loadB rowSeason rfl _ rfl rfl SB.out rfl ?_)
                | (go_at_call 9; refine (HCO.out _ inferInstance inferInstance).mono ?_; rintro e w1 ⟨rfl, δ6, rfl⟩))
              refine wp_name fun W7 hW7 => ?_
              have y1 : Grew wr.heap.size wr W7 := by rw [hW7.out]; infer_instance
              have y2 : Le wr.heap.size W7 := by rw [hW7.out]; infer_instance
              have y3 : Grew B w W7 := by rw [hW7.out]; infer_instance
              have y4 : Le B W7 := by rw [hW7.out]; infer_instance
              have y5 : Grew w.heap.size w W7 := by rw [hW7.out]; infer_instance
              have y6 : Le w.heap.size W7 := by rw [hW7.out]; infer_instance
              have X7 : Hid (Box W7 w.heap.size 36 (seasonA r s)) := Lib.hid (Box.upg XR.out)
              have S7 : Hid (Box W7 gg 36 (seasonA ⟨⟨gA', gc', aA', ac', wA', wc'⟩, sr', kA', kc', fA', fc', iA', ic', dA', dc'⟩ (upS s m))) := Lib.hid (Box.upg SB.out)
              clear hW7 XR SB
              have x11 := X7.out.cell (i := 11) (v := .slice r.kA s.skies.length r.kc) rfl
              have x14 := X7.out.cell (i := 14) (v := .slice r.dA s.days.length r.dc) rfl
              have x7 := X7.out.lt
              have h40 := HS.out.2.2.1
              have h41 := HS.out.2.2.2.2.2.1
              go_wp2_with (fail)
              go_loopg [18] s.days.length (fun g v wr2 => ∃ (d : Nat) (δ : World), d ≤ s.days.length ∧ g = s.days.length - d ∧ v = .int .i64 d ∧ wr2 = lat W7 δ)
              case atStart => exact ⟨0, W7, Nat.zero_le _, rfl, rfl, (lat_refl W7).symm⟩
              case round =>
                obtain ⟨d, δd, hd, rfl, rfl, rfl⟩ := hrel
                by_cases hdl : d < s.days.length
                · have hdi : (d : Int) < (s.days.length : Int) := by omega
                  go_wp2_with (fail)
                  go_loopg [19] s.skies.length (fun g v wr2 => ∃ (i : Nat) (δ : World), i ≤ s.skies.length ∧ g = s.skies.length - i ∧ v = .int .i64 i ∧ wr2 = lat W7 δ)
                  case atStart => exact ⟨0, _, Nat.zero_le _, rfl, rfl, lat_def⟩
                  case round =>
                    obtain ⟨i, δi, hi, rfl, rfl, rfl⟩ := hrel
                    by_cases hil : i < s.skies.length
                    · have hii : (i : Int) < (s.skies.length : Int) := by omega
                      obtain ⟨p0, pq⟩ := HPQ.out d i
                      have C1 := HWS.out (lat W7 δi) d i hdl hil inferInstance inferInstance
                      have C2 : ∀ δ', Calls Try.prog 15 #[.agg (seasonA ⟨⟨gA', gc', aA', ac', wA', wc'⟩, sr', kA', kc', fA', fc', iA', ic', dA', dc'⟩ (upS s m)), .int .i64 (d : Int), .int .i64 (i : Int)] (lat (lat W7 δi) δ') fun e w' => e = .returned (.tuple #[.int .i64 (worthN (upS s m) (s.days.length - d) i), .int .i64 0]) ∧ ∃ δ, w' = lat (lat (lat W7 δi) δ') δ := fun δ' => HWO.out _ d i hdl hil inferInstance inferInstance
                      obtain ⟨p, hp⟩ : ∃ x, worthN s (s.days.length - d) i = x := ⟨_, rfl⟩
                      obtain ⟨q, hq⟩ : ∃ x, worthN (upS s m) (s.days.length - d) i = x := ⟨_, rfl⟩
                      rw [hp] at C1 p0 pq
                      rw [hq] at pq
                      simp only [hq] at C2
                      have D1 := Lib.hid C1
                      have D2 := Lib.hid C2
                      clear hp hq C1 C2
                      have p1 : ¬ p < 0 := by omega
                      have p2 : ¬ q < p := by omega
                      go_upto_region 37 with (first
                        | (refine wpList_loadB rowSeason rfl _ rfl rfl (Box.upg X7.out) rfl ?_)
                        | (go_at_call 15; refine D1.out.mono ?_; rintro e w1 ⟨rfl, δp, rfl⟩))
                      go_wp2_with (first
                        | (refine wpList_loadB rowSeason rfl _ rfl rfl (Box.upg S7.out) rfl ?_)
                        | (go_at_call 15; refine (D2.out _).mono ?_; rintro e w1 ⟨rfl, δp2, rfl⟩))
                      go_roundg (s.skies.length - (i + 1))
                      case measure => omega
                      case rel => exact ⟨i + 1, _, by omega, rfl, by go_num, lat_def⟩
                    · obtain rfl : i = s.skies.length := by omega
                      go_wp2_with (fail)
                      go_roundg (s.days.length - (d + 1))
                      case measure => omega
                      case rel => exact ⟨d + 1, _, by omega, rfl, by go_num, rfl⟩
                · obtain rfl : d = s.days.length := by omega
                  go_wp2_with (go_at_call 7; refine (calmed_c _).mono ?_; rintro e w1 ⟨rfl, δ8, rfl⟩)
                  go_ret
                  exact ⟨rfl, lat_ex⟩
end Go.Proofs.Ytnddiloeikaleaa
