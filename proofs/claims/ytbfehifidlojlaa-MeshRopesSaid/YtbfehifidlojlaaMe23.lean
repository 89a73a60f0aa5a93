/- Layer 4: the reference's TimesOf. -/
import Derived.Test.YtbfehifidlojlaaMe9
import Derived.Test.YtbfehifidlojlaaMeB
namespace Go.Proofs.Ytbfehifidlojlaa
open Go.RowKit
open Me

set_option maxRecDepth 100000 in
set_option maxHeartbeats 4000000 in
theorem rTimesOf_c (r : NetR) (n : Net) (A : Option Addr) (c : Nat) (l : List Int) (B : Nat) (w : World) [hB : Le B w] (hS : Sl encI B w A c l) (hN : NetIs B w r n) (hm : 1 ≤ n.m ∧ n.m ≤ 3) (h6 : n.hs.length ≤ 6) (h8 : n.ps.length ≤ 8) (hv : okHoles n.hs = true) (hpv : okPrs n.hs.length n.ps = true)
    (hl : holesL n l) (hl6 : l.length ≤ 6) :
    Calls Try.prog 68 #[netV r n, .slice A l.length c] w fun e w' => ∃ (A' : Option Addr) (c' : Nat) (δ : World), e = .returned (.slice A' (times n l).length c') ∧ w' = lat w δ ∧ Hid (Sl encI (lat w δ).heap.size (lat w δ) A' c' (times n l)) := by
  obtain ⟨m, hmm⟩ : ∃ m : Nat, n.m = m := ⟨n.m.toNat, by omega⟩
  have hm3 : m ≤ 3 := by omega
  have hm1 : 1 ≤ m := by omega
  have HM := Lib.hid hmm
  have eV : netV r n = Value.agg #[.int .i64 (m : Int), .slice r.hA n.hs.length r.hc, .slice r.pA n.ps.length r.pc] := by unfold netV; rw [hmm]
  rw [eV]
  have hmk := run_mk slI m (by omega) (by omega)
  have hmk2 := run_mk slI n.hs.length (by omega) (by omega)
  have HS := Lib.hid hS
  have HN := Lib.hid hN
  have HV := Lib.hid hv
  have HPV := Lib.hid hpv
  have HL := Lib.hid hl
  have hlc := hS.1
  clear hS hN hm hv hpv hl hmm eV
  go_enter Try.func68, Try.ntmps68
  go_wp2_with (fail)
  go_loopg [7] l.length (fun g i wr => ∃ k : Nat, k ≤ l.length ∧ g = l.length - k ∧ i = .int .i64 k ∧ TimI n r w 25 (w.heap.size + 1 + 1) (w.heap.size + 1) w.heap.size l k wr)
  case atStart => exact ⟨0, Nat.zero_le _, rfl, rfl, tim_start HM.out (Box.new (by simp)) ((Box.new (by simp)).alloc _) (((Box.new rfl).alloc _).alloc _) inferInstance inferInstance⟩
  case round =>
    obtain ⟨k, hk, rfl, rfl, hF, hO, hP, g1, g2⟩ := hrel
    have p1 := hP.cell (i := 1) rfl
    have p2 := hP.cell (i := 2) rfl
    have ip := hP.lt
    have iF := hF.lt
    have iO := hO.lt
    by_cases hlt : k < l.length
    · obtain ⟨b, o, rfl, hb, hc⟩ := HS.out.int hlt
      have hbw : b < w.heap.size := Nat.lt_of_lt_of_le hb hB.out
      have hcr := (cells_same g1.out b _ hbw).trans hc
      have ib : Lt b wr := ⟨Nat.lt_of_lt_of_le hbw g2.out⟩
      have hx := HL.out (nth l k) (nth_mem l hlt)
      obtain ⟨x, hh⟩ : ∃ x : Nat, nth l k = x := ⟨(nth l k).toNat, by have := hx.1; omega⟩
      rw [hh] at hcr
      have HC := Lib.hid (show w.cell? ⟨b, o + k, none⟩ = some (.int .i64 x) by rw [← hh]; exact hc)
      have hnl : x < n.hs.length := by have := hx.2; omega
      obtain ⟨bh, oh, hAh, hbh, d0, d1, d2, d3⟩ := HN.out.1.hole hnl
      have hbhw : bh < w.heap.size := Nat.lt_of_lt_of_le hbh hB.out
      have e0 := (cells_same g1.out bh _ hbhw).trans d0
      have e1 := (cells_same g1.out bh _ hbhw).trans d1
      have e2 := (cells_same g1.out bh _ hbhw).trans d2
      have e3 := (cells_same g1.out bh _ hbhw).trans d3
      have ibh : Lt bh wr := ⟨Nat.lt_of_lt_of_le hbhw g2.out⟩
      obtain ⟨rhA, rhc, rpA, rpc⟩ := r
      have hAh : rhA = some ⟨bh, oh, none⟩ := hAh
      subst hAh
      have hki : (k : Int) < (l.length : Int) := by omega
      have hk0 : ¬ (k : Int) < 0 := by omega
      have hxi : (x : Int) < (n.hs.length : Int) := by omega
      have hx0 : ¬ (x : Int) < 0 := by omega
      obtain ⟨lF, lO⟩ := run_lens n (l.take k)
      obtain ⟨bF, bO⟩ := run_bd HV.out (l.take k) (fun y hy => HL.out y (List.mem_of_mem_take hy))
      have hT : (l.take k).length ≤ 6 := by rw [List.length_take]; omega
      have hmd := mendAt_bd HV.out (show isHole n (nth l k) from hx) bF bO (by omega)
      have hrun := run_snoc n (l.take k) (nth l k)
      rw [← take_snoc l hlt, hh] at hrun
      rw [hh] at hmd
      obtain ⟨F, O, hs⟩ : ∃ F O, run n (l.take k) = (F, O) := ⟨_, _, rfl⟩
      rw [hs] at hF hO lF lO bF bO hmd hrun
      have lF : F.length = m := by have := HM.out; simp only at lF; omega
      have lO : O.length = n.hs.length := lO
      have bF : allLe 80 F := allLe_mono bF (by omega)
      have bO : allLe 80 O := allLe_mono bO (by omega)
      have HMD := Lib.hid hmd
      have HRUN := Lib.hid hrun
      have HH := Lib.hid hh
      have HF : Hid (RowI wr (w.heap.size + 1 + 1) F) := hF
      have HO : Hid (RowI wr (w.heap.size + 1) O) := hO
      have HPB := Lib.hid hP
      have LF := Lib.hid lF
      have LO := Lib.hid lO
      have BF := Lib.hid bF
      have BO := Lib.hid bO
      have HK := Lib.hid (And.intro hk hlt)
      clear hmd hrun hh hF hO hP hs lF lO bF bO hx hk hlt hc d0 d1 d2 d3
      go_wp2_with (fail)
      go_loopg [8, 9] m (fun g s8 s9 wr' => ∃ (j : Nat) (δ : World), j ≤ m ∧ g = m - j ∧ s9 = .int .i64 j ∧ s8 = .int .i64 (ownK F j) ∧ wr' = lat wr δ)
      case atStart => exact ⟨0, wr, Nat.zero_le _, rfl, rfl, rfl, (lat_refl wr).symm⟩
      case round =>
        obtain ⟨j, δ, hj, rfl, rfl, rfl, rfl⟩ := hrel
        have hown : ownK F j < m := by
          rcases Nat.eq_zero_or_pos j with rfl | hj0
          · show 0 < m; omega
          · have := ownK_lt (free := F) hj0; omega
        by_cases hlt : j < m
        · have f1 := HF.out.cell (k := j) (by rw [LF.out]; exact hlt)
          have f2 := HF.out.cell (k := ownK F j) (by rw [LF.out]; exact hown)
          have hji : (j : Int) < (m : Int) := by omega
          have hj0 : ¬ (j : Int) < 0 := by omega
          have hoi : (ownK F j : Int) < (m : Int) := by omega
          have ho0 : ¬ (ownK F j : Int) < 0 := by omega
          by_cases hc : nth F j < nth F (ownK F j)
          · have HE := Lib.hid (show ownK F (j + 1) = j by unfold ownK; rw [if_pos hc])
            go_wp2_with (fail)
            refine wp_region_lat (by kernel_rfl) (by kernel_rfl) ?_
            repeat (go_big_quiet_step ((first | (fail))))
            refine wpQuiet_nil ?_
            rintro _ ⟨δq, rfl⟩
            go_wp2_with (fail)
            go_roundg (m - (j + 1))
            case measure => omega
            case rel => exact ⟨j + 1, _, hlt, rfl, by go_num, by rw [HE.out], lat_def⟩
          · have HE := Lib.hid (show ownK F (j + 1) = ownK F j by rw [ownK, if_neg hc])
            go_wp2_with (fail)
            refine wp_region_lat (by kernel_rfl) (by kernel_rfl) ?_
            repeat (go_big_quiet_step ((first | (fail))))
            refine wpQuiet_nil ?_
            rintro _ ⟨δq, rfl⟩
            go_wp2_with (fail)
            go_roundg (m - (j + 1))
            case measure => omega
            case rel => exact ⟨j + 1, _, hlt, rfl, by go_num, by rw [HE.out], lat_def⟩
        · obtain rfl : j = m := by omega
          have HOW := Lib.hid (show own F = ownK F j by unfold own; rw [LF.out])
          have f2 := HF.out.cell (k := ownK F j) (by rw [LF.out]; exact hown)
          have hoi : (ownK F j : Int) < (j : Int) := by omega
          have ho0 : ¬ (ownK F j : Int) < 0 := by omega
          obtain ⟨q, hq⟩ : ∃ q, ownK F j = q := ⟨_, rfl⟩
          rw [hq] at f2 hoi ho0 HOW
          have hqj : q < j := by rw [← hq]; exact hown
          clear hown
          rw [hq]
          clear hq
          go_wp2_with (fail)
          go_region_held3 (fun W => W.cell? ⟨w.heap.size, 1, none⟩ = some (.slice (some ⟨bh, oh, none⟩) n.hs.length rhc) ∧ W.cell? ⟨b, o + k, none⟩ = some (.int .i64 x) ∧ W.cell? ⟨bh, oh + x * 4, none⟩ = some (.int .i64 (nth n.hs x).fr) ∧ W.cell? ⟨bh, oh + x * 4 + 1, none⟩ = some (.int .i64 (nth n.hs x).lo) ∧ W.cell? ⟨bh, oh + x * 4 + 2, none⟩ = some (.int .i64 (nth n.hs x).hi) ∧ W.cell? ⟨bh, oh + x * 4 + 3, none⟩ = some (.int .i64 (nth n.hs x).hr))
            (refine ⟨?_, ?_, ?_, ?_, ?_, ?_⟩ <;> go_simp)
            (fail)
          obtain ⟨bx, hbx⟩ : ∃ bx, Hid (bx = (lat wr δ).heap.size) := ⟨_, rfl⟩
          rw [← hbx.out]
          go_wp2_with (fail)
          refine wp_name fun W2 hW2 => ?_
          have i1 : Le w.heap.size W2 := by rw [hW2.out]; infer_instance
          have i2 : Grew w.heap.size w W2 := by rw [hW2.out]; infer_instance
          have i3 : bx < W2.heap.size := by rw [hW2.out, hbx.out]; go_simp
          have i4 : wr.heap.size ≤ bx := by rw [hbx.out]; exact lat_size wr δ
          have o2 : RowI W2 (w.heap.size + 1) O := by rw [hW2.out]; exact ((HO.out.lat δ).alloc _).drew
          have f2' : RowI W2 (w.heap.size + 1 + 1) F := by rw [hW2.out]; exact ((HF.out.lat δ).alloc _).drew
          have b2 : Box W2 w.heap.size 25 #[.int .i64 n.m, .slice (some ⟨bh, oh, none⟩) n.hs.length rhc, .slice rpA n.ps.length rpc] := by rw [hW2.out]; exact (HPB.out.lat δ).alloc _
          have x2 : Box W2 bx 33 #[.int .i64 (nth n.hs x).fr, .int .i64 (nth n.hs x).lo, .int .i64 (nth n.hs x).hi, .int .i64 (nth n.hs x).hr] := by rw [hW2.out]; exact Box.new (w := lat wr δ) hbx.out
          have G2 := Lib.hid (And.intro i3 (And.intro i4 iF.out))
          clear hW2 hbx i3 i4 hcr e0 e1 e2 e3 p1 p2 ip iF iO ib ibh f2 HF HO HPB
          have p1 := b2.cell (i := 1) rfl
          have p2 := b2.cell (i := 2) rfl
          have ip := b2.lt
          have iF := f2'.lt
          have iO := o2.lt
          have hcr := (cells_same i2.out b (o + k) hbw).trans HC.out
          have ib : Lt b W2 := ⟨Nat.lt_of_lt_of_le hbw i1.out⟩
          have ibx := x2.lt
          have z1 := x2.cell (i := 0) rfl
          have z3 := x2.cell (i := 3) rfl
          have fq := f2'.cell (k := q) (by rw [LF.out]; exact hqj)
          have O2 := Lib.hid o2
          have F2 := Lib.hid f2'
          have B2 := Lib.hid b2
          have X2 := Lib.hid x2
          clear o2 f2' b2 x2
          refine wp_region_lat (by kernel_rfl) (by kernel_rfl) ?_
          repeat (go_big_quiet_step ((first | (fail))))
          refine wpQuiet_nil ?_
          rintro _ ⟨δq, rfl⟩
          obtain ⟨b0, hb0⟩ : ∃ b0, (if nth F q < (nth n.hs x).fr then (nth n.hs x).fr else nth F q) = b0 := ⟨_, rfl⟩
          rw [hb0]
          have HB0 := Lib.hid (show max (nth F (own F)) (nth n.hs x).fr = b0 by rw [HOW.out, ← hb0]; split <;> omega)
          clear hb0
          go_wp2_with (fail)
          go_loopg [11, 12] n.ps.length (fun g s11 s12 wr' => ∃ (i : Nat) (δ : World), i ≤ n.ps.length ∧ g = n.ps.length - i ∧ s12 = .int .i64 i ∧ s11 = .int .i64 (begK n.ps O x b0 i) ∧ wr' = lat W2 δ)
          case atStart => exact ⟨0, _, Nat.zero_le _, rfl, rfl, rfl, rfl⟩
          case round =>
            obtain ⟨i, δ, hi, rfl, rfl, rfl, rfl⟩ := hrel
            by_cases hlt : i < n.ps.length
            · obtain ⟨bp, op, hAp, hbp, c0, c1⟩ := HN.out.2.pr hlt
              have hbpw : bp < w.heap.size := Nat.lt_of_lt_of_le hbp hB.out
              have k0 := (cells_same i2.out bp _ hbpw).trans c0
              have k1 := (cells_same i2.out bp _ hbpw).trans c1
              have ibp : Lt bp W2 := ⟨Nat.lt_of_lt_of_le hbpw i1.out⟩
              have hAp : rpA = some ⟨bp, op, none⟩ := hAp
              subst hAp
              have hok := okPr_iff.1 (okPrs_at HPV.out hlt)
              obtain ⟨a, ha⟩ : ∃ a : Nat, (nth n.ps i).a = a := ⟨(nth n.ps i).a.toNat, by omega⟩
              rw [ha] at k0
              have hal : a < n.hs.length := by omega
              have z0 := O2.out.cell (k := a) (by rw [LO.out]; exact hal)
              have hai : (a : Int) < (n.hs.length : Int) := by omega
              have ha0 : ¬ (a : Int) < 0 := by omega
              have hii : (i : Int) < (n.ps.length : Int) := by omega
              have hi0 : ¬ (i : Int) < 0 := by omega
              by_cases hbx : (nth n.ps i).b = x
              · have hbx' : ((nth n.ps i).b == (x : Int)) = true := by simpa using hbx
                by_cases hmx : begK n.ps O x b0 i < nth O a
                · have HE := Lib.hid (show begK n.ps O x b0 (i + 1) = nth O a by
                    rw [begK, if_pos hbx, ha]; simp only [Int.toNat_natCast]; omega)
                  have HLT := Lib.hid hlt
                  clear hbx hok ha c0 c1 hlt
                  go_wp2_with (fail)
                  refine wp_region_lat (by kernel_rfl) (by kernel_rfl) ?_
                  repeat (go_big_quiet_step ((first | (fail))))
                  refine wpQuiet_nil ?_
                  rintro _ ⟨δq2, rfl⟩
                  go_wp2_with (fail)
                  go_roundg (n.ps.length - (i + 1))
                  case measure => have := HLT.out; omega
                  case rel => exact ⟨i + 1, _, HLT.out, rfl, by go_num, by rw [HE.out], lat_def⟩
                · have HE := Lib.hid (show begK n.ps O x b0 (i + 1) = begK n.ps O x b0 i by
                    rw [begK, if_pos hbx, ha]; simp only [Int.toNat_natCast]; omega)
                  have HLT := Lib.hid hlt
                  clear hbx hok ha c0 c1 hlt
                  go_wp2_with (fail)
                  refine wp_region_lat (by kernel_rfl) (by kernel_rfl) ?_
                  repeat (go_big_quiet_step ((first | (fail))))
                  refine wpQuiet_nil ?_
                  rintro _ ⟨δq2, rfl⟩
                  go_wp2_with (fail)
                  go_roundg (n.ps.length - (i + 1))
                  case measure => have := HLT.out; omega
                  case rel => exact ⟨i + 1, _, HLT.out, rfl, by go_num, by rw [HE.out], lat_def⟩
              · have hbx' : ((nth n.ps i).b == (x : Int)) = false := by simpa using hbx
                have HE := Lib.hid (show begK n.ps O x b0 (i + 1) = begK n.ps O x b0 i by rw [begK, if_neg hbx])
                have HLT := Lib.hid hlt
                clear hbx hok ha c0 c1 hlt
                go_wp2_with (fail)
                refine wp_region_lat (by kernel_rfl) (by kernel_rfl) ?_
                repeat (go_big_quiet_step ((first | (fail))))
                refine wpQuiet_nil ?_
                rintro _ ⟨δq2, rfl⟩
                go_wp2_with (fail)
                go_roundg (n.ps.length - (i + 1))
                case measure => have := HLT.out; omega
                case rel => exact ⟨i + 1, _, HLT.out, rfl, by go_num, by rw [HE.out], lat_def⟩
            · obtain rfl : i = n.ps.length := by omega
              have hm1 := HMD.out
              have hh := okHole_iff.1 (okHoles_at HV.out hnl)
              unfold mendAt at hm1
              simp only [Int.toNat_natCast, HB0.out] at hm1
              obtain ⟨be, hbe⟩ : ∃ be, begK n.ps O x b0 n.ps.length = be := ⟨_, rfl⟩
              rw [hbe] at hm1
              rw [hbe]
              have HBE := Lib.hid (show mendAt n (F, O) x = be + (nth n.hs x).hr by unfold mendAt; simp only [Int.toNat_natCast, HB0.out, hbe])
              have y1 : 0 ≤ be := by omega
              have y2 : be ≤ 100 := by have := HK.out; omega
              have y3 : 0 ≤ (nth n.hs x).hr := by omega
              have y4 : (nth n.hs x).hr ≤ 9 := by omega
              have z0 := O2.out.cell (k := x) (by rw [LO.out]; exact hnl)
              have zf := O2.out.free x
              have zg := F2.out.free q
              clear hbe hm1 hh
              have gb : w.heap.size + 1 + 1 < bx := Nat.lt_of_lt_of_le G2.out.2.2 G2.out.2.1
              have n1 : NeN (w.heap.size + 1) b := ⟨by omega⟩
              have n2 : NeN b (w.heap.size + 1) := ⟨by omega⟩
              have n3 : NeN (w.heap.size + 1) bx := ⟨by omega⟩
              have n4 : NeN bx (w.heap.size + 1) := ⟨by omega⟩
              have n5 : NeN (w.heap.size + 1 + 1) bx := ⟨by omega⟩
              have n6 : NeN bx (w.heap.size + 1 + 1) := ⟨by omega⟩
              have n7 : LeN w.heap.size bx := ⟨by omega⟩
              go_wp2_with (fail)
              go_region_held3 (fun W => W.cell? ⟨b, o + k, none⟩ = some (.int .i64 x) ∧ W.cell? ⟨bx, 3, none⟩ = some (.int .i64 (nth n.hs x).hr))
                (refine ⟨?_, ?_⟩ <;> go_simp)
                (fail)
              go_upto_region 20 with fail
              refine wp_name fun W3 hW3 => ?_
              have hwr : IntKind.i64.wrap (be + (nth n.hs x).hr) = be + (nth n.hs x).hr := by simp only [IntKind.wrap, IntKind.bits, IntKind.signed]; simp; omega
              have o3 : RowI W3 (w.heap.size + 1) (O.set x (be + (nth n.hs x).hr)) := by rw [hW3.out]; rw [hwr]; exact ((O2.out.lat _).set _ _).drew
              have f3 : RowI W3 (w.heap.size + 1 + 1) F := by rw [hW3.out]; exact ((F2.out.lat _).far (by show w.heap.size + 1 + 1 ≠ w.heap.size + 1; omega) _).drew
              have b3 : Box W3 w.heap.size 25 #[.int .i64 n.m, .slice (some ⟨bh, oh, none⟩) n.hs.length rhc, .slice rpA n.ps.length rpc] := by rw [hW3.out]; exact (B2.out.lat _).far (by show w.heap.size ≠ w.heap.size + 1; omega) _
              have e3 : Box W3 bx 33 #[.int .i64 (nth n.hs x).fr, .int .i64 (nth n.hs x).lo, .int .i64 (nth n.hs x).hi, .int .i64 (nth n.hs x).hr] := by rw [hW3.out]; exact (X2.out.lat _).far (by show bx ≠ w.heap.size + 1; omega) _
              have g3 : Grew w.heap.size w W3 := by rw [hW3.out]; infer_instance
              have g4 : Le w.heap.size W3 := by rw [hW3.out]; infer_instance
              have x2 := f3.cell (k := q) (by rw [LF.out]; exact hqj)
              have x3 := f3.free q
              have x4 := f3.lt
              have x5 := e3.cell (i := 3) rfl
              have x6 := e3.lt
              have O3 := Lib.hid o3
              have F3 := Lib.hid f3
              have B3 := Lib.hid b3
              clear hW3 o3 f3 b3 e3
              go_wp2_with (fail)
              go_roundg (l.length - (k + 1))
              case measure => have := HK.out; omega
              case rel =>
                refine ⟨k + 1, HK.out.2, rfl, by go_num, ?_, ?_, B3.out.far (by show w.heap.size ≠ w.heap.size + 1 + 1; omega) _, inferInstance, inferInstance⟩
                · rw [HRUN.out]
                  show RowI _ (w.heap.size + 1 + 1) (F.set (own F) (mendAt n (F, O) x))
                  rw [HOW.out, HBE.out]
                  exact F3.out.set _ _
                · rw [HRUN.out]
                  show RowI _ (w.heap.size + 1) (O.set (x : Int).toNat (mendAt n (F, O) x))
                  rw [HBE.out, Int.toNat_natCast]
                  exact O3.out.far (by show w.heap.size + 1 ≠ w.heap.size + 1 + 1; omega) _
    · obtain rfl : k = l.length := by omega
      have hlen := times_len n l
      have hsl := hO.sl (by rw [(run_lens n _).2]; omega)
      rw [List.take_length] at hsl
      have hsl : Sl encI wr.heap.size wr (some ⟨w.heap.size + 1, 0, none⟩) (times n l).length (times n l) := hsl
      rw [hlen] at hsl
      have HSL := Lib.hid hsl
      have HLEN := Lib.hid hlen
      clear hsl hlen hF hO hP
      go_wp2_with (fail)
      go_ret
      refine ⟨some ⟨w.heap.size + 1, 0, none⟩, n.hs.length, wr, by rw [HLEN.out]; rfl, lat_def, ?_⟩
      rw [← lat_def (w := w) (W := wr)]
      exact HSL.out

end Go.Proofs.Ytbfehifidlojlaa
