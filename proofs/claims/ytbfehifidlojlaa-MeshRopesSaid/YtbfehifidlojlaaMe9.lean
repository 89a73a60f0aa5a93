/- Layer 4: what is lost by an order, and when all is mended, as the program reckons it. -/
import Derived.Test.YtbfehifidlojlaaMe8
import Derived.Test.YtbfehifidlojlaaMeP4
namespace Go.Proofs.Ytbfehifidlojlaa
open Go.RowKit
open Me

theorem ok_of {n : Net} (h : valid n = true) : (1 ≤ n.m ∧ n.m ≤ 3) ∧ n.hs.length ≤ 6 ∧ n.ps.length ≤ 8 ∧ okHoles n.hs = true ∧ okPrs n.hs.length n.ps = true := by
  obtain ⟨a, b, c, d, e, _⟩ := valid_iff.1 h; exact ⟨a, b, c, d, e⟩
theorem times_v (r : NetR) (n : Net) (A : Option Addr) (c ln : Nat) (l : List Int) (B : Nat) (w : World) [hB : Le B w] (hS : Sl encI B w A c l) (hN : NetIs B w r n) (hv : valid n = true) (hl : isOrd n l = true) (hln : l.length = ln) :
    Calls Try.prog 78 #[netV r n, .slice A ln c] w fun e w' => ∃ (A' : Option Addr) (c' : Nat) (δ : World), e = .returned (.slice A' n.hs.length c') ∧ w' = lat w δ ∧ Hid (Sl encI (lat w δ).heap.size (lat w δ) A' c' (times n l)) ∧ Hid (∀ p, A' = some p → w.heap.size ≤ p.block) := by
  subst hln
  obtain ⟨a, b, c', d, e⟩ := ok_of hv
  refine (times_c r n A c l B w hS hN a b c' d e (ord_holes hl) (by rw [ord_len hl]; exact b)).mono ?_
  rintro e w' ⟨A', c', δ, rfl, rfl, h1, h2⟩
  exact ⟨A', c', δ, by rw [times_len], rfl, h1, h2⟩
theorem highs_le {n : Net} (hv : okHoles n.hs = true) : allLe 20 (highs n) ∧ allLe 20 (lows n) := by
  constructor
  all_goals
    intro j
    rcases Nat.lt_or_ge j n.hs.length with h | h
    · first | rw [nth_highs h] | rw [nth_lows h]
      have := okHole_iff.1 (okHoles_at hv h); omega
    · have e : ∀ xs : List Int, xs.length ≤ j → nth xs j = 0 := fun xs hx => by unfold nth List.getD; rw [List.getElem?_eq_none hx]; rfl
      rw [e _ (by simp [highs, lows]; exact h)]; omega
theorem loss_bd {n : Net} (hv : valid n = true) {l : List Int} (hl : isOrd n l = true) {rt : List Int} (hr : allLe 20 rt) (k : Nat) (hk : k ≤ n.hs.length) : -10000 ≤ lossK n.hs (times n l) rt k ∧ lossK n.hs (times n l) rt k ≤ 10000 := by
  have h6 := (ok_of hv).2.1
  have := lossK_bd (ok_of hv).2.2.2.1 (times_bd hv hl) hr k hk (by omega)
  omega
theorem mulbd {a b : Int} (h0 : 0 ≤ a) (h1 : a ≤ 20) (h2 : -100 ≤ b) (h3 : b ≤ 100) : -2000 ≤ a * b ∧ a * b ≤ 2000 := by
  have e1 := Int.mul_le_mul_of_nonneg_left h3 h0
  have e2 := Int.mul_le_mul_of_nonneg_left h2 h0
  constructor <;> omega

set_option maxRecDepth 100000 in
set_option maxHeartbeats 2000000 in
theorem lost_c (r : NetR) (n : Net) (A : Option Addr) (c ln : Nat) (l : List Int) (B : Nat) (w : World) [hB : Le B w] (hS : Sl encI B w A c l) (hN : NetIs B w r n) (hv : valid n = true) (hl : isOrd n l = true) (hln : l.length = ln) :
    Calls Try.prog 79 #[netV r n, .slice A ln c] w fun e w' => e = .returned (.agg #[.int .i64 (loss n l (lows n)), .int .i64 (worst n l)]) ∧ ∃ δ, w' = lat w δ := by
  have HS := Lib.hid hS
  have HN := Lib.hid hN
  have HV := Lib.hid hv
  have HO := Lib.hid hl
  have HLN := Lib.hid hln
  have h6 := (ok_of hv).2.1
  clear hS hN hv hl hln
  go_enter Try.func79, Try.ntmps79
  go_wp2_with (go_at_call 78; refine (times_v r n _ _ _ l B _ HS.out.up HN.out.up HV.out HO.out HLN.out).mono ?_; rintro e w1 ⟨A', c', δ, rfl, rfl, hT, hT2⟩)
  refine wp_name fun W1 hW1 => ?_
  have iw1 : Le B W1 := by rw [hW1.out]; infer_instance
  have iw2 : Grew B w W1 := by rw [hW1.out]; infer_instance
  have iw3 : Le w.heap.size W1 := by rw [hW1.out]; infer_instance
  have iw4 : Grew w.heap.size w W1 := by rw [hW1.out]; infer_instance
  have iw5 : Lt (w.heap.size) W1 := by rw [hW1.out]; infer_instance
  have iw6 : Lt (w.heap.size + 1) W1 := by rw [hW1.out]; infer_instance
  have bx : Box W1 (w.heap.size + 1) 27 #[.int .i64 0, .int .i64 0] := by rw [hW1.out]; exact (Box.new (by simp)).lat _
  have bp : Box W1 w.heap.size 71 #[.int .i64 n.m, .slice r.hA n.hs.length r.hc, .slice r.pA n.ps.length r.pc] := by rw [hW1.out]; exact ((Box.new rfl).alloc _).lat _
  have T1 : Sl encI W1.heap.size W1 A' c' (times n l) := by rw [hW1.out]; exact hT.out
  have BX := Lib.hid bx
  have BP := Lib.hid bp
  have TT := Lib.hid T1
  have T2 : Hid (∀ p, A' = some p → w.heap.size + 2 ≤ p.block) := fun p hp => by have := hT2.out p hp; simpa using this
  clear hW1 hT bx bp T1 hT2
  go_loopg [12] n.hs.length (fun g i wr => ∃ k : Nat, k ≤ n.hs.length ∧ g = n.hs.length - k ∧ i = .int .i64 k ∧ Box wr (w.heap.size + 1) 27 #[.int .i64 (lossK n.hs (times n l) (lows n) k), .int .i64 (lossK n.hs (times n l) (highs n) k)] ∧ Kep (fun b => b = w.heap.size + 1) W1 wr)
  case atStart => exact ⟨0, Nat.zero_le _, rfl, rfl, BX.out, Kep.refl _ _⟩
  case round =>
    obtain ⟨k, hk, rfl, rfl, hX, hK⟩ := hrel
    have bp := BP.out.kep hK (by omega)
    have p1 := bp.cell (i := 1) rfl
    have ip := bp.lt
    have s0 := hX.cell (i := 0) rfl
    have s1 := hX.cell (i := 1) rfl
    have f0 := hX.free 0
    have f1 := hX.free 1
    have is := hX.lt
    by_cases hlt : k < n.hs.length
    · have hkt : k < (times n l).length := by rw [times_len]; exact hlt
      obtain ⟨b, o, rfl, hb, hc⟩ := TT.out.int hkt
      have hbb : w.heap.size + 2 ≤ b := T2.out _ rfl
      have hcr := (hK.cell (o := o + k) hb (fun e => by have e : b = w.heap.size + 1 := e; omega)).trans hc
      have ib : Lt b wr := ⟨Nat.lt_of_lt_of_le hb hK.size⟩
      obtain ⟨bh, oh, hAh, hbh, d0, d1, d2, d3⟩ := HN.out.1.hole hlt
      have hbhw : bh < w.heap.size := Nat.lt_of_lt_of_le hbh hB.out
      have hww := iw3.out
      have e := fun o => (hK.cell (b := bh) (o := o) (by omega) (fun e => by have e : bh = w.heap.size + 1 := e; omega)).trans (cells_same iw4.out bh o hbhw)
      have e0 := (e _).trans d0
      have e1 := (e _).trans d1
      have e2 := (e _).trans d2
      have e3 := (e _).trans d3
      have ibh : Lt bh wr := ⟨by have := hK.size; omega⟩
      obtain ⟨rhA, rhc, rpA, rpc⟩ := r
      have hAh : rhA = some ⟨bh, oh, none⟩ := hAh
      subst hAh
      have hki : (k : Int) < (n.hs.length : Int) := by omega
      have hk0 : ¬ (k : Int) < 0 := by omega
      have ht := times_bd HV.out HO.out k
      have hh := okHole_iff.1 (okHoles_at (ok_of HV.out).2.2.2.1 hlt)
      have q1 : 0 ≤ nth (times n l) k := ht.1
      have q2 : nth (times n l) k ≤ 74 := ht.2
      have q3 : 0 ≤ (nth n.hs k).fr := hh.1
      have q4 : (nth n.hs k).fr ≤ 20 := hh.2.1
      obtain ⟨m1, m2⟩ := mulbd (a := (nth n.hs k).lo) (b := nth (times n l) k - (nth n.hs k).fr) (by omega) (by omega) (by omega) (by omega)
      obtain ⟨m3, m4⟩ := mulbd (a := (nth n.hs k).hi) (b := nth (times n l) k - (nth n.hs k).fr) (by omega) (by omega) (by omega) (by omega)
      obtain ⟨b1, b2⟩ := loss_bd HV.out HO.out (highs_le (ok_of HV.out).2.2.2.1).2 k hk
      obtain ⟨b3, b4⟩ := loss_bd HV.out HO.out (highs_le (ok_of HV.out).2.2.2.1).1 k hk
      have HE1 := Lib.hid (show lossK n.hs (times n l) (lows n) (k + 1) = lossK n.hs (times n l) (lows n) k + (nth n.hs k).lo * (nth (times n l) k - (nth n.hs k).fr) by rw [lossK, nth_lows hlt])
      have HE2 := Lib.hid (show lossK n.hs (times n l) (highs n) (k + 1) = lossK n.hs (times n l) (highs n) k + (nth n.hs k).hi * (nth (times n l) k - (nth n.hs k).fr) by rw [lossK, nth_highs hlt])
      have n1 : LeN W1.heap.size wr.heap.size := ⟨hK.size⟩
      have n2 : NeN wr.heap.size (w.heap.size + 1) := ⟨Nat.ne_of_gt is.out⟩
      have HX := Lib.hid hX
      have HK := Lib.hid hK
      have HLT := Lib.hid hlt
      clear hX hK hlt hk hc d0 d1 d2 d3 e hh ht hkt
      go_wp2_with (fail)
      go_roundg (n.hs.length - (k + 1))
      case measure => have := HLT.out; omega
      case rel =>
        refine ⟨k + 1, HLT.out, rfl, by go_num, ?_, ?_⟩
        · rw [HE1.out, HE2.out]
          exact ((HX.out.set 0 _).set 1 _).alloc _
        · exact ((HK.out.set rfl _ _).set rfl _ _).alloc _
    · obtain rfl : k = n.hs.length := by omega
      have HX := Lib.hid hX
      have HK := Lib.hid hK
      clear hX hK
      go_wp2_with (fail)
      refine bodyPost_ret (v := .agg #[.int .i64 (loss n l (lows n)), .int .i64 (worst n l)]) ?_ rfl ⟨rfl, ?_⟩
      · simp only [results, Try.results79]
        go_simp
        exact ⟨rfl, rfl⟩
      · exact over_lat ((HK.out.set rfl _ _).set rfl _ _) (by rintro b rfl; omega)

set_option maxRecDepth 100000 in
theorem run_high (a b : Int) (W : World) : (Instr.field 27 (.agg #[.int .i64 a, .int .i64 b]) 1).run Try.prog W = .ok (.int .i64 b) W := by kernel_rfl
set_option maxRecDepth 100000 in
theorem high_c (r : NetR) (n : Net) (A : Option Addr) (c ln : Nat) (l : List Int) (B : Nat) (w : World) [hB : Le B w] (hS : Sl encI B w A c l) (hN : NetIs B w r n) (hv : valid n = true) (hl : isOrd n l = true) (hln : l.length = ln) :
    Calls Try.prog 82 #[netV r n, .slice A ln c] w fun e w' => e = .returned (.int .i64 (worst n l)) ∧ ∃ δ, w' = lat w δ := by
  have HS := Lib.hid hS
  have HN := Lib.hid hN
  have HV := Lib.hid hv
  have HO := Lib.hid hl
  have HLN := Lib.hid hln
  clear hS hN hv hl hln
  have hfield := run_high
  go_enter Try.func82, Try.ntmps82
  go_wp2_with (go_at_call 79; refine (lost_c r n _ _ _ l B _ HS.out.up HN.out.up HV.out HO.out HLN.out).mono ?_; rintro e w1 ⟨rfl, δ, rfl⟩)
  go_ret
  exact ⟨rfl, lat_ex⟩

set_option maxRecDepth 100000 in
set_option maxHeartbeats 2000000 in
theorem last_c (r : NetR) (n : Net) (A : Option Addr) (c ln : Nat) (l : List Int) (B : Nat) (w : World) [hB : Le B w] (hS : Sl encI B w A c l) (hN : NetIs B w r n) (hv : valid n = true) (hl : isOrd n l = true) (hln : l.length = ln) :
    Calls Try.prog 100 #[netV r n, .slice A ln c] w fun e w' => e = .returned (.int .i64 (lastOf n l)) ∧ ∃ δ, w' = lat w δ := by
  have HS := Lib.hid hS
  have HN := Lib.hid hN
  have HV := Lib.hid hv
  have HO := Lib.hid hl
  have HLN := Lib.hid hln
  have h6 := (ok_of hv).2.1
  clear hS hN hv hl hln
  go_enter Try.func100, Try.ntmps100
  go_wp2_with (go_at_call 78; refine (times_v r n _ _ _ l B _ HS.out.up HN.out.up HV.out HO.out HLN.out).mono ?_; rintro e w1 ⟨A', c', δ, rfl, rfl, hT, hT2⟩)
  refine wp_name fun W1 hW1 => ?_
  have iw1 : Le B W1 := by rw [hW1.out]; infer_instance
  have iw2 : Grew B w W1 := by rw [hW1.out]; infer_instance
  have iw3 : Le w.heap.size W1 := by rw [hW1.out]; infer_instance
  have iw4 : Grew w.heap.size w W1 := by rw [hW1.out]; infer_instance
  have iw5 : Lt (w.heap.size) W1 := by rw [hW1.out]; infer_instance
  have TT : Hid (Sl encI W1.heap.size W1 A' c' (times n l)) := by rw [hW1.out]; exact hT.out
  clear hW1 hT hT2
  go_loopg [5, 12] n.hs.length (fun g s5 i wr => ∃ k : Nat, k ≤ n.hs.length ∧ g = n.hs.length - k ∧ i = .int .i64 k ∧ s5 = .int .i64 (maxK (times n l) k) ∧ wr = W1)
  case atStart => exact ⟨0, Nat.zero_le _, rfl, rfl, rfl, rfl⟩
  case round =>
    obtain ⟨k, hk, rfl, rfl, rfl, rfl⟩ := hrel
    by_cases hlt : k < n.hs.length
    · obtain ⟨b, o, rfl, hb, hc⟩ := TT.out.int (k := k) (by rw [times_len]; exact hlt)
      have hki : (k : Int) < (n.hs.length : Int) := by omega
      have hk0 : ¬ (k : Int) < 0 := by omega
      by_cases hmx : maxK (times n l) k < nth (times n l) k
      · have HE := Lib.hid (show maxK (times n l) (k + 1) = nth (times n l) k by rw [maxK]; omega)
        have HLT := Lib.hid hlt
        clear hlt
        go_wp2_with (fail)
        go_roundg (n.hs.length - (k + 1))
        case measure => have := HLT.out; omega
        case rel => exact ⟨k + 1, HLT.out, rfl, by go_num, by rw [HE.out], rfl⟩
      · have HE := Lib.hid (show maxK (times n l) (k + 1) = maxK (times n l) k by rw [maxK]; omega)
        have HLT := Lib.hid hlt
        clear hlt
        go_wp2_with (fail)
        go_roundg (n.hs.length - (k + 1))
        case measure => have := HLT.out; omega
        case rel => exact ⟨k + 1, HLT.out, rfl, by go_num, by rw [HE.out], rfl⟩
    · obtain rfl : k = n.hs.length := by omega
      go_wp2_with (fail)
      go_ret
      exact ⟨rfl, lat_ex⟩

end Go.Proofs.Ytbfehifidlojlaa
