/- Layer 4: by how much an order can lose more than another one, as the program reckons it. -/
import Derived.Test.YtbfehifidlojlaaMe10
import Derived.Test.YtbfehifidlojlaaMeR
import Derived.LoopIn
import Derived.IntWalk
namespace Go.Proofs.Ytbfehifidlojlaa
open Go.RowKit
open Me

theorem regK_bd {n : Net} (hv : valid n = true) {l o : List Int} (hl : isOrd n l = true) (ho : isOrd n o = true) (k : Nat) (hk : k ≤ n.hs.length) : -(2000 * (k : Int)) ≤ regK n.hs (times n l) (times n o) k ∧ regK n.hs (times n l) (times n o) k ≤ 2000 * (k : Int) := by
  induction k with
  | zero => simp [regK]
  | succ k ih =>
    obtain ⟨i1, i2⟩ := ih (by omega)
    have a := times_bd hv hl k
    have b := times_bd hv ho k
    have h := okHole_iff.1 (okHoles_at (ok_of hv).2.2.2.1 (k := k) (by omega))
    obtain ⟨m1, m2⟩ := mulbd (a := (nth n.hs k).lo) (b := nth (times n l) k - nth (times n o) k) (by omega) (by omega) (by omega) (by omega)
    obtain ⟨m3, m4⟩ := mulbd (a := (nth n.hs k).hi) (b := nth (times n l) k - nth (times n o) k) (by omega) (by omega) (by omega) (by omega)
    unfold regK rateD
    omega

section
attribute [local go_sem] Oper.semAt_some
set_option maxRecDepth 100000 in
set_option maxHeartbeats 4000000 in
theorem regret_c (r : NetR) (n : Net) (A : Option Addr) (c ln : Nat) (l : List Int) (B : Nat) (w : World) [hB : Le B w] (hS : Sl encI B w A c l) (hN : NetIs B w r n) (hv : valid n = true) (hl : isOrd n l = true) (hln : l.length = ln) :
    Calls Try.prog 62 #[netV r n, .slice A ln c] w fun e w' => e = .returned (.int .i64 (regret n l)) ∧ ∃ δ, w' = lat w δ := by
  have HS := Lib.hid hS
  have HN := Lib.hid hN
  have HV := Lib.hid hv
  have HO := Lib.hid hl
  have HLN := Lib.hid hln
  have h6 := (ok_of hv).2.1
  clear hS hN hv hl hln
  refine calls_over Try.func62 rfl ?_
  simp only [Try.ntmps62, List.size_toArray, List.length_cons, List.length_nil, Nat.reduceAdd, Nat.reduceSub, Array.replicate_succ, Array.replicate_zero, List.push_toArray, List.append_toArray, List.nil_append, List.cons_append]
  go_wp2_with (first
    | (go_at_call 78; refine (times_v r n _ _ _ l B _ HS.out.up HN.out.up HV.out HO.out HLN.out).mono ?_; rintro e w1 ⟨A', c', δ, rfl, hw, hT, hT2⟩; have bp : Box w1 w.heap.size 71 #[.int .i64 n.m, .slice r.hA n.hs.length r.hc, .slice r.pA n.ps.length r.pc] := (by rw [hw]; exact (Box.new rfl).lat _); have e0 := bp.cell (i := 0) rfl; have e1 := bp.cell (i := 1) rfl; have e2 := bp.cell (i := 2) rfl; have ilt := bp.lt; have g1 : Grew B w w1 := (by rw [hw]; infer_instance); have g2 : Le B w1 := (by rw [hw]; infer_instance); have g3 : Grew w.heap.size w w1 := (by rw [hw]; infer_instance); have g4 : Le w.heap.size w1 := (by rw [hw]; infer_instance); have HT : Hid (Sl encI w1.heap.size w1 A' c' (times n l)) := (by rw [hw]; exact hT.out); have BP := Lib.hid bp; clear hw hT bp)
    | (go_at_call 88; refine (orders_c n r _).mono ?_; rintro e w2 ⟨rfl, rfl⟩))
  refine wp_name fun W0 hW0 => ?_
  have iw0 : Le B W0 := by rw [hW0.out]; infer_instance
  have iw1 : Grew B w W0 := by rw [hW0.out]; infer_instance
  have iw2 : Le w.heap.size W0 := by rw [hW0.out]; infer_instance
  have iw3 : Grew w.heap.size w W0 := by rw [hW0.out]; infer_instance
  have iw4 : Grew w1.heap.size w1 W0 := by rw [hW0.out]; infer_instance
  have BQ : Hid (Box W0 (w1.heap.size + 1 + 1) 71 #[.int .i64 n.m, .slice r.hA n.hs.length r.hc, .slice r.pA n.ps.length r.pc]) := by rw [hW0.out]; exact Box.new (by simp)
  have BO : Hid (Box W0 w1.heap.size 30 #[.slice A' n.hs.length c']) := by rw [hW0.out]; exact ((Box.new rfl).alloc _).alloc _
  have BM : Hid (Box W0 (w1.heap.size + 1) 3 #[.int .i64 0]) := by rw [hW0.out]; exact (Box.new (by simp)).alloc _
  have BP0 : Hid (Box W0 w.heap.size 71 #[.int .i64 n.m, .slice r.hA n.hs.length r.hc, .slice r.pA n.ps.length r.pc]) := by rw [hW0.out]; exact ((BP.out.alloc _).alloc _).alloc _
  have HT0 : Hid (Sl encI w1.heap.size W0 A' c' (times n l)) := by rw [hW0.out]; exact HT.out.up
  have HZ : Hid (W0.heap.size = w1.heap.size + 3) := by rw [hW0.out]; unfold Hid; simp
  have HN0 : Hid (NetIs B W0 r n) := HN.out.up
  have hBw := hB.out
  have hlw := g4.out
  have hlt := ilt.out
  clear hW0 HT BP e0 e1 e2
  refine wp_over n r B (w1.heap.size + 1 + 1) rfl h6 HN0.out (by have := HZ.out; omega) (by have := HZ.out; omega) (BQ.out.cell (i := 0) rfl) (BQ.out.cell (i := 1) rfl) (BQ.out.cell (i := 2) rfl)
    (fun b => b = w1.heap.size + 1) (by rintro b rfl; have := HZ.out; omega)
    (fun pre W => Box W (w1.heap.size + 1) 3 #[.int .i64 (maxL (reg2 n l) pre)]) (fun _ _ _ => False)
    (by intro pre W W' h hk; exact h.kep hk (two_none (by have := HZ.out; omega))) (fun _ _ _ _ h _ => h)
    BM.out (fun v => { tmps := #[netV r n, .slice A ln c, .pointer (some ⟨w.heap.size, 0, none⟩), undef, .int .i64 0, .pointer (some ⟨w1.heap.size, 0, none⟩), .pointer (some ⟨w1.heap.size + 1, 0, none⟩), v, undef, undef, undef, undef,
      .agg #[.int .i64 n.m, .slice r.hA n.hs.length r.hc, .slice r.pA n.ps.length r.pc], .slice A ln c, .slice A' n.hs.length c', .agg #[.int .i64 n.m, .slice r.hA n.hs.length r.hc, .slice r.pA n.ps.length r.pc],
      .func (.func 102) #[] #[.pointer (some ⟨w1.heap.size + 1 + 1, 0, none⟩)], v, undef, undef, undef, undef, undef, undef, undef, undef, undef, undef, undef, undef, undef, undef, undef, undef, undef, undef, undef, undef, undef, undef, undef, undef, undef, undef, undef, undef, undef, undef, undef, undef, undef, undef, undef, undef, undef, undef, undef, undef, undef, undef], defers := [] }) ?assign ?body ?done ?stop
  case assign =>
    intro l m v W K hK
    gi_wp2
    exact hK
  case body =>
    rintro L m pre x v W hpre hX hl hk hs
    obtain ⟨A1, c1, rfl, hS1, hlo1⟩ := hl
    have hx : isOrd n x = true := allO_mem.1 (hpre.subset (by simp))
    have hTw : ∀ b, Two (fun b => b = w1.heap.size + 1) W0.heap.size b → w1.heap.size ≤ b := by have := HZ.out; rintro b (h | h | h) <;> omega
    have q1 := BP0.out.kep hk (fun h => by have := hTw _ h; omega)
    have q2 := BO.out.kep hk (by have := HZ.out; rintro (h | h | h) <;> omega)
    have q3 := hk.slB HT0.out (by have := HZ.out; omega) hTw
    have q4 := hk.net HN0.out (by have := HZ.out; omega) (fun b hb => by have := hTw b hb; have := g2.out; omega)
    have z0 := q1.cell (i := 0) rfl
    have z1 := q1.cell (i := 1) rfl
    have z2 := q1.cell (i := 2) rfl
    have z3 := q2.cell (i := 0) rfl
    have z4 := hX.cell (i := 0) rfl
    have z5 := hX.free 0
    have i1 := q1.lt
    have i2 := q2.lt
    have i3 := hX.lt
    have hWs : W0.heap.size ≤ W.heap.size := hk.size
    have hcall := times_v r n A1 c1 _ x W.heap.size W hS1 (q4.more (by have := g2.out; have := HZ.out; omega)) HV.out hx rfl
    have HX := Lib.hid hX
    have Q3 := Lib.hid q3
    have Q4 := Lib.hid q4
    have HOX := Lib.hid hx
    clear hX q1 q2 q3 q4 hk hpre hx hs hS1 hlo1
    gi_wp2
    refine round_call hcall ?_
    rintro e w2 ⟨A2, c2, δ2, rfl, rfl, hT, hT2⟩
    clear hcall
    gi_wp2
    gi_loopw [8, 22] (fun s8 i wr => ∃ (k : Nat) (δ : World), k ≤ n.hs.length ∧ i = .int .i64 k ∧ s8 = .int .i64 (regK n.hs (times n l) (times n x) k) ∧ wr = lat (lat W δ2) δ) (fun _ i _ => n.hs.length - (intOf i).toNat)
    case atStart => exact ⟨0, _, Nat.zero_le _, rfl, rfl, (lat_refl _).symm⟩
    case round =>
      obtain ⟨k, δ, hk, rfl, rfl, rfl⟩ := hrel
      by_cases hlt : k < n.hs.length
      · obtain ⟨b2, o2, rfl, hb2, t2⟩ := hT.out.int (k := k) (by rw [times_len]; exact hlt)
        obtain ⟨b1, o1, rfl, hb1, t1⟩ := Q3.out.int (k := k) (by rw [times_len]; exact hlt)
        obtain ⟨bh, oh, hAh, hbh, d0, d1, d2, d3⟩ := Q4.out.1.hole hlt
        have j2 : Lt b2 (lat W δ2) := ⟨hb2⟩
        have j1 : Lt b1 W := ⟨by have := HZ.out; omega⟩
        have jh : Lt bh W := ⟨by have := HZ.out; have := g2.out; omega⟩
        obtain ⟨rhA, rhc, rpA, rpc⟩ := r
        have hAh : rhA = some ⟨bh, oh, none⟩ := hAh
        subst hAh
        have hki : (k : Int) < (n.hs.length : Int) := by omega
        have hk0 : ¬ (k : Int) < 0 := by omega
        have ta := times_bd HV.out HO.out k
        have tb := times_bd HV.out HOX.out k
        have hh := okHole_iff.1 (okHoles_at (ok_of HV.out).2.2.2.1 hlt)
        have hrb := regK_bd HV.out HO.out HOX.out k hk
        obtain ⟨a, ha⟩ : ∃ a, nth (times n l) k = a := ⟨_, rfl⟩
        obtain ⟨b, hb⟩ : ∃ b, nth (times n x) k = b := ⟨_, rfl⟩
        obtain ⟨lo, hlo⟩ : ∃ b, (nth n.hs k).lo = b := ⟨_, rfl⟩
        obtain ⟨hi, hhi⟩ : ∃ b, (nth n.hs k).hi = b := ⟨_, rfl⟩
        obtain ⟨rk, hrk⟩ : ∃ b, regK n.hs (times n l) (times n x) k = b := ⟨_, rfl⟩
        rw [ha] at ta t1
        rw [hb] at tb t2
        rw [hlo, hhi] at hh
        rw [hlo] at d1
        rw [hhi] at d2
        rw [hrk] at hrb ⊢
        have HE := Lib.hid (show regK n.hs (times n l) (times n x) (k + 1) = rk + max (lo * (a - b)) (hi * (a - b)) by rw [regK, hrk, rateD, ha, hb, hlo, hhi])
        obtain ⟨m1, m2⟩ := mulbd (a := lo) (b := a - b) (by omega) (by omega) (by omega) (by omega)
        obtain ⟨m3, m4⟩ := mulbd (a := hi) (b := a - b) (by omega) (by omega) (by omega) (by omega)
        have y1 : -100 ≤ a - b ∧ a - b ≤ 100 := by omega
        have y2 : -20000 ≤ rk ∧ rk ≤ 20000 := by omega
        have v1 : IntKind.i64.wrap (a - b) = a - b := IntWalk.i64_in _ (by omega)
        have v2 : IntKind.i64.wrap (lo * (a - b)) = lo * (a - b) := IntWalk.i64_in _ (by omega)
        have v3 : IntKind.i64.wrap (hi * (a - b)) = hi * (a - b) := IntWalk.i64_in _ (by omega)
        have HLT := Lib.hid hlt
        clear ha hb hlo hhi hrk ta tb hh hrb hlt hk d0 d3 hb1 hb2 hbh
        by_cases hmx : lo * (a - b) < hi * (a - b)
        · have v4 : IntKind.i64.wrap (rk + hi * (a - b)) = rk + hi * (a - b) := IntWalk.i64_in _ (by omega)
          have HM := Lib.hid (show max (lo * (a - b)) (hi * (a - b)) = hi * (a - b) by omega)
          gi_wp2
          refine wpIn_region_round (by kernel_rfl) (by kernel_rfl) (by rfl) ?_
          repeat (go_big_quiet_step ((first | (fail))))
          refine wpQuiet_nil ?_
          rintro _ ⟨δq, rfl⟩
          gi_wp2
          exact ⟨⟨k + 1, _, HLT.out, by go_num, int_eq (by rw [HE.out, HM.out]), lat_def⟩, by have := HLT.out; simp [intOf]; omega⟩
        · have v4 : IntKind.i64.wrap (rk + lo * (a - b)) = rk + lo * (a - b) := IntWalk.i64_in _ (by omega)
          have HM := Lib.hid (show max (lo * (a - b)) (hi * (a - b)) = lo * (a - b) by omega)
          gi_wp2
          refine wpIn_region_round (by kernel_rfl) (by kernel_rfl) (by rfl) ?_
          repeat (go_big_quiet_step ((first | (fail))))
          refine wpQuiet_nil ?_
          rintro _ ⟨δq, rfl⟩
          gi_wp2
          exact ⟨⟨k + 1, _, HLT.out, by go_num, int_eq (by rw [HE.out, HM.out]), lat_def⟩, by have := HLT.out; simp [intOf]; omega⟩
      · obtain rfl : k = n.hs.length := by omega
        have HE := Lib.hid (show maxL (reg2 n l) (pre ++ [x]) = max (maxL (reg2 n l) pre) (regK n.hs (times n l) (times n x) n.hs.length) from maxL_snoc _ _ _)
        by_cases hmx : maxL (reg2 n l) pre < regK n.hs (times n l) (times n x) n.hs.length
        · have HM := Lib.hid (show max (maxL (reg2 n l) pre) (regK n.hs (times n l) (times n x) n.hs.length) = regK n.hs (times n l) (times n x) n.hs.length by omega)
          gi_wp2
          refine ⟨((Kep.lat (fun b => b = w1.heap.size + 1) _ _).trans (Kep.lat _ _ _)).set rfl _ _, ?_⟩
          show Box _ _ _ #[.int .i64 (maxL (reg2 n l) (pre ++ [x]))]
          rw [HE.out, HM.out]
          exact ((HX.out.lat _).lat _).set 0 _
        · have HM := Lib.hid (show max (maxL (reg2 n l) pre) (regK n.hs (times n l) (times n x) n.hs.length) = maxL (reg2 n l) pre by omega)
          gi_wp2
          refine ⟨((Kep.lat (fun b => b = w1.heap.size + 1) _ _).trans (Kep.lat _ _ _)).set rfl _ _, ?_⟩
          show Box _ _ _ #[.int .i64 (maxL (reg2 n l) (pre ++ [x]))]
          rw [HE.out, HM.out]
          exact ((HX.out.lat _).lat _).set 0 _
  case done =>
    rintro W hI hk hD
    have d0 := hI.cell (i := 0) rfl
    have HD := Lib.hid hD
    have HK := Lib.hid hk
    clear hI hD hk
    go_wp2_with (fail)
    refine over_ret (v := .int .i64 (regret n l)) HD.out ?_ ⟨rfl, over_lat (HK.out.putObj (.inr (.inl rfl)) _) (by have := HZ.out; rintro b (h | h | h) <;> omega)⟩
    simp only [results, Try.results62]
    go_simp
    rfl
  case stop => exact fun _ _ _ _ _ h => h.elim
end

end Go.Proofs.Ytbfehifidlojlaa
