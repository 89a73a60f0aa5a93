/- Layer 4: First, the program's. -/
import Derived.Test.YtbfehifidlojlaaMe20
import Derived.Test.YtbfehifidlojlaaMeP5
namespace Go.Proofs.Ytbfehifidlojlaa
open Go.RowKit
open Me

namespace Me
/-- Does a list begin with a number? -/
def headB (h : Int) (l : List Int) : Bool := decide (nth l 0 = h)
/-- Of the best of some orders: how many begin with a number, and how many do not. -/
def soN (n : Net) (h : Int) (R : List (List Int)) : Nat := ((sameAs (worst n) (leastN n) R).filter (headB h)).length
def notN (n : Net) (h : Int) (R : List (List Int)) : Nat := ((sameAs (worst n) (leastN n) R).filter fun l => !headB h l).length
theorem sameAs_snoc {α : Type} (f : α → Int) (v : Int) (R : List α) (x : α) : sameAs f v (R ++ [x]) = sameAs f v R ++ (if f x = v then [x] else []) := by
  unfold sameAs
  rw [List.filter_append]
  congr 1
  by_cases h : f x = v
  · rw [if_pos h, List.filter_cons_of_pos (by simpa using h)]; rfl
  · rw [if_neg h, List.filter_cons_of_neg (by simpa using h)]; rfl
theorem so_snoc (n : Net) (h : Int) (R : List (List Int)) (x : List Int) :
    soN n h (R ++ [x]) = soN n h R + (if worst n x = leastN n ∧ headB h x = true then 1 else 0) ∧ notN n h (R ++ [x]) = notN n h R + (if worst n x = leastN n ∧ headB h x = false then 1 else 0) := by
  unfold soN notN
  rw [sameAs_snoc]
  by_cases h1 : worst n x = leastN n
  · rw [if_pos h1, List.filter_append, List.filter_append, List.length_append, List.length_append]
    cases h2 : headB h x <;> simp [h1, h2]
  · rw [if_neg h1]
    simp [h1]
def firstN (n : Net) (h : Int) : Int := knownI (soN n h (allO n)) (bestL n).length
theorem so_not (n : Net) (h : Int) : soN n h (allO n) + notN n h (allO n) = (bestL n).length := by
  unfold soN notN bestL
  induction sameAs (worst n) (leastN n) (allO n) with
  | nil => rfl
  | cons x xs ih =>
    cases hx : headB h x
    · rw [List.filter_cons_of_neg (by simp [hx]), List.filter_cons_of_pos (by simp [hx]), List.length_cons, List.length_cons]; omega
    · rw [List.filter_cons_of_pos hx, List.filter_cons_of_neg (by simp [hx]), List.length_cons, List.length_cons]; omega
theorem so_le (n : Net) (h : Int) (R : List (List Int)) : soN n h R ≤ R.length ∧ notN n h R ≤ R.length :=
  ⟨Nat.le_trans (List.length_filter_le _ _) (List.length_filter_le _ _), Nat.le_trans (List.length_filter_le _ _) (List.length_filter_le _ _)⟩
end Me

theorem firstP_no (r : NetR) (n : Net) (h : Int) (hv : valid n = false) (B : Nat) (w : World) (hN : NetIs B w r n) [hB : Le B w] :
    Calls Try.prog 51 #[netV r n, .int .i64 h] w fun e w' => e = .returned (.tuple #[.int .i64 0, .int .i64 40]) ∧ ∃ δ, w' = lat w δ := by
  have HN := Lib.hid hN
  have HV := Lib.hid hv
  clear hN hv
  go_enter Try.func51, Try.ntmps51
  go_wp2_with (go_at_call 32; refine (check_no r n HV.out B _ HN.out.up).mono ?_; rintro e w1 ⟨rfl, δ, rfl⟩)
  go_ret2
  exact ⟨rfl, lat_ex⟩

theorem firstP_arg (r : NetR) (n : Net) (h : Int) (hv : valid n = true) (hh : inB 0 ((n.hs.length : Int) - 1) h = false) (B : Nat) (w : World) (hN : NetIs B w r n) [hB : Le B w] :
    Calls Try.prog 51 #[netV r n, .int .i64 h] w fun e w' => e = .returned (.tuple #[.int .i64 0, .int .i64 1]) ∧ ∃ δ, w' = lat w δ := by
  have HN := Lib.hid hN
  have HV := Lib.hid hv
  have HH := Lib.hid hh
  have h6 := (ok_of hv).2.1
  clear hN hv hh
  go_enter Try.func51, Try.ntmps51
  go_wp2_with (first
    | (go_at_call 32; refine (check_yes r n HV.out B _ HN.out.up).mono ?_; rintro e w1 ⟨rfl, δ, rfl⟩)
    | (go_at_call 71; refine (withinM_c _ _ _ _).mono ?_; rw [HH.out]; rintro e w1 ⟨rfl, rfl⟩))
  go_ret2
  exact ⟨rfl, lat_ex⟩

section
attribute [local go_sem] Oper.semAt_some
set_option maxRecDepth 100000 in
set_option maxHeartbeats 4000000 in
theorem firstP_yes (r : NetR) (n : Net) (h : Int) (hv : valid n = true) (hh : inB 0 ((n.hs.length : Int) - 1) h = true) (B : Nat) (w : World) (hN : NetIs B w r n) [hB : Le B w] :
    Calls Try.prog 51 #[netV r n, .int .i64 h] w fun e w' => e = .returned (.tuple #[.int .i64 (firstN n h), .int .i64 0]) ∧ ∃ δ, w' = lat w δ := by
  have HN := Lib.hid hN
  have HV := Lib.hid hv
  have HH := Lib.hid hh
  have h6 := (ok_of hv).2.1
  have hbw := inB_iff.1 hh
  clear hN hv hh
  refine calls_over Try.func51 rfl ?_
  simp only [Try.ntmps51, List.size_toArray, List.length_cons, List.length_nil, Nat.reduceAdd, Nat.reduceSub, Array.replicate_succ, Array.replicate_zero, List.push_toArray, List.append_toArray, List.nil_append, List.cons_append]
  go_upto_region 6 with (first
    | (go_at_call 32; refine (check_yes r n HV.out B _ HN.out.up).mono ?_; rintro e w1 ⟨rfl, δ, rfl⟩)
    | (go_at_call 71; refine (withinM_c _ _ _ _).mono ?_; rw [HH.out]; rintro e w1 ⟨rfl, rfl⟩))
  refine wp_name fun W1 hW1 => ?_
  have iw1 : Le B W1 := by rw [hW1.out]; infer_instance
  have iw2 : Grew B w W1 := by rw [hW1.out]; infer_instance
  have iw3 : Le w.heap.size W1 := by rw [hW1.out]; infer_instance
  have iw4 : Grew w.heap.size w W1 := by rw [hW1.out]; infer_instance
  have iw5 : Lt (w.heap.size) W1 := by rw [hW1.out]; infer_instance
  have iw6 : Lt (w.heap.size + 1) W1 := by rw [hW1.out]; infer_instance
  have cw7 : W1.cell? ⟨w.heap.size, 0, none⟩ = some (.int .i64 n.m) := by rw [hW1.out]; go_simp
  have cw8 : W1.cell? ⟨w.heap.size, 1, none⟩ = some (.slice r.hA n.hs.length r.hc) := by rw [hW1.out]; go_simp
  have cw9 : W1.cell? ⟨w.heap.size, 2, none⟩ = some (.slice r.pA n.ps.length r.pc) := by rw [hW1.out]; go_simp
  have BH1 : Hid (Box W1 (w.heap.size + 1) 3 #[.int .i64 h]) := by rw [hW1.out]; exact (Box.new (by simp)).lat _
  have N1 := Lib.hid (HN.out.up : NetIs B W1 r n)
  have hsw : w.heap.size + 1 < W1.heap.size := iw6.out
  clear hW1
  go_wp2_with (first
    | (go_at_call 87; refine (least_c 82 ent_high (worst n) r n HV.out B _ N1.out.up (tells_high r n HV.out B _)).mono ?_; rintro e w1 ⟨A1, c1, δ2, rfl, hw, hS⟩; have bp : Box w1 W1.heap.size 71 #[.int .i64 n.m, .slice r.hA n.hs.length r.hc, .slice r.pA n.ps.length r.pc] := (by rw [hw]; exact (Box.new rfl).lat _); have bh : Box w1 (w.heap.size + 1) 3 #[.int .i64 h] := (by rw [hw]; exact (BH1.out.alloc _).lat _); have e0 := bp.cell (i := 0) rfl; have e1 := bp.cell (i := 1) rfl; have e2 := bp.cell (i := 2) rfl; have ilt := bp.lt; have g1 : Grew B W1 w1 := (by rw [hw]; infer_instance); have g2 : Le B w1 := (by rw [hw]; infer_instance); have g3 : Grew W1.heap.size W1 w1 := (by rw [hw]; infer_instance); have g4 : Le W1.heap.size w1 := (by rw [hw]; infer_instance); have BP := Lib.hid bp; have BH := Lib.hid bh; clear hw hS bp bh)
    | (go_at_call 88; refine (orders_c n r _).mono ?_; rintro e w2 ⟨rfl, rfl⟩))
  obtain ⟨kk, hkk⟩ : ∃ kk, worst n (least (worst n) (allO n)) = kk := ⟨_, rfl⟩
  rw [hkk]
  have HKK := Lib.hid (show leastN n = kk from hkk)
  clear hkk
  refine wp_name fun W0 hW0 => ?_
  have iw0 : Le B W0 := by rw [hW0.out]; infer_instance
  have g5 : Grew w1.heap.size w1 W0 := by rw [hW0.out]; infer_instance
  have g6 : Le w1.heap.size W0 := by rw [hW0.out]; infer_instance
  have BQ : Hid (Box W0 (w1.heap.size + 1 + 1 + 1) 71 #[.int .i64 n.m, .slice r.hA n.hs.length r.hc, .slice r.pA n.ps.length r.pc]) := by rw [hW0.out]; exact Box.new (by simp)
  have BN : Hid (Box W0 (w1.heap.size + 1 + 1) 3 #[.int .i64 0]) := by rw [hW0.out]; exact (Box.new (by simp)).alloc _
  have BS : Hid (Box W0 (w1.heap.size + 1) 3 #[.int .i64 0]) := by rw [hW0.out]; exact ((Box.new (by simp)).alloc _).alloc _
  have BK : Hid (Box W0 w1.heap.size 3 #[.int .i64 kk]) := by rw [hW0.out]; exact (((Box.new rfl).alloc _).alloc _).alloc _
  have BP0 : Hid (Box W0 W1.heap.size 71 #[.int .i64 n.m, .slice r.hA n.hs.length r.hc, .slice r.pA n.ps.length r.pc]) := by rw [hW0.out]; exact (((BP.out.alloc _).alloc _).alloc _).alloc _
  have BH0 : Hid (Box W0 (w.heap.size + 1) 3 #[.int .i64 h]) := by rw [hW0.out]; exact (((BH.out.alloc _).alloc _).alloc _).alloc _
  have HZ : Hid (W0.heap.size = w1.heap.size + 4) := by rw [hW0.out]; unfold Hid; simp
  have HN0 : Hid (NetIs B W0 r n) := by rw [hW0.out]; exact N1.out.up
  have hBw := hB.out
  have h1w := g4.out
  have h2w := ilt.out
  have jm : Le w.heap.size w1 := ⟨Nat.le_trans iw3.out g4.out⟩
  have jj : Grew w.heap.size w W0 := grew_tr (grew_tr iw4 g3) g5
  have jk : Le w.heap.size W0 := ⟨by have := iw3.out; have := g6.out; omega⟩
  clear hW0 BP BH e0 e1 e2 BH1
  refine wp_over n r B (w1.heap.size + 1 + 1 + 1) rfl h6 HN0.out (by have := HZ.out; omega) (by have := HZ.out; omega) (BQ.out.cell (i := 0) rfl) (BQ.out.cell (i := 1) rfl) (BQ.out.cell (i := 2) rfl)
    (fun b => b = w1.heap.size + 1 ∨ b = w1.heap.size + 1 + 1) (by rintro b (rfl | rfl) <;> have := HZ.out <;> omega)
    (fun pre W => Box W (w1.heap.size + 1) 3 #[.int .i64 (soN n h pre)] ∧ Box W (w1.heap.size + 1 + 1) 3 #[.int .i64 (notN n h pre)]) (fun _ _ _ => False)
    (by intro pre W W' hh hk; exact ⟨hh.1.kep hk (two_none (by have := HZ.out; omega)), hh.2.kep hk (two_none (by have := HZ.out; omega))⟩) (fun _ _ _ _ h _ => h)
    ⟨BS.out, BN.out⟩ (fun v => { tmps := #[netV r n, .int .i64 h, .pointer (some ⟨w.heap.size, 0, none⟩), .pointer (some ⟨w.heap.size + 1, 0, none⟩), .int .i64 0, .int .i64 0, .int .i64 0, .pointer (some ⟨W1.heap.size, 0, none⟩), .slice A1 n.hs.length c1, .pointer (some ⟨w1.heap.size, 0, none⟩), .pointer (some ⟨w1.heap.size + 1, 0, none⟩), .pointer (some ⟨w1.heap.size + 1 + 1, 0, none⟩), v,
      .agg #[.int .i64 n.m, .slice r.hA n.hs.length r.hc, .slice r.pA n.ps.length r.pc], .int .i64 0, .int .i64 0, .bool false, undef, .int .i64 h, .pointer (some ⟨w.heap.size, 1, none⟩), .slice r.hA n.hs.length r.hc, .int .i64 n.hs.length, .int .i64 ((n.hs.length : Int) - 1), .bool true, .bool false, .agg #[.int .i64 n.m, .slice r.hA n.hs.length r.hc, .slice r.pA n.ps.length r.pc], .agg #[.int .i64 n.m, .slice r.hA n.hs.length r.hc, .slice r.pA n.ps.length r.pc], .tuple #[.slice A1 n.hs.length c1, .int .i64 kk], .agg #[.int .i64 n.m, .slice r.hA n.hs.length r.hc, .slice r.pA n.ps.length r.pc], .agg #[.int .i64 n.m, .slice r.hA n.hs.length r.hc, .slice r.pA n.ps.length r.pc], .func (.func 82) #[.agg #[.int .i64 n.m, .slice r.hA n.hs.length r.hc, .slice r.pA n.ps.length r.pc]] #[], .tuple #[.slice A1 n.hs.length c1, .int .i64 kk], .slice A1 n.hs.length c1, .int .i64 kk, .agg #[.int .i64 n.m, .slice r.hA n.hs.length r.hc, .slice r.pA n.ps.length r.pc],
      .func (.func 102) #[] #[.pointer (some ⟨w1.heap.size + 1 + 1 + 1, 0, none⟩)], v, undef, undef, undef, undef, undef, undef, undef, undef, undef, undef, undef, undef, undef, undef, undef, undef, undef, undef, undef, undef, undef, undef], defers := [] }) ?assign ?body ?done ?stop
  case assign =>
    intro l m v W K hK
    gi_wp2
    exact hK
  case body =>
    rintro L m pre x v W hpre ⟨hX, hY⟩ hl hk hs
    obtain ⟨A2, c2, rfl, hS1, hlo1⟩ := hl
    have hx : isOrd n x = true := allO_mem.1 (hpre.subset (by simp))
    have q1 := BP0.out.kep hk (by have := HZ.out; rintro ((h | h) | h | h) <;> omega)
    have q2 := BK.out.kep hk (by have := HZ.out; rintro ((h | h) | h | h) <;> omega)
    have q3 := BH0.out.kep hk (by have := HZ.out; rintro ((h | h) | h | h) <;> omega)
    have q4 := hk.net HN0.out (by have := HZ.out; omega) (by have := HZ.out; rintro b ((h | h) | h | h) <;> omega)
    have hWs : W0.heap.size ≤ W.heap.size := hk.size
    have hlen := ord_len hx
    have hpl : pre.length + 1 ≤ 50000 := by
      have e1 := hpre.length_le
      rw [List.length_append] at e1
      have e2 := (ords_len h6 n.hs.length [])
      have e3 : 6 ^ n.hs.length ≤ 6 ^ 6 := Nat.pow_le_pow_right (by omega) h6
      have e4 : (allO n).length ≤ 6 ^ n.hs.length := e2
      simp only [List.length_cons, List.length_nil] at e1
      omega
    obtain ⟨a1, a2⟩ := so_le n h pre
    have b1 : soN n h pre ≤ 50000 := by omega
    have b2 : notN n h pre ≤ 50000 := by omega
    obtain ⟨b, o, rfl, hb, hc0⟩ := hS1.int (k := 0) (by omega)
    rw [Nat.add_zero] at hc0
    have ib : Lt b W := ⟨hb⟩
    have z0 := q1.cell (i := 0) rfl
    have z1 := q1.cell (i := 1) rfl
    have z2 := q1.cell (i := 2) rfl
    have z3 := q2.cell (i := 0) rfl
    have z4 := q3.cell (i := 0) rfl
    have z5 := hX.cell (i := 0) rfl
    have z6 := hX.free 0
    have z7 := hY.cell (i := 0) rfl
    have z8 := hY.free 0
    have i1 := q1.lt
    have i2 := q2.lt
    have i3 := q3.lt
    have i4 := hX.lt
    have i5 := hY.lt
    have hge := leastN_le hx
    rw [HKK.out] at hge
    obtain ⟨t1, t2⟩ := so_snoc n h pre x
    rw [HKK.out] at t1 t2
    have HT1 := Lib.hid t1
    have HT2 := Lib.hid t2
    have HX := Lib.hid hX
    have HY := Lib.hid hY
    have Q4 := Lib.hid (q4.more (show B ≤ W.heap.size by have := HZ.out; have := g2.out; omega))
    have HOX := Lib.hid hx
    have HS1 := Lib.hid hS1
    have HLX := Lib.hid hlen
    have hl0 : (0 : Int) < (n.hs.length : Int) := by omega
    clear hX hY q1 q2 q3 q4 hk hpre hx hs hS1 hlo1 t1 t2 hpl a1 a2
    rw [hlen]
    clear hlen
    dsimp only
    by_cases hgt : kk < worst n x
    · have c1 : decide (kk < worst n x) = true := decide_eq_true hgt
      have HE := Lib.hid (And.intro (show soN n h (pre ++ [x]) = soN n h pre by rw [HT1.out, if_neg (by omega), Nat.add_zero]) (show notN n h (pre ++ [x]) = notN n h pre by rw [HT2.out, if_neg (by omega), Nat.add_zero]))
      clear hge
      gi_wp2
      refine wpIn_region_round (by kernel_rfl) (by kernel_rfl) (by rfl) ?_
      repeat (go_big_quiet_step ((first | (go_at_call 82; exact Calls.lat_of (high_c r n (some ⟨b, o, none⟩) c2 _ x _ _ HS1.out.up Q4.out.up HV.out HOX.out HLX.out)))))
      refine wpQuiet_nil ?_
      rintro _ ⟨δq, rfl⟩
      gi_wp2
      refine ⟨Kep.lat _ _ _, ?_⟩
      show Box _ (w1.heap.size + 1) _ #[.int .i64 (soN n h (pre ++ [x]))] ∧ Box _ (w1.heap.size + 1 + 1) _ #[.int .i64 (notN n h (pre ++ [x]))]
      rw [HE.out.1, HE.out.2]
      exact ⟨HX.out.lat _, HY.out.lat _⟩
    · have heq : worst n x = kk := by omega
      have c1 : decide (kk < worst n x) = false := decide_eq_false hgt
      by_cases hh : nth x 0 = h
      · have c2' : (nth x 0 == h) = true := by simpa using hh
        have hhb : headB h x = true := decide_eq_true hh
        have HE := Lib.hid (And.intro (show soN n h (pre ++ [x]) = soN n h pre + 1 by rw [HT1.out, if_pos ⟨heq, hhb⟩]) (show notN n h (pre ++ [x]) = notN n h pre by rw [HT2.out, if_neg (by simp [hhb]), Nat.add_zero]))
        clear hge hgt heq hh hhb
        gi_wp2
        refine wpIn_region_round (by kernel_rfl) (by kernel_rfl) (by rfl) ?_
        repeat (go_big_quiet_step ((first | (go_at_call 82; exact Calls.lat_of (high_c r n (some ⟨b, o, none⟩) c2 _ x _ _ HS1.out.up Q4.out.up HV.out HOX.out HLX.out)))))
        refine wpQuiet_nil ?_
        rintro _ ⟨δq, rfl⟩
        gi_wp2
        refine wpIn_region_round (by kernel_rfl) (by kernel_rfl) (by rfl) ?_
        repeat (go_big_quiet_step ((first | (fail))))
        refine wpQuiet_nil ?_
        rintro _ ⟨δr, rfl⟩
        gi_wp2
        refine ⟨((Kep.lat (fun b => b = w1.heap.size + 1 ∨ b = w1.heap.size + 1 + 1) W δq).trans (Kep.lat _ _ δr)).set (.inl rfl) _ _, ?_⟩
        show Box _ (w1.heap.size + 1) _ #[.int .i64 (soN n h (pre ++ [x]))] ∧ Box _ (w1.heap.size + 1 + 1) _ #[.int .i64 (notN n h (pre ++ [x]))]
        rw [HE.out.1, HE.out.2]
        exact ⟨((HX.out.lat _).lat _).set 0 _, ((HY.out.lat _).lat _).far (by show w1.heap.size + 1 + 1 ≠ w1.heap.size + 1; omega) _⟩
      · have c2' : (nth x 0 == h) = false := by simpa using hh
        have hhb : headB h x = false := decide_eq_false hh
        have HE := Lib.hid (And.intro (show soN n h (pre ++ [x]) = soN n h pre by rw [HT1.out, if_neg (by simp [hhb]), Nat.add_zero]) (show notN n h (pre ++ [x]) = notN n h pre + 1 by rw [HT2.out, if_pos ⟨heq, hhb⟩]))
        clear hge hgt heq hh hhb
        gi_wp2
        refine wpIn_region_round (by kernel_rfl) (by kernel_rfl) (by rfl) ?_
        repeat (go_big_quiet_step ((first | (go_at_call 82; exact Calls.lat_of (high_c r n (some ⟨b, o, none⟩) c2 _ x _ _ HS1.out.up Q4.out.up HV.out HOX.out HLX.out)))))
        refine wpQuiet_nil ?_
        rintro _ ⟨δq, rfl⟩
        gi_wp2
        refine wpIn_region_round (by kernel_rfl) (by kernel_rfl) (by rfl) ?_
        repeat (go_big_quiet_step ((first | (fail))))
        refine wpQuiet_nil ?_
        rintro _ ⟨δr, rfl⟩
        gi_wp2
        refine ⟨((Kep.lat (fun b => b = w1.heap.size + 1 ∨ b = w1.heap.size + 1 + 1) W δq).trans (Kep.lat _ _ δr)).set (.inr rfl) _ _, ?_⟩
        show Box _ (w1.heap.size + 1) _ #[.int .i64 (soN n h (pre ++ [x]))] ∧ Box _ (w1.heap.size + 1 + 1) _ #[.int .i64 (notN n h (pre ++ [x]))]
        rw [HE.out.1, HE.out.2]
        exact ⟨((HX.out.lat _).lat _).far (by show w1.heap.size + 1 ≠ w1.heap.size + 1 + 1; omega) _, ((HY.out.lat _).lat _).set 0 _⟩
  case done =>
    rintro W ⟨hI, hJ⟩ hk hD
    dsimp only
    have HD := Lib.hid hD
    have HK := Lib.hid hk
    have d0 := hI.cell (i := 0) rfl
    have d1 := hJ.cell (i := 0) rfl
    have hsn := so_not n h
    obtain ⟨a1, a2⟩ := so_le n h (allO n)
    have hF := Lib.hid (show firstN n h = knownI (soN n h (allO n)) (bestL n).length from rfl)
    clear hI hJ hk hD
    by_cases h0 : soN n h (allO n) = 0
    · have c1 : ((soN n h (allO n) : Int) == 0) = true := by simp [h0]
      have HR := Lib.hid (show firstN n h = 2 by rw [hF.out, h0]; rfl)
      clear h0 hsn hbw
      go_wp2_with (fail)
      refine over_ret (v := .tuple #[.int .i64 2, .int .i64 0]) HD.out ?_ ⟨by rw [HR.out], over_lat (HK.out.putObj (.inr (.inl rfl)) _) (by have := HZ.out; rintro b ((h | h) | h | h) <;> omega)⟩
      simp only [results, Try.results51]
      go_simp
    · have c1 : ((soN n h (allO n) : Int) == 0) = false := by simpa using h0
      by_cases h2 : notN n h (allO n) = 0
      · have c2 : ((notN n h (allO n) : Int) == 0) = true := by simp [h2]
        have HR := Lib.hid (show firstN n h = 1 by rw [hF.out, knownI, if_neg (by omega), if_pos (by omega)])
        clear h0 h2 hsn hbw
        go_wp2_with (fail)
        refine over_ret (v := .tuple #[.int .i64 1, .int .i64 0]) HD.out ?_ ⟨by rw [HR.out], over_lat (HK.out.putObj (.inr (.inl rfl)) _) (by have := HZ.out; rintro b ((h | h) | h | h) <;> omega)⟩
        simp only [results, Try.results51]
        go_simp
      · have c2 : ((notN n h (allO n) : Int) == 0) = false := by simpa using h2
        have HR := Lib.hid (show firstN n h = 3 by rw [hF.out, knownI, if_neg (by omega), if_neg (by omega)])
        clear h0 h2 hsn hbw
        go_wp2_with (fail)
        refine over_ret (v := .tuple #[.int .i64 3, .int .i64 0]) HD.out ?_ ⟨by rw [HR.out], over_lat (HK.out.putObj (.inr (.inl rfl)) _) (by have := HZ.out; rintro b ((h | h) | h | h) <;> omega)⟩
        simp only [results, Try.results51]
        go_simp
  case stop => exact fun _ _ _ _ _ h => h.elim
end

end Go.Proofs.Ytbfehifidlojlaa
