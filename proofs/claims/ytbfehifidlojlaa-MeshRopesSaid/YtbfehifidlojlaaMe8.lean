/- Layer 4: when the holes are mended, as the program reckons it. -/
import Derived.Test.YtbfehifidlojlaaMe7
import Derived.Outline
import Derived.Deep.DeepCutAuto
namespace Go.Proofs.Ytbfehifidlojlaa
open Go.RowKit
open Me

/-- A block that holds just these numbers. -/
def RowI (W : World) (g : Nat) (xs : List Int) : Prop := Box W g 3 (xs.map (Value.int .i64)).toArray
section
variable {W : World} {g : Nat} {xs : List Int}
theorem RowI.cell (h : RowI W g xs) {k : Nat} (hk : k < xs.length) : W.cell? ⟨g, k, none⟩ = some (.int .i64 (nth xs k)) :=
  Box.cell h (by rw [List.getElem?_toArray, List.getElem?_map, List.getElem?_eq_getElem hk, nth_get _ hk]; rfl)
theorem RowI.free (h : RowI W g xs) (i : Nat) : W.frozen? ⟨g, i, none⟩ = false := Box.free h i
theorem RowI.lt (h : RowI W g xs) : Lt g W := Box.lt h
theorem RowI.set (h : RowI W g xs) (k : Nat) (v : Int) : RowI (W.setCell ⟨g, k, none⟩ (.int .i64 v)) g (xs.set k v) := by
  have := Box.set h k (.int .i64 v)
  unfold RowI
  rwa [List.map_set, ← List.setIfInBounds_toArray]
theorem RowI.alloc (h : RowI W g xs) (o : Obj) : RowI (W.alloc o) g xs := Box.alloc h o
theorem RowI.lat (h : RowI W g xs) (δ : World) : RowI (lat W δ) g xs := Box.lat h δ
theorem RowI.drew (h : RowI W g xs) : RowI W.drew g xs := h
theorem RowI.far (h : RowI W g xs) {p : Addr} (hp : g ≠ p.block) (u : Value) : RowI (W.setCell p u) g xs := Box.far h hp u
theorem RowI.sl (h : RowI W g xs) (hl : xs.length ≤ 1000) : Sl encI W.heap.size W (some ⟨g, 0, none⟩) xs.length xs := by
  refine ⟨Nat.le_refl _, by omega, fun _ => ⟨g, 0, rfl, h.lt.out, fun j v hj => ?_⟩⟩
  have hlen := len_encI xs
  have hj' : j < xs.length := by have := (List.getElem?_eq_some_iff.1 hj).1; omega
  have := flatMap_nth encI 1 (fun _ => rfl) xs j 0 hj' (by omega)
  rw [Nat.mul_one, Nat.add_zero] at this
  rw [this] at hj
  simp only [encI] at hj
  simp at hj
  subst hj
  rw [Nat.zero_add]
  exact h.cell hj'
end

/-- What the loop over an order keeps. -/
def TimI (n : Net) (r : NetR) (w : World) (T : TypeId) (gF gO bp : Nat) (l : List Int) (k : Nat) (wr : World) : Prop :=
  RowI wr gF (run n (l.take k)).1 ∧ RowI wr gO (run n (l.take k)).2 ∧ Box wr bp T #[.int .i64 n.m, .slice r.hA n.hs.length r.hc, .slice r.pA n.ps.length r.pc] ∧ Grew w.heap.size w wr ∧ Le w.heap.size wr

def TimCut (n : Net) (r : NetR) (w : World) (m : Nat) (T : TypeId) (l : List Int) (s5 s6 : Value) (wx : World) : Prop :=
  ∃ gF gO, s5 = .slice (some ⟨gF, 0, none⟩) m m ∧ s6 = .slice (some ⟨gO, 0, none⟩) n.hs.length n.hs.length ∧ gF ≠ gO ∧ w.heap.size < gF ∧ w.heap.size < gO ∧ TimI n r w T gF gO w.heap.size l 0 wx
theorem newCells_row (k : Nat) : newCells (.int .i64 0) 1 k = ((List.replicate k (0 : Int)).map (Value.int .i64)).toArray := by
  rw [newCells_int k undef, List.map_replicate, List.toArray_replicate]
theorem tim_start {n : Net} {r : NetR} {w wx : World} {m gF gO bp : Nat} {T : TypeId} {l : List Int} (hm : n.m = (m : Int)) (h1 : Box wx gF 3 (newCells (.int .i64 0) 1 m)) (h2 : Box wx gO 3 (newCells (.int .i64 0) 1 n.hs.length))
    (h3 : Box wx bp T #[.int .i64 (m : Int), .slice r.hA n.hs.length r.hc, .slice r.pA n.ps.length r.pc]) (g1 : Grew w.heap.size w wx) (g2 : Le w.heap.size wx) : TimI n r w T gF gO bp l 0 wx := by
  refine ⟨?_, ?_, by rw [hm]; exact h3, g1, g2⟩
  · rw [newCells_row] at h1
    unfold RowI
    have : (run n (l.take 0)).1 = List.replicate m 0 := by show List.replicate n.m.toNat 0 = _; rw [hm]; rfl
    rw [this]; exact h1
  · rw [newCells_row] at h2
    exact h2

set_option maxRecDepth 100000 in
set_option maxHeartbeats 4000000 in
theorem times_c (r : NetR) (n : Net) (A : Option Addr) (c : Nat) (l : List Int) (B : Nat) (w : World) [hB : Le B w] (hS : Sl encI B w A c l) (hN : NetIs B w r n) (hm : 1 ≤ n.m ∧ n.m ≤ 3) (h6 : n.hs.length ≤ 6) (h8 : n.ps.length ≤ 8) (hv : okHoles n.hs = true) (hpv : okPrs n.hs.length n.ps = true)
    (hl : holesL n l) (hl6 : l.length ≤ 6) :
    Calls Try.prog 78 #[netV r n, .slice A l.length c] w fun e w' => ∃ (A' : Option Addr) (c' : Nat) (δ : World), e = .returned (.slice A' (times n l).length c') ∧ w' = lat w δ ∧ Sl encI (lat w δ).heap.size (lat w δ) A' c' (times n l) ∧ (∀ p, A' = some p → w.heap.size ≤ p.block) := by
  obtain ⟨m, hmm⟩ : ∃ m : Nat, n.m = m := ⟨n.m.toNat, by omega⟩
  have hm3 : m ≤ 3 := by omega
  have hm1 : 1 ≤ m := by omega
  have HM := Lib.hid hmm
  have eV : netV r n = Value.agg #[.int .i64 (m : Int), .slice r.hA n.hs.length r.hc, .slice r.pA n.ps.length r.pc] := by unfold netV; rw [hmm]
  rw [eV]
  have hmk := run_mk slI m (by omega) (by omega)
  have hmk2 := run_mk slI n.hs.length (by omega) (by omega)
  have HS := Lib.hid hS
  have HN := Lib.hid hN
  have HV := Lib.hid hv
  have HPV := Lib.hid hpv
  have HL := Lib.hid hl
  have hlc := hS.1
  clear hS hN hm hv hpv hl hmm eV
  go_enter Try.func78, Try.ntmps78
  go_wp2_with (fail)
  go_cut [5, 6] (fun s5 s6 wx => TimCut n r w m 71 l s5 s6 wx)
  case first =>
    go_region
    all_goals
      go_wp2_with (fail)
      go_meet
      first
        | exact ⟨w.heap.size + 1, w.heap.size + 1 + 1, rfl, rfl, by omega, by omega, by omega, tim_start HM.out ((Box.new (by simp)).alloc _) (Box.new (by simp)) (((Box.new rfl).alloc _).alloc _) inferInstance inferInstance⟩
        | exact ⟨w.heap.size + 1 + 1, w.heap.size + 1, rfl, rfl, by omega, by omega, by omega, tim_start HM.out (Box.new (by simp)) ((Box.new (by simp)).alloc _) (((Box.new rfl).alloc _).alloc _) inferInstance inferInstance⟩
  case rest =>
    obtain ⟨gF, gO, rfl, rfl, hne, hg1, hg2, hI⟩ := hcut
    have HNE := Lib.hid (And.intro hne (And.intro hg1 hg2))
    have HI := Lib.hid hI
    clear hI
    go_wp2_with (fail)
    go_loopg [26] l.length (fun g i wr => ∃ k : Nat, k ≤ l.length ∧ g = l.length - k ∧ i = .int .i64 k ∧ TimI n r w 71 gF gO w.heap.size l k wr)
    case atStart => exact ⟨0, Nat.zero_le _, rfl, rfl, HI.out⟩
    case round =>
      clear HI
      obtain ⟨k, hk, rfl, rfl, hF, hO, hP, g1, g2⟩ := hrel
      have p1 := hP.cell (i := 1) rfl
      have p2 := hP.cell (i := 2) rfl
      have ip := hP.lt
      have iF := hF.lt
      have iO := hO.lt
      by_cases hlt : k < l.length
      · obtain ⟨b, o, rfl, hb, hc⟩ := HS.out.int hlt
        have hbw : b < w.heap.size := Nat.lt_of_lt_of_le hb hB.out
        have hcr := (cells_same g1.out b _ hbw).trans hc
        have ib : Lt b wr := ⟨Nat.lt_of_lt_of_le hbw g2.out⟩
        have hx := HL.out (nth l k) (nth_mem l hlt)
        obtain ⟨x, hh⟩ : ∃ x : Nat, nth l k = x := ⟨(nth l k).toNat, by have := hx.1; omega⟩
        rw [hh] at hcr
        have hnl : x < n.hs.length := by have := hx.2; omega
        obtain ⟨bh, oh, hAh, hbh, d0, d1, d2, d3⟩ := HN.out.1.hole hnl
        have hbhw : bh < w.heap.size := Nat.lt_of_lt_of_le hbh hB.out
        have e0 := (cells_same g1.out bh _ hbhw).trans d0
        have e3 := (cells_same g1.out bh _ hbhw).trans d3
        have ibh : Lt bh wr := ⟨Nat.lt_of_lt_of_le hbhw g2.out⟩
        obtain ⟨rhA, rhc, rpA, rpc⟩ := r
        have hAh : rhA = some ⟨bh, oh, none⟩ := hAh
        subst hAh
        have hki : (k : Int) < (l.length : Int) := by omega
        have hk0 : ¬ (k : Int) < 0 := by omega
        have hxi : (x : Int) < (n.hs.length : Int) := by omega
        have hx0 : ¬ (x : Int) < 0 := by omega
        obtain ⟨lF, lO⟩ := run_lens n (l.take k)
        obtain ⟨bF, bO⟩ := run_bd HV.out (l.take k) (fun y hy => HL.out y (List.mem_of_mem_take hy))
        have hT : (l.take k).length ≤ 6 := by rw [List.length_take]; omega
        have hmd := mendAt_bd HV.out (show isHole n (nth l k) from hx) bF bO (by omega)
        have hrun := run_snoc n (l.take k) (nth l k)
        rw [← take_snoc l hlt, hh] at hrun
        rw [hh] at hmd
        obtain ⟨F, O, hs⟩ : ∃ F O, run n (l.take k) = (F, O) := ⟨_, _, rfl⟩
        rw [hs] at hF hO lF lO bF bO hmd hrun
        have lF : F.length = m := by have := HM.out; simp only at lF; omega
        have lO : O.length = n.hs.length := lO
        have bF : allLe 80 F := allLe_mono bF (by omega)
        have bO : allLe 80 O := allLe_mono bO (by omega)
        have HMD := Lib.hid hmd
        have HRUN := Lib.hid hrun
        have HH := Lib.hid hh
        have HF : Hid (RowI wr gF F) := hF
        have HO : Hid (RowI wr gO O) := hO
        have HPB := Lib.hid hP
        have LF := Lib.hid lF
        have LO := Lib.hid lO
        have BF := Lib.hid bF
        have BO := Lib.hid bO
        have HK := Lib.hid (And.intro hk hlt)
        clear hmd hrun hh hF hO hP hs lF lO bF bO hx hk hlt hc d0 d1 d2 d3
        go_wp2_with (fail)
        go_loopg [9, 32] m (fun g s9 s32 wr' => ∃ j : Nat, j ≤ m ∧ g = m - j ∧ s32 = .int .i64 j ∧ s9 = .int .i64 (ownK F j) ∧ wr' = wr)
        case atStart => exact ⟨0, Nat.zero_le _, rfl, rfl, rfl, rfl⟩
        case round =>
          obtain ⟨j, hj, rfl, rfl, rfl, rfl⟩ := hrel
          have hown : ownK F j < m := by
            rcases Nat.eq_zero_or_pos j with rfl | hj0
            · show 0 < m; omega
            · have := ownK_lt (free := F) hj0; omega
          by_cases hlt : j < m
          · have f1 := HF.out.cell (k := j) (by rw [LF.out]; exact hlt)
            have f2 := HF.out.cell (k := ownK F j) (by rw [LF.out]; exact hown)
            have hji : (j : Int) < (m : Int) := by omega
            have hj0 : ¬ (j : Int) < 0 := by omega
            have hoi : (ownK F j : Int) < (m : Int) := by omega
            have ho0 : ¬ (ownK F j : Int) < 0 := by omega
            by_cases hc : nth F j < nth F (ownK F j)
            · have HE := Lib.hid (show ownK F (j + 1) = j by unfold ownK; rw [if_pos hc])
              go_wp2_with (fail)
              go_roundg (m - (j + 1))
              case measure => omega
              case rel => exact ⟨j + 1, hlt, rfl, by go_num, by rw [HE.out], rfl⟩
            · have HE := Lib.hid (show ownK F (j + 1) = ownK F j by rw [ownK, if_neg hc])
              go_wp2_with (fail)
              go_roundg (m - (j + 1))
              case measure => omega
              case rel => exact ⟨j + 1, hlt, rfl, by go_num, by rw [HE.out], rfl⟩
          · obtain rfl : j = m := by omega
            have HOW := Lib.hid (show own F = ownK F j by unfold own; rw [LF.out])
            have f2 := HF.out.cell (k := ownK F j) (by rw [LF.out]; exact hown)
            have hoi : (ownK F j : Int) < (j : Int) := by omega
            have ho0 : ¬ (ownK F j : Int) < 0 := by omega
            obtain ⟨q, hq⟩ : ∃ q, ownK F j = q := ⟨_, rfl⟩
            rw [hq] at f2 hoi ho0 HOW
            have hqj : q < j := by rw [← hq]; exact hown
            clear hown
            rw [hq]
            clear hq
            go_wp2_with (fail)
            go_region
            obtain ⟨b0, hb0⟩ : ∃ b0, (if nth F q < (nth n.hs x).fr then (nth n.hs x).fr else nth F q) = b0 := ⟨_, rfl⟩
            rw [hb0]
            have HB0 := Lib.hid (show max (nth F (own F)) (nth n.hs x).fr = b0 by rw [HOW.out, ← hb0]; split <;> omega)
            clear hb0
            go_wp2_with (fail)
            go_loopg [12, 61] n.ps.length (fun g s12 s61 wr' => ∃ (i : Nat) (δ : World), i ≤ n.ps.length ∧ g = n.ps.length - i ∧ s61 = .int .i64 i ∧ s12 = .int .i64 (begK n.ps O x b0 i) ∧ wr' = lat wr δ)
            case atStart => exact ⟨0, wr.drew, Nat.zero_le _, rfl, rfl, rfl, drew_lat wr⟩
            case round =>
              obtain ⟨i, δ, hi, rfl, rfl, rfl, rfl⟩ := hrel
              by_cases hlt : i < n.ps.length
              · obtain ⟨bp, op, hAp, hbp, c0, c1⟩ := HN.out.2.pr hlt
                have hbpw : bp < w.heap.size := Nat.lt_of_lt_of_le hbp hB.out
                have k0 := (cells_same g1.out bp _ hbpw).trans c0
                have k1 := (cells_same g1.out bp _ hbpw).trans c1
                have ibp : Lt bp wr := ⟨Nat.lt_of_lt_of_le hbpw g2.out⟩
                have hAp : rpA = some ⟨bp, op, none⟩ := hAp
                subst hAp
                have hok := okPr_iff.1 (okPrs_at HPV.out hlt)
                obtain ⟨a, ha⟩ : ∃ a : Nat, (nth n.ps i).a = a := ⟨(nth n.ps i).a.toNat, by omega⟩
                rw [ha] at k0
                have hal : a < n.hs.length := by omega
                have z0 := HO.out.cell (k := a) (by rw [LO.out]; exact hal)
                have hai : (a : Int) < (n.hs.length : Int) := by omega
                have ha0 : ¬ (a : Int) < 0 := by omega
                have hii : (i : Int) < (n.ps.length : Int) := by omega
                have hi0 : ¬ (i : Int) < 0 := by omega
                by_cases hbx : (nth n.ps i).b = x
                · have hbx' : ((nth n.ps i).b == (x : Int)) = true := by simpa using hbx
                  by_cases hmx : begK n.ps O x b0 i < nth O a
                  · have HE := Lib.hid (show begK n.ps O x b0 (i + 1) = nth O a by
                      rw [begK, if_pos hbx, ha]; simp only [Int.toNat_natCast]; omega)
                    have HLT := Lib.hid hlt
                    clear hbx hok ha c0 c1 hlt
                    go_wp2_with (fail)
                    go_roundg (n.ps.length - (i + 1))
                    case measure => have := HLT.out; omega
                    case rel => exact ⟨i + 1, _, HLT.out, rfl, by go_num, by rw [HE.out], lat_def⟩
                  · have HE := Lib.hid (show begK n.ps O x b0 (i + 1) = begK n.ps O x b0 i by
                      rw [begK, if_pos hbx, ha]; simp only [Int.toNat_natCast]; omega)
                    have HLT := Lib.hid hlt
                    clear hbx hok ha c0 c1 hlt
                    go_wp2_with (fail)
                    go_roundg (n.ps.length - (i + 1))
                    case measure => have := HLT.out; omega
                    case rel => exact ⟨i + 1, _, HLT.out, rfl, by go_num, by rw [HE.out], lat_def⟩
                · have hbx' : ((nth n.ps i).b == (x : Int)) = false := by simpa using hbx
                  have HE := Lib.hid (show begK n.ps O x b0 (i + 1) = begK n.ps O x b0 i by rw [begK, if_neg hbx])
                  have HLT := Lib.hid hlt
                  clear hbx hok ha c0 c1 hlt
                  go_wp2_with (fail)
                  go_roundg (n.ps.length - (i + 1))
                  case measure => have := HLT.out; omega
                  case rel => exact ⟨i + 1, _, HLT.out, rfl, by go_num, by rw [HE.out], lat_def⟩
              · obtain rfl : i = n.ps.length := by omega
                have hm1 := HMD.out
                have hh := okHole_iff.1 (okHoles_at HV.out hnl)
                unfold mendAt at hm1
                simp only [Int.toNat_natCast, HB0.out] at hm1
                obtain ⟨be, hbe⟩ : ∃ be, begK n.ps O x b0 n.ps.length = be := ⟨_, rfl⟩
                rw [hbe] at hm1
                rw [hbe]
                have HBE := Lib.hid (show mendAt n (F, O) x = be + (nth n.hs x).hr by unfold mendAt; simp only [Int.toNat_natCast, HB0.out, hbe])
                have y1 : 0 ≤ be := by omega
                have y2 : be ≤ 100 := by have := HK.out; omega
                have y3 : 0 ≤ (nth n.hs x).hr := by omega
                have y4 : (nth n.hs x).hr ≤ 9 := by omega
                have z0 := HO.out.cell (k := x) (by rw [LO.out]; exact hnl)
                have zf := HO.out.free x
                have zg := HF.out.free q
                have n1 : NeN gO gF := ⟨by have := HNE.out; omega⟩
                have n2 : NeN gF gO := ⟨by have := HNE.out; omega⟩
                have n3 : NeN gO w.heap.size := ⟨by have := HNE.out; omega⟩
                have n4 : LeN w.heap.size gO := ⟨by have := HNE.out; omega⟩
                have n5 : LeN w.heap.size gF := ⟨by have := HNE.out; omega⟩
                clear hbe hm1 hh
                go_upto_region 20 with fail
                refine wp_name fun W3 hW3 => ?_
                have o3 : RowI W3 gO (O.set x (be + (nth n.hs x).hr)) := by rw [hW3.out]; exact (HO.out.lat _).set _ _
                have f3 : RowI W3 gF F := by rw [hW3.out]; exact (HF.out.lat _).far (by have := HNE.out; exact fun e => this.1 e) _
                have b3 : Box W3 w.heap.size 71 #[.int .i64 n.m, .slice (some ⟨bh, oh, none⟩) n.hs.length rhc, .slice rpA n.ps.length rpc] := by rw [hW3.out]; exact (HPB.out.lat _).far (by have := HNE.out; show w.heap.size ≠ gO; omega) _
                have g3 : Grew w.heap.size w W3 := by rw [hW3.out]; infer_instance
                have g4 : Le w.heap.size W3 := by rw [hW3.out]; infer_instance
                have x1 := o3.cell (k := x) (by rw [List.length_set, LO.out]; exact hnl)
                rw [nth_set_same _ (by rw [LO.out]; exact hnl)] at x1
                have x2 := f3.cell (k := q) (by rw [LF.out]; exact hqj)
                have x3 := f3.free q
                have x4 := f3.lt
                have O3 := Lib.hid o3
                have F3 := Lib.hid f3
                have B3 := Lib.hid b3
                clear hW3 o3 f3 b3
                go_wp2_with (fail)
                go_roundg (l.length - (k + 1))
                case measure => have := HK.out; omega
                case rel =>
                  refine ⟨k + 1, HK.out.2, rfl, by go_num, ?_, ?_, B3.out.far (by have := HNE.out; show w.heap.size ≠ gF; omega) _, inferInstance, inferInstance⟩
                  · rw [HRUN.out]
                    show RowI _ gF (F.set (own F) (mendAt n (F, O) x))
                    rw [HOW.out, HBE.out]
                    exact F3.out.set _ _
                  · rw [HRUN.out]
                    show RowI _ gO (O.set (x : Int).toNat (mendAt n (F, O) x))
                    rw [HBE.out, Int.toNat_natCast]
                    exact O3.out.far (by have := HNE.out; exact fun e => this.1 e.symm) _
      · obtain rfl : k = l.length := by omega
        have hlen := times_len n l
        have hsl := hO.sl (by rw [(run_lens n _).2]; omega)
        rw [List.take_length] at hsl
        have hsl : Sl encI wr.heap.size wr (some ⟨gO, 0, none⟩) (times n l).length (times n l) := hsl
        rw [hlen] at hsl
        have HSL := Lib.hid hsl
        have HLEN := Lib.hid hlen
        clear hsl hlen hF hO hP
        go_wp2_with (fail)
        go_ret
        refine ⟨some ⟨gO, 0, none⟩, n.hs.length, wr, by rw [HLEN.out]; rfl, lat_def, ?_, fun p hp => by cases hp; have := HNE.out; show w.heap.size ≤ gO; omega⟩
        rw [← lat_def (w := w) (W := wr)]
        exact HSL.out

end Go.Proofs.Ytbfehifidlojlaa
