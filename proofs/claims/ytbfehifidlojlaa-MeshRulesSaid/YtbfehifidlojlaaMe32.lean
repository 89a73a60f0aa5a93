/- Layer 4: MeshRules: the net that is made of one mender, without pairs, all holes torn at the hour 0. -/
import Derived.Test.YtbfehifidlojlaaMe20
namespace Go.Proofs.Ytbfehifidlojlaa
open Go.RowKit
open Me

namespace Me
def fr0 (h : Hole) : Hole := ⟨0, h.lo, h.hi, h.hr⟩
def rulN (n : Net) : Net := ⟨1, n.hs.map fr0, []⟩
def frK (hs : List Hole) (k : Nat) : List Hole := (hs.take k).map fr0 ++ hs.drop k
def hrIf (x : Int) : Int := if inB 1 9 x = true then x else 0
def hoursK (hs : List Hole) : Nat → Int
  | 0 => 0
  | k + 1 => hoursK hs k + hrIf (nth hs k).hr
theorem rulN_len {n : Net} : (rulN n).hs.length = n.hs.length := by simp [rulN]
theorem frK_zero {hs : List Hole} : frK hs 0 = hs := by simp [frK]
theorem frK_all {hs : List Hole} : frK hs hs.length = hs.map fr0 := by simp [frK]
theorem frK_len {hs : List Hole} {k : Nat} : (frK hs k).length = hs.length := by simp [frK]; omega
theorem frK_nth {hs : List Hole} {k : Nat} (hk : k < hs.length) : nth (frK hs k) k = nth hs k := by
  unfold frK nth List.getD
  rw [List.getElem?_append_right (by rw [List.length_map, List.length_take]; omega), List.getElem?_drop]
  simp [Nat.min_eq_left (Nat.le_of_lt hk)]
theorem frK_succ {hs : List Hole} {k : Nat} (hk : k < hs.length) : (frK hs k).set k (fr0 (nth hs k)) = frK hs (k + 1) := by
  unfold frK
  have hd : hs.drop k = nth hs k :: hs.drop (k + 1) := by
    rw [List.drop_eq_getElem_cons hk]
    congr 1
    simp [nth, hk]
  rw [take_snoc hs hk, List.map_append, hd, List.set_append_right _ _ (by simp; omega)]
  simp [Nat.min_eq_left (Nat.le_of_lt hk)]
theorem hoursK_bd (hs : List Hole) (k : Nat) : 0 ≤ hoursK hs k ∧ hoursK hs k ≤ 9 * k := by
  induction k with
  | zero => exact ⟨Int.le_refl _, by simp [hoursK]⟩
  | succ k ih =>
    unfold hoursK hrIf
    split
    · rename_i h; have := inB_iff.1 h; omega
    · omega
theorem nth_map {α β : Type} [Inhabited α] [Inhabited β] (f : α → β) {xs : List α} {k : Nat} (hk : k < xs.length) : nth (xs.map f) k = f (nth xs k) := by
  simp [nth, hk]
theorem rulN_tot {n : Net} (hv : okHoles (rulN n).hs = true) (k : Nat) (hk : k ≤ n.hs.length) : tot (rulN n) (nums k) = hoursK n.hs k := by
  induction k with
  | zero => rfl
  | succ k ih =>
    have h := okHole_iff.1 (okHoles_at hv (k := k) (by rw [rulN_len]; omega))
    have e : nth (rulN n).hs k = fr0 (nth n.hs k) := nth_map fr0 hk
    rw [e] at h
    simp only [fr0] at h
    rw [nums_succ, tot_append, ih (by omega)]
    have h2 : inB 1 9 (nth n.hs k).hr = true := inB_iff.2 (by omega)
    show _ = hoursK n.hs k + hrIf (nth n.hs k).hr
    unfold hrIf
    rw [if_pos h2]
    simp [tot, e, fr0]
theorem rulN_plain {n : Net} (hv : okHoles (rulN n).hs = true) : Plain (rulN n) :=
  ⟨rfl, rfl, fun h hh => by simp [rulN] at hh; obtain ⟨x, _, rfl⟩ := hh; rfl, hv⟩
theorem rulN_over {n : Net} (hv : valid (rulN n) = true) : overN (rulN n) = 0 ∧ doneN (rulN n) = hoursK n.hs n.hs.length := by
  obtain ⟨_, _, _, h4, _, h6⟩ := valid_iff.1 hv
  have := (rulN_plain h4).over h6
  refine ⟨this.1, ?_⟩
  rw [this.2, rulN_len, rulN_tot h4 _ (Nat.le_refl _)]
end Me

theorem hole_fr0 (hs : List Hole) {k : Nat} (hk : k < hs.length) :
    ((((((frK hs k).flatMap encHole).set (k * 4) (.int .i64 0)).set (k * 4 + 1) (.int .i64 (nth hs k).lo)).set (k * 4 + 2) (.int .i64 (nth hs k).hi)).set (k * 4 + 3) (.int .i64 (nth hs k).hr)) = (frK hs (k + 1)).flatMap encHole := by
  have hk' : k < (frK hs k).length := by rw [frK_len]; exact hk
  have hn := frK_nth hk
  have e0 := flatMap_set encHole 4 (fun _ => rfl) (frK hs k) k 0 (.int .i64 0) (fr0 (nth hs k)) hk' (by omega) (by rw [hn]; rfl)
  rw [Nat.add_zero] at e0
  rw [frK_succ hk] at e0
  have hk2 : k < (frK hs (k + 1)).length := by rw [frK_len]; exact hk
  have n0 : nth (frK hs (k + 1)) k = fr0 (nth hs k) := by rw [← frK_succ hk]; exact nth_set_same _ hk' _
  have st : ∀ y, y = fr0 (nth hs k) → (frK hs (k + 1)).set k y = frK hs (k + 1) := fun y hy => by rw [hy, ← frK_succ hk, List.set_set]
  have e1 := flatMap_set encHole 4 (fun _ => rfl) (frK hs (k + 1)) k 1 (.int .i64 (nth hs k).lo) (fr0 (nth hs k)) hk2 (by omega) (by rw [n0]; rfl)
  have e2 := flatMap_set encHole 4 (fun _ => rfl) (frK hs (k + 1)) k 2 (.int .i64 (nth hs k).hi) (fr0 (nth hs k)) hk2 (by omega) (by rw [n0]; rfl)
  have e3 := flatMap_set encHole 4 (fun _ => rfl) (frK hs (k + 1)) k 3 (.int .i64 (nth hs k).hr) (fr0 (nth hs k)) hk2 (by omega) (by rw [n0]; rfl)
  rw [st _ rfl] at e1 e2 e3
  rw [e0, e1, e2, e3]

theorem within_is (n low high : Int) (b : Bool) (hb : inB low high n = b) (w : World) :
    Calls Try.prog 28 #[.int .i64 n, .int .i64 low, .int .i64 high] w fun e w' => e = .returned (.bool b) ∧ w = w' := by subst hb; exact within_c n low high w
theorem lReady5_is (r : NetR) (n : Net) (b : Bool) (hb : readyL n 5 = b) (B : Nat) (w : World) (hN : NetIs B w r n) [hB : Le B w] :
    Calls Try.prog 14 #[netV r n, .int .i64 5] w fun e w' => e = .returned (.bool b) ∧ ∃ δ, w' = lat w δ := lReady_c r n 5 (by omega) b hb B w hN

set_option maxRecDepth 100000 in
set_option maxHeartbeats 4000000 in
theorem rulesHuge_c (r : NetR) (n : Net) (B : Nat) (w : World) [hB : Le B w] (hN : NetIs B w r n) (hg : hugeB n 0 = true) :
    Calls Try.prog 8 #[netV r n] w fun e w' => e = .returned (.bool true) ∧ ∃ δ, w' = lat w δ := by
  have HN := Lib.hid hN
  have HG := Lib.hid hg
  clear hN hg
  go_enter Try.func8, Try.ntmps8
  go_wp2_with (first
    | (go_at_call 31; refine (huge_c r n none 0 0 _ HG.out (by omega) B _ HN.out.up).mono ?_; rintro e w1 ⟨rfl, δ, rfl⟩)
    | (go_at_call 16; refine (works_c _).mono ?_; rintro e w1 ⟨rfl, δ2, rfl⟩))
  go_ret
  exact ⟨rfl, lat_ex⟩

set_option maxRecDepth 100000 in
set_option maxHeartbeats 8000000 in
theorem rulesGo_c (r : NetR) (n : Net) (B : Nat) (w : World) [hB : Le B w] (hN : NetIs B w r n) (hg : hugeB n 0 = false) :
    Calls Try.prog 8 #[netV r n] w fun e w' => e = .returned (.bool true) ∧ ∃ δ, w' = lat w δ := by
  have hh : n.hs.length ≤ 40 ∧ n.ps.length ≤ 40 := by simp [hugeB] at hg; omega
  have HN := Lib.hid hN
  have HG := Lib.hid hg
  have HH := Lib.hid hh
  clear hN hg hh
  go_enter Try.func8, Try.ntmps8
  go_upto_region 3 with (go_at_call 31; refine (huge_c r n none 0 0 _ HG.out (by omega) B _ HN.out.up).mono ?_; rintro e w1 ⟨rfl, δ, rfl⟩)
  refine wp_name fun W1 hW1 => ?_
  have iw1 : Le B W1 := by rw [hW1.out]; infer_instance
  have iw2 : Grew B w W1 := by rw [hW1.out]; infer_instance
  have iw3 : Le w.heap.size W1 := by rw [hW1.out]; infer_instance
  have iw4 : Grew w.heap.size w W1 := by rw [hW1.out]; infer_instance
  have iw5 : Lt (w.heap.size) W1 := by rw [hW1.out]; infer_instance
  have cw6 : W1.cell? ⟨w.heap.size, 0, none⟩ = some (.int .i64 n.m) := by rw [hW1.out]; go_simp
  have cw7 : W1.cell? ⟨w.heap.size, 1, none⟩ = some (.slice r.hA n.hs.length r.hc) := by rw [hW1.out]; go_simp
  have cw8 : W1.cell? ⟨w.heap.size, 2, none⟩ = some (.slice r.pA n.ps.length r.pc) := by rw [hW1.out]; go_simp
  have N1 := Lib.hid (HN.out.up : NetIs B W1 r n)
  clear hW1
  go_wp2_with (fail)
  refine (copy_c r n B _ N1.out.up (by have := HH.out; omega) (by have := HH.out; omega)).mono ?_
  rintro e w1 ⟨⟨gA, gc, qA, qc⟩, δ1, rfl, rfl, ho⟩
  obtain ⟨W2, hW2⟩ : ∃ W2, Hid (W2 = lat W1 δ1) := ⟨_, rfl⟩
  rw [← hW2.out] at ho ⊢
  have g1 : Grew W1.heap.size W1 W2 := by rw [hW2.out]; infer_instance
  have g2 : Le W1.heap.size W2 := by rw [hW2.out]; infer_instance
  have HGB := Lib.hid (own_block ho.1)
  have HO := Lib.hid ho.1
  clear ho hW2
  rw [show netV ⟨gA, gc, qA, qc⟩ n = Value.agg #[.int .i64 n.m, .slice gA n.hs.length gc, .slice qA n.ps.length qc] from rfl]
  go_upto_region 6 with fail
  refine wp_name fun W3 hW3 => ?_
  have HB3 : Hid (Box W3 W2.heap.size 25 #[.int .i64 1, .slice gA n.hs.length gc, .slice none 0 0]) := by rw [hW3.out]; exact Box.new rfl
  have HO3 : Hid (W3.ownsRow W1.heap.size 33 4 (.slice gA n.hs.length gc) n.hs.length (n.hs.flatMap encHole)) := by rw [hW3.out]; exact HO.out.alloc _
  have g3 : Grew W1.heap.size W1 W3 := by rw [hW3.out]; infer_instance
  have g4 : Le W1.heap.size W3 := by rw [hW3.out]; infer_instance
  clear hW3 HO
  go_wp2_with (fail)
  go_loopg [4, 5] n.hs.length (fun g s4 s5 wr => ∃ k : Nat, k ≤ n.hs.length ∧ g = n.hs.length - k ∧ s5 = .int .i64 k ∧ s4 = .int .i64 (hoursK n.hs k) ∧ wr.ownsRow W1.heap.size 33 4 (.slice gA n.hs.length gc) n.hs.length ((frK n.hs k).flatMap encHole) ∧
    Box wr W2.heap.size 25 #[.int .i64 1, .slice gA n.hs.length gc, .slice none 0 0] ∧ Grew W1.heap.size W1 wr ∧ Le W1.heap.size wr)
  case atStart => exact ⟨0, Nat.zero_le _, rfl, rfl, rfl, by rw [frK_zero]; exact HO3.out, HB3.out, g3, g4⟩
  case round =>
    obtain ⟨k, hk, rfl, rfl, rfl, hown, hbx, i1, i2⟩ := hrel
    have q0 := hbx.cell (i := 0) rfl
    have q1 := hbx.cell (i := 1) rfl
    have q2 := hbx.cell (i := 2) rfl
    have ibx := hbx.lt
    have HBX := Lib.hid hbx
    by_cases hlt : k < n.hs.length
    · obtain ⟨g, rfl, hb, hl', hc, hf⟩ := own_at hown (by omega)
      have hgb := HGB.out g rfl
      have hlk : k < (frK n.hs k).length := by rw [frK_len]; exact hlt
      have hnk := frK_nth hlt
      have e0 := hc (k * 4) (.int .i64 (nth n.hs k).fr) (by have := flatMap_nth encHole 4 (fun _ => rfl) (frK n.hs k) k 0 hlk (by omega); rw [Nat.add_zero] at this; rw [this, hnk]; rfl)
      have e1 := hc (k * 4 + 1) (.int .i64 (nth n.hs k).lo) (by have := flatMap_nth encHole 4 (fun _ => rfl) (frK n.hs k) k 1 hlk (by omega); rw [this, hnk]; rfl)
      have e2 := hc (k * 4 + 2) (.int .i64 (nth n.hs k).hi) (by have := flatMap_nth encHole 4 (fun _ => rfl) (frK n.hs k) k 2 hlk (by omega); rw [this, hnk]; rfl)
      have e3 := hc (k * 4 + 3) (.int .i64 (nth n.hs k).hr) (by have := flatMap_nth encHole 4 (fun _ => rfl) (frK n.hs k) k 3 hlk (by omega); rw [this, hnk]; rfl)
      have f0 := hf (k * 4)
      have f1 := hf (k * 4 + 1)
      have f2 := hf (k * 4 + 2)
      have f3 := hf (k * 4 + 3)
      have n1 : NeN W2.heap.size g := ⟨by omega⟩
      have n2 : NeN g W2.heap.size := ⟨by omega⟩
      have n3 : LeN W1.heap.size g := ⟨by omega⟩
      have hki : (k : Int) < (n.hs.length : Int) := by omega
      have hk0 : ¬ (k : Int) < 0 := by omega
      have HLT := Lib.hid hlt
      have HOW := Lib.hid hown
      have hbd := hoursK_bd n.hs k
      have h40 : n.hs.length ≤ 40 := HH.out.1
      clear hlt hc hf hlk hnk hgb hown hbx hb
      go_upto_region 12 with fail
      refine wp_name fun W4 hW4 => ?_
      have e4 : W4.cell? ⟨wr.heap.size, 3, none⟩ = some (.int .i64 (nth n.hs k).hr) := by rw [hW4.out]; go_simp
      have ih : Lt wr.heap.size W4 := ⟨by rw [hW4.out]; go_simp⟩
      have hlen := len_enc encHole 4 (fun _ => rfl) (frK n.hs k)
      rw [frK_len] at hlen
      have o0 := own_set (u := .int .i64 0) (i := k * 4) HOW.out (by rw [hlen]; have := HLT.out; omega)
      have o1 := own_set (u := .int .i64 (nth n.hs k).lo) (i := k * 4 + 1) o0 (by rw [List.length_set, hlen]; have := HLT.out; omega)
      have o2 := own_set (u := .int .i64 (nth n.hs k).hi) (i := k * 4 + 2) o1 (by rw [List.length_set, List.length_set, hlen]; have := HLT.out; omega)
      have o3 := own_set (u := .int .i64 (nth n.hs k).hr) (i := k * 4 + 3) o2 (by rw [List.length_set, List.length_set, List.length_set, hlen]; have := HLT.out; omega)
      rw [hole_fr0 n.hs HLT.out] at o3
      have HO4 : Hid (W4.ownsRow W1.heap.size 33 4 (.slice (some ⟨g, 0, none⟩) n.hs.length gc) n.hs.length ((frK n.hs (k + 1)).flatMap encHole)) := by rw [hW4.out]; exact o3.alloc _
      have hne : W2.heap.size ≠ g := n1.out
      have HB4 : Hid (Box W4 W2.heap.size 25 #[.int .i64 1, .slice (some ⟨g, 0, none⟩) n.hs.length gc, .slice none 0 0]) := by
        rw [hW4.out]
        exact ((((HBX.out.far (p := ⟨g, k * 4, none⟩) hne _).far (p := ⟨g, k * 4 + 1, none⟩) hne _).far (p := ⟨g, k * 4 + 2, none⟩) hne _).far (p := ⟨g, k * 4 + 3, none⟩) hne _).alloc _
      have i3 : Grew W1.heap.size W1 W4 := by rw [hW4.out]; infer_instance
      have i4 : Le W1.heap.size W4 := by rw [hW4.out]; infer_instance
      clear hW4 o0 o1 o2 o3 hlen e0 e1 e2 e3 f0 f1 f2 f3 HOW HBX
      cases hin : inB 1 9 (nth n.hs k).hr with
      | true =>
        have HI := Lib.hid hin
        have hb9 := inB_iff.1 hin
        have HE := Lib.hid (show hoursK n.hs (k + 1) = hoursK n.hs k + (nth n.hs k).hr by show hoursK n.hs k + hrIf _ = _; unfold hrIf; rw [if_pos hin])
        clear hin
        go_wp2_with (go_at_call 28; refine (within_is _ _ _ _ HI.out _).mono ?_; rintro e w1 ⟨rfl, rfl⟩)
        go_roundg (n.hs.length - (k + 1))
        case measure => have := HLT.out; omega
        case rel =>
          exact ⟨k + 1, HLT.out, rfl, by go_num, by rw [HE.out], HO4.out, HB4.out, inferInstance, inferInstance⟩
      | false =>
        have HI := Lib.hid hin
        have HE := Lib.hid (show hoursK n.hs (k + 1) = hoursK n.hs k by show hoursK n.hs k + hrIf _ = _; unfold hrIf; rw [hin]; simp)
        clear hin
        go_wp2_with (go_at_call 28; refine (within_is _ _ _ _ HI.out _).mono ?_; rintro e w1 ⟨rfl, rfl⟩)
        go_roundg (n.hs.length - (k + 1))
        case measure => have := HLT.out; omega
        case rel =>
          exact ⟨k + 1, HLT.out, rfl, by go_num, by rw [HE.out], HO4.out, HB4.out, inferInstance, inferInstance⟩
    · obtain rfl : k = n.hs.length := by omega
      rw [frK_all] at hown
      have hO : NetOwn W1.heap.size wr ⟨gA, gc, none, 0⟩ (rulN n) := ⟨by rw [rulN_len]; exact hown, World.ownsRow_nil _ _ _ _⟩
      have HNN := Lib.hid hO.is
      have hv2 : netV ⟨gA, gc, none, 0⟩ (rulN n) = Value.agg #[.int .i64 1, .slice gA n.hs.length gc, .slice none 0 0] := by simp only [netV, rulN_len]; rfl
      have j1 : Grew w.heap.size w wr := grew_tr iw4 i1
      have j2 : Le w.heap.size wr := ⟨Nat.le_trans iw3.out i2.out⟩
      have hrd := fun b hb B w hN hB => lReady5_is ⟨gA, gc, none, 0⟩ (rulN n) b hb B w hN (hB := hB)
      rw [hv2] at hrd
      have HRD := Lib.hid hrd
      clear hown hO hbx hrd
      cases hr : readyL (rulN n) 5 with
      | false =>
        have HR := Lib.hid hr
        clear hr
        go_wp2_with (first
          | (go_at_call 14; refine (HRD.out _ HR.out _ _ HNN.out.up inferInstance).mono ?_; rintro e w1 ⟨rfl, δr, rfl⟩)
          | (go_at_call 16; refine (works_c _).mono ?_; rintro e w1 ⟨rfl, δw, rfl⟩))
        go_ret
        exact ⟨rfl, lat_ex⟩
      | true =>
        have HR := Lib.hid hr
        have hv := (readyL_iff.1 hr).2
        have ho := fun B w hN hB => overP_yes ⟨gA, gc, none, 0⟩ (rulN n) hv B w hN (hB := hB)
        have hd := fun B w hN hB => doneP_yes ⟨gA, gc, none, 0⟩ (rulN n) hv B w hN (hB := hB)
        rw [hv2, (rulN_over hv).1] at ho
        rw [hv2, (rulN_over hv).2] at hd
        have HO := Lib.hid ho
        have HD := Lib.hid hd
        clear hr hv ho hd hv2
        go_wp2_with (first
          | (go_at_call 14; refine (HRD.out _ HR.out _ _ HNN.out.up inferInstance).mono ?_; rintro e w1 ⟨rfl, δr, rfl⟩)
          | (go_at_call 42; refine (HO.out _ _ HNN.out.up inferInstance).mono ?_; rintro e w1 ⟨rfl, δo, rfl⟩)
          | (go_at_call 44; refine (HD.out _ _ HNN.out.up inferInstance).mono ?_; rintro e w1 ⟨rfl, δd, rfl⟩)
          | (go_at_call 16; refine (works_c _).mono ?_; rintro e w1 ⟨rfl, δw, rfl⟩))
        go_ret
        exact ⟨rfl, lat_ex⟩

theorem lawRules_c (r : NetR) (n : Net) (B : Nat) (w : World) [hB : Le B w] (hN : NetIs B w r n) :
    Calls Try.prog 8 #[netV r n] w fun e w' => e = .returned (.bool true) ∧ ∃ δ, w' = lat w δ := by
  cases hg : hugeB n 0 with
  | true => exact rulesHuge_c r n B w hN hg
  | false => exact rulesGo_c r n B w hN hg

end Go.Proofs.Ytbfehifidlojlaa
