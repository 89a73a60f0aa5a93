/- Layer 4: the reference's Orders. -/
import Derived.Test.YtbfehifidlojlaaMe17
namespace Go.Proofs.Ytbfehifidlojlaa
open Go.RowKit
open Me

theorem slLL : SlT Try.prog 79 30 (.slice none 0 0) 1 24 := SlT.mk Try.underlying79 (by kernel_rfl) rfl (by omega)
/-- What the first j numbers give of the orders that begin with f, m more to come behind the next. -/
def ordsK (n : Net) (m : Nat) (f : List Int) (j : Nat) : List (List Int) := (List.range j).flatMap fun (i : Nat) => if may n f (i : Int) = true then ords n m (f ++ [(i : Int)]) else []
theorem ordsK_succ {n : Net} {m : Nat} {f : List Int} {j : Nat} : ordsK n m f (j + 1) = ordsK n m f j ++ (if may n f (j : Int) = true then ords n m (f ++ [(j : Int)]) else []) := by simp [ordsK, List.range_succ]
theorem ords_len {n : Net} (h6 : n.hs.length ≤ 6) (k : Nat) (l : List Int) : (ords n k l).length ≤ 6 ^ k := by
  induction k generalizing l with
  | zero => simp [ords]
  | succ k ih =>
    have key : ∀ j, (ordsK n k l j).length ≤ j * 6 ^ k := by
      intro j
      induction j with
      | zero => simp [ordsK]
      | succ j ihj =>
        rw [ordsK_succ, List.length_append, Nat.succ_mul]
        have := ih (l ++ [(j : Int)])
        split <;> simp <;> omega
    have h1 := key n.hs.length
    have : n.hs.length * 6 ^ k ≤ 6 * 6 ^ k := Nat.mul_le_mul_right _ h6
    rw [Nat.pow_succ, Nat.mul_comm]
    exact Nat.le_trans h1 this

/-- What 'Orders' returns. -/
def OrdPost (w : World) (L : List (List Int)) (e : Ending) (w' : World) : Prop := ∃ (A : Option Addr) (c : Nat) (δ : World), e = .returned (.slice A L.length c) ∧ w' = lat w δ ∧ SlS 3 encI (lat w δ) A c L

set_option maxHeartbeats 4000000 in
theorem orders0_c (r : NetR) (n : Net) (f : List Int) (A : Option Addr) (c : Nat) (B : Nat) (w : World) [hB : Le B w] (h : NetIs B w r n) (hf : Slt 3 encI w.heap.size w A c f) (hl : f.length = n.hs.length) :
    Calls Try.prog 67 #[netV r n, .slice A f.length c] w (OrdPost w (ords n 0 f)) := by
  have hE : ((f.length : Int) == (n.hs.length : Int)) = true := by simp; omega
  have l1 := hf.plain.len
  clear hl
  go_enter Try.func67, Try.ntmps67
  go_wp2_with (fail)
  go_ret
  have hsub : Slt 3 encI ((w.alloc (.cells #[.int .i64 n.m, .slice r.hA n.hs.length r.hc, .slice r.pA n.ps.length r.pc] 25)).alloc (.cells #[.slice A f.length c] 30)).heap.size ((w.alloc (.cells #[.int .i64 n.m, .slice r.hA n.hs.length r.hc, .slice r.pA n.ps.length r.pc] 25)).alloc (.cells #[.slice A f.length c] 30)) A c f := hf.wide
  refine ⟨some ⟨w.heap.size + 1, 0, none⟩, 1, _, rfl, lat_def, ?_⟩
  rw [← lat_def (w := w) (W := (w.alloc (.cells #[.int .i64 n.m, .slice r.hA n.hs.length r.hc, .slice r.pA n.ps.length r.pc] 25)).alloc (.cells #[.slice A f.length c] 30))]
  exact ⟨Nat.le_refl _, by omega, [.slice A f.length c], cells_one (by go_simp) (by go_simp), Subs.one hsub⟩

/-- The contract of 'Orders' where m more are to come. -/
def OrdC (n : Net) (m : Nat) : Prop := ∀ (r : NetR) (f : List Int) (A : Option Addr) (c : Nat) (B : Nat) (w : World), Le B w → NetIs B w r n → Slt 3 encI w.heap.size w A c f → f.length + m = n.hs.length → ∀ ln : Nat, f.length = ln →
  Calls Try.prog 67 #[netV r n, .slice A ln c] w (OrdPost w (ords n m f))

set_option maxRecDepth 100000 in
set_option maxHeartbeats 8000000 in
theorem ordersS_c (n : Net) (m : Nat) (h6 : n.hs.length ≤ 6) (IH : OrdC n m) : OrdC n (m + 1) := by
  intro r f A c B w hB h hf hfl ln hln
  subst hln
  have l1 := hf.plain.len
  have l2 := h.1.len
  have hne : ((f.length : Int) == (n.hs.length : Int)) = false := by simp; omega
  have hF := Lib.hid (show ords n (m + 1) f = ordsK n m f n.hs.length from rfl)
  have hpw : 6 ^ m ≤ 7776 := by
    have : 6 ^ m ≤ 6 ^ 5 := Nat.pow_le_pow_right (by omega) (by omega)
    omega
  have hfl6 : f.length ≤ 6 := by omega
  have HFL := Lib.hid hfl
  have HIH := Lib.hid IH
  have H := Lib.hid h
  clear hfl IH h
  go_enter Try.func67, Try.ntmps67
  go_wp2_with (fail)
  refine wp_name fun W1 hW1 => ?_
  have iw1 : Le B W1 := by rw [hW1.out]; infer_instance
  have iw2 : Grew B w W1 := by rw [hW1.out]; infer_instance
  have iw3 : Le w.heap.size W1 := by rw [hW1.out]; infer_instance
  have iw4 : Grew w.heap.size w W1 := by rw [hW1.out]; infer_instance
  have iw5 : Lt (w.heap.size) W1 := by rw [hW1.out]; infer_instance
  have cw6 : W1.cell? ⟨w.heap.size, 0, none⟩ = some (.int .i64 n.m) := by rw [hW1.out]; go_simp
  have cw7 : W1.cell? ⟨w.heap.size, 1, none⟩ = some (.slice r.hA n.hs.length r.hc) := by rw [hW1.out]; go_simp
  have cw8 : W1.cell? ⟨w.heap.size, 2, none⟩ = some (.slice r.pA n.ps.length r.pc) := by rw [hW1.out]; go_simp
  have g1 : NetIs B W1 r n := H.out.up
  have g2 : Slt 3 encI W1.heap.size W1 A c f := hf.wide
  have G1 := Lib.hid g1
  have G2 := Lib.hid g2
  clear g1 g2 hf
  go_loopw [5, 6] (fun o g wr => ∃ (k c' : Nat) (A' : Option Addr) (cs : List Value) (L : List (List Int)), k ≤ n.hs.length ∧ g = .int .i64 k ∧ Hid (L = ordsK n m f k) ∧ L.length ≤ k * 6 ^ m ∧ o = .slice A' L.length c' ∧ wr.ownsRow W1.heap.size 30 1 (.slice A' L.length c') L.length cs ∧ Subs 3 encI wr cs L ∧ Grew W1.heap.size W1 wr ∧ Le W1.heap.size wr) (fun _ g _ => (n.hs.length - (intOf g).toNat))
  case atStart => exact ⟨0, 0, none, [], [], Nat.zero_le _, rfl, by simp [ordsK, Hid], by simp, rfl, World.ownsRow_nil _ _ _ _, Subs.nil, inferInstance, inferInstance⟩
  case round =>
    obtain ⟨k, c', A', cs, L, hk, rfl, hL, hLl, rfl, hown, hsub, i1, i2⟩ := hrel
    have hcell : ∀ b o, b < W1.heap.size → wr.cell? ⟨b, o, none⟩ = W1.cell? ⟨b, o, none⟩ := cells_same i1.out
    have i3 : Lt w.heap.size wr := ⟨Nat.lt_of_lt_of_le iw5.out i2.out⟩
    have i5 : Le B wr := ⟨Nat.le_trans iw1.out i2.out⟩
    have i6 : Grew B w wr := ⟨⟨i1.out.1.trans iw2.out.1, i1.out.2.1.trans iw2.out.2.1, i1.out.2.2.1.trans iw2.out.2.2.1, fun b hb => (i1.out.2.2.2 b (Nat.lt_of_lt_of_le hb iw1.out)).trans (iw2.out.2.2.2 b hb)⟩⟩
    have i7 : Grew B W1 wr := ⟨⟨i1.out.1, i1.out.2.1, i1.out.2.2.1, fun b hb => i1.out.2.2.2 b (Nat.lt_of_lt_of_le hb iw1.out)⟩⟩
    have HO := Lib.hid hown
    have HS := Lib.hid hsub
    clear hown hsub
    by_cases hlt' : k < n.hs.length
    · have hki : (k : Int) < (n.hs.length : Int) := by omega
      have hbd : k * 6 ^ m ≤ 50000 := by
        have := Nat.mul_le_mul (show k ≤ 6 by omega) hpw
        omega
      have hgl := ords_len h6 m (f ++ [(k : Int)])
      have hsc := Lib.hid (ordsK_succ (n := n) (m := m) (f := f) (j := k))
      by_cases hm : may n f (k : Int) = true
      · have HM := Lib.hid hm
        clear hm
        go_wp2_with (go_at_call 60; refine (rMay_c r n _ _ _ _ f _ HM.out W1.heap.size _ G2.out.up.plain (G1.out.more iw1.out).up rfl).mono ?_; rintro e w1 ⟨rfl, δm, rfl⟩)
        go_goals
        go_region_held3 (fun W => W.cell? ⟨w.heap.size, 0, none⟩ = some (.int .i64 n.m) ∧ W.cell? ⟨w.heap.size, 1, none⟩ = some (.slice r.hA n.hs.length r.hc) ∧ W.cell? ⟨w.heap.size, 2, none⟩ = some (.slice r.pA n.ps.length r.pc))
          (refine ⟨?_, ?_, ?_⟩ <;> go_simp)
          (first
            | (refine step_append_lit wr slI (.tmp 28) (.tmp 29) rfl rfl (v := .slice (some ⟨_, 0, none⟩) 0 0) (by first | exact own_lit0 (by go_simp) (by go_simp) | exact (own_lit0 (by go_simp) (by go_simp)).alloc _) rfl (B := W1.heap.size) (A := A) (m := f.length) (c := c) (news := f.flatMap encI) rfl (G2.out.up.plain.2.2) (len_enc encI 1 (fun _ => rfl) f) (one_enc encI one_int f) (by omega) (by omega) ?_; intro A1 c1 δ1 own1 hg1)
            | ((refine step_append_cells wr slI (.tmp 30) (.tmp 32) rfl rfl (v := .slice A1 f.length c1) (n := f.length) (xs := f.flatMap encI) (by first | exact own1 | exact own1.alloc _ ) rfl (m := 1) (c := 1) (news := [.int .i64 (k : Int)]) rfl (cells_one (by first | (go_simp; done) | (refine hg1.cell (by go_simp) (by simp [Value.ownBlock]))) (Nat.lt_succ_self _)) rfl (by simp [Value.oneCell']) (by omega) (by omega) ?_); intro A2 c2 δ2 own2 hg2)
            | (go_at_call 67; refine (HIH.out r (f ++ [(k : Int)]) A2 c2 B _ inferInstance G1.out.up (Slt.of_own (by rw [List.flatMap_append]; exact own2) (by simp)) (by have := HFL.out; simp; omega) (f.length + 1) (by simp)).mono ?_; rintro e w1 ⟨A3, c3, δ3, rfl, rfl, hq1, hq2, cs3, hc3, hs3⟩)
            | (refine step_append_cells W1 slLL (.tmp 26) (.tmp 34) rfl rfl (v := .slice A' L.length c') (n := L.length) (xs := cs) (owns_up HO.out) rfl (A := A3) (m := (ords n m (f ++ [(k : Int)])).length) (c := c3) (news := cs3) rfl hc3 (by have := hs3.1; omega) hs3.oneCell (by omega) (by omega) ?_; intro A4 c4 δ4 own4 hg4))
        all_goals
          go_wp2_with (fail)
          go_roundw
          case rel =>
            refine ⟨k + 1, c4, A4, cs ++ cs3, L ++ ords n m (f ++ [(k : Int)]), by omega, by go_num, ?_, ?_, by rw [List.length_append], by rw [List.length_append]; exact own4, (HS.out.up.append hs3).grown (owns_up HO.out) hg4 (by decide), inferInstance, inferInstance⟩
            · unfold Hid
              rw [hsc.out, HM.out, ← hL.out]
              simp
            · rw [List.length_append, Nat.succ_mul]; omega
          case measure => simp [intOf]; omega
      · rw [Bool.not_eq_true] at hm
        have HM := Lib.hid hm
        clear hm
        go_wp2_with (go_at_call 60; refine (rMay_c r n _ _ _ _ f _ HM.out W1.heap.size _ G2.out.up.plain (G1.out.more iw1.out).up rfl).mono ?_; rintro e w1 ⟨rfl, δm, rfl⟩)
        go_roundw
        case rel =>
          refine ⟨k + 1, c', A', cs, L, by omega, by go_num, ?_, by rw [Nat.succ_mul]; omega, rfl, owns_up HO.out, HS.out.up, inferInstance, inferInstance⟩
          unfold Hid
          rw [hsc.out, HM.out, ← hL.out]
          simp
        case measure => simp [intOf]; omega
    · obtain rfl : k = n.hs.length := by omega
      have HF := Lib.hid (show ords n (m + 1) f = L by rw [hF.out, hL.out])
      go_wp2_with (fail)
      go_ret
      rw [HF.out]
      have i8 : Grew w.heap.size w wr := ⟨⟨i1.out.1.trans iw4.out.1, i1.out.2.1.trans iw4.out.2.1, i1.out.2.2.1.trans iw4.out.2.2.1, fun b hb => (i1.out.2.2.2 b (Nat.lt_of_lt_of_le hb iw3.out)).trans (iw4.out.2.2.2 b hb)⟩⟩
      have i9 : Le w.heap.size wr := ⟨Nat.le_trans iw3.out i2.out⟩
      refine ⟨A', c', wr, rfl, lat_def, ?_⟩
      rw [← lat_def (w := w) (W := wr)]
      exact SlS.of_own HO.out HS.out rfl

theorem orders_C (n : Net) (h6 : n.hs.length ≤ 6) (m : Nat) : OrdC n m := by
  induction m with
  | zero =>
    intro r f A c B w hB h hf hl ln hln
    subst hln
    exact orders0_c r n f A c B w h hf (by omega)
  | succ m ih => exact ordersS_c n m h6 ih
theorem rOrders_c (r : NetR) (n : Net) (B : Nat) (w : World) [hB : Le B w] (h : NetIs B w r n) (h6 : n.hs.length ≤ 6) :
    Calls Try.prog 67 #[netV r n, .slice none 0 0] w (OrdPost w (allO n)) :=
  orders_C n h6 n.hs.length r [] none 0 B w hB h Slt.none_ (by simp) 0 rfl

end Go.Proofs.Ytbfehifidlojlaa
